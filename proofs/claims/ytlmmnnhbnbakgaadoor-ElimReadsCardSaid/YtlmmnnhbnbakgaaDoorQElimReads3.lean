/-
  Walks of functions that the laws of this seat reach, as contracts.
  elim.Bytes and From, walked.
  The reference's matrix: Bytes; elim.Row; what a matrix is like, walked.
  Matrices, reduced: what is spanned, the order of adding, sums of pieces; plain.
  Sums of pieces, plain.
  elim.Says, walked; sums of the pieces of ElimSpans, plain.
  A matrix is as the page has it (downpourlaw6.like), walked.
  downpourlaw6.ElimPlays, walked.
  The reference's matrix out of bytes: FromMatrix, walked.
  Bytes that no matrix is written as: FromMatrix and elim.From tell so, walked.
  Conditions: those that stand in each theorem.
-/
import Derived.Test.YtlmmnnhbnbakgaaDoorQElimReads1
import Derived.Test.YtlmmnnhbnbakgaaDoorQElimReads2
set_option linter.unusedVariables false
set_option linter.unusedSimpArgs false
namespace Go.Dp
open Go.RowKit Go.Proofs

theorem slices_Equal (H : List Hl) (ad ad' : Option Addr) (c c' : Nat) (l m : List (BitVec 8)) (h1 : Rs (stars H) B ad c l) (h2 : Rs (stars H) B ad' c' m) :
    Spec Tryd.prog 64 [.slice ad l.length c, .slice ad' m.length c'] H (fun _ : Unit => True) (fun _ => .bool (decide (l = m))) (fun _ => H) := by
  have b1 := h1.le
  have b2 := h1.big
  refine spec_pure (res := fun _ => []) H Tryd.func64 rfl Tryd.ntmps64 (by kernel_rfl) rfl (fun W => ?_)
  repeat' (first | refine ls_of rfl ?_ | refine ls_of_no ?_ | refine ls_guard_yes rfl rfl ?_ | refine ls_guard_no rfl rfl rfl rfl ?_ | refine ls_guard_un rfl rfl rfl ?_ | refine o1_move rfl ?_ | refine o1_assign rfl ?_ | refine st_seq ?_ | refine st_region ?_ | refine st_block ?_ | refine st_skip ?_ | refine st_ret ?_ | refine st_exit ?_ | refine st_cond_t rfl ?_ | refine st_cond_f rfl ?_ | refine st_cond rfl (fun _ => ?_) (fun _ => ?_) | refine ls_nil ?_ | refine nx_seq ?_ | refine nx_blk ?_ | refine nx_fn ?_ | refine nx_rounds ?_ | refine xt_seq ?_ | refine xt_here ?_ | refine xt_on rfl ?_ | refine xt_rounds ?_ | refine xt_cut ?_ | refine rt_seq ?_ | refine rt_blk ?_ | refine rt_rounds ?_ | refine rt_cut ?_ | refine ox_load rfl (by rfl) ?_ | refine ox_load_enc rfl (by first | omega | (simp; omega)) ?_ | refine ox_load_any rfl (by assumption) ?_ | refine o1_len rfl ?_ | refine o1_add rfl rfl (by omega) ?_ | refine o1_lss_t rfl rfl (by omega) ?_ | refine o1_lss_f rfl rfl (by omega) ?_ | refine o1_lss rfl rfl (fun _ => ?_) (fun _ => ?_) | refine o1_neq_t rfl rfl (by omega) ?_ | refine o1_neq_f rfl rfl (by omega) ?_ | refine o1_neq rfl rfl (fun _ => ?_) (fun _ => ?_))
  · rename_i hlen
    refine rt_tmp () rfl rfl ?_ trivial (Ent.refl _)
    simp; intro e; subst e; omega
  rename_i hlen
  have hlen : l.length = m.length := by omega
  refine st_loop (S := Nat) (fun i => [(0, .slice ad l.length c), (1, .slice ad' m.length c'), (12, .int .i64 l.length), (13, .int .i64 i)]) (fun _ => [.any (stars H)]) (fun i => i ≤ l.length ∧ l.take i = m.take i) (fun i => l.length - i) 0 ⟨by omega, by simp⟩
    (cov_cons rfl rfl (cov_cons rfl rfl (cov_cons rfl rfl (cov_cons rfl rfl cov_nil)))) (Ent.refl _) ?_
  rintro i ⟨hi, hpre⟩
  repeat' (first | refine ls_of rfl ?_ | refine ls_of_no ?_ | refine ls_guard_yes rfl rfl ?_ | refine ls_guard_no rfl rfl rfl rfl ?_ | refine ls_guard_un rfl rfl rfl ?_ | refine o1_move rfl ?_ | refine o1_assign rfl ?_ | refine st_seq ?_ | refine st_region ?_ | refine st_block ?_ | refine st_skip ?_ | refine st_ret ?_ | refine st_exit ?_ | refine st_cond_t rfl ?_ | refine st_cond_f rfl ?_ | refine st_cond rfl (fun _ => ?_) (fun _ => ?_) | refine ls_nil ?_ | refine nx_seq ?_ | refine nx_blk ?_ | refine nx_fn ?_ | refine nx_rounds ?_ | refine xt_seq ?_ | refine xt_here ?_ | refine xt_on rfl ?_ | refine xt_rounds ?_ | refine xt_cut ?_ | refine rt_seq ?_ | refine rt_blk ?_ | refine rt_rounds ?_ | refine rt_cut ?_ | refine ox_load rfl (by rfl) ?_ | refine ox_load_enc rfl (by first | omega | (simp; omega)) ?_ | refine ox_load_any rfl (by assumption) ?_ | refine o1_len rfl ?_ | refine o1_add rfl rfl (by omega) ?_ | refine o1_lss_t rfl rfl (by omega) ?_ | refine o1_lss_f rfl rfl (by omega) ?_ | refine o1_lss rfl rfl (fun _ => ?_) (fun _ => ?_) | refine o1_neq_t rfl rfl (by omega) ?_ | refine o1_neq_f rfl rfl (by omega) ?_ | refine o1_neq rfl rfl (fun _ => ?_) (fun _ => ?_))
  · rename_i hlt
    have hlt : i < l.length := by omega
    apply st_draw [(0, _), (5, _), (1, _)] [.c _, .c _, .p (fun v => ∃ a, v = .pointer (some a) ∧ Cl (stars H) a (B l[i])) (fun _ => []), .c _, .c _, .c _, .p (fun v => ∃ a, v = .pointer (some a) ∧ Cl (stars H) a (B m[i])) (fun _ => []), .c _, .c _] [⟨some 16, [], [], none⟩, ⟨some 17, [], [], none⟩, ⟨some 18, [0, 1], [0, 1], none⟩, ⟨some 19, [2], [0, 1, 2], none⟩, ⟨some 20, [], [], none⟩, ⟨some 21, [], [], none⟩, ⟨some 22, [4, 5], [4, 5], none⟩, ⟨some 23, [6], [4, 5, 6], none⟩, ⟨some 24, [3, 7], [0, 1, 2, 3, 4, 5, 6, 7], none⟩] mixed (cov_cons rfl rfl (cov_cons rfl rfl (cov_cons rfl rfl cov_nil))) (by kernel_rfl) (by kernel_rfl) (by kernel_rfl) (obl_cons ?d6_o0 (obl_cons ?d6_o1 (obl_cons ?d6_o2 (obl_cons ?d6_o3 (obl_cons ?d6_o4 (obl_cons ?d6_o5 (obl_cons ?d6_o6 (obl_cons ?d6_o7 (obl_cons ?d6_o8 obl_nil))))))))) ?d6_nx
    case d6_o0 => refine obl_run rfl (gd_none rfl) (fun _ => ?_); refine allv_nil ?_; dsimp only [List.cons_append, List.nil_append, List.singleton_append, List.append_nil, blk]; (first | refine o1_move rfl ?_); all_goals (exact ⟨rfl, fun _ h => h⟩)
    case d6_o1 => refine obl_run rfl (gd_none rfl) (fun _ => ?_); refine allv_nil ?_; dsimp only [List.cons_append, List.nil_append, List.singleton_append, List.append_nil, blk]; (first | refine o1_move rfl ?_); all_goals (exact ⟨rfl, fun _ h => h⟩)
    case d6_o2 => refine obl_run rfl (gd_none rfl) (fun _ => ?_); refine allv_c rfl rfl ?_; refine allv_c rfl rfl ?_; refine allv_nil ?_; dsimp only [List.cons_append, List.nil_append, List.singleton_append, List.append_nil, blk]; (refine o1_indexAddr_rd rfl rfl h1 i rfl hlt (fun a ha => ⟨⟨a, rfl, ha⟩, fun _ h => h⟩)); all_goals (first | exact ⟨⟨rfl⟩, fun _ h => h⟩ | exact ⟨⟨_, rfl⟩, fun _ h => h⟩ | exact ⟨⟨_, _, rfl⟩, fun _ h => h⟩ | exact ⟨⟨_, _, _, rfl⟩, fun _ h => h⟩)
    case d6_o3 => refine obl_run rfl (gd_none rfl) (fun _ => ?_); refine allv_c rfl rfl ?_; refine allv_c rfl rfl ?_; refine allv_p rfl rfl ?_; rintro _ ⟨_,rfl,_⟩; refine allv_nil ?_; dsimp only [List.cons_append, List.nil_append, List.singleton_append, List.append_nil, blk]; (first | refine ox_load rfl (by rfl) ?_ | refine ox_load_enc rfl (by first | omega | (simp; omega)) ?_ | refine ox_load_any rfl (by assumption) ?_); all_goals (exact ⟨rfl, fun _ h => h⟩)
    case d6_o4 => refine obl_run rfl (gd_none rfl) (fun _ => ?_); refine allv_nil ?_; dsimp only [List.cons_append, List.nil_append, List.singleton_append, List.append_nil, blk]; (first | refine o1_move rfl ?_); all_goals (exact ⟨rfl, fun _ h => h⟩)
    case d6_o5 => refine obl_run rfl (gd_none rfl) (fun _ => ?_); refine allv_nil ?_; dsimp only [List.cons_append, List.nil_append, List.singleton_append, List.append_nil, blk]; (first | refine o1_move rfl ?_); all_goals (exact ⟨rfl, fun _ h => h⟩)
    case d6_o6 => refine obl_run rfl (gd_none rfl) (fun _ => ?_); refine allv_c rfl rfl ?_; refine allv_c rfl rfl ?_; refine allv_nil ?_; dsimp only [List.cons_append, List.nil_append, List.singleton_append, List.append_nil, blk]; (refine o1_indexAddr_rd rfl rfl h2 i rfl (by omega) (fun a ha => ⟨⟨a, rfl, ha⟩, fun _ h => h⟩)); all_goals (first | exact ⟨⟨rfl⟩, fun _ h => h⟩ | exact ⟨⟨_, rfl⟩, fun _ h => h⟩ | exact ⟨⟨_, _, rfl⟩, fun _ h => h⟩ | exact ⟨⟨_, _, _, rfl⟩, fun _ h => h⟩)
    case d6_o7 => refine obl_run rfl (gd_none rfl) (fun _ => ?_); refine allv_c rfl rfl ?_; refine allv_c rfl rfl ?_; refine allv_p rfl rfl ?_; rintro _ ⟨_,rfl,_⟩; refine allv_nil ?_; dsimp only [List.cons_append, List.nil_append, List.singleton_append, List.append_nil, blk]; (first | refine ox_load rfl (by rfl) ?_ | refine ox_load_enc rfl (by first | omega | (simp; omega)) ?_ | refine ox_load_any rfl (by assumption) ?_); all_goals (exact ⟨rfl, fun _ h => h⟩)
    case d6_o8 => refine obl_run rfl (gd_none rfl) (fun _ => ?_); refine allv_c rfl rfl ?_; refine allv_c rfl rfl ?_; refine allv_p rfl rfl ?_; rintro _ ⟨_,rfl,_⟩; refine allv_c rfl rfl ?_; refine allv_c rfl rfl ?_; refine allv_c rfl rfl ?_; refine allv_p rfl rfl ?_; rintro _ ⟨_,rfl,_⟩; refine allv_c rfl rfl ?_; refine allv_nil ?_; dsimp only [List.cons_append, List.nil_append, List.singleton_append, List.append_nil, blk]; (first | refine o1_neq_t rfl rfl (by omega) ?_ | refine o1_neq_f rfl rfl (by omega) ?_ | refine o1_neq_d rfl rfl ?_); all_goals (exact ⟨rfl, fun _ h => h⟩)
    case d6_nx =>
      refine allv_c rfl rfl ?_; refine allv_c rfl rfl ?_; refine allv_p rfl rfl ?_; rintro _ ⟨_,rfl,_⟩; refine allv_c rfl rfl ?_; refine allv_c rfl rfl ?_; refine allv_c rfl rfl ?_; refine allv_p rfl rfl ?_; rintro _ ⟨_,rfl,_⟩; refine allv_c rfl rfl ?_; refine allv_c rfl rfl ?_; refine allv_nil ?_; dsimp only [List.cons_append, List.nil_append, List.singleton_append, List.append_nil, blk]
      repeat' (first | refine ls_of rfl ?_ | refine ls_of_no ?_ | refine ls_guard_yes rfl rfl ?_ | refine ls_guard_no rfl rfl rfl rfl ?_ | refine ls_guard_un rfl rfl rfl ?_ | refine o1_move rfl ?_ | refine o1_assign rfl ?_ | refine st_seq ?_ | refine st_region ?_ | refine st_block ?_ | refine st_skip ?_ | refine st_ret ?_ | refine st_exit ?_ | refine st_cond_t rfl ?_ | refine st_cond_f rfl ?_ | refine st_cond rfl (fun _ => ?_) (fun _ => ?_) | refine ls_nil ?_ | refine nx_seq ?_ | refine nx_blk ?_ | refine nx_fn ?_ | refine nx_rounds ?_ | refine xt_seq ?_ | refine xt_here ?_ | refine xt_on rfl ?_ | refine xt_rounds ?_ | refine xt_cut ?_ | refine rt_seq ?_ | refine rt_blk ?_ | refine rt_rounds ?_ | refine rt_cut ?_ | refine ox_load rfl (by rfl) ?_ | refine ox_load_enc rfl (by first | omega | (simp; omega)) ?_ | refine ox_load_any rfl (by assumption) ?_ | refine o1_len rfl ?_ | refine o1_add rfl rfl (by omega) ?_ | refine o1_lss_t rfl rfl (by omega) ?_ | refine o1_lss_f rfl rfl (by omega) ?_ | refine o1_lss rfl rfl (fun _ => ?_) (fun _ => ?_) | refine o1_neq_t rfl rfl (by omega) ?_ | refine o1_neq_f rfl rfl (by omega) ?_ | refine o1_neq rfl rfl (fun _ => ?_) (fun _ => ?_))
      · rename_i hne
        refine rt_tmp () rfl rfl ?_ trivial (Ent.refl _)
        simp at hne ⊢
        rintro rfl
        exact hne rfl
      · rename_i heq
        simp at heq
        refine nx_again (i + 1) ⟨by omega, ?_⟩ (by omega) (cov_cons rfl rfl (cov_cons rfl rfl (cov_cons rfl rfl (cov_cons rfl rfl cov_nil)))) (Ent.refl _)
        rw [List.take_succ_eq_append_getElem hlt, List.take_succ_eq_append_getElem (by omega : i < m.length), hpre, BitVec.eq_of_toNat_eq (by omega : l[i].toNat = m[i].toNat)]
  · refine rt_tmp () rfl rfl ?_ trivial (Ent.refl _)
    have : i = l.length := by omega
    subst this
    rw [List.take_length, List.take_of_length_le (by omega)] at hpre
    simp [hpre]
end Go.Dp

set_option linter.unusedVariables false
set_option linter.unusedSimpArgs false
namespace Go.Dp
open Go.RowKit Go.Proofs
def rtX2_0 : List Row := [⟨some 11, [], [], none⟩, ⟨some 12, [0], [0], none⟩, ⟨some 13, [1], [0, 1], none⟩, ⟨some 14, [2], [0, 1, 2], none⟩, ⟨some 15, [3], [0, 1, 2, 3], none⟩, ⟨some 16, [4], [0, 1, 2, 3, 4], none⟩, ⟨some 17, [], [], none⟩, ⟨some 18, [6], [6], none⟩, ⟨some 19, [7], [6, 7], none⟩, ⟨some 20, [8], [6, 7, 8], none⟩, ⟨some 21, [9], [6, 7, 8, 9], none⟩, ⟨some 22, [], [], none⟩, ⟨some 23, [11], [11], none⟩, ⟨some 24, [12], [11, 12], none⟩, ⟨some 25, [], [], none⟩, ⟨some 26, [14], [14], none⟩, ⟨some 27, [5, 10, 13, 15], [0, 1, 2, 3, 4, 5, 6, 7, 8, 9, 10, 11, 12, 13, 14, 15], none⟩, ⟨some 4, [16, 0, 1, 2, 3, 4, 5, 6, 7, 8, 9, 10, 11, 12, 13, 14, 15, 16], [0, 1, 2, 3, 4, 5, 6, 7, 8, 9, 10, 11, 12, 13, 14, 15, 16], none⟩]
def rtX2_1 : List Row := [⟨some 39, [], [], none⟩, ⟨some 40, [], [], none⟩, ⟨some 41, [1], [1], none⟩, ⟨some 42, [2], [1, 2], none⟩, ⟨some 43, [3], [1, 2, 3], none⟩, ⟨some 44, [4], [1, 2, 3, 4], none⟩, ⟨some 45, [0, 5, 5], [0, 1, 2, 3, 4, 5], none⟩, ⟨some 46, [], [], none⟩, ⟨some 47, [7], [7], none⟩, ⟨some 48, [8], [7, 8], none⟩, ⟨some 49, [9], [7, 8, 9], none⟩, ⟨some 50, [6, 10, 6], [0, 1, 2, 3, 4, 5, 6, 7, 8, 9, 10], none⟩, ⟨some 4, [11, 11, 0, 1, 2, 3, 4, 5, 6, 7, 8, 9, 10, 11], [0, 1, 2, 3, 4, 5, 6, 7, 8, 9, 10, 11], none⟩]
def rtX2_2 : List Row := [⟨some 12, [], [], none⟩, ⟨some 13, [0], [0], none⟩, ⟨some 14, [1], [0, 1], none⟩, ⟨some 15, [2], [0, 1, 2], none⟩, ⟨some 16, [3], [0, 1, 2, 3], none⟩, ⟨some 17, [], [], none⟩, ⟨some 18, [5], [5], none⟩, ⟨some 19, [6], [5, 6], none⟩, ⟨some 20, [7], [5, 6, 7], none⟩, ⟨some 21, [4, 8], [0, 1, 2, 3, 4, 5, 6, 7, 8], none⟩, ⟨some 4, [9, 9, 0, 1, 2, 3, 4, 5, 6, 7, 8, 9], [0, 1, 2, 3, 4, 5, 6, 7, 8, 9], none⟩]
def rtX2_3 : List Row := [⟨some 50, [], [], none⟩, ⟨some 51, [0], [0], none⟩, ⟨some 52, [1], [0, 1], none⟩, ⟨some 53, [2], [0, 1, 2], none⟩, ⟨some 54, [], [], none⟩, ⟨some 55, [], [], none⟩, ⟨some 56, [4, 5], [4, 5], none⟩, ⟨some 57, [3, 6], [0, 1, 2, 3, 4, 5, 6], none⟩, ⟨some 49, [7], [0, 1, 2, 3, 4, 5, 6, 7], none⟩, ⟨some 58, [8], [0, 1, 2, 3, 4, 5, 6, 7, 8], none⟩, ⟨some 59, [8], [0, 1, 2, 3, 4, 5, 6, 7, 8], none⟩, ⟨some 7, [9, 7, 0, 1, 2, 3, 4, 5, 6, 7, 8, 9], [0, 1, 2, 3, 4, 5, 6, 7, 8, 9], none⟩, ⟨some 8, [10, 11, 0, 1, 2, 3, 4, 5, 6, 7, 8, 9, 10, 11], [0, 1, 2, 3, 4, 5, 6, 7, 8, 9, 10, 11], none⟩]
theorem rowsB_take {M : List (Option LN)} {i : Nat} (hi : i < M.length) : rowsB (M.take (i + 1)) = rowsB (M.take i) ++ lineB M[i] := by
  unfold rowsB
  rw [List.take_succ_eq_append_getElem hi, List.flatMap_append, List.flatMap_singleton]
set_option maxHeartbeats 4000000 in
theorem elim_Bytes (H : List Hl) (bm n z : Nat) (ar : Option Addr) (cr k : Nat) (M : List (Option RD)) (ML : List (Option LN)) (R : List (BitVec 8)) (hM : RdM (stars H) bm n z ar cr k M) (hML : M.map vw = ML) (hR : matB n z k ML = R) (hk : k ≤ 1000) :
    Spec Tryd.prog 41 [.pointer (some ⟨bm, 0, none⟩)] H (fun _ : Option Addr × Nat => True) (fun r => .slice r.1 R.length r.2) (fun r => .row 5 1 (.slice r.1 R.length r.2) R.length (R.map B) :: H) := by
  refine spec_pure (res := fun r : Option Addr × Nat => [.row 5 1 (.slice r.1 R.length r.2) R.length (R.map B)]) H Tryd.func41 rfl Tryd.ntmps41 (by kernel_rfl) rfl (fun W => ?_)
  obtain ⟨l1, l2, l3, l4, l5, l6⟩ := hM.ok
  have m1 := hM.fn
  have m2 := hM.fz
  have m3 := hM.fs
  have hMLl : ML.length = n := by rw [← hML, List.length_map, l1]
  have hlok := hM.ok.vw
  rw [hML] at hlok
  have hnb : nb n ≤ 32 := by unfold nb; omega
  have hrl : ∀ i, i ≤ n → (headB n z k ++ rowsB (ML.take i)).length ≤ 4 + i * 48 := fun i hi => by
    have h1 := rowsB_len (n := n) (z := z) (M := ML.take i) (fun y hy => hlok.ok y (List.mem_of_mem_take hy))
    have h2 := cntS_le (ML.take i)
    rw [List.length_take] at h2
    have h3 : cntS (ML.take i) * (nb n + z) ≤ i * 48 := Nat.mul_le_mul (by omega) (by omega)
    rw [List.length_append, h1]
    simp only [headB, List.length_cons, List.length_nil]
    omega
  repeat' (first | refine ls_of rfl ?_ | refine ls_of_no ?_ | refine ls_guard_yes rfl rfl ?_ | refine ls_guard_no rfl rfl rfl rfl ?_ | refine ls_guard_un rfl rfl rfl ?_ | refine o1_move rfl ?_ | refine o1_assign rfl ?_ | refine st_seq ?_ | refine st_region ?_ | refine st_block ?_ | refine st_skip ?_ | refine st_ret ?_ | refine st_exit ?_ | refine st_cond_t rfl ?_ | refine st_cond_f rfl ?_ | refine st_cond rfl (fun _ => ?_) (fun _ => ?_) | refine ls_nil ?_ | refine nx_seq ?_ | refine nx_blk ?_ | refine nx_fn ?_ | refine nx_rounds ?_ | refine xt_seq ?_ | refine xt_here ?_ | refine xt_on rfl ?_ | refine xt_rounds ?_ | refine xt_cut ?_ | refine rt_seq ?_ | refine rt_blk ?_ | refine rt_rounds ?_ | refine rt_cut ?_ | refine o1_peql rfl rfl ?_ | refine o1_call (fun _ => elim_Rank _ bm k (cl_up hM.fk)) rfl (fun _ _ => ?_) | refine o1_fieldAddr rfl ?_ | refine ox_load rfl (by rfl) ?_ | refine ox_load_enc rfl (by first | omega | (simp; omega)) ?_ | refine ox_load_any rfl (by assumption) ?_ | refine o1_len rfl ?_ | refine o1_add rfl rfl (by omega) ?_ | refine o1_sub rfl rfl (by omega) ?_ | refine o1_lss_t rfl rfl (by omega) ?_ | refine o1_lss_f rfl rfl (by omega) ?_ | refine o1_lss rfl rfl (fun _ => ?_) (fun _ => ?_) | refine o1_ushr rfl rfl (by omega) ?_ | refine o1_conv_iu rfl ?_ | refine o1_slice_nil rfl ?_ | refine o1_lit_B rfl rfl rfl rfl rfl (fun _ => ?_) | refine ox_append rfl rfl (rx_box rfl (by first | decide | omega)) rfl rfl (fun _ => rfl) (by omega) (by omega) (fun _ _ => ?_) | refine ox_append rfl rfl (rx_any (by assumption)) rfl rfl (fun _ => rfl) (by omega) (by omega) (fun _ _ => ?_) | refine ox_append rfl rfl rx_row rfl rfl (fun _ => rfl) (by omega) (by omega) (fun _ _ => ?_) | refine o1_nilCheck rfl ?_)
  refine st_stages [(0, _), (3, _)] rtX2_0 [16] [⟨[0, 1, 2, 3, 4, 5, 6, 7, 8, 9, 10, 11, 12, 13, 14, 15], [], some 16⟩, ⟨[17], [], none⟩] mixed (cov_cons rfl rfl (cov_cons rfl rfl cov_nil)) (by kernel_rfl) (by kernel_rfl) ?_
  all_goals refine wk_ch ?_
  all_goals (refine xp1 0 rfl rfl rfl rfl (by refine o1_move rfl fz) ?_)
  all_goals (refine xp1 11 rfl rfl rfl rfl (by refine o1_nilCheck rfl fz) ?_)
  all_goals (refine xp1 12 rfl rfl rfl rfl (by refine o1_fieldAddr rfl fz) ?_)
  all_goals (refine xp1 13 rfl rfl rfl rfl (by first | refine ox_load_any rfl m1 fz | refine ox_load_any rfl m2 fz | refine ox_load rfl (by rfl) fz | refine ox_load_enc rfl (by first | omega | (simp; omega)) fz | refine ox_load_any rfl (by assumption) fz) ?_)
  all_goals (refine xp1 14 rfl rfl rfl rfl (by first | refine o1_sub rfl rfl (by omega) fz | refine o1_sub rfl rfl (by omega) fz) ?_)
  all_goals (refine xp1 15 rfl rfl rfl rfl (by first | refine o1_conv_iu rfl fz | refine o1_conv_iu rfl fz) ?_)
  all_goals (refine xp1 0 rfl rfl rfl rfl (by refine o1_move rfl fz) ?_)
  all_goals (refine xp1 17 rfl rfl rfl rfl (by refine o1_nilCheck rfl fz) ?_)
  all_goals (refine xp1 18 rfl rfl rfl rfl (by refine o1_fieldAddr rfl fz) ?_)
  all_goals (refine xp1 19 rfl rfl rfl rfl (by first | refine ox_load_any rfl m1 fz | refine ox_load_any rfl m2 fz | refine ox_load rfl (by rfl) fz | refine ox_load_enc rfl (by first | omega | (simp; omega)) fz | refine ox_load_any rfl (by assumption) fz) ?_)
  all_goals (refine xp1 20 rfl rfl rfl rfl (by first | refine o1_conv_iu rfl fz | refine o1_conv_iu rfl fz) ?_)
  all_goals (refine xp1 3 rfl rfl rfl rfl (by refine o1_move rfl fz) ?_)
  all_goals (refine xp1 22 rfl rfl rfl rfl (by first | refine o1_ishr8 rfl rfl fz | refine o1_ushr rfl rfl (by omega) fz) ?_)
  all_goals (refine xp1 23 rfl rfl rfl rfl (by first | refine o1_conv_iu rfl fz | refine o1_conv_iu rfl fz) ?_)
  all_goals (refine xp1 3 rfl rfl rfl rfl (by refine o1_move rfl fz) ?_)
  all_goals (refine xp1 25 rfl rfl rfl rfl (by first | refine o1_conv_iu rfl fz | refine o1_conv_iu rfl fz) ?_)
  all_goals refine op_nil ?_
  all_goals refine re_nil ?_
  all_goals first | (refine ch_run (E' := [(16, _), (21, _), (24, _), (26, _)]) rfl (gd_r0 rfl) rfl (cov_cons rfl rfl (cov_cons rfl rfl (cov_cons rfl rfl (cov_cons rfl rfl cov_nil)))) ?_; (first | (refine o1_lit_enc B (headB n z k) rfl rfl rfl (fun _ => rfl) rfl rfl rfl (fun b27 => ?_)) | refine o1_lit_B rfl rfl rfl rfl rfl (fun _ => ?_)))
  all_goals refine wk_end ?_
  all_goals (refine xp1 27 rfl rfl rfl rfl (by refine o1_assign rfl fz) ?_)
  all_goals refine op_nil ?_
  all_goals refine re_nil ?_
  all_goals dsimp only [List.cons_append, List.nil_append]
  repeat' (first | refine ls_of rfl ?_ | refine ls_of_no ?_ | refine ls_guard_yes rfl rfl ?_ | refine ls_guard_no rfl rfl rfl rfl ?_ | refine ls_guard_un rfl rfl rfl ?_ | refine o1_move rfl ?_ | refine o1_assign rfl ?_ | refine st_seq ?_ | refine st_region ?_ | refine st_block ?_ | refine st_skip ?_ | refine st_ret ?_ | refine st_exit ?_ | refine st_cond_t rfl ?_ | refine st_cond_f rfl ?_ | refine st_cond rfl (fun _ => ?_) (fun _ => ?_) | refine ls_nil ?_ | refine nx_seq ?_ | refine nx_blk ?_ | refine nx_fn ?_ | refine nx_rounds ?_ | refine xt_seq ?_ | refine xt_here ?_ | refine xt_on rfl ?_ | refine xt_rounds ?_ | refine xt_cut ?_ | refine rt_seq ?_ | refine rt_blk ?_ | refine rt_rounds ?_ | refine rt_cut ?_ | refine ox_load_any rfl m3 ?_ | refine o1_fieldAddr rfl ?_ | refine ox_load rfl (by rfl) ?_ | refine ox_load_enc rfl (by first | omega | (simp; omega)) ?_ | refine ox_load_any rfl (by assumption) ?_ | refine o1_len rfl ?_ | refine o1_add rfl rfl (by omega) ?_ | refine o1_sub rfl rfl (by omega) ?_ | refine o1_lss_t rfl rfl (by omega) ?_ | refine o1_lss_f rfl rfl (by omega) ?_ | refine o1_lss rfl rfl (fun _ => ?_) (fun _ => ?_) | refine o1_ushr rfl rfl (by omega) ?_ | refine o1_conv_iu rfl ?_ | refine o1_slice_nil rfl ?_ | refine o1_lit_B rfl rfl rfl rfl rfl (fun _ => ?_) | refine ox_append rfl rfl (rx_box rfl (by first | decide | omega)) rfl rfl (fun _ => rfl) (by omega) (by omega) (fun _ _ => ?_) | refine ox_append rfl rfl (rx_any (by assumption)) rfl rfl (fun _ => rfl) (by omega) (by omega) (fun _ _ => ?_) | refine ox_append rfl rfl rx_row rfl rfl (fun _ => rfl) (by omega) (by omega) (fun _ _ => ?_) | refine o1_nilCheck rfl ?_)
  refine st_row (T := 5) (b := b27) (m := 4) (cp := 4) (cs := (headB n z k).map B) rfl rfl (by omega) ?_
  refine st_loop (S := Nat × Option Addr × Nat) (fun q => [(4, .slice q.2.1 (headB n z k ++ rowsB (ML.take q.1)).length q.2.2), (31, .slice ar n cr), (32, I n), (33, I q.1)])
    (fun q => [.row 5 1 (.slice q.2.1 (headB n z k ++ rowsB (ML.take q.1)).length q.2.2) (headB n z k ++ rowsB (ML.take q.1)).length ((headB n z k ++ rowsB (ML.take q.1)).map B), .any (stars H)])
    (fun q => q.1 ≤ n) (fun q => n - q.1) (0, some ⟨b27, 0, none⟩, 4) (Nat.zero_le _)
    (cov_cons rfl rfl (cov_cons rfl rfl (cov_cons rfl rfl (cov_cons rfl rfl cov_nil)))) (by show Ent _ [.row 5 1 (.slice (some ⟨b27, 0, none⟩) 4 4) 4 ((headB n z k).map B), .any (stars H)]; (try dsimp only [List.cons_append, List.nil_append, List.singleton_append, List.append_nil]); (repeat (first | exact Ent.nil | exact Ent.refl _ | (apply Ent.cons; (repeat (first | exact Sel.here | apply Sel.there)))))) ?_
  rintro ⟨i, a1, c1⟩ hi
  dsimp only at hi ⊢
  by_cases hlt : i < n
  · have hiM : i < M.length := by omega
    have hiL : i < ML.length := by omega
    have hvi : ML[i] = vw M[i] := by subst hML; simp
    have htk := rowsB_take hiL
    have hl1 := hrl i (by omega)
    obtain ⟨X, hX⟩ : ∃ X, headB n z k ++ rowsB (ML.take i) = X := ⟨_, rfl⟩
    have hnx : headB n z k ++ rowsB (ML.take (i + 1)) = X ++ lineB (vw M[i]) := by rw [htk, ← List.append_assoc, hX, hvi]
    rw [hX] at hl1 ⊢
    cases hMi : M[i] with
    | none =>
      have hnx : headB n z k ++ rowsB (ML.take (i + 1)) = X := by rw [hnx, hMi]; simp [vw, lineB]
      repeat' (first | refine ls_of rfl ?_ | refine ls_of_no ?_ | refine ls_guard_yes rfl rfl ?_ | refine ls_guard_no rfl rfl rfl rfl ?_ | refine ls_guard_un rfl rfl rfl ?_ | refine o1_move rfl ?_ | refine o1_assign rfl ?_ | refine st_seq ?_ | refine st_region ?_ | refine st_block ?_ | refine st_skip ?_ | refine st_ret ?_ | refine st_exit ?_ | refine st_cond_t rfl ?_ | refine st_cond_f rfl ?_ | refine st_cond rfl (fun _ => ?_) (fun _ => ?_) | refine ls_nil ?_ | refine nx_seq ?_ | refine nx_blk ?_ | refine nx_fn ?_ | refine nx_rounds ?_ | refine xt_seq ?_ | refine xt_here ?_ | refine xt_on rfl ?_ | refine xt_rounds ?_ | refine xt_cut ?_ | refine rt_seq ?_ | refine rt_blk ?_ | refine rt_rounds ?_ | refine rt_cut ?_ | refine o1_ia (ad := ar) (c := cr) i rfl rfl hM.fr l1.symm rfl hiM ?_ | (refine o1_load_ia (ad := ar) (c := cr) i rfl hM.fr hiM ?_; rw [hMi]) | refine o1_pneq rfl rfl ?_ | refine o1_fieldAddr rfl ?_ | refine ox_load rfl (by rfl) ?_ | refine ox_load_enc rfl (by first | omega | (simp; omega)) ?_ | refine ox_load_any rfl (by assumption) ?_ | refine o1_len rfl ?_ | refine o1_add rfl rfl (by omega) ?_ | refine o1_sub rfl rfl (by omega) ?_ | refine o1_lss_t rfl rfl (by omega) ?_ | refine o1_lss_f rfl rfl (by omega) ?_ | refine o1_lss rfl rfl (fun _ => ?_) (fun _ => ?_) | refine o1_ushr rfl rfl (by omega) ?_ | refine o1_conv_iu rfl ?_ | refine o1_slice_nil rfl ?_ | refine o1_lit_B rfl rfl rfl rfl rfl (fun _ => ?_) | refine ox_append rfl rfl (rx_box rfl (by first | decide | omega)) rfl rfl (fun _ => rfl) (by omega) (by omega) (fun _ _ => ?_) | refine ox_append rfl rfl (rx_any (by assumption)) rfl rfl (fun _ => rfl) (by omega) (by omega) (fun _ _ => ?_) | refine ox_append rfl rfl rx_row rfl rfl (fun _ => rfl) (by omega) (by omega) (fun _ _ => ?_) | refine o1_nilCheck rfl ?_)
      refine nx_again (i + 1, a1, c1) (by show i + 1 ≤ n; omega) (by show n - (i + 1) < n - i; omega) (cov_cons rfl (by show Value.slice a1 _ c1 = Value.slice a1 (headB n z k ++ rowsB (ML.take (i + 1))).length c1; rw [hnx]) (cov_cons rfl rfl (cov_cons rfl rfl (cov_cons rfl rfl cov_nil)))) ?_
      show Ent _ [.row 5 1 (.slice a1 (headB n z k ++ rowsB (ML.take (i + 1))).length c1) (headB n z k ++ rowsB (ML.take (i + 1))).length ((headB n z k ++ rowsB (ML.take (i + 1))).map B), .any (stars H)]
      rw [hnx]
      (try dsimp only [List.cons_append, List.nil_append, List.singleton_append, List.append_nil]); (repeat (first | exact Ent.nil | exact Ent.refl _ | (apply Ent.cons; (repeat (first | exact Sel.here | apply Sel.there)))))
    | some q =>
      have hqm : some q ∈ M := hMi ▸ List.getElem_mem hiM
      have hq := hM.fm q hqm
      obtain ⟨hq1, hq2, hq3⟩ := l6 q hqm
      have hqp := hq.p
      have hqs := hq.s
      have hqd := hq.d
      have hqz := hq.z
      obtain ⟨V, hV⟩ : ∃ V, bytesV q.v.l = V := ⟨_, rfl⟩
      have hVl : V.length = nb q.v.n := by rw [← hV, bytesV_len, hq1.v.len]
      have hnx : headB n z k ++ rowsB (ML.take (i + 1)) = (X ++ V) ++ q.d := by rw [hnx, hMi]; simp [vw, lineB, hV]
      have hnbq : nb q.v.n ≤ 32 := by rw [hq2]; exact hnb
      have hnl : ((X ++ V) ++ q.d).length = X.length + nb q.v.n + q.z := by rw [List.length_append, List.length_append]; omega
      repeat' (first | refine ls_of rfl ?_ | refine ls_of_no ?_ | refine ls_guard_yes rfl rfl ?_ | refine ls_guard_no rfl rfl rfl rfl ?_ | refine ls_guard_un rfl rfl rfl ?_ | refine o1_move rfl ?_ | refine o1_assign rfl ?_ | refine st_seq ?_ | refine st_region ?_ | refine st_block ?_ | refine st_skip ?_ | refine st_ret ?_ | refine st_exit ?_ | refine st_cond_t rfl ?_ | refine st_cond_f rfl ?_ | refine st_cond rfl (fun _ => ?_) (fun _ => ?_) | refine ls_nil ?_ | refine nx_seq ?_ | refine nx_blk ?_ | refine nx_fn ?_ | refine nx_rounds ?_ | refine xt_seq ?_ | refine xt_here ?_ | refine xt_on rfl ?_ | refine xt_rounds ?_ | refine xt_cut ?_ | refine rt_seq ?_ | refine rt_blk ?_ | refine rt_rounds ?_ | refine rt_cut ?_ | refine o1_ia (ad := ar) (c := cr) i rfl rfl hM.fr l1.symm rfl hiM ?_ | (refine o1_load_ia (ad := ar) (c := cr) i rfl hM.fr hiM ?_; rw [hMi]) | refine o1_pneq rfl rfl ?_ | refine o1_fieldAddr rfl ?_ | refine ox_load rfl (by rfl) ?_ | refine ox_load_enc rfl (by first | omega | (simp; omega)) ?_ | refine ox_load_any rfl (by assumption) ?_ | refine o1_len rfl ?_ | refine o1_add rfl rfl (by omega) ?_ | refine o1_sub rfl rfl (by omega) ?_ | refine o1_lss_t rfl rfl (by omega) ?_ | refine o1_lss_f rfl rfl (by omega) ?_ | refine o1_lss rfl rfl (fun _ => ?_) (fun _ => ?_) | refine o1_ushr rfl rfl (by omega) ?_ | refine o1_conv_iu rfl ?_ | refine o1_slice_nil rfl ?_ | refine o1_lit_B rfl rfl rfl rfl rfl (fun _ => ?_) | refine ox_append rfl rfl (rx_box rfl (by first | decide | omega)) rfl rfl (fun _ => rfl) (by omega) (by omega) (fun _ _ => ?_) | refine ox_append rfl rfl (rx_any (by assumption)) rfl rfl (fun _ => rfl) (by omega) (by omega) (fun _ _ => ?_) | refine ox_append rfl rfl rx_row rfl rfl (fun _ => rfl) (by omega) (by omega) (fun _ _ => ?_) | refine o1_nilCheck rfl ?_)
      refine st_stages [(4, _), (6, _)] rtX2_1 [5, 6, 11] [⟨[0, 1, 2, 3, 4, 7, 8, 9, 10], [], some 5⟩, ⟨[], [0, 7, 8, 9, 10], some 6⟩, ⟨[], [7, 8, 9, 10], some 11⟩, ⟨[12], [], none⟩] mixed (cov_cons rfl rfl (cov_cons rfl rfl cov_nil)) (by kernel_rfl) (by kernel_rfl) ?_
      all_goals refine wk_ch ?_
      all_goals (refine xp1 4 rfl rfl rfl rfl (by refine o1_move rfl fz) ?_)
      all_goals (refine xp1 6 rfl rfl rfl rfl (by refine o1_move rfl fz) ?_)
      all_goals (refine xp1 40 rfl rfl rfl rfl (by refine o1_nilCheck rfl fz) ?_)
      all_goals (refine xp1 41 rfl rfl rfl rfl (by refine o1_fieldAddr rfl fz) ?_)
      all_goals (refine xp1 42 rfl rfl rfl rfl (by first | refine ox_load_any rfl hqp fz | refine ox_load_any rfl hqs fz | refine ox_load rfl (by rfl) fz | refine ox_load_enc rfl (by first | omega | (simp; omega)) fz | refine ox_load_any rfl (by assumption) fz) ?_)
      all_goals (refine xp1 6 rfl rfl rfl rfl (by refine o1_move rfl fz) ?_)
      all_goals (refine xp1 46 rfl rfl rfl rfl (by refine o1_nilCheck rfl fz) ?_)
      all_goals (refine xp1 47 rfl rfl rfl rfl (by refine o1_fieldAddr rfl fz) ?_)
      all_goals (refine xp1 48 rfl rfl rfl rfl (by first | refine ox_load_any rfl hqp fz | refine ox_load_any rfl hqs fz | refine ox_load rfl (by rfl) fz | refine ox_load_enc rfl (by first | omega | (simp; omega)) fz | refine ox_load_any rfl (by assumption) fz) ?_)
      all_goals refine op_nil ?_
      all_goals refine re_nil ?_
      all_goals first | (refine ch_run (E' := [(43, _)]) rfl (gd_r0 rfl) rfl (cov_cons rfl rfl cov_nil) ?_; (first | (refine o1_call (fun _ => vec_Bytes _ q.v (RdV.up hq.v)) rfl (fun b44 _ => ?_); rw [hV])))
      all_goals refine wk_ch ?_
      all_goals refine op_nil ?_
      all_goals (refine xq1 4 rfl rfl rfl rfl rfl (by refine o1_move rfl fz) ?_)
      all_goals (refine xq1 6 rfl rfl rfl rfl rfl (by refine o1_move rfl fz) ?_)
      all_goals (refine xq1 46 rfl rfl rfl rfl rfl (by refine o1_nilCheck rfl fz) ?_)
      all_goals (refine xq1 47 rfl rfl rfl rfl rfl (by refine o1_fieldAddr rfl fz) ?_)
      all_goals (refine xq1 48 rfl rfl rfl rfl rfl (by first | refine ox_load_any rfl hqp fz | refine ox_load_any rfl hqs fz | refine ox_load rfl (by rfl) fz | refine ox_load_enc rfl (by first | omega | (simp; omega)) fz | refine ox_load_any rfl (by assumption) fz) ?_)
      all_goals refine re_nil ?_
      all_goals first | (refine ch_run (E' := [(39, _), (44, _)]) rfl (gd_r0 rfl) rfl (cov_cons rfl rfl (cov_cons rfl rfl cov_nil)) ?_; (first | (refine ox_append (enc := B) (ad := a1) (c := c1) (xs := X) (ys := V) rfl rfl (rx_box (b := b44) (T := 5) hVl (by omega)) hVl.symm rfl (fun _ => rfl) (by omega) (by omega) (fun a45 c45 => ?_)) | (refine ox_append (enc := B) (ad := a45) (c := c45) (xs := X ++ V) (ys := q.d) rfl rfl (rx_any hqd) hqz.symm rfl (fun _ => rfl) (by omega) (by omega) (fun a50 c50 => ?_)) | refine ox_append rfl rfl (rx_box rfl (by first | decide | omega)) rfl rfl (fun _ => rfl) (by omega) (by omega) (fun _ _ => ?_) | refine ox_append rfl rfl (rx_any (by assumption)) rfl rfl (fun _ => rfl) (by omega) (by omega) (fun _ _ => ?_) | refine ox_append rfl rfl rx_row rfl rfl (fun _ => rfl) (by omega) (by omega) (fun _ _ => ?_)))
      all_goals refine wk_ch ?_
      all_goals refine op_nil ?_
      all_goals (refine xq1 6 rfl rfl rfl rfl rfl (by refine o1_move rfl fz) ?_)
      all_goals (refine xq1 46 rfl rfl rfl rfl rfl (by refine o1_nilCheck rfl fz) ?_)
      all_goals (refine xq1 47 rfl rfl rfl rfl rfl (by refine o1_fieldAddr rfl fz) ?_)
      all_goals (refine xq1 48 rfl rfl rfl rfl rfl (by first | refine ox_load_any rfl hqp fz | refine ox_load_any rfl hqs fz | refine ox_load rfl (by rfl) fz | refine ox_load_enc rfl (by first | omega | (simp; omega)) fz | refine ox_load_any rfl (by assumption) fz) ?_)
      all_goals refine re_nil ?_
      all_goals first | (refine ch_run (E' := [(45, _), (49, _)]) rfl (gd_r0 rfl) rfl (cov_cons rfl rfl (cov_cons rfl rfl cov_nil)) ?_; (first | (refine ox_append (enc := B) (ad := a1) (c := c1) (xs := X) (ys := V) rfl rfl (rx_box (b := b44) (T := 5) hVl (by omega)) hVl.symm rfl (fun _ => rfl) (by omega) (by omega) (fun a45 c45 => ?_)) | (refine ox_append (enc := B) (ad := a45) (c := c45) (xs := X ++ V) (ys := q.d) rfl rfl (rx_any hqd) hqz.symm rfl (fun _ => rfl) (by omega) (by omega) (fun a50 c50 => ?_)) | refine ox_append rfl rfl (rx_box rfl (by first | decide | omega)) rfl rfl (fun _ => rfl) (by omega) (by omega) (fun _ _ => ?_) | refine ox_append rfl rfl (rx_any (by assumption)) rfl rfl (fun _ => rfl) (by omega) (by omega) (fun _ _ => ?_) | refine ox_append rfl rfl rx_row rfl rfl (fun _ => rfl) (by omega) (by omega) (fun _ _ => ?_)))
      all_goals refine wk_end ?_
      all_goals (refine xp1 50 rfl rfl rfl rfl (by refine o1_assign rfl fz) ?_)
      all_goals refine op_nil ?_
      all_goals refine re_nil ?_
      all_goals dsimp only [List.cons_append, List.nil_append]
      repeat' (first | refine ls_of rfl ?_ | refine ls_of_no ?_ | refine ls_guard_yes rfl rfl ?_ | refine ls_guard_no rfl rfl rfl rfl ?_ | refine ls_guard_un rfl rfl rfl ?_ | refine o1_move rfl ?_ | refine o1_assign rfl ?_ | refine st_seq ?_ | refine st_region ?_ | refine st_block ?_ | refine st_skip ?_ | refine st_ret ?_ | refine st_exit ?_ | refine st_cond_t rfl ?_ | refine st_cond_f rfl ?_ | refine st_cond rfl (fun _ => ?_) (fun _ => ?_) | refine ls_nil ?_ | refine nx_seq ?_ | refine nx_blk ?_ | refine nx_fn ?_ | refine nx_rounds ?_ | refine xt_seq ?_ | refine xt_here ?_ | refine xt_on rfl ?_ | refine xt_rounds ?_ | refine xt_cut ?_ | refine rt_seq ?_ | refine rt_blk ?_ | refine rt_rounds ?_ | refine rt_cut ?_ | refine o1_fieldAddr rfl ?_ | refine ox_load rfl (by rfl) ?_ | refine ox_load_enc rfl (by first | omega | (simp; omega)) ?_ | refine ox_load_any rfl (by assumption) ?_ | refine o1_len rfl ?_ | refine o1_add rfl rfl (by omega) ?_ | refine o1_sub rfl rfl (by omega) ?_ | refine o1_lss_t rfl rfl (by omega) ?_ | refine o1_lss_f rfl rfl (by omega) ?_ | refine o1_lss rfl rfl (fun _ => ?_) (fun _ => ?_) | refine o1_ushr rfl rfl (by omega) ?_ | refine o1_conv_iu rfl ?_ | refine o1_slice_nil rfl ?_ | refine o1_lit_B rfl rfl rfl rfl rfl (fun _ => ?_) | refine ox_append rfl rfl (rx_box rfl (by first | decide | omega)) rfl rfl (fun _ => rfl) (by omega) (by omega) (fun _ _ => ?_) | refine ox_append rfl rfl (rx_any (by assumption)) rfl rfl (fun _ => rfl) (by omega) (by omega) (fun _ _ => ?_) | refine ox_append rfl rfl rx_row rfl rfl (fun _ => rfl) (by omega) (by omega) (fun _ _ => ?_) | refine o1_nilCheck rfl ?_)
      refine nx_again (i + 1, a50, c50) (by show i + 1 ≤ n; omega) (by show n - (i + 1) < n - i; omega) (cov_cons rfl (by show Value.slice a50 _ c50 = Value.slice a50 (headB n z k ++ rowsB (ML.take (i + 1))).length c50; rw [hnx, hnl]) (cov_cons rfl rfl (cov_cons rfl rfl (cov_cons rfl rfl cov_nil)))) ?_
      show Ent _ [.row 5 1 (.slice a50 (headB n z k ++ rowsB (ML.take (i + 1))).length c50) (headB n z k ++ rowsB (ML.take (i + 1))).length ((headB n z k ++ rowsB (ML.take (i + 1))).map B), .any (stars H)]
      rw [hnx, hnl]
      (try dsimp only [List.cons_append, List.nil_append, List.singleton_append, List.append_nil]); (repeat (first | exact Ent.nil | exact Ent.refl _ | (apply Ent.cons; (repeat (first | exact Sel.here | apply Sel.there)))))
  · have : i = n := by omega
    subst this
    have e1 : headB i z k ++ rowsB (ML.take i) = R := by rw [List.take_of_length_le (by omega)]; exact hR
    rw [e1]
    repeat' (first | refine ls_of rfl ?_ | refine ls_of_no ?_ | refine ls_guard_yes rfl rfl ?_ | refine ls_guard_no rfl rfl rfl rfl ?_ | refine ls_guard_un rfl rfl rfl ?_ | refine o1_move rfl ?_ | refine o1_assign rfl ?_ | refine st_seq ?_ | refine st_region ?_ | refine st_block ?_ | refine st_skip ?_ | refine st_ret ?_ | refine st_exit ?_ | refine st_cond_t rfl ?_ | refine st_cond_f rfl ?_ | refine st_cond rfl (fun _ => ?_) (fun _ => ?_) | refine ls_nil ?_ | refine nx_seq ?_ | refine nx_blk ?_ | refine nx_fn ?_ | refine nx_rounds ?_ | refine xt_seq ?_ | refine xt_here ?_ | refine xt_on rfl ?_ | refine xt_rounds ?_ | refine xt_cut ?_ | refine rt_seq ?_ | refine rt_blk ?_ | refine rt_rounds ?_ | refine rt_cut ?_ | refine o1_fieldAddr rfl ?_ | refine ox_load rfl (by rfl) ?_ | refine ox_load_enc rfl (by first | omega | (simp; omega)) ?_ | refine ox_load_any rfl (by assumption) ?_ | refine o1_len rfl ?_ | refine o1_add rfl rfl (by omega) ?_ | refine o1_sub rfl rfl (by omega) ?_ | refine o1_lss_t rfl rfl (by omega) ?_ | refine o1_lss_f rfl rfl (by omega) ?_ | refine o1_lss rfl rfl (fun _ => ?_) (fun _ => ?_) | refine o1_ushr rfl rfl (by omega) ?_ | refine o1_conv_iu rfl ?_ | refine o1_slice_nil rfl ?_ | refine o1_lit_B rfl rfl rfl rfl rfl (fun _ => ?_) | refine ox_append rfl rfl (rx_box rfl (by first | decide | omega)) rfl rfl (fun _ => rfl) (by omega) (by omega) (fun _ _ => ?_) | refine ox_append rfl rfl (rx_any (by assumption)) rfl rfl (fun _ => rfl) (by omega) (by omega) (fun _ _ => ?_) | refine ox_append rfl rfl rx_row rfl rfl (fun _ => rfl) (by omega) (by omega) (fun _ _ => ?_) | refine o1_nilCheck rfl ?_)
    refine rt_tmp (a1, c1) rfl rfl rfl trivial ?_
    (try dsimp only [List.cons_append, List.nil_append, List.singleton_append, List.append_nil]); (repeat (first | exact Ent.nil | exact Ent.refl _ | (apply Ent.cons; (repeat (first | exact Sel.here | apply Sel.there)))))
set_option maxHeartbeats 8000000 in
theorem elim_From (H : List Hl) (n z k : Nat) (ML : List (Option LN)) (ad : Option Addr) (c : Nat) (bs : List (BitVec 8)) (hb : Rs (stars H) B ad c bs) (hbs : matB n z k ML = bs) (hRR : RR n z ML) (hk : cntS ML = k) (h1 : 1 ≤ n) (h2 : n ≤ 256) (h3 : 1 ≤ z) (h4 : z ≤ 16) (ht : TabF (stars H)) :
    Spec Tryd.prog 42 [.slice ad bs.length c] H (fun r : Nat × (Option Addr × Nat) × List (Option RD) => r.2.2.map vw = ML ∧ MOk n z r.2.2) (fun r => .tuple #[.pointer (some ⟨r.1, 0, none⟩), .bool true]) (fun r => mB r.1 n z r.2.1.1 r.2.1.2 k :: mR n r.2.1.1 r.2.1.2 r.2.2 :: .any (mrows r.2.2) :: H) := by
  refine spec_pure (res := fun r : Nat × (Option Addr × Nat) × List (Option RD) => [mB r.1 n z r.2.1.1 r.2.1.2 k, mR n r.2.1.1 r.2.1.2 r.2.2, .any (mrows r.2.2)]) H Tryd.func42 rfl Tryd.ntmps42 (by kernel_rfl) rfl (fun W => ?_)
  have hle := hb.le
  have hbg := hb.big
  have hMLl := hRR.lok.len
  have hnb : nb n ≤ 32 := by unfold nb; omega
  have hq : ((n : Int) + 7) / 8 = (nb n : Nat) := by unfold nb; omega
  have hd4 : bs.drop 4 = rowsB ML := by rw [← hbs]; rfl
  have hl4 : bs.length = 4 + (rowsB ML).length := by rw [← hbs]; simp [matB, headB]; omega
  have g0 : bs[0]? = some (BitVec.ofInt 8 ((n : Int) - 1)) := by rw [← hbs]; rfl
  have g1 : bs[1]? = some (BitVec.ofInt 8 (z : Int)) := by rw [← hbs]; rfl
  have hn1 : ((BitVec.ofInt 8 ((n : Int) - 1)).toNat : Int) + 1 = n := by simp only [BitVec.toNat_ofInt]; omega
  have hz1 : ((BitVec.ofInt 8 (z : Int)).toNat : Int) = z := by simp only [BitVec.toNat_ofInt]; omega
  have hcc : cntS ML ≤ ML.length := cntS_le _
  repeat' (first | refine ls_of rfl ?_ | refine ls_of_no ?_ | refine ls_guard_yes rfl rfl ?_ | refine ls_guard_no rfl rfl rfl rfl ?_ | refine ls_guard_un rfl rfl rfl ?_ | refine o1_move rfl ?_ | refine o1_assign rfl ?_ | refine st_seq ?_ | refine st_region ?_ | refine st_block ?_ | refine st_skip ?_ | refine st_ret ?_ | refine st_exit ?_ | refine st_cond_t rfl ?_ | refine st_cond_f rfl ?_ | refine st_cond rfl (fun _ => ?_) (fun _ => ?_) | refine ls_nil ?_ | refine nx_seq ?_ | refine nx_blk ?_ | refine nx_fn ?_ | refine nx_rounds ?_ | refine xt_seq ?_ | refine xt_here ?_ | refine xt_on rfl ?_ | refine xt_rounds ?_ | refine xt_cut ?_ | refine rt_seq ?_ | refine rt_blk ?_ | refine rt_rounds ?_ | refine rt_cut ?_ | refine o1_pick_t rfl rfl ?_ | refine o1_pick_f rfl rfl ?_ | refine o1_extract rfl rfl ?_ | refine o1_fieldAddr rfl ?_ | refine ox_load rfl (by rfl) ?_ | refine ox_load_enc rfl (by first | omega | (simp; omega)) ?_ | refine ox_load_any rfl (by assumption) ?_ | refine o1_len rfl ?_ | refine o1_add rfl rfl (by omega) ?_ | refine o1_lss_t rfl rfl (by omega) ?_ | refine o1_lss_f rfl rfl (by omega) ?_ | refine o1_lss rfl rfl (fun _ => ?_) (fun _ => ?_) | refine o1_geq_t rfl rfl (by omega) ?_ | refine o1_geq_f rfl rfl (by omega) ?_ | refine o1_geq rfl rfl (fun _ => ?_) (fun _ => ?_) | refine o1_bnot rfl ?_ | refine o1_unot rfl ?_ | refine o1_conv_i rfl (by omega) ?_ | refine o1_conv_ui rfl (by exact bv_small (by decide) _) ?_ | refine o1_slice_nil rfl ?_ | refine o1_nilCheck rfl ?_)
  refine st_stages [(0, _)] rtX2_2 [9] [⟨[0, 1, 2, 3, 4, 5, 6, 7, 8], [], some 9⟩, ⟨[10], [], none⟩] mixed (cov_cons rfl rfl cov_nil) (by kernel_rfl) (by kernel_rfl) ?_
  all_goals refine wk_ch ?_
  all_goals (refine xp1 0 rfl rfl rfl rfl (by refine o1_move rfl fz) ?_)
  all_goals (refine xp1 12 rfl rfl rfl rfl (by first | refine o1_ia (ad := ad) (c := c) 0 rfl rfl hb rfl rfl (by omega) fz | refine o1_ia (ad := ad) (c := c) 1 rfl rfl hb rfl rfl (by omega) fz) ?_)
  all_goals (refine xp1 13 rfl rfl rfl rfl (by first | refine o1_load_av (ad := ad) (c := c) 0 _ rfl hb g0 fz | refine o1_load_av (ad := ad) (c := c) 1 _ rfl hb g1 fz | refine ox_load rfl (by rfl) fz | refine ox_load_enc rfl (by first | omega | (simp; omega)) fz | refine ox_load_any rfl (by assumption) fz) ?_)
  all_goals (refine xp1 14 rfl rfl rfl rfl (by first | ((refine o1_conv_i rfl (by omega) ?_; rw [hz1]); all_goals exact fz) | refine o1_conv_i rfl (by omega) fz | refine o1_conv_i rfl (by omega) fz | refine o1_conv_ui rfl (by exact bv_small (by decide) _) fz) ?_)
  all_goals (refine xp1 15 rfl rfl rfl rfl (by first | ((refine o1_add rfl rfl (by omega) ?_; rw [hn1]); all_goals exact fz) | refine o1_add rfl rfl (by omega) fz) ?_)
  all_goals (refine xp1 0 rfl rfl rfl rfl (by refine o1_move rfl fz) ?_)
  all_goals (refine xp1 17 rfl rfl rfl rfl (by first | refine o1_ia (ad := ad) (c := c) 0 rfl rfl hb rfl rfl (by omega) fz | refine o1_ia (ad := ad) (c := c) 1 rfl rfl hb rfl rfl (by omega) fz) ?_)
  all_goals (refine xp1 18 rfl rfl rfl rfl (by first | refine o1_load_av (ad := ad) (c := c) 0 _ rfl hb g0 fz | refine o1_load_av (ad := ad) (c := c) 1 _ rfl hb g1 fz | refine ox_load rfl (by rfl) fz | refine ox_load_enc rfl (by first | omega | (simp; omega)) fz | refine ox_load_any rfl (by assumption) fz) ?_)
  all_goals (refine xp1 19 rfl rfl rfl rfl (by first | ((refine o1_conv_i rfl (by omega) ?_; rw [hz1]); all_goals exact fz) | refine o1_conv_i rfl (by omega) fz | refine o1_conv_i rfl (by omega) fz | refine o1_conv_ui rfl (by exact bv_small (by decide) _) fz) ?_)
  all_goals refine op_nil ?_
  all_goals refine re_nil ?_
  all_goals first | (refine ch_run (E' := [(16, _), (20, _)]) rfl (gd_r0 rfl) rfl (cov_cons rfl rfl (cov_cons rfl rfl cov_nil)) ?_; (first | (refine o1_call (fun _ => elim_New _ n z h1 h2 h3 h4) rfl (fun ⟨bm, ar, cr⟩ _ => ?_); dsimp only)))
  all_goals refine wk_end ?_
  all_goals (refine xp1 21 rfl rfl rfl rfl (by refine o1_assign rfl fz) ?_)
  all_goals refine op_nil ?_
  all_goals refine re_nil ?_
  all_goals dsimp only [List.cons_append, List.nil_append]
  repeat' (first | refine ls_of rfl ?_ | refine ls_of_no ?_ | refine ls_guard_yes rfl rfl ?_ | refine ls_guard_no rfl rfl rfl rfl ?_ | refine ls_guard_un rfl rfl rfl ?_ | refine o1_move rfl ?_ | refine o1_assign rfl ?_ | refine st_seq ?_ | refine st_region ?_ | refine st_block ?_ | refine st_skip ?_ | refine st_ret ?_ | refine st_exit ?_ | refine st_cond_t rfl ?_ | refine st_cond_f rfl ?_ | refine st_cond rfl (fun _ => ?_) (fun _ => ?_) | refine ls_nil ?_ | refine nx_seq ?_ | refine nx_blk ?_ | refine nx_fn ?_ | refine nx_rounds ?_ | refine xt_seq ?_ | refine xt_here ?_ | refine xt_on rfl ?_ | refine xt_rounds ?_ | refine xt_cut ?_ | refine rt_seq ?_ | refine rt_blk ?_ | refine rt_rounds ?_ | refine rt_cut ?_ | refine o1_peql rfl rfl ?_ | (refine o1_quo rfl rfl (by omega) ?_; rw [hq]) | (refine o1_cs_l (xs := bs) 4 rfl rfl rfl rfl (by omega) ?_; rw [hd4]) | refine o1_pick_t rfl rfl ?_ | refine o1_pick_f rfl rfl ?_ | refine o1_extract rfl rfl ?_ | refine o1_fieldAddr rfl ?_ | refine ox_load rfl (by rfl) ?_ | refine ox_load_enc rfl (by first | omega | (simp; omega)) ?_ | refine ox_load_any rfl (by assumption) ?_ | refine o1_len rfl ?_ | refine o1_add rfl rfl (by omega) ?_ | refine o1_lss_t rfl rfl (by omega) ?_ | refine o1_lss_f rfl rfl (by omega) ?_ | refine o1_lss rfl rfl (fun _ => ?_) (fun _ => ?_) | refine o1_geq_t rfl rfl (by omega) ?_ | refine o1_geq_f rfl rfl (by omega) ?_ | refine o1_geq rfl rfl (fun _ => ?_) (fun _ => ?_) | refine o1_bnot rfl ?_ | refine o1_unot rfl ?_ | refine o1_conv_i rfl (by omega) ?_ | refine o1_conv_ui rfl (by exact bv_small (by decide) _) ?_ | refine o1_slice_nil rfl ?_ | refine o1_nilCheck rfl ?_)
  have hk0 : MOk n z (List.replicate n none) := MOk.none h1 h2 h3 h4
  have hv0 : (List.replicate n none : List (Option RD)).map vw = prefM ML 0 := by rw [prefM_zero, hMLl, List.map_replicate]; rfl
  have hc0 : cntS (prefM ML 0) = 0 := by rw [prefM_zero]; exact cntS_none _
  have hr0 : Rs (stars H) B (cutA ad c 4) (c - 4) (rowsB (ML.drop 0)) := by
    have := hb.cutl 4 (by omega)
    rw [hd4] at this
    exact this
  refine st_loop (S := Nat × Option Addr × Nat × List (Option RD)) (fun q => [(0, .slice ad bs.length c), (4, .pointer (some ⟨bm, 0, none⟩)), (5, I (nb n)), (6, .slice q.2.1 (rowsB (ML.drop q.1)).length q.2.2.1)])
    (fun q => [mB bm n z ar cr (cntS (prefM ML q.1)), mR n ar cr q.2.2.2, .any (mrows q.2.2.2), .any (stars H)])
    (fun q => q.1 ≤ n ∧ Rs (stars H) B q.2.1 q.2.2.1 (rowsB (ML.drop q.1)) ∧ q.2.2.2.map vw = prefM ML q.1 ∧ MOk n z q.2.2.2) (fun q => n - q.1) (0, cutA ad c 4, c - 4, List.replicate n none) ⟨Nat.zero_le _, hr0, hv0, hk0⟩
    (cov_cons rfl rfl (cov_cons rfl rfl (cov_cons rfl rfl (cov_cons rfl rfl cov_nil)))) (by show Ent _ [mB bm n z ar cr (cntS (prefM ML 0)), mR n ar cr (List.replicate n none), .any (mrows (List.replicate n none)), .any (stars H)]; rw [hc0]; (try dsimp only [List.cons_append, List.nil_append, List.singleton_append, List.append_nil]); (repeat (first | exact Ent.nil | exact Ent.refl _ | (apply Ent.cons; (repeat (first | exact Sel.here | apply Sel.there)))))) ?_
  rintro ⟨i0, aa, ca, M⟩ ⟨hi, hrs, hMv, hMk⟩
  dsimp only at hi hrs hMv hMk ⊢
  have hrl := rowsB_len (n := n) (z := z) (M := ML.drop i0) (fun y hy => hRR.lok.ok y (List.mem_of_mem_drop hy))
  rcases next_row ML i0 (by omega) with hnone | ⟨i, y, hci, hy, hbetween⟩
  · have hrest : rowsB (ML.drop i0) = [] := rowsB_none (drop_none hnone)
    have hpm : prefM ML i0 = ML := by
      rw [prefM_skip (d := ML.length) (by omega) (Nat.le_refl _) (fun j h1 h2 => hnone j h1 h2), prefM_all]
    rw [hpm] at hMv
    rw [hrest, hpm, hk]
    have hcond : ¬ ((([] : List (BitVec 8)).length : Int) ≥ (nb n : Nat) + (z : Int)) := by simp; omega
    repeat' (first | refine ls_of rfl ?_ | refine ls_of_no ?_ | refine ls_guard_yes rfl rfl ?_ | refine ls_guard_no rfl rfl rfl rfl ?_ | refine ls_guard_un rfl rfl rfl ?_ | refine o1_move rfl ?_ | refine o1_assign rfl ?_ | refine st_seq ?_ | refine st_region ?_ | refine st_block ?_ | refine st_skip ?_ | refine st_ret ?_ | refine st_exit ?_ | refine st_cond_t rfl ?_ | refine st_cond_f rfl ?_ | refine st_cond rfl (fun _ => ?_) (fun _ => ?_) | refine ls_nil ?_ | refine nx_seq ?_ | refine nx_blk ?_ | refine nx_fn ?_ | refine nx_rounds ?_ | refine xt_seq ?_ | refine xt_here ?_ | refine xt_on rfl ?_ | refine xt_rounds ?_ | refine xt_cut ?_ | refine rt_seq ?_ | refine rt_blk ?_ | refine rt_rounds ?_ | refine rt_cut ?_ | refine o1_geq_f rfl rfl (by simp; omega) ?_ | (refine o1_call (fun hh => elim_Bytes _ bm n z ar cr k M ML bs (RdM.own hMk hh) hMv hbs (by omega)) rfl (fun ⟨a78, c78⟩ _ => ?_); dsimp only) | refine o1_call (fun hh => (slices_Equal _ a78 ad c78 c bs bs (rx_row hh) hb.up).bv (b := true) (by simp)) rfl (fun _ _ => ?_) | refine o1_pick_t rfl rfl ?_ | refine o1_pick_f rfl rfl ?_ | refine o1_extract rfl rfl ?_ | refine o1_fieldAddr rfl ?_ | refine ox_load rfl (by rfl) ?_ | refine ox_load_enc rfl (by first | omega | (simp; omega)) ?_ | refine ox_load_any rfl (by assumption) ?_ | refine o1_len rfl ?_ | refine o1_add rfl rfl (by omega) ?_ | refine o1_lss_t rfl rfl (by omega) ?_ | refine o1_lss_f rfl rfl (by omega) ?_ | refine o1_lss rfl rfl (fun _ => ?_) (fun _ => ?_) | refine o1_geq_t rfl rfl (by omega) ?_ | refine o1_geq_f rfl rfl (by omega) ?_ | refine o1_geq rfl rfl (fun _ => ?_) (fun _ => ?_) | refine o1_bnot rfl ?_ | refine o1_unot rfl ?_ | refine o1_conv_i rfl (by omega) ?_ | refine o1_conv_ui rfl (by exact bv_small (by decide) _) ?_ | refine o1_slice_nil rfl ?_ | refine o1_nilCheck rfl ?_)
    refine rt_tmp2 (bm, (ar, cr), M) rfl rfl rfl rfl ⟨hMv, hMk⟩ ?_
    (try dsimp only [List.cons_append, List.nil_append, List.singleton_append, List.append_nil]); (repeat (first | exact Ent.nil | exact Ent.refl _ | (apply Ent.cons; (repeat (first | exact Sel.here | apply Sel.there)))))
  · obtain ⟨hred, hfst, hfree, hadd, hin⟩ := prefM_red hRR hy
    have hskip := prefM_skip (M := ML) hci (by omega) (fun j h1 h2 => hbetween j h1 h2)
    rw [← hskip] at hred hfree hadd
    obtain ⟨y1, y2⟩ := hRR.lok.ok y (mem_of_get? hy)
    have hrest := rowsB_next hci hy hbetween
    have hcnt := cntS_addM (x := y) hfree
    rw [hadd] at hcnt
    have hcm : cntS (prefM ML i0) ≤ 256 := by have := cntS_le (prefM ML i0); rw [prefM_len _ _ (by omega)] at this; omega
    obtain ⟨raw, hraw⟩ : ∃ raw, bytesV y.1 = raw := ⟨_, rfl⟩
    obtain ⟨tl, htl⟩ : ∃ tl, rowsB (ML.drop (i + 1)) = tl := ⟨_, rfl⟩
    obtain ⟨yb, yd⟩ := y
    dsimp only at y1 y2 hraw hrest hfst
    have hrawl : raw.length = nb n := by rw [← hraw, bytesV_len, y1]
    rw [hraw, htl] at hrest
    rw [hrest] at hrs ⊢
    have t1 : ((raw ++ yd) ++ tl).take (nb n) = raw := by rw [List.append_assoc, List.take_left' hrawl]
    have t2 : (((raw ++ yd) ++ tl).take (nb n + z)).drop (nb n) = yd := by
      rw [List.take_left' (by rw [List.length_append]; omega), List.drop_left' hrawl]
    have t3 : ((raw ++ yd) ++ tl).drop (nb n + z) = tl := by rw [List.drop_left' (by rw [List.length_append]; omega)]
    have hll : ((raw ++ yd) ++ tl).length = nb n + z + tl.length := by rw [List.length_append, List.length_append]; omega
    have hbig := hrs.big
    have hlee := hrs.le
    have f1 : Rs (stars H) B (cutA aa ca 0) (ca - 0) raw := by have := hrs.cuth (nb n) (by omega); rw [t1] at this; exact this
    have f2 : Rs (stars H) B (cutA aa ca (nb n)) (ca - nb n) yd := by have := hrs.cutv (nb n) (nb n + z) (by omega) (by omega); rw [t2] at this; exact this
    have f3 : Rs (stars H) B (cutA aa ca (nb n + z)) (ca - (nb n + z)) tl := by have := hrs.cutl (nb n + z) (by omega); rw [t3] at this; exact this
    have hno : ∀ i, n ≤ i → i < 8 * nb n → rbit raw i = false := fun i h1 h2 => by
      rw [← hraw, rbit_bytes _ _ (by rw [y1]; exact h2)]
      exact getD_out (by omega)
    have hmask : maskV n (rbit raw) n = yb := by
      have e1 := unpV_ok hrawl hno
      have e2 := unpV_bytes yb
      rw [y1, hraw, e1] at e2
      exact Option.some.inj e2
    have hnz : (nb n : Int) + z = ((nb n + z : Nat) : Int) := by push_cast; rfl
    repeat' (first | refine ls_of rfl ?_ | refine ls_of_no ?_ | refine ls_guard_yes rfl rfl ?_ | refine ls_guard_no rfl rfl rfl rfl ?_ | refine ls_guard_un rfl rfl rfl ?_ | refine o1_move rfl ?_ | refine o1_assign rfl ?_ | refine st_seq ?_ | refine st_region ?_ | refine st_block ?_ | refine st_skip ?_ | refine st_ret ?_ | refine st_exit ?_ | refine st_cond_t rfl ?_ | refine st_cond_f rfl ?_ | refine st_cond rfl (fun _ => ?_) (fun _ => ?_) | refine ls_nil ?_ | refine nx_seq ?_ | refine nx_blk ?_ | refine nx_fn ?_ | refine nx_rounds ?_ | refine xt_seq ?_ | refine xt_here ?_ | refine xt_on rfl ?_ | refine xt_rounds ?_ | refine xt_cut ?_ | refine rt_seq ?_ | refine rt_blk ?_ | refine rt_rounds ?_ | refine rt_cut ?_ | (refine o1_add rfl rfl (by omega) ?_; rw [hnz]) | refine o1_geq_t rfl rfl (by omega) ?_ | refine o1_pick_t rfl rfl ?_ | refine o1_pick_f rfl rfl ?_ | refine o1_extract rfl rfl ?_ | refine o1_fieldAddr rfl ?_ | refine ox_load rfl (by rfl) ?_ | refine ox_load_enc rfl (by first | omega | (simp; omega)) ?_ | refine ox_load_any rfl (by assumption) ?_ | refine o1_len rfl ?_ | refine o1_add rfl rfl (by omega) ?_ | refine o1_lss_t rfl rfl (by omega) ?_ | refine o1_lss_f rfl rfl (by omega) ?_ | refine o1_lss rfl rfl (fun _ => ?_) (fun _ => ?_) | refine o1_geq_t rfl rfl (by omega) ?_ | refine o1_geq_f rfl rfl (by omega) ?_ | refine o1_geq rfl rfl (fun _ => ?_) (fun _ => ?_) | refine o1_bnot rfl ?_ | refine o1_unot rfl ?_ | refine o1_conv_i rfl (by omega) ?_ | refine o1_conv_ui rfl (by exact bv_small (by decide) _) ?_ | refine o1_slice_nil rfl ?_ | refine o1_nilCheck rfl ?_)
    refine st_stages [(4, _), (6, _), (5, _)] rtX2_3 [7] [⟨[0, 1, 2, 3, 4, 5, 6], [], some 7⟩, ⟨[8, 9, 10, 11, 12], [], none⟩] mixed (cov_cons rfl rfl (cov_cons rfl rfl (cov_cons rfl rfl cov_nil))) (by kernel_rfl) (by kernel_rfl) ?_
    all_goals refine wk_ch ?_
    all_goals (refine xp1 4 rfl rfl rfl rfl (by refine o1_move rfl fz) ?_)
    all_goals (refine xp1 50 rfl rfl rfl rfl (by refine o1_nilCheck rfl fz) ?_)
    all_goals (refine xp1 51 rfl rfl rfl rfl (by refine o1_fieldAddr rfl fz) ?_)
    all_goals (refine xp1 52 rfl rfl rfl rfl (by first | refine ox_load rfl (by rfl) fz | refine ox_load_enc rfl (by first | omega | (simp; omega)) fz | refine ox_load_any rfl (by assumption) fz) ?_)
    all_goals (refine xp1 6 rfl rfl rfl rfl (by refine o1_move rfl fz) ?_)
    all_goals (refine xp1 5 rfl rfl rfl rfl (by refine o1_move rfl fz) ?_)
    all_goals (refine xp2 54 55 rfl rfl rfl rfl rfl (by ((refine o1_cs_h (xs := (raw ++ yd) ++ tl) (nb n) rfl rfl rfl rfl (by omega) (by omega) ?_; rw [t1]); all_goals exact fz)) ?_)
    all_goals refine op_nil ?_
    all_goals refine re_nil ?_
    all_goals first | (refine ch_run (E' := [(53, _), (56, _)]) rfl (gd_r0 rfl) rfl (cov_cons rfl rfl (cov_cons rfl rfl cov_nil)) ?_; (first | (refine o1_call (fun _ => vec_From_ok _ n (cutA aa ca 0) raw.length (ca - 0) raw h2 (Rs.up f1) rfl hrawl hno) rfl (fun ⟨b57, a57, c57⟩ _ => ?_); (try dsimp only); rw [hmask])))
    all_goals refine wk_end ?_
    all_goals (refine xp1 57 rfl rfl rfl rfl (by refine o1_move rfl fz) ?_)
    all_goals (refine xp1 49 rfl rfl rfl rfl (by refine o1_extract rfl rfl fz) ?_)
    all_goals (refine xp1 49 rfl rfl rfl rfl (by refine o1_extract rfl rfl fz) ?_)
    all_goals (refine xp1 58 rfl rfl rfl rfl (by refine o1_assign rfl fz) ?_)
    all_goals (refine xp1 59 rfl rfl rfl rfl (by refine o1_assign rfl fz) ?_)
    all_goals refine op_nil ?_
    all_goals refine re_nil ?_
    all_goals dsimp only [List.cons_append, List.nil_append]
    repeat' (first | refine ls_of rfl ?_ | refine ls_of_no ?_ | refine ls_guard_yes rfl rfl ?_ | refine ls_guard_no rfl rfl rfl rfl ?_ | refine ls_guard_un rfl rfl rfl ?_ | refine o1_move rfl ?_ | refine o1_assign rfl ?_ | refine st_seq ?_ | refine st_region ?_ | refine st_block ?_ | refine st_skip ?_ | refine st_ret ?_ | refine st_exit ?_ | refine st_cond_t rfl ?_ | refine st_cond_f rfl ?_ | refine st_cond rfl (fun _ => ?_) (fun _ => ?_) | refine ls_nil ?_ | refine nx_seq ?_ | refine nx_blk ?_ | refine nx_fn ?_ | refine nx_rounds ?_ | refine xt_seq ?_ | refine xt_here ?_ | refine xt_on rfl ?_ | refine xt_rounds ?_ | refine xt_cut ?_ | refine rt_seq ?_ | refine rt_blk ?_ | refine rt_rounds ?_ | refine rt_cut ?_ | (refine o1_add rfl rfl (by omega) ?_; rw [hnz]) | (refine o1_cs_lh (xs := (raw ++ yd) ++ tl) (nb n) (nb n + z) rfl rfl rfl rfl rfl rfl (by omega) (by omega) (by omega) ?_; rw [t2]) | (refine o1_call_bra bm ar cr (mrows M) (fun hh => elim_Add _ bm n z ar cr (cntS (prefM ML i0)) M ⟨b57, n, a57, c57, yb⟩ (cutA aa ca (nb n)) yd.length (ca - nb n) yd (prefM ML i0) (yb, yd) i hMk hMv (RdV.own y1 h2 (has_tail (has_tail (has_tail hh)))) rfl (Rs.up f2) rfl y2 hred hfst hfree (by omega) (TabF.up ht)) rfl (fun M2 hM2 => ?_)) | (refine o1_cs_l (xs := (raw ++ yd) ++ tl) (nb n + z) rfl rfl rfl rfl (by omega) ?_; rw [t3]) | refine o1_pick_t rfl rfl ?_ | refine o1_pick_f rfl rfl ?_ | refine o1_extract rfl rfl ?_ | refine o1_fieldAddr rfl ?_ | refine ox_load rfl (by rfl) ?_ | refine ox_load_enc rfl (by first | omega | (simp; omega)) ?_ | refine ox_load_any rfl (by assumption) ?_ | refine o1_len rfl ?_ | refine o1_add rfl rfl (by omega) ?_ | refine o1_lss_t rfl rfl (by omega) ?_ | refine o1_lss_f rfl rfl (by omega) ?_ | refine o1_lss rfl rfl (fun _ => ?_) (fun _ => ?_) | refine o1_geq_t rfl rfl (by omega) ?_ | refine o1_geq_f rfl rfl (by omega) ?_ | refine o1_geq rfl rfl (fun _ => ?_) (fun _ => ?_) | refine o1_bnot rfl ?_ | refine o1_unot rfl ?_ | refine o1_conv_i rfl (by omega) ?_ | refine o1_conv_ui rfl (by exact bv_small (by decide) _) ?_ | refine o1_slice_nil rfl ?_ | refine o1_nilCheck rfl ?_)
    refine nx_again (i + 1, cutA aa ca (nb n + z), ca - (nb n + z), M2) ⟨?_, ?_, ?_, hM2.2⟩ ?_ (cov_cons rfl rfl (cov_cons rfl rfl (cov_cons rfl rfl (cov_cons rfl (by show Value.slice _ tl.length _ = Value.slice _ (rowsB (ML.drop (i + 1))).length _; rw [htl]) cov_nil)))) ?_
    · show i + 1 ≤ n; omega
    · show Rs (stars H) B (cutA aa ca (nb n + z)) (ca - (nb n + z)) (rowsB (ML.drop (i + 1)))
      rw [htl]; exact f3
    · show M2.map vw = prefM ML (i + 1)
      rw [hM2.1, hadd]
    · show n - (i + 1) < n - i0; omega
    · show Ent _ [mB bm n z ar cr (cntS (prefM ML (i + 1))), mR n ar cr M2, .any (mrows M2), .any (stars H)]
      rw [hcnt]
      (try dsimp only [List.cons_append, List.nil_append, List.singleton_append, List.append_nil]); (repeat (first | exact Ent.nil | exact Ent.refl _ | (apply Ent.cons; (repeat (first | exact Sel.here | apply Sel.there)))))
end Go.Dp

set_option linter.unusedVariables false
set_option linter.unusedSimpArgs false
namespace Go.Dp
open Go.RowKit Go.Proofs
def rtY4_0 : List Row := [⟨some 6, [], [], none⟩, ⟨some 7, [0], [0], none⟩, ⟨some 8, [1], [0, 1], none⟩, ⟨some 9, [2], [0, 1, 2], none⟩, ⟨some 10, [3], [0, 1, 2, 3], none⟩, ⟨some 11, [4], [0, 1, 2, 3, 4], none⟩, ⟨some 12, [], [], none⟩, ⟨some 13, [6], [6], none⟩, ⟨some 14, [7], [6, 7], none⟩, ⟨some 15, [8], [6, 7, 8], none⟩, ⟨some 16, [9], [6, 7, 8, 9], none⟩, ⟨some 17, [], [], none⟩, ⟨some 18, [11], [11], none⟩, ⟨some 19, [12], [11, 12], none⟩, ⟨some 20, [13], [11, 12, 13], none⟩, ⟨some 21, [14], [11, 12, 13, 14], none⟩, ⟨some 22, [15], [11, 12, 13, 14, 15], none⟩, ⟨some 23, [16], [11, 12, 13, 14, 15, 16], none⟩, ⟨some 24, [], [], none⟩, ⟨some 25, [18], [18], none⟩, ⟨some 26, [19], [18, 19], none⟩, ⟨some 27, [20], [18, 19, 20], none⟩, ⟨some 28, [21], [18, 19, 20, 21], none⟩, ⟨some 29, [22], [18, 19, 20, 21, 22], none⟩, ⟨some 30, [5, 10, 17, 23], [0, 1, 2, 3, 4, 5, 6, 7, 8, 9, 10, 11, 12, 13, 14, 15, 16, 17, 18, 19, 20, 21, 22, 23], none⟩, ⟨some 3, [24, 0, 1, 2, 3, 4, 5, 6, 7, 8, 9, 10, 11, 12, 13, 14, 15, 16, 17, 18, 19, 20, 21, 22, 23, 24], [0, 1, 2, 3, 4, 5, 6, 7, 8, 9, 10, 11, 12, 13, 14, 15, 16, 17, 18, 19, 20, 21, 22, 23, 24], none⟩]
def rtY4_1 : List Row := [⟨some 40, [], [], none⟩, ⟨some 41, [], [], none⟩, ⟨some 42, [1], [1], none⟩, ⟨some 43, [2], [1, 2], none⟩, ⟨some 44, [], [], none⟩, ⟨some 45, [4], [4], none⟩, ⟨some 46, [0, 3, 5], [0, 1, 2, 3, 4, 5], none⟩, ⟨some 47, [6, 3], [0, 1, 2, 3, 4, 5, 6], none⟩, ⟨some 3, [7, 7, 0, 1, 2, 3, 4, 5, 6, 7], [0, 1, 2, 3, 4, 5, 6, 7], none⟩]
def rtY4_2 : List Row := [⟨some 31, [], [], none⟩, ⟨some 32, [0], [0], none⟩, ⟨some 33, [1], [0, 1], none⟩, ⟨some 34, [2], [0, 1, 2], none⟩, ⟨some 35, [], [], none⟩, ⟨some 36, [3, 4], [0, 1, 2, 3, 4], none⟩, ⟨some 37, [5], [0, 1, 2, 3, 4, 5], none⟩, ⟨some 38, [6], [0, 1, 2, 3, 4, 5, 6], none⟩, ⟨some 39, [7], [0, 1, 2, 3, 4, 5, 6, 7], none⟩, ⟨some 40, [8], [0, 1, 2, 3, 4, 5, 6, 7, 8], none⟩, ⟨some 41, [9], [0, 1, 2, 3, 4, 5, 6, 7, 8, 9], none⟩, ⟨some 42, [], [], none⟩, ⟨some 43, [11], [11], none⟩, ⟨some 44, [12], [11, 12], none⟩, ⟨some 45, [13], [11, 12, 13], none⟩, ⟨some 46, [], [], none⟩, ⟨some 47, [14, 15], [11, 12, 13, 14, 15], none⟩, ⟨some 48, [16], [11, 12, 13, 14, 15, 16], none⟩, ⟨some 49, [17], [11, 12, 13, 14, 15, 16, 17], none⟩, ⟨some 50, [18], [11, 12, 13, 14, 15, 16, 17, 18], none⟩, ⟨some 51, [19], [11, 12, 13, 14, 15, 16, 17, 18, 19], none⟩, ⟨some 52, [20, 10], [0, 1, 2, 3, 4, 5, 6, 7, 8, 9, 10, 11, 12, 13, 14, 15, 16, 17, 18, 19, 20], none⟩, ⟨some 4, [10, 21, 0, 1, 2, 3, 4, 5, 6, 7, 8, 9, 10], [0, 1, 2, 3, 4, 5, 6, 7, 8, 9, 10, 11, 12, 13, 14, 15, 16, 17, 18, 19, 20, 21], none⟩, ⟨some 5, [21, 22, 0, 1, 2, 3, 4, 5, 6, 7, 8, 9, 10, 11, 12, 13, 14, 15, 16, 17, 18, 19, 20, 21, 22], [0, 1, 2, 3, 4, 5, 6, 7, 8, 9, 10, 11, 12, 13, 14, 15, 16, 17, 18, 19, 20, 21, 22], none⟩, ⟨some 6, [23, 0, 1, 2, 3, 4, 5, 6, 7, 8, 9, 10, 11, 12, 13, 14, 15, 16, 17, 18, 19, 20, 21, 22, 23], [0, 1, 2, 3, 4, 5, 6, 7, 8, 9, 10, 11, 12, 13, 14, 15, 16, 17, 18, 19, 20, 21, 22, 23], none⟩]
theorem all3 {α : Type} {Q : α → Prop} {a b c : α} (ha : Q a) (hb : Q b) (hc : Q c) : ∀ s ∈ [a, b, c], Q s := fun s hs => by
  simp only [List.mem_cons, List.not_mem_nil, or_false] at hs
  rcases hs with rfl | rfl | rfl
  · exact ha
  · exact hb
  · exact hc
def lnB (x : LnD) : List (BitVec 8) := bytesV x.v.l ++ x.d.l
def rowsL (l : List LnD) : List (BitVec 8) := l.flatMap lnB
theorem rowsL_take {l : List LnD} {i : Nat} (hi : i < l.length) : rowsL (l.take (i + 1)) = rowsL (l.take i) ++ lnB l[i] := by
  unfold rowsL
  rw [List.take_succ_eq_append_getElem hi, List.flatMap_append, List.flatMap_singleton]
theorem rowsL_eq {l : List LnD} {M : List (Option LN)} (h : l.map lnV = cmp M) : rowsL l = rowsB M := by
  rw [← cmp_rowsB, ← h, List.flatMap_map]
  rfl
theorem rowsL_len {n z : Nat} : ∀ {l : List LnD}, (∀ y ∈ l.map lnV, LRow n z y) → (rowsL l).length = l.length * (nb n + z)
  | [], _ => by simp [rowsL]
  | x :: l, h => by
    have ih := rowsL_len (l := l) (fun y hy => h y (by rw [List.map_cons]; exact List.mem_cons_of_mem _ hy))
    obtain ⟨h1, h2, _⟩ := h (lnV x) (by simp)
    have h1 : x.v.l.length = n := h1
    have h2 : x.d.l.length = z := h2
    have e : (rowsL (x :: l)).length = (bytesV x.v.l ++ x.d.l).length + (rowsL l).length := by simp [rowsL, lnB]; omega
    rw [e, ih, List.length_append, bytesV_len, h1, h2, List.length_cons, Nat.add_mul, Nat.one_mul]
    omega
theorem clone_B (H : List Hl) (ad : Option Addr) (m c : Nat) (l : List (BitVec 8)) (h : Rs (stars H) B ad c l) (hm : m = l.length) (hb : m ≤ 140737488355328) :
    Spec Tryd.prog 58 [.slice ad m c] H (fun _ : Option Addr × Nat => True) (fun r : Option Addr × Nat => .slice r.1 m r.2)
      (fun r : Option Addr × Nat => .row 5 1 (.slice r.1 m r.2) m (l.map B) :: H) := by
  subst hm
  refine spec_pure (res := fun r : Option Addr × Nat => [.row 5 1 (.slice r.1 l.length r.2) l.length (l.map B)]) H Tryd.func58 rfl Tryd.ntmps58 (by kernel_rfl) rfl (fun W => ?_)
  cases ad with
  | none =>
    have hl : l = [] := by
      cases l with
      | nil => rfl
      | cons a l => obtain ⟨x, hx⟩ := h.sm (by simp); cases hx
    subst hl
    repeat' (first | refine ls_of rfl ?_ | refine ls_of_no ?_ | refine ls_guard_yes rfl rfl ?_ | refine ls_guard_no rfl rfl rfl rfl ?_ | refine ls_guard_un rfl rfl rfl ?_ | refine o1_move rfl ?_ | refine o1_assign rfl ?_ | refine st_seq ?_ | refine st_region ?_ | refine st_block ?_ | refine st_skip ?_ | refine st_ret ?_ | refine st_exit ?_ | refine st_cond_t rfl ?_ | refine st_cond_f rfl ?_ | refine st_cond rfl (fun _ => ?_) (fun _ => ?_) | refine ls_nil ?_ | refine nx_seq ?_ | refine nx_blk ?_ | refine nx_fn ?_ | refine nx_rounds ?_ | refine xt_seq ?_ | refine xt_here ?_ | refine xt_on rfl ?_ | refine xt_rounds ?_ | refine xt_cut ?_ | refine rt_seq ?_ | refine rt_blk ?_ | refine rt_rounds ?_ | refine rt_cut ?_ | refine o1_slice_nil rfl ?_ | refine o1_lit_B rfl rfl rfl rfl rfl (fun _ => ?_) | refine ox_append rfl rfl (rx_box rfl (by first | decide | omega)) rfl rfl (fun _ => rfl) (by omega) (by omega) (fun _ _ => ?_) | refine ox_append rfl rfl (rx_any (by assumption)) rfl rfl (fun _ => rfl) (by omega) (by omega) (fun _ _ => ?_) | refine ox_append rfl rfl rx_row rfl rfl (fun _ => rfl) (by omega) (by omega) (fun _ _ => ?_))
    refine (rt_ent (ent_nil 5 B) ?_)
    refine rt_tmp (none, 0) rfl rfl rfl trivial ?_
    (try dsimp only [List.cons_append, List.nil_append, List.singleton_append, List.append_nil]); (repeat (first | exact Ent.nil | exact Ent.refl _ | (apply Ent.cons; (repeat (first | exact Sel.here | apply Sel.there)))))
  | some a =>
    repeat' (first | refine ls_of rfl ?_ | refine ls_of_no ?_ | refine ls_guard_yes rfl rfl ?_ | refine ls_guard_no rfl rfl rfl rfl ?_ | refine ls_guard_un rfl rfl rfl ?_ | refine o1_move rfl ?_ | refine o1_assign rfl ?_ | refine st_seq ?_ | refine st_region ?_ | refine st_block ?_ | refine st_skip ?_ | refine st_ret ?_ | refine st_exit ?_ | refine st_cond_t rfl ?_ | refine st_cond_f rfl ?_ | refine st_cond rfl (fun _ => ?_) (fun _ => ?_) | refine ls_nil ?_ | refine nx_seq ?_ | refine nx_blk ?_ | refine nx_fn ?_ | refine nx_rounds ?_ | refine xt_seq ?_ | refine xt_here ?_ | refine xt_on rfl ?_ | refine xt_rounds ?_ | refine xt_cut ?_ | refine rt_seq ?_ | refine rt_blk ?_ | refine rt_rounds ?_ | refine rt_cut ?_ | refine ox_append_box (xs := ([] : List (BitVec 8))) rfl rfl rfl rfl (rx_any h) rfl rfl (fun _ => rfl) (by omega) (by have := h.le; have := h.big; omega) (fun _ _ => ?_) | refine o1_slice_nil rfl ?_ | refine o1_lit_B rfl rfl rfl rfl rfl (fun _ => ?_) | refine ox_append rfl rfl (rx_box rfl (by first | decide | omega)) rfl rfl (fun _ => rfl) (by omega) (by omega) (fun _ _ => ?_) | refine ox_append rfl rfl (rx_any (by assumption)) rfl rfl (fun _ => rfl) (by omega) (by omega) (fun _ _ => ?_) | refine ox_append rfl rfl rx_row rfl rfl (fun _ => rfl) (by omega) (by omega) (fun _ _ => ?_))
    refine rt_tmp (_, _) rfl rfl (by simp only [Nat.zero_add]; rfl) trivial ?_
    simp only [Nat.zero_add, List.nil_append]
    (try dsimp only [List.cons_append, List.nil_append, List.singleton_append, List.append_nil]); (repeat (first | exact Ent.nil | exact Ent.refl _ | (apply Ent.cons; (repeat (first | exact Sel.here | apply Sel.there)))))
set_option maxHeartbeats 4000000 in
theorem r1_MBytes (H : List Hl) (b n z : Nat) (ad : Option Addr) (c : Nat) (ls : List LnD) (k : Nat) (ML : List (Option LN)) (R : List (BitVec 8)) (hb0 : Cl (stars H) ⟨b, 0, none⟩ (I n)) (hb1 : Cl (stars H) ⟨b, 1, none⟩ (I z)) (hb2 : Cl (stars H) ⟨b, 2, none⟩ (.slice ad ls.length c)) (hL : RdL (stars H) n z ad c ls) (hM : ls.map lnV = cmp ML) (hRR : RR n z ML) (hn : n ≤ 256) (hz : z ≤ 16) (hk : ls.length = k) (hR : matB n z k ML = R) :
    Spec Tryd.prog 48 [.pointer (some ⟨b, 0, none⟩)] H (fun _ : Option Addr × Nat => True) (fun r => .slice r.1 R.length r.2) (fun r => .row 5 1 (.slice r.1 R.length r.2) R.length (R.map B) :: H) := by
  refine spec_pure (res := fun r : Option Addr × Nat => [.row 5 1 (.slice r.1 R.length r.2) R.length (R.map B)]) H Tryd.func48 rfl Tryd.ntmps48 (by kernel_rfl) rfl (fun W => ?_)
  have hok : ∀ y ∈ ls.map lnV, LRow n z y := fun y hy => cmp_row hRR (hM ▸ hy)
  have hll : ls.length ≤ 256 := by
    have h1 := congrArg List.length hM
    rw [List.length_map, cmp_len] at h1
    have h2 := cntS_le ML
    have h3 := hRR.lok.len
    omega
  have hr := hL.r
  have b3 := hr.le
  have b4 := hr.big
  have hnb : nb n ≤ 32 := by unfold nb; omega
  have hrl : ∀ i, i ≤ ls.length → (headB n z k ++ rowsL (ls.take i)).length ≤ 4 + i * 48 := fun i hi => by
    have h1 := rowsL_len (n := n) (z := z) (l := ls.take i) (fun y hy => hok y (by
      obtain ⟨x, hx, e⟩ := List.mem_map.1 hy
      exact List.mem_map.2 ⟨x, List.mem_of_mem_take hx, e⟩))
    rw [List.length_take, Nat.min_eq_left hi] at h1
    have h3 : i * (nb n + z) ≤ i * 48 := Nat.mul_le_mul (Nat.le_refl _) (by omega)
    rw [List.length_append, h1]
    simp only [headB, List.length_cons, List.length_nil]
    omega
  subst hk
  repeat' (first | refine ls_of rfl ?_ | refine ls_of_no ?_ | refine ls_guard_yes rfl rfl ?_ | refine ls_guard_no rfl rfl rfl rfl ?_ | refine ls_guard_un rfl rfl rfl ?_ | refine o1_move rfl ?_ | refine o1_assign rfl ?_ | refine st_seq ?_ | refine st_region ?_ | refine st_block ?_ | refine st_skip ?_ | refine st_ret ?_ | refine st_exit ?_ | refine st_cond_t rfl ?_ | refine st_cond_f rfl ?_ | refine st_cond rfl (fun _ => ?_) (fun _ => ?_) | refine ls_nil ?_ | refine nx_seq ?_ | refine nx_blk ?_ | refine nx_fn ?_ | refine nx_rounds ?_ | refine xt_seq ?_ | refine xt_here ?_ | refine xt_on rfl ?_ | refine xt_rounds ?_ | refine xt_cut ?_ | refine rt_seq ?_ | refine rt_blk ?_ | refine rt_rounds ?_ | refine rt_cut ?_ | refine o1_fieldAddr rfl ?_ | refine ox_load rfl (by rfl) ?_ | refine ox_load_enc rfl (by first | omega | (simp; omega)) ?_ | refine ox_load_any rfl (by assumption) ?_ | refine o1_len rfl ?_ | refine o1_add rfl rfl (by omega) ?_ | refine o1_sub rfl rfl (by omega) ?_ | refine o1_lss_t rfl rfl (by omega) ?_ | refine o1_lss_f rfl rfl (by omega) ?_ | refine o1_lss rfl rfl (fun _ => ?_) (fun _ => ?_) | refine o1_ushr rfl rfl (by omega) ?_ | refine o1_conv_iu rfl ?_ | refine o1_lit_B rfl rfl rfl rfl rfl (fun _ => ?_) | refine o1_alloc rfl (fun _ => ?_) | refine o1_nilCheck rfl ?_ | refine ox_store_agg rfl rfl (by rfl) (by simp) (by simp [Value.oneCell']) (by simp only [putL, List.set_cons_zero, List.set_cons_succ, Nat.zero_add, Nat.reduceAdd]; rfl) ?_ | refine ox_load_agg rfl (by simp only [Nat.zero_add, Nat.reduceAdd, List.drop_zero, List.drop_succ_cons, List.take_succ_cons, List.take_zero]; rfl) (by rfl) ?_)
  refine st_stages [(0, _)] rtY4_0 [24] [⟨[0, 1, 2, 3, 4, 5, 6, 7, 8, 9, 10, 11, 12, 13, 14, 15, 16, 17, 18, 19, 20, 21, 22, 23], [], some 24⟩, ⟨[25], [], none⟩] mixed (cov_cons rfl rfl cov_nil) (by kernel_rfl) (by kernel_rfl) ?_
  all_goals refine wk_ch ?_
  all_goals (refine xp1 0 rfl rfl rfl rfl (by refine o1_move rfl fz) ?_)
  all_goals (refine xp1 6 rfl rfl rfl rfl (by refine o1_nilCheck rfl fz) ?_)
  all_goals (refine xp1 7 rfl rfl rfl rfl (by refine o1_fieldAddr rfl fz) ?_)
  all_goals (refine xp1 8 rfl rfl rfl rfl (by first | refine ox_load_any rfl hb0 fz | refine ox_load_any rfl hb1 fz | refine ox_load_any rfl hb2 fz | refine ox_load rfl (by rfl) fz | refine ox_load_enc rfl (by first | omega | (simp; omega)) fz | refine ox_load_any rfl (by assumption) fz) ?_)
  all_goals (refine xp1 9 rfl rfl rfl rfl (by first | refine o1_sub rfl rfl (by omega) fz | refine o1_sub rfl rfl (by omega) fz) ?_)
  all_goals (refine xp1 10 rfl rfl rfl rfl (by first | refine o1_conv_iu rfl fz | refine o1_conv_iu rfl fz) ?_)
  all_goals (refine xp1 0 rfl rfl rfl rfl (by refine o1_move rfl fz) ?_)
  all_goals (refine xp1 12 rfl rfl rfl rfl (by refine o1_nilCheck rfl fz) ?_)
  all_goals (refine xp1 13 rfl rfl rfl rfl (by refine o1_fieldAddr rfl fz) ?_)
  all_goals (refine xp1 14 rfl rfl rfl rfl (by first | refine ox_load_any rfl hb0 fz | refine ox_load_any rfl hb1 fz | refine ox_load_any rfl hb2 fz | refine ox_load rfl (by rfl) fz | refine ox_load_enc rfl (by first | omega | (simp; omega)) fz | refine ox_load_any rfl (by assumption) fz) ?_)
  all_goals (refine xp1 15 rfl rfl rfl rfl (by first | refine o1_conv_iu rfl fz | refine o1_conv_iu rfl fz) ?_)
  all_goals (refine xp1 0 rfl rfl rfl rfl (by refine o1_move rfl fz) ?_)
  all_goals (refine xp1 17 rfl rfl rfl rfl (by refine o1_nilCheck rfl fz) ?_)
  all_goals (refine xp1 18 rfl rfl rfl rfl (by refine o1_fieldAddr rfl fz) ?_)
  all_goals (refine xp1 19 rfl rfl rfl rfl (by first | refine ox_load_any rfl hb0 fz | refine ox_load_any rfl hb1 fz | refine ox_load_any rfl hb2 fz | refine ox_load rfl (by rfl) fz | refine ox_load_enc rfl (by first | omega | (simp; omega)) fz | refine ox_load_any rfl (by assumption) fz) ?_)
  all_goals (refine xp1 20 rfl rfl rfl rfl (by refine o1_len rfl fz) ?_)
  all_goals (refine xp1 21 rfl rfl rfl rfl (by first | refine o1_ishr8 rfl rfl fz | refine o1_ushr rfl rfl (by omega) fz) ?_)
  all_goals (refine xp1 22 rfl rfl rfl rfl (by first | refine o1_conv_iu rfl fz | refine o1_conv_iu rfl fz) ?_)
  all_goals (refine xp1 0 rfl rfl rfl rfl (by refine o1_move rfl fz) ?_)
  all_goals (refine xp1 24 rfl rfl rfl rfl (by refine o1_nilCheck rfl fz) ?_)
  all_goals (refine xp1 25 rfl rfl rfl rfl (by refine o1_fieldAddr rfl fz) ?_)
  all_goals (refine xp1 26 rfl rfl rfl rfl (by first | refine ox_load_any rfl hb0 fz | refine ox_load_any rfl hb1 fz | refine ox_load_any rfl hb2 fz | refine ox_load rfl (by rfl) fz | refine ox_load_enc rfl (by first | omega | (simp; omega)) fz | refine ox_load_any rfl (by assumption) fz) ?_)
  all_goals (refine xp1 27 rfl rfl rfl rfl (by refine o1_len rfl fz) ?_)
  all_goals (refine xp1 28 rfl rfl rfl rfl (by first | refine o1_conv_iu rfl fz | refine o1_conv_iu rfl fz) ?_)
  all_goals refine op_nil ?_
  all_goals refine re_nil ?_
  all_goals first | (refine ch_run (E' := [(11, _), (16, _), (23, _), (29, _)]) rfl (gd_r0 rfl) rfl (cov_cons rfl rfl (cov_cons rfl rfl (cov_cons rfl rfl (cov_cons rfl rfl cov_nil)))) ?_; (first | (refine o1_lit_enc B (headB n z ls.length) rfl rfl rfl (fun _ => rfl) rfl rfl rfl (fun b30 => ?_)) | refine o1_lit_B rfl rfl rfl rfl rfl (fun _ => ?_)))
  all_goals refine wk_end ?_
  all_goals (refine xp1 30 rfl rfl rfl rfl (by refine o1_assign rfl fz) ?_)
  all_goals refine op_nil ?_
  all_goals refine re_nil ?_
  all_goals dsimp only [List.cons_append, List.nil_append]
  repeat' (first | refine ls_of rfl ?_ | refine ls_of_no ?_ | refine ls_guard_yes rfl rfl ?_ | refine ls_guard_no rfl rfl rfl rfl ?_ | refine ls_guard_un rfl rfl rfl ?_ | refine o1_move rfl ?_ | refine o1_assign rfl ?_ | refine st_seq ?_ | refine st_region ?_ | refine st_block ?_ | refine st_skip ?_ | refine st_ret ?_ | refine st_exit ?_ | refine st_cond_t rfl ?_ | refine st_cond_f rfl ?_ | refine st_cond rfl (fun _ => ?_) (fun _ => ?_) | refine ls_nil ?_ | refine nx_seq ?_ | refine nx_blk ?_ | refine nx_fn ?_ | refine nx_rounds ?_ | refine xt_seq ?_ | refine xt_here ?_ | refine xt_on rfl ?_ | refine xt_rounds ?_ | refine xt_cut ?_ | refine rt_seq ?_ | refine rt_blk ?_ | refine rt_rounds ?_ | refine rt_cut ?_ | refine ox_load_any rfl hb2 ?_ | refine o1_fieldAddr rfl ?_ | refine ox_load rfl (by rfl) ?_ | refine ox_load_enc rfl (by first | omega | (simp; omega)) ?_ | refine ox_load_any rfl (by assumption) ?_ | refine o1_len rfl ?_ | refine o1_add rfl rfl (by omega) ?_ | refine o1_sub rfl rfl (by omega) ?_ | refine o1_lss_t rfl rfl (by omega) ?_ | refine o1_lss_f rfl rfl (by omega) ?_ | refine o1_lss rfl rfl (fun _ => ?_) (fun _ => ?_) | refine o1_ushr rfl rfl (by omega) ?_ | refine o1_conv_iu rfl ?_ | refine o1_lit_B rfl rfl rfl rfl rfl (fun _ => ?_) | refine o1_alloc rfl (fun _ => ?_) | refine o1_nilCheck rfl ?_ | refine ox_store_agg rfl rfl (by rfl) (by simp) (by simp [Value.oneCell']) (by simp only [putL, List.set_cons_zero, List.set_cons_succ, Nat.zero_add, Nat.reduceAdd]; rfl) ?_ | refine ox_load_agg rfl (by simp only [Nat.zero_add, Nat.reduceAdd, List.drop_zero, List.drop_succ_cons, List.take_succ_cons, List.take_zero]; rfl) (by rfl) ?_)
  refine st_row (T := 5) (b := b30) (m := 4) (cp := 4) (cs := (headB n z ls.length).map B) rfl rfl (by omega) ?_
  refine st_loop (S := Nat × Option Addr × Nat) (fun q => [(3, .slice q.2.1 (headB n z ls.length ++ rowsL (ls.take q.1)).length q.2.2), (34, .slice ad ls.length c), (35, I ls.length), (36, I q.1)])
    (fun q => [.row 5 1 (.slice q.2.1 (headB n z ls.length ++ rowsL (ls.take q.1)).length q.2.2) (headB n z ls.length ++ rowsL (ls.take q.1)).length ((headB n z ls.length ++ rowsL (ls.take q.1)).map B), .any (stars H)])
    (fun q => q.1 ≤ ls.length) (fun q => ls.length - q.1) (0, some ⟨b30, 0, none⟩, 4) (Nat.zero_le _)
    (cov_cons rfl rfl (cov_cons rfl rfl (cov_cons rfl rfl (cov_cons rfl rfl cov_nil)))) (by show Ent _ [.row 5 1 (.slice (some ⟨b30, 0, none⟩) 4 4) 4 ((headB n z ls.length).map B), .any (stars H)]; (try dsimp only [List.cons_append, List.nil_append, List.singleton_append, List.append_nil]); (repeat (first | exact Ent.nil | exact Ent.refl _ | (apply Ent.cons; (repeat (first | exact Sel.here | apply Sel.there)))))) ?_
  rintro ⟨i, a1, c1⟩ hi
  dsimp only at hi ⊢
  by_cases hlt : i < ls.length
  · have htk := rowsL_take hlt
    have hl1 := hrl i (by omega)
    have hl2 := hrl (i + 1) (by omega)
    obtain ⟨X, hX⟩ : ∃ X, headB n z ls.length ++ rowsL (ls.take i) = X := ⟨_, rfl⟩
    obtain ⟨r, hre⟩ : ∃ r, ls[i] = r := ⟨_, rfl⟩
    have hri : ls[i]? = some r := by rw [List.getElem?_eq_getElem hlt, hre]
    have hrm : r ∈ ls := hre ▸ List.getElem_mem hlt
    obtain ⟨hxv, hxd, q1, q2⟩ := hL.x r hrm
    obtain ⟨V, hV⟩ : ∃ V, bytesV r.v.l = V := ⟨_, rfl⟩
    have hVl : V.length = nb n := by rw [← hV, bytesV_len, q1]
    have hnx : headB n z ls.length ++ rowsL (ls.take (i + 1)) = X ++ (V ++ r.d.l) := by rw [htk, ← List.append_assoc, hX, hre, lnB, hV]
    rw [hX] at hl1 ⊢
    rw [hnx] at hl2
    repeat' (first | refine ls_of rfl ?_ | refine ls_of_no ?_ | refine ls_guard_yes rfl rfl ?_ | refine ls_guard_no rfl rfl rfl rfl ?_ | refine ls_guard_un rfl rfl rfl ?_ | refine o1_move rfl ?_ | refine o1_assign rfl ?_ | refine st_seq ?_ | refine st_region ?_ | refine st_block ?_ | refine st_skip ?_ | refine st_ret ?_ | refine st_exit ?_ | refine st_cond_t rfl ?_ | refine st_cond_f rfl ?_ | refine st_cond rfl (fun _ => ?_) (fun _ => ?_) | refine ls_nil ?_ | refine nx_seq ?_ | refine nx_blk ?_ | refine nx_fn ?_ | refine nx_rounds ?_ | refine xt_seq ?_ | refine xt_here ?_ | refine xt_on rfl ?_ | refine xt_rounds ?_ | refine xt_cut ?_ | refine rt_seq ?_ | refine rt_blk ?_ | refine rt_rounds ?_ | refine rt_cut ?_ | refine o1_iaw (f := fV n) (g := fD z) (ad := ad) (c := c) i rfl rfl hr rfl rfl hlt ?_ | refine o1_load_iaw (f := fV n) (g := fD z) (ad := ad) (c := c) i r rfl hr hri ?_ | refine o1_alloc rfl (fun b5 => ?_) | refine o1_fieldAddr rfl ?_ | refine ox_load rfl (by rfl) ?_ | refine ox_load_enc rfl (by first | omega | (simp; omega)) ?_ | refine ox_load_any rfl (by assumption) ?_ | refine o1_len rfl ?_ | refine o1_add rfl rfl (by omega) ?_ | refine o1_sub rfl rfl (by omega) ?_ | refine o1_lss_t rfl rfl (by omega) ?_ | refine o1_lss_f rfl rfl (by omega) ?_ | refine o1_lss rfl rfl (fun _ => ?_) (fun _ => ?_) | refine o1_ushr rfl rfl (by omega) ?_ | refine o1_conv_iu rfl ?_ | refine o1_lit_B rfl rfl rfl rfl rfl (fun _ => ?_) | refine o1_alloc rfl (fun _ => ?_) | refine o1_nilCheck rfl ?_ | refine ox_store_agg rfl rfl (by rfl) (by simp) (by simp [Value.oneCell']) (by simp only [putL, List.set_cons_zero, List.set_cons_succ, Nat.zero_add, Nat.reduceAdd]; rfl) ?_ | refine ox_load_agg rfl (by simp only [Nat.zero_add, Nat.reduceAdd, List.drop_zero, List.drop_succ_cons, List.take_succ_cons, List.take_zero]; rfl) (by rfl) ?_)
    have hcat : ∀ b43, cat [(⟨a1, c1, X⟩ : SlD (BitVec 8)), ⟨some ⟨b43, 0, none⟩, nb n, V⟩, r.d] = X ++ (V ++ r.d.l) := fun b43 => by simp [cat]
    refine st_stages [(3, _), (5, _)] rtY4_1 [3, 6, 7] [⟨[0, 1, 2, 4, 5], [], some 3⟩, ⟨[], [0, 4, 5], some 6⟩, ⟨[], [], some 7⟩, ⟨[8], [], none⟩] mixed (cov_cons rfl rfl (cov_cons rfl rfl cov_nil)) (by kernel_rfl) (by kernel_rfl) ?_
    all_goals refine wk_ch ?_
    all_goals (refine xp1 3 rfl rfl rfl rfl (by refine o1_move rfl fz) ?_)
    all_goals (refine xp1 5 rfl rfl rfl rfl (by refine o1_fieldAddr rfl fz) ?_)
    all_goals (refine xp1 41 rfl rfl rfl rfl (by first | refine ox_load (b := b5) rfl rfl fz | refine ox_load rfl (by rfl) fz | refine ox_load_enc rfl (by first | omega | (simp; omega)) fz | refine ox_load_any rfl (by assumption) fz) ?_)
    all_goals (refine xp1 5 rfl rfl rfl rfl (by refine o1_fieldAddr rfl fz) ?_)
    all_goals (refine xp1 44 rfl rfl rfl rfl (by first | refine ox_load (b := b5) rfl rfl fz | refine ox_load rfl (by rfl) fz | refine ox_load_enc rfl (by first | omega | (simp; omega)) fz | refine ox_load_any rfl (by assumption) fz) ?_)
    all_goals refine op_nil ?_
    all_goals refine re_nil ?_
    all_goals first | (refine ch_run (E' := [(42, _)]) rfl (gd_r0 rfl) rfl (cov_cons rfl rfl cov_nil) ?_; (first | (refine o1_call (fun _ => r1_Pack _ r.v.ad n r.v.cap r.v.l (Rs.up hxv) q1.symm hn) rfl (fun b43 _ => ?_); rw [hV])))
    all_goals refine wk_ch ?_
    all_goals refine op_nil ?_
    all_goals (refine xq1 3 rfl rfl rfl rfl rfl (by refine o1_move rfl fz) ?_)
    all_goals (refine xq1 5 rfl rfl rfl rfl rfl (by refine o1_fieldAddr rfl fz) ?_)
    all_goals (refine xq1 44 rfl rfl rfl rfl rfl (by first | refine ox_load (b := b5) rfl rfl fz | refine ox_load rfl (by rfl) fz | refine ox_load_enc rfl (by first | omega | (simp; omega)) fz | refine ox_load_any rfl (by assumption) fz) ?_)
    all_goals refine re_nil ?_
    all_goals first | (refine ch_run (E' := [(40, _), (43, _), (45, _)]) rfl (gd_r0 rfl) rfl (cov_cons rfl rfl (cov_cons rfl rfl (cov_cons rfl rfl cov_nil))) ?_; (first | (refine o1_lit_enc (T := 39) Bs [⟨a1, c1, X⟩, ⟨some ⟨b43, 0, none⟩, nb n, V⟩, r.d] rfl rfl (by show _ = [Bs ⟨a1, c1, X⟩, Bs ⟨some ⟨b43, 0, none⟩, nb n, V⟩, Bs r.d]; simp only [Bs, hVl, q2]; rfl) (fun _ => rfl) rfl rfl rfl (fun b46 => ?_)) | refine o1_lit_B rfl rfl rfl rfl rfl (fun _ => ?_)))
    all_goals refine wk_ch ?_
    all_goals refine op_nil ?_
    all_goals refine re_nil ?_
    all_goals first | (refine ch_run (E' := [(46, _)]) rfl (gd_r0 rfl) rfl (cov_cons rfl rfl cov_nil) ?_; (first | (refine o1_call (fun hh => r1_Join _ (some ⟨b46, 0, none⟩) 3 [⟨a1, c1, X⟩, ⟨some ⟨b43, 0, none⟩, nb n, V⟩, r.d] (rx_box (T := 38) rfl (by show (3 : Nat) ≤ 9223372036854775807; decide) hh) (all3 (Q := fun s : SlD (BitVec 8) => Rs _ B s.ad s.cap s.l) (rx_row hh) (rx_box (T := 5) hVl (by show nb n ≤ _; omega) hh) (Rs.up hxd)) (by rw [hcat]; omega)) rfl (fun ⟨a47, c47⟩ _ => ?_); (try dsimp only); rw [hcat])))
    all_goals refine wk_end ?_
    all_goals (refine xp1 47 rfl rfl rfl rfl (by refine o1_assign rfl fz) ?_)
    all_goals refine op_nil ?_
    all_goals refine re_nil ?_
    all_goals dsimp only [List.cons_append, List.nil_append]
    repeat' (first | refine ls_of rfl ?_ | refine ls_of_no ?_ | refine ls_guard_yes rfl rfl ?_ | refine ls_guard_no rfl rfl rfl rfl ?_ | refine ls_guard_un rfl rfl rfl ?_ | refine o1_move rfl ?_ | refine o1_assign rfl ?_ | refine st_seq ?_ | refine st_region ?_ | refine st_block ?_ | refine st_skip ?_ | refine st_ret ?_ | refine st_exit ?_ | refine st_cond_t rfl ?_ | refine st_cond_f rfl ?_ | refine st_cond rfl (fun _ => ?_) (fun _ => ?_) | refine ls_nil ?_ | refine nx_seq ?_ | refine nx_blk ?_ | refine nx_fn ?_ | refine nx_rounds ?_ | refine xt_seq ?_ | refine xt_here ?_ | refine xt_on rfl ?_ | refine xt_rounds ?_ | refine xt_cut ?_ | refine rt_seq ?_ | refine rt_blk ?_ | refine rt_rounds ?_ | refine rt_cut ?_ | refine o1_fieldAddr rfl ?_ | refine ox_load rfl (by rfl) ?_ | refine ox_load_enc rfl (by first | omega | (simp; omega)) ?_ | refine ox_load_any rfl (by assumption) ?_ | refine o1_len rfl ?_ | refine o1_add rfl rfl (by omega) ?_ | refine o1_sub rfl rfl (by omega) ?_ | refine o1_lss_t rfl rfl (by omega) ?_ | refine o1_lss_f rfl rfl (by omega) ?_ | refine o1_lss rfl rfl (fun _ => ?_) (fun _ => ?_) | refine o1_ushr rfl rfl (by omega) ?_ | refine o1_conv_iu rfl ?_ | refine o1_lit_B rfl rfl rfl rfl rfl (fun _ => ?_) | refine o1_alloc rfl (fun _ => ?_) | refine o1_nilCheck rfl ?_ | refine ox_store_agg rfl rfl (by rfl) (by simp) (by simp [Value.oneCell']) (by simp only [putL, List.set_cons_zero, List.set_cons_succ, Nat.zero_add, Nat.reduceAdd]; rfl) ?_ | refine ox_load_agg rfl (by simp only [Nat.zero_add, Nat.reduceAdd, List.drop_zero, List.drop_succ_cons, List.take_succ_cons, List.take_zero]; rfl) (by rfl) ?_)
    refine nx_again (i + 1, a47, c47) (by show i + 1 ≤ ls.length; omega) (by show ls.length - (i + 1) < ls.length - i; omega) (cov_cons rfl (by show Value.slice a47 _ c47 = Value.slice a47 (headB n z ls.length ++ rowsL (ls.take (i + 1))).length c47; rw [hnx]) (cov_cons rfl rfl (cov_cons rfl rfl (cov_cons rfl rfl cov_nil)))) ?_
    show Ent _ [.row 5 1 (.slice a47 (headB n z ls.length ++ rowsL (ls.take (i + 1))).length c47) (headB n z ls.length ++ rowsL (ls.take (i + 1))).length ((headB n z ls.length ++ rowsL (ls.take (i + 1))).map B), .any (stars H)]
    rw [hnx]
    (try dsimp only [List.cons_append, List.nil_append, List.singleton_append, List.append_nil]); (repeat (first | exact Ent.nil | exact Ent.refl _ | (apply Ent.cons; (repeat (first | exact Sel.here | apply Sel.there)))))
  · have : i = ls.length := by omega
    subst this
    have e1 : headB n z ls.length ++ rowsL (ls.take ls.length) = R := by rw [List.take_length, rowsL_eq hM]; exact hR
    rw [e1]
    repeat' (first | refine ls_of rfl ?_ | refine ls_of_no ?_ | refine ls_guard_yes rfl rfl ?_ | refine ls_guard_no rfl rfl rfl rfl ?_ | refine ls_guard_un rfl rfl rfl ?_ | refine o1_move rfl ?_ | refine o1_assign rfl ?_ | refine st_seq ?_ | refine st_region ?_ | refine st_block ?_ | refine st_skip ?_ | refine st_ret ?_ | refine st_exit ?_ | refine st_cond_t rfl ?_ | refine st_cond_f rfl ?_ | refine st_cond rfl (fun _ => ?_) (fun _ => ?_) | refine ls_nil ?_ | refine nx_seq ?_ | refine nx_blk ?_ | refine nx_fn ?_ | refine nx_rounds ?_ | refine xt_seq ?_ | refine xt_here ?_ | refine xt_on rfl ?_ | refine xt_rounds ?_ | refine xt_cut ?_ | refine rt_seq ?_ | refine rt_blk ?_ | refine rt_rounds ?_ | refine rt_cut ?_ | refine o1_fieldAddr rfl ?_ | refine ox_load rfl (by rfl) ?_ | refine ox_load_enc rfl (by first | omega | (simp; omega)) ?_ | refine ox_load_any rfl (by assumption) ?_ | refine o1_len rfl ?_ | refine o1_add rfl rfl (by omega) ?_ | refine o1_sub rfl rfl (by omega) ?_ | refine o1_lss_t rfl rfl (by omega) ?_ | refine o1_lss_f rfl rfl (by omega) ?_ | refine o1_lss rfl rfl (fun _ => ?_) (fun _ => ?_) | refine o1_ushr rfl rfl (by omega) ?_ | refine o1_conv_iu rfl ?_ | refine o1_lit_B rfl rfl rfl rfl rfl (fun _ => ?_) | refine o1_alloc rfl (fun _ => ?_) | refine o1_nilCheck rfl ?_ | refine ox_store_agg rfl rfl (by rfl) (by simp) (by simp [Value.oneCell']) (by simp only [putL, List.set_cons_zero, List.set_cons_succ, Nat.zero_add, Nat.reduceAdd]; rfl) ?_ | refine ox_load_agg rfl (by simp only [Nat.zero_add, Nat.reduceAdd, List.drop_zero, List.drop_succ_cons, List.take_succ_cons, List.take_zero]; rfl) (by rfl) ?_)
    refine rt_tmp (a1, c1) rfl rfl rfl trivial ?_
    (try dsimp only [List.cons_append, List.nil_append, List.singleton_append, List.append_nil]); (repeat (first | exact Ent.nil | exact Ent.refl _ | (apply Ent.cons; (repeat (first | exact Sel.here | apply Sel.there)))))
theorem elim_Row_out (H : List Hl) (bm n : Nat) (i : Int) (hM : Cl (stars H) ⟨bm, 0, none⟩ (I n)) (hi : i < 0 ∨ (n : Int) ≤ i) :
    Spec Tryd.prog 39 [.pointer (some ⟨bm, 0, none⟩), I i] H (fun _ : Unit => True) (fun _ => .tuple #[.pointer none, .slice none 0 0, .bool false]) (fun _ => H) := by
  refine spec_pure (res := fun _ => []) H Tryd.func39 rfl Tryd.ntmps39 (by kernel_rfl) rfl (fun W => ?_)
  by_cases h0 : i < 0
  · repeat' (first | refine ls_of rfl ?_ | refine ls_of_no ?_ | refine ls_guard_yes rfl rfl ?_ | refine ls_guard_no rfl rfl rfl rfl ?_ | refine ls_guard_un rfl rfl rfl ?_ | refine o1_move rfl ?_ | refine o1_assign rfl ?_ | refine st_seq ?_ | refine st_region ?_ | refine st_block ?_ | refine st_skip ?_ | refine st_ret ?_ | refine st_exit ?_ | refine st_cond_t rfl ?_ | refine st_cond_f rfl ?_ | refine st_cond rfl (fun _ => ?_) (fun _ => ?_) | refine ls_nil ?_ | refine nx_seq ?_ | refine nx_blk ?_ | refine nx_fn ?_ | refine nx_rounds ?_ | refine xt_seq ?_ | refine xt_here ?_ | refine xt_on rfl ?_ | refine xt_rounds ?_ | refine xt_cut ?_ | refine rt_seq ?_ | refine rt_blk ?_ | refine rt_rounds ?_ | refine rt_cut ?_ | refine o1_peql rfl rfl ?_ | refine o1_pick_t rfl rfl ?_ | refine o1_pick_f rfl rfl ?_ | refine o1_fieldAddr rfl ?_ | refine ox_load rfl (by rfl) ?_ | refine ox_load_enc rfl (by first | omega | (simp; omega)) ?_ | refine ox_load_any rfl (by assumption) ?_ | refine o1_lss_t rfl rfl (by omega) ?_ | refine o1_lss_f rfl rfl (by omega) ?_ | refine o1_lss rfl rfl (fun _ => ?_) (fun _ => ?_) | refine o1_geq_t rfl rfl (by omega) ?_ | refine o1_geq_f rfl rfl (by omega) ?_ | refine o1_geq rfl rfl (fun _ => ?_) (fun _ => ?_) | refine o1_slice_nil rfl ?_ | refine o1_nilCheck rfl ?_)
    refine rt_tmp3 () rfl rfl rfl rfl rfl trivial ?_
    (try dsimp only [List.cons_append, List.nil_append, List.singleton_append, List.append_nil]); (repeat (first | exact Ent.nil | exact Ent.refl _ | (apply Ent.cons; (repeat (first | exact Sel.here | apply Sel.there)))))
  · repeat' (first | refine ls_of rfl ?_ | refine ls_of_no ?_ | refine ls_guard_yes rfl rfl ?_ | refine ls_guard_no rfl rfl rfl rfl ?_ | refine ls_guard_un rfl rfl rfl ?_ | refine o1_move rfl ?_ | refine o1_assign rfl ?_ | refine st_seq ?_ | refine st_region ?_ | refine st_block ?_ | refine st_skip ?_ | refine st_ret ?_ | refine st_exit ?_ | refine st_cond_t rfl ?_ | refine st_cond_f rfl ?_ | refine st_cond rfl (fun _ => ?_) (fun _ => ?_) | refine ls_nil ?_ | refine nx_seq ?_ | refine nx_blk ?_ | refine nx_fn ?_ | refine nx_rounds ?_ | refine xt_seq ?_ | refine xt_here ?_ | refine xt_on rfl ?_ | refine xt_rounds ?_ | refine xt_cut ?_ | refine rt_seq ?_ | refine rt_blk ?_ | refine rt_rounds ?_ | refine rt_cut ?_ | refine o1_peql rfl rfl ?_ | refine ox_load_any rfl hM ?_ | refine o1_pick_t rfl rfl ?_ | refine o1_pick_f rfl rfl ?_ | refine o1_fieldAddr rfl ?_ | refine ox_load rfl (by rfl) ?_ | refine ox_load_enc rfl (by first | omega | (simp; omega)) ?_ | refine ox_load_any rfl (by assumption) ?_ | refine o1_lss_t rfl rfl (by omega) ?_ | refine o1_lss_f rfl rfl (by omega) ?_ | refine o1_lss rfl rfl (fun _ => ?_) (fun _ => ?_) | refine o1_geq_t rfl rfl (by omega) ?_ | refine o1_geq_f rfl rfl (by omega) ?_ | refine o1_geq rfl rfl (fun _ => ?_) (fun _ => ?_) | refine o1_slice_nil rfl ?_ | refine o1_nilCheck rfl ?_)
    refine rt_tmp3 () rfl rfl rfl rfl rfl trivial ?_
    (try dsimp only [List.cons_append, List.nil_append, List.singleton_append, List.append_nil]); (repeat (first | exact Ent.nil | exact Ent.refl _ | (apply Ent.cons; (repeat (first | exact Sel.here | apply Sel.there)))))
theorem elim_Row_none (H : List Hl) (bm n z : Nat) (ar : Option Addr) (cr k : Nat) (M : List (Option RD)) (i : Nat) (hM : RdM (stars H) bm n z ar cr k M) (hi : i < n) (hMi : M[i]? = some none) :
    Spec Tryd.prog 39 [.pointer (some ⟨bm, 0, none⟩), I i] H (fun _ : Unit => True) (fun _ => .tuple #[.pointer none, .slice none 0 0, .bool false]) (fun _ => H) := by
  refine spec_pure (res := fun _ => []) H Tryd.func39 rfl Tryd.ntmps39 (by kernel_rfl) rfl (fun W => ?_)
  obtain ⟨l1, l2, l3, l4, l5, l6⟩ := hM.ok
  have m1 := hM.fn
  have m3 := hM.fs
  have hiM : i < M.length := by omega
  have hMi : M[i] = none := by rw [List.getElem?_eq_getElem hiM] at hMi; exact Option.some.inj hMi
  repeat' (first | refine ls_of rfl ?_ | refine ls_of_no ?_ | refine ls_guard_yes rfl rfl ?_ | refine ls_guard_no rfl rfl rfl rfl ?_ | refine ls_guard_un rfl rfl rfl ?_ | refine o1_move rfl ?_ | refine o1_assign rfl ?_ | refine st_seq ?_ | refine st_region ?_ | refine st_block ?_ | refine st_skip ?_ | refine st_ret ?_ | refine st_exit ?_ | refine st_cond_t rfl ?_ | refine st_cond_f rfl ?_ | refine st_cond rfl (fun _ => ?_) (fun _ => ?_) | refine ls_nil ?_ | refine nx_seq ?_ | refine nx_blk ?_ | refine nx_fn ?_ | refine nx_rounds ?_ | refine xt_seq ?_ | refine xt_here ?_ | refine xt_on rfl ?_ | refine xt_rounds ?_ | refine xt_cut ?_ | refine rt_seq ?_ | refine rt_blk ?_ | refine rt_rounds ?_ | refine rt_cut ?_ | refine o1_peql rfl rfl ?_ | refine ox_load_any rfl m1 ?_ | refine ox_load_any rfl m3 ?_ | refine o1_ia (ad := ar) (c := cr) i rfl rfl hM.fr l1.symm rfl hiM ?_ | (refine o1_load_ia (ad := ar) (c := cr) i rfl hM.fr hiM ?_; rw [hMi]) | refine o1_pick_t rfl rfl ?_ | refine o1_pick_f rfl rfl ?_ | refine o1_fieldAddr rfl ?_ | refine ox_load rfl (by rfl) ?_ | refine ox_load_enc rfl (by first | omega | (simp; omega)) ?_ | refine ox_load_any rfl (by assumption) ?_ | refine o1_lss_t rfl rfl (by omega) ?_ | refine o1_lss_f rfl rfl (by omega) ?_ | refine o1_lss rfl rfl (fun _ => ?_) (fun _ => ?_) | refine o1_geq_t rfl rfl (by omega) ?_ | refine o1_geq_f rfl rfl (by omega) ?_ | refine o1_geq rfl rfl (fun _ => ?_) (fun _ => ?_) | refine o1_slice_nil rfl ?_ | refine o1_nilCheck rfl ?_)
  refine rt_tmp3 () rfl rfl rfl rfl rfl trivial ?_
  (try dsimp only [List.cons_append, List.nil_append, List.singleton_append, List.append_nil]); (repeat (first | exact Ent.nil | exact Ent.refl _ | (apply Ent.cons; (repeat (first | exact Sel.here | apply Sel.there)))))
theorem elim_Row (H : List Hl) (bm n z : Nat) (ar : Option Addr) (cr k : Nat) (M : List (Option RD)) (i : Nat) (q : RD) (hM : RdM (stars H) bm n z ar cr k M) (hi : i < n) (hMi : M[i]? = some (some q)) :
    Spec Tryd.prog 39 [.pointer (some ⟨bm, 0, none⟩), I i] H (fun _ : (Nat × Option Addr × Nat) × Option Addr × Nat => True) (fun r => .tuple #[.pointer (some ⟨r.1.1, 0, none⟩), .slice r.2.1 z r.2.2, .bool true]) (fun r => .row 5 1 (.slice r.2.1 z r.2.2) z (q.d.map B) :: vB r.1.1 n r.1.2.1 r.1.2.2 :: vR n r.1.2.1 r.1.2.2 q.v.l :: H) := by
  refine spec_pure (res := fun r : (Nat × Option Addr × Nat) × Option Addr × Nat => [.row 5 1 (.slice r.2.1 z r.2.2) z (q.d.map B), vB r.1.1 n r.1.2.1 r.1.2.2, vR n r.1.2.1 r.1.2.2 q.v.l]) H Tryd.func39 rfl Tryd.ntmps39 (by kernel_rfl) rfl (fun W => ?_)
  obtain ⟨l1, l2, l3, l4, l5, l6⟩ := hM.ok
  have m1 := hM.fn
  have m3 := hM.fs
  have hiM : i < M.length := by omega
  have hMi : M[i] = some q := by rw [List.getElem?_eq_getElem hiM] at hMi; exact Option.some.inj hMi
  have hqm : some q ∈ M := hMi ▸ List.getElem_mem hiM
  have hq := hM.fm q hqm
  obtain ⟨hq1, hq2, hq3⟩ := l6 q hqm
  have hqp := hq.p
  have hqs := hq.s
  have hqd := hq.d
  have hqz := hq.z
  repeat' (first | refine ls_of rfl ?_ | refine ls_of_no ?_ | refine ls_guard_yes rfl rfl ?_ | refine ls_guard_no rfl rfl rfl rfl ?_ | refine ls_guard_un rfl rfl rfl ?_ | refine o1_move rfl ?_ | refine o1_assign rfl ?_ | refine st_seq ?_ | refine st_region ?_ | refine st_block ?_ | refine st_skip ?_ | refine st_ret ?_ | refine st_exit ?_ | refine st_cond_t rfl ?_ | refine st_cond_f rfl ?_ | refine st_cond rfl (fun _ => ?_) (fun _ => ?_) | refine ls_nil ?_ | refine nx_seq ?_ | refine nx_blk ?_ | refine nx_fn ?_ | refine nx_rounds ?_ | refine xt_seq ?_ | refine xt_here ?_ | refine xt_on rfl ?_ | refine xt_rounds ?_ | refine xt_cut ?_ | refine rt_seq ?_ | refine rt_blk ?_ | refine rt_rounds ?_ | refine rt_cut ?_ | refine o1_peql rfl rfl ?_ | refine ox_load_any rfl m1 ?_ | refine ox_load_any rfl m3 ?_ | refine o1_ia (ad := ar) (c := cr) i rfl rfl hM.fr l1.symm rfl hiM ?_ | (refine o1_load_ia (ad := ar) (c := cr) i rfl hM.fr hiM ?_; rw [hMi]) | refine o1_pick_t rfl rfl ?_ | refine o1_pick_f rfl rfl ?_ | refine o1_fieldAddr rfl ?_ | refine ox_load rfl (by rfl) ?_ | refine ox_load_enc rfl (by first | omega | (simp; omega)) ?_ | refine ox_load_any rfl (by assumption) ?_ | refine o1_lss_t rfl rfl (by omega) ?_ | refine o1_lss_f rfl rfl (by omega) ?_ | refine o1_lss rfl rfl (fun _ => ?_) (fun _ => ?_) | refine o1_geq_t rfl rfl (by omega) ?_ | refine o1_geq_f rfl rfl (by omega) ?_ | refine o1_geq rfl rfl (fun _ => ?_) (fun _ => ?_) | refine o1_slice_nil rfl ?_ | refine o1_nilCheck rfl ?_)
  refine st_stages [(0, _), (1, _)] rtY4_2 [10, 21] [⟨[0, 1, 2, 3, 4, 5, 6, 7, 8, 9, 11, 12, 13, 14, 15, 16, 17, 18, 19, 20], [], some 10⟩, ⟨[], [11, 12, 13, 14, 15, 16, 17, 18, 19, 20], some 21⟩, ⟨[22, 23, 24], [], none⟩] mixed (cov_cons rfl rfl (cov_cons rfl rfl cov_nil)) (by kernel_rfl) (by kernel_rfl) ?_
  all_goals refine wk_ch ?_
  all_goals (refine xp1 0 rfl rfl rfl rfl (by refine o1_move rfl fz) ?_)
  all_goals (refine xp1 31 rfl rfl rfl rfl (by refine o1_nilCheck rfl fz) ?_)
  all_goals (refine xp1 32 rfl rfl rfl rfl (by refine o1_fieldAddr rfl fz) ?_)
  all_goals (refine xp1 33 rfl rfl rfl rfl (by first | refine ox_load_any rfl m3 fz | refine ox_load_any rfl hqp fz | refine ox_load_any rfl hqs fz | ((refine o1_load_ia (ad := ar) (c := cr) i rfl hM.fr hiM ?_; rw [hMi]); all_goals exact fz) | refine ox_load rfl (by rfl) fz | refine ox_load_enc rfl (by first | omega | (simp; omega)) fz | refine ox_load_any rfl (by assumption) fz) ?_)
  all_goals (refine xp1 1 rfl rfl rfl rfl (by refine o1_move rfl fz) ?_)
  all_goals (refine xp2 34 35 rfl rfl rfl rfl rfl (by refine o1_ia (ad := ar) (c := cr) i rfl rfl hM.fr l1.symm rfl hiM fz) ?_)
  all_goals (refine xp1 36 rfl rfl rfl rfl (by first | refine ox_load_any rfl m3 fz | refine ox_load_any rfl hqp fz | refine ox_load_any rfl hqs fz | ((refine o1_load_ia (ad := ar) (c := cr) i rfl hM.fr hiM ?_; rw [hMi]); all_goals exact fz) | refine ox_load rfl (by rfl) fz | refine ox_load_enc rfl (by first | omega | (simp; omega)) fz | refine ox_load_any rfl (by assumption) fz) ?_)
  all_goals (refine xp1 37 rfl rfl rfl rfl (by refine o1_nilCheck rfl fz) ?_)
  all_goals (refine xp1 38 rfl rfl rfl rfl (by refine o1_fieldAddr rfl fz) ?_)
  all_goals (refine xp1 39 rfl rfl rfl rfl (by first | refine ox_load_any rfl m3 fz | refine ox_load_any rfl hqp fz | refine ox_load_any rfl hqs fz | ((refine o1_load_ia (ad := ar) (c := cr) i rfl hM.fr hiM ?_; rw [hMi]); all_goals exact fz) | refine ox_load rfl (by rfl) fz | refine ox_load_enc rfl (by first | omega | (simp; omega)) fz | refine ox_load_any rfl (by assumption) fz) ?_)
  all_goals (refine xp1 0 rfl rfl rfl rfl (by refine o1_move rfl fz) ?_)
  all_goals (refine xp1 42 rfl rfl rfl rfl (by refine o1_nilCheck rfl fz) ?_)
  all_goals (refine xp1 43 rfl rfl rfl rfl (by refine o1_fieldAddr rfl fz) ?_)
  all_goals (refine xp1 44 rfl rfl rfl rfl (by first | refine ox_load_any rfl m3 fz | refine ox_load_any rfl hqp fz | refine ox_load_any rfl hqs fz | ((refine o1_load_ia (ad := ar) (c := cr) i rfl hM.fr hiM ?_; rw [hMi]); all_goals exact fz) | refine ox_load rfl (by rfl) fz | refine ox_load_enc rfl (by first | omega | (simp; omega)) fz | refine ox_load_any rfl (by assumption) fz) ?_)
  all_goals (refine xp1 1 rfl rfl rfl rfl (by refine o1_move rfl fz) ?_)
  all_goals (refine xp2 45 46 rfl rfl rfl rfl rfl (by refine o1_ia (ad := ar) (c := cr) i rfl rfl hM.fr l1.symm rfl hiM fz) ?_)
  all_goals (refine xp1 47 rfl rfl rfl rfl (by first | refine ox_load_any rfl m3 fz | refine ox_load_any rfl hqp fz | refine ox_load_any rfl hqs fz | ((refine o1_load_ia (ad := ar) (c := cr) i rfl hM.fr hiM ?_; rw [hMi]); all_goals exact fz) | refine ox_load rfl (by rfl) fz | refine ox_load_enc rfl (by first | omega | (simp; omega)) fz | refine ox_load_any rfl (by assumption) fz) ?_)
  all_goals (refine xp1 48 rfl rfl rfl rfl (by refine o1_nilCheck rfl fz) ?_)
  all_goals (refine xp1 49 rfl rfl rfl rfl (by refine o1_fieldAddr rfl fz) ?_)
  all_goals (refine xp1 50 rfl rfl rfl rfl (by first | refine ox_load_any rfl m3 fz | refine ox_load_any rfl hqp fz | refine ox_load_any rfl hqs fz | ((refine o1_load_ia (ad := ar) (c := cr) i rfl hM.fr hiM ?_; rw [hMi]); all_goals exact fz) | refine ox_load rfl (by rfl) fz | refine ox_load_enc rfl (by first | omega | (simp; omega)) fz | refine ox_load_any rfl (by assumption) fz) ?_)
  all_goals refine op_nil ?_
  all_goals refine re_nil ?_
  all_goals first | (refine ch_run (E' := [(40, _)]) rfl (gd_r0 rfl) rfl (cov_cons rfl rfl cov_nil) ?_; (first | (refine o1_call (fun _ => vec_Copy _ q.v (RdV.up hq.v)) rfl (fun ⟨b41, a41, c41⟩ _ => ?_); dsimp only; rw [hq2])))
  all_goals refine wk_ch ?_
  all_goals refine op_nil ?_
  all_goals (refine xq1 0 rfl rfl rfl rfl rfl (by refine o1_move rfl fz) ?_)
  all_goals (refine xq1 42 rfl rfl rfl rfl rfl (by refine o1_nilCheck rfl fz) ?_)
  all_goals (refine xq1 43 rfl rfl rfl rfl rfl (by refine o1_fieldAddr rfl fz) ?_)
  all_goals (refine xq1 44 rfl rfl rfl rfl rfl (by first | refine ox_load_any rfl m3 fz | refine ox_load_any rfl hqp fz | refine ox_load_any rfl hqs fz | ((refine o1_load_ia (ad := ar) (c := cr) i rfl hM.fr hiM ?_; rw [hMi]); all_goals exact fz) | refine ox_load rfl (by rfl) fz | refine ox_load_enc rfl (by first | omega | (simp; omega)) fz | refine ox_load_any rfl (by assumption) fz) ?_)
  all_goals (refine xq1 1 rfl rfl rfl rfl rfl (by refine o1_move rfl fz) ?_)
  all_goals (refine xq2 45 46 rfl rfl rfl rfl rfl rfl (by refine o1_ia (ad := ar) (c := cr) i rfl rfl hM.fr l1.symm rfl hiM fz) ?_)
  all_goals (refine xq1 47 rfl rfl rfl rfl rfl (by first | refine ox_load_any rfl m3 fz | refine ox_load_any rfl hqp fz | refine ox_load_any rfl hqs fz | ((refine o1_load_ia (ad := ar) (c := cr) i rfl hM.fr hiM ?_; rw [hMi]); all_goals exact fz) | refine ox_load rfl (by rfl) fz | refine ox_load_enc rfl (by first | omega | (simp; omega)) fz | refine ox_load_any rfl (by assumption) fz) ?_)
  all_goals (refine xq1 48 rfl rfl rfl rfl rfl (by refine o1_nilCheck rfl fz) ?_)
  all_goals (refine xq1 49 rfl rfl rfl rfl rfl (by refine o1_fieldAddr rfl fz) ?_)
  all_goals (refine xq1 50 rfl rfl rfl rfl rfl (by first | refine ox_load_any rfl m3 fz | refine ox_load_any rfl hqp fz | refine ox_load_any rfl hqs fz | ((refine o1_load_ia (ad := ar) (c := cr) i rfl hM.fr hiM ?_; rw [hMi]); all_goals exact fz) | refine ox_load rfl (by rfl) fz | refine ox_load_enc rfl (by first | omega | (simp; omega)) fz | refine ox_load_any rfl (by assumption) fz) ?_)
  all_goals refine re_nil ?_
  all_goals first | (refine ch_run (E' := [(51, _)]) rfl (gd_r0 rfl) rfl (cov_cons rfl rfl cov_nil) ?_; (first | (refine o1_call (fun _ => clone_B _ q.ad q.z q.cd q.d (Rs.up hqd) hqz.symm (by omega)) rfl (fun ⟨a52, c52⟩ _ => ?_); dsimp only; rw [hq3])))
  all_goals refine wk_end ?_
  all_goals (refine xp1 41 rfl rfl rfl rfl (by refine o1_assign rfl fz) ?_)
  all_goals (refine xp1 52 rfl rfl rfl rfl (by refine o1_assign rfl fz) ?_)
  all_goals (refine xp0 rfl rfl rfl (by refine o1_assign rfl fz) ?_)
  all_goals refine op_nil ?_
  all_goals refine re_nil ?_
  all_goals dsimp only [List.cons_append, List.nil_append]
  repeat' (first | refine ls_of rfl ?_ | refine ls_of_no ?_ | refine ls_guard_yes rfl rfl ?_ | refine ls_guard_no rfl rfl rfl rfl ?_ | refine ls_guard_un rfl rfl rfl ?_ | refine o1_move rfl ?_ | refine o1_assign rfl ?_ | refine st_seq ?_ | refine st_region ?_ | refine st_block ?_ | refine st_skip ?_ | refine st_ret ?_ | refine st_exit ?_ | refine st_cond_t rfl ?_ | refine st_cond_f rfl ?_ | refine st_cond rfl (fun _ => ?_) (fun _ => ?_) | refine ls_nil ?_ | refine nx_seq ?_ | refine nx_blk ?_ | refine nx_fn ?_ | refine nx_rounds ?_ | refine xt_seq ?_ | refine xt_here ?_ | refine xt_on rfl ?_ | refine xt_rounds ?_ | refine xt_cut ?_ | refine rt_seq ?_ | refine rt_blk ?_ | refine rt_rounds ?_ | refine rt_cut ?_ | refine o1_pick_t rfl rfl ?_ | refine o1_pick_f rfl rfl ?_ | refine o1_fieldAddr rfl ?_ | refine ox_load rfl (by rfl) ?_ | refine ox_load_enc rfl (by first | omega | (simp; omega)) ?_ | refine ox_load_any rfl (by assumption) ?_ | refine o1_lss_t rfl rfl (by omega) ?_ | refine o1_lss_f rfl rfl (by omega) ?_ | refine o1_lss rfl rfl (fun _ => ?_) (fun _ => ?_) | refine o1_geq_t rfl rfl (by omega) ?_ | refine o1_geq_f rfl rfl (by omega) ?_ | refine o1_geq rfl rfl (fun _ => ?_) (fun _ => ?_) | refine o1_slice_nil rfl ?_ | refine o1_nilCheck rfl ?_)
  refine rt_tmp3 ((b41, a41, c41), (a52, c52)) rfl rfl rfl rfl rfl trivial ?_
  (try dsimp only [List.cons_append, List.nil_append, List.singleton_append, List.append_nil]); (repeat (first | exact Ent.nil | exact Ent.refl _ | (apply Ent.cons; (repeat (first | exact Sel.here | apply Sel.there)))))
end Go.Dp

set_option linter.unusedVariables false
set_option linter.unusedSimpArgs false
namespace Go.Dp
/-- A bit of what is left of w. -/
def rd (n : Nat) (M : List (Option LN)) (w : List Bool) (k : Nat) : Bool := at_ w k ^^ xsB (fun j => at_ w j && rowAt M j k) n
/-- w is spanned. -/
def sp (n : Nat) (M : List (Option LN)) (w : List Bool) : Prop := ∀ k, rd n M w k = false
/-! Two reduced matrices of the same span are the same. -/
/-! Rows added one by one. -/
end Go.Dp

set_option linter.unusedVariables false
set_option linter.unusedSimpArgs false
namespace Go.Dp
end Go.Dp

set_option linter.unusedVariables false
set_option linter.unusedSimpArgs false
namespace Go.Dp
open Go.RowKit Go.Proofs
/-! The pieces. -/
def p0 (seed : BitVec 8) (i : Nat) : BitVec 8 := BitVec.ofInt 8 (i : Int) * 37#8 + seed
def p1 (seed : BitVec 8) (i : Nat) : BitVec 8 := BitVec.ofInt 8 (i : Int) ^^^ seed
end Go.Dp

set_option linter.unusedVariables false
set_option linter.unusedSimpArgs false
namespace Go.Dp
open Go.RowKit Go.Proofs
def rtY5_0 : List Row := [⟨some 13, [], [], none⟩, ⟨some 14, [0], [0], none⟩, ⟨some 15, [], [], none⟩, ⟨some 16, [2], [2], none⟩, ⟨some 17, [3], [2, 3], none⟩, ⟨some 18, [4], [2, 3, 4], none⟩, ⟨some 19, [5], [2, 3, 4, 5], none⟩, ⟨some 20, [1, 6], [0, 1, 2, 3, 4, 5, 6], none⟩, ⟨some 21, [7, 1], [0, 1, 2, 3, 4, 5, 6, 7], none⟩, ⟨some 22, [8], [0, 1, 2, 3, 4, 5, 6, 7, 8], some (8, false)⟩, ⟨some 23, [9, 8, 8], [0, 1, 2, 3, 4, 5, 6, 7, 8, 9], some (8, false)⟩, ⟨some 24, [8], [0, 1, 2, 3, 4, 5, 6, 7, 8], some (8, false)⟩, ⟨some 25, [11, 8], [0, 1, 2, 3, 4, 5, 6, 7, 8, 11], some (8, false)⟩, ⟨some 26, [12, 8], [0, 1, 2, 3, 4, 5, 6, 7, 8, 11, 12], some (8, false)⟩, ⟨some 27, [13, 8], [0, 1, 2, 3, 4, 5, 6, 7, 8, 11, 12, 13], some (8, false)⟩, ⟨some 28, [14, 8], [0, 1, 2, 3, 4, 5, 6, 7, 8, 11, 12, 13, 14], some (8, false)⟩, ⟨some 29, [8], [0, 1, 2, 3, 4, 5, 6, 7, 8], some (8, false)⟩, ⟨some 30, [16, 8], [0, 1, 2, 3, 4, 5, 6, 7, 8, 16], some (8, false)⟩, ⟨some 31, [17, 8], [0, 1, 2, 3, 4, 5, 6, 7, 8, 16, 17], some (8, false)⟩, ⟨some 32, [18, 8], [0, 1, 2, 3, 4, 5, 6, 7, 8, 16, 17, 18], some (8, false)⟩, ⟨some 33, [15, 19, 8], [0, 1, 2, 3, 4, 5, 6, 7, 8, 11, 12, 13, 14, 15, 16, 17, 18, 19], some (8, false)⟩, ⟨some 34, [10, 20, 8], [0, 1, 2, 3, 4, 5, 6, 7, 8, 9, 10, 11, 12, 13, 14, 15, 16, 17, 18, 19, 20], some (8, false)⟩, ⟨some 35, [8, 21], [0, 1, 2, 3, 4, 5, 6, 7, 8, 9, 10, 11, 12, 13, 14, 15, 16, 17, 18, 19, 20, 21], none⟩, ⟨some 36, [22, 10], [0, 1, 2, 3, 4, 5, 6, 7, 8, 9, 10, 11, 12, 13, 14, 15, 16, 17, 18, 19, 20, 21, 22], none⟩, ⟨some 37, [23], [0, 1, 2, 3, 4, 5, 6, 7, 8, 9, 10, 11, 12, 13, 14, 15, 16, 17, 18, 19, 20, 21, 22, 23], some (23, false)⟩, ⟨some 38, [24, 23, 23], [0, 1, 2, 3, 4, 5, 6, 7, 8, 9, 10, 11, 12, 13, 14, 15, 16, 17, 18, 19, 20, 21, 22, 23, 24], some (23, false)⟩, ⟨some 39, [25, 23], [0, 1, 2, 3, 4, 5, 6, 7, 8, 9, 10, 11, 12, 13, 14, 15, 16, 17, 18, 19, 20, 21, 22, 23, 24, 25], some (23, false)⟩, ⟨some 40, [23], [0, 1, 2, 3, 4, 5, 6, 7, 8, 9, 10, 11, 12, 13, 14, 15, 16, 17, 18, 19, 20, 21, 22, 23], some (23, false)⟩, ⟨some 41, [27, 25, 23], [0, 1, 2, 3, 4, 5, 6, 7, 8, 9, 10, 11, 12, 13, 14, 15, 16, 17, 18, 19, 20, 21, 22, 23, 24, 25, 27], some (23, false)⟩, ⟨some 42, [28, 23], [0, 1, 2, 3, 4, 5, 6, 7, 8, 9, 10, 11, 12, 13, 14, 15, 16, 17, 18, 19, 20, 21, 22, 23, 24, 25, 27, 28], some (23, false)⟩, ⟨some 43, [26, 29, 23], [0, 1, 2, 3, 4, 5, 6, 7, 8, 9, 10, 11, 12, 13, 14, 15, 16, 17, 18, 19, 20, 21, 22, 23, 24, 25, 26, 27, 28, 29], some (23, false)⟩, ⟨some 44, [23, 30], [0, 1, 2, 3, 4, 5, 6, 7, 8, 9, 10, 11, 12, 13, 14, 15, 16, 17, 18, 19, 20, 21, 22, 23, 24, 25, 26, 27, 28, 29, 30], none⟩]
def rtY5_1 : List Row := [⟨some 79, [], [], none⟩, ⟨some 80, [0], [0], none⟩, ⟨some 81, [1], [0, 1], none⟩, ⟨some 82, [2], [0, 1, 2], some (2, false)⟩, ⟨some 83, [2], [0, 1, 2], some (2, false)⟩, ⟨some 84, [4, 2], [0, 1, 2, 4], some (2, false)⟩, ⟨some 85, [5, 2], [0, 1, 2, 4, 5], some (2, false)⟩, ⟨some 86, [6, 2], [0, 1, 2, 4, 5, 6], some (2, false)⟩, ⟨some 87, [2], [0, 1, 2], some (2, false)⟩, ⟨some 88, [7, 8, 2], [0, 1, 2, 4, 5, 6, 7, 8], some (2, false)⟩, ⟨some 89, [9, 2], [0, 1, 2, 4, 5, 6, 7, 8, 9], some (2, false)⟩, ⟨some 90, [10, 2], [0, 1, 2, 4, 5, 6, 7, 8, 9, 10], some (2, false)⟩, ⟨some 91, [3, 11, 2, 2], [0, 1, 2, 3, 4, 5, 6, 7, 8, 9, 10, 11], some (2, false)⟩, ⟨some 92, [12, 2], [0, 1, 2, 3, 4, 5, 6, 7, 8, 9, 10, 11, 12], some (2, false)⟩, ⟨some 93, [2, 13], [0, 1, 2, 3, 4, 5, 6, 7, 8, 9, 10, 11, 12, 13], none⟩, ⟨some 94, [14, 12], [0, 1, 2, 3, 4, 5, 6, 7, 8, 9, 10, 11, 12, 13, 14], none⟩, ⟨some 95, [15], [0, 1, 2, 3, 4, 5, 6, 7, 8, 9, 10, 11, 12, 13, 14, 15], some (15, false)⟩, ⟨some 96, [16, 15], [0, 1, 2, 3, 4, 5, 6, 7, 8, 9, 10, 11, 12, 13, 14, 15, 16], some (15, false)⟩, ⟨some 97, [15], [0, 1, 2, 3, 4, 5, 6, 7, 8, 9, 10, 11, 12, 13, 14, 15], some (15, false)⟩, ⟨some 98, [18, 15], [0, 1, 2, 3, 4, 5, 6, 7, 8, 9, 10, 11, 12, 13, 14, 15, 18], some (15, false)⟩, ⟨some 99, [19, 15], [0, 1, 2, 3, 4, 5, 6, 7, 8, 9, 10, 11, 12, 13, 14, 15, 18, 19], some (15, false)⟩, ⟨some 100, [20, 15], [0, 1, 2, 3, 4, 5, 6, 7, 8, 9, 10, 11, 12, 13, 14, 15, 18, 19, 20], some (15, false)⟩, ⟨some 101, [15], [0, 1, 2, 3, 4, 5, 6, 7, 8, 9, 10, 11, 12, 13, 14, 15], some (15, false)⟩, ⟨some 102, [21, 22, 15], [0, 1, 2, 3, 4, 5, 6, 7, 8, 9, 10, 11, 12, 13, 14, 15, 18, 19, 20, 21, 22], some (15, false)⟩, ⟨some 103, [23, 15], [0, 1, 2, 3, 4, 5, 6, 7, 8, 9, 10, 11, 12, 13, 14, 15, 18, 19, 20, 21, 22, 23], some (15, false)⟩, ⟨some 104, [24, 15], [0, 1, 2, 3, 4, 5, 6, 7, 8, 9, 10, 11, 12, 13, 14, 15, 18, 19, 20, 21, 22, 23, 24], some (15, false)⟩, ⟨some 105, [25, 15], [0, 1, 2, 3, 4, 5, 6, 7, 8, 9, 10, 11, 12, 13, 14, 15, 18, 19, 20, 21, 22, 23, 24, 25], some (15, false)⟩, ⟨some 106, [17, 26, 15], [0, 1, 2, 3, 4, 5, 6, 7, 8, 9, 10, 11, 12, 13, 14, 15, 16, 17, 18, 19, 20, 21, 22, 23, 24, 25, 26], some (15, false)⟩, ⟨some 107, [15, 27], [0, 1, 2, 3, 4, 5, 6, 7, 8, 9, 10, 11, 12, 13, 14, 15, 16, 17, 18, 19, 20, 21, 22, 23, 24, 25, 26, 27], none⟩]
section
variable {P : Program} {n : Nat} {H : List Hl} {e : Ev} {C : Value → List Hl → Prop} {ty : TypeId} {x : Operand} {α : Type} {A : Hp → Prop} {f g : α → Value} {ad : Option Addr} {c : Nat} {xs : List α}
theorem o1_fieldAddr_w {T ft : TypeId} {j off : Nat} [hf : TFld P T j off ft] {p : Addr} (hx : opd e x = some (.pointer (some p)))
    (h : C (.pointer (some (p.add off))) H) : O1 P (.fieldAddr T x j) ty n e H C :=
  o1_val _ (fun a w ho => by
    obtain ⟨fs, f, hu, hj, ho', _, hs⟩ := hf.u
    cases hq : P.info? f.type with
    | none => simp [hq] at hs
    | some q =>
      have hq0 : q.size ≠ 0 := by simpa [hq] using hs
      subst ho'
      simp [execOp, ho.ev.eval hx, Instr.fieldAt, Instr.sureAddr, run_underlying hu, hj, fieldPlace, sizeOf, typeInfo, hq, hq0]) h
theorem R2.at0 (h : R2 A f g ad c xs) {i : Nat} {v : α} (hv : xs[i]? = some v) : Cl A ((idxA ad (i * 2)).add 0) (f v) := ⟨fun w hw => by
  have hl : i < xs.length := (List.getElem?_eq_some_iff.1 hv).1
  obtain ⟨a0, rfl⟩ := h.sm (by omega)
  have := (h.cell w hw a0 rfl i v hv).1
  show w.cell? ((a0.add (i * 2)).add 0) = _
  rw [add_add]
  exact this⟩
theorem R2.at1 (h : R2 A f g ad c xs) {i : Nat} {v : α} (hv : xs[i]? = some v) : Cl A ((idxA ad (i * 2)).add 1) (g v) := ⟨fun w hw => by
  have hl : i < xs.length := (List.getElem?_eq_some_iff.1 hv).1
  obtain ⟨a0, rfl⟩ := h.sm (by omega)
  have := (h.cell w hw a0 rfl i v hv).2
  show w.cell? ((a0.add (i * 2)).add 1) = _
  rw [add_add]
  exact this⟩
end
set_option maxHeartbeats 8000000 in
theorem law6_like (H : List Hl) (bm n z : Nat) (ar : Option Addr) (cr k : Nat) (M : List (Option RD)) (ML : List (Option LN)) (b : Nat) (ad : Option Addr) (c : Nat) (ls : List LnD) (hM : RdM (stars H) bm n z ar cr k M) (hML : M.map vw = ML) (hRR : RR n z ML) (hk : cntS ML = k) (hb0 : Cl (stars H) ⟨b, 0, none⟩ (I n)) (hb1 : Cl (stars H) ⟨b, 1, none⟩ (I z)) (hb2 : Cl (stars H) ⟨b, 2, none⟩ (.slice ad ls.length c)) (hL : RdL (stars H) n z ad c ls) (hls : ls.map lnV = cmp ML) (hn : n ≤ 256) (hz : z ≤ 16) (ht : TabF (stars H)) :
    Spec Tryd.prog 47 [.pointer (some ⟨bm, 0, none⟩), .pointer (some ⟨b, 0, none⟩)] H (fun _ : Unit => True) (fun _ => .bool true) (fun _ => H) := by
  refine spec_pure (res := fun _ => []) H Tryd.func47 rfl Tryd.ntmps47 (by kernel_rfl) rfl (fun W => ?_)
  have hll : ls.length = k := by
    have h1 := congrArg List.length hls
    rw [List.length_map, cmp_len, hk] at h1
    exact h1
  have hMLl : ML.length = n := hRR.lok.len
  have hk2 : k ≤ n := by
    have := cntS_le ML
    omega
  have m1 := hM.fk
  have m0 := hM.fn
  have hr := hL.r
  have b3 := hr.le
  have b4 := hr.big
  have hok : ∀ y ∈ ls.map lnV, LRow n z y := fun y hy => cmp_row hRR (hls ▸ hy)
  obtain ⟨R, hR⟩ : ∃ R, matB n z k ML = R := ⟨_, rfl⟩
  have hkn : decide ((k : Int) = n) = decide ((ls.length : Int) = n) := by rw [hll]
  obtain ⟨fb, hfb⟩ : ∃ fb, decide ((k : Int) = n) = fb := ⟨_, rfl⟩
  repeat' (first | refine ls_of rfl ?_ | refine ls_of_no ?_ | refine ls_guard_yes rfl rfl ?_ | refine ls_guard_no rfl rfl rfl rfl ?_ | refine ls_guard_un rfl rfl rfl ?_ | refine o1_move rfl ?_ | refine o1_assign rfl ?_ | refine st_seq ?_ | refine st_region ?_ | refine st_block ?_ | refine st_skip ?_ | refine st_ret ?_ | refine st_exit ?_ | refine st_cond_t rfl ?_ | refine st_cond_f rfl ?_ | refine st_cond rfl (fun _ => ?_) (fun _ => ?_) | refine ls_nil ?_ | refine nx_seq ?_ | refine nx_blk ?_ | refine nx_fn ?_ | refine nx_rounds ?_ | refine xt_seq ?_ | refine xt_here ?_ | refine xt_on rfl ?_ | refine xt_rounds ?_ | refine xt_cut ?_ | refine rt_seq ?_ | refine rt_blk ?_ | refine rt_rounds ?_ | refine rt_cut ?_ | refine o1_pick_t rfl rfl ?_ | refine o1_pick_f rfl rfl ?_ | refine o1_extract rfl rfl ?_ | refine o1_fieldAddr rfl ?_ | refine ox_load rfl (by rfl) ?_ | refine ox_load_enc rfl (by first | omega | (simp; omega)) ?_ | refine ox_load_any rfl (by assumption) ?_ | refine o1_len rfl ?_ | refine o1_add rfl rfl (by omega) ?_ | refine o1_lss_t rfl rfl (by omega) ?_ | refine o1_lss_f rfl rfl (by omega) ?_ | refine o1_lss rfl rfl (fun _ => ?_) (fun _ => ?_) | refine o1_gtr_t rfl rfl (by omega) ?_ | refine o1_gtr_f rfl rfl (by omega) ?_ | refine o1_gtr rfl rfl (fun _ => ?_) (fun _ => ?_) | refine o1_eql_t rfl rfl (by omega) ?_ | refine o1_eql_f rfl rfl (by omega) ?_ | refine o1_eql rfl rfl (fun _ => ?_) (fun _ => ?_) | refine o1_neq_t rfl rfl (by omega) ?_ | refine o1_neq_f rfl rfl (by omega) ?_ | refine o1_neq rfl rfl (fun _ => ?_) (fun _ => ?_) | refine o1_bnot rfl ?_ | refine o1_unot rfl ?_ | refine o1_neqb rfl rfl ?_ | refine o1_string rfl (by rfl) rx_row ?_ | refine o1_string rfl (by rfl) (rx_any (by assumption)) ?_ | refine o1_slice_nil rfl ?_ | refine o1_nilCheck rfl ?_)
  refine st_stages [(0, _), (1, _)] rtY5_0 [1, 10, 25, 28] [⟨[0, 2, 3, 4, 5, 6], [], some 1⟩, ⟨[7, 8, 9, 11, 12, 13, 14, 15, 16, 17, 18, 19, 20], [2, 3, 4, 5, 6], some 10⟩, ⟨[21, 22, 23, 24, 27], [11, 12, 13, 14, 15, 16, 17, 18, 19, 20], some 25⟩, ⟨[26], [27], some 28⟩, ⟨[29, 30, 31], [26], none⟩] mixed (cov_cons rfl rfl (cov_cons rfl rfl cov_nil)) (by kernel_rfl) (by kernel_rfl) ?_
  all_goals refine wk_ch ?_
  all_goals (refine xp1 0 rfl rfl rfl rfl (by refine o1_move rfl fz) ?_)
  all_goals (refine xp1 1 rfl rfl rfl rfl (by refine o1_move rfl fz) ?_)
  all_goals (refine xp1 15 rfl rfl rfl rfl (by refine o1_nilCheck rfl fz) ?_)
  all_goals (refine xp1 16 rfl rfl rfl rfl (by refine o1_fieldAddr rfl fz) ?_)
  all_goals (refine xp1 17 rfl rfl rfl rfl (by first | refine ox_load_any rfl hb0 fz | refine ox_load_any rfl hb2 fz | refine ox_load rfl (by rfl) fz | refine ox_load_enc rfl (by first | omega | (simp; omega)) fz | refine ox_load_any rfl (by assumption) fz) ?_)
  all_goals (refine xp1 18 rfl rfl rfl rfl (by refine o1_len rfl fz) ?_)
  all_goals refine op_nil ?_
  all_goals refine re_nil ?_
  all_goals first | (refine ch_run (E' := [(13, _)]) rfl (gd_r0 rfl) rfl (cov_cons rfl rfl cov_nil) ?_; (first | (refine o1_call (fun _ => elim_Rank _ bm k (cl_up m1)) rfl (fun _ _ => ?_))))
  all_goals refine wk_ch ?_
  all_goals (refine xp2 14 19 rfl rfl rfl rfl rfl (by first | refine o1_neq_f rfl rfl (by omega) fz | refine o1_neq_t rfl rfl (by omega) fz | refine o1_neq_f rfl rfl (by omega) fz | refine o1_neq_d rfl rfl fz) ?_)
  all_goals (refine xp1 20 rfl rfl rfl rfl (by refine o1_move rfl fz) ?_)
  all_goals first | (refine xpo1 rfl rfl rfl rfl ?_) | (refine xpo2 rfl rfl rfl rfl ?_) | (refine xpg1 0 rfl rfl rfl rfl rfl rfl (by refine o1_move rfl fz) ?_)
  all_goals first | (refine xpo1 rfl rfl rfl rfl ?_) | (refine xpo2 rfl rfl rfl rfl ?_) | (refine xpg1 1 rfl rfl rfl rfl rfl rfl (by refine o1_move rfl fz) ?_)
  all_goals first | (refine xpo1 rfl rfl rfl rfl ?_) | (refine xpo2 rfl rfl rfl rfl ?_) | (refine xpg1 24 rfl rfl rfl rfl rfl rfl (by refine o1_nilCheck rfl fz) ?_)
  all_goals first | (refine xpo1 rfl rfl rfl rfl ?_) | (refine xpo2 rfl rfl rfl rfl ?_) | (refine xpg1 25 rfl rfl rfl rfl rfl rfl (by refine o1_fieldAddr rfl fz) ?_)
  all_goals first | (refine xpo1 rfl rfl rfl rfl ?_) | (refine xpo2 rfl rfl rfl rfl ?_) | (refine xpg1 26 rfl rfl rfl rfl rfl rfl (by first | refine ox_load_any rfl hb0 fz | refine ox_load_any rfl hb2 fz | refine ox_load rfl (by rfl) fz | refine ox_load_enc rfl (by first | omega | (simp; omega)) fz | refine ox_load_any rfl (by assumption) fz) ?_)
  all_goals first | (refine xpo1 rfl rfl rfl rfl ?_) | (refine xpo2 rfl rfl rfl rfl ?_) | (refine xpg1 27 rfl rfl rfl rfl rfl rfl (by refine o1_len rfl fz) ?_)
  all_goals first | (refine xpo1 rfl rfl rfl rfl ?_) | (refine xpo2 rfl rfl rfl rfl ?_) | (refine xpg1 1 rfl rfl rfl rfl rfl rfl (by refine o1_move rfl fz) ?_)
  all_goals first | (refine xpo1 rfl rfl rfl rfl ?_) | (refine xpo2 rfl rfl rfl rfl ?_) | (refine xpg1 29 rfl rfl rfl rfl rfl rfl (by refine o1_nilCheck rfl fz) ?_)
  all_goals first | (refine xpo1 rfl rfl rfl rfl ?_) | (refine xpo2 rfl rfl rfl rfl ?_) | (refine xpg1 30 rfl rfl rfl rfl rfl rfl (by refine o1_fieldAddr rfl fz) ?_)
  all_goals first | (refine xpo1 rfl rfl rfl rfl ?_) | (refine xpo2 rfl rfl rfl rfl ?_) | (refine xpg1 31 rfl rfl rfl rfl rfl rfl (by first | refine ox_load_any rfl hb0 fz | refine ox_load_any rfl hb2 fz | refine ox_load rfl (by rfl) fz | refine ox_load_enc rfl (by first | omega | (simp; omega)) fz | refine ox_load_any rfl (by assumption) fz) ?_)
  all_goals first | (refine xpo1 rfl rfl rfl rfl ?_) | (refine xpo2 rfl rfl rfl rfl ?_) | (refine xpg2 28 32 rfl rfl rfl rfl rfl rfl rfl (by first | ((refine o1_eql_d rfl rfl ?_; rw [← hkn, hfb]); all_goals exact fz) | refine o1_eql_t rfl rfl (by omega) fz | refine o1_eql_f rfl rfl (by omega) fz | refine o1_eql_d rfl rfl fz) ?_)
  all_goals refine op_nil ?_
  all_goals (refine xq1 1 rfl rfl rfl rfl rfl (by refine o1_move rfl fz) ?_)
  all_goals (refine xq1 15 rfl rfl rfl rfl rfl (by refine o1_nilCheck rfl fz) ?_)
  all_goals (refine xq1 16 rfl rfl rfl rfl rfl (by refine o1_fieldAddr rfl fz) ?_)
  all_goals (refine xq1 17 rfl rfl rfl rfl rfl (by first | refine ox_load_any rfl hb0 fz | refine ox_load_any rfl hb2 fz | refine ox_load rfl (by rfl) fz | refine ox_load_enc rfl (by first | omega | (simp; omega)) fz | refine ox_load_any rfl (by assumption) fz) ?_)
  all_goals (refine xq1 18 rfl rfl rfl rfl rfl (by refine o1_len rfl fz) ?_)
  all_goals refine re_nil ?_
  all_goals first | (refine ch_off rfl (by first | exact gd_o1 rfl rfl rfl | exact gd_o2 rfl rfl rfl) ?_) | (refine ch_run (E' := [(22, _)]) rfl (gd_r1 rfl rfl rfl) rfl (cov_cons rfl rfl cov_nil) ?_; (first | (refine o1_call (fun _ => elim_Full _ bm n k (cl_up m1) (cl_up m0)) rfl (fun _ _ => ?_); rw [hfb])))
  all_goals refine wk_ch ?_
  all_goals first | (refine xpo1 rfl rfl rfl rfl ?_) | (refine xpo2 rfl rfl rfl rfl ?_) | (refine xpg2 23 33 rfl rfl rfl rfl rfl rfl rfl (by first | refine o1_neqb_r (r := false) rfl rfl (by simp) fz | refine o1_neqb rfl rfl fz) ?_)
  all_goals (refine xp2 21 34 rfl rfl rfl rfl rfl (by first | refine o1_pick_t rfl rfl fz | refine o1_pick_f rfl rfl fz) ?_)
  all_goals (refine xp1 35 rfl rfl rfl rfl (by refine o1_move rfl fz) ?_)
  all_goals first | (refine xpo1 rfl rfl rfl rfl ?_) | (refine xpo2 rfl rfl rfl rfl ?_) | (refine xpg1 0 rfl rfl rfl rfl rfl rfl (by refine o1_move rfl fz) ?_)
  all_goals first | (refine xpo1 rfl rfl rfl rfl ?_) | (refine xpo2 rfl rfl rfl rfl ?_) | (refine xpg1 1 rfl rfl rfl rfl rfl rfl (by refine o1_move rfl fz) ?_)
  all_goals refine op_nil ?_
  all_goals first | (refine xqo1 rfl rfl rfl rfl rfl ?_) | (refine xqo2 rfl rfl rfl rfl rfl ?_) | (refine xqg1 1 rfl rfl rfl rfl rfl rfl rfl (by refine o1_move rfl fz) ?_)
  all_goals first | (refine xqo1 rfl rfl rfl rfl rfl ?_) | (refine xqo2 rfl rfl rfl rfl rfl ?_) | (refine xqg1 24 rfl rfl rfl rfl rfl rfl rfl (by refine o1_nilCheck rfl fz) ?_)
  all_goals first | (refine xqo1 rfl rfl rfl rfl rfl ?_) | (refine xqo2 rfl rfl rfl rfl rfl ?_) | (refine xqg1 25 rfl rfl rfl rfl rfl rfl rfl (by refine o1_fieldAddr rfl fz) ?_)
  all_goals first | (refine xqo1 rfl rfl rfl rfl rfl ?_) | (refine xqo2 rfl rfl rfl rfl rfl ?_) | (refine xqg1 26 rfl rfl rfl rfl rfl rfl rfl (by first | refine ox_load_any rfl hb0 fz | refine ox_load_any rfl hb2 fz | refine ox_load rfl (by rfl) fz | refine ox_load_enc rfl (by first | omega | (simp; omega)) fz | refine ox_load_any rfl (by assumption) fz) ?_)
  all_goals first | (refine xqo1 rfl rfl rfl rfl rfl ?_) | (refine xqo2 rfl rfl rfl rfl rfl ?_) | (refine xqg1 27 rfl rfl rfl rfl rfl rfl rfl (by refine o1_len rfl fz) ?_)
  all_goals first | (refine xqo1 rfl rfl rfl rfl rfl ?_) | (refine xqo2 rfl rfl rfl rfl rfl ?_) | (refine xqg1 1 rfl rfl rfl rfl rfl rfl rfl (by refine o1_move rfl fz) ?_)
  all_goals first | (refine xqo1 rfl rfl rfl rfl rfl ?_) | (refine xqo2 rfl rfl rfl rfl rfl ?_) | (refine xqg1 29 rfl rfl rfl rfl rfl rfl rfl (by refine o1_nilCheck rfl fz) ?_)
  all_goals first | (refine xqo1 rfl rfl rfl rfl rfl ?_) | (refine xqo2 rfl rfl rfl rfl rfl ?_) | (refine xqg1 30 rfl rfl rfl rfl rfl rfl rfl (by refine o1_fieldAddr rfl fz) ?_)
  all_goals first | (refine xqo1 rfl rfl rfl rfl rfl ?_) | (refine xqo2 rfl rfl rfl rfl rfl ?_) | (refine xqg1 31 rfl rfl rfl rfl rfl rfl rfl (by first | refine ox_load_any rfl hb0 fz | refine ox_load_any rfl hb2 fz | refine ox_load rfl (by rfl) fz | refine ox_load_enc rfl (by first | omega | (simp; omega)) fz | refine ox_load_any rfl (by assumption) fz) ?_)
  all_goals first | (refine xqo1 rfl rfl rfl rfl rfl ?_) | (refine xqo2 rfl rfl rfl rfl rfl ?_) | (refine xqg2 28 32 rfl rfl rfl rfl rfl rfl rfl rfl (by first | ((refine o1_eql_d rfl rfl ?_; rw [← hkn, hfb]); all_goals exact fz) | refine o1_eql_t rfl rfl (by omega) fz | refine o1_eql_f rfl rfl (by omega) fz | refine o1_eql_d rfl rfl fz) ?_)
  all_goals refine re_nil ?_
  all_goals first | (refine ch_off rfl (by first | exact gd_o1 rfl rfl rfl | exact gd_o2 rfl rfl rfl) ?_) | (refine ch_run (E' := [(37, _)]) rfl (gd_r1 rfl rfl rfl) rfl (cov_cons rfl rfl cov_nil) ?_; (first | (refine o1_call (fun _ => elim_Bytes _ bm n z ar cr k M ML R hM.up hML hR (by omega)) rfl (fun ⟨a38, c38⟩ _ => ?_); dsimp only)))
  all_goals refine wk_ch ?_
  all_goals first | (refine xpo1 rfl rfl rfl rfl ?_) | (refine xpo2 rfl rfl rfl rfl ?_) | (refine xpg1 38 rfl rfl rfl rfl rfl rfl (by first | refine o1_string (ad := a38) (c := c38) (xs := R) rfl rfl rx_row fz | refine o1_string (ad := a41) (c := c41) (xs := R) rfl rfl rx_row fz | refine o1_string rfl (by rfl) rx_row fz | refine o1_string rfl (by rfl) (rx_any (by assumption)) fz) ?_)
  all_goals refine op_nil ?_
  all_goals first | (refine xqo1 rfl rfl rfl rfl rfl ?_) | (refine xqo2 rfl rfl rfl rfl rfl ?_) | (refine xqg1 1 rfl rfl rfl rfl rfl rfl rfl (by refine o1_move rfl fz) ?_)
  all_goals refine re_nil ?_
  all_goals first | (refine ch_off rfl (by first | exact gd_o1 rfl rfl rfl | exact gd_o2 rfl rfl rfl) ?_) | (refine ch_run (E' := [(40, _)]) rfl (gd_r1 rfl rfl rfl) rfl (cov_cons rfl rfl cov_nil) ?_; (first | (refine o1_call (fun hh => r1_MBytes _ b n z ad c ls k ML R (cl_up hb0) (cl_up hb1) (cl_up hb2) (hL.mono Gr.of) hls hRR hn hz hll hR) rfl (fun ⟨a41, c41⟩ _ => ?_); dsimp only)))
  all_goals refine wk_end ?_
  all_goals first | (refine xpo1 rfl rfl rfl rfl ?_) | (refine xpo2 rfl rfl rfl rfl ?_) | (refine xpg1 41 rfl rfl rfl rfl rfl rfl (by first | refine o1_string (ad := a38) (c := c38) (xs := R) rfl rfl rx_row fz | refine o1_string (ad := a41) (c := c41) (xs := R) rfl rfl rx_row fz | refine o1_string rfl (by rfl) rx_row fz | refine o1_string rfl (by rfl) (rx_any (by assumption)) fz) ?_)
  all_goals first | (refine xpo1 rfl rfl rfl rfl ?_) | (refine xpo2 rfl rfl rfl rfl ?_) | (refine xpg2 39 42 rfl rfl rfl rfl rfl rfl rfl (by first | refine o1_strneq_r (a := R) (b := R) (r := false) rfl rfl (by simp) fz | refine o1_strneq_d rfl rfl fz) ?_)
  all_goals (refine xp2 36 43 rfl rfl rfl rfl rfl (by first | refine o1_pick_t rfl rfl fz | refine o1_pick_f rfl rfl fz) ?_)
  all_goals refine op_nil ?_
  all_goals first | (refine xqo1 rfl rfl rfl rfl rfl ?_) | (refine xqo2 rfl rfl rfl rfl rfl ?_) | (refine xqg1 38 rfl rfl rfl rfl rfl rfl rfl (by first | refine o1_string (ad := a38) (c := c38) (xs := R) rfl rfl rx_row fz | refine o1_string (ad := a41) (c := c41) (xs := R) rfl rfl rx_row fz | refine o1_string rfl (by rfl) rx_row fz | refine o1_string rfl (by rfl) (rx_any (by assumption)) fz) ?_)
  all_goals refine re_nil ?_
  all_goals dsimp only [List.cons_append, List.nil_append]
  repeat' (first | refine ls_of rfl ?_ | refine ls_of_no ?_ | refine ls_guard_yes rfl rfl ?_ | refine ls_guard_no rfl rfl rfl rfl ?_ | refine ls_guard_un rfl rfl rfl ?_ | refine o1_move rfl ?_ | refine o1_assign rfl ?_ | refine st_seq ?_ | refine st_region ?_ | refine st_block ?_ | refine st_skip ?_ | refine st_ret ?_ | refine st_exit ?_ | refine st_cond_t rfl ?_ | refine st_cond_f rfl ?_ | refine st_cond rfl (fun _ => ?_) (fun _ => ?_) | refine ls_nil ?_ | refine nx_seq ?_ | refine nx_blk ?_ | refine nx_fn ?_ | refine nx_rounds ?_ | refine xt_seq ?_ | refine xt_here ?_ | refine xt_on rfl ?_ | refine xt_rounds ?_ | refine xt_cut ?_ | refine rt_seq ?_ | refine rt_blk ?_ | refine rt_rounds ?_ | refine rt_cut ?_ | refine ox_load_any rfl hb0 ?_ | refine o1_pick_t rfl rfl ?_ | refine o1_pick_f rfl rfl ?_ | refine o1_extract rfl rfl ?_ | refine o1_fieldAddr rfl ?_ | refine ox_load rfl (by rfl) ?_ | refine ox_load_enc rfl (by first | omega | (simp; omega)) ?_ | refine ox_load_any rfl (by assumption) ?_ | refine o1_len rfl ?_ | refine o1_add rfl rfl (by omega) ?_ | refine o1_lss_t rfl rfl (by omega) ?_ | refine o1_lss_f rfl rfl (by omega) ?_ | refine o1_lss rfl rfl (fun _ => ?_) (fun _ => ?_) | refine o1_gtr_t rfl rfl (by omega) ?_ | refine o1_gtr_f rfl rfl (by omega) ?_ | refine o1_gtr rfl rfl (fun _ => ?_) (fun _ => ?_) | refine o1_eql_t rfl rfl (by omega) ?_ | refine o1_eql_f rfl rfl (by omega) ?_ | refine o1_eql rfl rfl (fun _ => ?_) (fun _ => ?_) | refine o1_neq_t rfl rfl (by omega) ?_ | refine o1_neq_f rfl rfl (by omega) ?_ | refine o1_neq rfl rfl (fun _ => ?_) (fun _ => ?_) | refine o1_bnot rfl ?_ | refine o1_unot rfl ?_ | refine o1_neqb rfl rfl ?_ | refine o1_string rfl (by rfl) rx_row ?_ | refine o1_string rfl (by rfl) (rx_any (by assumption)) ?_ | refine o1_slice_nil rfl ?_ | refine o1_nilCheck rfl ?_)
  refine st_loop (S := Nat) (fun i => [(0, .pointer (some ⟨bm, 0, none⟩)), (1, .pointer (some ⟨b, 0, none⟩)), (5, I (cntS (ML.take i))), (48, I n), (49, I i)]) (fun _ => [.any (stars H)]) (fun i => i ≤ n) (fun i => n - i) 0 (Nat.zero_le _)
    (cov_cons rfl rfl (cov_cons rfl rfl (cov_cons rfl rfl (cov_cons rfl rfl (cov_cons rfl rfl cov_nil))))) (by (try dsimp only [List.cons_append, List.nil_append, List.singleton_append, List.append_nil]); (repeat (first | exact Ent.nil | exact Ent.refl _ | (apply Ent.cons; (repeat (first | exact Sel.here | apply Sel.there)))))) ?_
  intro i hi
  by_cases hlt : i < n
  · have hiM : i < M.length := by rw [hM.ok.len]; exact hlt
    have hiL : i < ML.length := by omega
    have hvi : ML[i] = vw M[i] := by subst hML; simp
    have hMg : M[i]? = some M[i] := List.getElem?_eq_getElem hiM
    have hct : cntS (ML.take (i + 1)) = cntS (ML.take i) + (match ML[i] with | none => 0 | some _ => 1) := by
      rw [List.take_succ_eq_append_getElem hiL, cntS_append]
      cases ML[i] <;> rfl
    have hcl : cntS (ML.take i) ≤ k := by
      have h1 : cntS ML = cntS (ML.take i) + cntS (ML.drop i) := by rw [← cntS_append, List.take_append_drop]
      omega
    obtain ⟨p1, p2⟩ := cmp_at hRR hiL
    obtain ⟨a, ha⟩ : ∃ a, cntS (ML.take i) = a := ⟨_, rfl⟩
    rw [ha] at hct hcl p1 p2 ⊢
    have hag : ∀ y : LnD, ls[a]? = some y → (cmp ML)[a]? = some (lnV y) := fun y hy => by rw [← hls, List.getElem?_map, hy]; rfl
    cases ho : M[i] with
    | some q =>
      rw [ho] at hMg hvi
      have hvi : ML[i] = some (q.v.l, q.d) := hvi
      rw [hvi] at hct
      have hct : cntS (ML.take (i + 1)) = a + 1 := hct
      obtain ⟨p3, p4⟩ := p1 _ hvi
      obtain ⟨y, hy, hye⟩ : ∃ y, ls[a]? = some y ∧ lnV y = (q.v.l, q.d) := by
        rw [← hls, List.getElem?_map] at p3
        cases hq : ls[a]? with
        | none => rw [hq] at p3; cases p3
        | some y => rw [hq] at p3; exact ⟨y, rfl, Option.some.inj p3⟩
      have hal : a < ls.length := (List.getElem?_eq_some_iff.1 hy).1
      have hym : y ∈ ls := List.mem_of_getElem? hy
      obtain ⟨hxv, hxd, q1, q2⟩ := hL.x y hym
      obtain ⟨e1, e2⟩ := Prod.mk.inj (show (y.v.l, y.d.l) = (q.v.l, q.d) from hye)
      have hfy : firstV y.v.l = i := by rw [e1]; exact p4
      have hqm : some q ∈ M := List.mem_of_getElem? hMg
      obtain ⟨hq1, hq2, hq3⟩ := hM.ok.ok q hqm
      obtain ⟨D, hD⟩ : ∃ D, y.d.l = D := ⟨_, rfl⟩
      have hDl : D.length = z := hD ▸ q2
      have f0 := hr.at0 hy
      have f1 := hr.at1 hy
      repeat' (first | refine ls_of rfl ?_ | refine ls_of_no ?_ | refine ls_guard_yes rfl rfl ?_ | refine ls_guard_no rfl rfl rfl rfl ?_ | refine ls_guard_un rfl rfl rfl ?_ | refine o1_move rfl ?_ | refine o1_assign rfl ?_ | refine st_seq ?_ | refine st_region ?_ | refine st_block ?_ | refine st_skip ?_ | refine st_ret ?_ | refine st_exit ?_ | refine st_cond_t rfl ?_ | refine st_cond_f rfl ?_ | refine st_cond rfl (fun _ => ?_) (fun _ => ?_) | refine ls_nil ?_ | refine nx_seq ?_ | refine nx_blk ?_ | refine nx_fn ?_ | refine nx_rounds ?_ | refine xt_seq ?_ | refine xt_here ?_ | refine xt_on rfl ?_ | refine xt_rounds ?_ | refine xt_cut ?_ | refine rt_seq ?_ | refine rt_blk ?_ | refine rt_rounds ?_ | refine rt_cut ?_ | (refine o1_call (fun _ => elim_Row _ bm n z ar cr k M i q hM.up hlt hMg) rfl (fun ⟨⟨b55, a55, c55⟩, ⟨a56, c56⟩⟩ _ => ?_); dsimp only; rw [← e2, hD]) | refine ox_load_any rfl hb2 ?_ | refine o1_iaw (f := fV n) (g := fD z) (ad := ad) (c := c) a rfl rfl hr rfl rfl hal ?_ | refine o1_fieldAddr_w (p := idxA ad (a * 2)) rfl ?_ | refine ox_load_any rfl f0 ?_ | refine o1_call (fun _ => (r1_First _ y.v.ad n y.v.cap y.v.l (Rs.up hxv) q1.symm).vv (b := I i) (by rw [hfy])) rfl (fun _ _ => ?_) | refine o1_pick_t rfl rfl ?_ | refine o1_pick_f rfl rfl ?_ | refine o1_extract rfl rfl ?_ | refine o1_fieldAddr rfl ?_ | refine ox_load rfl (by rfl) ?_ | refine ox_load_enc rfl (by first | omega | (simp; omega)) ?_ | refine ox_load_any rfl (by assumption) ?_ | refine o1_len rfl ?_ | refine o1_add rfl rfl (by omega) ?_ | refine o1_lss_t rfl rfl (by omega) ?_ | refine o1_lss_f rfl rfl (by omega) ?_ | refine o1_lss rfl rfl (fun _ => ?_) (fun _ => ?_) | refine o1_gtr_t rfl rfl (by omega) ?_ | refine o1_gtr_f rfl rfl (by omega) ?_ | refine o1_gtr rfl rfl (fun _ => ?_) (fun _ => ?_) | refine o1_eql_t rfl rfl (by omega) ?_ | refine o1_eql_f rfl rfl (by omega) ?_ | refine o1_eql rfl rfl (fun _ => ?_) (fun _ => ?_) | refine o1_neq_t rfl rfl (by omega) ?_ | refine o1_neq_f rfl rfl (by omega) ?_ | refine o1_neq rfl rfl (fun _ => ?_) (fun _ => ?_) | refine o1_bnot rfl ?_ | refine o1_unot rfl ?_ | refine o1_neqb rfl rfl ?_ | refine o1_string rfl (by rfl) rx_row ?_ | refine o1_string rfl (by rfl) (rx_any (by assumption)) ?_ | refine o1_slice_nil rfl ?_ | refine o1_nilCheck rfl ?_)
      refine st_stages [(9, _), (7, _), (1, _), (5, _), (8, _)] rtY5_1 [12] [⟨[0, 1, 2, 3, 4, 5, 6, 7, 8, 9, 10, 11], [], some 12⟩, ⟨[13, 14, 15, 16, 17, 18, 19, 20, 21, 22, 23, 24, 25, 26, 27, 28], [], none⟩] mixed (cov_cons rfl rfl (cov_cons rfl rfl (cov_cons rfl rfl (cov_cons rfl rfl (cov_cons rfl rfl cov_nil))))) (by kernel_rfl) (by kernel_rfl) ?_
      all_goals refine wk_ch ?_
      all_goals (refine xp1 9 rfl rfl rfl rfl (by refine o1_move rfl fz) ?_)
      all_goals (refine xp1 79 rfl rfl rfl rfl (by first | refine o1_bnot rfl fz | refine o1_unot rfl fz) ?_)
      all_goals (refine xp1 80 rfl rfl rfl rfl (by refine o1_move rfl fz) ?_)
      all_goals first | (refine xpo1 rfl rfl rfl rfl ?_) | (refine xpo2 rfl rfl rfl rfl ?_) | (refine xpg1 7 rfl rfl rfl rfl rfl rfl (by refine o1_move rfl fz) ?_)
      all_goals first | (refine xpo1 rfl rfl rfl rfl ?_) | (refine xpo2 rfl rfl rfl rfl ?_) | (refine xpg1 1 rfl rfl rfl rfl rfl rfl (by refine o1_move rfl fz) ?_)
      all_goals first | (refine xpo1 rfl rfl rfl rfl ?_) | (refine xpo2 rfl rfl rfl rfl ?_) | (refine xpg1 83 rfl rfl rfl rfl rfl rfl (by refine o1_nilCheck rfl fz) ?_)
      all_goals first | (refine xpo1 rfl rfl rfl rfl ?_) | (refine xpo2 rfl rfl rfl rfl ?_) | (refine xpg1 84 rfl rfl rfl rfl rfl rfl (by first | refine o1_fieldAddr_w (p := idxA ad (a * 2)) rfl fz | refine o1_fieldAddr rfl fz) ?_)
      all_goals first | (refine xpo1 rfl rfl rfl rfl ?_) | (refine xpo2 rfl rfl rfl rfl ?_) | (refine xpg1 85 rfl rfl rfl rfl rfl rfl (by first | refine ox_load_any rfl hb2 fz | refine ox_load_any rfl f0 fz | refine ox_load_any rfl f1 fz | refine ox_load rfl (by rfl) fz | refine ox_load_enc rfl (by first | omega | (simp; omega)) fz | refine ox_load_any rfl (by assumption) fz) ?_)
      all_goals first | (refine xpo1 rfl rfl rfl rfl ?_) | (refine xpo2 rfl rfl rfl rfl ?_) | (refine xpg1 5 rfl rfl rfl rfl rfl rfl (by refine o1_move rfl fz) ?_)
      all_goals first | (refine xpo1 rfl rfl rfl rfl ?_) | (refine xpo2 rfl rfl rfl rfl ?_) | (refine xpg2 86 87 rfl rfl rfl rfl rfl rfl rfl (by refine o1_iaw (f := fV n) (g := fD z) (ad := ad) (c := c) a rfl rfl hr rfl rfl hal fz) ?_)
      all_goals first | (refine xpo1 rfl rfl rfl rfl ?_) | (refine xpo2 rfl rfl rfl rfl ?_) | (refine xpg1 88 rfl rfl rfl rfl rfl rfl (by first | refine o1_fieldAddr_w (p := idxA ad (a * 2)) rfl fz | refine o1_fieldAddr rfl fz) ?_)
      all_goals first | (refine xpo1 rfl rfl rfl rfl ?_) | (refine xpo2 rfl rfl rfl rfl ?_) | (refine xpg1 89 rfl rfl rfl rfl rfl rfl (by first | refine ox_load_any rfl hb2 fz | refine ox_load_any rfl f0 fz | refine ox_load_any rfl f1 fz | refine ox_load rfl (by rfl) fz | refine ox_load_enc rfl (by first | omega | (simp; omega)) fz | refine ox_load_any rfl (by assumption) fz) ?_)
      all_goals refine op_nil ?_
      all_goals refine re_nil ?_
      all_goals first | (refine ch_off rfl (by first | exact gd_o1 rfl rfl rfl | exact gd_o2 rfl rfl rfl) ?_) | (refine ch_run (E' := [(82, _), (90, _)]) rfl (gd_r1 rfl rfl rfl) rfl (cov_cons rfl rfl (cov_cons rfl rfl cov_nil)) ?_; (first | (refine o1_call (fun hh => law5_Like _ ⟨b55, n, a55, c55, q.v.l⟩ y.v.ad n y.v.cap y.v.l (RdV.own (by rw [← e1]; exact q1) hn hh) (Rs.up hxv) q1.symm e1.symm ht.up) rfl (fun _ _ => ?_))))
      all_goals refine wk_end ?_
      all_goals first | (refine xpo1 rfl rfl rfl rfl ?_) | (refine xpo2 rfl rfl rfl rfl ?_) | (refine xpg1 91 rfl rfl rfl rfl rfl rfl (by first | refine o1_gtr_t rfl rfl (by omega) fz | refine o1_gtr_f rfl rfl (by omega) fz | refine o1_gtr_d rfl rfl fz) ?_)
      all_goals (refine xp2 81 92 rfl rfl rfl rfl rfl (by first | refine o1_pick_t rfl rfl fz | refine o1_pick_f rfl rfl fz) ?_)
      all_goals (refine xp1 93 rfl rfl rfl rfl (by refine o1_move rfl fz) ?_)
      all_goals first | (refine xpo1 rfl rfl rfl rfl ?_) | (refine xpo2 rfl rfl rfl rfl ?_) | (refine xpg1 8 rfl rfl rfl rfl rfl rfl (by refine o1_move rfl fz) ?_)
      all_goals first | (refine xpo1 rfl rfl rfl rfl ?_) | (refine xpo2 rfl rfl rfl rfl ?_) | (refine xpg1 95 rfl rfl rfl rfl rfl rfl (by first | refine o1_string (ad := a56) (c := c56) (xs := D) rfl hDl.symm rx_row fz | refine o1_string (ad := y.d.ad) (c := y.d.cap) (xs := D) rfl hDl.symm (rx_any (hD ▸ hxd)) fz | refine o1_string rfl (by rfl) rx_row fz | refine o1_string rfl (by rfl) (rx_any (by assumption)) fz) ?_)
      all_goals first | (refine xpo1 rfl rfl rfl rfl ?_) | (refine xpo2 rfl rfl rfl rfl ?_) | (refine xpg1 1 rfl rfl rfl rfl rfl rfl (by refine o1_move rfl fz) ?_)
      all_goals first | (refine xpo1 rfl rfl rfl rfl ?_) | (refine xpo2 rfl rfl rfl rfl ?_) | (refine xpg1 97 rfl rfl rfl rfl rfl rfl (by refine o1_nilCheck rfl fz) ?_)
      all_goals first | (refine xpo1 rfl rfl rfl rfl ?_) | (refine xpo2 rfl rfl rfl rfl ?_) | (refine xpg1 98 rfl rfl rfl rfl rfl rfl (by first | refine o1_fieldAddr_w (p := idxA ad (a * 2)) rfl fz | refine o1_fieldAddr rfl fz) ?_)
      all_goals first | (refine xpo1 rfl rfl rfl rfl ?_) | (refine xpo2 rfl rfl rfl rfl ?_) | (refine xpg1 99 rfl rfl rfl rfl rfl rfl (by first | refine ox_load_any rfl hb2 fz | refine ox_load_any rfl f0 fz | refine ox_load_any rfl f1 fz | refine ox_load rfl (by rfl) fz | refine ox_load_enc rfl (by first | omega | (simp; omega)) fz | refine ox_load_any rfl (by assumption) fz) ?_)
      all_goals first | (refine xpo1 rfl rfl rfl rfl ?_) | (refine xpo2 rfl rfl rfl rfl ?_) | (refine xpg1 5 rfl rfl rfl rfl rfl rfl (by refine o1_move rfl fz) ?_)
      all_goals first | (refine xpo1 rfl rfl rfl rfl ?_) | (refine xpo2 rfl rfl rfl rfl ?_) | (refine xpg2 100 101 rfl rfl rfl rfl rfl rfl rfl (by refine o1_iaw (f := fV n) (g := fD z) (ad := ad) (c := c) a rfl rfl hr rfl rfl hal fz) ?_)
      all_goals first | (refine xpo1 rfl rfl rfl rfl ?_) | (refine xpo2 rfl rfl rfl rfl ?_) | (refine xpg1 102 rfl rfl rfl rfl rfl rfl (by first | refine o1_fieldAddr_w (p := idxA ad (a * 2)) rfl fz | refine o1_fieldAddr rfl fz) ?_)
      all_goals first | (refine xpo1 rfl rfl rfl rfl ?_) | (refine xpo2 rfl rfl rfl rfl ?_) | (refine xpg1 103 rfl rfl rfl rfl rfl rfl (by first | refine ox_load_any rfl hb2 fz | refine ox_load_any rfl f0 fz | refine ox_load_any rfl f1 fz | refine ox_load rfl (by rfl) fz | refine ox_load_enc rfl (by first | omega | (simp; omega)) fz | refine ox_load_any rfl (by assumption) fz) ?_)
      all_goals first | (refine xpo1 rfl rfl rfl rfl ?_) | (refine xpo2 rfl rfl rfl rfl ?_) | (refine xpg1 104 rfl rfl rfl rfl rfl rfl (by first | refine o1_string (ad := a56) (c := c56) (xs := D) rfl hDl.symm rx_row fz | refine o1_string (ad := y.d.ad) (c := y.d.cap) (xs := D) rfl hDl.symm (rx_any (hD ▸ hxd)) fz | refine o1_string rfl (by rfl) rx_row fz | refine o1_string rfl (by rfl) (rx_any (by assumption)) fz) ?_)
      all_goals first | (refine xpo1 rfl rfl rfl rfl ?_) | (refine xpo2 rfl rfl rfl rfl ?_) | (refine xpg2 96 105 rfl rfl rfl rfl rfl rfl rfl (by first | refine o1_strneq_r (a := D) (b := D) (r := false) rfl rfl (by simp) fz | refine o1_strneq_d rfl rfl fz) ?_)
      all_goals (refine xp2 94 106 rfl rfl rfl rfl rfl (by first | refine o1_pick_t rfl rfl fz | refine o1_pick_f rfl rfl fz) ?_)
      all_goals refine op_nil ?_
      all_goals refine re_nil ?_
      all_goals dsimp only [List.cons_append, List.nil_append]
      repeat' (first | refine ls_of rfl ?_ | refine ls_of_no ?_ | refine ls_guard_yes rfl rfl ?_ | refine ls_guard_no rfl rfl rfl rfl ?_ | refine ls_guard_un rfl rfl rfl ?_ | refine o1_move rfl ?_ | refine o1_assign rfl ?_ | refine st_seq ?_ | refine st_region ?_ | refine st_block ?_ | refine st_skip ?_ | refine st_ret ?_ | refine st_exit ?_ | refine st_cond_t rfl ?_ | refine st_cond_f rfl ?_ | refine st_cond rfl (fun _ => ?_) (fun _ => ?_) | refine ls_nil ?_ | refine nx_seq ?_ | refine nx_blk ?_ | refine nx_fn ?_ | refine nx_rounds ?_ | refine xt_seq ?_ | refine xt_here ?_ | refine xt_on rfl ?_ | refine xt_rounds ?_ | refine xt_cut ?_ | refine rt_seq ?_ | refine rt_blk ?_ | refine rt_rounds ?_ | refine rt_cut ?_ | refine o1_pick_t rfl rfl ?_ | refine o1_pick_f rfl rfl ?_ | refine o1_extract rfl rfl ?_ | refine o1_fieldAddr rfl ?_ | refine ox_load rfl (by rfl) ?_ | refine ox_load_enc rfl (by first | omega | (simp; omega)) ?_ | refine ox_load_any rfl (by assumption) ?_ | refine o1_len rfl ?_ | refine o1_add rfl rfl (by omega) ?_ | refine o1_lss_t rfl rfl (by omega) ?_ | refine o1_lss_f rfl rfl (by omega) ?_ | refine o1_lss rfl rfl (fun _ => ?_) (fun _ => ?_) | refine o1_gtr_t rfl rfl (by omega) ?_ | refine o1_gtr_f rfl rfl (by omega) ?_ | refine o1_gtr rfl rfl (fun _ => ?_) (fun _ => ?_) | refine o1_eql_t rfl rfl (by omega) ?_ | refine o1_eql_f rfl rfl (by omega) ?_ | refine o1_eql rfl rfl (fun _ => ?_) (fun _ => ?_) | refine o1_neq_t rfl rfl (by omega) ?_ | refine o1_neq_f rfl rfl (by omega) ?_ | refine o1_neq rfl rfl (fun _ => ?_) (fun _ => ?_) | refine o1_bnot rfl ?_ | refine o1_unot rfl ?_ | refine o1_neqb rfl rfl ?_ | refine o1_string rfl (by rfl) rx_row ?_ | refine o1_string rfl (by rfl) (rx_any (by assumption)) ?_ | refine o1_slice_nil rfl ?_ | refine o1_nilCheck rfl ?_)
      refine nx_again (i + 1) (by omega) (by omega) (cov_cons rfl rfl (cov_cons rfl rfl (cov_cons rfl (by rw [hct]; rfl) (cov_cons rfl rfl (cov_cons rfl rfl cov_nil))))) ?_
      (try dsimp only [List.cons_append, List.nil_append, List.singleton_append, List.append_nil]); (repeat (first | exact Ent.nil | exact Ent.refl _ | (apply Ent.cons; (repeat (first | exact Sel.here | apply Sel.there)))))
    | none =>
      rw [ho] at hMg hvi
      have hvi : ML[i] = none := hvi
      rw [hvi] at hct
      have hct : cntS (ML.take (i + 1)) = a := hct
      by_cases hal : a < ls.length
      · obtain ⟨y, hy⟩ : ∃ y, ls[a]? = some y := ⟨_, List.getElem?_eq_getElem hal⟩
        have hym : y ∈ ls := List.mem_of_getElem? hy
        obtain ⟨hxv, hxd, q1, q2⟩ := hL.x y hym
        obtain ⟨_, _, g, hg, hgn⟩ := hok (lnV y) (List.mem_map_of_mem hym)
        have hg : firstV y.v.l = g := hg
        have hgi : g ≠ i := fun e => p2 hvi _ (hag y hy) (by show firstV y.v.l = _; rw [hg, e])
        have f0 := hr.at0 hy
        repeat' (first | refine ls_of rfl ?_ | refine ls_of_no ?_ | refine ls_guard_yes rfl rfl ?_ | refine ls_guard_no rfl rfl rfl rfl ?_ | refine ls_guard_un rfl rfl rfl ?_ | refine o1_move rfl ?_ | refine o1_assign rfl ?_ | refine st_seq ?_ | refine st_region ?_ | refine st_block ?_ | refine st_skip ?_ | refine st_ret ?_ | refine st_exit ?_ | refine st_cond_t rfl ?_ | refine st_cond_f rfl ?_ | refine st_cond rfl (fun _ => ?_) (fun _ => ?_) | refine ls_nil ?_ | refine nx_seq ?_ | refine nx_blk ?_ | refine nx_fn ?_ | refine nx_rounds ?_ | refine xt_seq ?_ | refine xt_here ?_ | refine xt_on rfl ?_ | refine xt_rounds ?_ | refine xt_cut ?_ | refine rt_seq ?_ | refine rt_blk ?_ | refine rt_rounds ?_ | refine rt_cut ?_ | (refine o1_call (fun _ => elim_Row_none _ bm n z ar cr k M i hM.up hlt hMg) rfl (fun _ _ => ?_)) | refine ox_load_any rfl hb2 ?_ | refine o1_iaw (f := fV n) (g := fD z) (ad := ad) (c := c) a rfl rfl hr rfl rfl hal ?_ | refine o1_fieldAddr_w (p := idxA ad (a * 2)) rfl ?_ | refine ox_load_any rfl f0 ?_ | refine o1_call (fun _ => (r1_First _ y.v.ad n y.v.cap y.v.l (Rs.up hxv) q1.symm).vv (b := I g) (by rw [hg])) rfl (fun _ _ => ?_) | refine o1_eql_f rfl rfl (by omega) ?_ | refine o1_pneq rfl rfl ?_ | refine o1_pick_t rfl rfl ?_ | refine o1_pick_f rfl rfl ?_ | refine o1_extract rfl rfl ?_ | refine o1_fieldAddr rfl ?_ | refine ox_load rfl (by rfl) ?_ | refine ox_load_enc rfl (by first | omega | (simp; omega)) ?_ | refine ox_load_any rfl (by assumption) ?_ | refine o1_len rfl ?_ | refine o1_add rfl rfl (by omega) ?_ | refine o1_lss_t rfl rfl (by omega) ?_ | refine o1_lss_f rfl rfl (by omega) ?_ | refine o1_lss rfl rfl (fun _ => ?_) (fun _ => ?_) | refine o1_gtr_t rfl rfl (by omega) ?_ | refine o1_gtr_f rfl rfl (by omega) ?_ | refine o1_gtr rfl rfl (fun _ => ?_) (fun _ => ?_) | refine o1_eql_t rfl rfl (by omega) ?_ | refine o1_eql_f rfl rfl (by omega) ?_ | refine o1_eql rfl rfl (fun _ => ?_) (fun _ => ?_) | refine o1_neq_t rfl rfl (by omega) ?_ | refine o1_neq_f rfl rfl (by omega) ?_ | refine o1_neq rfl rfl (fun _ => ?_) (fun _ => ?_) | refine o1_bnot rfl ?_ | refine o1_unot rfl ?_ | refine o1_neqb rfl rfl ?_ | refine o1_string rfl (by rfl) rx_row ?_ | refine o1_string rfl (by rfl) (rx_any (by assumption)) ?_ | refine o1_slice_nil rfl ?_ | refine o1_nilCheck rfl ?_)
        refine nx_again (i + 1) (by omega) (by omega) (cov_cons rfl rfl (cov_cons rfl rfl (cov_cons rfl (by rw [hct]) (cov_cons rfl rfl (cov_cons rfl rfl cov_nil))))) ?_
        (try dsimp only [List.cons_append, List.nil_append, List.singleton_append, List.append_nil]); (repeat (first | exact Ent.nil | exact Ent.refl _ | (apply Ent.cons; (repeat (first | exact Sel.here | apply Sel.there)))))
      · repeat' (first | refine ls_of rfl ?_ | refine ls_of_no ?_ | refine ls_guard_yes rfl rfl ?_ | refine ls_guard_no rfl rfl rfl rfl ?_ | refine ls_guard_un rfl rfl rfl ?_ | refine o1_move rfl ?_ | refine o1_assign rfl ?_ | refine st_seq ?_ | refine st_region ?_ | refine st_block ?_ | refine st_skip ?_ | refine st_ret ?_ | refine st_exit ?_ | refine st_cond_t rfl ?_ | refine st_cond_f rfl ?_ | refine st_cond rfl (fun _ => ?_) (fun _ => ?_) | refine ls_nil ?_ | refine nx_seq ?_ | refine nx_blk ?_ | refine nx_fn ?_ | refine nx_rounds ?_ | refine xt_seq ?_ | refine xt_here ?_ | refine xt_on rfl ?_ | refine xt_rounds ?_ | refine xt_cut ?_ | refine rt_seq ?_ | refine rt_blk ?_ | refine rt_rounds ?_ | refine rt_cut ?_ | (refine o1_call (fun _ => elim_Row_none _ bm n z ar cr k M i hM.up hlt hMg) rfl (fun _ _ => ?_)) | refine ox_load_any rfl hb2 ?_ | refine o1_pneq rfl rfl ?_ | refine o1_pick_t rfl rfl ?_ | refine o1_pick_f rfl rfl ?_ | refine o1_extract rfl rfl ?_ | refine o1_fieldAddr rfl ?_ | refine ox_load rfl (by rfl) ?_ | refine ox_load_enc rfl (by first | omega | (simp; omega)) ?_ | refine ox_load_any rfl (by assumption) ?_ | refine o1_len rfl ?_ | refine o1_add rfl rfl (by omega) ?_ | refine o1_lss_t rfl rfl (by omega) ?_ | refine o1_lss_f rfl rfl (by omega) ?_ | refine o1_lss rfl rfl (fun _ => ?_) (fun _ => ?_) | refine o1_gtr_t rfl rfl (by omega) ?_ | refine o1_gtr_f rfl rfl (by omega) ?_ | refine o1_gtr rfl rfl (fun _ => ?_) (fun _ => ?_) | refine o1_eql_t rfl rfl (by omega) ?_ | refine o1_eql_f rfl rfl (by omega) ?_ | refine o1_eql rfl rfl (fun _ => ?_) (fun _ => ?_) | refine o1_neq_t rfl rfl (by omega) ?_ | refine o1_neq_f rfl rfl (by omega) ?_ | refine o1_neq rfl rfl (fun _ => ?_) (fun _ => ?_) | refine o1_bnot rfl ?_ | refine o1_unot rfl ?_ | refine o1_neqb rfl rfl ?_ | refine o1_string rfl (by rfl) rx_row ?_ | refine o1_string rfl (by rfl) (rx_any (by assumption)) ?_ | refine o1_slice_nil rfl ?_ | refine o1_nilCheck rfl ?_)
        refine nx_again (i + 1) (by omega) (by omega) (cov_cons rfl rfl (cov_cons rfl rfl (cov_cons rfl (by rw [hct]) (cov_cons rfl rfl (cov_cons rfl rfl cov_nil))))) ?_
        (try dsimp only [List.cons_append, List.nil_append, List.singleton_append, List.append_nil]); (repeat (first | exact Ent.nil | exact Ent.refl _ | (apply Ent.cons; (repeat (first | exact Sel.here | apply Sel.there)))))
  · have : i = n := by omega
    subst this
    repeat' (first | refine ls_of rfl ?_ | refine ls_of_no ?_ | refine ls_guard_yes rfl rfl ?_ | refine ls_guard_no rfl rfl rfl rfl ?_ | refine ls_guard_un rfl rfl rfl ?_ | refine o1_move rfl ?_ | refine o1_assign rfl ?_ | refine st_seq ?_ | refine st_region ?_ | refine st_block ?_ | refine st_skip ?_ | refine st_ret ?_ | refine st_exit ?_ | refine st_cond_t rfl ?_ | refine st_cond_f rfl ?_ | refine st_cond rfl (fun _ => ?_) (fun _ => ?_) | refine ls_nil ?_ | refine nx_seq ?_ | refine nx_blk ?_ | refine nx_fn ?_ | refine nx_rounds ?_ | refine xt_seq ?_ | refine xt_here ?_ | refine xt_on rfl ?_ | refine xt_rounds ?_ | refine xt_cut ?_ | refine rt_seq ?_ | refine rt_blk ?_ | refine rt_rounds ?_ | refine rt_cut ?_ | (refine o1_call (fun _ => elim_Row_out _ bm i (-1) (cl_up m0) (.inl (by omega))) rfl (fun _ _ => ?_)) | refine o1_pick_t rfl rfl ?_ | refine o1_pick_f rfl rfl ?_ | refine o1_extract rfl rfl ?_ | refine o1_fieldAddr rfl ?_ | refine ox_load rfl (by rfl) ?_ | refine ox_load_enc rfl (by first | omega | (simp; omega)) ?_ | refine ox_load_any rfl (by assumption) ?_ | refine o1_len rfl ?_ | refine o1_add rfl rfl (by omega) ?_ | refine o1_lss_t rfl rfl (by omega) ?_ | refine o1_lss_f rfl rfl (by omega) ?_ | refine o1_lss rfl rfl (fun _ => ?_) (fun _ => ?_) | refine o1_gtr_t rfl rfl (by omega) ?_ | refine o1_gtr_f rfl rfl (by omega) ?_ | refine o1_gtr rfl rfl (fun _ => ?_) (fun _ => ?_) | refine o1_eql_t rfl rfl (by omega) ?_ | refine o1_eql_f rfl rfl (by omega) ?_ | refine o1_eql rfl rfl (fun _ => ?_) (fun _ => ?_) | refine o1_neq_t rfl rfl (by omega) ?_ | refine o1_neq_f rfl rfl (by omega) ?_ | refine o1_neq rfl rfl (fun _ => ?_) (fun _ => ?_) | refine o1_bnot rfl ?_ | refine o1_unot rfl ?_ | refine o1_neqb rfl rfl ?_ | refine o1_string rfl (by rfl) rx_row ?_ | refine o1_string rfl (by rfl) (rx_any (by assumption)) ?_ | refine o1_slice_nil rfl ?_ | refine o1_nilCheck rfl ?_)
    refine rt_tmp () rfl rfl rfl trivial ?_
    (try dsimp only [List.cons_append, List.nil_append, List.singleton_append, List.append_nil]); (repeat (first | exact Ent.nil | exact Ent.refl _ | (apply Ent.cons; (repeat (first | exact Sel.here | apply Sel.there)))))
end Go.Dp

set_option linter.unusedVariables false
set_option linter.unusedSimpArgs false
namespace Go.Dp
open Go.RowKit Go.Proofs
/-- A row as it is handed in. -/
abbrev RowI := SlD Int × SlD (BitVec 8) × Unit
abbrev fL (x : RowI) : Value := .slice x.1.ad x.1.l.length x.1.cap
abbrev fB (x : RowI) : Value := .slice x.2.1.ad x.2.1.l.length x.2.1.cap
structure RowOk (A : Hp → Prop) (x : RowI) : Prop where
  l : Rs A I x.1.ad x.1.cap x.1.l
  d : Rs A B x.2.1.ad x.2.1.cap x.2.1.l
def LightR (ls : List RowI) : Prop := ls.length ≤ 60 ∧ ∀ r ∈ ls, r.1.l.length ≤ 100 ∧ r.2.1.l.length ≤ 40
theorem TabF.gr {A A' : Hp → Prop} (h : TabF A) (g : Gr A A') : TabF A' := ⟨fun j hj => ⟨fun w hw => (h.c j hj).cell w (g.sat hw)⟩⟩
theorem light_take {ls : List RowI} {i : Nat} (hi : i < ls.length) (h : ∀ r ∈ ls.take i, r.1.l.length ≤ 100 ∧ r.2.1.l.length ≤ 40) (h1 : ls[i].1.l.length ≤ 100) (h2 : ls[i].2.1.l.length ≤ 40) : ∀ r ∈ ls.take (i + 1), r.1.l.length ≤ 100 ∧ r.2.1.l.length ≤ 40 := fun r hr => by
  rw [List.take_succ_eq_append_getElem hi] at hr
  rcases List.mem_append.1 hr with q | q
  · exact h r q
  · obtain rfl : r = ls[i] := by simpa using q
    exact ⟨h1, h2⟩
theorem law6_light (H : List Hl) (ad : Option Addr) (c : Nat) (ls : List RowI) (h : R2 (stars H) fL fB ad c ls) (hs : ∀ r ∈ ls, RowOk (stars H) r) :
    Spec Tryd.prog 43 [.slice ad ls.length c] H (fun b : Bool => b = true → LightR ls) (fun b => .bool b) (fun _ => H) := by
  refine spec_pure (res := fun _ => []) H Tryd.func43 rfl Tryd.ntmps43 (by kernel_rfl) rfl (fun W => ?_)
  have b3 := h.le
  have b4 := h.big
  repeat' (first | refine ls_of rfl ?_ | refine ls_of_no ?_ | refine ls_guard_yes rfl rfl ?_ | refine ls_guard_no rfl rfl rfl rfl ?_ | refine ls_guard_un rfl rfl rfl ?_ | refine o1_move rfl ?_ | refine o1_assign rfl ?_ | refine st_seq ?_ | refine st_region ?_ | refine st_block ?_ | refine st_skip ?_ | refine st_ret ?_ | refine st_exit ?_ | refine st_cond_t rfl ?_ | refine st_cond_f rfl ?_ | refine st_cond rfl (fun _ => ?_) (fun _ => ?_) | refine ls_nil ?_ | refine nx_seq ?_ | refine nx_blk ?_ | refine nx_fn ?_ | refine nx_rounds ?_ | refine xt_seq ?_ | refine xt_here ?_ | refine xt_on rfl ?_ | refine xt_rounds ?_ | refine xt_cut ?_ | refine rt_seq ?_ | refine rt_blk ?_ | refine rt_rounds ?_ | refine rt_cut ?_ | refine o1_pick_t rfl rfl ?_ | refine o1_pick_f rfl rfl ?_ | refine o1_fieldAddr rfl ?_ | refine ox_load rfl (by rfl) ?_ | refine ox_load_enc rfl (by first | omega | (simp; omega)) ?_ | refine ox_load_any rfl (by assumption) ?_ | refine o1_len rfl ?_ | refine o1_add rfl rfl (by omega) ?_ | refine o1_lss_t rfl rfl (by omega) ?_ | refine o1_lss_f rfl rfl (by omega) ?_ | refine o1_lss rfl rfl (fun _ => ?_) (fun _ => ?_) | refine o1_gtr_t rfl rfl (by omega) ?_ | refine o1_gtr_f rfl rfl (by omega) ?_ | refine o1_gtr rfl rfl (fun _ => ?_) (fun _ => ?_) | refine o1_geq_t rfl rfl (by omega) ?_ | refine o1_geq_f rfl rfl (by omega) ?_ | refine o1_geq rfl rfl (fun _ => ?_) (fun _ => ?_) | refine o1_alloc rfl (fun _ => ?_) | refine ox_store_agg rfl rfl (by rfl) (by simp) (by simp [Value.oneCell']) (by simp only [putL, List.set_cons_zero, List.set_cons_succ, Nat.zero_add, Nat.reduceAdd]; rfl) ?_ | refine ox_load_agg rfl (by simp only [Nat.zero_add, Nat.reduceAdd, List.drop_zero, List.drop_succ_cons, List.take_succ_cons, List.take_zero]; rfl) (by rfl) ?_)
  refine st_loop (S := Nat) (fun i => [(5, .slice ad ls.length c), (6, I ls.length), (7, I i)]) (fun _ => [.any (stars H)]) (fun i => i ≤ ls.length ∧ i ≤ 60 ∧ ∀ r ∈ ls.take i, r.1.l.length ≤ 100 ∧ r.2.1.l.length ≤ 40) (fun i => ls.length - i) 0 ⟨Nat.zero_le _, Nat.zero_le _, (fun r hr => by simp at hr)⟩
    (cov_cons rfl rfl (cov_cons rfl rfl (cov_cons rfl rfl cov_nil))) (by (try dsimp only [List.cons_append, List.nil_append, List.singleton_append, List.append_nil]); (repeat (first | exact Ent.nil | exact Ent.refl _ | (apply Ent.cons; (repeat (first | exact Sel.here | apply Sel.there)))))) ?_
  rintro i ⟨hi, hi6, hall⟩
  by_cases hlt : i < ls.length
  · obtain ⟨r, hr⟩ : ∃ r, ls[i] = r := ⟨_, rfl⟩
    have hri : ls[i]? = some r := by rw [List.getElem?_eq_getElem hlt, hr]
    have hro := hs r (hr ▸ List.getElem_mem hlt)
    have q1 := hro.l.le
    have q2 := hro.l.big
    have q3 := hro.d.le
    have q4 := hro.d.big
    rcases (by omega : 60 ≤ i ∨ (i < 60 ∧ 100 < r.1.l.length) ∨ (i < 60 ∧ r.1.l.length ≤ 100 ∧ 40 < r.2.1.l.length) ∨ (i < 60 ∧ r.1.l.length ≤ 100 ∧ r.2.1.l.length ≤ 40)) with q | ⟨q, q5⟩ | ⟨q, q5, q6⟩ | ⟨q, q5, q6⟩
    · repeat' (first | refine ls_of rfl ?_ | refine ls_of_no ?_ | refine ls_guard_yes rfl rfl ?_ | refine ls_guard_no rfl rfl rfl rfl ?_ | refine ls_guard_un rfl rfl rfl ?_ | refine o1_move rfl ?_ | refine o1_assign rfl ?_ | refine st_seq ?_ | refine st_region ?_ | refine st_block ?_ | refine st_skip ?_ | refine st_ret ?_ | refine st_exit ?_ | refine st_cond_t rfl ?_ | refine st_cond_f rfl ?_ | refine st_cond rfl (fun _ => ?_) (fun _ => ?_) | refine ls_nil ?_ | refine nx_seq ?_ | refine nx_blk ?_ | refine nx_fn ?_ | refine nx_rounds ?_ | refine xt_seq ?_ | refine xt_here ?_ | refine xt_on rfl ?_ | refine xt_rounds ?_ | refine xt_cut ?_ | refine rt_seq ?_ | refine rt_blk ?_ | refine rt_rounds ?_ | refine rt_cut ?_ | refine o1_iaw (f := fL) (g := fB) (ad := ad) (c := c) i rfl rfl h rfl rfl hlt ?_ | refine o1_load_iaw (f := fL) (g := fB) (ad := ad) (c := c) i r rfl h hri ?_ | refine o1_pick_t rfl rfl ?_ | refine o1_pick_f rfl rfl ?_ | refine o1_fieldAddr rfl ?_ | refine ox_load rfl (by rfl) ?_ | refine ox_load_enc rfl (by first | omega | (simp; omega)) ?_ | refine ox_load_any rfl (by assumption) ?_ | refine o1_len rfl ?_ | refine o1_add rfl rfl (by omega) ?_ | refine o1_lss_t rfl rfl (by omega) ?_ | refine o1_lss_f rfl rfl (by omega) ?_ | refine o1_lss rfl rfl (fun _ => ?_) (fun _ => ?_) | refine o1_gtr_t rfl rfl (by omega) ?_ | refine o1_gtr_f rfl rfl (by omega) ?_ | refine o1_gtr rfl rfl (fun _ => ?_) (fun _ => ?_) | refine o1_geq_t rfl rfl (by omega) ?_ | refine o1_geq_f rfl rfl (by omega) ?_ | refine o1_geq rfl rfl (fun _ => ?_) (fun _ => ?_) | refine o1_alloc rfl (fun _ => ?_) | refine ox_store_agg rfl rfl (by rfl) (by simp) (by simp [Value.oneCell']) (by simp only [putL, List.set_cons_zero, List.set_cons_succ, Nat.zero_add, Nat.reduceAdd]; rfl) ?_ | refine ox_load_agg rfl (by simp only [Nat.zero_add, Nat.reduceAdd, List.drop_zero, List.drop_succ_cons, List.take_succ_cons, List.take_zero]; rfl) (by rfl) ?_)
      refine rt_tmp false rfl rfl rfl (fun e => by cases e) ?_
      (try dsimp only [List.cons_append, List.nil_append, List.singleton_append, List.append_nil]); (repeat (first | exact Ent.nil | exact Ent.refl _ | (apply Ent.cons; (repeat (first | exact Sel.here | apply Sel.there)))))
    · repeat' (first | refine ls_of rfl ?_ | refine ls_of_no ?_ | refine ls_guard_yes rfl rfl ?_ | refine ls_guard_no rfl rfl rfl rfl ?_ | refine ls_guard_un rfl rfl rfl ?_ | refine o1_move rfl ?_ | refine o1_assign rfl ?_ | refine st_seq ?_ | refine st_region ?_ | refine st_block ?_ | refine st_skip ?_ | refine st_ret ?_ | refine st_exit ?_ | refine st_cond_t rfl ?_ | refine st_cond_f rfl ?_ | refine st_cond rfl (fun _ => ?_) (fun _ => ?_) | refine ls_nil ?_ | refine nx_seq ?_ | refine nx_blk ?_ | refine nx_fn ?_ | refine nx_rounds ?_ | refine xt_seq ?_ | refine xt_here ?_ | refine xt_on rfl ?_ | refine xt_rounds ?_ | refine xt_cut ?_ | refine rt_seq ?_ | refine rt_blk ?_ | refine rt_rounds ?_ | refine rt_cut ?_ | refine o1_iaw (f := fL) (g := fB) (ad := ad) (c := c) i rfl rfl h rfl rfl hlt ?_ | refine o1_load_iaw (f := fL) (g := fB) (ad := ad) (c := c) i r rfl h hri ?_ | refine o1_pick_t rfl rfl ?_ | refine o1_pick_f rfl rfl ?_ | refine o1_fieldAddr rfl ?_ | refine ox_load rfl (by rfl) ?_ | refine ox_load_enc rfl (by first | omega | (simp; omega)) ?_ | refine ox_load_any rfl (by assumption) ?_ | refine o1_len rfl ?_ | refine o1_add rfl rfl (by omega) ?_ | refine o1_lss_t rfl rfl (by omega) ?_ | refine o1_lss_f rfl rfl (by omega) ?_ | refine o1_lss rfl rfl (fun _ => ?_) (fun _ => ?_) | refine o1_gtr_t rfl rfl (by omega) ?_ | refine o1_gtr_f rfl rfl (by omega) ?_ | refine o1_gtr rfl rfl (fun _ => ?_) (fun _ => ?_) | refine o1_geq_t rfl rfl (by omega) ?_ | refine o1_geq_f rfl rfl (by omega) ?_ | refine o1_geq rfl rfl (fun _ => ?_) (fun _ => ?_) | refine o1_alloc rfl (fun _ => ?_) | refine ox_store_agg rfl rfl (by rfl) (by simp) (by simp [Value.oneCell']) (by simp only [putL, List.set_cons_zero, List.set_cons_succ, Nat.zero_add, Nat.reduceAdd]; rfl) ?_ | refine ox_load_agg rfl (by simp only [Nat.zero_add, Nat.reduceAdd, List.drop_zero, List.drop_succ_cons, List.take_succ_cons, List.take_zero]; rfl) (by rfl) ?_)
      refine rt_tmp false rfl rfl rfl (fun e => by cases e) ?_
      (try dsimp only [List.cons_append, List.nil_append, List.singleton_append, List.append_nil]); (repeat (first | exact Ent.nil | exact Ent.refl _ | (apply Ent.cons; (repeat (first | exact Sel.here | apply Sel.there)))))
    · repeat' (first | refine ls_of rfl ?_ | refine ls_of_no ?_ | refine ls_guard_yes rfl rfl ?_ | refine ls_guard_no rfl rfl rfl rfl ?_ | refine ls_guard_un rfl rfl rfl ?_ | refine o1_move rfl ?_ | refine o1_assign rfl ?_ | refine st_seq ?_ | refine st_region ?_ | refine st_block ?_ | refine st_skip ?_ | refine st_ret ?_ | refine st_exit ?_ | refine st_cond_t rfl ?_ | refine st_cond_f rfl ?_ | refine st_cond rfl (fun _ => ?_) (fun _ => ?_) | refine ls_nil ?_ | refine nx_seq ?_ | refine nx_blk ?_ | refine nx_fn ?_ | refine nx_rounds ?_ | refine xt_seq ?_ | refine xt_here ?_ | refine xt_on rfl ?_ | refine xt_rounds ?_ | refine xt_cut ?_ | refine rt_seq ?_ | refine rt_blk ?_ | refine rt_rounds ?_ | refine rt_cut ?_ | refine o1_iaw (f := fL) (g := fB) (ad := ad) (c := c) i rfl rfl h rfl rfl hlt ?_ | refine o1_load_iaw (f := fL) (g := fB) (ad := ad) (c := c) i r rfl h hri ?_ | refine o1_pick_t rfl rfl ?_ | refine o1_pick_f rfl rfl ?_ | refine o1_fieldAddr rfl ?_ | refine ox_load rfl (by rfl) ?_ | refine ox_load_enc rfl (by first | omega | (simp; omega)) ?_ | refine ox_load_any rfl (by assumption) ?_ | refine o1_len rfl ?_ | refine o1_add rfl rfl (by omega) ?_ | refine o1_lss_t rfl rfl (by omega) ?_ | refine o1_lss_f rfl rfl (by omega) ?_ | refine o1_lss rfl rfl (fun _ => ?_) (fun _ => ?_) | refine o1_gtr_t rfl rfl (by omega) ?_ | refine o1_gtr_f rfl rfl (by omega) ?_ | refine o1_gtr rfl rfl (fun _ => ?_) (fun _ => ?_) | refine o1_geq_t rfl rfl (by omega) ?_ | refine o1_geq_f rfl rfl (by omega) ?_ | refine o1_geq rfl rfl (fun _ => ?_) (fun _ => ?_) | refine o1_alloc rfl (fun _ => ?_) | refine ox_store_agg rfl rfl (by rfl) (by simp) (by simp [Value.oneCell']) (by simp only [putL, List.set_cons_zero, List.set_cons_succ, Nat.zero_add, Nat.reduceAdd]; rfl) ?_ | refine ox_load_agg rfl (by simp only [Nat.zero_add, Nat.reduceAdd, List.drop_zero, List.drop_succ_cons, List.take_succ_cons, List.take_zero]; rfl) (by rfl) ?_)
      refine rt_tmp false rfl rfl rfl (fun e => by cases e) ?_
      (try dsimp only [List.cons_append, List.nil_append, List.singleton_append, List.append_nil]); (repeat (first | exact Ent.nil | exact Ent.refl _ | (apply Ent.cons; (repeat (first | exact Sel.here | apply Sel.there)))))
    · repeat' (first | refine ls_of rfl ?_ | refine ls_of_no ?_ | refine ls_guard_yes rfl rfl ?_ | refine ls_guard_no rfl rfl rfl rfl ?_ | refine ls_guard_un rfl rfl rfl ?_ | refine o1_move rfl ?_ | refine o1_assign rfl ?_ | refine st_seq ?_ | refine st_region ?_ | refine st_block ?_ | refine st_skip ?_ | refine st_ret ?_ | refine st_exit ?_ | refine st_cond_t rfl ?_ | refine st_cond_f rfl ?_ | refine st_cond rfl (fun _ => ?_) (fun _ => ?_) | refine ls_nil ?_ | refine nx_seq ?_ | refine nx_blk ?_ | refine nx_fn ?_ | refine nx_rounds ?_ | refine xt_seq ?_ | refine xt_here ?_ | refine xt_on rfl ?_ | refine xt_rounds ?_ | refine xt_cut ?_ | refine rt_seq ?_ | refine rt_blk ?_ | refine rt_rounds ?_ | refine rt_cut ?_ | refine o1_iaw (f := fL) (g := fB) (ad := ad) (c := c) i rfl rfl h rfl rfl hlt ?_ | refine o1_load_iaw (f := fL) (g := fB) (ad := ad) (c := c) i r rfl h hri ?_ | refine o1_pick_t rfl rfl ?_ | refine o1_pick_f rfl rfl ?_ | refine o1_fieldAddr rfl ?_ | refine ox_load rfl (by rfl) ?_ | refine ox_load_enc rfl (by first | omega | (simp; omega)) ?_ | refine ox_load_any rfl (by assumption) ?_ | refine o1_len rfl ?_ | refine o1_add rfl rfl (by omega) ?_ | refine o1_lss_t rfl rfl (by omega) ?_ | refine o1_lss_f rfl rfl (by omega) ?_ | refine o1_lss rfl rfl (fun _ => ?_) (fun _ => ?_) | refine o1_gtr_t rfl rfl (by omega) ?_ | refine o1_gtr_f rfl rfl (by omega) ?_ | refine o1_gtr rfl rfl (fun _ => ?_) (fun _ => ?_) | refine o1_geq_t rfl rfl (by omega) ?_ | refine o1_geq_f rfl rfl (by omega) ?_ | refine o1_geq rfl rfl (fun _ => ?_) (fun _ => ?_) | refine o1_alloc rfl (fun _ => ?_) | refine ox_store_agg rfl rfl (by rfl) (by simp) (by simp [Value.oneCell']) (by simp only [putL, List.set_cons_zero, List.set_cons_succ, Nat.zero_add, Nat.reduceAdd]; rfl) ?_ | refine ox_load_agg rfl (by simp only [Nat.zero_add, Nat.reduceAdd, List.drop_zero, List.drop_succ_cons, List.take_succ_cons, List.take_zero]; rfl) (by rfl) ?_)
      refine nx_again (i + 1) ⟨by omega, by omega, light_take hlt hall (hr ▸ q5) (hr ▸ q6)⟩ (by omega) (cov_cons rfl rfl (cov_cons rfl rfl (cov_cons rfl rfl cov_nil))) ?_
      (try dsimp only [List.cons_append, List.nil_append, List.singleton_append, List.append_nil]); (repeat (first | exact Ent.nil | exact Ent.refl _ | (apply Ent.cons; (repeat (first | exact Sel.here | apply Sel.there)))))
  · have : i = ls.length := by omega
    subst this
    rw [List.take_length] at hall
    repeat' (first | refine ls_of rfl ?_ | refine ls_of_no ?_ | refine ls_guard_yes rfl rfl ?_ | refine ls_guard_no rfl rfl rfl rfl ?_ | refine ls_guard_un rfl rfl rfl ?_ | refine o1_move rfl ?_ | refine o1_assign rfl ?_ | refine st_seq ?_ | refine st_region ?_ | refine st_block ?_ | refine st_skip ?_ | refine st_ret ?_ | refine st_exit ?_ | refine st_cond_t rfl ?_ | refine st_cond_f rfl ?_ | refine st_cond rfl (fun _ => ?_) (fun _ => ?_) | refine ls_nil ?_ | refine nx_seq ?_ | refine nx_blk ?_ | refine nx_fn ?_ | refine nx_rounds ?_ | refine xt_seq ?_ | refine xt_here ?_ | refine xt_on rfl ?_ | refine xt_rounds ?_ | refine xt_cut ?_ | refine rt_seq ?_ | refine rt_blk ?_ | refine rt_rounds ?_ | refine rt_cut ?_ | refine o1_pick_t rfl rfl ?_ | refine o1_pick_f rfl rfl ?_ | refine o1_fieldAddr rfl ?_ | refine ox_load rfl (by rfl) ?_ | refine ox_load_enc rfl (by first | omega | (simp; omega)) ?_ | refine ox_load_any rfl (by assumption) ?_ | refine o1_len rfl ?_ | refine o1_add rfl rfl (by omega) ?_ | refine o1_lss_t rfl rfl (by omega) ?_ | refine o1_lss_f rfl rfl (by omega) ?_ | refine o1_lss rfl rfl (fun _ => ?_) (fun _ => ?_) | refine o1_gtr_t rfl rfl (by omega) ?_ | refine o1_gtr_f rfl rfl (by omega) ?_ | refine o1_gtr rfl rfl (fun _ => ?_) (fun _ => ?_) | refine o1_geq_t rfl rfl (by omega) ?_ | refine o1_geq_f rfl rfl (by omega) ?_ | refine o1_geq rfl rfl (fun _ => ?_) (fun _ => ?_) | refine o1_alloc rfl (fun _ => ?_) | refine ox_store_agg rfl rfl (by rfl) (by simp) (by simp [Value.oneCell']) (by simp only [putL, List.set_cons_zero, List.set_cons_succ, Nat.zero_add, Nat.reduceAdd]; rfl) ?_ | refine ox_load_agg rfl (by simp only [Nat.zero_add, Nat.reduceAdd, List.drop_zero, List.drop_succ_cons, List.take_succ_cons, List.take_zero]; rfl) (by rfl) ?_)
    refine rt_tmp true rfl rfl rfl (fun _ => ⟨hi6, hall⟩) ?_
    (try dsimp only [List.cons_append, List.nil_append, List.singleton_append, List.append_nil]); (repeat (first | exact Ent.nil | exact Ent.refl _ | (apply Ent.cons; (repeat (first | exact Sel.here | apply Sel.there)))))
end Go.Dp

set_option linter.unusedVariables false
set_option linter.unusedSimpArgs false
namespace Go.Dp
open Go.RowKit Go.Proofs
def rtY7_0 : List Row := [⟨some 14, [], [], none⟩, ⟨some 15, [0], [0], none⟩, ⟨some 16, [1], [0, 1], none⟩, ⟨some 17, [2], [0, 1, 2], none⟩, ⟨some 18, [3], [0, 1, 2, 3], none⟩, ⟨some 19, [], [], none⟩, ⟨some 20, [5], [5], none⟩, ⟨some 21, [6], [5, 6], none⟩, ⟨some 22, [7], [5, 6, 7], none⟩, ⟨some 23, [4, 8], [0, 1, 2, 3, 4, 5, 6, 7, 8], none⟩, ⟨some 4, [9, 9, 0, 1, 2, 3, 4, 5, 6, 7, 8, 9], [0, 1, 2, 3, 4, 5, 6, 7, 8, 9], none⟩]
def rtY7_1 : List Row := [⟨some 105, [], [], none⟩, ⟨some 106, [0], [0], none⟩, ⟨some 107, [1], [0, 1], none⟩, ⟨some 108, [], [], none⟩, ⟨some 109, [3], [3], none⟩, ⟨some 110, [2, 4], [0, 1, 2, 3, 4], none⟩]
def rtY7_2 : List Row := [⟨some 70, [], [], none⟩, ⟨some 71, [0], [0], none⟩, ⟨some 72, [1], [0, 1], none⟩, ⟨some 73, [2], [0, 1, 2], none⟩, ⟨some 74, [], [], none⟩, ⟨some 75, [], [], none⟩, ⟨some 76, [], [], none⟩, ⟨some 77, [], [], none⟩, ⟨some 78, [6, 7], [6, 7], none⟩, ⟨some 79, [4, 5, 8], [4, 5, 6, 7, 8], none⟩, ⟨some 80, [3, 9], [0, 1, 2, 3, 4, 5, 6, 7, 8, 9], none⟩, ⟨some 69, [10], [0, 1, 2, 3, 4, 5, 6, 7, 8, 9, 10], none⟩, ⟨some 81, [11], [0, 1, 2, 3, 4, 5, 6, 7, 8, 9, 10, 11], none⟩, ⟨some 82, [11], [0, 1, 2, 3, 4, 5, 6, 7, 8, 9, 10, 11], none⟩, ⟨some 9, [12, 10, 0, 1, 2, 3, 4, 5, 6, 7, 8, 9, 10, 11, 12], [0, 1, 2, 3, 4, 5, 6, 7, 8, 9, 10, 11, 12], none⟩, ⟨some 10, [13, 14, 0, 1, 2, 3, 4, 5, 6, 7, 8, 9, 10, 11, 12, 13, 14], [0, 1, 2, 3, 4, 5, 6, 7, 8, 9, 10, 11, 12, 13, 14], none⟩]
theorem prefM_RR {n z : Nat} {M : List (Option LN)} (h : RR n z M) {c : Nat} (hc : c ≤ M.length) : RR n z (prefM M c) where
  lok := ⟨by rw [prefM_len _ _ hc]; exact h.lok.len, fun y hy => by
    obtain ⟨j, hj⟩ := List.getElem?_of_mem hy
    exact h.lok.ok y (mem_of_get? (prefM_some hc hj).2)⟩
  fst i y hy := h.fst i y (prefM_some hc hy).2
  lo i y j hy hj := h.lo i y j (prefM_some hc hy).2 hj
  piv i j y w hy hw e := h.piv i j y w (prefM_some hc hy).2 (prefM_some hc hw).2 e
theorem cntS_none_of {M : List (Option LN)} (h : ∀ o ∈ M, o = none) : cntS M = 0 := by
  induction M with
  | nil => rfl
  | cons o M ih =>
    obtain rfl := h o (by simp)
    exact ih (fun o ho => h o (by simp [ho]))
theorem cntS_next {M : List (Option LN)} {c i : Nat} {y : LN} (hci : c ≤ i) (hy : M[i]? = some (some y)) (h : ∀ j, c ≤ j → j < i → M.getD j none = none) : cntS (M.drop c) = 1 + cntS (M.drop (i + 1)) := by
  have hi : i < M.length := (List.getElem?_eq_some_iff.1 hy).1
  have e1 : M.drop c = (M.take i).drop c ++ M.drop i := by
    conv => lhs; rw [← List.take_append_drop i M]
    rw [List.drop_append_of_le_length (by simp; omega)]
  have e2 : M.drop i = some y :: M.drop (i + 1) := by
    rw [List.drop_eq_getElem_cons hi]
    congr 1
    exact (List.getElem?_eq_some_iff.1 hy).2
  have e3 : cntS ((M.take i).drop c) = 0 := cntS_none_of (by
    intro o ho
    obtain ⟨j, hj, e⟩ := List.getElem_of_mem ho
    rw [List.getElem_drop, List.getElem_take] at e
    simp only [List.length_drop, List.length_take] at hj
    have := h (c + j) (by omega) (by omega)
    rw [List.getD_eq_getElem?_getD, List.getElem?_eq_getElem (by omega), Option.getD_some] at this
    rw [← e, this])
  rw [e1, cntS_append, e3, e2, cntS]
  omega
theorem r1_Num (H : List Hl) (ad : Option Addr) (m c : Nat) (l : List (BitVec 8)) (h : Rs (stars H) B ad c l) (hm : m = l.length) : Spec Tryd.prog 68 [.slice ad m c] H (fun _ : Unit => True) (fun _ => W4 (num32 l)) (fun _ => H) := by
  subst hm
  have b1 := h.le
  have b2 := h.big
  refine spec_pure (res := fun _ => []) H Tryd.func68 rfl Tryd.ntmps68 (by kernel_rfl) rfl (fun W => ?_)
  repeat' (first | refine ls_of rfl ?_ | refine ls_of_no ?_ | refine ls_guard_yes rfl rfl ?_ | refine ls_guard_no rfl rfl rfl rfl ?_ | refine ls_guard_un rfl rfl rfl ?_ | refine o1_move rfl ?_ | refine o1_assign rfl ?_ | refine st_seq ?_ | refine st_region ?_ | refine st_block ?_ | refine st_skip ?_ | refine st_ret ?_ | refine st_exit ?_ | refine st_cond_t rfl ?_ | refine st_cond_f rfl ?_ | refine st_cond rfl (fun _ => ?_) (fun _ => ?_) | refine ls_nil ?_ | refine nx_seq ?_ | refine nx_blk ?_ | refine nx_fn ?_ | refine nx_rounds ?_ | refine xt_seq ?_ | refine xt_here ?_ | refine xt_on rfl ?_ | refine xt_rounds ?_ | refine xt_cut ?_ | refine rt_seq ?_ | refine rt_blk ?_ | refine rt_rounds ?_ | refine rt_cut ?_ | refine ox_load rfl (by rfl) ?_ | refine ox_load_enc rfl (by first | omega | (simp; omega)) ?_ | refine ox_load_any rfl (by assumption) ?_ | refine o1_len rfl ?_ | refine o1_add rfl rfl (by omega) ?_ | refine o1_lss_t rfl rfl (by omega) ?_ | refine o1_lss_f rfl rfl (by omega) ?_ | refine o1_lss rfl rfl (fun _ => ?_) (fun _ => ?_) | refine o1_uor rfl rfl ?_ | refine o1_ushl rfl rfl (by omega) ?_ | refine o1_conv_uu rfl ?_)
  refine st_loop (S := Nat) (fun i => [(3, W4 (num32 (l.take i))), (6, .slice ad l.length c), (7, I l.length), (8, I i)]) (fun _ => _) (fun i => i ≤ l.length) (fun i => l.length - i) 0 (by omega)
    (cov_cons rfl rfl (cov_cons rfl rfl (cov_cons rfl rfl (cov_cons rfl rfl cov_nil)))) (Ent.refl _) ?_
  intro i hi
  repeat' (first | refine ls_of rfl ?_ | refine ls_of_no ?_ | refine ls_guard_yes rfl rfl ?_ | refine ls_guard_no rfl rfl rfl rfl ?_ | refine ls_guard_un rfl rfl rfl ?_ | refine o1_move rfl ?_ | refine o1_assign rfl ?_ | refine st_seq ?_ | refine st_region ?_ | refine st_block ?_ | refine st_skip ?_ | refine st_ret ?_ | refine st_exit ?_ | refine st_cond_t rfl ?_ | refine st_cond_f rfl ?_ | refine st_cond rfl (fun _ => ?_) (fun _ => ?_) | refine ls_nil ?_ | refine nx_seq ?_ | refine nx_blk ?_ | refine nx_fn ?_ | refine nx_rounds ?_ | refine xt_seq ?_ | refine xt_here ?_ | refine xt_on rfl ?_ | refine xt_rounds ?_ | refine xt_cut ?_ | refine rt_seq ?_ | refine rt_blk ?_ | refine rt_rounds ?_ | refine rt_cut ?_ | refine o1_indexAddr_rd rfl rfl h i rfl (by omega) (fun a ha => ?_) | refine ox_load rfl (by rfl) ?_ | refine ox_load_enc rfl (by first | omega | (simp; omega)) ?_ | refine ox_load_any rfl (by assumption) ?_ | refine o1_len rfl ?_ | refine o1_add rfl rfl (by omega) ?_ | refine o1_lss_t rfl rfl (by omega) ?_ | refine o1_lss_f rfl rfl (by omega) ?_ | refine o1_lss rfl rfl (fun _ => ?_) (fun _ => ?_) | refine o1_uor rfl rfl ?_ | refine o1_ushl rfl rfl (by omega) ?_ | refine o1_conv_uu rfl ?_)
  · refine nx_again (i + 1) (by omega) (by omega) (cov_cons rfl ?_ (cov_cons rfl rfl (cov_cons rfl rfl (cov_cons rfl rfl cov_nil)))) (Ent.refl _)
    rw [num32_succ _ _ (by omega)]; rfl
  · have : i = l.length := by omega
    subst this
    refine rt_tmp () rfl rfl ?_ trivial ?_
    · rw [List.take_length]
    · (try dsimp only [List.cons_append, List.nil_append, List.singleton_append, List.append_nil]); (repeat (first | exact Ent.nil | exact Ent.refl _ | (apply Ent.cons; (repeat (first | exact Sel.here | apply Sel.there)))))
theorem cut_at (bs : List (BitVec 8)) (a m : Nat) : (bs.take (a + m)).drop a = (bs.drop a).take m := by
  rw [List.drop_take]
  congr 1
  omega
set_option maxHeartbeats 8000000 in
theorem r1_FromMatrix (H : List Hl) (A : Hp → Prop) (n z k : Nat) (ML : List (Option LN)) (ad : Option Addr) (c : Nat) (bs : List (BitVec 8)) (hb : Rs A B ad c bs) (hbs : matB n z k ML = bs) (hRR : RR n z ML) (hk : cntS ML = k) (h1 : 1 ≤ n) (h2 : n ≤ 256) (h3 : 1 ≤ z) (h4 : z ≤ 16) :
    Spec Tryd.prog 49 [.slice ad bs.length c] (.any A :: H) (fun r : Nat × (Option Addr × Nat × List LnD) × (Hp → Prop) => RdL r.2.2 n z r.2.1.1 r.2.1.2.1 r.2.1.2.2 ∧ r.2.1.2.2.map lnV = cmp ML ∧ Gr A r.2.2) (fun r => .tuple #[.pointer (some ⟨r.1, 0, none⟩), .bool true]) (fun r => rB r.1 n z r.2.1.1 r.2.1.2.1 r.2.1.2.2.length :: .any r.2.2 :: H) := by
  refine spec_fn (res := fun r : Nat × (Option Addr × Nat × List LnD) × (Hp → Prop) => [rB r.1 n z r.2.1.1 r.2.1.2.1 r.2.1.2.2.length, .any r.2.2]) [.any A] H Tryd.func49 rfl Tryd.ntmps49 (by kernel_rfl) rfl (fun W => ?_)
  dsimp only [List.cons_append, List.nil_append]
  have hle := hb.le
  have hbg := hb.big
  have hMLl := hRR.lok.len
  have hnb : nb n ≤ 32 := by unfold nb; omega
  have hq : ((n : Int) + 7) / 8 = (nb n : Nat) := by unfold nb; omega
  have hd4 : bs.drop 4 = rowsB ML := by rw [← hbs]; rfl
  have hcc : cntS ML ≤ ML.length := cntS_le _
  have hrl0 := rowsB_len (n := n) (z := z) (M := ML) (fun y hy => hRR.lok.ok y hy)
  rw [hk] at hrl0
  obtain ⟨wz, hwz⟩ : ∃ wz, nb n + z = wz := ⟨_, rfl⟩
  have hwz48 : wz ≤ 48 := by omega
  obtain ⟨kw, hkw⟩ : ∃ kw, k * wz = kw := ⟨_, rfl⟩
  have hkw2 : kw ≤ 256 * 48 := by rw [← hkw]; exact Nat.mul_le_mul (by omega) hwz48
  have hmul : (k : Int) * (wz : Int) = (kw : Nat) := by rw [← hkw]; push_cast; rfl
  rw [hwz, hkw] at hrl0
  have hl4 : bs.length = 4 + kw := by
    have e : bs.length = 4 + (rowsB ML).length := by rw [← hbs]; simp [matB, headB]; omega
    rw [e, hrl0]
  have g0 : bs[0]? = some (BitVec.ofInt 8 ((n : Int) - 1)) := by rw [← hbs]; rfl
  have g1 : bs[1]? = some (BitVec.ofInt 8 (z : Int)) := by rw [← hbs]; rfl
  have g2 : (bs.take 4).drop 2 = be2 (k : Int) := by rw [← hbs]; rfl
  have hn1 : ((BitVec.ofInt 8 ((n : Int) - 1)).toNat : Int) + 1 = n := by simp only [BitVec.toNat_ofInt]; omega
  have hz1 : ((BitVec.ofInt 8 (z : Int)).toNat : Int) = z := by simp only [BitVec.toNat_ofInt]; omega
  have hnk := num32_be2 (k : Int) (by omega) (by omega)
  obtain ⟨K2, hK2⟩ : ∃ K2, be2 (k : Int) = K2 := ⟨_, rfl⟩
  have hK2l : K2.length = 2 := by rw [← hK2]; rfl
  rw [hK2] at g2 hnk
  have hf2 : Rs A B (cutA ad c 2) (c - 2) K2 := by have := hb.cutv 2 4 (by omega) (by omega); rw [g2] at this; exact this
  have hnz : (nb n : Int) + z = ((wz : Nat) : Int) := by rw [← hwz]; push_cast; rfl
  repeat' (first | refine ls_of rfl ?_ | refine ls_of_no ?_ | refine ls_guard_yes rfl rfl ?_ | refine ls_guard_no rfl rfl rfl rfl ?_ | refine ls_guard_un rfl rfl rfl ?_ | refine o1_move rfl ?_ | refine o1_assign rfl ?_ | refine st_seq ?_ | refine st_region ?_ | refine st_block ?_ | refine st_skip ?_ | refine st_ret ?_ | refine st_exit ?_ | refine st_cond_t rfl ?_ | refine st_cond_f rfl ?_ | refine st_cond rfl (fun _ => ?_) (fun _ => ?_) | refine ls_nil ?_ | refine nx_seq ?_ | refine nx_blk ?_ | refine nx_fn ?_ | refine nx_rounds ?_ | refine xt_seq ?_ | refine xt_here ?_ | refine xt_on rfl ?_ | refine xt_rounds ?_ | refine xt_cut ?_ | refine rt_seq ?_ | refine rt_blk ?_ | refine rt_rounds ?_ | refine rt_cut ?_ | refine o1_pick_t rfl rfl ?_ | refine o1_pick_f rfl rfl ?_ | refine o1_extract rfl rfl ?_ | refine o1_fieldAddr rfl ?_ | refine ox_load rfl (by rfl) ?_ | refine ox_load_enc rfl (by first | omega | (simp; omega)) ?_ | refine ox_load_any rfl (by assumption) ?_ | refine o1_len rfl ?_ | refine o1_add rfl rfl (by omega) ?_ | refine o1_lss_t rfl rfl (by omega) ?_ | refine o1_lss_f rfl rfl (by omega) ?_ | refine o1_lss rfl rfl (fun _ => ?_) (fun _ => ?_) | refine o1_gtr_t rfl rfl (by omega) ?_ | refine o1_gtr_f rfl rfl (by omega) ?_ | refine o1_gtr rfl rfl (fun _ => ?_) (fun _ => ?_) | refine o1_neq_t rfl rfl (by omega) ?_ | refine o1_neq_f rfl rfl (by omega) ?_ | refine o1_neq rfl rfl (fun _ => ?_) (fun _ => ?_) | refine o1_bnot rfl ?_ | refine o1_unot rfl ?_ | refine o1_conv_i rfl (by omega) ?_ | refine o1_conv_ui rfl (by exact bv_small (by decide) _) ?_ | refine o1_string rfl (by rfl) rx_row ?_ | refine o1_string rfl (by rfl) (rx_any (by assumption)) ?_ | refine o1_slice_nil rfl ?_ | refine o1_nilCheck rfl ?_)
  refine st_stages [(0, _)] rtY7_0 [9] [⟨[0, 1, 2, 3, 4, 5, 6, 7, 8], [], some 9⟩, ⟨[10], [], none⟩] mixed (cov_cons rfl rfl cov_nil) (by kernel_rfl) (by kernel_rfl) ?_
  all_goals refine wk_ch ?_
  all_goals (refine xp1 0 rfl rfl rfl rfl (by refine o1_move rfl fz) ?_)
  all_goals (refine xp1 14 rfl rfl rfl rfl (by first | refine o1_ia (ad := ad) (c := c) 0 rfl rfl hb rfl rfl (by omega) fz | refine o1_ia (ad := ad) (c := c) 1 rfl rfl hb rfl rfl (by omega) fz) ?_)
  all_goals (refine xp1 15 rfl rfl rfl rfl (by first | refine o1_load_av (ad := ad) (c := c) 0 _ rfl hb g0 fz | refine o1_load_av (ad := ad) (c := c) 1 _ rfl hb g1 fz | refine ox_load rfl (by rfl) fz | refine ox_load_enc rfl (by first | omega | (simp; omega)) fz | refine ox_load_any rfl (by assumption) fz) ?_)
  all_goals (refine xp1 16 rfl rfl rfl rfl (by first | ((refine o1_conv_i rfl (by omega) ?_; rw [hz1]); all_goals exact fz) | refine o1_conv_i rfl (by omega) fz | refine o1_conv_i rfl (by omega) fz | refine o1_conv_ui rfl (by exact bv_small (by decide) _) fz) ?_)
  all_goals (refine xp1 17 rfl rfl rfl rfl (by first | ((refine o1_add rfl rfl (by omega) ?_; rw [hn1]); all_goals exact fz) | refine o1_add rfl rfl (by omega) fz) ?_)
  all_goals (refine xp1 0 rfl rfl rfl rfl (by refine o1_move rfl fz) ?_)
  all_goals (refine xp1 19 rfl rfl rfl rfl (by first | refine o1_ia (ad := ad) (c := c) 0 rfl rfl hb rfl rfl (by omega) fz | refine o1_ia (ad := ad) (c := c) 1 rfl rfl hb rfl rfl (by omega) fz) ?_)
  all_goals (refine xp1 20 rfl rfl rfl rfl (by first | refine o1_load_av (ad := ad) (c := c) 0 _ rfl hb g0 fz | refine o1_load_av (ad := ad) (c := c) 1 _ rfl hb g1 fz | refine ox_load rfl (by rfl) fz | refine ox_load_enc rfl (by first | omega | (simp; omega)) fz | refine ox_load_any rfl (by assumption) fz) ?_)
  all_goals (refine xp1 21 rfl rfl rfl rfl (by first | ((refine o1_conv_i rfl (by omega) ?_; rw [hz1]); all_goals exact fz) | refine o1_conv_i rfl (by omega) fz | refine o1_conv_i rfl (by omega) fz | refine o1_conv_ui rfl (by exact bv_small (by decide) _) fz) ?_)
  all_goals refine op_nil ?_
  all_goals refine re_nil ?_
  all_goals first | (refine ch_run (E' := [(18, _), (22, _)]) rfl (gd_r0 rfl) rfl (cov_cons rfl rfl (cov_cons rfl rfl cov_nil)) ?_; (first | (refine o1_call (fun _ => r1_NewMatrix _ n z h1 h2 h3 h4) rfl (fun b _ => ?_))))
  all_goals refine wk_end ?_
  all_goals (refine xp1 23 rfl rfl rfl rfl (by refine o1_assign rfl fz) ?_)
  all_goals refine op_nil ?_
  all_goals refine re_nil ?_
  all_goals dsimp only [List.cons_append, List.nil_append]
  repeat' (first | refine ls_of rfl ?_ | refine ls_of_no ?_ | refine ls_guard_yes rfl rfl ?_ | refine ls_guard_no rfl rfl rfl rfl ?_ | refine ls_guard_un rfl rfl rfl ?_ | refine o1_move rfl ?_ | refine o1_assign rfl ?_ | refine st_seq ?_ | refine st_region ?_ | refine st_block ?_ | refine st_skip ?_ | refine st_ret ?_ | refine st_exit ?_ | refine st_cond_t rfl ?_ | refine st_cond_f rfl ?_ | refine st_cond rfl (fun _ => ?_) (fun _ => ?_) | refine ls_nil ?_ | refine nx_seq ?_ | refine nx_blk ?_ | refine nx_fn ?_ | refine nx_rounds ?_ | refine xt_seq ?_ | refine xt_here ?_ | refine xt_on rfl ?_ | refine xt_rounds ?_ | refine xt_cut ?_ | refine rt_seq ?_ | refine rt_blk ?_ | refine rt_rounds ?_ | refine rt_cut ?_ | refine o1_peql rfl rfl ?_ | (refine o1_quo rfl rfl (by omega) ?_; rw [hq]) | (refine o1_cs_lh (xs := bs) 2 4 rfl rfl rfl rfl rfl rfl (by omega) (by omega) (by omega) ?_; rw [g2]) | refine o1_call (fun _ => r1_Num _ (cutA ad c 2) K2.length (c - 2) K2 (Rs.up hf2) rfl) rfl (fun _ _ => ?_) | (refine o1_conv_i rfl (by omega) ?_; rw [hnk]) | (refine o1_add rfl rfl (by omega) ?_; rw [hnz]) | (refine o1_mul rfl rfl (by rw [hmul]; omega) ?_; rw [hmul]) | refine o1_neq_f rfl rfl (by omega) ?_ | refine o1_pick_t rfl rfl ?_ | refine o1_pick_f rfl rfl ?_ | refine o1_extract rfl rfl ?_ | refine o1_fieldAddr rfl ?_ | refine ox_load rfl (by rfl) ?_ | refine ox_load_enc rfl (by first | omega | (simp; omega)) ?_ | refine ox_load_any rfl (by assumption) ?_ | refine o1_len rfl ?_ | refine o1_add rfl rfl (by omega) ?_ | refine o1_lss_t rfl rfl (by omega) ?_ | refine o1_lss_f rfl rfl (by omega) ?_ | refine o1_lss rfl rfl (fun _ => ?_) (fun _ => ?_) | refine o1_gtr_t rfl rfl (by omega) ?_ | refine o1_gtr_f rfl rfl (by omega) ?_ | refine o1_gtr rfl rfl (fun _ => ?_) (fun _ => ?_) | refine o1_neq_t rfl rfl (by omega) ?_ | refine o1_neq_f rfl rfl (by omega) ?_ | refine o1_neq rfl rfl (fun _ => ?_) (fun _ => ?_) | refine o1_bnot rfl ?_ | refine o1_unot rfl ?_ | refine o1_conv_i rfl (by omega) ?_ | refine o1_conv_ui rfl (by exact bv_small (by decide) _) ?_ | refine o1_string rfl (by rfl) rx_row ?_ | refine o1_string rfl (by rfl) (rx_any (by assumption)) ?_ | refine o1_slice_nil rfl ?_ | refine o1_nilCheck rfl ?_)
  refine st_loop (S := (Nat × Nat) × (Option Addr × Nat × List LnD) × (Hp → Prop)) (fun q => [(0, .slice ad bs.length c), (4, .pointer (some ⟨b, 0, none⟩)), (6, I (nb n)), (56, I k), (57, I q.1.2)])
    (fun q => [rB b n z q.2.1.1 q.2.1.2.1 q.2.1.2.2.length, .any q.2.2, .any (stars H)])
    (fun q => q.1.1 ≤ n ∧ q.1.2 + cntS (ML.drop q.1.1) = k ∧ bs.drop (4 + q.1.2 * wz) = rowsB (ML.drop q.1.1) ∧ RdL q.2.2 n z q.2.1.1 q.2.1.2.1 q.2.1.2.2 ∧ q.2.1.2.2.map lnV = cmp (prefM ML q.1.1) ∧ Gr A q.2.2) (fun q => k - q.1.2) ((0, 0), (none, 0, []), A) ⟨Nat.zero_le _, (by simpa using hk), (by simpa using hd4), RdL.nil, (by rw [prefM_zero, cmp_none]; rfl), Gr.refl A⟩
    (cov_cons rfl rfl (cov_cons rfl rfl (cov_cons rfl rfl (cov_cons rfl rfl (cov_cons rfl rfl cov_nil))))) (by show Ent _ [rB b n z none 0 0, .any A, .any (stars H)]; (try dsimp only [List.cons_append, List.nil_append, List.singleton_append, List.append_nil]); (repeat (first | exact Ent.nil | exact Ent.refl _ | (apply Ent.cons; (repeat (first | exact Sel.here | apply Sel.there)))))) ?_
  rintro ⟨⟨i0, j⟩, ⟨ao, co, ls⟩, A1⟩ ⟨hi, hj, hdr, hL, hls, hg⟩
  dsimp only at hi hj hdr hL hls hg ⊢
  have hb1 := rs_gr hb hg
  rcases next_row ML i0 (by omega) with hnone | ⟨i, y, hci, hy, hbetween⟩
  · have hpm : prefM ML i0 = ML := by
      rw [prefM_skip (d := ML.length) (by omega) (Nat.le_refl _) (fun j h1 h2 => hnone j h1 h2), prefM_all]
    rw [hpm] at hls
    rw [cntS_none_of (drop_none hnone)] at hj
    have hlk : ls.length = k := by
      have h1 := congrArg List.length hls
      rw [List.length_map, cmp_len, hk] at h1
      exact h1
    have hjk : j = k := by omega
    subst hjk
    repeat' (first | refine ls_of rfl ?_ | refine ls_of_no ?_ | refine ls_guard_yes rfl rfl ?_ | refine ls_guard_no rfl rfl rfl rfl ?_ | refine ls_guard_un rfl rfl rfl ?_ | refine o1_move rfl ?_ | refine o1_assign rfl ?_ | refine st_seq ?_ | refine st_region ?_ | refine st_block ?_ | refine st_skip ?_ | refine st_ret ?_ | refine st_exit ?_ | refine st_cond_t rfl ?_ | refine st_cond_f rfl ?_ | refine st_cond rfl (fun _ => ?_) (fun _ => ?_) | refine ls_nil ?_ | refine nx_seq ?_ | refine nx_blk ?_ | refine nx_fn ?_ | refine nx_rounds ?_ | refine xt_seq ?_ | refine xt_here ?_ | refine xt_on rfl ?_ | refine xt_rounds ?_ | refine xt_cut ?_ | refine rt_seq ?_ | refine rt_blk ?_ | refine rt_rounds ?_ | refine rt_cut ?_ | refine o1_pick_t rfl rfl ?_ | refine o1_pick_f rfl rfl ?_ | refine o1_extract rfl rfl ?_ | refine o1_fieldAddr rfl ?_ | refine ox_load rfl (by rfl) ?_ | refine ox_load_enc rfl (by first | omega | (simp; omega)) ?_ | refine ox_load_any rfl (by assumption) ?_ | refine o1_len rfl ?_ | refine o1_add rfl rfl (by omega) ?_ | refine o1_lss_t rfl rfl (by omega) ?_ | refine o1_lss_f rfl rfl (by omega) ?_ | refine o1_lss rfl rfl (fun _ => ?_) (fun _ => ?_) | refine o1_gtr_t rfl rfl (by omega) ?_ | refine o1_gtr_f rfl rfl (by omega) ?_ | refine o1_gtr rfl rfl (fun _ => ?_) (fun _ => ?_) | refine o1_neq_t rfl rfl (by omega) ?_ | refine o1_neq_f rfl rfl (by omega) ?_ | refine o1_neq rfl rfl (fun _ => ?_) (fun _ => ?_) | refine o1_bnot rfl ?_ | refine o1_unot rfl ?_ | refine o1_conv_i rfl (by omega) ?_ | refine o1_conv_ui rfl (by exact bv_small (by decide) _) ?_ | refine o1_string rfl (by rfl) rx_row ?_ | refine o1_string rfl (by rfl) (rx_any (by assumption)) ?_ | refine o1_slice_nil rfl ?_ | refine o1_nilCheck rfl ?_)
    refine st_stages [(4, _), (0, _)] rtY7_1 [1] [⟨[0, 3, 4], [], some 1⟩, ⟨[2, 5], [3, 4], none⟩] mixed (cov_cons rfl rfl (cov_cons rfl rfl cov_nil)) (by kernel_rfl) (by kernel_rfl) ?_
    all_goals refine wk_ch ?_
    all_goals (refine xp1 4 rfl rfl rfl rfl (by refine o1_move rfl fz) ?_)
    all_goals (refine xp1 0 rfl rfl rfl rfl (by refine o1_move rfl fz) ?_)
    all_goals (refine xp1 108 rfl rfl rfl rfl (by first | refine o1_string (ad := a38) (c := c38) (xs := bs) rfl rfl rx_row fz | refine o1_string (ad := ad) (c := c) (xs := bs) rfl rfl (rx_any hb1) fz | refine o1_string rfl (by rfl) rx_row fz | refine o1_string rfl (by rfl) (rx_any (by assumption)) fz) ?_)
    all_goals refine op_nil ?_
    all_goals refine re_nil ?_
    all_goals first | (refine ch_run (E' := [(105, _)]) rfl (gd_r0 rfl) rfl (cov_cons rfl rfl cov_nil) ?_; (first | (refine o1_call (fun hh => r1_MBytes _ b n z ao co ls j ML bs (cl_box rfl) (cl_box rfl) (cl_box rfl) (hL.mono Gr.of) hls hRR h2 h4 hlk hbs) rfl (fun ⟨a38, c38⟩ _ => ?_); (try dsimp only))))
    all_goals refine wk_end ?_
    all_goals (refine xp1 106 rfl rfl rfl rfl (by first | refine o1_string (ad := a38) (c := c38) (xs := bs) rfl rfl rx_row fz | refine o1_string (ad := ad) (c := c) (xs := bs) rfl rfl (rx_any hb1) fz | refine o1_string rfl (by rfl) rx_row fz | refine o1_string rfl (by rfl) (rx_any (by assumption)) fz) ?_)
    all_goals (refine xp2 107 109 rfl rfl rfl rfl rfl (by first | refine o1_strneq_r (a := bs) (b := bs) (r := false) rfl rfl (by simp) fz | refine o1_strneq_d rfl rfl fz) ?_)
    all_goals refine op_nil ?_
    all_goals (refine xq1 0 rfl rfl rfl rfl rfl (by refine o1_move rfl fz) ?_)
    all_goals (refine xq1 108 rfl rfl rfl rfl rfl (by first | refine o1_string (ad := a38) (c := c38) (xs := bs) rfl rfl rx_row fz | refine o1_string (ad := ad) (c := c) (xs := bs) rfl rfl (rx_any hb1) fz | refine o1_string rfl (by rfl) rx_row fz | refine o1_string rfl (by rfl) (rx_any (by assumption)) fz) ?_)
    all_goals refine re_nil ?_
    all_goals dsimp only [List.cons_append, List.nil_append]
    repeat' (first | refine ls_of rfl ?_ | refine ls_of_no ?_ | refine ls_guard_yes rfl rfl ?_ | refine ls_guard_no rfl rfl rfl rfl ?_ | refine ls_guard_un rfl rfl rfl ?_ | refine o1_move rfl ?_ | refine o1_assign rfl ?_ | refine st_seq ?_ | refine st_region ?_ | refine st_block ?_ | refine st_skip ?_ | refine st_ret ?_ | refine st_exit ?_ | refine st_cond_t rfl ?_ | refine st_cond_f rfl ?_ | refine st_cond rfl (fun _ => ?_) (fun _ => ?_) | refine ls_nil ?_ | refine nx_seq ?_ | refine nx_blk ?_ | refine nx_fn ?_ | refine nx_rounds ?_ | refine xt_seq ?_ | refine xt_here ?_ | refine xt_on rfl ?_ | refine xt_rounds ?_ | refine xt_cut ?_ | refine rt_seq ?_ | refine rt_blk ?_ | refine rt_rounds ?_ | refine rt_cut ?_ | refine o1_pick_t rfl rfl ?_ | refine o1_pick_f rfl rfl ?_ | refine o1_extract rfl rfl ?_ | refine o1_fieldAddr rfl ?_ | refine ox_load rfl (by rfl) ?_ | refine ox_load_enc rfl (by first | omega | (simp; omega)) ?_ | refine ox_load_any rfl (by assumption) ?_ | refine o1_len rfl ?_ | refine o1_add rfl rfl (by omega) ?_ | refine o1_lss_t rfl rfl (by omega) ?_ | refine o1_lss_f rfl rfl (by omega) ?_ | refine o1_lss rfl rfl (fun _ => ?_) (fun _ => ?_) | refine o1_gtr_t rfl rfl (by omega) ?_ | refine o1_gtr_f rfl rfl (by omega) ?_ | refine o1_gtr rfl rfl (fun _ => ?_) (fun _ => ?_) | refine o1_neq_t rfl rfl (by omega) ?_ | refine o1_neq_f rfl rfl (by omega) ?_ | refine o1_neq rfl rfl (fun _ => ?_) (fun _ => ?_) | refine o1_bnot rfl ?_ | refine o1_unot rfl ?_ | refine o1_conv_i rfl (by omega) ?_ | refine o1_conv_ui rfl (by exact bv_small (by decide) _) ?_ | refine o1_string rfl (by rfl) rx_row ?_ | refine o1_string rfl (by rfl) (rx_any (by assumption)) ?_ | refine o1_slice_nil rfl ?_ | refine o1_nilCheck rfl ?_)
    refine rt_tmp2 (b, (ao, co, ls), A1) rfl rfl rfl rfl ⟨hL, hls, hg⟩ ?_
    (try dsimp only [List.cons_append, List.nil_append, List.singleton_append, List.append_nil]); (repeat (first | exact Ent.nil | exact Ent.refl _ | (apply Ent.cons; (repeat (first | exact Sel.here | apply Sel.there)))))
  · obtain ⟨hred, hfst, hfree, hadd, hin⟩ := prefM_red hRR hy
    have hskip := prefM_skip (M := ML) hci (by omega) (fun j h1 h2 => hbetween j h1 h2)
    rw [← hskip] at hred hfree hadd
    obtain ⟨y1, y2⟩ := hRR.lok.ok y (mem_of_get? hy)
    have hrest := rowsB_next hci hy hbetween
    have hcn := cntS_next hci hy hbetween
    have hpRR := prefM_RR hRR (c := i0) (by omega)
    obtain ⟨raw, hraw⟩ : ∃ raw, bytesV y.1 = raw := ⟨_, rfl⟩
    obtain ⟨tl, htl⟩ : ∃ tl, rowsB (ML.drop (i + 1)) = tl := ⟨_, rfl⟩
    obtain ⟨yb, yd⟩ := y
    dsimp only at y1 y2 hraw hrest hfst
    have hrawl : raw.length = nb n := by rw [← hraw, bytesV_len, y1]
    rw [hraw, htl] at hrest
    rw [hrest] at hdr
    obtain ⟨jw, hjw⟩ : ∃ jw, j * wz = jw := ⟨_, rfl⟩
    have hjw2 : (j + 1) * wz = jw + wz := by rw [Nat.add_mul, Nat.one_mul, hjw]
    have hjle : jw + wz ≤ kw := by rw [← hjw2, ← hkw]; exact Nat.mul_le_mul_right _ (by omega)
    rw [hjw] at hdr
    have hmulj : (j : Int) * (wz : Int) = (jw : Nat) := by rw [← hjw]; push_cast; rfl
    obtain ⟨p, hp⟩ : ∃ p, 4 + jw = p := ⟨_, rfl⟩
    rw [hp] at hdr
    have hpi : (4 : Int) + (jw : Nat) = (p : Nat) := by omega
    have t1 : (bs.take (p + nb n)).drop p = raw := by rw [cut_at, hdr, List.append_assoc, List.take_left' hrawl]
    have t2 : (bs.take (p + nb n + z)).drop (p + nb n) = yd := by
      rw [cut_at, ← List.drop_drop, hdr, List.append_assoc, List.drop_left' hrawl, List.take_left' y2]
    have t3 : bs.drop (4 + (j + 1) * wz) = tl := by
      rw [hjw2, ← Nat.add_assoc, hp, ← List.drop_drop, hdr, List.drop_left' (by rw [List.length_append]; omega)]
    have f1 : Rs A1 B (cutA ad c p) (c - p) raw := by have := hb1.cutv p (p + nb n) (by omega) (by omega); rw [t1] at this; exact this
    have f2 : Rs A1 B (cutA ad c (p + nb n)) (c - (p + nb n)) yd := by have := hb1.cutv (p + nb n) (p + nb n + z) (by omega) (by omega); rw [t2] at this; exact this
    have hno : ∀ i, n ≤ i → i < 8 * nb n → rbit raw i = false := fun i h1 h2 => by
      rw [← hraw, rbit_bytes _ _ (by rw [y1]; exact h2)]
      exact getD_out (by omega)
    have hmask : maskV n (rbit raw) n = yb := by
      have e1 := unpV_ok hrawl hno
      have e2 := unpV_bytes yb
      rw [y1, hraw, e1] at e2
      exact Option.some.inj e2
    have q1 : (p : Int) + (nb n : Nat) = ((p + nb n : Nat) : Int) := by push_cast; rfl
    have q2 : ((p + nb n : Nat) : Int) + (z : Nat) = ((p + nb n + z : Nat) : Int) := by push_cast; rfl
    have hjk : j < k := by omega
    repeat' (first | refine ls_of rfl ?_ | refine ls_of_no ?_ | refine ls_guard_yes rfl rfl ?_ | refine ls_guard_no rfl rfl rfl rfl ?_ | refine ls_guard_un rfl rfl rfl ?_ | refine o1_move rfl ?_ | refine o1_assign rfl ?_ | refine st_seq ?_ | refine st_region ?_ | refine st_block ?_ | refine st_skip ?_ | refine st_ret ?_ | refine st_exit ?_ | refine st_cond_t rfl ?_ | refine st_cond_f rfl ?_ | refine st_cond rfl (fun _ => ?_) (fun _ => ?_) | refine ls_nil ?_ | refine nx_seq ?_ | refine nx_blk ?_ | refine nx_fn ?_ | refine nx_rounds ?_ | refine xt_seq ?_ | refine xt_here ?_ | refine xt_on rfl ?_ | refine xt_rounds ?_ | refine xt_cut ?_ | refine rt_seq ?_ | refine rt_blk ?_ | refine rt_rounds ?_ | refine rt_cut ?_ | (refine o1_add rfl rfl (by omega) ?_; rw [hnz]) | (refine o1_mul rfl rfl (by rw [hmulj]; omega) ?_; rw [hmulj]) | (refine o1_add rfl rfl (by omega) ?_; rw [hpi]) | refine o1_pick_t rfl rfl ?_ | refine o1_pick_f rfl rfl ?_ | refine o1_extract rfl rfl ?_ | refine o1_fieldAddr rfl ?_ | refine ox_load rfl (by rfl) ?_ | refine ox_load_enc rfl (by first | omega | (simp; omega)) ?_ | refine ox_load_any rfl (by assumption) ?_ | refine o1_len rfl ?_ | refine o1_add rfl rfl (by omega) ?_ | refine o1_lss_t rfl rfl (by omega) ?_ | refine o1_lss_f rfl rfl (by omega) ?_ | refine o1_lss rfl rfl (fun _ => ?_) (fun _ => ?_) | refine o1_gtr_t rfl rfl (by omega) ?_ | refine o1_gtr_f rfl rfl (by omega) ?_ | refine o1_gtr rfl rfl (fun _ => ?_) (fun _ => ?_) | refine o1_neq_t rfl rfl (by omega) ?_ | refine o1_neq_f rfl rfl (by omega) ?_ | refine o1_neq rfl rfl (fun _ => ?_) (fun _ => ?_) | refine o1_bnot rfl ?_ | refine o1_unot rfl ?_ | refine o1_conv_i rfl (by omega) ?_ | refine o1_conv_ui rfl (by exact bv_small (by decide) _) ?_ | refine o1_string rfl (by rfl) rx_row ?_ | refine o1_string rfl (by rfl) (rx_any (by assumption)) ?_ | refine o1_slice_nil rfl ?_ | refine o1_nilCheck rfl ?_)
    refine st_stages [(4, _), (0, _), (8, _), (6, _)] rtY7_2 [10] [⟨[0, 1, 2, 3, 4, 5, 6, 7, 8, 9], [], some 10⟩, ⟨[11, 12, 13, 14, 15], [], none⟩] mixed (cov_cons rfl rfl (cov_cons rfl rfl (cov_cons rfl rfl (cov_cons rfl rfl cov_nil)))) (by kernel_rfl) (by kernel_rfl) ?_
    all_goals refine wk_ch ?_
    all_goals (refine xp1 4 rfl rfl rfl rfl (by refine o1_move rfl fz) ?_)
    all_goals (refine xp1 70 rfl rfl rfl rfl (by refine o1_nilCheck rfl fz) ?_)
    all_goals (refine xp1 71 rfl rfl rfl rfl (by refine o1_fieldAddr rfl fz) ?_)
    all_goals (refine xp1 72 rfl rfl rfl rfl (by first | refine ox_load rfl (by rfl) fz | refine ox_load_enc rfl (by first | omega | (simp; omega)) fz | refine ox_load_any rfl (by assumption) fz) ?_)
    all_goals (refine xp1 0 rfl rfl rfl rfl (by refine o1_move rfl fz) ?_)
    all_goals (refine xp1 8 rfl rfl rfl rfl (by refine o1_move rfl fz) ?_)
    all_goals (refine xp1 8 rfl rfl rfl rfl (by refine o1_move rfl fz) ?_)
    all_goals (refine xp1 6 rfl rfl rfl rfl (by refine o1_move rfl fz) ?_)
    all_goals (refine xp2 76 77 rfl rfl rfl rfl rfl (by first | ((refine o1_add rfl rfl (by omega) ?_; rw [q1]); all_goals exact fz) | refine o1_add rfl rfl (by omega) fz) ?_)
    all_goals (refine xp3 74 75 78 rfl rfl rfl rfl rfl rfl (by ((refine o1_cs_lh (xs := bs) p (p + nb n) rfl rfl rfl rfl rfl rfl (by omega) (by omega) (by omega) ?_; rw [t1]); all_goals exact fz)) ?_)
    all_goals refine op_nil ?_
    all_goals refine re_nil ?_
    all_goals first | (refine ch_run (E' := [(73, _), (79, _)]) rfl (gd_r0 rfl) rfl (cov_cons rfl rfl (cov_cons rfl rfl cov_nil)) ?_; (first | (refine o1_call (fun _ => r1_Unpack_ok _ n (cutA ad c p) raw.length (c - p) raw h2 (Rs.up f1) rfl hrawl hno) rfl (fun b81 _ => ?_); (try dsimp only); rw [hmask])))
    all_goals refine wk_end ?_
    all_goals (refine xp1 80 rfl rfl rfl rfl (by refine o1_move rfl fz) ?_)
    all_goals (refine xp1 69 rfl rfl rfl rfl (by refine o1_extract rfl rfl fz) ?_)
    all_goals (refine xp1 69 rfl rfl rfl rfl (by refine o1_extract rfl rfl fz) ?_)
    all_goals (refine xp1 81 rfl rfl rfl rfl (by refine o1_assign rfl fz) ?_)
    all_goals (refine xp1 82 rfl rfl rfl rfl (by refine o1_assign rfl fz) ?_)
    all_goals refine op_nil ?_
    all_goals refine re_nil ?_
    all_goals dsimp only [List.cons_append, List.nil_append]
    refine nx_pack [.box b81 4 (yb.map Bo), .any A1] [rB b n z ao co ls.length, .any (stars H)] (by (try dsimp only [List.cons_append, List.nil_append, List.singleton_append, List.append_nil]); (repeat (first | exact Ent.nil | exact Ent.refl _ | (apply Ent.cons; (repeat (first | exact Sel.here | apply Sel.there)))))) ?_
    refine nx_has (fun hh => ?_)
    have hA := has_any hh
    have u1 := rx_box (b := b81) (T := 4) (enc := Bo) y1 (by omega) hA
    obtain ⟨A2, hA2⟩ : ∃ A2, stars [.box b81 4 (yb.map Bo), .any A1] = A2 := ⟨_, rfl⟩
    have hg2 : Gr A1 A2 := by rw [← hA2]; exact Gr.of
    rw [hA2] at u1 ⊢
    clear hh hA hA2
    repeat' (first | refine ls_of rfl ?_ | refine ls_of_no ?_ | refine ls_guard_yes rfl rfl ?_ | refine ls_guard_no rfl rfl rfl rfl ?_ | refine ls_guard_un rfl rfl rfl ?_ | refine o1_move rfl ?_ | refine o1_assign rfl ?_ | refine st_seq ?_ | refine st_region ?_ | refine st_block ?_ | refine st_skip ?_ | refine st_ret ?_ | refine st_exit ?_ | refine st_cond_t rfl ?_ | refine st_cond_f rfl ?_ | refine st_cond rfl (fun _ => ?_) (fun _ => ?_) | refine ls_nil ?_ | refine nx_seq ?_ | refine nx_blk ?_ | refine nx_fn ?_ | refine nx_rounds ?_ | refine xt_seq ?_ | refine xt_here ?_ | refine xt_on rfl ?_ | refine xt_rounds ?_ | refine xt_cut ?_ | refine rt_seq ?_ | refine rt_blk ?_ | refine rt_rounds ?_ | refine rt_cut ?_ | (refine o1_add rfl rfl (by omega) ?_; rw [q1]) | (refine o1_add rfl rfl (by omega) ?_; rw [q2]) | (refine o1_cs_lh (xs := bs) (p + nb n) (p + nb n + z) rfl rfl rfl rfl rfl rfl (by omega) (by omega) (by omega) ?_; rw [t2, y2]) | (refine o1_call_ba b A2 (fun hh => r1_Add _ A2 b n z ao co ls (prefM ML i0) ⟨some ⟨b81, 0, none⟩, n, yb⟩ ⟨cutA ad c (p + nb n), c - (p + nb n), yd⟩ (yb, yd) i (hL.mono hg2) hls hpRR h2 h4 u1 y1 (rs_gr f2 hg2) y2 hred hfst hfree) rfl (fun ⟨⟨ao2, co2, ls2⟩, A3⟩ hr2 => ?_); dsimp only at hr2 ⊢; obtain ⟨u2, u3, u4⟩ := hr2; rw [hadd] at u3) | refine o1_pick_t rfl rfl ?_ | refine o1_pick_f rfl rfl ?_ | refine o1_extract rfl rfl ?_ | refine o1_fieldAddr rfl ?_ | refine ox_load rfl (by rfl) ?_ | refine ox_load_enc rfl (by first | omega | (simp; omega)) ?_ | refine ox_load_any rfl (by assumption) ?_ | refine o1_len rfl ?_ | refine o1_add rfl rfl (by omega) ?_ | refine o1_lss_t rfl rfl (by omega) ?_ | refine o1_lss_f rfl rfl (by omega) ?_ | refine o1_lss rfl rfl (fun _ => ?_) (fun _ => ?_) | refine o1_gtr_t rfl rfl (by omega) ?_ | refine o1_gtr_f rfl rfl (by omega) ?_ | refine o1_gtr rfl rfl (fun _ => ?_) (fun _ => ?_) | refine o1_neq_t rfl rfl (by omega) ?_ | refine o1_neq_f rfl rfl (by omega) ?_ | refine o1_neq rfl rfl (fun _ => ?_) (fun _ => ?_) | refine o1_bnot rfl ?_ | refine o1_unot rfl ?_ | refine o1_conv_i rfl (by omega) ?_ | refine o1_conv_ui rfl (by exact bv_small (by decide) _) ?_ | refine o1_string rfl (by rfl) rx_row ?_ | refine o1_string rfl (by rfl) (rx_any (by assumption)) ?_ | refine o1_slice_nil rfl ?_ | refine o1_nilCheck rfl ?_)
    refine nx_again ((i + 1, j + 1), (ao2, co2, ls2), A3) ⟨?_, ?_, ?_, u2, u3, (hg.trans hg2).trans u4⟩ ?_ (cov_cons rfl rfl (cov_cons rfl rfl (cov_cons rfl rfl (cov_cons rfl rfl (cov_cons rfl rfl cov_nil))))) ?_
    · show i + 1 ≤ n; omega
    · show j + 1 + cntS (ML.drop (i + 1)) = k; omega
    · show bs.drop (4 + (j + 1) * wz) = rowsB (ML.drop (i + 1)); rw [t3, htl]
    · show k - (j + 1) < k - j; omega
    (try dsimp only [List.cons_append, List.nil_append, List.singleton_append, List.append_nil]); (repeat (first | exact Ent.nil | exact Ent.refl _ | (apply Ent.cons; (repeat (first | exact Sel.here | apply Sel.there)))))
end Go.Dp

set_option linter.unusedVariables false
set_option linter.unusedSimpArgs false
namespace Go.Dp
open Go.RowKit Go.Proofs
def rtY8_0 : List Row := [⟨some 14, [], [], none⟩, ⟨some 15, [0], [0], none⟩, ⟨some 16, [1], [0, 1], none⟩, ⟨some 17, [2], [0, 1, 2], none⟩, ⟨some 18, [3], [0, 1, 2, 3], none⟩, ⟨some 19, [], [], none⟩, ⟨some 20, [5], [5], none⟩, ⟨some 21, [6], [5, 6], none⟩, ⟨some 22, [7], [5, 6, 7], none⟩, ⟨some 23, [4, 8], [0, 1, 2, 3, 4, 5, 6, 7, 8], none⟩, ⟨some 4, [9, 9, 0, 1, 2, 3, 4, 5, 6, 7, 8, 9], [0, 1, 2, 3, 4, 5, 6, 7, 8, 9], none⟩]
def rtY8_1 : List Row := [⟨some 14, [], [], none⟩, ⟨some 15, [0], [0], none⟩, ⟨some 16, [1], [0, 1], none⟩, ⟨some 17, [2], [0, 1, 2], none⟩, ⟨some 18, [3], [0, 1, 2, 3], none⟩, ⟨some 19, [], [], none⟩, ⟨some 20, [5], [5], none⟩, ⟨some 21, [6], [5, 6], none⟩, ⟨some 22, [7], [5, 6, 7], none⟩, ⟨some 23, [4, 8], [0, 1, 2, 3, 4, 5, 6, 7, 8], none⟩, ⟨some 4, [9, 9, 0, 1, 2, 3, 4, 5, 6, 7, 8, 9], [0, 1, 2, 3, 4, 5, 6, 7, 8, 9], none⟩]
def rtY8_2 : List Row := [⟨some 70, [], [], none⟩, ⟨some 71, [0], [0], none⟩, ⟨some 72, [1], [0, 1], none⟩, ⟨some 73, [2], [0, 1, 2], none⟩, ⟨some 74, [], [], none⟩, ⟨some 75, [], [], none⟩, ⟨some 76, [], [], none⟩, ⟨some 77, [], [], none⟩, ⟨some 78, [6, 7], [6, 7], none⟩, ⟨some 79, [4, 5, 8], [4, 5, 6, 7, 8], none⟩, ⟨some 80, [3, 9], [0, 1, 2, 3, 4, 5, 6, 7, 8, 9], none⟩, ⟨some 69, [10], [0, 1, 2, 3, 4, 5, 6, 7, 8, 9, 10], none⟩, ⟨some 81, [11], [0, 1, 2, 3, 4, 5, 6, 7, 8, 9, 10, 11], none⟩, ⟨some 82, [11], [0, 1, 2, 3, 4, 5, 6, 7, 8, 9, 10, 11], none⟩, ⟨some 9, [12, 10, 0, 1, 2, 3, 4, 5, 6, 7, 8, 9, 10, 11, 12], [0, 1, 2, 3, 4, 5, 6, 7, 8, 9, 10, 11, 12], none⟩, ⟨some 10, [13, 14, 0, 1, 2, 3, 4, 5, 6, 7, 8, 9, 10, 11, 12, 13, 14], [0, 1, 2, 3, 4, 5, 6, 7, 8, 9, 10, 11, 12, 13, 14], none⟩]
def rtY8_3 : List Row := [⟨some 70, [], [], none⟩, ⟨some 71, [0], [0], none⟩, ⟨some 72, [1], [0, 1], none⟩, ⟨some 73, [2], [0, 1, 2], none⟩, ⟨some 74, [], [], none⟩, ⟨some 75, [], [], none⟩, ⟨some 76, [], [], none⟩, ⟨some 77, [], [], none⟩, ⟨some 78, [6, 7], [6, 7], none⟩, ⟨some 79, [4, 5, 8], [4, 5, 6, 7, 8], none⟩, ⟨some 80, [3, 9], [0, 1, 2, 3, 4, 5, 6, 7, 8, 9], none⟩, ⟨some 69, [10], [0, 1, 2, 3, 4, 5, 6, 7, 8, 9, 10], none⟩, ⟨some 81, [11], [0, 1, 2, 3, 4, 5, 6, 7, 8, 9, 10, 11], none⟩, ⟨some 82, [11], [0, 1, 2, 3, 4, 5, 6, 7, 8, 9, 10, 11], none⟩, ⟨some 9, [12, 10, 0, 1, 2, 3, 4, 5, 6, 7, 8, 9, 10, 11, 12], [0, 1, 2, 3, 4, 5, 6, 7, 8, 9, 10, 11, 12], none⟩, ⟨some 10, [13, 14, 0, 1, 2, 3, 4, 5, 6, 7, 8, 9, 10, 11, 12, 13, 14], [0, 1, 2, 3, 4, 5, 6, 7, 8, 9, 10, 11, 12, 13, 14], none⟩]
def rtY8_4 : List Row := [⟨some 105, [], [], none⟩, ⟨some 106, [0], [0], none⟩, ⟨some 107, [1], [0, 1], none⟩, ⟨some 108, [], [], none⟩, ⟨some 109, [3], [3], none⟩, ⟨some 110, [2, 4], [0, 1, 2, 3, 4], none⟩]
def rtY8_5 : List Row := [⟨some 12, [], [], none⟩, ⟨some 13, [0], [0], none⟩, ⟨some 14, [1], [0, 1], none⟩, ⟨some 15, [2], [0, 1, 2], none⟩, ⟨some 16, [3], [0, 1, 2, 3], none⟩, ⟨some 17, [], [], none⟩, ⟨some 18, [5], [5], none⟩, ⟨some 19, [6], [5, 6], none⟩, ⟨some 20, [7], [5, 6, 7], none⟩, ⟨some 21, [4, 8], [0, 1, 2, 3, 4, 5, 6, 7, 8], none⟩, ⟨some 4, [9, 9, 0, 1, 2, 3, 4, 5, 6, 7, 8, 9], [0, 1, 2, 3, 4, 5, 6, 7, 8, 9], none⟩]
def rtY8_6 : List Row := [⟨some 12, [], [], none⟩, ⟨some 13, [0], [0], none⟩, ⟨some 14, [1], [0, 1], none⟩, ⟨some 15, [2], [0, 1, 2], none⟩, ⟨some 16, [3], [0, 1, 2, 3], none⟩, ⟨some 17, [], [], none⟩, ⟨some 18, [5], [5], none⟩, ⟨some 19, [6], [5, 6], none⟩, ⟨some 20, [7], [5, 6, 7], none⟩, ⟨some 21, [4, 8], [0, 1, 2, 3, 4, 5, 6, 7, 8], none⟩, ⟨some 4, [9, 9, 0, 1, 2, 3, 4, 5, 6, 7, 8, 9], [0, 1, 2, 3, 4, 5, 6, 7, 8, 9], none⟩]
def rtY8_7 : List Row := [⟨some 50, [], [], none⟩, ⟨some 51, [0], [0], none⟩, ⟨some 52, [1], [0, 1], none⟩, ⟨some 53, [2], [0, 1, 2], none⟩, ⟨some 54, [], [], none⟩, ⟨some 55, [], [], none⟩, ⟨some 56, [4, 5], [4, 5], none⟩, ⟨some 57, [3, 6], [0, 1, 2, 3, 4, 5, 6], none⟩, ⟨some 49, [7], [0, 1, 2, 3, 4, 5, 6, 7], none⟩, ⟨some 58, [8], [0, 1, 2, 3, 4, 5, 6, 7, 8], none⟩, ⟨some 59, [8], [0, 1, 2, 3, 4, 5, 6, 7, 8], none⟩, ⟨some 7, [9, 7, 0, 1, 2, 3, 4, 5, 6, 7, 8, 9], [0, 1, 2, 3, 4, 5, 6, 7, 8, 9], none⟩, ⟨some 8, [10, 11, 0, 1, 2, 3, 4, 5, 6, 7, 8, 9, 10, 11], [0, 1, 2, 3, 4, 5, 6, 7, 8, 9, 10, 11], none⟩]
def rtY8_8 : List Row := [⟨some 50, [], [], none⟩, ⟨some 51, [0], [0], none⟩, ⟨some 52, [1], [0, 1], none⟩, ⟨some 53, [2], [0, 1, 2], none⟩, ⟨some 54, [], [], none⟩, ⟨some 55, [], [], none⟩, ⟨some 56, [4, 5], [4, 5], none⟩, ⟨some 57, [3, 6], [0, 1, 2, 3, 4, 5, 6], none⟩, ⟨some 49, [7], [0, 1, 2, 3, 4, 5, 6, 7], none⟩, ⟨some 58, [8], [0, 1, 2, 3, 4, 5, 6, 7, 8], none⟩, ⟨some 59, [8], [0, 1, 2, 3, 4, 5, 6, 7, 8], none⟩, ⟨some 7, [9, 7, 0, 1, 2, 3, 4, 5, 6, 7, 8, 9], [0, 1, 2, 3, 4, 5, 6, 7, 8, 9], none⟩, ⟨some 8, [10, 11, 0, 1, 2, 3, 4, 5, 6, 7, 8, 9, 10, 11], [0, 1, 2, 3, 4, 5, 6, 7, 8, 9, 10, 11], none⟩]
def NoMat (bs : List (BitVec 8)) : Prop := ∀ n z ML, 1 ≤ n → n ≤ 256 → 1 ≤ z → z ≤ 16 → RR n z ML → matB n z (cntS ML) ML ≠ bs
set_option maxHeartbeats 16000000 in
theorem r1_FromMatrix_no (H : List Hl) (ad : Option Addr) (c : Nat) (bs : List (BitVec 8)) (hb : Rs (stars H) B ad c bs) (hbl : bs.length ≤ 100000) (hno : NoMat bs) :
    Spec Tryd.prog 49 [.slice ad bs.length c] H (fun _ : Unit => True) (fun _ => .tuple #[.pointer none, .bool false]) (fun _ => H) := by
  refine spec_pure (res := fun _ => []) H Tryd.func49 rfl Tryd.ntmps49 (by kernel_rfl) rfl (fun W => ?_)
  have hle := hb.le
  have hbg := hb.big
  by_cases hl4 : bs.length < 4
  · repeat' (first | refine ls_of rfl ?_ | refine ls_of_no ?_ | refine ls_guard_yes rfl rfl ?_ | refine ls_guard_no rfl rfl rfl rfl ?_ | refine ls_guard_un rfl rfl rfl ?_ | refine o1_move rfl ?_ | refine o1_assign rfl ?_ | refine st_seq ?_ | refine st_region ?_ | refine st_block ?_ | refine st_skip ?_ | refine st_ret ?_ | refine st_exit ?_ | refine st_cond_t rfl ?_ | refine st_cond_f rfl ?_ | refine st_cond rfl (fun _ => ?_) (fun _ => ?_) | refine ls_nil ?_ | refine nx_seq ?_ | refine nx_blk ?_ | refine nx_fn ?_ | refine nx_rounds ?_ | refine xt_seq ?_ | refine xt_here ?_ | refine xt_on rfl ?_ | refine xt_rounds ?_ | refine xt_cut ?_ | refine rt_seq ?_ | refine rt_blk ?_ | refine rt_rounds ?_ | refine rt_cut ?_ | refine o1_pick_t rfl rfl ?_ | refine o1_pick_f rfl rfl ?_ | refine o1_extract rfl rfl ?_ | refine o1_fieldAddr rfl ?_ | refine ox_load rfl (by rfl) ?_ | refine ox_load_enc rfl (by first | omega | (simp; omega)) ?_ | refine ox_load_any rfl (by assumption) ?_ | refine o1_len rfl ?_ | refine o1_add rfl rfl (by omega) ?_ | refine o1_lss_t rfl rfl (by omega) ?_ | refine o1_lss_f rfl rfl (by omega) ?_ | refine o1_lss rfl rfl (fun _ => ?_) (fun _ => ?_) | refine o1_gtr_t rfl rfl (by omega) ?_ | refine o1_gtr_f rfl rfl (by omega) ?_ | refine o1_gtr rfl rfl (fun _ => ?_) (fun _ => ?_) | refine o1_neq_t rfl rfl (by omega) ?_ | refine o1_neq_f rfl rfl (by omega) ?_ | refine o1_neq rfl rfl (fun _ => ?_) (fun _ => ?_) | refine o1_bnot rfl ?_ | refine o1_unot rfl ?_ | refine o1_conv_i rfl (by omega) ?_ | refine o1_conv_ui rfl (by exact bv_small (by decide) _) ?_ | refine o1_string rfl (by rfl) rx_row ?_ | refine o1_string rfl (by rfl) (rx_any (by assumption)) ?_ | refine o1_slice_nil rfl ?_ | refine o1_nilCheck rfl ?_)
    refine rt_tmp2 () rfl rfl rfl rfl trivial ?_
    (try dsimp only [List.cons_append, List.nil_append, List.singleton_append, List.append_nil]); (repeat (first | exact Ent.nil | exact Ent.refl _ | (apply Ent.cons; (repeat (first | exact Sel.here | apply Sel.there)))))
  obtain ⟨x0, g0⟩ : ∃ x0, bs[0]? = some x0 := ⟨_, List.getElem?_eq_getElem (by omega)⟩
  obtain ⟨x1, g1⟩ : ∃ x1, bs[1]? = some x1 := ⟨_, List.getElem?_eq_getElem (by omega)⟩
  obtain ⟨K2, g2⟩ : ∃ K2, (bs.take 4).drop 2 = K2 := ⟨_, rfl⟩
  have hK2l : K2.length = 2 := by rw [← g2]; simp; omega
  have hK2n := num32_lt2 hK2l
  obtain ⟨k, hnk⟩ : ∃ k : Nat, ((num32 K2).toNat : Int) = k := ⟨_, rfl⟩
  have hf2 : Rs (stars H) B (cutA ad c 2) (c - 2) K2 := by have := hb.cutv 2 4 (by omega) (by omega); rw [g2] at this; exact this
  obtain ⟨n, hn1⟩ : ∃ n : Nat, (x0.toNat : Int) + 1 = n := ⟨x0.toNat + 1, by push_cast; rfl⟩
  obtain ⟨z, hz1⟩ : ∃ z : Nat, (x1.toNat : Int) = z := ⟨_, rfl⟩
  have hx0 := x0.isLt
  have h1 : 1 ≤ n := by omega
  have h2 : n ≤ 256 := by omega
  by_cases hz : ¬ (1 ≤ z ∧ z ≤ 16)
  · repeat' (first | refine ls_of rfl ?_ | refine ls_of_no ?_ | refine ls_guard_yes rfl rfl ?_ | refine ls_guard_no rfl rfl rfl rfl ?_ | refine ls_guard_un rfl rfl rfl ?_ | refine o1_move rfl ?_ | refine o1_assign rfl ?_ | refine st_seq ?_ | refine st_region ?_ | refine st_block ?_ | refine st_skip ?_ | refine st_ret ?_ | refine st_exit ?_ | refine st_cond_t rfl ?_ | refine st_cond_f rfl ?_ | refine st_cond rfl (fun _ => ?_) (fun _ => ?_) | refine ls_nil ?_ | refine nx_seq ?_ | refine nx_blk ?_ | refine nx_fn ?_ | refine nx_rounds ?_ | refine xt_seq ?_ | refine xt_here ?_ | refine xt_on rfl ?_ | refine xt_rounds ?_ | refine xt_cut ?_ | refine rt_seq ?_ | refine rt_blk ?_ | refine rt_rounds ?_ | refine rt_cut ?_ | refine o1_pick_t rfl rfl ?_ | refine o1_pick_f rfl rfl ?_ | refine o1_extract rfl rfl ?_ | refine o1_fieldAddr rfl ?_ | refine ox_load rfl (by rfl) ?_ | refine ox_load_enc rfl (by first | omega | (simp; omega)) ?_ | refine ox_load_any rfl (by assumption) ?_ | refine o1_len rfl ?_ | refine o1_add rfl rfl (by omega) ?_ | refine o1_lss_t rfl rfl (by omega) ?_ | refine o1_lss_f rfl rfl (by omega) ?_ | refine o1_lss rfl rfl (fun _ => ?_) (fun _ => ?_) | refine o1_gtr_t rfl rfl (by omega) ?_ | refine o1_gtr_f rfl rfl (by omega) ?_ | refine o1_gtr rfl rfl (fun _ => ?_) (fun _ => ?_) | refine o1_neq_t rfl rfl (by omega) ?_ | refine o1_neq_f rfl rfl (by omega) ?_ | refine o1_neq rfl rfl (fun _ => ?_) (fun _ => ?_) | refine o1_bnot rfl ?_ | refine o1_unot rfl ?_ | refine o1_conv_i rfl (by omega) ?_ | refine o1_conv_ui rfl (by exact bv_small (by decide) _) ?_ | refine o1_string rfl (by rfl) rx_row ?_ | refine o1_string rfl (by rfl) (rx_any (by assumption)) ?_ | refine o1_slice_nil rfl ?_ | refine o1_nilCheck rfl ?_)
    refine st_stages [(0, _)] rtY8_0 [9] [⟨[0, 1, 2, 3, 4, 5, 6, 7, 8], [], some 9⟩, ⟨[10], [], none⟩] mixed (cov_cons rfl rfl cov_nil) (by kernel_rfl) (by kernel_rfl) ?_
    all_goals refine wk_ch ?_
    all_goals (refine xp1 0 rfl rfl rfl rfl (by refine o1_move rfl fz) ?_)
    all_goals (refine xp1 14 rfl rfl rfl rfl (by first | refine o1_ia (ad := ad) (c := c) 0 rfl rfl hb rfl rfl (by omega) fz | refine o1_ia (ad := ad) (c := c) 1 rfl rfl hb rfl rfl (by omega) fz) ?_)
    all_goals (refine xp1 15 rfl rfl rfl rfl (by first | refine o1_load_av (ad := ad) (c := c) 0 _ rfl hb g0 fz | refine o1_load_av (ad := ad) (c := c) 1 _ rfl hb g1 fz | refine ox_load rfl (by rfl) fz | refine ox_load_enc rfl (by first | omega | (simp; omega)) fz | refine ox_load_any rfl (by assumption) fz) ?_)
    all_goals (refine xp1 16 rfl rfl rfl rfl (by first | ((refine o1_conv_i rfl (by omega) ?_; rw [hz1]); all_goals exact fz) | refine o1_conv_i rfl (by omega) fz | refine o1_conv_i rfl (by omega) fz | refine o1_conv_ui rfl (by exact bv_small (by decide) _) fz) ?_)
    all_goals (refine xp1 17 rfl rfl rfl rfl (by first | ((refine o1_add rfl rfl (by omega) ?_; rw [hn1]); all_goals exact fz) | refine o1_add rfl rfl (by omega) fz) ?_)
    all_goals (refine xp1 0 rfl rfl rfl rfl (by refine o1_move rfl fz) ?_)
    all_goals (refine xp1 19 rfl rfl rfl rfl (by first | refine o1_ia (ad := ad) (c := c) 0 rfl rfl hb rfl rfl (by omega) fz | refine o1_ia (ad := ad) (c := c) 1 rfl rfl hb rfl rfl (by omega) fz) ?_)
    all_goals (refine xp1 20 rfl rfl rfl rfl (by first | refine o1_load_av (ad := ad) (c := c) 0 _ rfl hb g0 fz | refine o1_load_av (ad := ad) (c := c) 1 _ rfl hb g1 fz | refine ox_load rfl (by rfl) fz | refine ox_load_enc rfl (by first | omega | (simp; omega)) fz | refine ox_load_any rfl (by assumption) fz) ?_)
    all_goals (refine xp1 21 rfl rfl rfl rfl (by first | ((refine o1_conv_i rfl (by omega) ?_; rw [hz1]); all_goals exact fz) | refine o1_conv_i rfl (by omega) fz | refine o1_conv_i rfl (by omega) fz | refine o1_conv_ui rfl (by exact bv_small (by decide) _) fz) ?_)
    all_goals refine op_nil ?_
    all_goals refine re_nil ?_
    all_goals first | (refine ch_run (E' := [(18, _), (22, _)]) rfl (gd_r0 rfl) rfl (cov_cons rfl rfl (cov_cons rfl rfl cov_nil)) ?_; (first | (refine o1_call (fun _ => r1_NewMatrix_no _ n z (by omega)) rfl (fun _ _ => ?_))))
    all_goals refine wk_end ?_
    all_goals (refine xp1 23 rfl rfl rfl rfl (by refine o1_assign rfl fz) ?_)
    all_goals refine op_nil ?_
    all_goals refine re_nil ?_
    all_goals dsimp only [List.cons_append, List.nil_append]
    repeat' (first | refine ls_of rfl ?_ | refine ls_of_no ?_ | refine ls_guard_yes rfl rfl ?_ | refine ls_guard_no rfl rfl rfl rfl ?_ | refine ls_guard_un rfl rfl rfl ?_ | refine o1_move rfl ?_ | refine o1_assign rfl ?_ | refine st_seq ?_ | refine st_region ?_ | refine st_block ?_ | refine st_skip ?_ | refine st_ret ?_ | refine st_exit ?_ | refine st_cond_t rfl ?_ | refine st_cond_f rfl ?_ | refine st_cond rfl (fun _ => ?_) (fun _ => ?_) | refine ls_nil ?_ | refine nx_seq ?_ | refine nx_blk ?_ | refine nx_fn ?_ | refine nx_rounds ?_ | refine xt_seq ?_ | refine xt_here ?_ | refine xt_on rfl ?_ | refine xt_rounds ?_ | refine xt_cut ?_ | refine rt_seq ?_ | refine rt_blk ?_ | refine rt_rounds ?_ | refine rt_cut ?_ | refine o1_peql rfl rfl ?_ | (refine o1_cs_lh (xs := bs) 2 4 rfl rfl rfl rfl rfl rfl (by omega) (by omega) (by omega) ?_; rw [g2]) | refine o1_call (fun _ => r1_Num _ (cutA ad c 2) K2.length (c - 2) K2 (Rs.up hf2) rfl) rfl (fun _ _ => ?_) | (refine o1_conv_i rfl (by omega) ?_; rw [hnk]) | refine o1_pick_t rfl rfl ?_ | refine o1_pick_f rfl rfl ?_ | refine o1_extract rfl rfl ?_ | refine o1_fieldAddr rfl ?_ | refine ox_load rfl (by rfl) ?_ | refine ox_load_enc rfl (by first | omega | (simp; omega)) ?_ | refine ox_load_any rfl (by assumption) ?_ | refine o1_len rfl ?_ | refine o1_add rfl rfl (by omega) ?_ | refine o1_lss_t rfl rfl (by omega) ?_ | refine o1_lss_f rfl rfl (by omega) ?_ | refine o1_lss rfl rfl (fun _ => ?_) (fun _ => ?_) | refine o1_gtr_t rfl rfl (by omega) ?_ | refine o1_gtr_f rfl rfl (by omega) ?_ | refine o1_gtr rfl rfl (fun _ => ?_) (fun _ => ?_) | refine o1_neq_t rfl rfl (by omega) ?_ | refine o1_neq_f rfl rfl (by omega) ?_ | refine o1_neq rfl rfl (fun _ => ?_) (fun _ => ?_) | refine o1_bnot rfl ?_ | refine o1_unot rfl ?_ | refine o1_conv_i rfl (by omega) ?_ | refine o1_conv_ui rfl (by exact bv_small (by decide) _) ?_ | refine o1_string rfl (by rfl) rx_row ?_ | refine o1_string rfl (by rfl) (rx_any (by assumption)) ?_ | refine o1_slice_nil rfl ?_ | refine o1_nilCheck rfl ?_)
    refine rt_tmp2 () rfl rfl rfl rfl trivial ?_
    (try dsimp only [List.cons_append, List.nil_append, List.singleton_append, List.append_nil]); (repeat (first | exact Ent.nil | exact Ent.refl _ | (apply Ent.cons; (repeat (first | exact Sel.here | apply Sel.there)))))
  have h3 : 1 ≤ z := by omega
  have h4 : z ≤ 16 := by omega
  have hnb : nb n ≤ 32 := by unfold nb; omega
  have hq : ((n : Int) + 7) / 8 = (nb n : Nat) := by unfold nb; omega
  obtain ⟨wz, hwz⟩ : ∃ wz, nb n + z = wz := ⟨_, rfl⟩
  have hwz48 : wz ≤ 48 := by omega
  have hnz : (nb n : Int) + z = ((wz : Nat) : Int) := by rw [← hwz]; push_cast; rfl
  repeat' (first | refine ls_of rfl ?_ | refine ls_of_no ?_ | refine ls_guard_yes rfl rfl ?_ | refine ls_guard_no rfl rfl rfl rfl ?_ | refine ls_guard_un rfl rfl rfl ?_ | refine o1_move rfl ?_ | refine o1_assign rfl ?_ | refine st_seq ?_ | refine st_region ?_ | refine st_block ?_ | refine st_skip ?_ | refine st_ret ?_ | refine st_exit ?_ | refine st_cond_t rfl ?_ | refine st_cond_f rfl ?_ | refine st_cond rfl (fun _ => ?_) (fun _ => ?_) | refine ls_nil ?_ | refine nx_seq ?_ | refine nx_blk ?_ | refine nx_fn ?_ | refine nx_rounds ?_ | refine xt_seq ?_ | refine xt_here ?_ | refine xt_on rfl ?_ | refine xt_rounds ?_ | refine xt_cut ?_ | refine rt_seq ?_ | refine rt_blk ?_ | refine rt_rounds ?_ | refine rt_cut ?_ | refine o1_pick_t rfl rfl ?_ | refine o1_pick_f rfl rfl ?_ | refine o1_extract rfl rfl ?_ | refine o1_fieldAddr rfl ?_ | refine ox_load rfl (by rfl) ?_ | refine ox_load_enc rfl (by first | omega | (simp; omega)) ?_ | refine ox_load_any rfl (by assumption) ?_ | refine o1_len rfl ?_ | refine o1_add rfl rfl (by omega) ?_ | refine o1_lss_t rfl rfl (by omega) ?_ | refine o1_lss_f rfl rfl (by omega) ?_ | refine o1_lss rfl rfl (fun _ => ?_) (fun _ => ?_) | refine o1_gtr_t rfl rfl (by omega) ?_ | refine o1_gtr_f rfl rfl (by omega) ?_ | refine o1_gtr rfl rfl (fun _ => ?_) (fun _ => ?_) | refine o1_neq_t rfl rfl (by omega) ?_ | refine o1_neq_f rfl rfl (by omega) ?_ | refine o1_neq rfl rfl (fun _ => ?_) (fun _ => ?_) | refine o1_bnot rfl ?_ | refine o1_unot rfl ?_ | refine o1_conv_i rfl (by omega) ?_ | refine o1_conv_ui rfl (by exact bv_small (by decide) _) ?_ | refine o1_string rfl (by rfl) rx_row ?_ | refine o1_string rfl (by rfl) (rx_any (by assumption)) ?_ | refine o1_slice_nil rfl ?_ | refine o1_nilCheck rfl ?_)
  refine st_stages [(0, _)] rtY8_1 [9] [⟨[0, 1, 2, 3, 4, 5, 6, 7, 8], [], some 9⟩, ⟨[10], [], none⟩] mixed (cov_cons rfl rfl cov_nil) (by kernel_rfl) (by kernel_rfl) ?_
  all_goals refine wk_ch ?_
  all_goals (refine xp1 0 rfl rfl rfl rfl (by refine o1_move rfl fz) ?_)
  all_goals (refine xp1 14 rfl rfl rfl rfl (by first | refine o1_ia (ad := ad) (c := c) 0 rfl rfl hb rfl rfl (by omega) fz | refine o1_ia (ad := ad) (c := c) 1 rfl rfl hb rfl rfl (by omega) fz) ?_)
  all_goals (refine xp1 15 rfl rfl rfl rfl (by first | refine o1_load_av (ad := ad) (c := c) 0 _ rfl hb g0 fz | refine o1_load_av (ad := ad) (c := c) 1 _ rfl hb g1 fz | refine ox_load rfl (by rfl) fz | refine ox_load_enc rfl (by first | omega | (simp; omega)) fz | refine ox_load_any rfl (by assumption) fz) ?_)
  all_goals (refine xp1 16 rfl rfl rfl rfl (by first | ((refine o1_conv_i rfl (by omega) ?_; rw [hz1]); all_goals exact fz) | refine o1_conv_i rfl (by omega) fz | refine o1_conv_i rfl (by omega) fz | refine o1_conv_ui rfl (by exact bv_small (by decide) _) fz) ?_)
  all_goals (refine xp1 17 rfl rfl rfl rfl (by first | ((refine o1_add rfl rfl (by omega) ?_; rw [hn1]); all_goals exact fz) | refine o1_add rfl rfl (by omega) fz) ?_)
  all_goals (refine xp1 0 rfl rfl rfl rfl (by refine o1_move rfl fz) ?_)
  all_goals (refine xp1 19 rfl rfl rfl rfl (by first | refine o1_ia (ad := ad) (c := c) 0 rfl rfl hb rfl rfl (by omega) fz | refine o1_ia (ad := ad) (c := c) 1 rfl rfl hb rfl rfl (by omega) fz) ?_)
  all_goals (refine xp1 20 rfl rfl rfl rfl (by first | refine o1_load_av (ad := ad) (c := c) 0 _ rfl hb g0 fz | refine o1_load_av (ad := ad) (c := c) 1 _ rfl hb g1 fz | refine ox_load rfl (by rfl) fz | refine ox_load_enc rfl (by first | omega | (simp; omega)) fz | refine ox_load_any rfl (by assumption) fz) ?_)
  all_goals (refine xp1 21 rfl rfl rfl rfl (by first | ((refine o1_conv_i rfl (by omega) ?_; rw [hz1]); all_goals exact fz) | refine o1_conv_i rfl (by omega) fz | refine o1_conv_i rfl (by omega) fz | refine o1_conv_ui rfl (by exact bv_small (by decide) _) fz) ?_)
  all_goals refine op_nil ?_
  all_goals refine re_nil ?_
  all_goals first | (refine ch_run (E' := [(18, _), (22, _)]) rfl (gd_r0 rfl) rfl (cov_cons rfl rfl (cov_cons rfl rfl cov_nil)) ?_; (first | (refine o1_call (fun _ => r1_NewMatrix _ n z h1 h2 h3 h4) rfl (fun b _ => ?_))))
  all_goals refine wk_end ?_
  all_goals (refine xp1 23 rfl rfl rfl rfl (by refine o1_assign rfl fz) ?_)
  all_goals refine op_nil ?_
  all_goals refine re_nil ?_
  all_goals dsimp only [List.cons_append, List.nil_append]
  by_cases hkn : n < k
  · repeat' (first | refine ls_of rfl ?_ | refine ls_of_no ?_ | refine ls_guard_yes rfl rfl ?_ | refine ls_guard_no rfl rfl rfl rfl ?_ | refine ls_guard_un rfl rfl rfl ?_ | refine o1_move rfl ?_ | refine o1_assign rfl ?_ | refine st_seq ?_ | refine st_region ?_ | refine st_block ?_ | refine st_skip ?_ | refine st_ret ?_ | refine st_exit ?_ | refine st_cond_t rfl ?_ | refine st_cond_f rfl ?_ | refine st_cond rfl (fun _ => ?_) (fun _ => ?_) | refine ls_nil ?_ | refine nx_seq ?_ | refine nx_blk ?_ | refine nx_fn ?_ | refine nx_rounds ?_ | refine xt_seq ?_ | refine xt_here ?_ | refine xt_on rfl ?_ | refine xt_rounds ?_ | refine xt_cut ?_ | refine rt_seq ?_ | refine rt_blk ?_ | refine rt_rounds ?_ | refine rt_cut ?_ | refine o1_peql rfl rfl ?_ | (refine o1_cs_lh (xs := bs) 2 4 rfl rfl rfl rfl rfl rfl (by omega) (by omega) (by omega) ?_; rw [g2]) | refine o1_call (fun _ => r1_Num _ (cutA ad c 2) K2.length (c - 2) K2 (Rs.up hf2) rfl) rfl (fun _ _ => ?_) | (refine o1_conv_i rfl (by omega) ?_; rw [hnk]) | refine o1_pick_t rfl rfl ?_ | refine o1_pick_f rfl rfl ?_ | refine o1_extract rfl rfl ?_ | refine o1_fieldAddr rfl ?_ | refine ox_load rfl (by rfl) ?_ | refine ox_load_enc rfl (by first | omega | (simp; omega)) ?_ | refine ox_load_any rfl (by assumption) ?_ | refine o1_len rfl ?_ | refine o1_add rfl rfl (by omega) ?_ | refine o1_lss_t rfl rfl (by omega) ?_ | refine o1_lss_f rfl rfl (by omega) ?_ | refine o1_lss rfl rfl (fun _ => ?_) (fun _ => ?_) | refine o1_gtr_t rfl rfl (by omega) ?_ | refine o1_gtr_f rfl rfl (by omega) ?_ | refine o1_gtr rfl rfl (fun _ => ?_) (fun _ => ?_) | refine o1_neq_t rfl rfl (by omega) ?_ | refine o1_neq_f rfl rfl (by omega) ?_ | refine o1_neq rfl rfl (fun _ => ?_) (fun _ => ?_) | refine o1_bnot rfl ?_ | refine o1_unot rfl ?_ | refine o1_conv_i rfl (by omega) ?_ | refine o1_conv_ui rfl (by exact bv_small (by decide) _) ?_ | refine o1_string rfl (by rfl) rx_row ?_ | refine o1_string rfl (by rfl) (rx_any (by assumption)) ?_ | refine o1_slice_nil rfl ?_ | refine o1_nilCheck rfl ?_)
    refine rt_tmp2 () rfl rfl rfl rfl trivial ?_
    (try dsimp only [List.cons_append, List.nil_append, List.singleton_append, List.append_nil]); (repeat (first | exact Ent.nil | exact Ent.refl _ | (apply Ent.cons; (repeat (first | exact Sel.here | apply Sel.there)))))
  obtain ⟨kw, hkw⟩ : ∃ kw, k * wz = kw := ⟨_, rfl⟩
  have hkw2 : kw ≤ 256 * 48 := by rw [← hkw]; exact Nat.mul_le_mul (by omega) hwz48
  have hmul : (k : Int) * (wz : Int) = (kw : Nat) := by rw [← hkw]; push_cast; rfl
  by_cases hlen : bs.length ≠ 4 + kw
  · repeat' (first | refine ls_of rfl ?_ | refine ls_of_no ?_ | refine ls_guard_yes rfl rfl ?_ | refine ls_guard_no rfl rfl rfl rfl ?_ | refine ls_guard_un rfl rfl rfl ?_ | refine o1_move rfl ?_ | refine o1_assign rfl ?_ | refine st_seq ?_ | refine st_region ?_ | refine st_block ?_ | refine st_skip ?_ | refine st_ret ?_ | refine st_exit ?_ | refine st_cond_t rfl ?_ | refine st_cond_f rfl ?_ | refine st_cond rfl (fun _ => ?_) (fun _ => ?_) | refine ls_nil ?_ | refine nx_seq ?_ | refine nx_blk ?_ | refine nx_fn ?_ | refine nx_rounds ?_ | refine xt_seq ?_ | refine xt_here ?_ | refine xt_on rfl ?_ | refine xt_rounds ?_ | refine xt_cut ?_ | refine rt_seq ?_ | refine rt_blk ?_ | refine rt_rounds ?_ | refine rt_cut ?_ | refine o1_peql rfl rfl ?_ | (refine o1_quo rfl rfl (by omega) ?_; rw [hq]) | (refine o1_cs_lh (xs := bs) 2 4 rfl rfl rfl rfl rfl rfl (by omega) (by omega) (by omega) ?_; rw [g2]) | refine o1_call (fun _ => r1_Num _ (cutA ad c 2) K2.length (c - 2) K2 (Rs.up hf2) rfl) rfl (fun _ _ => ?_) | (refine o1_conv_i rfl (by omega) ?_; rw [hnk]) | (refine o1_add rfl rfl (by omega) ?_; rw [hnz]) | (refine o1_mul rfl rfl (by rw [hmul]; omega) ?_; rw [hmul]) | refine o1_neq_t rfl rfl (by omega) ?_ | refine o1_pick_t rfl rfl ?_ | refine o1_pick_f rfl rfl ?_ | refine o1_extract rfl rfl ?_ | refine o1_fieldAddr rfl ?_ | refine ox_load rfl (by rfl) ?_ | refine ox_load_enc rfl (by first | omega | (simp; omega)) ?_ | refine ox_load_any rfl (by assumption) ?_ | refine o1_len rfl ?_ | refine o1_add rfl rfl (by omega) ?_ | refine o1_lss_t rfl rfl (by omega) ?_ | refine o1_lss_f rfl rfl (by omega) ?_ | refine o1_lss rfl rfl (fun _ => ?_) (fun _ => ?_) | refine o1_gtr_t rfl rfl (by omega) ?_ | refine o1_gtr_f rfl rfl (by omega) ?_ | refine o1_gtr rfl rfl (fun _ => ?_) (fun _ => ?_) | refine o1_neq_t rfl rfl (by omega) ?_ | refine o1_neq_f rfl rfl (by omega) ?_ | refine o1_neq rfl rfl (fun _ => ?_) (fun _ => ?_) | refine o1_bnot rfl ?_ | refine o1_unot rfl ?_ | refine o1_conv_i rfl (by omega) ?_ | refine o1_conv_ui rfl (by exact bv_small (by decide) _) ?_ | refine o1_string rfl (by rfl) rx_row ?_ | refine o1_string rfl (by rfl) (rx_any (by assumption)) ?_ | refine o1_slice_nil rfl ?_ | refine o1_nilCheck rfl ?_)
    refine rt_tmp2 () rfl rfl rfl rfl trivial ?_
    (try dsimp only [List.cons_append, List.nil_append, List.singleton_append, List.append_nil]); (repeat (first | exact Ent.nil | exact Ent.refl _ | (apply Ent.cons; (repeat (first | exact Sel.here | apply Sel.there)))))
  have hl4 : bs.length = 4 + kw := by omega
  repeat' (first | refine ls_of rfl ?_ | refine ls_of_no ?_ | refine ls_guard_yes rfl rfl ?_ | refine ls_guard_no rfl rfl rfl rfl ?_ | refine ls_guard_un rfl rfl rfl ?_ | refine o1_move rfl ?_ | refine o1_assign rfl ?_ | refine st_seq ?_ | refine st_region ?_ | refine st_block ?_ | refine st_skip ?_ | refine st_ret ?_ | refine st_exit ?_ | refine st_cond_t rfl ?_ | refine st_cond_f rfl ?_ | refine st_cond rfl (fun _ => ?_) (fun _ => ?_) | refine ls_nil ?_ | refine nx_seq ?_ | refine nx_blk ?_ | refine nx_fn ?_ | refine nx_rounds ?_ | refine xt_seq ?_ | refine xt_here ?_ | refine xt_on rfl ?_ | refine xt_rounds ?_ | refine xt_cut ?_ | refine rt_seq ?_ | refine rt_blk ?_ | refine rt_rounds ?_ | refine rt_cut ?_ | refine o1_peql rfl rfl ?_ | (refine o1_quo rfl rfl (by omega) ?_; rw [hq]) | (refine o1_cs_lh (xs := bs) 2 4 rfl rfl rfl rfl rfl rfl (by omega) (by omega) (by omega) ?_; rw [g2]) | refine o1_call (fun _ => r1_Num _ (cutA ad c 2) K2.length (c - 2) K2 (Rs.up hf2) rfl) rfl (fun _ _ => ?_) | (refine o1_conv_i rfl (by omega) ?_; rw [hnk]) | (refine o1_add rfl rfl (by omega) ?_; rw [hnz]) | (refine o1_mul rfl rfl (by rw [hmul]; omega) ?_; rw [hmul]) | refine o1_neq_f rfl rfl (by omega) ?_ | refine o1_pick_t rfl rfl ?_ | refine o1_pick_f rfl rfl ?_ | refine o1_extract rfl rfl ?_ | refine o1_fieldAddr rfl ?_ | refine ox_load rfl (by rfl) ?_ | refine ox_load_enc rfl (by first | omega | (simp; omega)) ?_ | refine ox_load_any rfl (by assumption) ?_ | refine o1_len rfl ?_ | refine o1_add rfl rfl (by omega) ?_ | refine o1_lss_t rfl rfl (by omega) ?_ | refine o1_lss_f rfl rfl (by omega) ?_ | refine o1_lss rfl rfl (fun _ => ?_) (fun _ => ?_) | refine o1_gtr_t rfl rfl (by omega) ?_ | refine o1_gtr_f rfl rfl (by omega) ?_ | refine o1_gtr rfl rfl (fun _ => ?_) (fun _ => ?_) | refine o1_neq_t rfl rfl (by omega) ?_ | refine o1_neq_f rfl rfl (by omega) ?_ | refine o1_neq rfl rfl (fun _ => ?_) (fun _ => ?_) | refine o1_bnot rfl ?_ | refine o1_unot rfl ?_ | refine o1_conv_i rfl (by omega) ?_ | refine o1_conv_ui rfl (by exact bv_small (by decide) _) ?_ | refine o1_string rfl (by rfl) rx_row ?_ | refine o1_string rfl (by rfl) (rx_any (by assumption)) ?_ | refine o1_slice_nil rfl ?_ | refine o1_nilCheck rfl ?_)
  refine st_loop (S := Nat × (Option Addr × Nat × List LnD) × List (Option LN) × (Hp → Prop)) (fun q => [(0, .slice ad bs.length c), (4, .pointer (some ⟨b, 0, none⟩)), (6, I (nb n)), (56, I k), (57, I q.1)])
    (fun q => [rB b n z q.2.1.1 q.2.1.2.1 q.2.1.2.2.length, .any q.2.2.2])
    (fun q => q.1 ≤ k ∧ RdL q.2.2.2 n z q.2.1.1 q.2.1.2.1 q.2.1.2.2 ∧ q.2.1.2.2.map lnV = cmp q.2.2.1 ∧ RR n z q.2.2.1 ∧ cntS q.2.2.1 = q.1 ∧ Gr (stars H) q.2.2.2) (fun q => k - q.1) (0, (none, 0, []), List.replicate n none, stars H) ⟨Nat.zero_le _, RdL.nil, (by rw [cmp_none]; rfl), RR_none, cntS_none n, Gr.refl _⟩
    (cov_cons rfl rfl (cov_cons rfl rfl (cov_cons rfl rfl (cov_cons rfl rfl (cov_cons rfl rfl cov_nil))))) (by show Ent _ [rB b n z none 0 0, .any (stars H)]; (try dsimp only [List.cons_append, List.nil_append, List.singleton_append, List.append_nil]); (repeat (first | exact Ent.nil | exact Ent.refl _ | (apply Ent.cons; (repeat (first | exact Sel.here | apply Sel.there)))))) ?_
  rintro ⟨j, ⟨ao, co, ls⟩, ML, A1⟩ ⟨hj, hL, hls, hRR, hcj, hg⟩
  dsimp only at hj hL hls hRR hcj hg ⊢
  have hb1 := rs_gr hb hg
  have hlk : ls.length = j := by
    have h1 := congrArg List.length hls
    rw [List.length_map, cmp_len, hcj] at h1
    exact h1
  by_cases hjk : j < k
  · obtain ⟨jw, hjw⟩ : ∃ jw, j * wz = jw := ⟨_, rfl⟩
    have hjw2 : (j + 1) * wz = jw + wz := by rw [Nat.add_mul, Nat.one_mul, hjw]
    have hjle : jw + wz ≤ kw := by rw [← hjw2, ← hkw]; exact Nat.mul_le_mul_right _ (by omega)
    have hmulj : (j : Int) * (wz : Int) = (jw : Nat) := by rw [← hjw]; push_cast; rfl
    obtain ⟨p, hp⟩ : ∃ p, 4 + jw = p := ⟨_, rfl⟩
    have hpi : (4 : Int) + (jw : Nat) = (p : Nat) := by omega
    obtain ⟨raw, t1⟩ : ∃ raw, (bs.take (p + nb n)).drop p = raw := ⟨_, rfl⟩
    obtain ⟨yd, t2⟩ : ∃ yd, (bs.take (p + nb n + z)).drop (p + nb n) = yd := ⟨_, rfl⟩
    have hrawl : raw.length = nb n := by rw [← t1]; simp; omega
    have y2 : yd.length = z := by rw [← t2]; simp; omega
    have f1 : Rs A1 B (cutA ad c p) (c - p) raw := by have := hb1.cutv p (p + nb n) (by omega) (by omega); rw [t1] at this; exact this
    have f2 : Rs A1 B (cutA ad c (p + nb n)) (c - (p + nb n)) yd := by have := hb1.cutv (p + nb n) (p + nb n + z) (by omega) (by omega); rw [t2] at this; exact this
    have q1 : (p : Int) + (nb n : Nat) = ((p + nb n : Nat) : Int) := by push_cast; rfl
    have q2 : ((p + nb n : Nat) : Int) + (z : Nat) = ((p + nb n + z : Nat) : Int) := by push_cast; rfl
    repeat' (first | refine ls_of rfl ?_ | refine ls_of_no ?_ | refine ls_guard_yes rfl rfl ?_ | refine ls_guard_no rfl rfl rfl rfl ?_ | refine ls_guard_un rfl rfl rfl ?_ | refine o1_move rfl ?_ | refine o1_assign rfl ?_ | refine st_seq ?_ | refine st_region ?_ | refine st_block ?_ | refine st_skip ?_ | refine st_ret ?_ | refine st_exit ?_ | refine st_cond_t rfl ?_ | refine st_cond_f rfl ?_ | refine st_cond rfl (fun _ => ?_) (fun _ => ?_) | refine ls_nil ?_ | refine nx_seq ?_ | refine nx_blk ?_ | refine nx_fn ?_ | refine nx_rounds ?_ | refine xt_seq ?_ | refine xt_here ?_ | refine xt_on rfl ?_ | refine xt_rounds ?_ | refine xt_cut ?_ | refine rt_seq ?_ | refine rt_blk ?_ | refine rt_rounds ?_ | refine rt_cut ?_ | (refine o1_add rfl rfl (by omega) ?_; rw [hnz]) | (refine o1_mul rfl rfl (by rw [hmulj]; omega) ?_; rw [hmulj]) | (refine o1_add rfl rfl (by omega) ?_; rw [hpi]) | refine o1_pick_t rfl rfl ?_ | refine o1_pick_f rfl rfl ?_ | refine o1_extract rfl rfl ?_ | refine o1_fieldAddr rfl ?_ | refine ox_load rfl (by rfl) ?_ | refine ox_load_enc rfl (by first | omega | (simp; omega)) ?_ | refine ox_load_any rfl (by assumption) ?_ | refine o1_len rfl ?_ | refine o1_add rfl rfl (by omega) ?_ | refine o1_lss_t rfl rfl (by omega) ?_ | refine o1_lss_f rfl rfl (by omega) ?_ | refine o1_lss rfl rfl (fun _ => ?_) (fun _ => ?_) | refine o1_gtr_t rfl rfl (by omega) ?_ | refine o1_gtr_f rfl rfl (by omega) ?_ | refine o1_gtr rfl rfl (fun _ => ?_) (fun _ => ?_) | refine o1_neq_t rfl rfl (by omega) ?_ | refine o1_neq_f rfl rfl (by omega) ?_ | refine o1_neq rfl rfl (fun _ => ?_) (fun _ => ?_) | refine o1_bnot rfl ?_ | refine o1_unot rfl ?_ | refine o1_conv_i rfl (by omega) ?_ | refine o1_conv_ui rfl (by exact bv_small (by decide) _) ?_ | refine o1_string rfl (by rfl) rx_row ?_ | refine o1_string rfl (by rfl) (rx_any (by assumption)) ?_ | refine o1_slice_nil rfl ?_ | refine o1_nilCheck rfl ?_)
    by_cases hbad : ∃ i0, n ≤ i0 ∧ i0 < 8 * nb n ∧ rbit raw i0 = true
    · obtain ⟨i0, w1, w2, w3⟩ := hbad
      refine st_stages [(4, _), (0, _), (8, _), (6, _)] rtY8_2 [10] [⟨[0, 1, 2, 3, 4, 5, 6, 7, 8, 9], [], some 10⟩, ⟨[11, 12, 13, 14, 15], [], none⟩] mixed (cov_cons rfl rfl (cov_cons rfl rfl (cov_cons rfl rfl (cov_cons rfl rfl cov_nil)))) (by kernel_rfl) (by kernel_rfl) ?_
      all_goals refine wk_ch ?_
      all_goals (refine xp1 4 rfl rfl rfl rfl (by refine o1_move rfl fz) ?_)
      all_goals (refine xp1 70 rfl rfl rfl rfl (by refine o1_nilCheck rfl fz) ?_)
      all_goals (refine xp1 71 rfl rfl rfl rfl (by refine o1_fieldAddr rfl fz) ?_)
      all_goals (refine xp1 72 rfl rfl rfl rfl (by first | refine ox_load rfl (by rfl) fz | refine ox_load_enc rfl (by first | omega | (simp; omega)) fz | refine ox_load_any rfl (by assumption) fz) ?_)
      all_goals (refine xp1 0 rfl rfl rfl rfl (by refine o1_move rfl fz) ?_)
      all_goals (refine xp1 8 rfl rfl rfl rfl (by refine o1_move rfl fz) ?_)
      all_goals (refine xp1 8 rfl rfl rfl rfl (by refine o1_move rfl fz) ?_)
      all_goals (refine xp1 6 rfl rfl rfl rfl (by refine o1_move rfl fz) ?_)
      all_goals (refine xp2 76 77 rfl rfl rfl rfl rfl (by first | ((refine o1_add rfl rfl (by omega) ?_; rw [q1]); all_goals exact fz) | refine o1_add rfl rfl (by omega) fz) ?_)
      all_goals (refine xp3 74 75 78 rfl rfl rfl rfl rfl rfl (by ((refine o1_cs_lh (xs := bs) p (p + nb n) rfl rfl rfl rfl rfl rfl (by omega) (by omega) (by omega) ?_; rw [t1]); all_goals exact fz)) ?_)
      all_goals refine op_nil ?_
      all_goals refine re_nil ?_
      all_goals first | (refine ch_run (E' := [(73, _), (79, _)]) rfl (gd_r0 rfl) rfl (cov_cons rfl rfl (cov_cons rfl rfl cov_nil)) ?_; (first | (refine o1_call (fun _ => r1_Unpack_bad _ n (cutA ad c p) raw.length (c - p) raw h2 (Rs.up f1) rfl hrawl i0 w1 w2 w3) rfl (fun _ _ => ?_); (try dsimp only))))
      all_goals refine wk_end ?_
      all_goals (refine xp1 80 rfl rfl rfl rfl (by refine o1_move rfl fz) ?_)
      all_goals (refine xp1 69 rfl rfl rfl rfl (by refine o1_extract rfl rfl fz) ?_)
      all_goals (refine xp1 69 rfl rfl rfl rfl (by refine o1_extract rfl rfl fz) ?_)
      all_goals (refine xp1 81 rfl rfl rfl rfl (by refine o1_assign rfl fz) ?_)
      all_goals (refine xp1 82 rfl rfl rfl rfl (by refine o1_assign rfl fz) ?_)
      all_goals refine op_nil ?_
      all_goals refine re_nil ?_
      all_goals dsimp only [List.cons_append, List.nil_append]
      repeat' (first | refine ls_of rfl ?_ | refine ls_of_no ?_ | refine ls_guard_yes rfl rfl ?_ | refine ls_guard_no rfl rfl rfl rfl ?_ | refine ls_guard_un rfl rfl rfl ?_ | refine o1_move rfl ?_ | refine o1_assign rfl ?_ | refine st_seq ?_ | refine st_region ?_ | refine st_block ?_ | refine st_skip ?_ | refine st_ret ?_ | refine st_exit ?_ | refine st_cond_t rfl ?_ | refine st_cond_f rfl ?_ | refine st_cond rfl (fun _ => ?_) (fun _ => ?_) | refine ls_nil ?_ | refine nx_seq ?_ | refine nx_blk ?_ | refine nx_fn ?_ | refine nx_rounds ?_ | refine xt_seq ?_ | refine xt_here ?_ | refine xt_on rfl ?_ | refine xt_rounds ?_ | refine xt_cut ?_ | refine rt_seq ?_ | refine rt_blk ?_ | refine rt_rounds ?_ | refine rt_cut ?_ | refine o1_pick_t rfl rfl ?_ | refine o1_pick_f rfl rfl ?_ | refine o1_extract rfl rfl ?_ | refine o1_fieldAddr rfl ?_ | refine ox_load rfl (by rfl) ?_ | refine ox_load_enc rfl (by first | omega | (simp; omega)) ?_ | refine ox_load_any rfl (by assumption) ?_ | refine o1_len rfl ?_ | refine o1_add rfl rfl (by omega) ?_ | refine o1_lss_t rfl rfl (by omega) ?_ | refine o1_lss_f rfl rfl (by omega) ?_ | refine o1_lss rfl rfl (fun _ => ?_) (fun _ => ?_) | refine o1_gtr_t rfl rfl (by omega) ?_ | refine o1_gtr_f rfl rfl (by omega) ?_ | refine o1_gtr rfl rfl (fun _ => ?_) (fun _ => ?_) | refine o1_neq_t rfl rfl (by omega) ?_ | refine o1_neq_f rfl rfl (by omega) ?_ | refine o1_neq rfl rfl (fun _ => ?_) (fun _ => ?_) | refine o1_bnot rfl ?_ | refine o1_unot rfl ?_ | refine o1_conv_i rfl (by omega) ?_ | refine o1_conv_ui rfl (by exact bv_small (by decide) _) ?_ | refine o1_string rfl (by rfl) rx_row ?_ | refine o1_string rfl (by rfl) (rx_any (by assumption)) ?_ | refine o1_slice_nil rfl ?_ | refine o1_nilCheck rfl ?_)
      refine rt_ent (fun h hh => gr_drop hg [] h (Ent.out (by (try dsimp only [List.cons_append, List.nil_append, List.singleton_append, List.append_nil]); (repeat (first | exact Ent.nil | exact Ent.refl _ | (apply Ent.cons; (repeat (first | exact Sel.here | apply Sel.there)))))) h hh)) ?_
      refine rt_tmp2 () rfl rfl rfl rfl trivial ?_
      (try dsimp only [List.cons_append, List.nil_append, List.singleton_append, List.append_nil]); (repeat (first | exact Ent.nil | exact Ent.refl _ | (apply Ent.cons; (repeat (first | exact Sel.here | apply Sel.there)))))
    · have hok : ∀ i, n ≤ i → i < 8 * nb n → rbit raw i = false := fun i w1 w2 => by
        cases hq : rbit raw i with
        | false => rfl
        | true => exact absurd ⟨i, w1, w2, hq⟩ hbad
      obtain ⟨yb, hmask⟩ : ∃ yb, maskV n (rbit raw) n = yb := ⟨_, rfl⟩
      have y1 : yb.length = n := by rw [← hmask, maskV_len]
      refine st_stages [(4, _), (0, _), (8, _), (6, _)] rtY8_3 [10] [⟨[0, 1, 2, 3, 4, 5, 6, 7, 8, 9], [], some 10⟩, ⟨[11, 12, 13, 14, 15], [], none⟩] mixed (cov_cons rfl rfl (cov_cons rfl rfl (cov_cons rfl rfl (cov_cons rfl rfl cov_nil)))) (by kernel_rfl) (by kernel_rfl) ?_
      all_goals refine wk_ch ?_
      all_goals (refine xp1 4 rfl rfl rfl rfl (by refine o1_move rfl fz) ?_)
      all_goals (refine xp1 70 rfl rfl rfl rfl (by refine o1_nilCheck rfl fz) ?_)
      all_goals (refine xp1 71 rfl rfl rfl rfl (by refine o1_fieldAddr rfl fz) ?_)
      all_goals (refine xp1 72 rfl rfl rfl rfl (by first | refine ox_load rfl (by rfl) fz | refine ox_load_enc rfl (by first | omega | (simp; omega)) fz | refine ox_load_any rfl (by assumption) fz) ?_)
      all_goals (refine xp1 0 rfl rfl rfl rfl (by refine o1_move rfl fz) ?_)
      all_goals (refine xp1 8 rfl rfl rfl rfl (by refine o1_move rfl fz) ?_)
      all_goals (refine xp1 8 rfl rfl rfl rfl (by refine o1_move rfl fz) ?_)
      all_goals (refine xp1 6 rfl rfl rfl rfl (by refine o1_move rfl fz) ?_)
      all_goals (refine xp2 76 77 rfl rfl rfl rfl rfl (by first | ((refine o1_add rfl rfl (by omega) ?_; rw [q1]); all_goals exact fz) | refine o1_add rfl rfl (by omega) fz) ?_)
      all_goals (refine xp3 74 75 78 rfl rfl rfl rfl rfl rfl (by ((refine o1_cs_lh (xs := bs) p (p + nb n) rfl rfl rfl rfl rfl rfl (by omega) (by omega) (by omega) ?_; rw [t1]); all_goals exact fz)) ?_)
      all_goals refine op_nil ?_
      all_goals refine re_nil ?_
      all_goals first | (refine ch_run (E' := [(73, _), (79, _)]) rfl (gd_r0 rfl) rfl (cov_cons rfl rfl (cov_cons rfl rfl cov_nil)) ?_; (first | (refine o1_call (fun _ => r1_Unpack_ok _ n (cutA ad c p) raw.length (c - p) raw h2 (Rs.up f1) rfl hrawl hok) rfl (fun b81 _ => ?_); (try dsimp only); rw [hmask])))
      all_goals refine wk_end ?_
      all_goals (refine xp1 80 rfl rfl rfl rfl (by refine o1_move rfl fz) ?_)
      all_goals (refine xp1 69 rfl rfl rfl rfl (by refine o1_extract rfl rfl fz) ?_)
      all_goals (refine xp1 69 rfl rfl rfl rfl (by refine o1_extract rfl rfl fz) ?_)
      all_goals (refine xp1 81 rfl rfl rfl rfl (by refine o1_assign rfl fz) ?_)
      all_goals (refine xp1 82 rfl rfl rfl rfl (by refine o1_assign rfl fz) ?_)
      all_goals refine op_nil ?_
      all_goals refine re_nil ?_
      all_goals dsimp only [List.cons_append, List.nil_append]
      refine nx_pack [.box b81 4 (yb.map Bo), .any A1] [rB b n z ao co ls.length] (by (try dsimp only [List.cons_append, List.nil_append, List.singleton_append, List.append_nil]); (repeat (first | exact Ent.nil | exact Ent.refl _ | (apply Ent.cons; (repeat (first | exact Sel.here | apply Sel.there)))))) ?_
      refine nx_has (fun hh => ?_)
      have hA := has_any hh
      have u1 := rx_box (b := b81) (T := 4) (enc := Bo) y1 (by omega) hA
      obtain ⟨A2, hA2⟩ : ∃ A2, stars [.box b81 4 (yb.map Bo), .any A1] = A2 := ⟨_, rfl⟩
      have hg2 : Gr A1 A2 := by rw [← hA2]; exact Gr.of
      rw [hA2] at u1 ⊢
      clear hh hA hA2
      rcases add_cases hRR (v := (yb, yd)) y1 y2 with hold | ⟨a, ha, hfree, hRR2, hcnt⟩
      · have hold2 : firstV (red ML (yb, List.replicate z 0#8)).1 = -1 := by
          rw [red_fst hRR (v := yb) (d := List.replicate z 0#8) (d' := yd) y1 (by simp) y2]
          exact hold
        repeat' (first | refine ls_of rfl ?_ | refine ls_of_no ?_ | refine ls_guard_yes rfl rfl ?_ | refine ls_guard_no rfl rfl rfl rfl ?_ | refine ls_guard_un rfl rfl rfl ?_ | refine o1_move rfl ?_ | refine o1_assign rfl ?_ | refine st_seq ?_ | refine st_region ?_ | refine st_block ?_ | refine st_skip ?_ | refine st_ret ?_ | refine st_exit ?_ | refine st_cond_t rfl ?_ | refine st_cond_f rfl ?_ | refine st_cond rfl (fun _ => ?_) (fun _ => ?_) | refine ls_nil ?_ | refine nx_seq ?_ | refine nx_blk ?_ | refine nx_fn ?_ | refine nx_rounds ?_ | refine xt_seq ?_ | refine xt_here ?_ | refine xt_on rfl ?_ | refine xt_rounds ?_ | refine xt_cut ?_ | refine rt_seq ?_ | refine rt_blk ?_ | refine rt_rounds ?_ | refine rt_cut ?_ | (refine o1_add rfl rfl (by omega) ?_; rw [q1]) | (refine o1_add rfl rfl (by omega) ?_; rw [q2]) | (refine o1_cs_lh (xs := bs) (p + nb n) (p + nb n + z) rfl rfl rfl rfl rfl rfl (by omega) (by omega) (by omega) ?_; rw [t2, y2]) | refine o1_call_a A2 (fun hh => r1_Add_old _ A2 b n z ao co ls ML ⟨some ⟨b81, 0, none⟩, n, yb⟩ (cutA ad c (p + nb n)) (c - (p + nb n)) (cl_box rfl) (cl_box rfl) (cl_box rfl) (hL.mono hg2) hls hRR h2 h4 u1 y1 hold2) rfl (fun _ _ => ?_) | refine o1_pick_t rfl rfl ?_ | refine o1_pick_f rfl rfl ?_ | refine o1_extract rfl rfl ?_ | refine o1_fieldAddr rfl ?_ | refine ox_load rfl (by rfl) ?_ | refine ox_load_enc rfl (by first | omega | (simp; omega)) ?_ | refine ox_load_any rfl (by assumption) ?_ | refine o1_len rfl ?_ | refine o1_add rfl rfl (by omega) ?_ | refine o1_lss_t rfl rfl (by omega) ?_ | refine o1_lss_f rfl rfl (by omega) ?_ | refine o1_lss rfl rfl (fun _ => ?_) (fun _ => ?_) | refine o1_gtr_t rfl rfl (by omega) ?_ | refine o1_gtr_f rfl rfl (by omega) ?_ | refine o1_gtr rfl rfl (fun _ => ?_) (fun _ => ?_) | refine o1_neq_t rfl rfl (by omega) ?_ | refine o1_neq_f rfl rfl (by omega) ?_ | refine o1_neq rfl rfl (fun _ => ?_) (fun _ => ?_) | refine o1_bnot rfl ?_ | refine o1_unot rfl ?_ | refine o1_conv_i rfl (by omega) ?_ | refine o1_conv_ui rfl (by exact bv_small (by decide) _) ?_ | refine o1_string rfl (by rfl) rx_row ?_ | refine o1_string rfl (by rfl) (rx_any (by assumption)) ?_ | refine o1_slice_nil rfl ?_ | refine o1_nilCheck rfl ?_)
        refine rt_ent (fun h hh => gr_drop (hg.trans hg2) [] h (Ent.out (by (try dsimp only [List.cons_append, List.nil_append, List.singleton_append, List.append_nil]); (repeat (first | exact Ent.nil | exact Ent.refl _ | (apply Ent.cons; (repeat (first | exact Sel.here | apply Sel.there)))))) h hh)) ?_
        refine rt_tmp2 () rfl rfl rfl rfl trivial ?_
        (try dsimp only [List.cons_append, List.nil_append, List.singleton_append, List.append_nil]); (repeat (first | exact Ent.nil | exact Ent.refl _ | (apply Ent.cons; (repeat (first | exact Sel.here | apply Sel.there)))))
      · obtain ⟨x, hx⟩ : ∃ x, red ML (yb, yd) = x := ⟨_, rfl⟩
        obtain ⟨ML2, hML2⟩ : ∃ ML2, addM ML a x = ML2 := ⟨_, rfl⟩
        rw [hx] at ha
        rw [hx, hML2] at hRR2 hcnt
        repeat' (first | refine ls_of rfl ?_ | refine ls_of_no ?_ | refine ls_guard_yes rfl rfl ?_ | refine ls_guard_no rfl rfl rfl rfl ?_ | refine ls_guard_un rfl rfl rfl ?_ | refine o1_move rfl ?_ | refine o1_assign rfl ?_ | refine st_seq ?_ | refine st_region ?_ | refine st_block ?_ | refine st_skip ?_ | refine st_ret ?_ | refine st_exit ?_ | refine st_cond_t rfl ?_ | refine st_cond_f rfl ?_ | refine st_cond rfl (fun _ => ?_) (fun _ => ?_) | refine ls_nil ?_ | refine nx_seq ?_ | refine nx_blk ?_ | refine nx_fn ?_ | refine nx_rounds ?_ | refine xt_seq ?_ | refine xt_here ?_ | refine xt_on rfl ?_ | refine xt_rounds ?_ | refine xt_cut ?_ | refine rt_seq ?_ | refine rt_blk ?_ | refine rt_rounds ?_ | refine rt_cut ?_ | (refine o1_add rfl rfl (by omega) ?_; rw [q1]) | (refine o1_add rfl rfl (by omega) ?_; rw [q2]) | (refine o1_cs_lh (xs := bs) (p + nb n) (p + nb n + z) rfl rfl rfl rfl rfl rfl (by omega) (by omega) (by omega) ?_; rw [t2, y2]) | (refine o1_call_ba b A2 (fun hh => r1_Add _ A2 b n z ao co ls ML ⟨some ⟨b81, 0, none⟩, n, yb⟩ ⟨cutA ad c (p + nb n), c - (p + nb n), yd⟩ x a (hL.mono hg2) hls hRR h2 h4 u1 y1 (rs_gr f2 hg2) y2 hx ha hfree) rfl (fun ⟨⟨ao2, co2, ls2⟩, A3⟩ hr2 => ?_); dsimp only at hr2 ⊢; obtain ⟨u2, u3, u4⟩ := hr2; rw [hML2] at u3) | refine o1_pick_t rfl rfl ?_ | refine o1_pick_f rfl rfl ?_ | refine o1_extract rfl rfl ?_ | refine o1_fieldAddr rfl ?_ | refine ox_load rfl (by rfl) ?_ | refine ox_load_enc rfl (by first | omega | (simp; omega)) ?_ | refine ox_load_any rfl (by assumption) ?_ | refine o1_len rfl ?_ | refine o1_add rfl rfl (by omega) ?_ | refine o1_lss_t rfl rfl (by omega) ?_ | refine o1_lss_f rfl rfl (by omega) ?_ | refine o1_lss rfl rfl (fun _ => ?_) (fun _ => ?_) | refine o1_gtr_t rfl rfl (by omega) ?_ | refine o1_gtr_f rfl rfl (by omega) ?_ | refine o1_gtr rfl rfl (fun _ => ?_) (fun _ => ?_) | refine o1_neq_t rfl rfl (by omega) ?_ | refine o1_neq_f rfl rfl (by omega) ?_ | refine o1_neq rfl rfl (fun _ => ?_) (fun _ => ?_) | refine o1_bnot rfl ?_ | refine o1_unot rfl ?_ | refine o1_conv_i rfl (by omega) ?_ | refine o1_conv_ui rfl (by exact bv_small (by decide) _) ?_ | refine o1_string rfl (by rfl) rx_row ?_ | refine o1_string rfl (by rfl) (rx_any (by assumption)) ?_ | refine o1_slice_nil rfl ?_ | refine o1_nilCheck rfl ?_)
        refine nx_again (j + 1, (ao2, co2, ls2), ML2, A3) ⟨?_, u2, u3, hRR2, ?_, (hg.trans hg2).trans u4⟩ ?_ (cov_cons rfl rfl (cov_cons rfl rfl (cov_cons rfl rfl (cov_cons rfl rfl (cov_cons rfl rfl cov_nil))))) ?_
        · show j + 1 ≤ k; omega
        · show cntS ML2 = j + 1; omega
        · show k - (j + 1) < k - j; omega
        (try dsimp only [List.cons_append, List.nil_append, List.singleton_append, List.append_nil]); (repeat (first | exact Ent.nil | exact Ent.refl _ | (apply Ent.cons; (repeat (first | exact Sel.here | apply Sel.there)))))
  · have : j = k := by omega
    subst this
    clear hjk
    obtain ⟨R, hR⟩ : ∃ R, matB n z j ML = R := ⟨_, rfl⟩
    have hne : R ≠ bs := by
      rw [← hR, ← hcj]
      exact hno n z ML h1 h2 h3 h4 hRR
    repeat' (first | refine ls_of rfl ?_ | refine ls_of_no ?_ | refine ls_guard_yes rfl rfl ?_ | refine ls_guard_no rfl rfl rfl rfl ?_ | refine ls_guard_un rfl rfl rfl ?_ | refine o1_move rfl ?_ | refine o1_assign rfl ?_ | refine st_seq ?_ | refine st_region ?_ | refine st_block ?_ | refine st_skip ?_ | refine st_ret ?_ | refine st_exit ?_ | refine st_cond_t rfl ?_ | refine st_cond_f rfl ?_ | refine st_cond rfl (fun _ => ?_) (fun _ => ?_) | refine ls_nil ?_ | refine nx_seq ?_ | refine nx_blk ?_ | refine nx_fn ?_ | refine nx_rounds ?_ | refine xt_seq ?_ | refine xt_here ?_ | refine xt_on rfl ?_ | refine xt_rounds ?_ | refine xt_cut ?_ | refine rt_seq ?_ | refine rt_blk ?_ | refine rt_rounds ?_ | refine rt_cut ?_ | refine o1_pick_t rfl rfl ?_ | refine o1_pick_f rfl rfl ?_ | refine o1_extract rfl rfl ?_ | refine o1_fieldAddr rfl ?_ | refine ox_load rfl (by rfl) ?_ | refine ox_load_enc rfl (by first | omega | (simp; omega)) ?_ | refine ox_load_any rfl (by assumption) ?_ | refine o1_len rfl ?_ | refine o1_add rfl rfl (by omega) ?_ | refine o1_lss_t rfl rfl (by omega) ?_ | refine o1_lss_f rfl rfl (by omega) ?_ | refine o1_lss rfl rfl (fun _ => ?_) (fun _ => ?_) | refine o1_gtr_t rfl rfl (by omega) ?_ | refine o1_gtr_f rfl rfl (by omega) ?_ | refine o1_gtr rfl rfl (fun _ => ?_) (fun _ => ?_) | refine o1_neq_t rfl rfl (by omega) ?_ | refine o1_neq_f rfl rfl (by omega) ?_ | refine o1_neq rfl rfl (fun _ => ?_) (fun _ => ?_) | refine o1_bnot rfl ?_ | refine o1_unot rfl ?_ | refine o1_conv_i rfl (by omega) ?_ | refine o1_conv_ui rfl (by exact bv_small (by decide) _) ?_ | refine o1_string rfl (by rfl) rx_row ?_ | refine o1_string rfl (by rfl) (rx_any (by assumption)) ?_ | refine o1_slice_nil rfl ?_ | refine o1_nilCheck rfl ?_)
    refine st_stages [(4, _), (0, _)] rtY8_4 [1] [⟨[0, 3, 4], [], some 1⟩, ⟨[2, 5], [3, 4], none⟩] mixed (cov_cons rfl rfl (cov_cons rfl rfl cov_nil)) (by kernel_rfl) (by kernel_rfl) ?_
    all_goals refine wk_ch ?_
    all_goals (refine xp1 4 rfl rfl rfl rfl (by refine o1_move rfl fz) ?_)
    all_goals (refine xp1 0 rfl rfl rfl rfl (by refine o1_move rfl fz) ?_)
    all_goals (refine xp1 108 rfl rfl rfl rfl (by first | refine o1_string (ad := a38) (c := c38) (xs := R) rfl rfl rx_row fz | refine o1_string (ad := ad) (c := c) (xs := bs) rfl rfl (rx_any hb1) fz | refine o1_string rfl (by rfl) rx_row fz | refine o1_string rfl (by rfl) (rx_any (by assumption)) fz) ?_)
    all_goals refine op_nil ?_
    all_goals refine re_nil ?_
    all_goals first | (refine ch_run (E' := [(105, _)]) rfl (gd_r0 rfl) rfl (cov_cons rfl rfl cov_nil) ?_; (first | (refine o1_call (fun hh => r1_MBytes _ b n z ao co ls j ML R (cl_box rfl) (cl_box rfl) (cl_box rfl) (hL.mono Gr.of) hls hRR h2 h4 hlk hR) rfl (fun ⟨a38, c38⟩ _ => ?_); (try dsimp only))))
    all_goals refine wk_end ?_
    all_goals (refine xp1 106 rfl rfl rfl rfl (by first | refine o1_string (ad := a38) (c := c38) (xs := R) rfl rfl rx_row fz | refine o1_string (ad := ad) (c := c) (xs := bs) rfl rfl (rx_any hb1) fz | refine o1_string rfl (by rfl) rx_row fz | refine o1_string rfl (by rfl) (rx_any (by assumption)) fz) ?_)
    all_goals (refine xp2 107 109 rfl rfl rfl rfl rfl (by first | refine o1_strneq_r (a := R) (b := bs) (r := true) rfl rfl (by simp [hne]) fz | refine o1_strneq_d rfl rfl fz) ?_)
    all_goals refine op_nil ?_
    all_goals (refine xq1 0 rfl rfl rfl rfl rfl (by refine o1_move rfl fz) ?_)
    all_goals (refine xq1 108 rfl rfl rfl rfl rfl (by first | refine o1_string (ad := a38) (c := c38) (xs := R) rfl rfl rx_row fz | refine o1_string (ad := ad) (c := c) (xs := bs) rfl rfl (rx_any hb1) fz | refine o1_string rfl (by rfl) rx_row fz | refine o1_string rfl (by rfl) (rx_any (by assumption)) fz) ?_)
    all_goals refine re_nil ?_
    all_goals dsimp only [List.cons_append, List.nil_append]
    repeat' (first | refine ls_of rfl ?_ | refine ls_of_no ?_ | refine ls_guard_yes rfl rfl ?_ | refine ls_guard_no rfl rfl rfl rfl ?_ | refine ls_guard_un rfl rfl rfl ?_ | refine o1_move rfl ?_ | refine o1_assign rfl ?_ | refine st_seq ?_ | refine st_region ?_ | refine st_block ?_ | refine st_skip ?_ | refine st_ret ?_ | refine st_exit ?_ | refine st_cond_t rfl ?_ | refine st_cond_f rfl ?_ | refine st_cond rfl (fun _ => ?_) (fun _ => ?_) | refine ls_nil ?_ | refine nx_seq ?_ | refine nx_blk ?_ | refine nx_fn ?_ | refine nx_rounds ?_ | refine xt_seq ?_ | refine xt_here ?_ | refine xt_on rfl ?_ | refine xt_rounds ?_ | refine xt_cut ?_ | refine rt_seq ?_ | refine rt_blk ?_ | refine rt_rounds ?_ | refine rt_cut ?_ | refine o1_pick_t rfl rfl ?_ | refine o1_pick_f rfl rfl ?_ | refine o1_extract rfl rfl ?_ | refine o1_fieldAddr rfl ?_ | refine ox_load rfl (by rfl) ?_ | refine ox_load_enc rfl (by first | omega | (simp; omega)) ?_ | refine ox_load_any rfl (by assumption) ?_ | refine o1_len rfl ?_ | refine o1_add rfl rfl (by omega) ?_ | refine o1_lss_t rfl rfl (by omega) ?_ | refine o1_lss_f rfl rfl (by omega) ?_ | refine o1_lss rfl rfl (fun _ => ?_) (fun _ => ?_) | refine o1_gtr_t rfl rfl (by omega) ?_ | refine o1_gtr_f rfl rfl (by omega) ?_ | refine o1_gtr rfl rfl (fun _ => ?_) (fun _ => ?_) | refine o1_neq_t rfl rfl (by omega) ?_ | refine o1_neq_f rfl rfl (by omega) ?_ | refine o1_neq rfl rfl (fun _ => ?_) (fun _ => ?_) | refine o1_bnot rfl ?_ | refine o1_unot rfl ?_ | refine o1_conv_i rfl (by omega) ?_ | refine o1_conv_ui rfl (by exact bv_small (by decide) _) ?_ | refine o1_string rfl (by rfl) rx_row ?_ | refine o1_string rfl (by rfl) (rx_any (by assumption)) ?_ | refine o1_slice_nil rfl ?_ | refine o1_nilCheck rfl ?_)
    refine rt_ent (fun h hh => gr_drop hg [] h (Ent.out (by (try dsimp only [List.cons_append, List.nil_append, List.singleton_append, List.append_nil]); (repeat (first | exact Ent.nil | exact Ent.refl _ | (apply Ent.cons; (repeat (first | exact Sel.here | apply Sel.there)))))) h hh)) ?_
    refine rt_tmp2 () rfl rfl rfl rfl trivial ?_
    (try dsimp only [List.cons_append, List.nil_append, List.singleton_append, List.append_nil]); (repeat (first | exact Ent.nil | exact Ent.refl _ | (apply Ent.cons; (repeat (first | exact Sel.here | apply Sel.there)))))
set_option maxHeartbeats 16000000 in
theorem elim_From_no (H : List Hl) (ad : Option Addr) (c : Nat) (bs : List (BitVec 8)) (hb : Rs (stars H) B ad c bs) (hbl : bs.length ≤ 100000) (hno : NoMat bs) (ht : TabF (stars H)) :
    Spec Tryd.prog 42 [.slice ad bs.length c] H (fun _ : Unit => True) (fun _ => .tuple #[.pointer none, .bool false]) (fun _ => H) := by
  refine spec_pure (res := fun _ => []) H Tryd.func42 rfl Tryd.ntmps42 (by kernel_rfl) rfl (fun W => ?_)
  have hle := hb.le
  have hbg := hb.big
  by_cases hl4 : bs.length < 4
  · repeat' (first | refine ls_of rfl ?_ | refine ls_of_no ?_ | refine ls_guard_yes rfl rfl ?_ | refine ls_guard_no rfl rfl rfl rfl ?_ | refine ls_guard_un rfl rfl rfl ?_ | refine o1_move rfl ?_ | refine o1_assign rfl ?_ | refine st_seq ?_ | refine st_region ?_ | refine st_block ?_ | refine st_skip ?_ | refine st_ret ?_ | refine st_exit ?_ | refine st_cond_t rfl ?_ | refine st_cond_f rfl ?_ | refine st_cond rfl (fun _ => ?_) (fun _ => ?_) | refine ls_nil ?_ | refine nx_seq ?_ | refine nx_blk ?_ | refine nx_fn ?_ | refine nx_rounds ?_ | refine xt_seq ?_ | refine xt_here ?_ | refine xt_on rfl ?_ | refine xt_rounds ?_ | refine xt_cut ?_ | refine rt_seq ?_ | refine rt_blk ?_ | refine rt_rounds ?_ | refine rt_cut ?_ | refine o1_pick_t rfl rfl ?_ | refine o1_pick_f rfl rfl ?_ | refine o1_extract rfl rfl ?_ | refine o1_fieldAddr rfl ?_ | refine ox_load rfl (by rfl) ?_ | refine ox_load_enc rfl (by first | omega | (simp; omega)) ?_ | refine ox_load_any rfl (by assumption) ?_ | refine o1_len rfl ?_ | refine o1_add rfl rfl (by omega) ?_ | refine o1_lss_t rfl rfl (by omega) ?_ | refine o1_lss_f rfl rfl (by omega) ?_ | refine o1_lss rfl rfl (fun _ => ?_) (fun _ => ?_) | refine o1_geq_t rfl rfl (by omega) ?_ | refine o1_geq_f rfl rfl (by omega) ?_ | refine o1_geq rfl rfl (fun _ => ?_) (fun _ => ?_) | refine o1_bnot rfl ?_ | refine o1_unot rfl ?_ | refine o1_conv_i rfl (by omega) ?_ | refine o1_conv_ui rfl (by exact bv_small (by decide) _) ?_ | refine o1_slice_nil rfl ?_ | refine o1_nilCheck rfl ?_)
    refine rt_tmp2 () rfl rfl rfl rfl trivial ?_
    (try dsimp only [List.cons_append, List.nil_append, List.singleton_append, List.append_nil]); (repeat (first | exact Ent.nil | exact Ent.refl _ | (apply Ent.cons; (repeat (first | exact Sel.here | apply Sel.there)))))
  obtain ⟨x0, g0⟩ : ∃ x0, bs[0]? = some x0 := ⟨_, List.getElem?_eq_getElem (by omega)⟩
  obtain ⟨x1, g1⟩ : ∃ x1, bs[1]? = some x1 := ⟨_, List.getElem?_eq_getElem (by omega)⟩
  obtain ⟨n, hn1⟩ : ∃ n : Nat, (x0.toNat : Int) + 1 = n := ⟨x0.toNat + 1, by push_cast; rfl⟩
  obtain ⟨z, hz1⟩ : ∃ z : Nat, (x1.toNat : Int) = z := ⟨_, rfl⟩
  have hx0 := x0.isLt
  have h1 : 1 ≤ n := by omega
  have h2 : n ≤ 256 := by omega
  by_cases hz : ¬ (1 ≤ z ∧ z ≤ 16)
  · repeat' (first | refine ls_of rfl ?_ | refine ls_of_no ?_ | refine ls_guard_yes rfl rfl ?_ | refine ls_guard_no rfl rfl rfl rfl ?_ | refine ls_guard_un rfl rfl rfl ?_ | refine o1_move rfl ?_ | refine o1_assign rfl ?_ | refine st_seq ?_ | refine st_region ?_ | refine st_block ?_ | refine st_skip ?_ | refine st_ret ?_ | refine st_exit ?_ | refine st_cond_t rfl ?_ | refine st_cond_f rfl ?_ | refine st_cond rfl (fun _ => ?_) (fun _ => ?_) | refine ls_nil ?_ | refine nx_seq ?_ | refine nx_blk ?_ | refine nx_fn ?_ | refine nx_rounds ?_ | refine xt_seq ?_ | refine xt_here ?_ | refine xt_on rfl ?_ | refine xt_rounds ?_ | refine xt_cut ?_ | refine rt_seq ?_ | refine rt_blk ?_ | refine rt_rounds ?_ | refine rt_cut ?_ | refine o1_pick_t rfl rfl ?_ | refine o1_pick_f rfl rfl ?_ | refine o1_extract rfl rfl ?_ | refine o1_fieldAddr rfl ?_ | refine ox_load rfl (by rfl) ?_ | refine ox_load_enc rfl (by first | omega | (simp; omega)) ?_ | refine ox_load_any rfl (by assumption) ?_ | refine o1_len rfl ?_ | refine o1_add rfl rfl (by omega) ?_ | refine o1_lss_t rfl rfl (by omega) ?_ | refine o1_lss_f rfl rfl (by omega) ?_ | refine o1_lss rfl rfl (fun _ => ?_) (fun _ => ?_) | refine o1_geq_t rfl rfl (by omega) ?_ | refine o1_geq_f rfl rfl (by omega) ?_ | refine o1_geq rfl rfl (fun _ => ?_) (fun _ => ?_) | refine o1_bnot rfl ?_ | refine o1_unot rfl ?_ | refine o1_conv_i rfl (by omega) ?_ | refine o1_conv_ui rfl (by exact bv_small (by decide) _) ?_ | refine o1_slice_nil rfl ?_ | refine o1_nilCheck rfl ?_)
    refine st_stages [(0, _)] rtY8_5 [9] [⟨[0, 1, 2, 3, 4, 5, 6, 7, 8], [], some 9⟩, ⟨[10], [], none⟩] mixed (cov_cons rfl rfl cov_nil) (by kernel_rfl) (by kernel_rfl) ?_
    all_goals refine wk_ch ?_
    all_goals (refine xp1 0 rfl rfl rfl rfl (by refine o1_move rfl fz) ?_)
    all_goals (refine xp1 12 rfl rfl rfl rfl (by first | refine o1_ia (ad := ad) (c := c) 0 rfl rfl hb rfl rfl (by omega) fz | refine o1_ia (ad := ad) (c := c) 1 rfl rfl hb rfl rfl (by omega) fz) ?_)
    all_goals (refine xp1 13 rfl rfl rfl rfl (by first | refine o1_load_av (ad := ad) (c := c) 0 _ rfl hb g0 fz | refine o1_load_av (ad := ad) (c := c) 1 _ rfl hb g1 fz | refine ox_load rfl (by rfl) fz | refine ox_load_enc rfl (by first | omega | (simp; omega)) fz | refine ox_load_any rfl (by assumption) fz) ?_)
    all_goals (refine xp1 14 rfl rfl rfl rfl (by first | ((refine o1_conv_i rfl (by omega) ?_; rw [hz1]); all_goals exact fz) | refine o1_conv_i rfl (by omega) fz | refine o1_conv_i rfl (by omega) fz | refine o1_conv_ui rfl (by exact bv_small (by decide) _) fz) ?_)
    all_goals (refine xp1 15 rfl rfl rfl rfl (by first | ((refine o1_add rfl rfl (by omega) ?_; rw [hn1]); all_goals exact fz) | refine o1_add rfl rfl (by omega) fz) ?_)
    all_goals (refine xp1 0 rfl rfl rfl rfl (by refine o1_move rfl fz) ?_)
    all_goals (refine xp1 17 rfl rfl rfl rfl (by first | refine o1_ia (ad := ad) (c := c) 0 rfl rfl hb rfl rfl (by omega) fz | refine o1_ia (ad := ad) (c := c) 1 rfl rfl hb rfl rfl (by omega) fz) ?_)
    all_goals (refine xp1 18 rfl rfl rfl rfl (by first | refine o1_load_av (ad := ad) (c := c) 0 _ rfl hb g0 fz | refine o1_load_av (ad := ad) (c := c) 1 _ rfl hb g1 fz | refine ox_load rfl (by rfl) fz | refine ox_load_enc rfl (by first | omega | (simp; omega)) fz | refine ox_load_any rfl (by assumption) fz) ?_)
    all_goals (refine xp1 19 rfl rfl rfl rfl (by first | ((refine o1_conv_i rfl (by omega) ?_; rw [hz1]); all_goals exact fz) | refine o1_conv_i rfl (by omega) fz | refine o1_conv_i rfl (by omega) fz | refine o1_conv_ui rfl (by exact bv_small (by decide) _) fz) ?_)
    all_goals refine op_nil ?_
    all_goals refine re_nil ?_
    all_goals first | (refine ch_run (E' := [(16, _), (20, _)]) rfl (gd_r0 rfl) rfl (cov_cons rfl rfl (cov_cons rfl rfl cov_nil)) ?_; (first | (refine o1_call (fun _ => elim_New_no _ n z (by omega)) rfl (fun _ _ => ?_))))
    all_goals refine wk_end ?_
    all_goals (refine xp1 21 rfl rfl rfl rfl (by refine o1_assign rfl fz) ?_)
    all_goals refine op_nil ?_
    all_goals refine re_nil ?_
    all_goals dsimp only [List.cons_append, List.nil_append]
    repeat' (first | refine ls_of rfl ?_ | refine ls_of_no ?_ | refine ls_guard_yes rfl rfl ?_ | refine ls_guard_no rfl rfl rfl rfl ?_ | refine ls_guard_un rfl rfl rfl ?_ | refine o1_move rfl ?_ | refine o1_assign rfl ?_ | refine st_seq ?_ | refine st_region ?_ | refine st_block ?_ | refine st_skip ?_ | refine st_ret ?_ | refine st_exit ?_ | refine st_cond_t rfl ?_ | refine st_cond_f rfl ?_ | refine st_cond rfl (fun _ => ?_) (fun _ => ?_) | refine ls_nil ?_ | refine nx_seq ?_ | refine nx_blk ?_ | refine nx_fn ?_ | refine nx_rounds ?_ | refine xt_seq ?_ | refine xt_here ?_ | refine xt_on rfl ?_ | refine xt_rounds ?_ | refine xt_cut ?_ | refine rt_seq ?_ | refine rt_blk ?_ | refine rt_rounds ?_ | refine rt_cut ?_ | refine o1_peql rfl rfl ?_ | refine o1_pick_t rfl rfl ?_ | refine o1_pick_f rfl rfl ?_ | refine o1_extract rfl rfl ?_ | refine o1_fieldAddr rfl ?_ | refine ox_load rfl (by rfl) ?_ | refine ox_load_enc rfl (by first | omega | (simp; omega)) ?_ | refine ox_load_any rfl (by assumption) ?_ | refine o1_len rfl ?_ | refine o1_add rfl rfl (by omega) ?_ | refine o1_lss_t rfl rfl (by omega) ?_ | refine o1_lss_f rfl rfl (by omega) ?_ | refine o1_lss rfl rfl (fun _ => ?_) (fun _ => ?_) | refine o1_geq_t rfl rfl (by omega) ?_ | refine o1_geq_f rfl rfl (by omega) ?_ | refine o1_geq rfl rfl (fun _ => ?_) (fun _ => ?_) | refine o1_bnot rfl ?_ | refine o1_unot rfl ?_ | refine o1_conv_i rfl (by omega) ?_ | refine o1_conv_ui rfl (by exact bv_small (by decide) _) ?_ | refine o1_slice_nil rfl ?_ | refine o1_nilCheck rfl ?_)
    refine rt_tmp2 () rfl rfl rfl rfl trivial ?_
    (try dsimp only [List.cons_append, List.nil_append, List.singleton_append, List.append_nil]); (repeat (first | exact Ent.nil | exact Ent.refl _ | (apply Ent.cons; (repeat (first | exact Sel.here | apply Sel.there)))))
  have h3 : 1 ≤ z := by omega
  have h4 : z ≤ 16 := by omega
  have hnb : nb n ≤ 32 := by unfold nb; omega
  have hq : ((n : Int) + 7) / 8 = (nb n : Nat) := by unfold nb; omega
  have hnz : (nb n : Int) + z = ((nb n + z : Nat) : Int) := by push_cast; rfl
  obtain ⟨r0, hd4⟩ : ∃ r0, bs.drop 4 = r0 := ⟨_, rfl⟩
  repeat' (first | refine ls_of rfl ?_ | refine ls_of_no ?_ | refine ls_guard_yes rfl rfl ?_ | refine ls_guard_no rfl rfl rfl rfl ?_ | refine ls_guard_un rfl rfl rfl ?_ | refine o1_move rfl ?_ | refine o1_assign rfl ?_ | refine st_seq ?_ | refine st_region ?_ | refine st_block ?_ | refine st_skip ?_ | refine st_ret ?_ | refine st_exit ?_ | refine st_cond_t rfl ?_ | refine st_cond_f rfl ?_ | refine st_cond rfl (fun _ => ?_) (fun _ => ?_) | refine ls_nil ?_ | refine nx_seq ?_ | refine nx_blk ?_ | refine nx_fn ?_ | refine nx_rounds ?_ | refine xt_seq ?_ | refine xt_here ?_ | refine xt_on rfl ?_ | refine xt_rounds ?_ | refine xt_cut ?_ | refine rt_seq ?_ | refine rt_blk ?_ | refine rt_rounds ?_ | refine rt_cut ?_ | refine o1_pick_t rfl rfl ?_ | refine o1_pick_f rfl rfl ?_ | refine o1_extract rfl rfl ?_ | refine o1_fieldAddr rfl ?_ | refine ox_load rfl (by rfl) ?_ | refine ox_load_enc rfl (by first | omega | (simp; omega)) ?_ | refine ox_load_any rfl (by assumption) ?_ | refine o1_len rfl ?_ | refine o1_add rfl rfl (by omega) ?_ | refine o1_lss_t rfl rfl (by omega) ?_ | refine o1_lss_f rfl rfl (by omega) ?_ | refine o1_lss rfl rfl (fun _ => ?_) (fun _ => ?_) | refine o1_geq_t rfl rfl (by omega) ?_ | refine o1_geq_f rfl rfl (by omega) ?_ | refine o1_geq rfl rfl (fun _ => ?_) (fun _ => ?_) | refine o1_bnot rfl ?_ | refine o1_unot rfl ?_ | refine o1_conv_i rfl (by omega) ?_ | refine o1_conv_ui rfl (by exact bv_small (by decide) _) ?_ | refine o1_slice_nil rfl ?_ | refine o1_nilCheck rfl ?_)
  refine st_stages [(0, _)] rtY8_6 [9] [⟨[0, 1, 2, 3, 4, 5, 6, 7, 8], [], some 9⟩, ⟨[10], [], none⟩] mixed (cov_cons rfl rfl cov_nil) (by kernel_rfl) (by kernel_rfl) ?_
  all_goals refine wk_ch ?_
  all_goals (refine xp1 0 rfl rfl rfl rfl (by refine o1_move rfl fz) ?_)
  all_goals (refine xp1 12 rfl rfl rfl rfl (by first | refine o1_ia (ad := ad) (c := c) 0 rfl rfl hb rfl rfl (by omega) fz | refine o1_ia (ad := ad) (c := c) 1 rfl rfl hb rfl rfl (by omega) fz) ?_)
  all_goals (refine xp1 13 rfl rfl rfl rfl (by first | refine o1_load_av (ad := ad) (c := c) 0 _ rfl hb g0 fz | refine o1_load_av (ad := ad) (c := c) 1 _ rfl hb g1 fz | refine ox_load rfl (by rfl) fz | refine ox_load_enc rfl (by first | omega | (simp; omega)) fz | refine ox_load_any rfl (by assumption) fz) ?_)
  all_goals (refine xp1 14 rfl rfl rfl rfl (by first | ((refine o1_conv_i rfl (by omega) ?_; rw [hz1]); all_goals exact fz) | refine o1_conv_i rfl (by omega) fz | refine o1_conv_i rfl (by omega) fz | refine o1_conv_ui rfl (by exact bv_small (by decide) _) fz) ?_)
  all_goals (refine xp1 15 rfl rfl rfl rfl (by first | ((refine o1_add rfl rfl (by omega) ?_; rw [hn1]); all_goals exact fz) | refine o1_add rfl rfl (by omega) fz) ?_)
  all_goals (refine xp1 0 rfl rfl rfl rfl (by refine o1_move rfl fz) ?_)
  all_goals (refine xp1 17 rfl rfl rfl rfl (by first | refine o1_ia (ad := ad) (c := c) 0 rfl rfl hb rfl rfl (by omega) fz | refine o1_ia (ad := ad) (c := c) 1 rfl rfl hb rfl rfl (by omega) fz) ?_)
  all_goals (refine xp1 18 rfl rfl rfl rfl (by first | refine o1_load_av (ad := ad) (c := c) 0 _ rfl hb g0 fz | refine o1_load_av (ad := ad) (c := c) 1 _ rfl hb g1 fz | refine ox_load rfl (by rfl) fz | refine ox_load_enc rfl (by first | omega | (simp; omega)) fz | refine ox_load_any rfl (by assumption) fz) ?_)
  all_goals (refine xp1 19 rfl rfl rfl rfl (by first | ((refine o1_conv_i rfl (by omega) ?_; rw [hz1]); all_goals exact fz) | refine o1_conv_i rfl (by omega) fz | refine o1_conv_i rfl (by omega) fz | refine o1_conv_ui rfl (by exact bv_small (by decide) _) fz) ?_)
  all_goals refine op_nil ?_
  all_goals refine re_nil ?_
  all_goals first | (refine ch_run (E' := [(16, _), (20, _)]) rfl (gd_r0 rfl) rfl (cov_cons rfl rfl (cov_cons rfl rfl cov_nil)) ?_; (first | (refine o1_call (fun _ => elim_New _ n z h1 h2 h3 h4) rfl (fun ⟨bm, ar, cr⟩ _ => ?_); dsimp only)))
  all_goals refine wk_end ?_
  all_goals (refine xp1 21 rfl rfl rfl rfl (by refine o1_assign rfl fz) ?_)
  all_goals refine op_nil ?_
  all_goals refine re_nil ?_
  all_goals dsimp only [List.cons_append, List.nil_append]
  repeat' (first | refine ls_of rfl ?_ | refine ls_of_no ?_ | refine ls_guard_yes rfl rfl ?_ | refine ls_guard_no rfl rfl rfl rfl ?_ | refine ls_guard_un rfl rfl rfl ?_ | refine o1_move rfl ?_ | refine o1_assign rfl ?_ | refine st_seq ?_ | refine st_region ?_ | refine st_block ?_ | refine st_skip ?_ | refine st_ret ?_ | refine st_exit ?_ | refine st_cond_t rfl ?_ | refine st_cond_f rfl ?_ | refine st_cond rfl (fun _ => ?_) (fun _ => ?_) | refine ls_nil ?_ | refine nx_seq ?_ | refine nx_blk ?_ | refine nx_fn ?_ | refine nx_rounds ?_ | refine xt_seq ?_ | refine xt_here ?_ | refine xt_on rfl ?_ | refine xt_rounds ?_ | refine xt_cut ?_ | refine rt_seq ?_ | refine rt_blk ?_ | refine rt_rounds ?_ | refine rt_cut ?_ | refine o1_peql rfl rfl ?_ | (refine o1_quo rfl rfl (by omega) ?_; rw [hq]) | (refine o1_cs_l (xs := bs) 4 rfl rfl rfl rfl (by omega) ?_; rw [hd4]) | refine o1_pick_t rfl rfl ?_ | refine o1_pick_f rfl rfl ?_ | refine o1_extract rfl rfl ?_ | refine o1_fieldAddr rfl ?_ | refine ox_load rfl (by rfl) ?_ | refine ox_load_enc rfl (by first | omega | (simp; omega)) ?_ | refine ox_load_any rfl (by assumption) ?_ | refine o1_len rfl ?_ | refine o1_add rfl rfl (by omega) ?_ | refine o1_lss_t rfl rfl (by omega) ?_ | refine o1_lss_f rfl rfl (by omega) ?_ | refine o1_lss rfl rfl (fun _ => ?_) (fun _ => ?_) | refine o1_geq_t rfl rfl (by omega) ?_ | refine o1_geq_f rfl rfl (by omega) ?_ | refine o1_geq rfl rfl (fun _ => ?_) (fun _ => ?_) | refine o1_bnot rfl ?_ | refine o1_unot rfl ?_ | refine o1_conv_i rfl (by omega) ?_ | refine o1_conv_ui rfl (by exact bv_small (by decide) _) ?_ | refine o1_slice_nil rfl ?_ | refine o1_nilCheck rfl ?_)
  have hk0 : MOk n z (List.replicate n none) := MOk.none h1 h2 h3 h4
  have hv0 : (List.replicate n none : List (Option RD)).map vw = List.replicate n none := by rw [List.map_replicate]; rfl
  have hR0 : RR n z ((List.replicate n none : List (Option RD)).map vw) := by rw [hv0]; exact RR_none
  have hc0 : cntS ((List.replicate n none : List (Option RD)).map vw) = 0 := by rw [hv0]; exact cntS_none _
  have hr0 : Rs (stars H) B (cutA ad c 4) (c - 4) r0 := by have := hb.cutl 4 (by omega); rw [hd4] at this; exact this
  refine st_loop (S := Option Addr × Nat × List (BitVec 8) × List (Option RD)) (fun q => [(0, .slice ad bs.length c), (4, .pointer (some ⟨bm, 0, none⟩)), (5, I (nb n)), (6, .slice q.1 q.2.2.1.length q.2.1)])
    (fun q => [mB bm n z ar cr (cntS (q.2.2.2.map vw)), mR n ar cr q.2.2.2, .any (mrows q.2.2.2), .any (stars H)])
    (fun q => Rs (stars H) B q.1 q.2.1 q.2.2.1 ∧ RR n z (q.2.2.2.map vw) ∧ MOk n z q.2.2.2) (fun q => q.2.2.1.length) (cutA ad c 4, c - 4, r0, List.replicate n none) ⟨hr0, hR0, hk0⟩
    (cov_cons rfl rfl (cov_cons rfl rfl (cov_cons rfl rfl (cov_cons rfl rfl cov_nil)))) (by show Ent _ [mB bm n z ar cr (cntS ((List.replicate n none : List (Option RD)).map vw)), mR n ar cr (List.replicate n none), .any (mrows (List.replicate n none)), .any (stars H)]; rw [hc0]; (try dsimp only [List.cons_append, List.nil_append, List.singleton_append, List.append_nil]); (repeat (first | exact Ent.nil | exact Ent.refl _ | (apply Ent.cons; (repeat (first | exact Sel.here | apply Sel.there)))))) ?_
  rintro ⟨aa, ca, rs, M⟩ ⟨hrs, hRR, hMk⟩
  dsimp only at hrs hRR hMk ⊢
  obtain ⟨ML, hML⟩ : ∃ ML, M.map vw = ML := ⟨_, rfl⟩
  rw [hML] at hRR ⊢
  obtain ⟨k, hk⟩ : ∃ k, cntS ML = k := ⟨_, rfl⟩
  have hkn : k ≤ n := by
    have h1 := cntS_le ML
    have h2 := hRR.lok.len
    omega
  rw [hk]
  have hrl := hrs.le
  have hrb := hrs.big
  by_cases hlt : rs.length < nb n + z
  · obtain ⟨R, hR⟩ : ∃ R, matB n z k ML = R := ⟨_, rfl⟩
    have hne : R ≠ bs := by
      rw [← hR, ← hk]
      exact hno n z ML h1 h2 h3 h4 hRR
    repeat' (first | refine ls_of rfl ?_ | refine ls_of_no ?_ | refine ls_guard_yes rfl rfl ?_ | refine ls_guard_no rfl rfl rfl rfl ?_ | refine ls_guard_un rfl rfl rfl ?_ | refine o1_move rfl ?_ | refine o1_assign rfl ?_ | refine st_seq ?_ | refine st_region ?_ | refine st_block ?_ | refine st_skip ?_ | refine st_ret ?_ | refine st_exit ?_ | refine st_cond_t rfl ?_ | refine st_cond_f rfl ?_ | refine st_cond rfl (fun _ => ?_) (fun _ => ?_) | refine ls_nil ?_ | refine nx_seq ?_ | refine nx_blk ?_ | refine nx_fn ?_ | refine nx_rounds ?_ | refine xt_seq ?_ | refine xt_here ?_ | refine xt_on rfl ?_ | refine xt_rounds ?_ | refine xt_cut ?_ | refine rt_seq ?_ | refine rt_blk ?_ | refine rt_rounds ?_ | refine rt_cut ?_ | (refine o1_add rfl rfl (by omega) ?_; rw [hnz]) | refine o1_geq_f rfl rfl (by omega) ?_ | (refine o1_call (fun hh => elim_Bytes _ bm n z ar cr k M ML R (RdM.own hMk hh) hML hR (by omega)) rfl (fun ⟨a78, c78⟩ _ => ?_); dsimp only) | refine o1_call (fun hh => (slices_Equal _ a78 ad c78 c R bs (rx_row hh) hb.up).bv (b := false) (by simp [hne])) rfl (fun _ _ => ?_) | refine o1_pick_t rfl rfl ?_ | refine o1_pick_f rfl rfl ?_ | refine o1_extract rfl rfl ?_ | refine o1_fieldAddr rfl ?_ | refine ox_load rfl (by rfl) ?_ | refine ox_load_enc rfl (by first | omega | (simp; omega)) ?_ | refine ox_load_any rfl (by assumption) ?_ | refine o1_len rfl ?_ | refine o1_add rfl rfl (by omega) ?_ | refine o1_lss_t rfl rfl (by omega) ?_ | refine o1_lss_f rfl rfl (by omega) ?_ | refine o1_lss rfl rfl (fun _ => ?_) (fun _ => ?_) | refine o1_geq_t rfl rfl (by omega) ?_ | refine o1_geq_f rfl rfl (by omega) ?_ | refine o1_geq rfl rfl (fun _ => ?_) (fun _ => ?_) | refine o1_bnot rfl ?_ | refine o1_unot rfl ?_ | refine o1_conv_i rfl (by omega) ?_ | refine o1_conv_ui rfl (by exact bv_small (by decide) _) ?_ | refine o1_slice_nil rfl ?_ | refine o1_nilCheck rfl ?_)
    refine rt_tmp2 () rfl rfl rfl rfl trivial ?_
    (try dsimp only [List.cons_append, List.nil_append, List.singleton_append, List.append_nil]); (repeat (first | exact Ent.nil | exact Ent.refl _ | (apply Ent.cons; (repeat (first | exact Sel.here | apply Sel.there)))))
  · obtain ⟨raw, t1⟩ : ∃ raw, rs.take (nb n) = raw := ⟨_, rfl⟩
    obtain ⟨yd, t2⟩ : ∃ yd, (rs.take (nb n + z)).drop (nb n) = yd := ⟨_, rfl⟩
    obtain ⟨tl, t3⟩ : ∃ tl, rs.drop (nb n + z) = tl := ⟨_, rfl⟩
    have hrawl : raw.length = nb n := by rw [← t1]; simp; omega
    have y2 : yd.length = z := by rw [← t2]; simp; omega
    have htl : tl.length = rs.length - (nb n + z) := by rw [← t3, List.length_drop]
    have f1 : Rs (stars H) B (cutA aa ca 0) (ca - 0) raw := by have := hrs.cuth (nb n) (by omega); rw [t1] at this; exact this
    have f2 : Rs (stars H) B (cutA aa ca (nb n)) (ca - nb n) yd := by have := hrs.cutv (nb n) (nb n + z) (by omega) (by omega); rw [t2] at this; exact this
    have f3 : Rs (stars H) B (cutA aa ca (nb n + z)) (ca - (nb n + z)) tl := by have := hrs.cutl (nb n + z) (by omega); rw [t3] at this; exact this
    repeat' (first | refine ls_of rfl ?_ | refine ls_of_no ?_ | refine ls_guard_yes rfl rfl ?_ | refine ls_guard_no rfl rfl rfl rfl ?_ | refine ls_guard_un rfl rfl rfl ?_ | refine o1_move rfl ?_ | refine o1_assign rfl ?_ | refine st_seq ?_ | refine st_region ?_ | refine st_block ?_ | refine st_skip ?_ | refine st_ret ?_ | refine st_exit ?_ | refine st_cond_t rfl ?_ | refine st_cond_f rfl ?_ | refine st_cond rfl (fun _ => ?_) (fun _ => ?_) | refine ls_nil ?_ | refine nx_seq ?_ | refine nx_blk ?_ | refine nx_fn ?_ | refine nx_rounds ?_ | refine xt_seq ?_ | refine xt_here ?_ | refine xt_on rfl ?_ | refine xt_rounds ?_ | refine xt_cut ?_ | refine rt_seq ?_ | refine rt_blk ?_ | refine rt_rounds ?_ | refine rt_cut ?_ | (refine o1_add rfl rfl (by omega) ?_; rw [hnz]) | refine o1_geq_t rfl rfl (by omega) ?_ | refine o1_pick_t rfl rfl ?_ | refine o1_pick_f rfl rfl ?_ | refine o1_extract rfl rfl ?_ | refine o1_fieldAddr rfl ?_ | refine ox_load rfl (by rfl) ?_ | refine ox_load_enc rfl (by first | omega | (simp; omega)) ?_ | refine ox_load_any rfl (by assumption) ?_ | refine o1_len rfl ?_ | refine o1_add rfl rfl (by omega) ?_ | refine o1_lss_t rfl rfl (by omega) ?_ | refine o1_lss_f rfl rfl (by omega) ?_ | refine o1_lss rfl rfl (fun _ => ?_) (fun _ => ?_) | refine o1_geq_t rfl rfl (by omega) ?_ | refine o1_geq_f rfl rfl (by omega) ?_ | refine o1_geq rfl rfl (fun _ => ?_) (fun _ => ?_) | refine o1_bnot rfl ?_ | refine o1_unot rfl ?_ | refine o1_conv_i rfl (by omega) ?_ | refine o1_conv_ui rfl (by exact bv_small (by decide) _) ?_ | refine o1_slice_nil rfl ?_ | refine o1_nilCheck rfl ?_)
    by_cases hbad : ∃ i0, n ≤ i0 ∧ i0 < 8 * nb n ∧ rbit raw i0 = true
    · obtain ⟨i0, w1, w2, w3⟩ := hbad
      refine st_stages [(4, _), (6, _), (5, _)] rtY8_7 [7] [⟨[0, 1, 2, 3, 4, 5, 6], [], some 7⟩, ⟨[8, 9, 10, 11, 12], [], none⟩] mixed (cov_cons rfl rfl (cov_cons rfl rfl (cov_cons rfl rfl cov_nil))) (by kernel_rfl) (by kernel_rfl) ?_
      all_goals refine wk_ch ?_
      all_goals (refine xp1 4 rfl rfl rfl rfl (by refine o1_move rfl fz) ?_)
      all_goals (refine xp1 50 rfl rfl rfl rfl (by refine o1_nilCheck rfl fz) ?_)
      all_goals (refine xp1 51 rfl rfl rfl rfl (by refine o1_fieldAddr rfl fz) ?_)
      all_goals (refine xp1 52 rfl rfl rfl rfl (by first | refine ox_load rfl (by rfl) fz | refine ox_load_enc rfl (by first | omega | (simp; omega)) fz | refine ox_load_any rfl (by assumption) fz) ?_)
      all_goals (refine xp1 6 rfl rfl rfl rfl (by refine o1_move rfl fz) ?_)
      all_goals (refine xp1 5 rfl rfl rfl rfl (by refine o1_move rfl fz) ?_)
      all_goals (refine xp2 54 55 rfl rfl rfl rfl rfl (by ((refine o1_cs_h (xs := rs) (nb n) rfl rfl rfl rfl (by omega) (by omega) ?_; rw [t1]); all_goals exact fz)) ?_)
      all_goals refine op_nil ?_
      all_goals refine re_nil ?_
      all_goals first | (refine ch_run (E' := [(53, _), (56, _)]) rfl (gd_r0 rfl) rfl (cov_cons rfl rfl (cov_cons rfl rfl cov_nil)) ?_; (first | (refine o1_call (fun _ => vec_From_bad _ n (cutA aa ca 0) raw.length (ca - 0) raw h2 (Rs.up f1) rfl hrawl i0 w1 w2 w3) rfl (fun _ _ => ?_); (try dsimp only))))
      all_goals refine wk_end ?_
      all_goals (refine xp1 57 rfl rfl rfl rfl (by refine o1_move rfl fz) ?_)
      all_goals (refine xp1 49 rfl rfl rfl rfl (by refine o1_extract rfl rfl fz) ?_)
      all_goals (refine xp1 49 rfl rfl rfl rfl (by refine o1_extract rfl rfl fz) ?_)
      all_goals (refine xp1 58 rfl rfl rfl rfl (by refine o1_assign rfl fz) ?_)
      all_goals (refine xp1 59 rfl rfl rfl rfl (by refine o1_assign rfl fz) ?_)
      all_goals refine op_nil ?_
      all_goals refine re_nil ?_
      all_goals dsimp only [List.cons_append, List.nil_append]
      repeat' (first | refine ls_of rfl ?_ | refine ls_of_no ?_ | refine ls_guard_yes rfl rfl ?_ | refine ls_guard_no rfl rfl rfl rfl ?_ | refine ls_guard_un rfl rfl rfl ?_ | refine o1_move rfl ?_ | refine o1_assign rfl ?_ | refine st_seq ?_ | refine st_region ?_ | refine st_block ?_ | refine st_skip ?_ | refine st_ret ?_ | refine st_exit ?_ | refine st_cond_t rfl ?_ | refine st_cond_f rfl ?_ | refine st_cond rfl (fun _ => ?_) (fun _ => ?_) | refine ls_nil ?_ | refine nx_seq ?_ | refine nx_blk ?_ | refine nx_fn ?_ | refine nx_rounds ?_ | refine xt_seq ?_ | refine xt_here ?_ | refine xt_on rfl ?_ | refine xt_rounds ?_ | refine xt_cut ?_ | refine rt_seq ?_ | refine rt_blk ?_ | refine rt_rounds ?_ | refine rt_cut ?_ | refine o1_pick_t rfl rfl ?_ | refine o1_pick_f rfl rfl ?_ | refine o1_extract rfl rfl ?_ | refine o1_fieldAddr rfl ?_ | refine ox_load rfl (by rfl) ?_ | refine ox_load_enc rfl (by first | omega | (simp; omega)) ?_ | refine ox_load_any rfl (by assumption) ?_ | refine o1_len rfl ?_ | refine o1_add rfl rfl (by omega) ?_ | refine o1_lss_t rfl rfl (by omega) ?_ | refine o1_lss_f rfl rfl (by omega) ?_ | refine o1_lss rfl rfl (fun _ => ?_) (fun _ => ?_) | refine o1_geq_t rfl rfl (by omega) ?_ | refine o1_geq_f rfl rfl (by omega) ?_ | refine o1_geq rfl rfl (fun _ => ?_) (fun _ => ?_) | refine o1_bnot rfl ?_ | refine o1_unot rfl ?_ | refine o1_conv_i rfl (by omega) ?_ | refine o1_conv_ui rfl (by exact bv_small (by decide) _) ?_ | refine o1_slice_nil rfl ?_ | refine o1_nilCheck rfl ?_)
      refine rt_tmp2 () rfl rfl rfl rfl trivial ?_
      (try dsimp only [List.cons_append, List.nil_append, List.singleton_append, List.append_nil]); (repeat (first | exact Ent.nil | exact Ent.refl _ | (apply Ent.cons; (repeat (first | exact Sel.here | apply Sel.there)))))
    · have hok : ∀ i, n ≤ i → i < 8 * nb n → rbit raw i = false := fun i w1 w2 => by
        cases hq : rbit raw i with
        | false => rfl
        | true => exact absurd ⟨i, w1, w2, hq⟩ hbad
      obtain ⟨yb, hmask⟩ : ∃ yb, maskV n (rbit raw) n = yb := ⟨_, rfl⟩
      have y1 : yb.length = n := by rw [← hmask, maskV_len]
      refine st_stages [(4, _), (6, _), (5, _)] rtY8_8 [7] [⟨[0, 1, 2, 3, 4, 5, 6], [], some 7⟩, ⟨[8, 9, 10, 11, 12], [], none⟩] mixed (cov_cons rfl rfl (cov_cons rfl rfl (cov_cons rfl rfl cov_nil))) (by kernel_rfl) (by kernel_rfl) ?_
      all_goals refine wk_ch ?_
      all_goals (refine xp1 4 rfl rfl rfl rfl (by refine o1_move rfl fz) ?_)
      all_goals (refine xp1 50 rfl rfl rfl rfl (by refine o1_nilCheck rfl fz) ?_)
      all_goals (refine xp1 51 rfl rfl rfl rfl (by refine o1_fieldAddr rfl fz) ?_)
      all_goals (refine xp1 52 rfl rfl rfl rfl (by first | refine ox_load rfl (by rfl) fz | refine ox_load_enc rfl (by first | omega | (simp; omega)) fz | refine ox_load_any rfl (by assumption) fz) ?_)
      all_goals (refine xp1 6 rfl rfl rfl rfl (by refine o1_move rfl fz) ?_)
      all_goals (refine xp1 5 rfl rfl rfl rfl (by refine o1_move rfl fz) ?_)
      all_goals (refine xp2 54 55 rfl rfl rfl rfl rfl (by ((refine o1_cs_h (xs := rs) (nb n) rfl rfl rfl rfl (by omega) (by omega) ?_; rw [t1]); all_goals exact fz)) ?_)
      all_goals refine op_nil ?_
      all_goals refine re_nil ?_
      all_goals first | (refine ch_run (E' := [(53, _), (56, _)]) rfl (gd_r0 rfl) rfl (cov_cons rfl rfl (cov_cons rfl rfl cov_nil)) ?_; (first | (refine o1_call (fun _ => vec_From_ok _ n (cutA aa ca 0) raw.length (ca - 0) raw h2 (Rs.up f1) rfl hrawl hok) rfl (fun ⟨b57, a57, c57⟩ _ => ?_); (try dsimp only); rw [hmask])))
      all_goals refine wk_end ?_
      all_goals (refine xp1 57 rfl rfl rfl rfl (by refine o1_move rfl fz) ?_)
      all_goals (refine xp1 49 rfl rfl rfl rfl (by refine o1_extract rfl rfl fz) ?_)
      all_goals (refine xp1 49 rfl rfl rfl rfl (by refine o1_extract rfl rfl fz) ?_)
      all_goals (refine xp1 58 rfl rfl rfl rfl (by refine o1_assign rfl fz) ?_)
      all_goals (refine xp1 59 rfl rfl rfl rfl (by refine o1_assign rfl fz) ?_)
      all_goals refine op_nil ?_
      all_goals refine re_nil ?_
      all_goals dsimp only [List.cons_append, List.nil_append]
      rcases add_cases hRR (v := (yb, yd)) y1 y2 with hold | ⟨a, ha, hfree, hRR2, hcnt⟩
      · repeat' (first | refine ls_of rfl ?_ | refine ls_of_no ?_ | refine ls_guard_yes rfl rfl ?_ | refine ls_guard_no rfl rfl rfl rfl ?_ | refine ls_guard_un rfl rfl rfl ?_ | refine o1_move rfl ?_ | refine o1_assign rfl ?_ | refine st_seq ?_ | refine st_region ?_ | refine st_block ?_ | refine st_skip ?_ | refine st_ret ?_ | refine st_exit ?_ | refine st_cond_t rfl ?_ | refine st_cond_f rfl ?_ | refine st_cond rfl (fun _ => ?_) (fun _ => ?_) | refine ls_nil ?_ | refine nx_seq ?_ | refine nx_blk ?_ | refine nx_fn ?_ | refine nx_rounds ?_ | refine xt_seq ?_ | refine xt_here ?_ | refine xt_on rfl ?_ | refine xt_rounds ?_ | refine xt_cut ?_ | refine rt_seq ?_ | refine rt_blk ?_ | refine rt_rounds ?_ | refine rt_cut ?_ | (refine o1_add rfl rfl (by omega) ?_; rw [hnz]) | (refine o1_cs_lh (xs := rs) (nb n) (nb n + z) rfl rfl rfl rfl rfl rfl (by omega) (by omega) (by omega) ?_; rw [t2]) | refine o1_call (fun hh => elim_Add_old _ bm n z ar cr k M ⟨b57, n, a57, c57, yb⟩ (cutA aa ca (nb n)) yd.length (ca - nb n) yd ML (red ML (yb, yd)) (RdM.own hMk hh) hML (RdV.own y1 h2 hh) rfl (Rs.up f2) rfl y2 rfl hold (TabF.up ht)) rfl (fun _ _ => ?_) | refine o1_pick_t rfl rfl ?_ | refine o1_pick_f rfl rfl ?_ | refine o1_extract rfl rfl ?_ | refine o1_fieldAddr rfl ?_ | refine ox_load rfl (by rfl) ?_ | refine ox_load_enc rfl (by first | omega | (simp; omega)) ?_ | refine ox_load_any rfl (by assumption) ?_ | refine o1_len rfl ?_ | refine o1_add rfl rfl (by omega) ?_ | refine o1_lss_t rfl rfl (by omega) ?_ | refine o1_lss_f rfl rfl (by omega) ?_ | refine o1_lss rfl rfl (fun _ => ?_) (fun _ => ?_) | refine o1_geq_t rfl rfl (by omega) ?_ | refine o1_geq_f rfl rfl (by omega) ?_ | refine o1_geq rfl rfl (fun _ => ?_) (fun _ => ?_) | refine o1_bnot rfl ?_ | refine o1_unot rfl ?_ | refine o1_conv_i rfl (by omega) ?_ | refine o1_conv_ui rfl (by exact bv_small (by decide) _) ?_ | refine o1_slice_nil rfl ?_ | refine o1_nilCheck rfl ?_)
        refine rt_tmp2 () rfl rfl rfl rfl trivial ?_
        (try dsimp only [List.cons_append, List.nil_append, List.singleton_append, List.append_nil]); (repeat (first | exact Ent.nil | exact Ent.refl _ | (apply Ent.cons; (repeat (first | exact Sel.here | apply Sel.there)))))
      · obtain ⟨x, hx⟩ : ∃ x, red ML (yb, yd) = x := ⟨_, rfl⟩
        obtain ⟨ML2, hML2⟩ : ∃ ML2, addM ML a x = ML2 := ⟨_, rfl⟩
        rw [hx] at ha
        rw [hx, hML2] at hRR2 hcnt
        rw [hk] at hcnt
        repeat' (first | refine ls_of rfl ?_ | refine ls_of_no ?_ | refine ls_guard_yes rfl rfl ?_ | refine ls_guard_no rfl rfl rfl rfl ?_ | refine ls_guard_un rfl rfl rfl ?_ | refine o1_move rfl ?_ | refine o1_assign rfl ?_ | refine st_seq ?_ | refine st_region ?_ | refine st_block ?_ | refine st_skip ?_ | refine st_ret ?_ | refine st_exit ?_ | refine st_cond_t rfl ?_ | refine st_cond_f rfl ?_ | refine st_cond rfl (fun _ => ?_) (fun _ => ?_) | refine ls_nil ?_ | refine nx_seq ?_ | refine nx_blk ?_ | refine nx_fn ?_ | refine nx_rounds ?_ | refine xt_seq ?_ | refine xt_here ?_ | refine xt_on rfl ?_ | refine xt_rounds ?_ | refine xt_cut ?_ | refine rt_seq ?_ | refine rt_blk ?_ | refine rt_rounds ?_ | refine rt_cut ?_ | (refine o1_add rfl rfl (by omega) ?_; rw [hnz]) | (refine o1_cs_lh (xs := rs) (nb n) (nb n + z) rfl rfl rfl rfl rfl rfl (by omega) (by omega) (by omega) ?_; rw [t2]) | (refine o1_call_bra bm ar cr (mrows M) (fun hh => elim_Add _ bm n z ar cr k M ⟨b57, n, a57, c57, yb⟩ (cutA aa ca (nb n)) yd.length (ca - nb n) yd ML x a hMk hML (RdV.own y1 h2 (has_tail (has_tail (has_tail hh)))) rfl (Rs.up f2) rfl y2 hx ha hfree (by omega) (TabF.up ht)) rfl (fun M2 hM2 => ?_); rw [hML2] at hM2) | (refine o1_cs_l (xs := rs) (nb n + z) rfl rfl rfl rfl (by omega) ?_; rw [t3]) | refine o1_pick_t rfl rfl ?_ | refine o1_pick_f rfl rfl ?_ | refine o1_extract rfl rfl ?_ | refine o1_fieldAddr rfl ?_ | refine ox_load rfl (by rfl) ?_ | refine ox_load_enc rfl (by first | omega | (simp; omega)) ?_ | refine ox_load_any rfl (by assumption) ?_ | refine o1_len rfl ?_ | refine o1_add rfl rfl (by omega) ?_ | refine o1_lss_t rfl rfl (by omega) ?_ | refine o1_lss_f rfl rfl (by omega) ?_ | refine o1_lss rfl rfl (fun _ => ?_) (fun _ => ?_) | refine o1_geq_t rfl rfl (by omega) ?_ | refine o1_geq_f rfl rfl (by omega) ?_ | refine o1_geq rfl rfl (fun _ => ?_) (fun _ => ?_) | refine o1_bnot rfl ?_ | refine o1_unot rfl ?_ | refine o1_conv_i rfl (by omega) ?_ | refine o1_conv_ui rfl (by exact bv_small (by decide) _) ?_ | refine o1_slice_nil rfl ?_ | refine o1_nilCheck rfl ?_)
        refine nx_again (cutA aa ca (nb n + z), ca - (nb n + z), tl, M2) ⟨f3, ?_, hM2.2⟩ ?_ (cov_cons rfl rfl (cov_cons rfl rfl (cov_cons rfl rfl (cov_cons rfl rfl cov_nil)))) ?_
        · show RR n z (M2.map vw); rw [hM2.1]; exact hRR2
        · show tl.length < rs.length; omega
        · show Ent _ [mB bm n z ar cr (cntS (M2.map vw)), mR n ar cr M2, .any (mrows M2), .any (stars H)]
          rw [hM2.1, hcnt]
          (try dsimp only [List.cons_append, List.nil_append, List.singleton_append, List.append_nil]); (repeat (first | exact Ent.nil | exact Ent.refl _ | (apply Ent.cons; (repeat (first | exact Sel.here | apply Sel.there)))))
end Go.Dp
