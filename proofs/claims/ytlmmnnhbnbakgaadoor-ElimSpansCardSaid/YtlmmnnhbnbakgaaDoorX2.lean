/-
  elim.Bytes and From, walked.
  Conditions: those that stand in each theorem.
-/
import Derived.Test.YtlmmnnhbnbakgaaDoorX1
import Derived.Test.YtlmmnnhbnbakgaaDoorW4
import Derived.Test.YtlmmnnhbnbakgaaDoorT2
set_option linter.unusedVariables false
set_option linter.unusedSimpArgs false
namespace Go.Dp
open Go.RowKit Go.Proofs
def rtX2_0 : List Row := [⟨some 11, [], [], none⟩, ⟨some 12, [0], [0], none⟩, ⟨some 13, [1], [0, 1], none⟩, ⟨some 14, [2], [0, 1, 2], none⟩, ⟨some 15, [3], [0, 1, 2, 3], none⟩, ⟨some 16, [4], [0, 1, 2, 3, 4], none⟩, ⟨some 17, [], [], none⟩, ⟨some 18, [6], [6], none⟩, ⟨some 19, [7], [6, 7], none⟩, ⟨some 20, [8], [6, 7, 8], none⟩, ⟨some 21, [9], [6, 7, 8, 9], none⟩, ⟨some 22, [], [], none⟩, ⟨some 23, [11], [11], none⟩, ⟨some 24, [12], [11, 12], none⟩, ⟨some 25, [], [], none⟩, ⟨some 26, [14], [14], none⟩, ⟨some 27, [5, 10, 13, 15], [0, 1, 2, 3, 4, 5, 6, 7, 8, 9, 10, 11, 12, 13, 14, 15], none⟩, ⟨some 4, [16, 0, 1, 2, 3, 4, 5, 6, 7, 8, 9, 10, 11, 12, 13, 14, 15, 16], [0, 1, 2, 3, 4, 5, 6, 7, 8, 9, 10, 11, 12, 13, 14, 15, 16], none⟩]
def rtX2_1 : List Row := [⟨some 39, [], [], none⟩, ⟨some 40, [], [], none⟩, ⟨some 41, [1], [1], none⟩, ⟨some 42, [2], [1, 2], none⟩, ⟨some 43, [3], [1, 2, 3], none⟩, ⟨some 44, [4], [1, 2, 3, 4], none⟩, ⟨some 45, [0, 5, 5], [0, 1, 2, 3, 4, 5], none⟩, ⟨some 46, [], [], none⟩, ⟨some 47, [7], [7], none⟩, ⟨some 48, [8], [7, 8], none⟩, ⟨some 49, [9], [7, 8, 9], none⟩, ⟨some 50, [6, 10, 6], [0, 1, 2, 3, 4, 5, 6, 7, 8, 9, 10], none⟩, ⟨some 4, [11, 11, 0, 1, 2, 3, 4, 5, 6, 7, 8, 9, 10, 11], [0, 1, 2, 3, 4, 5, 6, 7, 8, 9, 10, 11], none⟩]
def rtX2_2 : List Row := [⟨some 12, [], [], none⟩, ⟨some 13, [0], [0], none⟩, ⟨some 14, [1], [0, 1], none⟩, ⟨some 15, [2], [0, 1, 2], none⟩, ⟨some 16, [3], [0, 1, 2, 3], none⟩, ⟨some 17, [], [], none⟩, ⟨some 18, [5], [5], none⟩, ⟨some 19, [6], [5, 6], none⟩, ⟨some 20, [7], [5, 6, 7], none⟩, ⟨some 21, [4, 8], [0, 1, 2, 3, 4, 5, 6, 7, 8], none⟩, ⟨some 4, [9, 9, 0, 1, 2, 3, 4, 5, 6, 7, 8, 9], [0, 1, 2, 3, 4, 5, 6, 7, 8, 9], none⟩]
def rtX2_3 : List Row := [⟨some 50, [], [], none⟩, ⟨some 51, [0], [0], none⟩, ⟨some 52, [1], [0, 1], none⟩, ⟨some 53, [2], [0, 1, 2], none⟩, ⟨some 54, [], [], none⟩, ⟨some 55, [], [], none⟩, ⟨some 56, [4, 5], [4, 5], none⟩, ⟨some 57, [3, 6], [0, 1, 2, 3, 4, 5, 6], none⟩, ⟨some 49, [7], [0, 1, 2, 3, 4, 5, 6, 7], none⟩, ⟨some 58, [8], [0, 1, 2, 3, 4, 5, 6, 7, 8], none⟩, ⟨some 59, [8], [0, 1, 2, 3, 4, 5, 6, 7, 8], none⟩, ⟨some 7, [9, 7, 0, 1, 2, 3, 4, 5, 6, 7, 8, 9], [0, 1, 2, 3, 4, 5, 6, 7, 8, 9], none⟩, ⟨some 8, [10, 11, 0, 1, 2, 3, 4, 5, 6, 7, 8, 9, 10, 11], [0, 1, 2, 3, 4, 5, 6, 7, 8, 9, 10, 11], none⟩]
theorem rowsB_take {M : List (Option LN)} {i : Nat} (hi : i < M.length) : rowsB (M.take (i + 1)) = rowsB (M.take i) ++ lineB M[i] := by
  unfold rowsB
  rw [List.take_succ_eq_append_getElem hi, List.flatMap_append, List.flatMap_singleton]
set_option maxHeartbeats 4000000 in
theorem elim_Bytes (H : List Hl) (bm n z : Nat) (ar : Option Addr) (cr k : Nat) (M : List (Option RD)) (ML : List (Option LN)) (R : List (BitVec 8)) (hM : RdM (stars H) bm n z ar cr k M) (hML : M.map vw = ML) (hR : matB n z k ML = R) (hk : k ≤ 1000) :
    Spec Tryd.prog 41 [.pointer (some ⟨bm, 0, none⟩)] H (fun _ : Option Addr × Nat => True) (fun r => .slice r.1 R.length r.2) (fun r => .row 5 1 (.slice r.1 R.length r.2) R.length (R.map B) :: H) := by
  refine spec_pure (res := fun r : Option Addr × Nat => [.row 5 1 (.slice r.1 R.length r.2) R.length (R.map B)]) H Tryd.func41 rfl Tryd.ntmps41 (by kernel_rfl) rfl (fun W => ?_)
  obtain ⟨l1, l2, l3, l4, l5, l6⟩ := hM.ok
  have m1 := hM.fn
  have m2 := hM.fz
  have m3 := hM.fs
  have hMLl : ML.length = n := by rw [← hML, List.length_map, l1]
  have hlok := hM.ok.vw
  rw [hML] at hlok
  have hnb : nb n ≤ 32 := by unfold nb; omega
  have hrl : ∀ i, i ≤ n → (headB n z k ++ rowsB (ML.take i)).length ≤ 4 + i * 48 := fun i hi => by
    have h1 := rowsB_len (n := n) (z := z) (M := ML.take i) (fun y hy => hlok.ok y (List.mem_of_mem_take hy))
    have h2 := cntS_le (ML.take i)
    rw [List.length_take] at h2
    have h3 : cntS (ML.take i) * (nb n + z) ≤ i * 48 := Nat.mul_le_mul (by omega) (by omega)
    rw [List.length_append, h1]
    simp only [headB, List.length_cons, List.length_nil]
    omega
  repeat' (first | refine ls_of rfl ?_ | refine ls_of_no ?_ | refine ls_guard_yes rfl rfl ?_ | refine ls_guard_no rfl rfl rfl rfl ?_ | refine ls_guard_un rfl rfl rfl ?_ | refine o1_move rfl ?_ | refine o1_assign rfl ?_ | refine st_seq ?_ | refine st_region ?_ | refine st_block ?_ | refine st_skip ?_ | refine st_ret ?_ | refine st_exit ?_ | refine st_cond_t rfl ?_ | refine st_cond_f rfl ?_ | refine st_cond rfl (fun _ => ?_) (fun _ => ?_) | refine ls_nil ?_ | refine nx_seq ?_ | refine nx_blk ?_ | refine nx_fn ?_ | refine nx_rounds ?_ | refine xt_seq ?_ | refine xt_here ?_ | refine xt_on rfl ?_ | refine xt_rounds ?_ | refine xt_cut ?_ | refine rt_seq ?_ | refine rt_blk ?_ | refine rt_rounds ?_ | refine rt_cut ?_ | refine o1_peql rfl rfl ?_ | refine o1_call (fun _ => elim_Rank _ bm k (cl_up hM.fk)) rfl (fun _ _ => ?_) | refine o1_fieldAddr rfl ?_ | refine ox_load rfl (by rfl) ?_ | refine ox_load_enc rfl (by first | omega | (simp; omega)) ?_ | refine ox_load_any rfl (by assumption) ?_ | refine o1_len rfl ?_ | refine o1_add rfl rfl (by omega) ?_ | refine o1_sub rfl rfl (by omega) ?_ | refine o1_lss_t rfl rfl (by omega) ?_ | refine o1_lss_f rfl rfl (by omega) ?_ | refine o1_lss rfl rfl (fun _ => ?_) (fun _ => ?_) | refine o1_ushr rfl rfl (by omega) ?_ | refine o1_conv_iu rfl ?_ | refine o1_slice_nil rfl ?_ | refine o1_lit_B rfl rfl rfl rfl rfl (fun _ => ?_) | refine ox_append rfl rfl (rx_box rfl (by first | decide | omega)) rfl rfl (fun _ => rfl) (by omega) (by omega) (fun _ _ => ?_) | refine ox_append rfl rfl (rx_any (by assumption)) rfl rfl (fun _ => rfl) (by omega) (by omega) (fun _ _ => ?_) | refine ox_append rfl rfl rx_row rfl rfl (fun _ => rfl) (by omega) (by omega) (fun _ _ => ?_) | refine o1_nilCheck rfl ?_)
  refine st_stages [(0, _), (3, _)] rtX2_0 [16] [⟨[0, 1, 2, 3, 4, 5, 6, 7, 8, 9, 10, 11, 12, 13, 14, 15], [], some 16⟩, ⟨[17], [], none⟩] mixed (cov_cons rfl rfl (cov_cons rfl rfl cov_nil)) (by kernel_rfl) (by kernel_rfl) ?_
  all_goals refine wk_ch ?_
  all_goals (refine xp1 0 rfl rfl rfl rfl (by refine o1_move rfl fz) ?_)
  all_goals (refine xp1 11 rfl rfl rfl rfl (by refine o1_nilCheck rfl fz) ?_)
  all_goals (refine xp1 12 rfl rfl rfl rfl (by refine o1_fieldAddr rfl fz) ?_)
  all_goals (refine xp1 13 rfl rfl rfl rfl (by first | refine ox_load_any rfl m1 fz | refine ox_load_any rfl m2 fz | refine ox_load rfl (by rfl) fz | refine ox_load_enc rfl (by first | omega | (simp; omega)) fz | refine ox_load_any rfl (by assumption) fz) ?_)
  all_goals (refine xp1 14 rfl rfl rfl rfl (by first | refine o1_sub rfl rfl (by omega) fz | refine o1_sub rfl rfl (by omega) fz) ?_)
  all_goals (refine xp1 15 rfl rfl rfl rfl (by first | refine o1_conv_iu rfl fz | refine o1_conv_iu rfl fz) ?_)
  all_goals (refine xp1 0 rfl rfl rfl rfl (by refine o1_move rfl fz) ?_)
  all_goals (refine xp1 17 rfl rfl rfl rfl (by refine o1_nilCheck rfl fz) ?_)
  all_goals (refine xp1 18 rfl rfl rfl rfl (by refine o1_fieldAddr rfl fz) ?_)
  all_goals (refine xp1 19 rfl rfl rfl rfl (by first | refine ox_load_any rfl m1 fz | refine ox_load_any rfl m2 fz | refine ox_load rfl (by rfl) fz | refine ox_load_enc rfl (by first | omega | (simp; omega)) fz | refine ox_load_any rfl (by assumption) fz) ?_)
  all_goals (refine xp1 20 rfl rfl rfl rfl (by first | refine o1_conv_iu rfl fz | refine o1_conv_iu rfl fz) ?_)
  all_goals (refine xp1 3 rfl rfl rfl rfl (by refine o1_move rfl fz) ?_)
  all_goals (refine xp1 22 rfl rfl rfl rfl (by first | refine o1_ishr8 rfl rfl fz | refine o1_ushr rfl rfl (by omega) fz) ?_)
  all_goals (refine xp1 23 rfl rfl rfl rfl (by first | refine o1_conv_iu rfl fz | refine o1_conv_iu rfl fz) ?_)
  all_goals (refine xp1 3 rfl rfl rfl rfl (by refine o1_move rfl fz) ?_)
  all_goals (refine xp1 25 rfl rfl rfl rfl (by first | refine o1_conv_iu rfl fz | refine o1_conv_iu rfl fz) ?_)
  all_goals refine op_nil ?_
  all_goals refine re_nil ?_
  all_goals first | (refine ch_run (E' := [(16, _), (21, _), (24, _), (26, _)]) rfl (gd_r0 rfl) rfl (cov_cons rfl rfl (cov_cons rfl rfl (cov_cons rfl rfl (cov_cons rfl rfl cov_nil)))) ?_; (first | (refine o1_lit_enc B (headB n z k) rfl rfl rfl (fun _ => rfl) rfl rfl rfl (fun b27 => ?_)) | refine o1_lit_B rfl rfl rfl rfl rfl (fun _ => ?_)))
  all_goals refine wk_end ?_
  all_goals (refine xp1 27 rfl rfl rfl rfl (by refine o1_assign rfl fz) ?_)
  all_goals refine op_nil ?_
  all_goals refine re_nil ?_
  all_goals dsimp only [List.cons_append, List.nil_append]
  repeat' (first | refine ls_of rfl ?_ | refine ls_of_no ?_ | refine ls_guard_yes rfl rfl ?_ | refine ls_guard_no rfl rfl rfl rfl ?_ | refine ls_guard_un rfl rfl rfl ?_ | refine o1_move rfl ?_ | refine o1_assign rfl ?_ | refine st_seq ?_ | refine st_region ?_ | refine st_block ?_ | refine st_skip ?_ | refine st_ret ?_ | refine st_exit ?_ | refine st_cond_t rfl ?_ | refine st_cond_f rfl ?_ | refine st_cond rfl (fun _ => ?_) (fun _ => ?_) | refine ls_nil ?_ | refine nx_seq ?_ | refine nx_blk ?_ | refine nx_fn ?_ | refine nx_rounds ?_ | refine xt_seq ?_ | refine xt_here ?_ | refine xt_on rfl ?_ | refine xt_rounds ?_ | refine xt_cut ?_ | refine rt_seq ?_ | refine rt_blk ?_ | refine rt_rounds ?_ | refine rt_cut ?_ | refine ox_load_any rfl m3 ?_ | refine o1_fieldAddr rfl ?_ | refine ox_load rfl (by rfl) ?_ | refine ox_load_enc rfl (by first | omega | (simp; omega)) ?_ | refine ox_load_any rfl (by assumption) ?_ | refine o1_len rfl ?_ | refine o1_add rfl rfl (by omega) ?_ | refine o1_sub rfl rfl (by omega) ?_ | refine o1_lss_t rfl rfl (by omega) ?_ | refine o1_lss_f rfl rfl (by omega) ?_ | refine o1_lss rfl rfl (fun _ => ?_) (fun _ => ?_) | refine o1_ushr rfl rfl (by omega) ?_ | refine o1_conv_iu rfl ?_ | refine o1_slice_nil rfl ?_ | refine o1_lit_B rfl rfl rfl rfl rfl (fun _ => ?_) | refine ox_append rfl rfl (rx_box rfl (by first | decide | omega)) rfl rfl (fun _ => rfl) (by omega) (by omega) (fun _ _ => ?_) | refine ox_append rfl rfl (rx_any (by assumption)) rfl rfl (fun _ => rfl) (by omega) (by omega) (fun _ _ => ?_) | refine ox_append rfl rfl rx_row rfl rfl (fun _ => rfl) (by omega) (by omega) (fun _ _ => ?_) | refine o1_nilCheck rfl ?_)
  refine st_row (T := 5) (b := b27) (m := 4) (cp := 4) (cs := (headB n z k).map B) rfl rfl (by omega) ?_
  refine st_loop (S := Nat × Option Addr × Nat) (fun q => [(4, .slice q.2.1 (headB n z k ++ rowsB (ML.take q.1)).length q.2.2), (31, .slice ar n cr), (32, I n), (33, I q.1)])
    (fun q => [.row 5 1 (.slice q.2.1 (headB n z k ++ rowsB (ML.take q.1)).length q.2.2) (headB n z k ++ rowsB (ML.take q.1)).length ((headB n z k ++ rowsB (ML.take q.1)).map B), .any (stars H)])
    (fun q => q.1 ≤ n) (fun q => n - q.1) (0, some ⟨b27, 0, none⟩, 4) (Nat.zero_le _)
    (cov_cons rfl rfl (cov_cons rfl rfl (cov_cons rfl rfl (cov_cons rfl rfl cov_nil)))) (by show Ent _ [.row 5 1 (.slice (some ⟨b27, 0, none⟩) 4 4) 4 ((headB n z k).map B), .any (stars H)]; (try dsimp only [List.cons_append, List.nil_append, List.singleton_append, List.append_nil]); (repeat (first | exact Ent.nil | exact Ent.refl _ | (apply Ent.cons; (repeat (first | exact Sel.here | apply Sel.there)))))) ?_
  rintro ⟨i, a1, c1⟩ hi
  dsimp only at hi ⊢
  by_cases hlt : i < n
  · have hiM : i < M.length := by omega
    have hiL : i < ML.length := by omega
    have hvi : ML[i] = vw M[i] := by subst hML; simp
    have htk := rowsB_take hiL
    have hl1 := hrl i (by omega)
    obtain ⟨X, hX⟩ : ∃ X, headB n z k ++ rowsB (ML.take i) = X := ⟨_, rfl⟩
    have hnx : headB n z k ++ rowsB (ML.take (i + 1)) = X ++ lineB (vw M[i]) := by rw [htk, ← List.append_assoc, hX, hvi]
    rw [hX] at hl1 ⊢
    cases hMi : M[i] with
    | none =>
      have hnx : headB n z k ++ rowsB (ML.take (i + 1)) = X := by rw [hnx, hMi]; simp [vw, lineB]
      repeat' (first | refine ls_of rfl ?_ | refine ls_of_no ?_ | refine ls_guard_yes rfl rfl ?_ | refine ls_guard_no rfl rfl rfl rfl ?_ | refine ls_guard_un rfl rfl rfl ?_ | refine o1_move rfl ?_ | refine o1_assign rfl ?_ | refine st_seq ?_ | refine st_region ?_ | refine st_block ?_ | refine st_skip ?_ | refine st_ret ?_ | refine st_exit ?_ | refine st_cond_t rfl ?_ | refine st_cond_f rfl ?_ | refine st_cond rfl (fun _ => ?_) (fun _ => ?_) | refine ls_nil ?_ | refine nx_seq ?_ | refine nx_blk ?_ | refine nx_fn ?_ | refine nx_rounds ?_ | refine xt_seq ?_ | refine xt_here ?_ | refine xt_on rfl ?_ | refine xt_rounds ?_ | refine xt_cut ?_ | refine rt_seq ?_ | refine rt_blk ?_ | refine rt_rounds ?_ | refine rt_cut ?_ | refine o1_ia (ad := ar) (c := cr) i rfl rfl hM.fr l1.symm rfl hiM ?_ | (refine o1_load_ia (ad := ar) (c := cr) i rfl hM.fr hiM ?_; rw [hMi]) | refine o1_pneq rfl rfl ?_ | refine o1_fieldAddr rfl ?_ | refine ox_load rfl (by rfl) ?_ | refine ox_load_enc rfl (by first | omega | (simp; omega)) ?_ | refine ox_load_any rfl (by assumption) ?_ | refine o1_len rfl ?_ | refine o1_add rfl rfl (by omega) ?_ | refine o1_sub rfl rfl (by omega) ?_ | refine o1_lss_t rfl rfl (by omega) ?_ | refine o1_lss_f rfl rfl (by omega) ?_ | refine o1_lss rfl rfl (fun _ => ?_) (fun _ => ?_) | refine o1_ushr rfl rfl (by omega) ?_ | refine o1_conv_iu rfl ?_ | refine o1_slice_nil rfl ?_ | refine o1_lit_B rfl rfl rfl rfl rfl (fun _ => ?_) | refine ox_append rfl rfl (rx_box rfl (by first | decide | omega)) rfl rfl (fun _ => rfl) (by omega) (by omega) (fun _ _ => ?_) | refine ox_append rfl rfl (rx_any (by assumption)) rfl rfl (fun _ => rfl) (by omega) (by omega) (fun _ _ => ?_) | refine ox_append rfl rfl rx_row rfl rfl (fun _ => rfl) (by omega) (by omega) (fun _ _ => ?_) | refine o1_nilCheck rfl ?_)
      refine nx_again (i + 1, a1, c1) (by show i + 1 ≤ n; omega) (by show n - (i + 1) < n - i; omega) (cov_cons rfl (by show Value.slice a1 _ c1 = Value.slice a1 (headB n z k ++ rowsB (ML.take (i + 1))).length c1; rw [hnx]) (cov_cons rfl rfl (cov_cons rfl rfl (cov_cons rfl rfl cov_nil)))) ?_
      show Ent _ [.row 5 1 (.slice a1 (headB n z k ++ rowsB (ML.take (i + 1))).length c1) (headB n z k ++ rowsB (ML.take (i + 1))).length ((headB n z k ++ rowsB (ML.take (i + 1))).map B), .any (stars H)]
      rw [hnx]
      (try dsimp only [List.cons_append, List.nil_append, List.singleton_append, List.append_nil]); (repeat (first | exact Ent.nil | exact Ent.refl _ | (apply Ent.cons; (repeat (first | exact Sel.here | apply Sel.there)))))
    | some q =>
      have hqm : some q ∈ M := hMi ▸ List.getElem_mem hiM
      have hq := hM.fm q hqm
      obtain ⟨hq1, hq2, hq3⟩ := l6 q hqm
      have hqp := hq.p
      have hqs := hq.s
      have hqd := hq.d
      have hqz := hq.z
      obtain ⟨V, hV⟩ : ∃ V, bytesV q.v.l = V := ⟨_, rfl⟩
      have hVl : V.length = nb q.v.n := by rw [← hV, bytesV_len, hq1.v.len]
      have hnx : headB n z k ++ rowsB (ML.take (i + 1)) = (X ++ V) ++ q.d := by rw [hnx, hMi]; simp [vw, lineB, hV]
      have hnbq : nb q.v.n ≤ 32 := by rw [hq2]; exact hnb
      have hnl : ((X ++ V) ++ q.d).length = X.length + nb q.v.n + q.z := by rw [List.length_append, List.length_append]; omega
      repeat' (first | refine ls_of rfl ?_ | refine ls_of_no ?_ | refine ls_guard_yes rfl rfl ?_ | refine ls_guard_no rfl rfl rfl rfl ?_ | refine ls_guard_un rfl rfl rfl ?_ | refine o1_move rfl ?_ | refine o1_assign rfl ?_ | refine st_seq ?_ | refine st_region ?_ | refine st_block ?_ | refine st_skip ?_ | refine st_ret ?_ | refine st_exit ?_ | refine st_cond_t rfl ?_ | refine st_cond_f rfl ?_ | refine st_cond rfl (fun _ => ?_) (fun _ => ?_) | refine ls_nil ?_ | refine nx_seq ?_ | refine nx_blk ?_ | refine nx_fn ?_ | refine nx_rounds ?_ | refine xt_seq ?_ | refine xt_here ?_ | refine xt_on rfl ?_ | refine xt_rounds ?_ | refine xt_cut ?_ | refine rt_seq ?_ | refine rt_blk ?_ | refine rt_rounds ?_ | refine rt_cut ?_ | refine o1_ia (ad := ar) (c := cr) i rfl rfl hM.fr l1.symm rfl hiM ?_ | (refine o1_load_ia (ad := ar) (c := cr) i rfl hM.fr hiM ?_; rw [hMi]) | refine o1_pneq rfl rfl ?_ | refine o1_fieldAddr rfl ?_ | refine ox_load rfl (by rfl) ?_ | refine ox_load_enc rfl (by first | omega | (simp; omega)) ?_ | refine ox_load_any rfl (by assumption) ?_ | refine o1_len rfl ?_ | refine o1_add rfl rfl (by omega) ?_ | refine o1_sub rfl rfl (by omega) ?_ | refine o1_lss_t rfl rfl (by omega) ?_ | refine o1_lss_f rfl rfl (by omega) ?_ | refine o1_lss rfl rfl (fun _ => ?_) (fun _ => ?_) | refine o1_ushr rfl rfl (by omega) ?_ | refine o1_conv_iu rfl ?_ | refine o1_slice_nil rfl ?_ | refine o1_lit_B rfl rfl rfl rfl rfl (fun _ => ?_) | refine ox_append rfl rfl (rx_box rfl (by first | decide | omega)) rfl rfl (fun _ => rfl) (by omega) (by omega) (fun _ _ => ?_) | refine ox_append rfl rfl (rx_any (by assumption)) rfl rfl (fun _ => rfl) (by omega) (by omega) (fun _ _ => ?_) | refine ox_append rfl rfl rx_row rfl rfl (fun _ => rfl) (by omega) (by omega) (fun _ _ => ?_) | refine o1_nilCheck rfl ?_)
      refine st_stages [(4, _), (6, _)] rtX2_1 [5, 6, 11] [⟨[0, 1, 2, 3, 4, 7, 8, 9, 10], [], some 5⟩, ⟨[], [0, 7, 8, 9, 10], some 6⟩, ⟨[], [7, 8, 9, 10], some 11⟩, ⟨[12], [], none⟩] mixed (cov_cons rfl rfl (cov_cons rfl rfl cov_nil)) (by kernel_rfl) (by kernel_rfl) ?_
      all_goals refine wk_ch ?_
      all_goals (refine xp1 4 rfl rfl rfl rfl (by refine o1_move rfl fz) ?_)
      all_goals (refine xp1 6 rfl rfl rfl rfl (by refine o1_move rfl fz) ?_)
      all_goals (refine xp1 40 rfl rfl rfl rfl (by refine o1_nilCheck rfl fz) ?_)
      all_goals (refine xp1 41 rfl rfl rfl rfl (by refine o1_fieldAddr rfl fz) ?_)
      all_goals (refine xp1 42 rfl rfl rfl rfl (by first | refine ox_load_any rfl hqp fz | refine ox_load_any rfl hqs fz | refine ox_load rfl (by rfl) fz | refine ox_load_enc rfl (by first | omega | (simp; omega)) fz | refine ox_load_any rfl (by assumption) fz) ?_)
      all_goals (refine xp1 6 rfl rfl rfl rfl (by refine o1_move rfl fz) ?_)
      all_goals (refine xp1 46 rfl rfl rfl rfl (by refine o1_nilCheck rfl fz) ?_)
      all_goals (refine xp1 47 rfl rfl rfl rfl (by refine o1_fieldAddr rfl fz) ?_)
      all_goals (refine xp1 48 rfl rfl rfl rfl (by first | refine ox_load_any rfl hqp fz | refine ox_load_any rfl hqs fz | refine ox_load rfl (by rfl) fz | refine ox_load_enc rfl (by first | omega | (simp; omega)) fz | refine ox_load_any rfl (by assumption) fz) ?_)
      all_goals refine op_nil ?_
      all_goals refine re_nil ?_
      all_goals first | (refine ch_run (E' := [(43, _)]) rfl (gd_r0 rfl) rfl (cov_cons rfl rfl cov_nil) ?_; (first | (refine o1_call (fun _ => vec_Bytes _ q.v (RdV.up hq.v)) rfl (fun b44 _ => ?_); rw [hV])))
      all_goals refine wk_ch ?_
      all_goals refine op_nil ?_
      all_goals (refine xq1 4 rfl rfl rfl rfl rfl (by refine o1_move rfl fz) ?_)
      all_goals (refine xq1 6 rfl rfl rfl rfl rfl (by refine o1_move rfl fz) ?_)
      all_goals (refine xq1 46 rfl rfl rfl rfl rfl (by refine o1_nilCheck rfl fz) ?_)
      all_goals (refine xq1 47 rfl rfl rfl rfl rfl (by refine o1_fieldAddr rfl fz) ?_)
      all_goals (refine xq1 48 rfl rfl rfl rfl rfl (by first | refine ox_load_any rfl hqp fz | refine ox_load_any rfl hqs fz | refine ox_load rfl (by rfl) fz | refine ox_load_enc rfl (by first | omega | (simp; omega)) fz | refine ox_load_any rfl (by assumption) fz) ?_)
      all_goals refine re_nil ?_
      all_goals first | (refine ch_run (E' := [(39, _), (44, _)]) rfl (gd_r0 rfl) rfl (cov_cons rfl rfl (cov_cons rfl rfl cov_nil)) ?_; (first | (refine ox_append (enc := B) (ad := a1) (c := c1) (xs := X) (ys := V) rfl rfl (rx_box (b := b44) (T := 5) hVl (by omega)) hVl.symm rfl (fun _ => rfl) (by omega) (by omega) (fun a45 c45 => ?_)) | (refine ox_append (enc := B) (ad := a45) (c := c45) (xs := X ++ V) (ys := q.d) rfl rfl (rx_any hqd) hqz.symm rfl (fun _ => rfl) (by omega) (by omega) (fun a50 c50 => ?_)) | refine ox_append rfl rfl (rx_box rfl (by first | decide | omega)) rfl rfl (fun _ => rfl) (by omega) (by omega) (fun _ _ => ?_) | refine ox_append rfl rfl (rx_any (by assumption)) rfl rfl (fun _ => rfl) (by omega) (by omega) (fun _ _ => ?_) | refine ox_append rfl rfl rx_row rfl rfl (fun _ => rfl) (by omega) (by omega) (fun _ _ => ?_)))
      all_goals refine wk_ch ?_
      all_goals refine op_nil ?_
      all_goals (refine xq1 6 rfl rfl rfl rfl rfl (by refine o1_move rfl fz) ?_)
      all_goals (refine xq1 46 rfl rfl rfl rfl rfl (by refine o1_nilCheck rfl fz) ?_)
      all_goals (refine xq1 47 rfl rfl rfl rfl rfl (by refine o1_fieldAddr rfl fz) ?_)
      all_goals (refine xq1 48 rfl rfl rfl rfl rfl (by first | refine ox_load_any rfl hqp fz | refine ox_load_any rfl hqs fz | refine ox_load rfl (by rfl) fz | refine ox_load_enc rfl (by first | omega | (simp; omega)) fz | refine ox_load_any rfl (by assumption) fz) ?_)
      all_goals refine re_nil ?_
      all_goals first | (refine ch_run (E' := [(45, _), (49, _)]) rfl (gd_r0 rfl) rfl (cov_cons rfl rfl (cov_cons rfl rfl cov_nil)) ?_; (first | (refine ox_append (enc := B) (ad := a1) (c := c1) (xs := X) (ys := V) rfl rfl (rx_box (b := b44) (T := 5) hVl (by omega)) hVl.symm rfl (fun _ => rfl) (by omega) (by omega) (fun a45 c45 => ?_)) | (refine ox_append (enc := B) (ad := a45) (c := c45) (xs := X ++ V) (ys := q.d) rfl rfl (rx_any hqd) hqz.symm rfl (fun _ => rfl) (by omega) (by omega) (fun a50 c50 => ?_)) | refine ox_append rfl rfl (rx_box rfl (by first | decide | omega)) rfl rfl (fun _ => rfl) (by omega) (by omega) (fun _ _ => ?_) | refine ox_append rfl rfl (rx_any (by assumption)) rfl rfl (fun _ => rfl) (by omega) (by omega) (fun _ _ => ?_) | refine ox_append rfl rfl rx_row rfl rfl (fun _ => rfl) (by omega) (by omega) (fun _ _ => ?_)))
      all_goals refine wk_end ?_
      all_goals (refine xp1 50 rfl rfl rfl rfl (by refine o1_assign rfl fz) ?_)
      all_goals refine op_nil ?_
      all_goals refine re_nil ?_
      all_goals dsimp only [List.cons_append, List.nil_append]
      repeat' (first | refine ls_of rfl ?_ | refine ls_of_no ?_ | refine ls_guard_yes rfl rfl ?_ | refine ls_guard_no rfl rfl rfl rfl ?_ | refine ls_guard_un rfl rfl rfl ?_ | refine o1_move rfl ?_ | refine o1_assign rfl ?_ | refine st_seq ?_ | refine st_region ?_ | refine st_block ?_ | refine st_skip ?_ | refine st_ret ?_ | refine st_exit ?_ | refine st_cond_t rfl ?_ | refine st_cond_f rfl ?_ | refine st_cond rfl (fun _ => ?_) (fun _ => ?_) | refine ls_nil ?_ | refine nx_seq ?_ | refine nx_blk ?_ | refine nx_fn ?_ | refine nx_rounds ?_ | refine xt_seq ?_ | refine xt_here ?_ | refine xt_on rfl ?_ | refine xt_rounds ?_ | refine xt_cut ?_ | refine rt_seq ?_ | refine rt_blk ?_ | refine rt_rounds ?_ | refine rt_cut ?_ | refine o1_fieldAddr rfl ?_ | refine ox_load rfl (by rfl) ?_ | refine ox_load_enc rfl (by first | omega | (simp; omega)) ?_ | refine ox_load_any rfl (by assumption) ?_ | refine o1_len rfl ?_ | refine o1_add rfl rfl (by omega) ?_ | refine o1_sub rfl rfl (by omega) ?_ | refine o1_lss_t rfl rfl (by omega) ?_ | refine o1_lss_f rfl rfl (by omega) ?_ | refine o1_lss rfl rfl (fun _ => ?_) (fun _ => ?_) | refine o1_ushr rfl rfl (by omega) ?_ | refine o1_conv_iu rfl ?_ | refine o1_slice_nil rfl ?_ | refine o1_lit_B rfl rfl rfl rfl rfl (fun _ => ?_) | refine ox_append rfl rfl (rx_box rfl (by first | decide | omega)) rfl rfl (fun _ => rfl) (by omega) (by omega) (fun _ _ => ?_) | refine ox_append rfl rfl (rx_any (by assumption)) rfl rfl (fun _ => rfl) (by omega) (by omega) (fun _ _ => ?_) | refine ox_append rfl rfl rx_row rfl rfl (fun _ => rfl) (by omega) (by omega) (fun _ _ => ?_) | refine o1_nilCheck rfl ?_)
      refine nx_again (i + 1, a50, c50) (by show i + 1 ≤ n; omega) (by show n - (i + 1) < n - i; omega) (cov_cons rfl (by show Value.slice a50 _ c50 = Value.slice a50 (headB n z k ++ rowsB (ML.take (i + 1))).length c50; rw [hnx, hnl]) (cov_cons rfl rfl (cov_cons rfl rfl (cov_cons rfl rfl cov_nil)))) ?_
      show Ent _ [.row 5 1 (.slice a50 (headB n z k ++ rowsB (ML.take (i + 1))).length c50) (headB n z k ++ rowsB (ML.take (i + 1))).length ((headB n z k ++ rowsB (ML.take (i + 1))).map B), .any (stars H)]
      rw [hnx, hnl]
      (try dsimp only [List.cons_append, List.nil_append, List.singleton_append, List.append_nil]); (repeat (first | exact Ent.nil | exact Ent.refl _ | (apply Ent.cons; (repeat (first | exact Sel.here | apply Sel.there)))))
  · have : i = n := by omega
    subst this
    have e1 : headB i z k ++ rowsB (ML.take i) = R := by rw [List.take_of_length_le (by omega)]; exact hR
    rw [e1]
    repeat' (first | refine ls_of rfl ?_ | refine ls_of_no ?_ | refine ls_guard_yes rfl rfl ?_ | refine ls_guard_no rfl rfl rfl rfl ?_ | refine ls_guard_un rfl rfl rfl ?_ | refine o1_move rfl ?_ | refine o1_assign rfl ?_ | refine st_seq ?_ | refine st_region ?_ | refine st_block ?_ | refine st_skip ?_ | refine st_ret ?_ | refine st_exit ?_ | refine st_cond_t rfl ?_ | refine st_cond_f rfl ?_ | refine st_cond rfl (fun _ => ?_) (fun _ => ?_) | refine ls_nil ?_ | refine nx_seq ?_ | refine nx_blk ?_ | refine nx_fn ?_ | refine nx_rounds ?_ | refine xt_seq ?_ | refine xt_here ?_ | refine xt_on rfl ?_ | refine xt_rounds ?_ | refine xt_cut ?_ | refine rt_seq ?_ | refine rt_blk ?_ | refine rt_rounds ?_ | refine rt_cut ?_ | refine o1_fieldAddr rfl ?_ | refine ox_load rfl (by rfl) ?_ | refine ox_load_enc rfl (by first | omega | (simp; omega)) ?_ | refine ox_load_any rfl (by assumption) ?_ | refine o1_len rfl ?_ | refine o1_add rfl rfl (by omega) ?_ | refine o1_sub rfl rfl (by omega) ?_ | refine o1_lss_t rfl rfl (by omega) ?_ | refine o1_lss_f rfl rfl (by omega) ?_ | refine o1_lss rfl rfl (fun _ => ?_) (fun _ => ?_) | refine o1_ushr rfl rfl (by omega) ?_ | refine o1_conv_iu rfl ?_ | refine o1_slice_nil rfl ?_ | refine o1_lit_B rfl rfl rfl rfl rfl (fun _ => ?_) | refine ox_append rfl rfl (rx_box rfl (by first | decide | omega)) rfl rfl (fun _ => rfl) (by omega) (by omega) (fun _ _ => ?_) | refine ox_append rfl rfl (rx_any (by assumption)) rfl rfl (fun _ => rfl) (by omega) (by omega) (fun _ _ => ?_) | refine ox_append rfl rfl rx_row rfl rfl (fun _ => rfl) (by omega) (by omega) (fun _ _ => ?_) | refine o1_nilCheck rfl ?_)
    refine rt_tmp (a1, c1) rfl rfl rfl trivial ?_
    (try dsimp only [List.cons_append, List.nil_append, List.singleton_append, List.append_nil]); (repeat (first | exact Ent.nil | exact Ent.refl _ | (apply Ent.cons; (repeat (first | exact Sel.here | apply Sel.there)))))
set_option maxHeartbeats 8000000 in
theorem elim_From (H : List Hl) (n z k : Nat) (ML : List (Option LN)) (ad : Option Addr) (c : Nat) (bs : List (BitVec 8)) (hb : Rs (stars H) B ad c bs) (hbs : matB n z k ML = bs) (hRR : RR n z ML) (hk : cntS ML = k) (h1 : 1 ≤ n) (h2 : n ≤ 256) (h3 : 1 ≤ z) (h4 : z ≤ 16) (ht : TabF (stars H)) :
    Spec Tryd.prog 42 [.slice ad bs.length c] H (fun r : Nat × (Option Addr × Nat) × List (Option RD) => r.2.2.map vw = ML ∧ MOk n z r.2.2) (fun r => .tuple #[.pointer (some ⟨r.1, 0, none⟩), .bool true]) (fun r => mB r.1 n z r.2.1.1 r.2.1.2 k :: mR n r.2.1.1 r.2.1.2 r.2.2 :: .any (mrows r.2.2) :: H) := by
  refine spec_pure (res := fun r : Nat × (Option Addr × Nat) × List (Option RD) => [mB r.1 n z r.2.1.1 r.2.1.2 k, mR n r.2.1.1 r.2.1.2 r.2.2, .any (mrows r.2.2)]) H Tryd.func42 rfl Tryd.ntmps42 (by kernel_rfl) rfl (fun W => ?_)
  have hle := hb.le
  have hbg := hb.big
  have hMLl := hRR.lok.len
  have hnb : nb n ≤ 32 := by unfold nb; omega
  have hq : ((n : Int) + 7) / 8 = (nb n : Nat) := by unfold nb; omega
  have hd4 : bs.drop 4 = rowsB ML := by rw [← hbs]; rfl
  have hl4 : bs.length = 4 + (rowsB ML).length := by rw [← hbs]; simp [matB, headB]; omega
  have g0 : bs[0]? = some (BitVec.ofInt 8 ((n : Int) - 1)) := by rw [← hbs]; rfl
  have g1 : bs[1]? = some (BitVec.ofInt 8 (z : Int)) := by rw [← hbs]; rfl
  have hn1 : ((BitVec.ofInt 8 ((n : Int) - 1)).toNat : Int) + 1 = n := by simp only [BitVec.toNat_ofInt]; omega
  have hz1 : ((BitVec.ofInt 8 (z : Int)).toNat : Int) = z := by simp only [BitVec.toNat_ofInt]; omega
  have hcc : cntS ML ≤ ML.length := cntS_le _
  repeat' (first | refine ls_of rfl ?_ | refine ls_of_no ?_ | refine ls_guard_yes rfl rfl ?_ | refine ls_guard_no rfl rfl rfl rfl ?_ | refine ls_guard_un rfl rfl rfl ?_ | refine o1_move rfl ?_ | refine o1_assign rfl ?_ | refine st_seq ?_ | refine st_region ?_ | refine st_block ?_ | refine st_skip ?_ | refine st_ret ?_ | refine st_exit ?_ | refine st_cond_t rfl ?_ | refine st_cond_f rfl ?_ | refine st_cond rfl (fun _ => ?_) (fun _ => ?_) | refine ls_nil ?_ | refine nx_seq ?_ | refine nx_blk ?_ | refine nx_fn ?_ | refine nx_rounds ?_ | refine xt_seq ?_ | refine xt_here ?_ | refine xt_on rfl ?_ | refine xt_rounds ?_ | refine xt_cut ?_ | refine rt_seq ?_ | refine rt_blk ?_ | refine rt_rounds ?_ | refine rt_cut ?_ | refine o1_pick_t rfl rfl ?_ | refine o1_pick_f rfl rfl ?_ | refine o1_extract rfl rfl ?_ | refine o1_fieldAddr rfl ?_ | refine ox_load rfl (by rfl) ?_ | refine ox_load_enc rfl (by first | omega | (simp; omega)) ?_ | refine ox_load_any rfl (by assumption) ?_ | refine o1_len rfl ?_ | refine o1_add rfl rfl (by omega) ?_ | refine o1_lss_t rfl rfl (by omega) ?_ | refine o1_lss_f rfl rfl (by omega) ?_ | refine o1_lss rfl rfl (fun _ => ?_) (fun _ => ?_) | refine o1_geq_t rfl rfl (by omega) ?_ | refine o1_geq_f rfl rfl (by omega) ?_ | refine o1_geq rfl rfl (fun _ => ?_) (fun _ => ?_) | refine o1_bnot rfl ?_ | refine o1_unot rfl ?_ | refine o1_conv_i rfl (by omega) ?_ | refine o1_conv_ui rfl (by exact bv_small (by decide) _) ?_ | refine o1_slice_nil rfl ?_ | refine o1_nilCheck rfl ?_)
  refine st_stages [(0, _)] rtX2_2 [9] [⟨[0, 1, 2, 3, 4, 5, 6, 7, 8], [], some 9⟩, ⟨[10], [], none⟩] mixed (cov_cons rfl rfl cov_nil) (by kernel_rfl) (by kernel_rfl) ?_
  all_goals refine wk_ch ?_
  all_goals (refine xp1 0 rfl rfl rfl rfl (by refine o1_move rfl fz) ?_)
  all_goals (refine xp1 12 rfl rfl rfl rfl (by first | refine o1_ia (ad := ad) (c := c) 0 rfl rfl hb rfl rfl (by omega) fz | refine o1_ia (ad := ad) (c := c) 1 rfl rfl hb rfl rfl (by omega) fz) ?_)
  all_goals (refine xp1 13 rfl rfl rfl rfl (by first | refine o1_load_av (ad := ad) (c := c) 0 _ rfl hb g0 fz | refine o1_load_av (ad := ad) (c := c) 1 _ rfl hb g1 fz | refine ox_load rfl (by rfl) fz | refine ox_load_enc rfl (by first | omega | (simp; omega)) fz | refine ox_load_any rfl (by assumption) fz) ?_)
  all_goals (refine xp1 14 rfl rfl rfl rfl (by first | ((refine o1_conv_i rfl (by omega) ?_; rw [hz1]); all_goals exact fz) | refine o1_conv_i rfl (by omega) fz | refine o1_conv_i rfl (by omega) fz | refine o1_conv_ui rfl (by exact bv_small (by decide) _) fz) ?_)
  all_goals (refine xp1 15 rfl rfl rfl rfl (by first | ((refine o1_add rfl rfl (by omega) ?_; rw [hn1]); all_goals exact fz) | refine o1_add rfl rfl (by omega) fz) ?_)
  all_goals (refine xp1 0 rfl rfl rfl rfl (by refine o1_move rfl fz) ?_)
  all_goals (refine xp1 17 rfl rfl rfl rfl (by first | refine o1_ia (ad := ad) (c := c) 0 rfl rfl hb rfl rfl (by omega) fz | refine o1_ia (ad := ad) (c := c) 1 rfl rfl hb rfl rfl (by omega) fz) ?_)
  all_goals (refine xp1 18 rfl rfl rfl rfl (by first | refine o1_load_av (ad := ad) (c := c) 0 _ rfl hb g0 fz | refine o1_load_av (ad := ad) (c := c) 1 _ rfl hb g1 fz | refine ox_load rfl (by rfl) fz | refine ox_load_enc rfl (by first | omega | (simp; omega)) fz | refine ox_load_any rfl (by assumption) fz) ?_)
  all_goals (refine xp1 19 rfl rfl rfl rfl (by first | ((refine o1_conv_i rfl (by omega) ?_; rw [hz1]); all_goals exact fz) | refine o1_conv_i rfl (by omega) fz | refine o1_conv_i rfl (by omega) fz | refine o1_conv_ui rfl (by exact bv_small (by decide) _) fz) ?_)
  all_goals refine op_nil ?_
  all_goals refine re_nil ?_
  all_goals first | (refine ch_run (E' := [(16, _), (20, _)]) rfl (gd_r0 rfl) rfl (cov_cons rfl rfl (cov_cons rfl rfl cov_nil)) ?_; (first | (refine o1_call (fun _ => elim_New _ n z h1 h2 h3 h4) rfl (fun ⟨bm, ar, cr⟩ _ => ?_); dsimp only)))
  all_goals refine wk_end ?_
  all_goals (refine xp1 21 rfl rfl rfl rfl (by refine o1_assign rfl fz) ?_)
  all_goals refine op_nil ?_
  all_goals refine re_nil ?_
  all_goals dsimp only [List.cons_append, List.nil_append]
  repeat' (first | refine ls_of rfl ?_ | refine ls_of_no ?_ | refine ls_guard_yes rfl rfl ?_ | refine ls_guard_no rfl rfl rfl rfl ?_ | refine ls_guard_un rfl rfl rfl ?_ | refine o1_move rfl ?_ | refine o1_assign rfl ?_ | refine st_seq ?_ | refine st_region ?_ | refine st_block ?_ | refine st_skip ?_ | refine st_ret ?_ | refine st_exit ?_ | refine st_cond_t rfl ?_ | refine st_cond_f rfl ?_ | refine st_cond rfl (fun _ => ?_) (fun _ => ?_) | refine ls_nil ?_ | refine nx_seq ?_ | refine nx_blk ?_ | refine nx_fn ?_ | refine nx_rounds ?_ | refine xt_seq ?_ | refine xt_here ?_ | refine xt_on rfl ?_ | refine xt_rounds ?_ | refine xt_cut ?_ | refine rt_seq ?_ | refine rt_blk ?_ | refine rt_rounds ?_ | refine rt_cut ?_ | refine o1_peql rfl rfl ?_ | (refine o1_quo rfl rfl (by omega) ?_; rw [hq]) | (refine o1_cs_l (xs := bs) 4 rfl rfl rfl rfl (by omega) ?_; rw [hd4]) | refine o1_pick_t rfl rfl ?_ | refine o1_pick_f rfl rfl ?_ | refine o1_extract rfl rfl ?_ | refine o1_fieldAddr rfl ?_ | refine ox_load rfl (by rfl) ?_ | refine ox_load_enc rfl (by first | omega | (simp; omega)) ?_ | refine ox_load_any rfl (by assumption) ?_ | refine o1_len rfl ?_ | refine o1_add rfl rfl (by omega) ?_ | refine o1_lss_t rfl rfl (by omega) ?_ | refine o1_lss_f rfl rfl (by omega) ?_ | refine o1_lss rfl rfl (fun _ => ?_) (fun _ => ?_) | refine o1_geq_t rfl rfl (by omega) ?_ | refine o1_geq_f rfl rfl (by omega) ?_ | refine o1_geq rfl rfl (fun _ => ?_) (fun _ => ?_) | refine o1_bnot rfl ?_ | refine o1_unot rfl ?_ | refine o1_conv_i rfl (by omega) ?_ | refine o1_conv_ui rfl (by exact bv_small (by decide) _) ?_ | refine o1_slice_nil rfl ?_ | refine o1_nilCheck rfl ?_)
  have hk0 : MOk n z (List.replicate n none) := MOk.none h1 h2 h3 h4
  have hv0 : (List.replicate n none : List (Option RD)).map vw = prefM ML 0 := by rw [prefM_zero, hMLl, List.map_replicate]; rfl
  have hc0 : cntS (prefM ML 0) = 0 := by rw [prefM_zero]; exact cntS_none _
  have hr0 : Rs (stars H) B (cutA ad c 4) (c - 4) (rowsB (ML.drop 0)) := by
    have := hb.cutl 4 (by omega)
    rw [hd4] at this
    exact this
  refine st_loop (S := Nat × Option Addr × Nat × List (Option RD)) (fun q => [(0, .slice ad bs.length c), (4, .pointer (some ⟨bm, 0, none⟩)), (5, I (nb n)), (6, .slice q.2.1 (rowsB (ML.drop q.1)).length q.2.2.1)])
    (fun q => [mB bm n z ar cr (cntS (prefM ML q.1)), mR n ar cr q.2.2.2, .any (mrows q.2.2.2), .any (stars H)])
    (fun q => q.1 ≤ n ∧ Rs (stars H) B q.2.1 q.2.2.1 (rowsB (ML.drop q.1)) ∧ q.2.2.2.map vw = prefM ML q.1 ∧ MOk n z q.2.2.2) (fun q => n - q.1) (0, cutA ad c 4, c - 4, List.replicate n none) ⟨Nat.zero_le _, hr0, hv0, hk0⟩
    (cov_cons rfl rfl (cov_cons rfl rfl (cov_cons rfl rfl (cov_cons rfl rfl cov_nil)))) (by show Ent _ [mB bm n z ar cr (cntS (prefM ML 0)), mR n ar cr (List.replicate n none), .any (mrows (List.replicate n none)), .any (stars H)]; rw [hc0]; (try dsimp only [List.cons_append, List.nil_append, List.singleton_append, List.append_nil]); (repeat (first | exact Ent.nil | exact Ent.refl _ | (apply Ent.cons; (repeat (first | exact Sel.here | apply Sel.there)))))) ?_
  rintro ⟨i0, aa, ca, M⟩ ⟨hi, hrs, hMv, hMk⟩
  dsimp only at hi hrs hMv hMk ⊢
  have hrl := rowsB_len (n := n) (z := z) (M := ML.drop i0) (fun y hy => hRR.lok.ok y (List.mem_of_mem_drop hy))
  rcases next_row ML i0 (by omega) with hnone | ⟨i, y, hci, hy, hbetween⟩
  · have hrest : rowsB (ML.drop i0) = [] := rowsB_none (drop_none hnone)
    have hpm : prefM ML i0 = ML := by
      rw [prefM_skip (d := ML.length) (by omega) (Nat.le_refl _) (fun j h1 h2 => hnone j h1 h2), prefM_all]
    rw [hpm] at hMv
    rw [hrest, hpm, hk]
    have hcond : ¬ ((([] : List (BitVec 8)).length : Int) ≥ (nb n : Nat) + (z : Int)) := by simp; omega
    repeat' (first | refine ls_of rfl ?_ | refine ls_of_no ?_ | refine ls_guard_yes rfl rfl ?_ | refine ls_guard_no rfl rfl rfl rfl ?_ | refine ls_guard_un rfl rfl rfl ?_ | refine o1_move rfl ?_ | refine o1_assign rfl ?_ | refine st_seq ?_ | refine st_region ?_ | refine st_block ?_ | refine st_skip ?_ | refine st_ret ?_ | refine st_exit ?_ | refine st_cond_t rfl ?_ | refine st_cond_f rfl ?_ | refine st_cond rfl (fun _ => ?_) (fun _ => ?_) | refine ls_nil ?_ | refine nx_seq ?_ | refine nx_blk ?_ | refine nx_fn ?_ | refine nx_rounds ?_ | refine xt_seq ?_ | refine xt_here ?_ | refine xt_on rfl ?_ | refine xt_rounds ?_ | refine xt_cut ?_ | refine rt_seq ?_ | refine rt_blk ?_ | refine rt_rounds ?_ | refine rt_cut ?_ | refine o1_geq_f rfl rfl (by simp; omega) ?_ | (refine o1_call (fun hh => elim_Bytes _ bm n z ar cr k M ML bs (RdM.own hMk hh) hMv hbs (by omega)) rfl (fun ⟨a78, c78⟩ _ => ?_); dsimp only) | refine o1_call (fun hh => (slices_Equal _ a78 ad c78 c bs bs (rx_row hh) hb.up).bv (b := true) (by simp)) rfl (fun _ _ => ?_) | refine o1_pick_t rfl rfl ?_ | refine o1_pick_f rfl rfl ?_ | refine o1_extract rfl rfl ?_ | refine o1_fieldAddr rfl ?_ | refine ox_load rfl (by rfl) ?_ | refine ox_load_enc rfl (by first | omega | (simp; omega)) ?_ | refine ox_load_any rfl (by assumption) ?_ | refine o1_len rfl ?_ | refine o1_add rfl rfl (by omega) ?_ | refine o1_lss_t rfl rfl (by omega) ?_ | refine o1_lss_f rfl rfl (by omega) ?_ | refine o1_lss rfl rfl (fun _ => ?_) (fun _ => ?_) | refine o1_geq_t rfl rfl (by omega) ?_ | refine o1_geq_f rfl rfl (by omega) ?_ | refine o1_geq rfl rfl (fun _ => ?_) (fun _ => ?_) | refine o1_bnot rfl ?_ | refine o1_unot rfl ?_ | refine o1_conv_i rfl (by omega) ?_ | refine o1_conv_ui rfl (by exact bv_small (by decide) _) ?_ | refine o1_slice_nil rfl ?_ | refine o1_nilCheck rfl ?_)
    refine rt_tmp2 (bm, (ar, cr), M) rfl rfl rfl rfl ⟨hMv, hMk⟩ ?_
    (try dsimp only [List.cons_append, List.nil_append, List.singleton_append, List.append_nil]); (repeat (first | exact Ent.nil | exact Ent.refl _ | (apply Ent.cons; (repeat (first | exact Sel.here | apply Sel.there)))))
  · obtain ⟨hred, hfst, hfree, hadd, hin⟩ := prefM_red hRR hy
    have hskip := prefM_skip (M := ML) hci (by omega) (fun j h1 h2 => hbetween j h1 h2)
    rw [← hskip] at hred hfree hadd
    obtain ⟨y1, y2⟩ := hRR.lok.ok y (mem_of_get? hy)
    have hrest := rowsB_next hci hy hbetween
    have hcnt := cntS_addM (x := y) hfree
    rw [hadd] at hcnt
    have hcm : cntS (prefM ML i0) ≤ 256 := by have := cntS_le (prefM ML i0); rw [prefM_len _ _ (by omega)] at this; omega
    obtain ⟨raw, hraw⟩ : ∃ raw, bytesV y.1 = raw := ⟨_, rfl⟩
    obtain ⟨tl, htl⟩ : ∃ tl, rowsB (ML.drop (i + 1)) = tl := ⟨_, rfl⟩
    obtain ⟨yb, yd⟩ := y
    dsimp only at y1 y2 hraw hrest hfst
    have hrawl : raw.length = nb n := by rw [← hraw, bytesV_len, y1]
    rw [hraw, htl] at hrest
    rw [hrest] at hrs ⊢
    have t1 : ((raw ++ yd) ++ tl).take (nb n) = raw := by rw [List.append_assoc, List.take_left' hrawl]
    have t2 : (((raw ++ yd) ++ tl).take (nb n + z)).drop (nb n) = yd := by
      rw [List.take_left' (by rw [List.length_append]; omega), List.drop_left' hrawl]
    have t3 : ((raw ++ yd) ++ tl).drop (nb n + z) = tl := by rw [List.drop_left' (by rw [List.length_append]; omega)]
    have hll : ((raw ++ yd) ++ tl).length = nb n + z + tl.length := by rw [List.length_append, List.length_append]; omega
    have hbig := hrs.big
    have hlee := hrs.le
    have f1 : Rs (stars H) B (cutA aa ca 0) (ca - 0) raw := by have := hrs.cuth (nb n) (by omega); rw [t1] at this; exact this
    have f2 : Rs (stars H) B (cutA aa ca (nb n)) (ca - nb n) yd := by have := hrs.cutv (nb n) (nb n + z) (by omega) (by omega); rw [t2] at this; exact this
    have f3 : Rs (stars H) B (cutA aa ca (nb n + z)) (ca - (nb n + z)) tl := by have := hrs.cutl (nb n + z) (by omega); rw [t3] at this; exact this
    have hno : ∀ i, n ≤ i → i < 8 * nb n → rbit raw i = false := fun i h1 h2 => by
      rw [← hraw, rbit_bytes _ _ (by rw [y1]; exact h2)]
      exact getD_out (by omega)
    have hmask : maskV n (rbit raw) n = yb := by
      have e1 := unpV_ok hrawl hno
      have e2 := unpV_bytes yb
      rw [y1, hraw, e1] at e2
      exact Option.some.inj e2
    have hnz : (nb n : Int) + z = ((nb n + z : Nat) : Int) := by push_cast; rfl
    repeat' (first | refine ls_of rfl ?_ | refine ls_of_no ?_ | refine ls_guard_yes rfl rfl ?_ | refine ls_guard_no rfl rfl rfl rfl ?_ | refine ls_guard_un rfl rfl rfl ?_ | refine o1_move rfl ?_ | refine o1_assign rfl ?_ | refine st_seq ?_ | refine st_region ?_ | refine st_block ?_ | refine st_skip ?_ | refine st_ret ?_ | refine st_exit ?_ | refine st_cond_t rfl ?_ | refine st_cond_f rfl ?_ | refine st_cond rfl (fun _ => ?_) (fun _ => ?_) | refine ls_nil ?_ | refine nx_seq ?_ | refine nx_blk ?_ | refine nx_fn ?_ | refine nx_rounds ?_ | refine xt_seq ?_ | refine xt_here ?_ | refine xt_on rfl ?_ | refine xt_rounds ?_ | refine xt_cut ?_ | refine rt_seq ?_ | refine rt_blk ?_ | refine rt_rounds ?_ | refine rt_cut ?_ | (refine o1_add rfl rfl (by omega) ?_; rw [hnz]) | refine o1_geq_t rfl rfl (by omega) ?_ | refine o1_pick_t rfl rfl ?_ | refine o1_pick_f rfl rfl ?_ | refine o1_extract rfl rfl ?_ | refine o1_fieldAddr rfl ?_ | refine ox_load rfl (by rfl) ?_ | refine ox_load_enc rfl (by first | omega | (simp; omega)) ?_ | refine ox_load_any rfl (by assumption) ?_ | refine o1_len rfl ?_ | refine o1_add rfl rfl (by omega) ?_ | refine o1_lss_t rfl rfl (by omega) ?_ | refine o1_lss_f rfl rfl (by omega) ?_ | refine o1_lss rfl rfl (fun _ => ?_) (fun _ => ?_) | refine o1_geq_t rfl rfl (by omega) ?_ | refine o1_geq_f rfl rfl (by omega) ?_ | refine o1_geq rfl rfl (fun _ => ?_) (fun _ => ?_) | refine o1_bnot rfl ?_ | refine o1_unot rfl ?_ | refine o1_conv_i rfl (by omega) ?_ | refine o1_conv_ui rfl (by exact bv_small (by decide) _) ?_ | refine o1_slice_nil rfl ?_ | refine o1_nilCheck rfl ?_)
    refine st_stages [(4, _), (6, _), (5, _)] rtX2_3 [7] [⟨[0, 1, 2, 3, 4, 5, 6], [], some 7⟩, ⟨[8, 9, 10, 11, 12], [], none⟩] mixed (cov_cons rfl rfl (cov_cons rfl rfl (cov_cons rfl rfl cov_nil))) (by kernel_rfl) (by kernel_rfl) ?_
    all_goals refine wk_ch ?_
    all_goals (refine xp1 4 rfl rfl rfl rfl (by refine o1_move rfl fz) ?_)
    all_goals (refine xp1 50 rfl rfl rfl rfl (by refine o1_nilCheck rfl fz) ?_)
    all_goals (refine xp1 51 rfl rfl rfl rfl (by refine o1_fieldAddr rfl fz) ?_)
    all_goals (refine xp1 52 rfl rfl rfl rfl (by first | refine ox_load rfl (by rfl) fz | refine ox_load_enc rfl (by first | omega | (simp; omega)) fz | refine ox_load_any rfl (by assumption) fz) ?_)
    all_goals (refine xp1 6 rfl rfl rfl rfl (by refine o1_move rfl fz) ?_)
    all_goals (refine xp1 5 rfl rfl rfl rfl (by refine o1_move rfl fz) ?_)
    all_goals (refine xp2 54 55 rfl rfl rfl rfl rfl (by ((refine o1_cs_h (xs := (raw ++ yd) ++ tl) (nb n) rfl rfl rfl rfl (by omega) (by omega) ?_; rw [t1]); all_goals exact fz)) ?_)
    all_goals refine op_nil ?_
    all_goals refine re_nil ?_
    all_goals first | (refine ch_run (E' := [(53, _), (56, _)]) rfl (gd_r0 rfl) rfl (cov_cons rfl rfl (cov_cons rfl rfl cov_nil)) ?_; (first | (refine o1_call (fun _ => vec_From_ok _ n (cutA aa ca 0) raw.length (ca - 0) raw h2 (Rs.up f1) rfl hrawl hno) rfl (fun ⟨b57, a57, c57⟩ _ => ?_); (try dsimp only); rw [hmask])))
    all_goals refine wk_end ?_
    all_goals (refine xp1 57 rfl rfl rfl rfl (by refine o1_move rfl fz) ?_)
    all_goals (refine xp1 49 rfl rfl rfl rfl (by refine o1_extract rfl rfl fz) ?_)
    all_goals (refine xp1 49 rfl rfl rfl rfl (by refine o1_extract rfl rfl fz) ?_)
    all_goals (refine xp1 58 rfl rfl rfl rfl (by refine o1_assign rfl fz) ?_)
    all_goals (refine xp1 59 rfl rfl rfl rfl (by refine o1_assign rfl fz) ?_)
    all_goals refine op_nil ?_
    all_goals refine re_nil ?_
    all_goals dsimp only [List.cons_append, List.nil_append]
    repeat' (first | refine ls_of rfl ?_ | refine ls_of_no ?_ | refine ls_guard_yes rfl rfl ?_ | refine ls_guard_no rfl rfl rfl rfl ?_ | refine ls_guard_un rfl rfl rfl ?_ | refine o1_move rfl ?_ | refine o1_assign rfl ?_ | refine st_seq ?_ | refine st_region ?_ | refine st_block ?_ | refine st_skip ?_ | refine st_ret ?_ | refine st_exit ?_ | refine st_cond_t rfl ?_ | refine st_cond_f rfl ?_ | refine st_cond rfl (fun _ => ?_) (fun _ => ?_) | refine ls_nil ?_ | refine nx_seq ?_ | refine nx_blk ?_ | refine nx_fn ?_ | refine nx_rounds ?_ | refine xt_seq ?_ | refine xt_here ?_ | refine xt_on rfl ?_ | refine xt_rounds ?_ | refine xt_cut ?_ | refine rt_seq ?_ | refine rt_blk ?_ | refine rt_rounds ?_ | refine rt_cut ?_ | (refine o1_add rfl rfl (by omega) ?_; rw [hnz]) | (refine o1_cs_lh (xs := (raw ++ yd) ++ tl) (nb n) (nb n + z) rfl rfl rfl rfl rfl rfl (by omega) (by omega) (by omega) ?_; rw [t2]) | (refine o1_call_bra bm ar cr (mrows M) (fun hh => elim_Add _ bm n z ar cr (cntS (prefM ML i0)) M ⟨b57, n, a57, c57, yb⟩ (cutA aa ca (nb n)) yd.length (ca - nb n) yd (prefM ML i0) (yb, yd) i hMk hMv (RdV.own y1 h2 (has_tail (has_tail (has_tail hh)))) rfl (Rs.up f2) rfl y2 hred hfst hfree (by omega) (TabF.up ht)) rfl (fun M2 hM2 => ?_)) | (refine o1_cs_l (xs := (raw ++ yd) ++ tl) (nb n + z) rfl rfl rfl rfl (by omega) ?_; rw [t3]) | refine o1_pick_t rfl rfl ?_ | refine o1_pick_f rfl rfl ?_ | refine o1_extract rfl rfl ?_ | refine o1_fieldAddr rfl ?_ | refine ox_load rfl (by rfl) ?_ | refine ox_load_enc rfl (by first | omega | (simp; omega)) ?_ | refine ox_load_any rfl (by assumption) ?_ | refine o1_len rfl ?_ | refine o1_add rfl rfl (by omega) ?_ | refine o1_lss_t rfl rfl (by omega) ?_ | refine o1_lss_f rfl rfl (by omega) ?_ | refine o1_lss rfl rfl (fun _ => ?_) (fun _ => ?_) | refine o1_geq_t rfl rfl (by omega) ?_ | refine o1_geq_f rfl rfl (by omega) ?_ | refine o1_geq rfl rfl (fun _ => ?_) (fun _ => ?_) | refine o1_bnot rfl ?_ | refine o1_unot rfl ?_ | refine o1_conv_i rfl (by omega) ?_ | refine o1_conv_ui rfl (by exact bv_small (by decide) _) ?_ | refine o1_slice_nil rfl ?_ | refine o1_nilCheck rfl ?_)
    refine nx_again (i + 1, cutA aa ca (nb n + z), ca - (nb n + z), M2) ⟨?_, ?_, ?_, hM2.2⟩ ?_ (cov_cons rfl rfl (cov_cons rfl rfl (cov_cons rfl rfl (cov_cons rfl (by show Value.slice _ tl.length _ = Value.slice _ (rowsB (ML.drop (i + 1))).length _; rw [htl]) cov_nil)))) ?_
    · show i + 1 ≤ n; omega
    · show Rs (stars H) B (cutA aa ca (nb n + z)) (ca - (nb n + z)) (rowsB (ML.drop (i + 1)))
      rw [htl]; exact f3
    · show M2.map vw = prefM ML (i + 1)
      rw [hM2.1, hadd]
    · show n - (i + 1) < n - i0; omega
    · show Ent _ [mB bm n z ar cr (cntS (prefM ML (i + 1))), mR n ar cr M2, .any (mrows M2), .any (stars H)]
      rw [hcnt]
      (try dsimp only [List.cons_append, List.nil_append, List.singleton_append, List.append_nil]); (repeat (first | exact Ent.nil | exact Ent.refl _ | (apply Ent.cons; (repeat (first | exact Sel.here | apply Sel.there)))))
end Go.Dp
