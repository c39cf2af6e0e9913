/-
  The reference's Join, XorBytes, walked.
  elim: rows and matrices as data; row.xor, New, walked.
  elim: reduced, Add, Rank, walked.
  Numbers as bytes, plain.
  elim: Add, Solve, walked; a matrix that there isn't.
  Matrices, reduced: what adding a row keeps, plain.
  The reference's matrix: its rows in order, plain.
  The reference's matrix: NewMatrix, reduce, Says, walked.
  The reference's matrix: Add, walked.
  elim: Row, Says, Bytes of a matrix that there isn't; downpourlaw6: awake, ElimNil, walked.
  Conditions: those that stand in each theorem.
-/
import Derived.Test.YtlmmnnhbnbakgaaDoorQElimReads1
import Derived.Test.YtlmmnnhbnbakgaaDoorQElimReads0
set_option linter.unusedVariables false
set_option linter.unusedSimpArgs false
namespace Go.Dp
open Go.RowKit Go.Proofs
def rtY0_0 : List Row := [⟨some 15, [], [], none⟩, ⟨some 16, [], [], none⟩, ⟨some 17, [], [], none⟩, ⟨some 18, [], [], none⟩, ⟨some 19, [2, 3], [2, 3], none⟩, ⟨some 20, [4], [2, 3, 4], none⟩, ⟨some 21, [], [], none⟩, ⟨some 22, [], [], none⟩, ⟨some 23, [6, 7], [6, 7], none⟩, ⟨some 24, [8], [6, 7, 8], none⟩, ⟨some 25, [5, 9], [2, 3, 4, 5, 6, 7, 8, 9], none⟩, ⟨some 26, [0, 1, 0, 1, 2, 3, 4, 5, 6, 7, 8, 9, 10], [0, 1, 2, 3, 4, 5, 6, 7, 8, 9, 10], none⟩, ⟨none, [11, 10, 0, 1, 2, 3, 4, 5, 6, 7, 8, 9, 10], [0, 1, 2, 3, 4, 5, 6, 7, 8, 9, 10, 11], none⟩]
set_option maxHeartbeats 1000000 in
theorem r1_Join (H : List Hl) (ad : Option Addr) (c : Nat) (ls : List (SlD (BitVec 8))) (h : Rs (stars H) Bs ad c ls) (hs : ∀ s ∈ ls, Rs (stars H) B s.ad s.cap s.l) (hb : (cat ls).length ≤ 140737488355328) :
    Spec Tryd.prog 66 [.slice ad ls.length c] H (fun _ : Option Addr × Nat => True) (fun r => .slice r.1 (cat ls).length r.2)
      (fun r => .row 5 1 (.slice r.1 (cat ls).length r.2) (cat ls).length ((cat ls).map B) :: H) := by
  have b1 := h.le
  have b2 := h.big
  have hle : ∀ i, (cat (ls.take i)).length ≤ (cat ls).length := fun i => by
    have : cat ls = cat (ls.take i) ++ cat (ls.drop i) := by simp only [cat]; rw [← List.flatMap_append, List.take_append_drop]
    rw [this, List.length_append]
    omega
  refine spec_pure (res := fun r : Option Addr × Nat => [.row 5 1 (.slice r.1 (cat ls).length r.2) (cat ls).length ((cat ls).map B)]) H Tryd.func66 rfl Tryd.ntmps66 (by kernel_rfl) rfl (fun W => ?_)
  repeat' (first | refine ls_of rfl ?_ | refine ls_of_no ?_ | refine ls_guard_yes rfl rfl ?_ | refine ls_guard_no rfl rfl rfl rfl ?_ | refine ls_guard_un rfl rfl rfl ?_ | refine o1_move rfl ?_ | refine o1_assign rfl ?_ | refine st_seq ?_ | refine st_region ?_ | refine st_block ?_ | refine st_skip ?_ | refine st_ret ?_ | refine st_exit ?_ | refine st_cond_t rfl ?_ | refine st_cond_f rfl ?_ | refine st_cond rfl (fun _ => ?_) (fun _ => ?_) | refine ls_nil ?_ | refine nx_seq ?_ | refine nx_blk ?_ | refine nx_fn ?_ | refine nx_rounds ?_ | refine xt_seq ?_ | refine xt_here ?_ | refine xt_on rfl ?_ | refine xt_rounds ?_ | refine xt_cut ?_ | refine rt_seq ?_ | refine rt_blk ?_ | refine rt_rounds ?_ | refine rt_cut ?_ | refine ox_load rfl (by rfl) ?_ | refine ox_load_enc rfl (by first | omega | (simp; omega)) ?_ | refine ox_load_any rfl (by assumption) ?_ | refine o1_len rfl ?_ | refine o1_add rfl rfl (by omega) ?_ | refine o1_lss_t rfl rfl (by omega) ?_ | refine o1_lss_f rfl rfl (by omega) ?_ | refine o1_lss rfl rfl (fun _ => ?_) (fun _ => ?_) | refine ox_append rfl rfl (rx_box rfl (by first | decide | omega)) rfl rfl (fun _ => rfl) (by omega) (by omega) (fun _ _ => ?_) | refine ox_append rfl rfl (rx_any (by assumption)) rfl rfl (fun _ => rfl) (by omega) (by omega) (fun _ _ => ?_) | refine ox_append rfl rfl rx_row rfl rfl (fun _ => rfl) (by omega) (by omega) (fun _ _ => ?_))
  refine st_ent (ent_nil 5 B) ?_
  refine st_loop (S := Nat × Option Addr × Nat) (fun s => [(3, .slice s.2.1 (cat (ls.take s.1)).length s.2.2), (6, .slice ad ls.length c), (7, I ls.length), (8, I s.1)]) (fun s => [.row 5 1 (.slice s.2.1 (cat (ls.take s.1)).length s.2.2) (cat (ls.take s.1)).length ((cat (ls.take s.1)).map B), .any (stars H)]) (fun s => s.1 ≤ ls.length) (fun s => ls.length - s.1) (0, none, 0) (by omega)
    (cov_cons rfl rfl (cov_cons rfl rfl (cov_cons rfl rfl (cov_cons rfl rfl cov_nil)))) (Ent.refl _) ?_
  rintro ⟨i, a1, c1⟩ hi
  dsimp only at hi ⊢
  have hi1 := hle (i + 1)
  by_cases hlt : i < ls.length
  · have hsi := hs ls[i] (List.getElem_mem _)
    rw [cat_succ _ _ hlt, List.length_append] at hi1
    repeat' (first | refine ls_of rfl ?_ | refine ls_of_no ?_ | refine ls_guard_yes rfl rfl ?_ | refine ls_guard_no rfl rfl rfl rfl ?_ | refine ls_guard_un rfl rfl rfl ?_ | refine o1_move rfl ?_ | refine o1_assign rfl ?_ | refine st_seq ?_ | refine st_region ?_ | refine st_block ?_ | refine st_skip ?_ | refine st_ret ?_ | refine st_exit ?_ | refine st_cond_t rfl ?_ | refine st_cond_f rfl ?_ | refine st_cond rfl (fun _ => ?_) (fun _ => ?_) | refine ls_nil ?_ | refine nx_seq ?_ | refine nx_blk ?_ | refine nx_fn ?_ | refine nx_rounds ?_ | refine xt_seq ?_ | refine xt_here ?_ | refine xt_on rfl ?_ | refine xt_rounds ?_ | refine xt_cut ?_ | refine rt_seq ?_ | refine rt_blk ?_ | refine rt_rounds ?_ | refine rt_cut ?_ | refine o1_indexAddr_rd rfl rfl h i rfl hlt (fun a ha => ?_) | refine ox_append rfl rfl (rx_any hsi) rfl rfl (fun _ => rfl) (by omega) (by omega) (fun a2 c2 => ?_) | refine ox_load rfl (by rfl) ?_ | refine ox_load_enc rfl (by first | omega | (simp; omega)) ?_ | refine ox_load_any rfl (by assumption) ?_ | refine o1_len rfl ?_ | refine o1_add rfl rfl (by omega) ?_ | refine o1_lss_t rfl rfl (by omega) ?_ | refine o1_lss_f rfl rfl (by omega) ?_ | refine o1_lss rfl rfl (fun _ => ?_) (fun _ => ?_) | refine ox_append rfl rfl (rx_box rfl (by first | decide | omega)) rfl rfl (fun _ => rfl) (by omega) (by omega) (fun _ _ => ?_) | refine ox_append rfl rfl (rx_any (by assumption)) rfl rfl (fun _ => rfl) (by omega) (by omega) (fun _ _ => ?_) | refine ox_append rfl rfl rx_row rfl rfl (fun _ => rfl) (by omega) (by omega) (fun _ _ => ?_))
    refine nx_again (i + 1, a2, c2) ?_ ?_ (cov_cons rfl ?_ (cov_cons rfl rfl (cov_cons rfl rfl (cov_cons rfl rfl cov_nil)))) ?_
    · show i + 1 ≤ _; omega
    · show ls.length - (i + 1) < ls.length - i; omega
    · show _ = Value.slice a2 (cat (ls.take (i + 1))).length c2
      rw [cat_succ _ _ hlt, List.length_append]
    · show Ent _ [Hl.row 5 1 (.slice a2 (cat (ls.take (i + 1))).length c2) (cat (ls.take (i + 1))).length ((cat (ls.take (i + 1))).map B), .any (stars H)]
      rw [cat_succ _ _ hlt, List.length_append]
      exact Ent.refl _
  · have : i = ls.length := by omega
    subst this
    repeat' (first | refine ls_of rfl ?_ | refine ls_of_no ?_ | refine ls_guard_yes rfl rfl ?_ | refine ls_guard_no rfl rfl rfl rfl ?_ | refine ls_guard_un rfl rfl rfl ?_ | refine o1_move rfl ?_ | refine o1_assign rfl ?_ | refine st_seq ?_ | refine st_region ?_ | refine st_block ?_ | refine st_skip ?_ | refine st_ret ?_ | refine st_exit ?_ | refine st_cond_t rfl ?_ | refine st_cond_f rfl ?_ | refine st_cond rfl (fun _ => ?_) (fun _ => ?_) | refine ls_nil ?_ | refine nx_seq ?_ | refine nx_blk ?_ | refine nx_fn ?_ | refine nx_rounds ?_ | refine xt_seq ?_ | refine xt_here ?_ | refine xt_on rfl ?_ | refine xt_rounds ?_ | refine xt_cut ?_ | refine rt_seq ?_ | refine rt_blk ?_ | refine rt_rounds ?_ | refine rt_cut ?_ | refine ox_load rfl (by rfl) ?_ | refine ox_load_enc rfl (by first | omega | (simp; omega)) ?_ | refine ox_load_any rfl (by assumption) ?_ | refine o1_len rfl ?_ | refine o1_add rfl rfl (by omega) ?_ | refine o1_lss_t rfl rfl (by omega) ?_ | refine o1_lss_f rfl rfl (by omega) ?_ | refine o1_lss rfl rfl (fun _ => ?_) (fun _ => ?_) | refine ox_append rfl rfl (rx_box rfl (by first | decide | omega)) rfl rfl (fun _ => rfl) (by omega) (by omega) (fun _ _ => ?_) | refine ox_append rfl rfl (rx_any (by assumption)) rfl rfl (fun _ => rfl) (by omega) (by omega) (fun _ _ => ?_) | refine ox_append rfl rfl rx_row rfl rfl (fun _ => rfl) (by omega) (by omega) (fun _ _ => ?_))
    simp only [List.take_length]
    refine rt_tmp (_, _) rfl rfl rfl trivial ?_
    (try dsimp only [List.cons_append, List.nil_append, List.singleton_append, List.append_nil]); (repeat (first | exact Ent.nil | exact Ent.refl _ | (apply Ent.cons; (repeat (first | exact Sel.here | apply Sel.there)))))
set_option maxHeartbeats 1000000 in
theorem r1_XorBytes (H : List Hl) (ad ad' : Option Addr) (c c' : Nat) (x y : List (BitVec 8)) (hx : Rs (stars H) B ad c x) (hy : Rs (stars H) B ad' c' y) (hl : x.length = y.length) (hb : x.length ≤ 281474976710656) :
    Spec Tryd.prog 67 [.slice ad x.length c, .slice ad' y.length c'] H (fun _ : Nat => True) (fun b => .slice (some ⟨b, 0, none⟩) x.length x.length) (fun b => .box b 5 ((xorL x y).map B) :: H) := by
  have b1 := hx.le
  have b2 := hx.big
  have hz : (xorL x y).length = (List.replicate x.length (0#8)).length := by rw [xorL_len _ _ hl, List.length_replicate]
  refine spec_pure (res := fun b : Nat => [.box b 5 ((xorL x y).map B)]) H Tryd.func67 rfl Tryd.ntmps67 (by kernel_rfl) rfl (fun W => ?_)
  repeat' (first | refine ls_of rfl ?_ | refine ls_of_no ?_ | refine ls_guard_yes rfl rfl ?_ | refine ls_guard_no rfl rfl rfl rfl ?_ | refine ls_guard_un rfl rfl rfl ?_ | refine o1_move rfl ?_ | refine o1_assign rfl ?_ | refine st_seq ?_ | refine st_region ?_ | refine st_block ?_ | refine st_skip ?_ | refine st_ret ?_ | refine st_exit ?_ | refine st_cond_t rfl ?_ | refine st_cond_f rfl ?_ | refine st_cond rfl (fun _ => ?_) (fun _ => ?_) | refine ls_nil ?_ | refine nx_seq ?_ | refine nx_blk ?_ | refine nx_fn ?_ | refine nx_rounds ?_ | refine xt_seq ?_ | refine xt_here ?_ | refine xt_on rfl ?_ | refine xt_rounds ?_ | refine xt_cut ?_ | refine rt_seq ?_ | refine rt_blk ?_ | refine rt_rounds ?_ | refine rt_cut ?_ | refine o1_maker (enc := B) 0#8 x.length rfl rfl rfl rfl rfl (by omega) (by omega) (fun _ => ?_) | refine ox_load rfl (by rfl) ?_ | refine ox_load_enc rfl (by first | omega | (simp; omega)) ?_ | refine ox_load_any rfl (by assumption) ?_ | refine o1_len rfl ?_ | refine o1_add rfl rfl (by omega) ?_ | refine o1_lss_t rfl rfl (by omega) ?_ | refine o1_lss_f rfl rfl (by omega) ?_ | refine o1_lss rfl rfl (fun _ => ?_) (fun _ => ?_) | refine o1_uxor rfl rfl ?_ | refine o1_maken (enc := B) 0#8 rfl rfl rfl rfl (by omega) (by omega) (by omega) (fun _ => ?_) | refine ox_store_enc B rfl rfl (by first | omega | (simp; done) | (simp; omega)) rfl ?_ | refine ox_stores rfl rfl (by first | omega | (simp; done) | (simp; omega)) rfl (by first | (simp only [List.set_cons_zero, List.set_cons_succ, Nat.zero_add, Nat.reduceAdd]; rfl) | rfl) ?_)
  rename_i b
  refine st_loop (S := Nat) (fun i => [(0, .slice ad x.length c), (1, .slice ad' y.length c'), (5, .slice (some ⟨b, 0, none⟩) x.length x.length), (11, I x.length), (12, I i)]) (fun i => [.box b 5 ((partL (xorL x y) (List.replicate x.length 0#8) i).map B), .any (stars H)]) (fun i => i ≤ x.length) (fun i => x.length - i) 0 (by omega)
    (cov_cons rfl rfl (cov_cons rfl rfl (cov_cons rfl rfl (cov_cons rfl rfl (cov_cons rfl rfl cov_nil))))) (Ent.refl _) ?_
  rintro i hi
  by_cases hlt : i < x.length
  · have hpl := partL_len hz i
    rw [List.length_replicate] at hpl
    repeat' (first | refine ls_of rfl ?_ | refine ls_of_no ?_ | refine ls_guard_yes rfl rfl ?_ | refine ls_guard_no rfl rfl rfl rfl ?_ | refine ls_guard_un rfl rfl rfl ?_ | refine o1_move rfl ?_ | refine o1_assign rfl ?_ | refine st_seq ?_ | refine st_region ?_ | refine st_block ?_ | refine st_skip ?_ | refine st_ret ?_ | refine st_exit ?_ | refine st_cond_t rfl ?_ | refine st_cond_f rfl ?_ | refine st_cond rfl (fun _ => ?_) (fun _ => ?_) | refine ls_nil ?_ | refine nx_seq ?_ | refine nx_blk ?_ | refine nx_fn ?_ | refine nx_rounds ?_ | refine xt_seq ?_ | refine xt_here ?_ | refine xt_on rfl ?_ | refine xt_rounds ?_ | refine xt_cut ?_ | refine rt_seq ?_ | refine rt_blk ?_ | refine rt_rounds ?_ | refine rt_cut ?_ | refine ox_load rfl (by rfl) ?_ | refine ox_load_enc rfl (by first | omega | (simp; omega)) ?_ | refine ox_load_any rfl (by assumption) ?_ | refine o1_len rfl ?_ | refine o1_add rfl rfl (by omega) ?_ | refine o1_lss_t rfl rfl (by omega) ?_ | refine o1_lss_f rfl rfl (by omega) ?_ | refine o1_lss rfl rfl (fun _ => ?_) (fun _ => ?_) | refine o1_uxor rfl rfl ?_ | refine o1_maken (enc := B) 0#8 rfl rfl rfl rfl (by omega) (by omega) (by omega) (fun _ => ?_) | refine ox_store_enc B rfl rfl (by first | omega | (simp; done) | (simp; omega)) rfl ?_ | refine ox_stores rfl rfl (by first | omega | (simp; done) | (simp; omega)) rfl (by first | (simp only [List.set_cons_zero, List.set_cons_succ, Nat.zero_add, Nat.reduceAdd]; rfl) | rfl) ?_)
    refine st_stages [(5, _), (6, _), (0, _), (1, _)] rtY0_0 [12] [⟨[0, 1, 2, 3, 4, 5, 6, 7, 8, 9, 10, 11], [], some 12⟩, ⟨[], [], none⟩] mixed (cov_cons rfl rfl (cov_cons rfl rfl (cov_cons rfl rfl (cov_cons rfl rfl cov_nil)))) (by kernel_rfl) (by kernel_rfl) ?_
    all_goals refine wk_ch ?_
    all_goals (refine xp1 5 rfl rfl rfl rfl (by refine o1_move rfl fz) ?_)
    all_goals (refine xp1 6 rfl rfl rfl rfl (by refine o1_move rfl fz) ?_)
    all_goals (refine xp1 0 rfl rfl rfl rfl (by refine o1_move rfl fz) ?_)
    all_goals (refine xp1 6 rfl rfl rfl rfl (by refine o1_move rfl fz) ?_)
    all_goals (refine xp2 17 18 rfl rfl rfl rfl rfl (by first | refine o1_own i rfl rfl rfl hlt fz | refine o1_ia i rfl rfl hx rfl rfl hlt fz | refine o1_ia i rfl rfl hy rfl rfl (by omega) fz) ?_)
    all_goals (refine xp1 19 rfl rfl rfl rfl (by first | refine o1_load_ia i rfl hx hlt fz | refine o1_load_ia i rfl hy (by omega) fz | refine ox_load rfl (by rfl) fz | refine ox_load_enc rfl (by first | omega | (simp; omega)) fz | refine ox_load_any rfl (by assumption) fz) ?_)
    all_goals (refine xp1 1 rfl rfl rfl rfl (by refine o1_move rfl fz) ?_)
    all_goals (refine xp1 6 rfl rfl rfl rfl (by refine o1_move rfl fz) ?_)
    all_goals (refine xp2 21 22 rfl rfl rfl rfl rfl (by first | refine o1_own i rfl rfl rfl hlt fz | refine o1_ia i rfl rfl hx rfl rfl hlt fz | refine o1_ia i rfl rfl hy rfl rfl (by omega) fz) ?_)
    all_goals (refine xp1 23 rfl rfl rfl rfl (by first | refine o1_load_ia i rfl hx hlt fz | refine o1_load_ia i rfl hy (by omega) fz | refine ox_load rfl (by rfl) fz | refine ox_load_enc rfl (by first | omega | (simp; omega)) fz | refine ox_load_any rfl (by assumption) fz) ?_)
    all_goals (refine xp2 20 24 rfl rfl rfl rfl rfl (by refine o1_uxor rfl rfl fz) ?_)
    all_goals (refine xp2 15 16 rfl rfl rfl rfl rfl (by first | refine o1_own i rfl rfl rfl hlt fz | refine o1_ia i rfl rfl hx rfl rfl hlt fz | refine o1_ia i rfl rfl hy rfl rfl (by omega) fz) ?_)
    all_goals refine op_nil ?_
    all_goals refine re_nil ?_
    all_goals first | (refine ch_run_no (E' := [(26, _), (25, _)]) rfl (gd_r0 rfl) rfl (cov_cons rfl rfl (cov_cons rfl rfl cov_nil)) ?_; (first | refine ox_store_enc B rfl rfl (by first | omega | (simp; done) | (simp; omega)) rfl ?_ | refine ox_stores rfl rfl (by first | omega | (simp; done) | (simp; omega)) rfl (by first | (simp only [List.set_cons_zero, List.set_cons_succ, Nat.zero_add, Nat.reduceAdd]; rfl) | rfl) ?_))
    all_goals refine wk_end ?_
    all_goals refine op_nil ?_
    all_goals refine re_nil ?_
    all_goals dsimp only [List.cons_append, List.nil_append]
    repeat' (first | refine ls_of rfl ?_ | refine ls_of_no ?_ | refine ls_guard_yes rfl rfl ?_ | refine ls_guard_no rfl rfl rfl rfl ?_ | refine ls_guard_un rfl rfl rfl ?_ | refine o1_move rfl ?_ | refine o1_assign rfl ?_ | refine st_seq ?_ | refine st_region ?_ | refine st_block ?_ | refine st_skip ?_ | refine st_ret ?_ | refine st_exit ?_ | refine st_cond_t rfl ?_ | refine st_cond_f rfl ?_ | refine st_cond rfl (fun _ => ?_) (fun _ => ?_) | refine ls_nil ?_ | refine nx_seq ?_ | refine nx_blk ?_ | refine nx_fn ?_ | refine nx_rounds ?_ | refine xt_seq ?_ | refine xt_here ?_ | refine xt_on rfl ?_ | refine xt_rounds ?_ | refine xt_cut ?_ | refine rt_seq ?_ | refine rt_blk ?_ | refine rt_rounds ?_ | refine rt_cut ?_ | refine ox_load rfl (by rfl) ?_ | refine ox_load_enc rfl (by first | omega | (simp; omega)) ?_ | refine ox_load_any rfl (by assumption) ?_ | refine o1_len rfl ?_ | refine o1_add rfl rfl (by omega) ?_ | refine o1_lss_t rfl rfl (by omega) ?_ | refine o1_lss_f rfl rfl (by omega) ?_ | refine o1_lss rfl rfl (fun _ => ?_) (fun _ => ?_) | refine o1_uxor rfl rfl ?_ | refine o1_maken (enc := B) 0#8 rfl rfl rfl rfl (by omega) (by omega) (by omega) (fun _ => ?_) | refine ox_store_enc B rfl rfl (by first | omega | (simp; done) | (simp; omega)) rfl ?_ | refine ox_stores rfl rfl (by first | omega | (simp; done) | (simp; omega)) rfl (by first | (simp only [List.set_cons_zero, List.set_cons_succ, Nat.zero_add, Nat.reduceAdd]; rfl) | rfl) ?_)
    refine nx_again (i + 1) (by omega) (by omega) (cov_cons rfl rfl (cov_cons rfl rfl (cov_cons rfl rfl (cov_cons rfl rfl (cov_cons rfl rfl cov_nil))))) ?_
    have hv : (x[i] ^^^ y[i]'(by omega)) = (xorL x y)[i]'(by rw [xorL_len _ _ hl]; exact hlt) := by simp [xorL]
    rw [hv, partL_succ hz]
    (try dsimp only [List.cons_append, List.nil_append, List.singleton_append, List.append_nil]); (repeat (first | exact Ent.nil | exact Ent.refl _ | (apply Ent.cons; (repeat (first | exact Sel.here | apply Sel.there)))))
  · have : i = x.length := by omega
    subst this
    repeat' (first | refine ls_of rfl ?_ | refine ls_of_no ?_ | refine ls_guard_yes rfl rfl ?_ | refine ls_guard_no rfl rfl rfl rfl ?_ | refine ls_guard_un rfl rfl rfl ?_ | refine o1_move rfl ?_ | refine o1_assign rfl ?_ | refine st_seq ?_ | refine st_region ?_ | refine st_block ?_ | refine st_skip ?_ | refine st_ret ?_ | refine st_exit ?_ | refine st_cond_t rfl ?_ | refine st_cond_f rfl ?_ | refine st_cond rfl (fun _ => ?_) (fun _ => ?_) | refine ls_nil ?_ | refine nx_seq ?_ | refine nx_blk ?_ | refine nx_fn ?_ | refine nx_rounds ?_ | refine xt_seq ?_ | refine xt_here ?_ | refine xt_on rfl ?_ | refine xt_rounds ?_ | refine xt_cut ?_ | refine rt_seq ?_ | refine rt_blk ?_ | refine rt_rounds ?_ | refine rt_cut ?_ | refine ox_load rfl (by rfl) ?_ | refine ox_load_enc rfl (by first | omega | (simp; omega)) ?_ | refine ox_load_any rfl (by assumption) ?_ | refine o1_len rfl ?_ | refine o1_add rfl rfl (by omega) ?_ | refine o1_lss_t rfl rfl (by omega) ?_ | refine o1_lss_f rfl rfl (by omega) ?_ | refine o1_lss rfl rfl (fun _ => ?_) (fun _ => ?_) | refine o1_uxor rfl rfl ?_ | refine o1_maken (enc := B) 0#8 rfl rfl rfl rfl (by omega) (by omega) (by omega) (fun _ => ?_) | refine ox_store_enc B rfl rfl (by first | omega | (simp; done) | (simp; omega)) rfl ?_ | refine ox_stores rfl rfl (by first | omega | (simp; done) | (simp; omega)) rfl (by first | (simp only [List.set_cons_zero, List.set_cons_succ, Nat.zero_add, Nat.reduceAdd]; rfl) | rfl) ?_)
    refine rt_tmp b rfl rfl rfl trivial ?_
    rw [partL_full hz (by rw [List.length_replicate])]
    (try dsimp only [List.cons_append, List.nil_append, List.singleton_append, List.append_nil]); (repeat (first | exact Ent.nil | exact Ent.refl _ | (apply Ent.cons; (repeat (first | exact Sel.here | apply Sel.there)))))
theorem r1_XorB (H : List Hl) (ad ad' : Option Addr) (m c m' c' : Nat) (x y : List (BitVec 8)) (hx : Rs (stars H) B ad c x) (hy : Rs (stars H) B ad' c' y) (hm : m = x.length) (hm' : m' = y.length) (hl : m' = m) (hb : m ≤ 281474976710656) :
    Spec Tryd.prog 67 [.slice ad m c, .slice ad' m' c'] H (fun _ : Nat => True) (fun b => .slice (some ⟨b, 0, none⟩) m m) (fun b => .box b 5 ((xorL x y).map B) :: H) := by
  subst hm hm'
  exact r1_XorBytes H ad ad' c c' x y hx hy (by omega) hb
theorem Spec.args {P : Program} {f : FuncId} {args args' : List Value} {H : List Hl} {X : Type} {good : X → Prop} {val : X → Value} {res : X → List Hl} (h : Spec P f args H good val res) (e : args = args') : Spec P f args' H good val res := e ▸ h
end Go.Dp

set_option linter.unusedVariables false
set_option linter.unusedSimpArgs false
namespace Go.Dp
open Go.RowKit Go.Proofs
def rtW1_0 : List Row := [⟨some 6, [], [], none⟩, ⟨some 7, [0], [0], none⟩, ⟨some 8, [1], [0, 1], none⟩, ⟨some 9, [2], [0, 1, 2], none⟩, ⟨some 10, [], [], none⟩, ⟨some 11, [4], [4], none⟩, ⟨some 12, [5], [4, 5], none⟩, ⟨some 13, [6], [4, 5, 6], none⟩, ⟨some 14, [3, 7], [0, 1, 2, 3, 4, 5, 6, 7], none⟩]
/-- A row of a matrix: its box, its bits, its data. -/
structure RD where
  b : Nat
  v : VD
  ad : Option Addr
  z : Nat
  cd : Nat
  d : List (BitVec 8)
abbrev rX (b : Nat) (p : Value) (ad : Option Addr) (z cd : Nat) : Hl := .box b 101 [p, .slice ad z cd]
abbrev rD (ad : Option Addr) (z cd : Nat) (d : List (BitVec 8)) : Hl := .row 5 1 (.slice ad z cd) z (d.map B)
structure RD.ok (r : RD) : Prop where
  v : r.v.ok
  d : r.d.length = r.z
structure RdR (A : Hp → Prop) (r : RD) : Prop where
  p : Cl A ⟨r.b, 0, none⟩ (Pv r.v)
  s : Cl A ⟨r.b, 1, none⟩ (.slice r.ad r.z r.cd)
  v : RdV A r.v
  d : Rs A B r.ad r.cd r.d
  z : r.d.length = r.z
theorem RdR.up {A : Hp → Prop} {r : RD} {H H' : List Hl} (h : RdR A r) [s : SAny H A H'] : RdR (stars H) r := ⟨cl_up h.p, cl_up h.s, h.v.up, h.d.up, h.z⟩
theorem RdR.own {b vb n : Nat} {va : Option Addr} {vc : Nat} {l : List Bool} {ad : Option Addr} {z cd : Nat} {d : List (BitVec 8)} {H H0 H1 H2 H3 : List Hl} {m m2 : Nat} [s0 : SBox H b 101 [.pointer (some ⟨vb, 0, none⟩), .slice ad z cd] H0] [s : SBox H vb 86 [I n, .slice va (nw n) vc] H1] [s2 : SRow H va vc m 24 ((words l).map W8) H2] [s3 : SRow H ad cd m2 5 (d.map B) H3]
    (hl : l.length = n) (hn : n ≤ 256) (hd : d.length = z) (hh : Has H) : RdR (stars H) ⟨b, ⟨vb, n, va, vc, l⟩, ad, z, cd, d⟩ := ⟨cl_box rfl, cl_box rfl, RdV.own hl hn hh, rx_row hh, hd⟩
section
variable {P : Program} {n : Nat} {H : List Hl} {e : Ev} {C : Value → List Hl → Prop} {ty : TypeId}
/-- A call of what changes a box, a row and what is beside them. -/
theorem o1_call_bra (b : Nat) (ad : Option Addr) (c : Nat) (A : Hp → Prop) {f : FuncId} {xs : List Operand} {args : List Value} {ats : Array TypeId} {X : Type} {good : X → Prop} {val : X → Value} {res : X → List Hl} {m : Nat} {T T2 : TypeId} {cs ys : List Value} {H' H2 H3 : List Hl} [s : SBox H b T cs H'] [s2 : SRow H' ad c m T2 ys H2] [s3 : SAny H2 A H3]
    (hs : Has (.box b T cs :: .row T2 1 (.slice ad m c) m ys :: .any A :: H3) → Spec P f args (.box b T cs :: .row T2 1 (.slice ad m c) m ys :: .any A :: H3) good val res) (hxs : opds e xs = some args) (h : ∀ r, good r → C (val r) (res r)) : O1 P (.call ⟨.value (.func f), xs.toArray, ats⟩) ty n e H C :=
  O1.ent (H2 := .box b T cs :: .row T2 1 (.slice ad m c) m ys :: .any A :: H3) (fun h hh => sep_mono (s.s.out h hh) (fun _ a => a) (fun h' hh' => sep_mono (s2.s.out h' hh') (fun _ a => a) s3.s.out)) (o1_call hs hxs h)
/-- A call, memory laid out anew ahead of it. -/
theorem o1_call_to (H2 : List Hl) {f : FuncId} {xs : List Operand} {args : List Value} {ats : Array TypeId} {X : Type} {good : X → Prop} {val : X → Value} {res : X → List Hl} (hE : ∀ h, stars H h → stars H2 h) (hs : Has H2 → Spec P f args H2 good val res) (hxs : opds e xs = some args) (h : ∀ r, good r → C (val r) (res r)) : O1 P (.call ⟨.value (.func f), xs.toArray, ats⟩) ty n e H C :=
  O1.ent hE (o1_call hs hxs h)
end
set_option maxHeartbeats 2000000 in
theorem row_xor (H : List Hl) (b vb n : Nat) (va : Option Addr) (vc : Nat) (l : List Bool) (ad : Option Addr) (z cd : Nat) (d : List (BitVec 8)) (q : RD) (hl : l.length = n) (hn : n ≤ 256) (hd : d.length = z) (hz16 : z ≤ 16) (hq : RdR (stars H) q) (hqn : q.v.n = n) (hqz : q.z = z) :
    Spec Tryd.prog 55 [.pointer (some ⟨b, 0, none⟩), .pointer (some ⟨q.b, 0, none⟩)] (rX b (.pointer (some ⟨vb, 0, none⟩)) ad z cd :: vB vb n va vc :: vR n va vc l :: rD ad z cd d :: H) (fun _ : Unit => True) (fun _ => .tuple #[]) (fun _ => rX b (.pointer (some ⟨vb, 0, none⟩)) ad z cd :: vB vb n va vc :: vR n va vc (xorV l q.v.l) :: rD ad z cd (xorL d q.d) :: H) := by
  refine spec_fn (res := fun _ : Unit => [rX b (.pointer (some ⟨vb, 0, none⟩)) ad z cd, vB vb n va vc, vR n va vc (xorV l q.v.l), rD ad z cd (xorL d q.d)]) [rX b (.pointer (some ⟨vb, 0, none⟩)) ad z cd, vB vb n va vc, vR n va vc l, rD ad z cd d] H Tryd.func55 rfl Tryd.ntmps55 (by kernel_rfl) rfl (fun W => ?_)
  dsimp only [List.cons_append, List.nil_append]
  have e1 := hq.p
  have e2 := hq.s
  have e3 := hq.d
  have hqd := hq.z
  rw [hqz] at e2 hqd
  obtain ⟨Q, hQ⟩ : ∃ Q, q.d = Q := ⟨_, rfl⟩
  rw [hQ] at e3 hqd
  have hxl := xorL_len d Q (by omega)
  obtain ⟨X, hX⟩ : ∃ X, xorL d Q = X := ⟨_, rfl⟩
  rw [hX] at hxl
  have hz : X.length = d.length := hxl
  obtain ⟨L1, hL1⟩ : ∃ L1, xorV l q.v.l = L1 := ⟨_, rfl⟩
  rw [hQ, hX, hL1]
  repeat' (first | refine ls_of rfl ?_ | refine ls_of_no ?_ | refine ls_guard_yes rfl rfl ?_ | refine ls_guard_no rfl rfl rfl rfl ?_ | refine ls_guard_un rfl rfl rfl ?_ | refine o1_move rfl ?_ | refine o1_assign rfl ?_ | refine st_seq ?_ | refine st_region ?_ | refine st_block ?_ | refine st_skip ?_ | refine st_ret ?_ | refine st_exit ?_ | refine st_cond_t rfl ?_ | refine st_cond_f rfl ?_ | refine st_cond rfl (fun _ => ?_) (fun _ => ?_) | refine ls_nil ?_ | refine nx_seq ?_ | refine nx_blk ?_ | refine nx_fn ?_ | refine nx_rounds ?_ | refine xt_seq ?_ | refine xt_here ?_ | refine xt_on rfl ?_ | refine xt_rounds ?_ | refine xt_cut ?_ | refine rt_seq ?_ | refine rt_blk ?_ | refine rt_rounds ?_ | refine rt_cut ?_ | refine o1_fieldAddr rfl ?_ | refine ox_load rfl (by rfl) ?_ | refine ox_load_enc rfl (by first | omega | (simp; omega)) ?_ | refine ox_load_any rfl (by assumption) ?_ | refine o1_len rfl ?_ | refine o1_add rfl rfl (by omega) ?_ | refine o1_lss_t rfl rfl (by omega) ?_ | refine o1_lss_f rfl rfl (by omega) ?_ | refine o1_lss rfl rfl (fun _ => ?_) (fun _ => ?_) | refine o1_uxor rfl rfl ?_ | refine ox_store_enc B rfl rfl (by first | omega | (simp; done) | (simp; omega)) rfl ?_ | refine ox_stores rfl rfl (by first | omega | (simp; done) | (simp; omega)) rfl (by first | (simp only [List.set_cons_zero, List.set_cons_succ, Nat.zero_add, Nat.reduceAdd]; rfl) | rfl) ?_ | refine o1_nilCheck rfl ?_)
  refine st_stages [(0, _), (1, _)] rtW1_0 [8] [⟨[0, 1, 2, 3, 4, 5, 6, 7], [], some 8⟩, ⟨[], [], none⟩] mixed (cov_cons rfl rfl (cov_cons rfl rfl cov_nil)) (by kernel_rfl) (by kernel_rfl) ?_
  all_goals refine wk_ch ?_
  all_goals (refine xp1 0 rfl rfl rfl rfl (by refine o1_move rfl fz) ?_)
  all_goals (refine xp1 6 rfl rfl rfl rfl (by refine o1_nilCheck rfl fz) ?_)
  all_goals (refine xp1 7 rfl rfl rfl rfl (by refine o1_fieldAddr rfl fz) ?_)
  all_goals (refine xp1 8 rfl rfl rfl rfl (by first | refine ox_load_any rfl e1 fz | refine ox_load rfl (by rfl) fz | refine ox_load_enc rfl (by first | omega | (simp; omega)) fz | refine ox_load_any rfl (by assumption) fz) ?_)
  all_goals (refine xp1 1 rfl rfl rfl rfl (by refine o1_move rfl fz) ?_)
  all_goals (refine xp1 10 rfl rfl rfl rfl (by refine o1_nilCheck rfl fz) ?_)
  all_goals (refine xp1 11 rfl rfl rfl rfl (by refine o1_fieldAddr rfl fz) ?_)
  all_goals (refine xp1 12 rfl rfl rfl rfl (by first | refine ox_load_any rfl e1 fz | refine ox_load rfl (by rfl) fz | refine ox_load_enc rfl (by first | omega | (simp; omega)) fz | refine ox_load_any rfl (by assumption) fz) ?_)
  all_goals refine op_nil ?_
  all_goals refine re_nil ?_
  all_goals first | (refine ch_run (E' := [(9, _), (13, _)]) rfl (gd_r0 rfl) rfl (cov_cons rfl rfl (cov_cons rfl rfl cov_nil)) ?_; (first | (refine o1_call_br vb va vc (fun _ => vec_Xor _ vb n va vc l q.v hl hn (RdV.up hq.v) hqn) rfl (fun _ _ => ?_); rw [hL1])))
  all_goals refine wk_end ?_
  all_goals refine op_nil ?_
  all_goals refine re_nil ?_
  all_goals dsimp only [List.cons_append, List.nil_append]
  repeat' (first | refine ls_of rfl ?_ | refine ls_of_no ?_ | refine ls_guard_yes rfl rfl ?_ | refine ls_guard_no rfl rfl rfl rfl ?_ | refine ls_guard_un rfl rfl rfl ?_ | refine o1_move rfl ?_ | refine o1_assign rfl ?_ | refine st_seq ?_ | refine st_region ?_ | refine st_block ?_ | refine st_skip ?_ | refine st_ret ?_ | refine st_exit ?_ | refine st_cond_t rfl ?_ | refine st_cond_f rfl ?_ | refine st_cond rfl (fun _ => ?_) (fun _ => ?_) | refine ls_nil ?_ | refine nx_seq ?_ | refine nx_blk ?_ | refine nx_fn ?_ | refine nx_rounds ?_ | refine xt_seq ?_ | refine xt_here ?_ | refine xt_on rfl ?_ | refine xt_rounds ?_ | refine xt_cut ?_ | refine rt_seq ?_ | refine rt_blk ?_ | refine rt_rounds ?_ | refine rt_cut ?_ | refine ox_load_any rfl e2 ?_ | refine o1_fieldAddr rfl ?_ | refine ox_load rfl (by rfl) ?_ | refine ox_load_enc rfl (by first | omega | (simp; omega)) ?_ | refine ox_load_any rfl (by assumption) ?_ | refine o1_len rfl ?_ | refine o1_add rfl rfl (by omega) ?_ | refine o1_lss_t rfl rfl (by omega) ?_ | refine o1_lss_f rfl rfl (by omega) ?_ | refine o1_lss rfl rfl (fun _ => ?_) (fun _ => ?_) | refine o1_uxor rfl rfl ?_ | refine ox_store_enc B rfl rfl (by first | omega | (simp; done) | (simp; omega)) rfl ?_ | refine ox_stores rfl rfl (by first | omega | (simp; done) | (simp; omega)) rfl (by first | (simp only [List.set_cons_zero, List.set_cons_succ, Nat.zero_add, Nat.reduceAdd]; rfl) | rfl) ?_ | refine o1_nilCheck rfl ?_)
  refine st_loop (S := Nat) (fun i => [(0, .pointer (some ⟨b, 0, none⟩)), (1, .pointer (some ⟨q.b, 0, none⟩)), (18, .slice q.ad z q.cd), (19, I z), (20, I i)])
    (fun i => [rX b (.pointer (some ⟨vb, 0, none⟩)) ad z cd, vB vb n va vc, vR n va vc L1, rD ad z cd (partL X d i), .any (stars H)]) (fun i => i ≤ z) (fun i => z - i) 0 (Nat.zero_le _)
    (cov_cons rfl rfl (cov_cons rfl rfl (cov_cons rfl rfl (cov_cons rfl rfl (cov_cons rfl rfl cov_nil))))) (by show Ent _ [rX b (.pointer (some ⟨vb, 0, none⟩)) ad z cd, vB vb n va vc, vR n va vc L1, rD ad z cd (partL X d 0), .any (stars H)]; rw [partL_zero]; (try dsimp only [List.cons_append, List.nil_append, List.singleton_append, List.append_nil]); (repeat (first | exact Ent.nil | exact Ent.refl _ | (apply Ent.cons; (repeat (first | exact Sel.here | apply Sel.there)))))) ?_
  intro i hi
  by_cases hlt : i < z
  · have hql := partL_len hz i
    have hka : i < (partL X d i).length := by omega
    have hpk : (partL X d i)[i] = d[i]'(by omega) := partL_at hz (Nat.le_refl i) _
    have hset : (partL X d i).set i (X[i]'(by omega)) = partL X d (i + 1) := partL_succ hz (by omega)
    have hqi : i < Q.length := by omega
    have hxi : d[i]'(by omega) ^^^ Q[i] = X[i]'(by omega) := by subst hX; simp [xorL]
    repeat' (first | refine ls_of rfl ?_ | refine ls_of_no ?_ | refine ls_guard_yes rfl rfl ?_ | refine ls_guard_no rfl rfl rfl rfl ?_ | refine ls_guard_un rfl rfl rfl ?_ | refine o1_move rfl ?_ | refine o1_assign rfl ?_ | refine st_seq ?_ | refine st_region ?_ | refine st_block ?_ | refine st_skip ?_ | refine st_ret ?_ | refine st_exit ?_ | refine st_cond_t rfl ?_ | refine st_cond_f rfl ?_ | refine st_cond rfl (fun _ => ?_) (fun _ => ?_) | refine ls_nil ?_ | refine nx_seq ?_ | refine nx_blk ?_ | refine nx_fn ?_ | refine nx_rounds ?_ | refine xt_seq ?_ | refine xt_here ?_ | refine xt_on rfl ?_ | refine xt_rounds ?_ | refine xt_cut ?_ | refine rt_seq ?_ | refine rt_blk ?_ | refine rt_rounds ?_ | refine rt_cut ?_ | refine o1_ia (ad := q.ad) (c := q.cd) i rfl rfl e3 hqd.symm rfl hqi ?_ | refine o1_load_ia (ad := q.ad) (c := q.cd) i rfl e3 hqi ?_ | refine o1_iah (enc := B) (ad := ad) (c := cd) (xs := partL X d i) i rfl rfl rx_row (by omega) rfl hka ?_ | (refine o1_load_iah (enc := B) (ad := ad) (c := cd) (xs := partL X d i) i rfl rx_row hka ?_; rw [hpk]) | (refine o1_uxor rfl rfl ?_; rw [hxi]) | (refine ox_store_rowenc (ad := ad) (c := cd) B i rfl rfl hlt rfl ?_; rw [hset]) | refine o1_fieldAddr rfl ?_ | refine ox_load rfl (by rfl) ?_ | refine ox_load_enc rfl (by first | omega | (simp; omega)) ?_ | refine ox_load_any rfl (by assumption) ?_ | refine o1_len rfl ?_ | refine o1_add rfl rfl (by omega) ?_ | refine o1_lss_t rfl rfl (by omega) ?_ | refine o1_lss_f rfl rfl (by omega) ?_ | refine o1_lss rfl rfl (fun _ => ?_) (fun _ => ?_) | refine o1_uxor rfl rfl ?_ | refine ox_store_enc B rfl rfl (by first | omega | (simp; done) | (simp; omega)) rfl ?_ | refine ox_stores rfl rfl (by first | omega | (simp; done) | (simp; omega)) rfl (by first | (simp only [List.set_cons_zero, List.set_cons_succ, Nat.zero_add, Nat.reduceAdd]; rfl) | rfl) ?_ | refine o1_nilCheck rfl ?_)
    refine nx_again (i + 1) (by omega) (by omega) (cov_cons rfl rfl (cov_cons rfl rfl (cov_cons rfl rfl (cov_cons rfl rfl (cov_cons rfl rfl cov_nil))))) ?_
    (try dsimp only [List.cons_append, List.nil_append, List.singleton_append, List.append_nil]); (repeat (first | exact Ent.nil | exact Ent.refl _ | (apply Ent.cons; (repeat (first | exact Sel.here | apply Sel.there)))))
  · have : i = z := by omega
    subst this
    rw [partL_full hz hd.symm]
    repeat' (first | refine ls_of rfl ?_ | refine ls_of_no ?_ | refine ls_guard_yes rfl rfl ?_ | refine ls_guard_no rfl rfl rfl rfl ?_ | refine ls_guard_un rfl rfl rfl ?_ | refine o1_move rfl ?_ | refine o1_assign rfl ?_ | refine st_seq ?_ | refine st_region ?_ | refine st_block ?_ | refine st_skip ?_ | refine st_ret ?_ | refine st_exit ?_ | refine st_cond_t rfl ?_ | refine st_cond_f rfl ?_ | refine st_cond rfl (fun _ => ?_) (fun _ => ?_) | refine ls_nil ?_ | refine nx_seq ?_ | refine nx_blk ?_ | refine nx_fn ?_ | refine nx_rounds ?_ | refine xt_seq ?_ | refine xt_here ?_ | refine xt_on rfl ?_ | refine xt_rounds ?_ | refine xt_cut ?_ | refine rt_seq ?_ | refine rt_blk ?_ | refine rt_rounds ?_ | refine rt_cut ?_ | refine o1_fieldAddr rfl ?_ | refine ox_load rfl (by rfl) ?_ | refine ox_load_enc rfl (by first | omega | (simp; omega)) ?_ | refine ox_load_any rfl (by assumption) ?_ | refine o1_len rfl ?_ | refine o1_add rfl rfl (by omega) ?_ | refine o1_lss_t rfl rfl (by omega) ?_ | refine o1_lss_f rfl rfl (by omega) ?_ | refine o1_lss rfl rfl (fun _ => ?_) (fun _ => ?_) | refine o1_uxor rfl rfl ?_ | refine ox_store_enc B rfl rfl (by first | omega | (simp; done) | (simp; omega)) rfl ?_ | refine ox_stores rfl rfl (by first | omega | (simp; done) | (simp; omega)) rfl (by first | (simp only [List.set_cons_zero, List.set_cons_succ, Nat.zero_add, Nat.reduceAdd]; rfl) | rfl) ?_ | refine o1_nilCheck rfl ?_)
    refine rt_none () rfl rfl trivial ?_
    (try dsimp only [List.cons_append, List.nil_append, List.singleton_append, List.append_nil]); (repeat (first | exact Ent.nil | exact Ent.refl _ | (apply Ent.cons; (repeat (first | exact Sel.here | apply Sel.there)))))
/-! The matrix. -/
abbrev PO (o : Option RD) : Value := match o with
  | none => .pointer none
  | some r => .pointer (some ⟨r.b, 0, none⟩)
def rowP (r : RD) : List Hl := [rX r.b (Pv r.v) r.ad r.z r.cd, vB r.v.b r.v.n r.v.a r.v.c, vR r.v.n r.v.a r.v.c r.v.l, rD r.ad r.z r.cd r.d]
def oP (o : Option RD) : List Hl := match o with
  | none => []
  | some r => rowP r
def mrows (M : List (Option RD)) : Hp → Prop := stars (M.flatMap oP)
abbrev mB (b n z : Nat) (ar : Option Addr) (cr k : Nat) : Hl := .box b 97 [I n, I z, .slice ar n cr, I k]
abbrev mR (n : Nat) (ar : Option Addr) (cr : Nat) (M : List (Option RD)) : Hl := .row 98 1 (.slice ar n cr) n (M.map PO)
structure MOk (n z : Nat) (M : List (Option RD)) : Prop where
  len : M.length = n
  n1 : 1 ≤ n
  n2 : n ≤ 256
  z1 : 1 ≤ z
  z2 : z ≤ 16
  ok : ∀ r, some r ∈ M → r.ok ∧ r.v.n = n ∧ r.z = z
theorem mrows_none (n : Nat) {R : List Hl} : ∀ h, stars R h → stars (.any (mrows (List.replicate n none)) :: R) h := fun h hh => ⟨fun _ => none, h, fun _ => .inl rfl, fun _ _ e => (by cases e), .refl _, by
  have : (List.replicate n none : List (Option RD)).flatMap oP = [] := by
    rw [List.flatMap_eq_nil_iff]
    intro x hx
    rw [List.eq_of_mem_replicate hx]
    rfl
  show stars ((List.replicate n none : List (Option RD)).flatMap oP) _
  rw [this]
  trivial, hh⟩
theorem mrows_read {M : List (Option RD)} {r : RD} {H H' : List Hl} [sa : SAny H (mrows M) H'] (hm : some r ∈ M) (hk : r.ok) (hh : Has H) : RdR (stars H) r := by
  have key : ∀ w, sat w (stars H) → sat w (stars (M.flatMap oP)) := fun w hw => sel_sat sa.s w hw
  have mem : ∀ x ∈ rowP r, x ∈ M.flatMap oP := fun x hx => List.mem_flatMap.2 ⟨some r, hm, hx⟩
  obtain ⟨L0, s0⟩ := sel_mem (mem (rX r.b (Pv r.v) r.ad r.z r.cd) (by simp [rowP]))
  obtain ⟨L1, s1⟩ := sel_mem (mem (vB r.v.b r.v.n r.v.a r.v.c) (by simp [rowP]))
  obtain ⟨L2, s2⟩ := sel_mem (mem (vR r.v.n r.v.a r.v.c r.v.l) (by simp [rowP]))
  obtain ⟨L3, s3⟩ := sel_mem (mem (rD r.ad r.z r.cd r.d) (by simp [rowP]))
  obtain ⟨w, hw⟩ := hh
  exact ⟨⟨fun w hw => by rw [(key w hw).cell s0 0]; rfl⟩, ⟨fun w hw => by rw [(key w hw).cell s0 1]; rfl⟩, ⟨⟨fun w hw => by rw [(key w hw).cell s1 0]; rfl⟩, ⟨fun w hw => by rw [(key w hw).cell s1 1]; rfl⟩, (Rs.of_row s2 w (key w hw)).unvals.mono key, hk.v⟩, (Rs.of_row s3 w (key w hw)).unvals.mono key, hk.d⟩
theorem mrows_take {M : List (Option RD)} {r : RD} {i : Nat} {R : List Hl} (hi : i < M.length) (hr : M[i] = some r) : ∀ h, stars (.any (mrows M) :: R) h → stars (rowP r ++ (.any (mrows (M.set i none)) :: R)) h := fun h hh => by
  have e1 : M.flatMap oP = (M.take i).flatMap oP ++ (rowP r ++ (M.drop (i + 1)).flatMap oP) := by
    conv => lhs; rw [← List.take_append_drop i M, List.drop_eq_getElem_cons hi, hr]
    rw [List.flatMap_append, List.flatMap_cons]
    rfl
  have e2 : (M.set i none).flatMap oP = (M.take i).flatMap oP ++ (M.drop (i + 1)).flatMap oP := by
    rw [List.set_eq_take_append_cons_drop, if_pos hi, List.flatMap_append, List.flatMap_cons]
    rfl
  have h1 : sep (sep (stars (rowP r)) (mrows (M.set i none))) (stars R) h := sep_mono hh (fun h' hx => by
    have hx : stars (M.flatMap oP) h' := hx
    rw [e1] at hx
    have := stars_append _ _ _ (stars_swap hx)
    refine sep_mono this (fun _ a => a) (fun h2 a => ?_)
    show stars ((M.set i none).flatMap oP) h2
    rw [e2]
    exact a) (fun _ a => a)
  exact stars_append' _ _ _ (sep_assoc h1)
theorem mrows_put {M : List (Option RD)} {r : RD} {i : Nat} {R : List Hl} (hi : i < M.length) (hr : M[i] = none) : ∀ h, stars (rowP r ++ (.any (mrows M) :: R)) h → stars (.any (mrows (M.set i (some r))) :: R) h := fun h hh => by
  have e1 : (M.set i (some r)).flatMap oP = (M.take i).flatMap oP ++ (rowP r ++ (M.drop (i + 1)).flatMap oP) := by
    rw [List.set_eq_take_append_cons_drop, if_pos hi, List.flatMap_append, List.flatMap_cons]
    rfl
  have e2 : M.flatMap oP = (M.take i).flatMap oP ++ (M.drop (i + 1)).flatMap oP := by
    conv => lhs; rw [← List.take_append_drop i M, List.drop_eq_getElem_cons hi, hr]
    rw [List.flatMap_append, List.flatMap_cons]
    rfl
  have h1 := sep_assoc' (stars_append _ _ _ hh)
  refine sep_mono h1 (fun h' hx => ?_) (fun _ a => a)
  show stars ((M.set i (some r)).flatMap oP) h'
  rw [e1]
  have h2 : stars (rowP r ++ ((M.take i).flatMap oP ++ (M.drop (i + 1)).flatMap oP)) h' := stars_append' _ _ _ (sep_mono hx (fun _ a => a) (fun h3 a => by
    have a : stars (M.flatMap oP) h3 := a
    rw [e2] at a
    exact a))
  exact stars_swap h2
structure RdM (A : Hp → Prop) (b n z : Nat) (ar : Option Addr) (cr k : Nat) (M : List (Option RD)) : Prop where
  fn : Cl A ⟨b, 0, none⟩ (I n)
  fz : Cl A ⟨b, 1, none⟩ (I z)
  fs : Cl A ⟨b, 2, none⟩ (.slice ar n cr)
  fk : Cl A ⟨b, 3, none⟩ (I k)
  fr : Rs A PO ar cr M
  fm : ∀ r, some r ∈ M → RdR A r
  ok : MOk n z M
theorem RdM.up {A : Hp → Prop} {b n z : Nat} {ar : Option Addr} {cr k : Nat} {M : List (Option RD)} {H H' : List Hl} (h : RdM A b n z ar cr k M) [s : SAny H A H'] : RdM (stars H) b n z ar cr k M := ⟨cl_up h.fn, cl_up h.fz, cl_up h.fs, cl_up h.fk, h.fr.up, fun r hr => (h.fm r hr).up, h.ok⟩
theorem RdM.own {b n z : Nat} {ar : Option Addr} {cr k : Nat} {M : List (Option RD)} {H H1 H2 H3 : List Hl} {m : Nat} [s : SBox H b 97 [I n, I z, .slice ar n cr, I k] H1] [s2 : SRow H ar cr m 98 (M.map PO) H2] [s3 : SAny H (mrows M) H3] (hk : MOk n z M) (hh : Has H) : RdM (stars H) b n z ar cr k M :=
  ⟨cl_box rfl, cl_box rfl, cl_box rfl, cl_box rfl, rx_row hh, fun r hr => mrows_read (M := M) hr (hk.ok r hr).1 hh, hk⟩
theorem elim_New_no (H : List Hl) (n z : Int) (h : ¬ (1 ≤ n ∧ n ≤ 256 ∧ 1 ≤ z ∧ z ≤ 16)) :
    Spec Tryd.prog 22 [I n, I z] H (fun _ : Unit => True) (fun _ => .pointer none) (fun _ => H) := by
  refine spec_pure (res := fun _ => []) H Tryd.func22 rfl Tryd.ntmps22 (by kernel_rfl) rfl (fun W => ?_)
  rcases (by omega : n < 1 ∨ (1 ≤ n ∧ 256 < n) ∨ (1 ≤ n ∧ n ≤ 256 ∧ z < 1) ∨ (1 ≤ n ∧ n ≤ 256 ∧ 1 ≤ z ∧ 16 < z)) with q | ⟨q1, q2⟩ | ⟨q1, q2, q3⟩ | ⟨q1, q2, q3, q4⟩
  all_goals
    repeat' (first | refine ls_of rfl ?_ | refine ls_of_no ?_ | refine ls_guard_yes rfl rfl ?_ | refine ls_guard_no rfl rfl rfl rfl ?_ | refine ls_guard_un rfl rfl rfl ?_ | refine o1_move rfl ?_ | refine o1_assign rfl ?_ | refine st_seq ?_ | refine st_region ?_ | refine st_block ?_ | refine st_skip ?_ | refine st_ret ?_ | refine st_exit ?_ | refine st_cond_t rfl ?_ | refine st_cond_f rfl ?_ | refine st_cond rfl (fun _ => ?_) (fun _ => ?_) | refine ls_nil ?_ | refine nx_seq ?_ | refine nx_blk ?_ | refine nx_fn ?_ | refine nx_rounds ?_ | refine xt_seq ?_ | refine xt_here ?_ | refine xt_on rfl ?_ | refine xt_rounds ?_ | refine xt_cut ?_ | refine rt_seq ?_ | refine rt_blk ?_ | refine rt_rounds ?_ | refine rt_cut ?_ | refine o1_pick_t rfl rfl ?_ | refine o1_pick_f rfl rfl ?_ | refine o1_box rfl rfl (fun _ => ?_) | refine o1_lss_t rfl rfl (by omega) ?_ | refine o1_lss_f rfl rfl (by omega) ?_ | refine o1_lss rfl rfl (fun _ => ?_) (fun _ => ?_) | refine o1_gtr_t rfl rfl (by omega) ?_ | refine o1_gtr_f rfl rfl (by omega) ?_ | refine o1_gtr rfl rfl (fun _ => ?_) (fun _ => ?_) | refine o1_maken (enc := B) 0#8 rfl rfl rfl rfl (by omega) (by omega) (by omega) (fun _ => ?_) | refine o1_buildx rfl (by simp only [buildL, putL, List.set_cons_zero, List.set_cons_succ, List.getElem?_cons_zero, List.getElem?_cons_succ, Option.getD_some, Value.cells, Nat.zero_add, Nat.reduceAdd]; rfl) (fun _ => by kernel_rfl) ?_)
    refine rt_tmp () rfl rfl rfl trivial ?_
    (try dsimp only [List.cons_append, List.nil_append, List.singleton_append, List.append_nil]); (repeat (first | exact Ent.nil | exact Ent.refl _ | (apply Ent.cons; (repeat (first | exact Sel.here | apply Sel.there)))))
theorem elim_New (H : List Hl) (n z : Nat) (h1 : 1 ≤ n) (h2 : n ≤ 256) (h3 : 1 ≤ z) (h4 : z ≤ 16) :
    Spec Tryd.prog 22 [I n, I z] H (fun _ : Nat × Option Addr × Nat => True) (fun r => .pointer (some ⟨r.1, 0, none⟩)) (fun r => mB r.1 n z r.2.1 r.2.2 0 :: mR n r.2.1 r.2.2 (List.replicate n none) :: .any (mrows (List.replicate n none)) :: H) := by
  refine spec_pure (res := fun r : Nat × Option Addr × Nat => [mB r.1 n z r.2.1 r.2.2 0, mR n r.2.1 r.2.2 (List.replicate n none), .any (mrows (List.replicate n none))]) H Tryd.func22 rfl Tryd.ntmps22 (by kernel_rfl) rfl (fun W => ?_)
  repeat' (first | refine ls_of rfl ?_ | refine ls_of_no ?_ | refine ls_guard_yes rfl rfl ?_ | refine ls_guard_no rfl rfl rfl rfl ?_ | refine ls_guard_un rfl rfl rfl ?_ | refine o1_move rfl ?_ | refine o1_assign rfl ?_ | refine st_seq ?_ | refine st_region ?_ | refine st_block ?_ | refine st_skip ?_ | refine st_ret ?_ | refine st_exit ?_ | refine st_cond_t rfl ?_ | refine st_cond_f rfl ?_ | refine st_cond rfl (fun _ => ?_) (fun _ => ?_) | refine ls_nil ?_ | refine nx_seq ?_ | refine nx_blk ?_ | refine nx_fn ?_ | refine nx_rounds ?_ | refine xt_seq ?_ | refine xt_here ?_ | refine xt_on rfl ?_ | refine xt_rounds ?_ | refine xt_cut ?_ | refine rt_seq ?_ | refine rt_blk ?_ | refine rt_rounds ?_ | refine rt_cut ?_ | refine o1_maker (enc := PO) none n rfl rfl rfl rfl rfl (by omega) (by omega) (fun b2 => ?_) | refine o1_box rfl rfl (fun b1 => ?_) | refine o1_pick_t rfl rfl ?_ | refine o1_pick_f rfl rfl ?_ | refine o1_box rfl rfl (fun _ => ?_) | refine o1_lss_t rfl rfl (by omega) ?_ | refine o1_lss_f rfl rfl (by omega) ?_ | refine o1_lss rfl rfl (fun _ => ?_) (fun _ => ?_) | refine o1_gtr_t rfl rfl (by omega) ?_ | refine o1_gtr_f rfl rfl (by omega) ?_ | refine o1_gtr rfl rfl (fun _ => ?_) (fun _ => ?_) | refine o1_maken (enc := B) 0#8 rfl rfl rfl rfl (by omega) (by omega) (by omega) (fun _ => ?_) | refine o1_buildx rfl (by simp only [buildL, putL, List.set_cons_zero, List.set_cons_succ, List.getElem?_cons_zero, List.getElem?_cons_succ, Option.getD_some, Value.cells, Nat.zero_add, Nat.reduceAdd]; rfl) (fun _ => by kernel_rfl) ?_)
  refine rt_row (T := 98) (b := b2) (m := n) (cp := n) (cs := (List.replicate n none).map PO) (by simp) rfl (by omega) ?_
  refine rt_ent (mrows_none n) ?_
  refine rt_tmp (b1, some ⟨b2, 0, none⟩, n) rfl rfl rfl trivial ?_
  (try dsimp only [List.cons_append, List.nil_append, List.singleton_append, List.append_nil]); (repeat (first | exact Ent.nil | exact Ent.refl _ | (apply Ent.cons; (repeat (first | exact Sel.here | apply Sel.there)))))
end Go.Dp

set_option linter.unusedVariables false
set_option linter.unusedSimpArgs false
namespace Go.Dp
open Go.RowKit Go.Proofs
def rtW2_0 : List Row := [⟨some 10, [], [], none⟩, ⟨some 11, [0], [0], none⟩, ⟨some 12, [1], [0, 1], none⟩, ⟨some 13, [2], [0, 1, 2], some (2, false)⟩, ⟨some 14, [3, 2, 2], [0, 1, 2, 3], some (2, false)⟩, ⟨some 15, [2], [0, 1, 2], some (2, false)⟩, ⟨some 16, [5, 2], [0, 1, 2, 5], some (2, false)⟩, ⟨some 17, [6, 2], [0, 1, 2, 5, 6], some (2, false)⟩, ⟨some 18, [7, 2], [0, 1, 2, 5, 6, 7], some (2, false)⟩, ⟨some 19, [4, 8, 2], [0, 1, 2, 3, 4, 5, 6, 7, 8], some (2, false)⟩, ⟨some 20, [2, 9], [0, 1, 2, 3, 4, 5, 6, 7, 8, 9], none⟩]
def rtW2_1 : List Row := [⟨some 21, [], [], none⟩, ⟨some 22, [0], [0], none⟩, ⟨some 23, [], [], none⟩, ⟨some 24, [2], [2], none⟩, ⟨some 25, [3], [2, 3], none⟩, ⟨some 26, [4], [2, 3, 4], none⟩, ⟨some 27, [5, 5], [2, 3, 4, 5], none⟩, ⟨some 28, [1, 6], [0, 1, 2, 3, 4, 5, 6], none⟩, ⟨some 29, [7], [0, 1, 2, 3, 4, 5, 6, 7], none⟩, ⟨some 7, [8, 1, 0, 1, 2, 3, 4, 5, 6, 7, 8], [0, 1, 2, 3, 4, 5, 6, 7, 8], none⟩]
def rtW2_5 : List Row := [⟨some 3, [], [], none⟩, ⟨some 4, [0], [0], none⟩, ⟨some 5, [1], [0, 1], none⟩, ⟨some 6, [2], [0, 1, 2], some (2, true)⟩, ⟨some 7, [3, 2, 2], [0, 1, 2, 3], some (2, true)⟩, ⟨some 8, [2], [0, 1, 2], some (2, true)⟩, ⟨some 9, [5, 2], [0, 1, 2, 5], some (2, true)⟩, ⟨some 10, [6, 2], [0, 1, 2, 5, 6], some (2, true)⟩, ⟨some 11, [7, 2], [0, 1, 2, 5, 6, 7], some (2, true)⟩, ⟨some 12, [4, 8, 2], [0, 1, 2, 3, 4, 5, 6, 7, 8], some (2, true)⟩, ⟨some 13, [2, 9], [0, 1, 2, 3, 4, 5, 6, 7, 8, 9], none⟩, ⟨some 2, [10, 4, 0, 1, 2, 3, 4, 5, 6, 7, 8, 9, 10], [0, 1, 2, 3, 4, 5, 6, 7, 8, 9, 10], none⟩]
/-- A row, and its data. -/
abbrev LN := List Bool × List (BitVec 8)
def vw (o : Option RD) : Option LN := o.map (fun r => (r.v.l, r.d))
def addL (x y : LN) : LN := (xorV x.1 y.1, xorL x.2 y.2)
def stepR (x : LN) (i : Nat) (o : Option LN) : LN := match o with
  | some y => if at_ x.1 i then addL x y else x
  | none => x
/-- A row less what the first i rows say of it. -/
def redT (M : List (Option LN)) (x : LN) : Nat → LN
  | 0 => x
  | i + 1 => stepR (redT M x i) i (M.getD i none)
def red (M : List (Option LN)) (x : LN) : LN := redT M x M.length
structure LOk (n z : Nat) (M : List (Option LN)) : Prop where
  len : M.length = n
  ok : ∀ y, some y ∈ M → y.1.length = n ∧ y.2.length = z
theorem MOk.vw {n z : Nat} {M : List (Option RD)} (h : MOk n z M) : LOk n z (M.map vw) := ⟨by rw [List.length_map, h.len], fun y hy => by
  obtain ⟨o, ho, e⟩ := List.mem_map.1 hy
  cases o with
  | none => cases e
  | some r =>
    obtain ⟨h1, h2, h3⟩ := h.ok r ho
    simp only [Go.Dp.vw, Option.map_some, Option.some.injEq] at e
    subst e
    exact ⟨by rw [h1.v.len, h2], by rw [h1.d, h3]⟩⟩
theorem addL_len {x y : LN} {n z : Nat} (h1 : x.1.length = n) (h2 : x.2.length = z) (h3 : y.1.length = n) (h4 : y.2.length = z) : (addL x y).1.length = n ∧ (addL x y).2.length = z :=
  ⟨by rw [addL, xorV_len (by omega), h1], by rw [addL, xorL_len _ _ (by omega), h2]⟩
theorem stepR_len {x : LN} {o : Option LN} {i n z : Nat} (h1 : x.1.length = n) (h2 : x.2.length = z) (ho : ∀ y, o = some y → y.1.length = n ∧ y.2.length = z) : (stepR x i o).1.length = n ∧ (stepR x i o).2.length = z := by
  cases o with
  | none => exact ⟨h1, h2⟩
  | some y =>
    obtain ⟨h3, h4⟩ := ho y rfl
    simp only [stepR]
    split
    · exact addL_len h1 h2 h3 h4
    · exact ⟨h1, h2⟩
theorem redT_len {M : List (Option LN)} {x : LN} {n z : Nat} (h : LOk n z M) (h1 : x.1.length = n) (h2 : x.2.length = z) : ∀ i, (redT M x i).1.length = n ∧ (redT M x i).2.length = z
  | 0 => ⟨h1, h2⟩
  | i + 1 => by
    obtain ⟨h3, h4⟩ := redT_len h h1 h2 i
    refine stepR_len h3 h4 (fun y hy => h.ok y ?_)
    rw [List.getD_eq_getElem?_getD] at hy
    by_cases hi : i < M.length
    · rw [List.getElem?_eq_getElem hi] at hy
      rw [← hy]
      exact List.getElem_mem hi
    · rw [List.getElem?_eq_none (by omega)] at hy
      cases hy
def padD (z : Nat) (dd : List (BitVec 8)) : List (BitVec 8) := dd.take (List.replicate z 0#8).length ++ (List.replicate z 0#8).drop dd.length
theorem padD_len (z : Nat) (dd : List (BitVec 8)) (h : dd.length ≤ z) : (padD z dd).length = z := by simp [padD]; omega
theorem padD_full {z : Nat} {dd : List (BitVec 8)} (h : dd.length = z) : padD z dd = dd := by
  subst h; simp [padD]
set_option maxHeartbeats 4000000 in
theorem elim_reduced (H : List Hl) (bm n z : Nat) (ar : Option Addr) (cr k : Nat) (M : List (Option RD)) (v : VD) (ad0 : Option Addr) (m0 c0 : Nat) (dd : List (BitVec 8)) (hM : RdM (stars H) bm n z ar cr k M) (hv : RdV (stars H) v) (hvn : v.n = n) (hd : Rs (stars H) B ad0 c0 dd) (hm0 : m0 = dd.length) (hdl : dd.length ≤ z) :
    Spec Tryd.prog 54 [.pointer (some ⟨bm, 0, none⟩), Pv v, .slice ad0 m0 c0] H (fun r : RD => r.v.n = n ∧ r.z = z ∧ (r.v.l, r.d) = red (M.map vw) (v.l, padD z dd)) (fun r => .pointer (some ⟨r.b, 0, none⟩)) (fun r => rX r.b (Pv r.v) r.ad r.z r.cd :: vB r.v.b r.v.n r.v.a r.v.c :: vR r.v.n r.v.a r.v.c r.v.l :: rD r.ad r.z r.cd r.d :: H) := by
  refine spec_pure (res := fun r : RD => [rX r.b (Pv r.v) r.ad r.z r.cd, vB r.v.b r.v.n r.v.a r.v.c, vR r.v.n r.v.a r.v.c r.v.l, rD r.ad r.z r.cd r.d]) H Tryd.func54 rfl Tryd.ntmps54 (by kernel_rfl) rfl (fun W => ?_)
  obtain ⟨l1, l2, l3, l4, l5, l6⟩ := hM.ok
  have m1 := hM.fn
  have m2 := hM.fz
  have m3 := hM.fs
  have mle := hM.fr.le
  have mbg := hM.fr.big
  have hvl : v.l.length = n := by rw [hv.ok.len, hvn]
  have hLk := hM.ok.vw
  have hpl := padD_len z dd hdl
  obtain ⟨ML, hML⟩ : ∃ ML, M.map vw = ML := ⟨_, rfl⟩
  rw [hML] at hLk ⊢
  repeat' (first | refine ls_of rfl ?_ | refine ls_of_no ?_ | refine ls_guard_yes rfl rfl ?_ | refine ls_guard_no rfl rfl rfl rfl ?_ | refine ls_guard_un rfl rfl rfl ?_ | refine o1_move rfl ?_ | refine o1_assign rfl ?_ | refine st_seq ?_ | refine st_region ?_ | refine st_block ?_ | refine st_skip ?_ | refine st_ret ?_ | refine st_exit ?_ | refine st_cond_t rfl ?_ | refine st_cond_f rfl ?_ | refine st_cond rfl (fun _ => ?_) (fun _ => ?_) | refine ls_nil ?_ | refine nx_seq ?_ | refine nx_blk ?_ | refine nx_fn ?_ | refine nx_rounds ?_ | refine xt_seq ?_ | refine xt_here ?_ | refine xt_on rfl ?_ | refine xt_rounds ?_ | refine xt_cut ?_ | refine rt_seq ?_ | refine rt_blk ?_ | refine rt_rounds ?_ | refine rt_cut ?_ | refine o1_pick_t rfl rfl ?_ | refine o1_pick_f rfl rfl ?_ | refine o1_fieldAddr rfl ?_ | refine ox_load rfl (by rfl) ?_ | refine ox_load_enc rfl (by first | omega | (simp; omega)) ?_ | refine ox_load_any rfl (by assumption) ?_ | refine o1_box rfl rfl (fun _ => ?_) | refine o1_len rfl ?_ | refine o1_add rfl rfl (by omega) ?_ | refine o1_lss_t rfl rfl (by omega) ?_ | refine o1_lss_f rfl rfl (by omega) ?_ | refine o1_lss rfl rfl (fun _ => ?_) (fun _ => ?_) | refine o1_neq_t rfl rfl (by omega) ?_ | refine o1_neq_f rfl rfl (by omega) ?_ | refine o1_neq rfl rfl (fun _ => ?_) (fun _ => ?_) | refine o1_maken (enc := B) 0#8 rfl rfl rfl rfl (by omega) (by omega) (by omega) (fun _ => ?_) | refine o1_slice_nil rfl ?_ | refine o1_buildx rfl (by simp only [buildL, putL, List.set_cons_zero, List.set_cons_succ, List.getElem?_cons_zero, List.getElem?_cons_succ, Option.getD_some, Value.cells, Nat.zero_add, Nat.reduceAdd]; rfl) (fun _ => by kernel_rfl) ?_ | refine o1_nilCheck rfl ?_)
  refine st_stages [(0, _), (1, _)] rtW2_0 [4] [⟨[0, 1, 2, 3, 5, 6, 7, 8], [], some 4⟩, ⟨[9, 10], [5, 6, 7, 8], none⟩] mixed (cov_cons rfl rfl (cov_cons rfl rfl cov_nil)) (by kernel_rfl) (by kernel_rfl) ?_
  all_goals refine wk_ch ?_
  all_goals (refine xp1 0 rfl rfl rfl rfl (by first | refine o1_peql rfl rfl fz | refine o1_move rfl fz) ?_)
  all_goals (refine xp1 10 rfl rfl rfl rfl (by first | refine o1_peql rfl rfl fz | refine o1_slice_nil rfl fz) ?_)
  all_goals (refine xp1 11 rfl rfl rfl rfl (by first | refine o1_peql rfl rfl fz | refine o1_move rfl fz) ?_)
  all_goals first | (refine xpo1 rfl rfl rfl rfl ?_) | (refine xpo2 rfl rfl rfl rfl ?_) | (refine xpg1 1 rfl rfl rfl rfl rfl rfl (by first | refine o1_peql rfl rfl fz | refine o1_move rfl fz) ?_)
  all_goals first | (refine xpo1 rfl rfl rfl rfl ?_) | (refine xpo2 rfl rfl rfl rfl ?_) | (refine xpg1 0 rfl rfl rfl rfl rfl rfl (by first | refine o1_peql rfl rfl fz | refine o1_move rfl fz) ?_)
  all_goals first | (refine xpo1 rfl rfl rfl rfl ?_) | (refine xpo2 rfl rfl rfl rfl ?_) | (refine xpg1 15 rfl rfl rfl rfl rfl rfl (by first | refine o1_peql rfl rfl fz | refine o1_nilCheck rfl fz) ?_)
  all_goals first | (refine xpo1 rfl rfl rfl rfl ?_) | (refine xpo2 rfl rfl rfl rfl ?_) | (refine xpg1 16 rfl rfl rfl rfl rfl rfl (by first | refine o1_peql rfl rfl fz | refine o1_fieldAddr rfl fz) ?_)
  all_goals first | (refine xpo1 rfl rfl rfl rfl ?_) | (refine xpo2 rfl rfl rfl rfl ?_) | (refine xpg1 17 rfl rfl rfl rfl rfl rfl (by first | refine o1_peql rfl rfl fz | refine ox_load_any rfl m1 fz | refine ox_load rfl (by rfl) fz | refine ox_load_enc rfl (by first | omega | (simp; omega)) fz | refine ox_load_any rfl (by assumption) fz) ?_)
  all_goals refine op_nil ?_
  all_goals refine re_nil ?_
  all_goals first | (refine ch_off rfl (by first | exact gd_o1 rfl rfl rfl | exact gd_o2 rfl rfl rfl) ?_) | (refine ch_run (E' := [(13, _)]) rfl (gd_r1 rfl rfl rfl) rfl (cov_cons rfl rfl cov_nil) ?_; (first | (refine o1_peql rfl rfl ?_) | (refine o1_call (fun _ => vec_Len _ v (cl_up hv.n)) rfl (fun _ _ => ?_))))
  all_goals refine wk_end ?_
  all_goals first | (refine xpo1 rfl rfl rfl rfl ?_) | (refine xpo2 rfl rfl rfl rfl ?_) | (refine xpg2 14 18 rfl rfl rfl rfl rfl rfl rfl (by first | refine o1_peql rfl rfl fz | refine o1_neq_f rfl rfl (by omega) fz | refine o1_neq_t rfl rfl (by omega) fz | refine o1_neq_f rfl rfl (by omega) fz | refine o1_neq_d rfl rfl fz) ?_)
  all_goals (refine xp2 12 19 rfl rfl rfl rfl rfl (by first | refine o1_peql rfl rfl fz | refine o1_pick_t rfl rfl fz | refine o1_pick_f rfl rfl fz) ?_)
  all_goals refine op_nil ?_
  all_goals first | (refine xqo1 rfl rfl rfl rfl rfl ?_) | (refine xqo2 rfl rfl rfl rfl rfl ?_) | (refine xqg1 0 rfl rfl rfl rfl rfl rfl rfl (by first | refine o1_peql rfl rfl fz | refine o1_move rfl fz) ?_)
  all_goals first | (refine xqo1 rfl rfl rfl rfl rfl ?_) | (refine xqo2 rfl rfl rfl rfl rfl ?_) | (refine xqg1 15 rfl rfl rfl rfl rfl rfl rfl (by first | refine o1_peql rfl rfl fz | refine o1_nilCheck rfl fz) ?_)
  all_goals first | (refine xqo1 rfl rfl rfl rfl rfl ?_) | (refine xqo2 rfl rfl rfl rfl rfl ?_) | (refine xqg1 16 rfl rfl rfl rfl rfl rfl rfl (by first | refine o1_peql rfl rfl fz | refine o1_fieldAddr rfl fz) ?_)
  all_goals first | (refine xqo1 rfl rfl rfl rfl rfl ?_) | (refine xqo2 rfl rfl rfl rfl rfl ?_) | (refine xqg1 17 rfl rfl rfl rfl rfl rfl rfl (by first | refine o1_peql rfl rfl fz | refine ox_load_any rfl m1 fz | refine ox_load rfl (by rfl) fz | refine ox_load_enc rfl (by first | omega | (simp; omega)) fz | refine ox_load_any rfl (by assumption) fz) ?_)
  all_goals refine re_nil ?_
  all_goals dsimp only [List.cons_append, List.nil_append]
  repeat' (first | refine ls_of rfl ?_ | refine ls_of_no ?_ | refine ls_guard_yes rfl rfl ?_ | refine ls_guard_no rfl rfl rfl rfl ?_ | refine ls_guard_un rfl rfl rfl ?_ | refine o1_move rfl ?_ | refine o1_assign rfl ?_ | refine st_seq ?_ | refine st_region ?_ | refine st_block ?_ | refine st_skip ?_ | refine st_ret ?_ | refine st_exit ?_ | refine st_cond_t rfl ?_ | refine st_cond_f rfl ?_ | refine st_cond rfl (fun _ => ?_) (fun _ => ?_) | refine ls_nil ?_ | refine nx_seq ?_ | refine nx_blk ?_ | refine nx_fn ?_ | refine nx_rounds ?_ | refine xt_seq ?_ | refine xt_here ?_ | refine xt_on rfl ?_ | refine xt_rounds ?_ | refine xt_cut ?_ | refine rt_seq ?_ | refine rt_blk ?_ | refine rt_rounds ?_ | refine rt_cut ?_ | refine o1_pick_t rfl rfl ?_ | refine o1_pick_f rfl rfl ?_ | refine o1_fieldAddr rfl ?_ | refine ox_load rfl (by rfl) ?_ | refine ox_load_enc rfl (by first | omega | (simp; omega)) ?_ | refine ox_load_any rfl (by assumption) ?_ | refine o1_box rfl rfl (fun _ => ?_) | refine o1_len rfl ?_ | refine o1_add rfl rfl (by omega) ?_ | refine o1_lss_t rfl rfl (by omega) ?_ | refine o1_lss_f rfl rfl (by omega) ?_ | refine o1_lss rfl rfl (fun _ => ?_) (fun _ => ?_) | refine o1_neq_t rfl rfl (by omega) ?_ | refine o1_neq_f rfl rfl (by omega) ?_ | refine o1_neq rfl rfl (fun _ => ?_) (fun _ => ?_) | refine o1_maken (enc := B) 0#8 rfl rfl rfl rfl (by omega) (by omega) (by omega) (fun _ => ?_) | refine o1_slice_nil rfl ?_ | refine o1_buildx rfl (by simp only [buildL, putL, List.set_cons_zero, List.set_cons_succ, List.getElem?_cons_zero, List.getElem?_cons_succ, Option.getD_some, Value.cells, Nat.zero_add, Nat.reduceAdd]; rfl) (fun _ => by kernel_rfl) ?_ | refine o1_nilCheck rfl ?_)
  refine st_via (X := Nat × Option Addr × Nat × Nat × Nat) (fun x => [(0, .pointer (some ⟨bm, 0, none⟩)), (2, .slice ad0 m0 c0), (7, .pointer (some ⟨x.2.2.2.2, 0, none⟩))]) (fun x => [rX x.2.2.2.2 (.pointer (some ⟨x.1, 0, none⟩)) (some ⟨x.2.2.2.1, 0, none⟩) z z, vB x.1 n x.2.1 x.2.2.1, vR n x.2.1 x.2.2.1 v.l, .box x.2.2.2.1 5 ((List.replicate z 0#8).map B), .any (stars H)]) ?restS ?walkS
  case walkS =>
    intro via
    refine st_tree [(1, _), (0, _)] rtW2_1 [1, 6, 8] (.alt [0, 2, 3, 4, 5] [] 1 (.step [] [2, 3, 4, 5] 6 (.step [7] [] 8 (.fin [9] []))) 6 (.step [] [0] 1 (.step [7] [] 8 (.fin [9] [])))) mixed (cov_cons rfl rfl (cov_cons rfl rfl cov_nil)) (by kernel_rfl) (by kernel_rfl) ?_
    all_goals refine wt_alt ?_
    all_goals (refine xp1 1 rfl rfl rfl rfl (by refine o1_move rfl fz) ?_)
    all_goals (refine xp1 0 rfl rfl rfl rfl (by refine o1_move rfl fz) ?_)
    all_goals (refine xp1 23 rfl rfl rfl rfl (by refine o1_nilCheck rfl fz) ?_)
    all_goals (refine xp1 24 rfl rfl rfl rfl (by refine o1_fieldAddr rfl fz) ?_)
    all_goals (refine xp1 25 rfl rfl rfl rfl (by first | refine ox_load_any rfl m2 fz | refine ox_load rfl (by rfl) fz | refine ox_load_enc rfl (by first | omega | (simp; omega)) fz | refine ox_load_any rfl (by assumption) fz) ?_)
    all_goals refine op_nil ?_
    all_goals refine re_nil ?_
    refine ⟨?al2_1A, ?al2_1B⟩
    case' al2_1A =>
      all_goals first | (refine ct_run (E' := [(21, _)]) rfl (gd_r0 rfl) rfl (cov_cons rfl rfl cov_nil) ?_; (first | (refine o1_call (fun _ => vec_Copy _ v hv.up) rfl (fun ⟨b20, a20, c20⟩ _ => ?_); dsimp only; rw [hvn])))
      all_goals refine wt_ch ?_
      all_goals refine op_nil ?_
      all_goals (refine xq1 0 rfl rfl rfl rfl rfl (by refine o1_move rfl fz) ?_)
      all_goals (refine xq1 23 rfl rfl rfl rfl rfl (by refine o1_nilCheck rfl fz) ?_)
      all_goals (refine xq1 24 rfl rfl rfl rfl rfl (by refine o1_fieldAddr rfl fz) ?_)
      all_goals (refine xq1 25 rfl rfl rfl rfl rfl (by first | refine ox_load_any rfl m2 fz | refine ox_load rfl (by rfl) fz | refine ox_load_enc rfl (by first | omega | (simp; omega)) fz | refine ox_load_any rfl (by assumption) fz) ?_)
      all_goals refine re_nil ?_
      all_goals first | (refine ct_run (E' := [(26, _)]) rfl (gd_r0 rfl) rfl (cov_cons rfl rfl cov_nil) ?_; (first | (refine o1_maker (enc := B) 0#8 z rfl rfl rfl rfl rfl (by omega) (by omega) (fun b27 => ?_)) | refine o1_maken (enc := B) 0#8 rfl rfl rfl rfl (by omega) (by omega) (by omega) (fun _ => ?_)))
      all_goals refine wt_ch ?_
      all_goals (refine xp2 22 27 rfl rfl rfl rfl rfl (by (refine o1_buildx rfl (by simp only [buildL, putL, List.set_cons_zero, List.set_cons_succ, List.getElem?_cons_zero, List.getElem?_cons_succ, Option.getD_some, Value.cells, Nat.zero_add, Nat.reduceAdd]; rfl) (fun _ => by kernel_rfl) ?_; all_goals exact fz)) ?_)
      all_goals refine op_nil ?_
      all_goals refine re_nil ?_
      all_goals first | (refine ct_run (E' := [(28, _)]) rfl (gd_r0 rfl) rfl (cov_cons rfl rfl cov_nil) ?_; (first | (refine o1_box rfl rfl (fun b29 => ?_)) | refine o1_box rfl rfl (fun _ => ?_)))
      all_goals refine wt_end ?_
      all_goals (refine xp1 29 rfl rfl rfl rfl (by refine o1_assign rfl fz) ?_)
      all_goals refine op_nil ?_
      all_goals refine re_nil ?_
    case' al2_1B =>
      all_goals first | (refine ct_run (E' := [(26, _)]) rfl (gd_r0 rfl) rfl (cov_cons rfl rfl cov_nil) ?_; (first | (refine o1_maker (enc := B) 0#8 z rfl rfl rfl rfl rfl (by omega) (by omega) (fun b27 => ?_)) | refine o1_maken (enc := B) 0#8 rfl rfl rfl rfl (by omega) (by omega) (by omega) (fun _ => ?_)))
      all_goals refine wt_ch ?_
      all_goals refine op_nil ?_
      all_goals (refine xq1 1 rfl rfl rfl rfl rfl (by refine o1_move rfl fz) ?_)
      all_goals refine re_nil ?_
      all_goals first | (refine ct_run (E' := [(21, _)]) rfl (gd_r0 rfl) rfl (cov_cons rfl rfl cov_nil) ?_; (first | (refine o1_call (fun _ => vec_Copy _ v hv.up) rfl (fun ⟨b20, a20, c20⟩ _ => ?_); dsimp only; rw [hvn])))
      all_goals refine wt_ch ?_
      all_goals (refine xp2 22 27 rfl rfl rfl rfl rfl (by (refine o1_buildx rfl (by simp only [buildL, putL, List.set_cons_zero, List.set_cons_succ, List.getElem?_cons_zero, List.getElem?_cons_succ, Option.getD_some, Value.cells, Nat.zero_add, Nat.reduceAdd]; rfl) (fun _ => by kernel_rfl) ?_; all_goals exact fz)) ?_)
      all_goals refine op_nil ?_
      all_goals refine re_nil ?_
      all_goals first | (refine ct_run (E' := [(28, _)]) rfl (gd_r0 rfl) rfl (cov_cons rfl rfl cov_nil) ?_; (first | (refine o1_box rfl rfl (fun b29 => ?_)) | refine o1_box rfl rfl (fun _ => ?_)))
      all_goals refine wt_end ?_
      all_goals (refine xp1 29 rfl rfl rfl rfl (by refine o1_assign rfl fz) ?_)
      all_goals refine op_nil ?_
      all_goals refine re_nil ?_
    all_goals dsimp only [List.cons_append, List.nil_append]
    all_goals exact via (_, _, _, _, _) _ _ (cov_cons rfl rfl (cov_cons rfl rfl (cov_cons rfl rfl cov_nil))) (by (try dsimp only [List.cons_append, List.nil_append, List.singleton_append, List.append_nil]); (repeat (first | exact Ent.nil | exact Ent.refl _ | (apply Ent.cons; (repeat (first | exact Sel.here | apply Sel.there))))))
  case restS =>
    rintro ⟨vb, va, vc, bd, b⟩
    dsimp only
    repeat' (first | refine ls_of rfl ?_ | refine ls_of_no ?_ | refine ls_guard_yes rfl rfl ?_ | refine ls_guard_no rfl rfl rfl rfl ?_ | refine ls_guard_un rfl rfl rfl ?_ | refine o1_move rfl ?_ | refine o1_assign rfl ?_ | refine st_seq ?_ | refine st_region ?_ | refine st_block ?_ | refine st_skip ?_ | refine st_ret ?_ | refine st_exit ?_ | refine st_cond_t rfl ?_ | refine st_cond_f rfl ?_ | refine st_cond rfl (fun _ => ?_) (fun _ => ?_) | refine ls_nil ?_ | refine nx_seq ?_ | refine nx_blk ?_ | refine nx_fn ?_ | refine nx_rounds ?_ | refine xt_seq ?_ | refine xt_here ?_ | refine xt_on rfl ?_ | refine xt_rounds ?_ | refine xt_cut ?_ | refine rt_seq ?_ | refine rt_blk ?_ | refine rt_rounds ?_ | refine rt_cut ?_ | refine ox_copy (b := bd) (xs := List.replicate z 0#8) (ys := dd) rfl rfl (by simp) (rx_any hd) hm0 (fun _ => rfl) ?_ | refine ox_load_any rfl m3 ?_ | refine o1_pick_t rfl rfl ?_ | refine o1_pick_f rfl rfl ?_ | refine o1_fieldAddr rfl ?_ | refine ox_load rfl (by rfl) ?_ | refine ox_load_enc rfl (by first | omega | (simp; omega)) ?_ | refine ox_load_any rfl (by assumption) ?_ | refine o1_box rfl rfl (fun _ => ?_) | refine o1_len rfl ?_ | refine o1_add rfl rfl (by omega) ?_ | refine o1_lss_t rfl rfl (by omega) ?_ | refine o1_lss_f rfl rfl (by omega) ?_ | refine o1_lss rfl rfl (fun _ => ?_) (fun _ => ?_) | refine o1_neq_t rfl rfl (by omega) ?_ | refine o1_neq_f rfl rfl (by omega) ?_ | refine o1_neq rfl rfl (fun _ => ?_) (fun _ => ?_) | refine o1_maken (enc := B) 0#8 rfl rfl rfl rfl (by omega) (by omega) (by omega) (fun _ => ?_) | refine o1_slice_nil rfl ?_ | refine o1_buildx rfl (by simp only [buildL, putL, List.set_cons_zero, List.set_cons_succ, List.getElem?_cons_zero, List.getElem?_cons_succ, Option.getD_some, Value.cells, Nat.zero_add, Nat.reduceAdd]; rfl) (fun _ => by kernel_rfl) ?_ | refine o1_nilCheck rfl ?_)
    have hpd : dd.take (List.replicate z 0#8).length ++ (List.replicate z 0#8).drop dd.length = padD z dd := rfl
    rw [hpd]
    refine st_row (T := 5) (b := bd) (m := z) (cp := z) (cs := (padD z dd).map B) (by rw [List.length_map, hpl]) rfl (by omega) ?_
    refine st_loop (S := Nat) (fun i => [(7, .pointer (some ⟨b, 0, none⟩)), (39, .slice ar n cr), (40, I n), (41, I i)])
      (fun i => [rX b (.pointer (some ⟨vb, 0, none⟩)) (some ⟨bd, 0, none⟩) z z, vB vb n va vc, vR n va vc (redT ML (v.l, padD z dd) i).1, rD (some ⟨bd, 0, none⟩) z z (redT ML (v.l, padD z dd) i).2, .any (stars H)]) (fun i => i ≤ n) (fun i => n - i) 0 (Nat.zero_le _)
      (cov_cons rfl rfl (cov_cons rfl rfl (cov_cons rfl rfl (cov_cons rfl rfl cov_nil)))) (by (try dsimp only [List.cons_append, List.nil_append, List.singleton_append, List.append_nil]); (repeat (first | exact Ent.nil | exact Ent.refl _ | (apply Ent.cons; (repeat (first | exact Sel.here | apply Sel.there)))))) ?_
    intro i hi
    obtain ⟨hxl, hxd⟩ := redT_len hLk (x := (v.l, padD z dd)) hvl hpl i
    by_cases hlt : i < n
    · have hiM : i < M.length := by omega
      have hnx : redT ML (v.l, padD z dd) (i + 1) = stepR (redT ML (v.l, padD z dd) i) i (vw M[i]) := by
        rw [redT]
        congr 1
        subst hML
        simp [List.getD_eq_getElem?_getD, hiM]
      obtain ⟨⟨xl, xd⟩, hX⟩ : ∃ X, redT ML (v.l, padD z dd) i = X := ⟨_, rfl⟩
      rw [hX] at hxl hxd hnx ⊢
      dsimp only at hxl hxd ⊢
      cases hMi : M[i] with
      | none =>
        rw [hMi] at hnx
        have hnx : redT ML (v.l, padD z dd) (i + 1) = (xl, xd) := hnx
        repeat' (first | refine ls_of rfl ?_ | refine ls_of_no ?_ | refine ls_guard_yes rfl rfl ?_ | refine ls_guard_no rfl rfl rfl rfl ?_ | refine ls_guard_un rfl rfl rfl ?_ | refine o1_move rfl ?_ | refine o1_assign rfl ?_ | refine st_seq ?_ | refine st_region ?_ | refine st_block ?_ | refine st_skip ?_ | refine st_ret ?_ | refine st_exit ?_ | refine st_cond_t rfl ?_ | refine st_cond_f rfl ?_ | refine st_cond rfl (fun _ => ?_) (fun _ => ?_) | refine ls_nil ?_ | refine nx_seq ?_ | refine nx_blk ?_ | refine nx_fn ?_ | refine nx_rounds ?_ | refine xt_seq ?_ | refine xt_here ?_ | refine xt_on rfl ?_ | refine xt_rounds ?_ | refine xt_cut ?_ | refine rt_seq ?_ | refine rt_blk ?_ | refine rt_rounds ?_ | refine rt_cut ?_ | refine o1_ia (ad := ar) (c := cr) i rfl rfl hM.fr l1.symm rfl hiM ?_ | (refine o1_load_ia (ad := ar) (c := cr) i rfl hM.fr hiM ?_; rw [hMi]) | refine o1_pneq rfl rfl ?_ | refine o1_pick_t rfl rfl ?_ | refine o1_pick_f rfl rfl ?_ | refine o1_fieldAddr rfl ?_ | refine ox_load rfl (by rfl) ?_ | refine ox_load_enc rfl (by first | omega | (simp; omega)) ?_ | refine ox_load_any rfl (by assumption) ?_ | refine o1_box rfl rfl (fun _ => ?_) | refine o1_len rfl ?_ | refine o1_add rfl rfl (by omega) ?_ | refine o1_lss_t rfl rfl (by omega) ?_ | refine o1_lss_f rfl rfl (by omega) ?_ | refine o1_lss rfl rfl (fun _ => ?_) (fun _ => ?_) | refine o1_neq_t rfl rfl (by omega) ?_ | refine o1_neq_f rfl rfl (by omega) ?_ | refine o1_neq rfl rfl (fun _ => ?_) (fun _ => ?_) | refine o1_maken (enc := B) 0#8 rfl rfl rfl rfl (by omega) (by omega) (by omega) (fun _ => ?_) | refine o1_slice_nil rfl ?_ | refine o1_buildx rfl (by simp only [buildL, putL, List.set_cons_zero, List.set_cons_succ, List.getElem?_cons_zero, List.getElem?_cons_succ, Option.getD_some, Value.cells, Nat.zero_add, Nat.reduceAdd]; rfl) (fun _ => by kernel_rfl) ?_ | refine o1_nilCheck rfl ?_)
        refine nx_again (i + 1) (by omega) (by omega) (cov_cons rfl rfl (cov_cons rfl rfl (cov_cons rfl rfl (cov_cons rfl rfl cov_nil)))) ?_
        rw [hnx]
        (try dsimp only [List.cons_append, List.nil_append, List.singleton_append, List.append_nil]); (repeat (first | exact Ent.nil | exact Ent.refl _ | (apply Ent.cons; (repeat (first | exact Sel.here | apply Sel.there)))))
      | some q =>
        rw [hMi] at hnx
        have hqm : some q ∈ M := hMi ▸ List.getElem_mem hiM
        have hq := hM.fm q hqm
        obtain ⟨hq1, hq2, hq3⟩ := l6 q hqm
        cases hat : at_ xl i
        · have hnx : redT ML (v.l, padD z dd) (i + 1) = (xl, xd) := by
            rw [hnx]
            show (if at_ xl i = true then _ else (xl, xd)) = _
            rw [hat]; rfl
          repeat' (first | refine ls_of rfl ?_ | refine ls_of_no ?_ | refine ls_guard_yes rfl rfl ?_ | refine ls_guard_no rfl rfl rfl rfl ?_ | refine ls_guard_un rfl rfl rfl ?_ | refine o1_move rfl ?_ | refine o1_assign rfl ?_ | refine st_seq ?_ | refine st_region ?_ | refine st_block ?_ | refine st_skip ?_ | refine st_ret ?_ | refine st_exit ?_ | refine st_cond_t rfl ?_ | refine st_cond_f rfl ?_ | refine st_cond rfl (fun _ => ?_) (fun _ => ?_) | refine ls_nil ?_ | refine nx_seq ?_ | refine nx_blk ?_ | refine nx_fn ?_ | refine nx_rounds ?_ | refine xt_seq ?_ | refine xt_here ?_ | refine xt_on rfl ?_ | refine xt_rounds ?_ | refine xt_cut ?_ | refine rt_seq ?_ | refine rt_blk ?_ | refine rt_rounds ?_ | refine rt_cut ?_ | refine o1_ia (ad := ar) (c := cr) i rfl rfl hM.fr l1.symm rfl hiM ?_ | (refine o1_load_ia (ad := ar) (c := cr) i rfl hM.fr hiM ?_; rw [hMi]) | refine o1_pneq rfl rfl ?_ | refine o1_call (fun hh => (vec_Has _ ⟨vb, n, va, vc, xl⟩ i (RdV.own hxl l3 hh)).bv (b := false) (by rw [hasV_nat, hat])) rfl (fun _ _ => ?_) | refine o1_pick_t rfl rfl ?_ | refine o1_pick_f rfl rfl ?_ | refine o1_fieldAddr rfl ?_ | refine ox_load rfl (by rfl) ?_ | refine ox_load_enc rfl (by first | omega | (simp; omega)) ?_ | refine ox_load_any rfl (by assumption) ?_ | refine o1_box rfl rfl (fun _ => ?_) | refine o1_len rfl ?_ | refine o1_add rfl rfl (by omega) ?_ | refine o1_lss_t rfl rfl (by omega) ?_ | refine o1_lss_f rfl rfl (by omega) ?_ | refine o1_lss rfl rfl (fun _ => ?_) (fun _ => ?_) | refine o1_neq_t rfl rfl (by omega) ?_ | refine o1_neq_f rfl rfl (by omega) ?_ | refine o1_neq rfl rfl (fun _ => ?_) (fun _ => ?_) | refine o1_maken (enc := B) 0#8 rfl rfl rfl rfl (by omega) (by omega) (by omega) (fun _ => ?_) | refine o1_slice_nil rfl ?_ | refine o1_buildx rfl (by simp only [buildL, putL, List.set_cons_zero, List.set_cons_succ, List.getElem?_cons_zero, List.getElem?_cons_succ, Option.getD_some, Value.cells, Nat.zero_add, Nat.reduceAdd]; rfl) (fun _ => by kernel_rfl) ?_ | refine o1_nilCheck rfl ?_)
          refine nx_again (i + 1) (by omega) (by omega) (cov_cons rfl rfl (cov_cons rfl rfl (cov_cons rfl rfl (cov_cons rfl rfl cov_nil)))) ?_
          rw [hnx]
          (try dsimp only [List.cons_append, List.nil_append, List.singleton_append, List.append_nil]); (repeat (first | exact Ent.nil | exact Ent.refl _ | (apply Ent.cons; (repeat (first | exact Sel.here | apply Sel.there)))))
        · have hnx : redT ML (v.l, padD z dd) (i + 1) = (xorV xl q.v.l, xorL xd q.d) := by
            rw [hnx]
            show (if at_ xl i = true then addL (xl, xd) (q.v.l, q.d) else (xl, xd)) = _
            rw [hat]; rfl
          repeat' (first | refine ls_of rfl ?_ | refine ls_of_no ?_ | refine ls_guard_yes rfl rfl ?_ | refine ls_guard_no rfl rfl rfl rfl ?_ | refine ls_guard_un rfl rfl rfl ?_ | refine o1_move rfl ?_ | refine o1_assign rfl ?_ | refine st_seq ?_ | refine st_region ?_ | refine st_block ?_ | refine st_skip ?_ | refine st_ret ?_ | refine st_exit ?_ | refine st_cond_t rfl ?_ | refine st_cond_f rfl ?_ | refine st_cond rfl (fun _ => ?_) (fun _ => ?_) | refine ls_nil ?_ | refine nx_seq ?_ | refine nx_blk ?_ | refine nx_fn ?_ | refine nx_rounds ?_ | refine xt_seq ?_ | refine xt_here ?_ | refine xt_on rfl ?_ | refine xt_rounds ?_ | refine xt_cut ?_ | refine rt_seq ?_ | refine rt_blk ?_ | refine rt_rounds ?_ | refine rt_cut ?_ | refine o1_ia (ad := ar) (c := cr) i rfl rfl hM.fr l1.symm rfl hiM ?_ | (refine o1_load_ia (ad := ar) (c := cr) i rfl hM.fr hiM ?_; rw [hMi]) | refine o1_pneq rfl rfl ?_ | refine o1_call (fun hh => (vec_Has _ ⟨vb, n, va, vc, xl⟩ i (RdV.own hxl l3 hh)).bv (b := true) (by rw [hasV_nat, hat])) rfl (fun _ _ => ?_) | refine o1_call_to [rX b (.pointer (some ⟨vb, 0, none⟩)) (some ⟨bd, 0, none⟩) z z, vB vb n va vc, vR n va vc xl, rD (some ⟨bd, 0, none⟩) z z xd, .any (stars H)] (Ent.out (by (try dsimp only [List.cons_append, List.nil_append, List.singleton_append, List.append_nil]); (repeat (first | exact Ent.nil | exact Ent.refl _ | (apply Ent.cons; (repeat (first | exact Sel.here | apply Sel.there))))))) (fun _ => row_xor _ b vb n va vc xl (some ⟨bd, 0, none⟩) z z xd q hxl l3 hxd l5 (RdR.up hq) hq2 hq3) rfl (fun _ _ => ?_) | refine o1_pick_t rfl rfl ?_ | refine o1_pick_f rfl rfl ?_ | refine o1_fieldAddr rfl ?_ | refine ox_load rfl (by rfl) ?_ | refine ox_load_enc rfl (by first | omega | (simp; omega)) ?_ | refine ox_load_any rfl (by assumption) ?_ | refine o1_box rfl rfl (fun _ => ?_) | refine o1_len rfl ?_ | refine o1_add rfl rfl (by omega) ?_ | refine o1_lss_t rfl rfl (by omega) ?_ | refine o1_lss_f rfl rfl (by omega) ?_ | refine o1_lss rfl rfl (fun _ => ?_) (fun _ => ?_) | refine o1_neq_t rfl rfl (by omega) ?_ | refine o1_neq_f rfl rfl (by omega) ?_ | refine o1_neq rfl rfl (fun _ => ?_) (fun _ => ?_) | refine o1_maken (enc := B) 0#8 rfl rfl rfl rfl (by omega) (by omega) (by omega) (fun _ => ?_) | refine o1_slice_nil rfl ?_ | refine o1_buildx rfl (by simp only [buildL, putL, List.set_cons_zero, List.set_cons_succ, List.getElem?_cons_zero, List.getElem?_cons_succ, Option.getD_some, Value.cells, Nat.zero_add, Nat.reduceAdd]; rfl) (fun _ => by kernel_rfl) ?_ | refine o1_nilCheck rfl ?_)
          refine nx_again (i + 1) (by omega) (by omega) (cov_cons rfl rfl (cov_cons rfl rfl (cov_cons rfl rfl (cov_cons rfl rfl cov_nil)))) ?_
          rw [hnx]
          (try dsimp only [List.cons_append, List.nil_append, List.singleton_append, List.append_nil]); (repeat (first | exact Ent.nil | exact Ent.refl _ | (apply Ent.cons; (repeat (first | exact Sel.here | apply Sel.there)))))
    · have : i = n := by omega
      subst this
      repeat' (first | refine ls_of rfl ?_ | refine ls_of_no ?_ | refine ls_guard_yes rfl rfl ?_ | refine ls_guard_no rfl rfl rfl rfl ?_ | refine ls_guard_un rfl rfl rfl ?_ | refine o1_move rfl ?_ | refine o1_assign rfl ?_ | refine st_seq ?_ | refine st_region ?_ | refine st_block ?_ | refine st_skip ?_ | refine st_ret ?_ | refine st_exit ?_ | refine st_cond_t rfl ?_ | refine st_cond_f rfl ?_ | refine st_cond rfl (fun _ => ?_) (fun _ => ?_) | refine ls_nil ?_ | refine nx_seq ?_ | refine nx_blk ?_ | refine nx_fn ?_ | refine nx_rounds ?_ | refine xt_seq ?_ | refine xt_here ?_ | refine xt_on rfl ?_ | refine xt_rounds ?_ | refine xt_cut ?_ | refine rt_seq ?_ | refine rt_blk ?_ | refine rt_rounds ?_ | refine rt_cut ?_ | refine o1_pick_t rfl rfl ?_ | refine o1_pick_f rfl rfl ?_ | refine o1_fieldAddr rfl ?_ | refine ox_load rfl (by rfl) ?_ | refine ox_load_enc rfl (by first | omega | (simp; omega)) ?_ | refine ox_load_any rfl (by assumption) ?_ | refine o1_box rfl rfl (fun _ => ?_) | refine o1_len rfl ?_ | refine o1_add rfl rfl (by omega) ?_ | refine o1_lss_t rfl rfl (by omega) ?_ | refine o1_lss_f rfl rfl (by omega) ?_ | refine o1_lss rfl rfl (fun _ => ?_) (fun _ => ?_) | refine o1_neq_t rfl rfl (by omega) ?_ | refine o1_neq_f rfl rfl (by omega) ?_ | refine o1_neq rfl rfl (fun _ => ?_) (fun _ => ?_) | refine o1_maken (enc := B) 0#8 rfl rfl rfl rfl (by omega) (by omega) (by omega) (fun _ => ?_) | refine o1_slice_nil rfl ?_ | refine o1_buildx rfl (by simp only [buildL, putL, List.set_cons_zero, List.set_cons_succ, List.getElem?_cons_zero, List.getElem?_cons_succ, Option.getD_some, Value.cells, Nat.zero_add, Nat.reduceAdd]; rfl) (fun _ => by kernel_rfl) ?_ | refine o1_nilCheck rfl ?_)
      refine rt_tmp (⟨b, ⟨vb, i, va, vc, (redT ML (v.l, padD z dd) i).1⟩, some ⟨bd, 0, none⟩, z, z, (redT ML (v.l, padD z dd) i).2⟩ : RD) rfl rfl rfl ⟨rfl, rfl, ?_⟩ ?_
      · show ((redT ML (v.l, padD z dd) i).1, (redT ML (v.l, padD z dd) i).2) = red ML (v.l, padD z dd)
        rw [red, hLk.len]
      (try dsimp only [List.cons_append, List.nil_append, List.singleton_append, List.append_nil]); (repeat (first | exact Ent.nil | exact Ent.refl _ | (apply Ent.cons; (repeat (first | exact Sel.here | apply Sel.there)))))
theorem xf_load64 : XFn Tryd.prog 70 (Extern.Atomic.loadT (.int .i64)) := ⟨by kernel_rfl, by kernel_rfl⟩
theorem xf_add64 : XFn Tryd.prog 69 (Extern.Atomic.update (Op.intArith .add) .i64 true) := ⟨by kernel_rfl, by kernel_rfl⟩
theorem o1_xload_any {P : Program} {n : Nat} {H : List Hl} {e : Ev} {C : Value → List Hl → Prop} {ty : TypeId} {f : FuncId} {xs : List Operand} {ats : Array TypeId} {a0 : Addr} {H' : List Hl} {k : IntKind} {p : Int} {A : Hp → Prop} (x : XFn P f (Extern.Atomic.loadT (.int k))) (hxs : opds e xs = some [.pointer (some a0)]) (hc : Cl A a0 (.int k p)) [s : SAny H A H'] (h : C (.int k p) H) : O1 P (.call ⟨.value (.func f), xs.toArray, ats⟩) ty n e H C :=
  o1_xval _ hxs (fun a w ho => by
    obtain ⟨fn, h1, h2, h3, h4, h5⟩ := x.of
    exact run_call_load h1 h2 h3 h4 k h5 (hc.cell w (sel_sat s.s w ho.sat))) h
theorem at_Load64 (H : List Hl) (b i : Nat) (k : Int) (h : Cl (stars H) ⟨b, i, none⟩ (I k)) :
    Spec Tryd.prog 57 [.pointer (some ⟨b, i, none⟩)] H (fun _ : Unit => True) (fun _ => I k) (fun _ => H) := by
  refine spec_pure (res := fun _ => []) H Tryd.func57 rfl Tryd.ntmps57 (by kernel_rfl) rfl (fun W => ?_)
  repeat' (first | refine ls_of rfl ?_ | refine ls_of_no ?_ | refine ls_guard_yes rfl rfl ?_ | refine ls_guard_no rfl rfl rfl rfl ?_ | refine ls_guard_un rfl rfl rfl ?_ | refine o1_move rfl ?_ | refine o1_assign rfl ?_ | refine st_seq ?_ | refine st_region ?_ | refine st_block ?_ | refine st_skip ?_ | refine st_ret ?_ | refine st_exit ?_ | refine st_cond_t rfl ?_ | refine st_cond_f rfl ?_ | refine st_cond rfl (fun _ => ?_) (fun _ => ?_) | refine ls_nil ?_ | refine nx_seq ?_ | refine nx_blk ?_ | refine nx_fn ?_ | refine nx_rounds ?_ | refine xt_seq ?_ | refine xt_here ?_ | refine xt_on rfl ?_ | refine xt_rounds ?_ | refine xt_cut ?_ | refine rt_seq ?_ | refine rt_blk ?_ | refine rt_rounds ?_ | refine rt_cut ?_ | refine o1_xload_any xf_load64 rfl h ?_ | refine o1_fieldAddr rfl ?_ | refine o1_nilCheck rfl ?_)
  refine rt_tmp () rfl rfl rfl trivial ?_
  (try dsimp only [List.cons_append, List.nil_append, List.singleton_append, List.append_nil]); (repeat (first | exact Ent.nil | exact Ent.refl _ | (apply Ent.cons; (repeat (first | exact Sel.here | apply Sel.there)))))
theorem at_Add64 (H : List Hl) (b n z : Nat) (ar : Option Addr) (cr k : Nat) (hk : k ≤ 1000) :
    Spec Tryd.prog 56 [.pointer (some ⟨b, 3, none⟩), I 1] (mB b n z ar cr k :: H) (fun _ : Unit => True) (fun _ => I (k + 1 : Nat)) (fun _ => mB b n z ar cr (k + 1) :: H) := by
  refine spec_fn (res := fun _ : Unit => [mB b n z ar cr (k + 1)]) [mB b n z ar cr k] H Tryd.func56 rfl Tryd.ntmps56 (by kernel_rfl) rfl (fun W => ?_)
  dsimp only [List.cons_append, List.nil_append]
  repeat' (first | refine ls_of rfl ?_ | refine ls_of_no ?_ | refine ls_guard_yes rfl rfl ?_ | refine ls_guard_no rfl rfl rfl rfl ?_ | refine ls_guard_un rfl rfl rfl ?_ | refine o1_move rfl ?_ | refine o1_assign rfl ?_ | refine st_seq ?_ | refine st_region ?_ | refine st_block ?_ | refine st_skip ?_ | refine st_ret ?_ | refine st_exit ?_ | refine st_cond_t rfl ?_ | refine st_cond_f rfl ?_ | refine st_cond rfl (fun _ => ?_) (fun _ => ?_) | refine ls_nil ?_ | refine nx_seq ?_ | refine nx_blk ?_ | refine nx_fn ?_ | refine nx_rounds ?_ | refine xt_seq ?_ | refine xt_here ?_ | refine xt_on rfl ?_ | refine xt_rounds ?_ | refine xt_cut ?_ | refine rt_seq ?_ | refine rt_blk ?_ | refine rt_rounds ?_ | refine rt_cut ?_ | refine o1_xadd xf_add64 rfl (b := b) (i := 3) (r := ((k + 1 : Nat) : Int)) rfl (by rw [wrap_in (by omega) (by omega)]; push_cast; rfl) ?_ | refine o1_fieldAddr rfl ?_ | refine o1_nilCheck rfl ?_)
  refine rt_tmp () rfl rfl rfl trivial ?_
  (try dsimp only [List.cons_append, List.nil_append, List.singleton_append, List.append_nil]); (repeat (first | exact Ent.nil | exact Ent.refl _ | (apply Ent.cons; (repeat (first | exact Sel.here | apply Sel.there)))))
theorem elim_Rank (H : List Hl) (bm k : Nat) (h : Cl (stars H) ⟨bm, 3, none⟩ (I k)) :
    Spec Tryd.prog 24 [.pointer (some ⟨bm, 0, none⟩)] H (fun _ : Unit => True) (fun _ => I k) (fun _ => H) := by
  refine spec_pure (res := fun _ => []) H Tryd.func24 rfl Tryd.ntmps24 (by kernel_rfl) rfl (fun W => ?_)
  repeat' (first | refine ls_of rfl ?_ | refine ls_of_no ?_ | refine ls_guard_yes rfl rfl ?_ | refine ls_guard_no rfl rfl rfl rfl ?_ | refine ls_guard_un rfl rfl rfl ?_ | refine o1_move rfl ?_ | refine o1_assign rfl ?_ | refine st_seq ?_ | refine st_region ?_ | refine st_block ?_ | refine st_skip ?_ | refine st_ret ?_ | refine st_exit ?_ | refine st_cond_t rfl ?_ | refine st_cond_f rfl ?_ | refine st_cond rfl (fun _ => ?_) (fun _ => ?_) | refine ls_nil ?_ | refine nx_seq ?_ | refine nx_blk ?_ | refine nx_fn ?_ | refine nx_rounds ?_ | refine xt_seq ?_ | refine xt_here ?_ | refine xt_on rfl ?_ | refine xt_rounds ?_ | refine xt_cut ?_ | refine rt_seq ?_ | refine rt_blk ?_ | refine rt_rounds ?_ | refine rt_cut ?_ | refine o1_peql rfl rfl ?_ | refine o1_call (fun _ => at_Load64 _ bm 3 k (cl_up h)) rfl (fun _ _ => ?_) | refine o1_fieldAddr rfl ?_ | refine o1_slice_nil rfl ?_ | refine o1_nilCheck rfl ?_)
  refine rt_tmp () rfl rfl rfl trivial ?_
  (try dsimp only [List.cons_append, List.nil_append, List.singleton_append, List.append_nil]); (repeat (first | exact Ent.nil | exact Ent.refl _ | (apply Ent.cons; (repeat (first | exact Sel.here | apply Sel.there)))))
theorem elim_Full (H : List Hl) (bm n k : Nat) (h : Cl (stars H) ⟨bm, 3, none⟩ (I k)) (h0 : Cl (stars H) ⟨bm, 0, none⟩ (I n)) :
    Spec Tryd.prog 25 [.pointer (some ⟨bm, 0, none⟩)] H (fun _ : Unit => True) (fun _ => .bool (decide ((k : Int) = n))) (fun _ => H) := by
  refine spec_pure (res := fun _ => []) H Tryd.func25 rfl Tryd.ntmps25 (by kernel_rfl) rfl (fun W => ?_)
  repeat' (first | refine ls_of rfl ?_ | refine ls_of_no ?_ | refine ls_guard_yes rfl rfl ?_ | refine ls_guard_no rfl rfl rfl rfl ?_ | refine ls_guard_un rfl rfl rfl ?_ | refine o1_move rfl ?_ | refine o1_assign rfl ?_ | refine st_seq ?_ | refine st_region ?_ | refine st_block ?_ | refine st_skip ?_ | refine st_ret ?_ | refine st_exit ?_ | refine st_cond_t rfl ?_ | refine st_cond_f rfl ?_ | refine st_cond rfl (fun _ => ?_) (fun _ => ?_) | refine ls_nil ?_ | refine nx_seq ?_ | refine nx_blk ?_ | refine nx_fn ?_ | refine nx_rounds ?_ | refine xt_seq ?_ | refine xt_here ?_ | refine xt_on rfl ?_ | refine xt_rounds ?_ | refine xt_cut ?_ | refine rt_seq ?_ | refine rt_blk ?_ | refine rt_rounds ?_ | refine rt_cut ?_ | refine o1_pick_t rfl rfl ?_ | refine o1_pick_f rfl rfl ?_ | refine o1_fieldAddr rfl ?_ | refine ox_load rfl (by rfl) ?_ | refine ox_load_enc rfl (by first | omega | (simp; omega)) ?_ | refine ox_load_any rfl (by assumption) ?_ | refine o1_eql_t rfl rfl (by omega) ?_ | refine o1_eql_f rfl rfl (by omega) ?_ | refine o1_eql rfl rfl (fun _ => ?_) (fun _ => ?_) | refine o1_slice_nil rfl ?_ | refine o1_nilCheck rfl ?_)
  refine st_stages [(0, _)] rtW2_5 [4] [⟨[0, 1, 2, 3, 5, 6, 7, 8], [], some 4⟩, ⟨[9, 10, 11], [5, 6, 7, 8], none⟩] mixed (cov_cons rfl rfl cov_nil) (by kernel_rfl) (by kernel_rfl) ?_
  all_goals refine wk_ch ?_
  all_goals (refine xp1 0 rfl rfl rfl rfl (by first | refine o1_pneq rfl rfl fz | refine o1_move rfl fz) ?_)
  all_goals (refine xp1 3 rfl rfl rfl rfl (by first | refine o1_pneq rfl rfl fz | refine o1_slice_nil rfl fz) ?_)
  all_goals (refine xp1 4 rfl rfl rfl rfl (by first | refine o1_pneq rfl rfl fz | refine o1_move rfl fz) ?_)
  all_goals first | (refine xpo1 rfl rfl rfl rfl ?_) | (refine xpo2 rfl rfl rfl rfl ?_) | (refine xpg1 0 rfl rfl rfl rfl rfl rfl (by first | refine o1_pneq rfl rfl fz | refine o1_move rfl fz) ?_)
  all_goals first | (refine xpo1 rfl rfl rfl rfl ?_) | (refine xpo2 rfl rfl rfl rfl ?_) | (refine xpg1 0 rfl rfl rfl rfl rfl rfl (by first | refine o1_pneq rfl rfl fz | refine o1_move rfl fz) ?_)
  all_goals first | (refine xpo1 rfl rfl rfl rfl ?_) | (refine xpo2 rfl rfl rfl rfl ?_) | (refine xpg1 8 rfl rfl rfl rfl rfl rfl (by first | refine o1_pneq rfl rfl fz | refine o1_nilCheck rfl fz) ?_)
  all_goals first | (refine xpo1 rfl rfl rfl rfl ?_) | (refine xpo2 rfl rfl rfl rfl ?_) | (refine xpg1 9 rfl rfl rfl rfl rfl rfl (by first | refine o1_pneq rfl rfl fz | refine o1_fieldAddr rfl fz) ?_)
  all_goals first | (refine xpo1 rfl rfl rfl rfl ?_) | (refine xpo2 rfl rfl rfl rfl ?_) | (refine xpg1 10 rfl rfl rfl rfl rfl rfl (by first | refine o1_pneq rfl rfl fz | refine ox_load_any rfl h0 fz | refine ox_load rfl (by rfl) fz | refine ox_load_enc rfl (by first | omega | (simp; omega)) fz | refine ox_load_any rfl (by assumption) fz) ?_)
  all_goals refine op_nil ?_
  all_goals refine re_nil ?_
  all_goals first | (refine ch_off rfl (by first | exact gd_o1 rfl rfl rfl | exact gd_o2 rfl rfl rfl) ?_) | (refine ch_run (E' := [(6, _)]) rfl (gd_r1 rfl rfl rfl) rfl (cov_cons rfl rfl cov_nil) ?_; (first | (refine o1_pneq rfl rfl ?_) | (refine o1_call (fun _ => elim_Rank _ bm k (cl_up h)) rfl (fun _ _ => ?_))))
  all_goals refine wk_end ?_
  all_goals first | (refine xpo1 rfl rfl rfl rfl ?_) | (refine xpo2 rfl rfl rfl rfl ?_) | (refine xpg2 7 11 rfl rfl rfl rfl rfl rfl rfl (by first | refine o1_pneq rfl rfl fz | refine o1_eql_d rfl rfl fz | refine o1_eql_t rfl rfl (by omega) fz | refine o1_eql_f rfl rfl (by omega) fz | refine o1_eql_d rfl rfl fz) ?_)
  all_goals (refine xp2 5 12 rfl rfl rfl rfl rfl (by first | refine o1_pneq rfl rfl fz | refine o1_pick_t rfl rfl fz | refine o1_pick_f rfl rfl fz) ?_)
  all_goals (refine xp1 13 rfl rfl rfl rfl (by first | refine o1_pneq rfl rfl fz | refine o1_assign rfl fz) ?_)
  all_goals refine op_nil ?_
  all_goals first | (refine xqo1 rfl rfl rfl rfl rfl ?_) | (refine xqo2 rfl rfl rfl rfl rfl ?_) | (refine xqg1 0 rfl rfl rfl rfl rfl rfl rfl (by first | refine o1_pneq rfl rfl fz | refine o1_move rfl fz) ?_)
  all_goals first | (refine xqo1 rfl rfl rfl rfl rfl ?_) | (refine xqo2 rfl rfl rfl rfl rfl ?_) | (refine xqg1 8 rfl rfl rfl rfl rfl rfl rfl (by first | refine o1_pneq rfl rfl fz | refine o1_nilCheck rfl fz) ?_)
  all_goals first | (refine xqo1 rfl rfl rfl rfl rfl ?_) | (refine xqo2 rfl rfl rfl rfl rfl ?_) | (refine xqg1 9 rfl rfl rfl rfl rfl rfl rfl (by first | refine o1_pneq rfl rfl fz | refine o1_fieldAddr rfl fz) ?_)
  all_goals first | (refine xqo1 rfl rfl rfl rfl rfl ?_) | (refine xqo2 rfl rfl rfl rfl rfl ?_) | (refine xqg1 10 rfl rfl rfl rfl rfl rfl rfl (by first | refine o1_pneq rfl rfl fz | refine ox_load_any rfl h0 fz | refine ox_load rfl (by rfl) fz | refine ox_load_enc rfl (by first | omega | (simp; omega)) fz | refine ox_load_any rfl (by assumption) fz) ?_)
  all_goals refine re_nil ?_
  all_goals dsimp only [List.cons_append, List.nil_append]
  repeat' (first | refine ls_of rfl ?_ | refine ls_of_no ?_ | refine ls_guard_yes rfl rfl ?_ | refine ls_guard_no rfl rfl rfl rfl ?_ | refine ls_guard_un rfl rfl rfl ?_ | refine o1_move rfl ?_ | refine o1_assign rfl ?_ | refine st_seq ?_ | refine st_region ?_ | refine st_block ?_ | refine st_skip ?_ | refine st_ret ?_ | refine st_exit ?_ | refine st_cond_t rfl ?_ | refine st_cond_f rfl ?_ | refine st_cond rfl (fun _ => ?_) (fun _ => ?_) | refine ls_nil ?_ | refine nx_seq ?_ | refine nx_blk ?_ | refine nx_fn ?_ | refine nx_rounds ?_ | refine xt_seq ?_ | refine xt_here ?_ | refine xt_on rfl ?_ | refine xt_rounds ?_ | refine xt_cut ?_ | refine rt_seq ?_ | refine rt_blk ?_ | refine rt_rounds ?_ | refine rt_cut ?_ | refine o1_pick_t rfl rfl ?_ | refine o1_pick_f rfl rfl ?_ | refine o1_fieldAddr rfl ?_ | refine ox_load rfl (by rfl) ?_ | refine ox_load_enc rfl (by first | omega | (simp; omega)) ?_ | refine ox_load_any rfl (by assumption) ?_ | refine o1_eql_t rfl rfl (by omega) ?_ | refine o1_eql_f rfl rfl (by omega) ?_ | refine o1_eql rfl rfl (fun _ => ?_) (fun _ => ?_) | refine o1_slice_nil rfl ?_ | refine o1_nilCheck rfl ?_)
  refine rt_tmp () rfl rfl rfl trivial ?_
  (try dsimp only [List.cons_append, List.nil_append, List.singleton_append, List.append_nil]); (repeat (first | exact Ent.nil | exact Ent.refl _ | (apply Ent.cons; (repeat (first | exact Sel.here | apply Sel.there)))))
end Go.Dp

set_option linter.unusedVariables false
set_option linter.unusedSimpArgs false
namespace Go.Dp
def num32 (l : List (BitVec 8)) : BitVec 32 := l.foldl (fun a x => (a <<< 8) ||| x.setWidth 32) 0
theorem num32_succ (l : List (BitVec 8)) (i : Nat) (h : i < l.length) : num32 (l.take (i + 1)) = (num32 (l.take i) <<< 8) ||| (l[i]).setWidth 32 := by
  simp only [num32]
  rw [List.take_succ_eq_append_getElem h, List.foldl_append]
  rfl
/-- The number that bytes are, the first the highest. -/
def numN (l : List (BitVec 8)) : Nat := l.foldl (fun a x => a * 256 + x.toNat) 0
theorem fold_numN (w : Nat) : ∀ (l : List (BitVec 8)) (k : Nat) (a : BitVec w), a.toNat < 256 ^ k → 8 * (k + l.length) ≤ w →
    (l.foldl (fun (a : BitVec w) (x : BitVec 8) => (a <<< 8) ||| x.setWidth w) a).toNat = l.foldl (fun a x => a * 256 + x.toNat) a.toNat
  | [], _, _, _, _ => rfl
  | x :: l, k, a, h, hw => by
    simp only [List.length_cons] at hw
    have hx := x.isLt
    have hp : (256 : Nat) ^ (k + 1) ≤ 2 ^ w := by
      have : (256 : Nat) ^ (k + 1) = 2 ^ (8 * (k + 1)) := by rw [Nat.pow_mul]
      rw [this]
      exact Nat.pow_le_pow_right (by omega) (by omega)
    have h256 : (256 : Nat) ^ (k + 1) = 256 ^ k * 256 := Nat.pow_succ ..
    have hs : ((a <<< 8) ||| x.setWidth w).toNat = a.toNat * 256 + x.toNat := by
      rw [BitVec.toNat_or, BitVec.toNat_shiftLeft, BitVec.toNat_setWidth]
      have e1 : x.toNat % 2 ^ w = x.toNat := Nat.mod_eq_of_lt (by omega)
      have e2 : a.toNat <<< 8 % 2 ^ w = a.toNat <<< 8 := Nat.mod_eq_of_lt (by rw [Nat.shiftLeft_eq]; omega)
      rw [e1, e2, ← Nat.shiftLeft_add_eq_or_of_lt (by omega : x.toNat < 2 ^ 8), Nat.shiftLeft_eq]
    simp only [List.foldl_cons]
    rw [fold_numN w l (k + 1) _ (by rw [hs]; omega) (by omega), hs]
theorem num32_N (l : List (BitVec 8)) (h : l.length ≤ 4) : (num32 l).toNat = numN l := fold_numN 32 l 0 0 (by simp) (by omega)
theorem list2 {α : Type} {l : List α} (h : l.length = 2) : ∃ a b, l = [a, b] := by
  match l, h with
  | [a, b], _ => exact ⟨a, b, rfl⟩
/-- A small number in two bytes. -/
def be2 (n : Int) : List (BitVec 8) := [BitVec.ofInt 8 (n / 256), BitVec.ofInt 8 n]
theorem num32_be2 (n : Int) (h0 : 0 ≤ n) (h1 : n < 65536) : ((num32 (be2 n)).toNat : Int) = n := by
  rw [num32_N _ (by simp [be2])]
  simp only [be2, numN, List.foldl_cons, List.foldl_nil, BitVec.toNat_ofInt]
  omega
theorem num32_lt2 {l : List (BitVec 8)} (h : l.length = 2) : (num32 l).toNat < 65536 := by
  obtain ⟨a, b, rfl⟩ := list2 h
  rw [num32_N _ (by simp)]
  have := a.isLt; have := b.isLt
  simp only [numN, List.foldl_cons, List.foldl_nil]; omega
section
variable {P : Program} {n : Nat} {H : List Hl} {e : Ev} {C : Value → List Hl → Prop} {ty t t' : TypeId} {x y : Operand} {p : Int} {kd' : IntKind}
theorem o1_ishr8 (hx : opd e x = some (.int .i64 p)) (hy : opd e y = some (.int kd' 8)) (h : C (.int .i64 (p / 256)) H) : O1 P (.binOp .shr t x y t') ty n e H C :=
  o1_num hx hy (fun w => by rw [binOp_shr, shift_shr_any _ _ _ _ (by omega), Sem.run_pure]; rfl) h
/-- A call of what changes a box. -/
theorem o1_call_box {f : FuncId} {xs : List Operand} {args : List Value} {ats : Array TypeId} {X : Type} {good : X → Prop} {val : X → Value} {res : X → List Hl} {b : Nat} {T : TypeId} {cs : List Value} {H' : List Hl} [s : SBox H b T cs H']
    (hs : Has (.box b T cs :: H') → Spec P f args (.box b T cs :: H') good val res) (hxs : opds e xs = some args) (h : ∀ r, good r → C (val r) (res r)) : O1 P (.call ⟨.value (.func f), xs.toArray, ats⟩) ty n e H C := O1.ent s.s.out (o1_call hs hxs h)
end
end Go.Dp

set_option linter.unusedVariables false
set_option linter.unusedSimpArgs false
namespace Go.Dp
open Go.RowKit Go.Proofs
theorem o1_load_hc {P : Program} {n : Nat} {H : List Hl} {e : Ev} {C : Value → List Hl → Prop} {ty T : TypeId} {x : Operand} [TOne P T] {a : Addr} {v : Value} (hx : opd e x = some (.pointer (some a))) (hc : Has H → Cl (stars H) a v) (h : C v H) : O1 P (.load T x) ty n e H C :=
  ⟨fun a w ho o h1 h2 K Q hK => (o1_load_h hx (hc ho.has) h).out a w ho o h1 h2 K Q hK⟩
/-- A row, cleared by another one where it has its first place. -/
def clrL (a : Nat) (x : LN) (o : Option LN) : Option LN := o.map (fun y => if at_ y.1 a then addL y x else y)
def addM (M : List (Option LN)) (a : Nat) (x : LN) : List (Option LN) := (M.map (clrL a x)).set a (some x)
theorem map_get {α β : Type} {f : α → β} {A B : List α} (h : A.map f = B.map f) {i : Nat} (h1 : i < A.length) (h2 : i < B.length) : f A[i] = f B[i] := by
  have := congrArg (·[i]?) h
  simpa [h1, h2] using this
theorem map_set_same {α β : Type} {f : α → β} {A : List α} {B : List β} {i : Nat} {y : α} (h : A.map f = B) (h1 : i < A.length) (hy : f y = f A[i]) : (A.set i y).map f = B := by
  subst h
  rw [List.map_set, hy]
  apply List.ext_getElem
  · simp
  · intro j h2 h3
    rw [List.getElem_set]
    split
    · rename_i e
      subst e
      simp
    · rfl
set_option maxHeartbeats 8000000 in
theorem elim_Add (H : List Hl) (bm n z : Nat) (ar : Option Addr) (cr k : Nat) (M : List (Option RD)) (v : VD) (ad0 : Option Addr) (m0 c0 : Nat) (dd : List (BitVec 8)) (ML : List (Option LN)) (x : LN) (a : Nat) (hk : MOk n z M) (hML : M.map vw = ML) (hv : RdV (stars H) v) (hvn : v.n = n) (hd : Rs (stars H) B ad0 c0 dd) (hm0 : m0 = dd.length) (hdl : dd.length = z) (hx : red ML (v.l, dd) = x) (hfa : firstV x.1 = a) (hfree : ML[a]? = some none) (hk1 : k ≤ 1000) (ht : TabF (stars H)) :
    Spec Tryd.prog 23 [.pointer (some ⟨bm, 0, none⟩), Pv v, .slice ad0 m0 c0] (mB bm n z ar cr k :: mR n ar cr M :: .any (mrows M) :: H) (fun M' : List (Option RD) => M'.map vw = addM ML a x ∧ MOk n z M') (fun _ => .bool true) (fun M' => mB bm n z ar cr (k + 1) :: mR n ar cr M' :: .any (mrows M') :: H) := by
  refine spec_fn (res := fun M' : List (Option RD) => [mB bm n z ar cr (k + 1), mR n ar cr M', .any (mrows M')]) [mB bm n z ar cr k, mR n ar cr M, .any (mrows M)] H Tryd.func23 rfl Tryd.ntmps23 (by kernel_rfl) rfl (fun W => ?_)
  dsimp only [List.cons_append, List.nil_append]
  obtain ⟨l1, l2, l3, l4, l5, l6⟩ := hk
  have hk : MOk n z M := ⟨l1, l2, l3, l4, l5, l6⟩
  have hLk := hk.vw
  have hvl : v.l.length = n := by rw [hv.ok.len, hvn]
  rw [hML] at hLk
  obtain ⟨hxl, hxd⟩ : x.1.length = n ∧ x.2.length = z := by rw [← hx]; exact redT_len hLk hvl hdl _
  have hax : a < x.1.length := by
    unfold firstV at hfa
    split at hfa <;> omega
  have han : a < n := by omega
  have haM : a < M.length := by omega
  have hMLl : ML.length = n := hLk.len
  have hMa : M[a] = none := by
    have h1 := hfree
    rw [← hML, List.getElem?_map, List.getElem?_eq_getElem haM] at h1
    cases hq : M[a] with
    | none => rfl
    | some q => rw [hq] at h1; cases h1
  have hpadf := padD_full hdl
  obtain ⟨xl, xd⟩ := x
  dsimp only at hxl hxd hfa hax
  repeat' (first | refine ls_of rfl ?_ | refine ls_of_no ?_ | refine ls_guard_yes rfl rfl ?_ | refine ls_guard_no rfl rfl rfl rfl ?_ | refine ls_guard_un rfl rfl rfl ?_ | refine o1_move rfl ?_ | refine o1_assign rfl ?_ | refine st_seq ?_ | refine st_region ?_ | refine st_block ?_ | refine st_skip ?_ | refine st_ret ?_ | refine st_exit ?_ | refine st_cond_t rfl ?_ | refine st_cond_f rfl ?_ | refine st_cond rfl (fun _ => ?_) (fun _ => ?_) | refine ls_nil ?_ | refine nx_seq ?_ | refine nx_blk ?_ | refine nx_fn ?_ | refine nx_rounds ?_ | refine xt_seq ?_ | refine xt_here ?_ | refine xt_on rfl ?_ | refine xt_rounds ?_ | refine xt_cut ?_ | refine rt_seq ?_ | refine rt_blk ?_ | refine rt_rounds ?_ | refine rt_cut ?_ | refine o1_peql rfl rfl ?_ | refine o1_neq_f rfl rfl (by omega) ?_ | (refine o1_call (fun hh => elim_reduced _ bm n z ar cr k M v ad0 m0 c0 dd (RdM.own hk hh) hv.up hvn hd.up hm0 (by omega)) rfl (fun ⟨b7, ⟨vb, vn, va, vc, vl⟩, ad7, z7, cd7, d7⟩ hr => ?_); dsimp only at hr ⊢; obtain ⟨rfl, rfl, hr3⟩ := hr; rw [hML, hpadf, hx] at hr3; obtain ⟨rfl, rfl⟩ := Prod.mk.inj hr3) | refine o1_call (fun hh => (vec_First _ ⟨vb, vn, va, vc, vl⟩ (RdV.own hxl l3 hh) ht.up).vv (b := I a) (by rw [hfa])) rfl (fun _ _ => ?_) | refine o1_pick_t rfl rfl ?_ | refine o1_pick_f rfl rfl ?_ | refine o1_fieldAddr rfl ?_ | refine ox_load rfl (by rfl) ?_ | refine ox_load_enc rfl (by first | omega | (simp; omega)) ?_ | refine ox_load_any rfl (by assumption) ?_ | refine o1_len rfl ?_ | refine o1_add rfl rfl (by omega) ?_ | refine o1_lss_t rfl rfl (by omega) ?_ | refine o1_lss_f rfl rfl (by omega) ?_ | refine o1_lss rfl rfl (fun _ => ?_) (fun _ => ?_) | refine o1_neq_t rfl rfl (by omega) ?_ | refine o1_neq_f rfl rfl (by omega) ?_ | refine o1_neq rfl rfl (fun _ => ?_) (fun _ => ?_) | refine o1_slice_nil rfl ?_ | refine ox_store_enc B rfl rfl (by first | omega | (simp; done) | (simp; omega)) rfl ?_ | refine ox_stores rfl rfl (by first | omega | (simp; done) | (simp; omega)) rfl (by first | (simp only [List.set_cons_zero, List.set_cons_succ, Nat.zero_add, Nat.reduceAdd]; rfl) | rfl) ?_ | refine o1_nilCheck rfl ?_)
  refine st_loop (S := Nat × List (Option RD)) (fun q => [(0, .pointer (some ⟨bm, 0, none⟩)), (7, .pointer (some ⟨b7, 0, none⟩)), (8, I a), (44, .slice ar vn cr), (45, I vn), (46, I q.1)])
    (fun q => [mB bm vn z7 ar cr k, mR vn ar cr M, .any (mrows q.2), rX b7 (.pointer (some ⟨vb, 0, none⟩)) ad7 z7 cd7, vB vb vn va vc, vR vn va vc vl, rD ad7 z7 cd7 d7, .any (stars H)])
    (fun q => q.1 ≤ vn ∧ q.2.map PO = M.map PO ∧ q.2.map vw = partL (ML.map (clrL a (vl, d7))) ML q.1 ∧ MOk vn z7 q.2) (fun q => vn - q.1) (0, M) ⟨Nat.zero_le _, rfl, by rw [partL_zero, hML], hk⟩
    (cov_cons rfl rfl (cov_cons rfl rfl (cov_cons rfl rfl (cov_cons rfl rfl (cov_cons rfl rfl (cov_cons rfl rfl cov_nil)))))) (by (try dsimp only [List.cons_append, List.nil_append, List.singleton_append, List.append_nil]); (repeat (first | exact Ent.nil | exact Ent.refl _ | (apply Ent.cons; (repeat (first | exact Sel.here | apply Sel.there)))))) ?_
  rintro ⟨j, Q⟩ ⟨hj, hQp, hQv, hQk⟩
  dsimp only at hj hQp hQv hQk ⊢
  have hQl := hQk.len
  have hcl : (ML.map (clrL a (vl, d7))).length = ML.length := by rw [List.length_map]
  by_cases hjt : j < vn
  · have hjM : j < M.length := by omega
    have hjQ : j < Q.length := by omega
    have hjL : j < ML.length := by omega
    have hPO : PO M[j] = PO Q[j] := (map_get hQp hjQ hjM).symm
    have hvj : vw Q[j] = ML[j] := by
      have h1 := congrArg (·[j]?) hQv
      simp only [List.getElem?_map, List.getElem?_eq_getElem hjQ, Option.map_some] at h1
      rw [List.getElem?_eq_getElem (by rw [partL_len hcl]; exact hjL), partL_at hcl (Nat.le_refl j)] at h1
      exact Option.some.inj h1
    have hnext : partL (ML.map (clrL a (vl, d7))) ML (j + 1) = (partL (ML.map (clrL a (vl, d7))) ML j).set j (clrL a (vl, d7) (vw Q[j])) := by
      rw [← partL_succ hcl (by omega), hvj]
      simp
    cases hq0 : Q[j] with
    | none =>
      rw [hq0] at hPO hnext hvj
      have hn2 : partL (ML.map (clrL a (vl, d7))) ML (j + 1) = Q.map vw := by
        rw [hnext, ← hQv]
        show (Q.map vw).set j none = _
        have e : (Q.map vw)[j]'(by simpa using hjQ) = none := by simp [hq0, vw]
        rw [← e, List.set_getElem_self]
      repeat' (first | refine ls_of rfl ?_ | refine ls_of_no ?_ | refine ls_guard_yes rfl rfl ?_ | refine ls_guard_no rfl rfl rfl rfl ?_ | refine ls_guard_un rfl rfl rfl ?_ | refine o1_move rfl ?_ | refine o1_assign rfl ?_ | refine st_seq ?_ | refine st_region ?_ | refine st_block ?_ | refine st_skip ?_ | refine st_ret ?_ | refine st_exit ?_ | refine st_cond_t rfl ?_ | refine st_cond_f rfl ?_ | refine st_cond rfl (fun _ => ?_) (fun _ => ?_) | refine ls_nil ?_ | refine nx_seq ?_ | refine nx_blk ?_ | refine nx_fn ?_ | refine nx_rounds ?_ | refine xt_seq ?_ | refine xt_here ?_ | refine xt_on rfl ?_ | refine xt_rounds ?_ | refine xt_cut ?_ | refine rt_seq ?_ | refine rt_blk ?_ | refine rt_rounds ?_ | refine rt_cut ?_ | refine o1_iah (enc := PO) (ad := ar) (c := cr) (xs := M) j rfl rfl rx_row l1.symm rfl hjM ?_ | (refine o1_load_iah (enc := PO) (ad := ar) (c := cr) (xs := M) j rfl rx_row hjM ?_; rw [hPO]) | refine o1_pneq rfl rfl ?_ | refine o1_pick_t rfl rfl ?_ | refine o1_pick_f rfl rfl ?_ | refine o1_fieldAddr rfl ?_ | refine ox_load rfl (by rfl) ?_ | refine ox_load_enc rfl (by first | omega | (simp; omega)) ?_ | refine ox_load_any rfl (by assumption) ?_ | refine o1_len rfl ?_ | refine o1_add rfl rfl (by omega) ?_ | refine o1_lss_t rfl rfl (by omega) ?_ | refine o1_lss_f rfl rfl (by omega) ?_ | refine o1_lss rfl rfl (fun _ => ?_) (fun _ => ?_) | refine o1_neq_t rfl rfl (by omega) ?_ | refine o1_neq_f rfl rfl (by omega) ?_ | refine o1_neq rfl rfl (fun _ => ?_) (fun _ => ?_) | refine o1_slice_nil rfl ?_ | refine ox_store_enc B rfl rfl (by first | omega | (simp; done) | (simp; omega)) rfl ?_ | refine ox_stores rfl rfl (by first | omega | (simp; done) | (simp; omega)) rfl (by first | (simp only [List.set_cons_zero, List.set_cons_succ, Nat.zero_add, Nat.reduceAdd]; rfl) | rfl) ?_ | refine o1_nilCheck rfl ?_)
      refine nx_again (j + 1, Q) ⟨?_, hQp, hn2.symm, hQk⟩ ?_ (cov_cons rfl rfl (cov_cons rfl rfl (cov_cons rfl rfl (cov_cons rfl rfl (cov_cons rfl rfl (cov_cons rfl rfl cov_nil)))))) ?_
      · show j + 1 ≤ vn; omega
      · show vn - (j + 1) < vn - j; omega
      (try dsimp only [List.cons_append, List.nil_append, List.singleton_append, List.append_nil]); (repeat (first | exact Ent.nil | exact Ent.refl _ | (apply Ent.cons; (repeat (first | exact Sel.here | apply Sel.there)))))
    | some q =>
      rw [hq0] at hPO hnext hvj
      have hqm : some q ∈ Q := hq0 ▸ List.getElem_mem hjQ
      obtain ⟨hq1, hq2, hq3⟩ := hQk.ok q hqm
      obtain ⟨qb, ⟨qvb, qvn, qva, qvc, ql⟩, qad, qz, qcd, qd⟩ := q
      dsimp only at hq2 hq3
      subst hq2 hq3
      have hqll : ql.length = qvn := hq1.v.len
      have hqdl : qd.length = qz := hq1.d
      cases hat : at_ ql a
      · have hn2 : partL (ML.map (clrL a (vl, d7))) ML (j + 1) = Q.map vw := by
          rw [hnext, ← hQv]
          have e : clrL a (vl, d7) (vw (some ⟨qb, ⟨qvb, qvn, qva, qvc, ql⟩, qad, qz, qcd, qd⟩)) = (Q.map vw)[j]'(by simpa using hjQ) := by
            simp only [List.getElem_map, hq0, vw, clrL, Option.map_some]
            rw [hat]
            rfl
          rw [e, List.set_getElem_self]
        repeat' (first | refine ls_of rfl ?_ | refine ls_of_no ?_ | refine ls_guard_yes rfl rfl ?_ | refine ls_guard_no rfl rfl rfl rfl ?_ | refine ls_guard_un rfl rfl rfl ?_ | refine o1_move rfl ?_ | refine o1_assign rfl ?_ | refine st_seq ?_ | refine st_region ?_ | refine st_block ?_ | refine st_skip ?_ | refine st_ret ?_ | refine st_exit ?_ | refine st_cond_t rfl ?_ | refine st_cond_f rfl ?_ | refine st_cond rfl (fun _ => ?_) (fun _ => ?_) | refine ls_nil ?_ | refine nx_seq ?_ | refine nx_blk ?_ | refine nx_fn ?_ | refine nx_rounds ?_ | refine xt_seq ?_ | refine xt_here ?_ | refine xt_on rfl ?_ | refine xt_rounds ?_ | refine xt_cut ?_ | refine rt_seq ?_ | refine rt_blk ?_ | refine rt_rounds ?_ | refine rt_cut ?_ | refine o1_iah (enc := PO) (ad := ar) (c := cr) (xs := M) j rfl rfl rx_row l1.symm rfl hjM ?_ | (refine o1_load_iah (enc := PO) (ad := ar) (c := cr) (xs := M) j rfl rx_row hjM ?_; rw [hPO]) | refine o1_pneq rfl rfl ?_ | refine o1_load_hc rfl (fun hh => (mrows_read (M := Q) hqm hq1 hh).p) ?_ | refine o1_call (fun hh => (vec_Has _ ⟨qvb, qvn, qva, qvc, ql⟩ a (mrows_read (M := Q) hqm hq1 hh).v).bv (b := false) (by rw [hasV_nat, hat])) rfl (fun _ _ => ?_) | refine o1_pick_t rfl rfl ?_ | refine o1_pick_f rfl rfl ?_ | refine o1_fieldAddr rfl ?_ | refine ox_load rfl (by rfl) ?_ | refine ox_load_enc rfl (by first | omega | (simp; omega)) ?_ | refine ox_load_any rfl (by assumption) ?_ | refine o1_len rfl ?_ | refine o1_add rfl rfl (by omega) ?_ | refine o1_lss_t rfl rfl (by omega) ?_ | refine o1_lss_f rfl rfl (by omega) ?_ | refine o1_lss rfl rfl (fun _ => ?_) (fun _ => ?_) | refine o1_neq_t rfl rfl (by omega) ?_ | refine o1_neq_f rfl rfl (by omega) ?_ | refine o1_neq rfl rfl (fun _ => ?_) (fun _ => ?_) | refine o1_slice_nil rfl ?_ | refine ox_store_enc B rfl rfl (by first | omega | (simp; done) | (simp; omega)) rfl ?_ | refine ox_stores rfl rfl (by first | omega | (simp; done) | (simp; omega)) rfl (by first | (simp only [List.set_cons_zero, List.set_cons_succ, Nat.zero_add, Nat.reduceAdd]; rfl) | rfl) ?_ | refine o1_nilCheck rfl ?_)
        refine nx_again (j + 1, Q) ⟨?_, hQp, hn2.symm, hQk⟩ ?_ (cov_cons rfl rfl (cov_cons rfl rfl (cov_cons rfl rfl (cov_cons rfl rfl (cov_cons rfl rfl (cov_cons rfl rfl cov_nil)))))) ?_
        · show j + 1 ≤ qvn; omega
        · show qvn - (j + 1) < qvn - j; omega
        (try dsimp only [List.cons_append, List.nil_append, List.singleton_append, List.append_nil]); (repeat (first | exact Ent.nil | exact Ent.refl _ | (apply Ent.cons; (repeat (first | exact Sel.here | apply Sel.there)))))
      · obtain ⟨q', hq'⟩ : ∃ q' : RD, q' = ⟨qb, ⟨qvb, qvn, qva, qvc, xorV ql vl⟩, qad, qz, qcd, xorL qd d7⟩ := ⟨_, rfl⟩
        have hn2 : partL (ML.map (clrL a (vl, d7))) ML (j + 1) = (Q.set j (some q')).map vw := by
          rw [hnext, List.map_set, ← hQv, hq']
          simp only [vw, clrL, Option.map_some]
          rw [hat]
          rfl
        have hPs : (Q.set j (some q')).map PO = M.map PO := map_set_same hQp hjQ (by rw [hq0, hq'])
        have hQk' : MOk qvn qz (Q.set j (some q')) := ⟨by rw [List.length_set]; exact hQl, l2, l3, l4, l5, fun r hr => by
          rcases List.mem_or_eq_of_mem_set hr with h | h
          · exact hQk.ok r h
          · injection h with h
            subst h
            rw [hq']
            exact ⟨⟨⟨by show (xorV ql vl).length = qvn; rw [xorV_len (by omega)]; exact hqll, l3⟩, by show (xorL qd d7).length = qz; rw [xorL_len _ _ (by omega)]; exact hqdl⟩, rfl, rfl⟩⟩
        repeat' (first | refine ls_of rfl ?_ | refine ls_of_no ?_ | refine ls_guard_yes rfl rfl ?_ | refine ls_guard_no rfl rfl rfl rfl ?_ | refine ls_guard_un rfl rfl rfl ?_ | refine o1_move rfl ?_ | refine o1_assign rfl ?_ | refine st_seq ?_ | refine st_region ?_ | refine st_block ?_ | refine st_skip ?_ | refine st_ret ?_ | refine st_exit ?_ | refine st_cond_t rfl ?_ | refine st_cond_f rfl ?_ | refine st_cond rfl (fun _ => ?_) (fun _ => ?_) | refine ls_nil ?_ | refine nx_seq ?_ | refine nx_blk ?_ | refine nx_fn ?_ | refine nx_rounds ?_ | refine xt_seq ?_ | refine xt_here ?_ | refine xt_on rfl ?_ | refine xt_rounds ?_ | refine xt_cut ?_ | refine rt_seq ?_ | refine rt_blk ?_ | refine rt_rounds ?_ | refine rt_cut ?_ | refine o1_iah (enc := PO) (ad := ar) (c := cr) (xs := M) j rfl rfl rx_row l1.symm rfl hjM ?_ | (refine o1_load_iah (enc := PO) (ad := ar) (c := cr) (xs := M) j rfl rx_row hjM ?_; rw [hPO]) | refine o1_pneq rfl rfl ?_ | refine o1_load_hc rfl (fun hh => (mrows_read (M := Q) hqm hq1 hh).p) ?_ | refine o1_call (fun hh => (vec_Has _ ⟨qvb, qvn, qva, qvc, ql⟩ a (mrows_read (M := Q) hqm hq1 hh).v).bv (b := true) (by rw [hasV_nat, hat])) rfl (fun _ _ => ?_) | refine o1_call_to (rX qb (.pointer (some ⟨qvb, 0, none⟩)) qad qz qcd :: vB qvb qvn qva qvc :: vR qvn qva qvc ql :: rD qad qz qcd qd :: [.any (mrows (Q.set j none)), mB bm qvn qz ar cr k, mR qvn ar cr M, rX b7 (.pointer (some ⟨vb, 0, none⟩)) ad7 qz cd7, vB vb qvn va vc, vR qvn va vc vl, rD ad7 qz cd7 d7, .any (stars H)]) (fun h hh => mrows_take (R := [mB bm qvn qz ar cr k, mR qvn ar cr M, rX b7 (.pointer (some ⟨vb, 0, none⟩)) ad7 qz cd7, vB vb qvn va vc, vR qvn va vc vl, rD ad7 qz cd7 d7, .any (stars H)]) hjQ hq0 h (Ent.out (by (try dsimp only [List.cons_append, List.nil_append, List.singleton_append, List.append_nil]); (repeat (first | exact Ent.nil | exact Ent.refl _ | (apply Ent.cons; (repeat (first | exact Sel.here | apply Sel.there)))))) h hh)) (fun hh => row_xor _ qb qvb qvn qva qvc ql qad qz qcd qd ⟨b7, ⟨vb, qvn, va, vc, vl⟩, ad7, qz, cd7, d7⟩ hqll l3 hqdl l5 (RdR.own hxl l3 hxd (has_tail (has_tail (has_tail (has_tail hh))))) rfl rfl) rfl (fun _ _ => ?_) | refine o1_pick_t rfl rfl ?_ | refine o1_pick_f rfl rfl ?_ | refine o1_fieldAddr rfl ?_ | refine ox_load rfl (by rfl) ?_ | refine ox_load_enc rfl (by first | omega | (simp; omega)) ?_ | refine ox_load_any rfl (by assumption) ?_ | refine o1_len rfl ?_ | refine o1_add rfl rfl (by omega) ?_ | refine o1_lss_t rfl rfl (by omega) ?_ | refine o1_lss_f rfl rfl (by omega) ?_ | refine o1_lss rfl rfl (fun _ => ?_) (fun _ => ?_) | refine o1_neq_t rfl rfl (by omega) ?_ | refine o1_neq_f rfl rfl (by omega) ?_ | refine o1_neq rfl rfl (fun _ => ?_) (fun _ => ?_) | refine o1_slice_nil rfl ?_ | refine ox_store_enc B rfl rfl (by first | omega | (simp; done) | (simp; omega)) rfl ?_ | refine ox_stores rfl rfl (by first | omega | (simp; done) | (simp; omega)) rfl (by first | (simp only [List.set_cons_zero, List.set_cons_succ, Nat.zero_add, Nat.reduceAdd]; rfl) | rfl) ?_ | refine o1_nilCheck rfl ?_)
        have hsn : (Q.set j none).set j (some q') = Q.set j (some q') := List.set_set ..
        have hput := mrows_put (M := Q.set j none) (r := q') (i := j) (R := [mB bm qvn qz ar cr k, mR qvn ar cr M, rX b7 (.pointer (some ⟨vb, 0, none⟩)) ad7 qz cd7, vB vb qvn va vc, vR qvn va vc vl, rD ad7 qz cd7 d7, .any (stars H)]) (by rw [List.length_set]; exact hjQ) (by simp)
        rw [hsn] at hput
        refine nx_ent (H2 := .any (mrows (Q.set j (some q'))) :: [mB bm qvn qz ar cr k, mR qvn ar cr M, rX b7 (.pointer (some ⟨vb, 0, none⟩)) ad7 qz cd7, vB vb qvn va vc, vR qvn va vc vl, rD ad7 qz cd7 d7, .any (stars H)]) (fun h hh => hput h (by rw [hq']; exact Ent.out (by show Ent _ (rX qb (.pointer (some ⟨qvb, 0, none⟩)) qad qz qcd :: vB qvb qvn qva qvc :: vR qvn qva qvc (xorV ql vl) :: rD qad qz qcd (xorL qd d7) :: [.any (mrows (Q.set j none)), mB bm qvn qz ar cr k, mR qvn ar cr M, rX b7 (.pointer (some ⟨vb, 0, none⟩)) ad7 qz cd7, vB vb qvn va vc, vR qvn va vc vl, rD ad7 qz cd7 d7, .any (stars H)]); (try dsimp only [List.cons_append, List.nil_append, List.singleton_append, List.append_nil]); (repeat (first | exact Ent.nil | exact Ent.refl _ | (apply Ent.cons; (repeat (first | exact Sel.here | apply Sel.there)))))) h hh)) ?_
        refine nx_again (j + 1, Q.set j (some q')) ⟨?_, hPs, hn2.symm, hQk'⟩ ?_ (cov_cons rfl rfl (cov_cons rfl rfl (cov_cons rfl rfl (cov_cons rfl rfl (cov_cons rfl rfl (cov_cons rfl rfl cov_nil)))))) ?_
        · show j + 1 ≤ qvn; omega
        · show qvn - (j + 1) < qvn - j; omega
        (try dsimp only [List.cons_append, List.nil_append, List.singleton_append, List.append_nil]); (repeat (first | exact Ent.nil | exact Ent.refl _ | (apply Ent.cons; (repeat (first | exact Sel.here | apply Sel.there)))))
  · obtain rfl : j = vn := by omega
    have haQ : a < Q.length := by omega
    rw [partL_full hcl (by omega)] at hQv
    obtain ⟨r, hr⟩ : ∃ r : RD, r = ⟨b7, ⟨vb, j, va, vc, vl⟩, ad7, z7, cd7, d7⟩ := ⟨_, rfl⟩
    have hQa : Q[a] = none := by
      have h1 := map_get hQp haQ haM
      rw [hMa] at h1
      cases hq : Q[a] with
      | none => rfl
      | some q => rw [hq] at h1; cases h1
    have hPs : (M.set a (some r)).map PO = (Q.set a (some r)).map PO := by rw [List.map_set, List.map_set, hQp]
    have hQk' : MOk j z7 (Q.set a (some r)) := ⟨by rw [List.length_set]; exact hQl, l2, l3, l4, l5, fun r0 hr0 => by
      rcases List.mem_or_eq_of_mem_set hr0 with h | h
      · exact hQk.ok r0 h
      · injection h with h
        subst h
        rw [hr]
        exact ⟨⟨⟨hxl, l3⟩, hxd⟩, rfl, rfl⟩⟩
    repeat' (first | refine ls_of rfl ?_ | refine ls_of_no ?_ | refine ls_guard_yes rfl rfl ?_ | refine ls_guard_no rfl rfl rfl rfl ?_ | refine ls_guard_un rfl rfl rfl ?_ | refine o1_move rfl ?_ | refine o1_assign rfl ?_ | refine st_seq ?_ | refine st_region ?_ | refine st_block ?_ | refine st_skip ?_ | refine st_ret ?_ | refine st_exit ?_ | refine st_cond_t rfl ?_ | refine st_cond_f rfl ?_ | refine st_cond rfl (fun _ => ?_) (fun _ => ?_) | refine ls_nil ?_ | refine nx_seq ?_ | refine nx_blk ?_ | refine nx_fn ?_ | refine nx_rounds ?_ | refine xt_seq ?_ | refine xt_here ?_ | refine xt_on rfl ?_ | refine xt_rounds ?_ | refine xt_cut ?_ | refine rt_seq ?_ | refine rt_blk ?_ | refine rt_rounds ?_ | refine rt_cut ?_ | refine o1_iah (enc := PO) (ad := ar) (c := cr) (xs := M) a rfl rfl rx_row l1.symm rfl haM ?_ | (refine ox_store_rowenc (ad := ar) (c := cr) (v := some r) PO a rfl (by rw [hr]; rfl) han rfl ?_; rw [hPs]) | refine o1_call_box (b := bm) (fun _ => at_Add64 _ bm j z7 ar cr k hk1) rfl (fun _ _ => ?_) | refine o1_pick_t rfl rfl ?_ | refine o1_pick_f rfl rfl ?_ | refine o1_fieldAddr rfl ?_ | refine ox_load rfl (by rfl) ?_ | refine ox_load_enc rfl (by first | omega | (simp; omega)) ?_ | refine ox_load_any rfl (by assumption) ?_ | refine o1_len rfl ?_ | refine o1_add rfl rfl (by omega) ?_ | refine o1_lss_t rfl rfl (by omega) ?_ | refine o1_lss_f rfl rfl (by omega) ?_ | refine o1_lss rfl rfl (fun _ => ?_) (fun _ => ?_) | refine o1_neq_t rfl rfl (by omega) ?_ | refine o1_neq_f rfl rfl (by omega) ?_ | refine o1_neq rfl rfl (fun _ => ?_) (fun _ => ?_) | refine o1_slice_nil rfl ?_ | refine ox_store_enc B rfl rfl (by first | omega | (simp; done) | (simp; omega)) rfl ?_ | refine ox_stores rfl rfl (by first | omega | (simp; done) | (simp; omega)) rfl (by first | (simp only [List.set_cons_zero, List.set_cons_succ, Nat.zero_add, Nat.reduceAdd]; rfl) | rfl) ?_ | refine o1_nilCheck rfl ?_)
    have hput := mrows_put (M := Q) (r := r) (i := a) (R := [mB bm j z7 ar cr (k + 1), .row 98 1 (.slice ar j cr) j ((Q.set a (some r)).map PO), .any (stars H)]) haQ hQa
    refine rt_ent (H2 := .any (mrows (Q.set a (some r))) :: [mB bm j z7 ar cr (k + 1), .row 98 1 (.slice ar j cr) j ((Q.set a (some r)).map PO), .any (stars H)]) (fun h hh => hput h (by rw [hr]; exact Ent.out (by show Ent _ (rX b7 (.pointer (some ⟨vb, 0, none⟩)) ad7 z7 cd7 :: vB vb j va vc :: vR j va vc vl :: rD ad7 z7 cd7 d7 :: [.any (mrows Q), mB bm j z7 ar cr (k + 1), .row 98 1 (.slice ar j cr) j ((Q.set a (some ⟨b7, ⟨vb, j, va, vc, vl⟩, ad7, z7, cd7, d7⟩)).map PO), .any (stars H)]); rw [← hr]; (try dsimp only [List.cons_append, List.nil_append, List.singleton_append, List.append_nil]); (repeat (first | exact Ent.nil | exact Ent.refl _ | (apply Ent.cons; (repeat (first | exact Sel.here | apply Sel.there)))))) h hh)) ?_
    refine rt_tmp (Q.set a (some r)) rfl rfl rfl ⟨?_, hQk'⟩ ?_
    · rw [List.map_set, hQv, addM, hr]
      rfl
    (try dsimp only [List.cons_append, List.nil_append, List.singleton_append, List.append_nil]); (repeat (first | exact Ent.nil | exact Ent.refl _ | (apply Ent.cons; (repeat (first | exact Sel.here | apply Sel.there)))))
set_option maxHeartbeats 2000000 in
theorem elim_Add_old (H : List Hl) (bm n z : Nat) (ar : Option Addr) (cr k : Nat) (M : List (Option RD)) (v : VD) (ad0 : Option Addr) (m0 c0 : Nat) (dd : List (BitVec 8)) (ML : List (Option LN)) (x : LN) (hM : RdM (stars H) bm n z ar cr k M) (hML : M.map vw = ML) (hv : RdV (stars H) v) (hvn : v.n = n) (hd : Rs (stars H) B ad0 c0 dd) (hm0 : m0 = dd.length) (hdl : dd.length = z) (hx : red ML (v.l, dd) = x) (hfa : firstV x.1 = -1) (ht : TabF (stars H)) :
    Spec Tryd.prog 23 [.pointer (some ⟨bm, 0, none⟩), Pv v, .slice ad0 m0 c0] H (fun _ : Unit => True) (fun _ => .bool false) (fun _ => H) := by
  refine spec_pure (res := fun _ => []) H Tryd.func23 rfl Tryd.ntmps23 (by kernel_rfl) rfl (fun W => ?_)
  have hLk := hM.ok.vw
  have hvl : v.l.length = n := by rw [hv.ok.len, hvn]
  rw [hML] at hLk
  obtain ⟨hxl, hxd⟩ : x.1.length = n ∧ x.2.length = z := by rw [← hx]; exact redT_len hLk hvl hdl _
  have hpadf := padD_full hdl
  have l3 := hM.ok.n2
  have m2 := hM.fz
  obtain ⟨xl, xd⟩ := x
  dsimp only at hxl hxd hfa
  repeat' (first | refine ls_of rfl ?_ | refine ls_of_no ?_ | refine ls_guard_yes rfl rfl ?_ | refine ls_guard_no rfl rfl rfl rfl ?_ | refine ls_guard_un rfl rfl rfl ?_ | refine o1_move rfl ?_ | refine o1_assign rfl ?_ | refine st_seq ?_ | refine st_region ?_ | refine st_block ?_ | refine st_skip ?_ | refine st_ret ?_ | refine st_exit ?_ | refine st_cond_t rfl ?_ | refine st_cond_f rfl ?_ | refine st_cond rfl (fun _ => ?_) (fun _ => ?_) | refine ls_nil ?_ | refine nx_seq ?_ | refine nx_blk ?_ | refine nx_fn ?_ | refine nx_rounds ?_ | refine xt_seq ?_ | refine xt_here ?_ | refine xt_on rfl ?_ | refine xt_rounds ?_ | refine xt_cut ?_ | refine rt_seq ?_ | refine rt_blk ?_ | refine rt_rounds ?_ | refine rt_cut ?_ | refine o1_peql rfl rfl ?_ | refine ox_load_any rfl m2 ?_ | refine o1_neq_f rfl rfl (by omega) ?_ | (refine o1_call (fun _ => elim_reduced _ bm n z ar cr k M v ad0 m0 c0 dd hM.up hv.up hvn hd.up hm0 (by omega)) rfl (fun ⟨b7, ⟨vb, vn, va, vc, vl⟩, ad7, z7, cd7, d7⟩ hr => ?_); dsimp only at hr ⊢; obtain ⟨rfl, rfl, hr3⟩ := hr; rw [hML, hpadf, hx] at hr3; obtain ⟨rfl, rfl⟩ := Prod.mk.inj hr3) | refine o1_call (fun hh => (vec_First _ ⟨vb, vn, va, vc, vl⟩ (RdV.own hxl l3 hh) ht.up).vv (b := I (-1)) (by rw [hfa])) rfl (fun _ _ => ?_) | refine o1_pick_t rfl rfl ?_ | refine o1_pick_f rfl rfl ?_ | refine o1_fieldAddr rfl ?_ | refine ox_load rfl (by rfl) ?_ | refine ox_load_enc rfl (by first | omega | (simp; omega)) ?_ | refine ox_load_any rfl (by assumption) ?_ | refine o1_len rfl ?_ | refine o1_add rfl rfl (by omega) ?_ | refine o1_lss_t rfl rfl (by omega) ?_ | refine o1_lss_f rfl rfl (by omega) ?_ | refine o1_lss rfl rfl (fun _ => ?_) (fun _ => ?_) | refine o1_neq_t rfl rfl (by omega) ?_ | refine o1_neq_f rfl rfl (by omega) ?_ | refine o1_neq rfl rfl (fun _ => ?_) (fun _ => ?_) | refine o1_slice_nil rfl ?_ | refine ox_store_enc B rfl rfl (by first | omega | (simp; done) | (simp; omega)) rfl ?_ | refine ox_stores rfl rfl (by first | omega | (simp; done) | (simp; omega)) rfl (by first | (simp only [List.set_cons_zero, List.set_cons_succ, Nat.zero_add, Nat.reduceAdd]; rfl) | rfl) ?_ | refine o1_nilCheck rfl ?_)
  refine rt_tmp () rfl rfl rfl trivial ?_
  (try dsimp only [List.cons_append, List.nil_append, List.singleton_append, List.append_nil]); (repeat (first | exact Ent.nil | exact Ent.refl _ | (apply Ent.cons; (repeat (first | exact Sel.here | apply Sel.there)))))
theorem clone_C (H : List Hl) (ad : Option Addr) (c m : Nat) (l : List (BitVec 8)) (h : Rs (stars H) B ad c l) (hm : m = l.length) (hb : m ≤ 1000) :
    Spec Tryd.prog 58 [.slice ad m c] H (fun _ : Option Addr × Nat => True) (fun r => .slice r.1 m r.2) (fun r => .row 5 1 (.slice r.1 m r.2) m (l.map B) :: H) := by
  refine spec_pure (res := fun r : Option Addr × Nat => [.row 5 1 (.slice r.1 m r.2) m (l.map B)]) H Tryd.func58 rfl Tryd.ntmps58 (by kernel_rfl) rfl (fun W => ?_)
  cases ad with
  | none =>
    have hl : l = [] := by
      cases l with
      | nil => rfl
      | cons a l => obtain ⟨x, hx⟩ := h.sm (by simp); cases hx
    subst hl
    subst hm
    repeat' (first | refine ls_of rfl ?_ | refine ls_of_no ?_ | refine ls_guard_yes rfl rfl ?_ | refine ls_guard_no rfl rfl rfl rfl ?_ | refine ls_guard_un rfl rfl rfl ?_ | refine o1_move rfl ?_ | refine o1_assign rfl ?_ | refine st_seq ?_ | refine st_region ?_ | refine st_block ?_ | refine st_skip ?_ | refine st_ret ?_ | refine st_exit ?_ | refine st_cond_t rfl ?_ | refine st_cond_f rfl ?_ | refine st_cond rfl (fun _ => ?_) (fun _ => ?_) | refine ls_nil ?_ | refine nx_seq ?_ | refine nx_blk ?_ | refine nx_fn ?_ | refine nx_rounds ?_ | refine xt_seq ?_ | refine xt_here ?_ | refine xt_on rfl ?_ | refine xt_rounds ?_ | refine xt_cut ?_ | refine rt_seq ?_ | refine rt_blk ?_ | refine rt_rounds ?_ | refine rt_cut ?_ | refine o1_slice_nil rfl ?_ | refine o1_lit_B rfl rfl rfl rfl rfl (fun _ => ?_) | refine ox_append rfl rfl (rx_box rfl (by first | decide | omega)) rfl rfl (fun _ => rfl) (by omega) (by omega) (fun _ _ => ?_) | refine ox_append rfl rfl (rx_any (by assumption)) rfl rfl (fun _ => rfl) (by omega) (by omega) (fun _ _ => ?_) | refine ox_append rfl rfl rx_row rfl rfl (fun _ => rfl) (by omega) (by omega) (fun _ _ => ?_))
    refine (rt_ent (ent_nil 5 B) ?_)
    refine rt_tmp (none, 0) rfl rfl rfl trivial ?_
    (try dsimp only [List.cons_append, List.nil_append, List.singleton_append, List.append_nil]); (repeat (first | exact Ent.nil | exact Ent.refl _ | (apply Ent.cons; (repeat (first | exact Sel.here | apply Sel.there)))))
  | some a =>
    repeat' (first | refine ls_of rfl ?_ | refine ls_of_no ?_ | refine ls_guard_yes rfl rfl ?_ | refine ls_guard_no rfl rfl rfl rfl ?_ | refine ls_guard_un rfl rfl rfl ?_ | refine o1_move rfl ?_ | refine o1_assign rfl ?_ | refine st_seq ?_ | refine st_region ?_ | refine st_block ?_ | refine st_skip ?_ | refine st_ret ?_ | refine st_exit ?_ | refine st_cond_t rfl ?_ | refine st_cond_f rfl ?_ | refine st_cond rfl (fun _ => ?_) (fun _ => ?_) | refine ls_nil ?_ | refine nx_seq ?_ | refine nx_blk ?_ | refine nx_fn ?_ | refine nx_rounds ?_ | refine xt_seq ?_ | refine xt_here ?_ | refine xt_on rfl ?_ | refine xt_rounds ?_ | refine xt_cut ?_ | refine rt_seq ?_ | refine rt_blk ?_ | refine rt_rounds ?_ | refine rt_cut ?_ | refine o1_lit_enc B ([] : List (BitVec 8)) rfl rfl rfl (fun _ => rfl) rfl rfl rfl (fun _ => ?_) | refine ox_append_box (enc := B) (xs := ([] : List (BitVec 8))) rfl rfl rfl rfl (rx_any h) hm rfl (fun _ => rfl) (by omega) (by omega) (fun _ _ => ?_) | refine o1_slice_nil rfl ?_ | refine o1_lit_B rfl rfl rfl rfl rfl (fun _ => ?_) | refine ox_append rfl rfl (rx_box rfl (by first | decide | omega)) rfl rfl (fun _ => rfl) (by omega) (by omega) (fun _ _ => ?_) | refine ox_append rfl rfl (rx_any (by assumption)) rfl rfl (fun _ => rfl) (by omega) (by omega) (fun _ _ => ?_) | refine ox_append rfl rfl rx_row rfl rfl (fun _ => rfl) (by omega) (by omega) (fun _ _ => ?_))
    refine rt_tmp (_, _) rfl rfl (by simp only [Nat.zero_add]; rfl) trivial ?_
    simp only [Nat.zero_add, List.nil_append]
    (try dsimp only [List.cons_append, List.nil_append, List.singleton_append, List.append_nil]); (repeat (first | exact Ent.nil | exact Ent.refl _ | (apply Ent.cons; (repeat (first | exact Sel.here | apply Sel.there)))))
set_option maxHeartbeats 2000000 in
theorem elim_Solve (H : List Hl) (bm n z : Nat) (ar : Option Addr) (cr : Nat) (M : List (Option RD)) (R : List RD) (hM : RdM (stars H) bm n z ar cr n M) (hR : M = R.map some) :
    Spec Tryd.prog 26 [.pointer (some ⟨bm, 0, none⟩)] H (fun r : Option Addr × Nat × List (SlD (BitVec 8)) => r.2.2.map (·.l) = R.map (·.d)) (fun r => .slice r.1 r.2.2.length r.2.1)
      (fun r => .row 38 1 (.slice r.1 r.2.2.length r.2.1) r.2.2.length (r.2.2.map Bs) :: .any (pcs 5 r.2.2) :: H) := by
  refine spec_pure (res := fun r : Option Addr × Nat × List (SlD (BitVec 8)) => [.row 38 1 (.slice r.1 r.2.2.length r.2.1) r.2.2.length (r.2.2.map Bs), .any (pcs 5 r.2.2)]) H Tryd.func26 rfl Tryd.ntmps26 (by kernel_rfl) rfl (fun W => ?_)
  obtain ⟨l1, l2, l3, l4, l5, l6⟩ := hM.ok
  have m3 := hM.fs
  have hRl : R.length = n := by rw [← l1, hR, List.length_map]
  repeat' (first | refine ls_of rfl ?_ | refine ls_of_no ?_ | refine ls_guard_yes rfl rfl ?_ | refine ls_guard_no rfl rfl rfl rfl ?_ | refine ls_guard_un rfl rfl rfl ?_ | refine o1_move rfl ?_ | refine o1_assign rfl ?_ | refine st_seq ?_ | refine st_region ?_ | refine st_block ?_ | refine st_skip ?_ | refine st_ret ?_ | refine st_exit ?_ | refine st_cond_t rfl ?_ | refine st_cond_f rfl ?_ | refine st_cond rfl (fun _ => ?_) (fun _ => ?_) | refine ls_nil ?_ | refine nx_seq ?_ | refine nx_blk ?_ | refine nx_fn ?_ | refine nx_rounds ?_ | refine xt_seq ?_ | refine xt_here ?_ | refine xt_on rfl ?_ | refine xt_rounds ?_ | refine xt_cut ?_ | refine rt_seq ?_ | refine rt_blk ?_ | refine rt_rounds ?_ | refine rt_cut ?_ | refine o1_call (fun _ => (elim_Full _ bm n n (cl_up hM.fk) (cl_up hM.fn)).bv (b := true) (by simp)) rfl (fun _ _ => ?_) | refine ox_load_any rfl m3 ?_ | refine o1_fieldAddr rfl ?_ | refine ox_load rfl (by rfl) ?_ | refine ox_load_enc rfl (by first | omega | (simp; omega)) ?_ | refine ox_load_any rfl (by assumption) ?_ | refine o1_len rfl ?_ | refine o1_add rfl rfl (by omega) ?_ | refine o1_lss_t rfl rfl (by omega) ?_ | refine o1_lss_f rfl rfl (by omega) ?_ | refine o1_lss rfl rfl (fun _ => ?_) (fun _ => ?_) | refine o1_bnot rfl ?_ | refine o1_unot rfl ?_ | refine o1_lit_B rfl rfl rfl rfl rfl (fun _ => ?_) | refine ox_append rfl rfl (rx_box rfl (by first | decide | omega)) rfl rfl (fun _ => rfl) (by omega) (by omega) (fun _ _ => ?_) | refine ox_append rfl rfl (rx_any (by assumption)) rfl rfl (fun _ => rfl) (by omega) (by omega) (fun _ _ => ?_) | refine ox_append rfl rfl rx_row rfl rfl (fun _ => rfl) (by omega) (by omega) (fun _ _ => ?_) | refine o1_nilCheck rfl ?_)
  refine st_ent (ent_nil 38 Bs) (st_ent (fun h hh => sel_swap h (pcs_nil (T := 5) h hh)) ?_)
  refine st_loop (S := Nat × Option Addr × Nat × List (SlD (BitVec 8))) (fun q => [(3, .slice q.2.1 q.2.2.2.length q.2.2.1), (12, .slice ar n cr), (13, I n), (14, I q.1)])
    (fun q => [.row 38 1 (.slice q.2.1 q.2.2.2.length q.2.2.1) q.2.2.2.length (q.2.2.2.map Bs), .any (pcs 5 q.2.2.2), .any (stars H)])
    (fun q => q.1 ≤ n ∧ q.2.2.2.map (·.l) = (R.map (·.d)).take q.1) (fun q => n - q.1) (0, none, 0, []) ⟨by omega, rfl⟩
    (cov_cons rfl rfl (cov_cons rfl rfl (cov_cons rfl rfl (cov_cons rfl rfl cov_nil)))) (by (try dsimp only [List.cons_append, List.nil_append, List.singleton_append, List.append_nil]); (repeat (first | exact Ent.nil | exact Ent.refl _ | (apply Ent.cons; (repeat (first | exact Sel.here | apply Sel.there)))))) ?_
  rintro ⟨i, a1, c1, out⟩ ⟨hi, hout⟩
  dsimp only at hi hout ⊢
  have hol : out.length = i := by have := congrArg List.length hout; simp at this; omega
  by_cases hlt : i < n
  · have hiM : i < M.length := by omega
    have hiR : i < R.length := by omega
    obtain ⟨r, hr⟩ : ∃ r, R[i] = r := ⟨_, rfl⟩
    have hMi : M[i] = some r := by subst hR; simp [hr]
    have hrm : some r ∈ M := hMi ▸ List.getElem_mem hiM
    have hrr := hM.fm r hrm
    obtain ⟨hr1, hr2, hr3⟩ := l6 r hrm
    have hrs := hrr.s
    have hrd := hrr.d
    have hrz : r.z = r.d.length := hrr.z.symm
    have hrz2 : r.z ≤ 16 := by omega
    repeat' (first | refine ls_of rfl ?_ | refine ls_of_no ?_ | refine ls_guard_yes rfl rfl ?_ | refine ls_guard_no rfl rfl rfl rfl ?_ | refine ls_guard_un rfl rfl rfl ?_ | refine o1_move rfl ?_ | refine o1_assign rfl ?_ | refine st_seq ?_ | refine st_region ?_ | refine st_block ?_ | refine st_skip ?_ | refine st_ret ?_ | refine st_exit ?_ | refine st_cond_t rfl ?_ | refine st_cond_f rfl ?_ | refine st_cond rfl (fun _ => ?_) (fun _ => ?_) | refine ls_nil ?_ | refine nx_seq ?_ | refine nx_blk ?_ | refine nx_fn ?_ | refine nx_rounds ?_ | refine xt_seq ?_ | refine xt_here ?_ | refine xt_on rfl ?_ | refine xt_rounds ?_ | refine xt_cut ?_ | refine rt_seq ?_ | refine rt_blk ?_ | refine rt_rounds ?_ | refine rt_cut ?_ | refine o1_ia (ad := ar) (c := cr) i rfl rfl hM.fr l1.symm rfl hiM ?_ | (refine o1_load_ia (ad := ar) (c := cr) i rfl hM.fr hiM ?_; rw [hMi]) | refine ox_load_any rfl hrs ?_ | (refine o1_call (fun _ => clone_C _ r.ad r.cd r.z r.d (Rs.up hrd) hrz (by omega)) rfl (fun ⟨a5, c5⟩ _ => ?_); dsimp only; rw [hrz]) | refine o1_lit_enc Bs [(⟨a5, c5, r.d⟩ : SlD (BitVec 8))] rfl rfl rfl (fun _ => rfl) rfl rfl rfl (fun _ => ?_) | refine ox_append (xs := out) (ys := [(⟨a5, c5, r.d⟩ : SlD (BitVec 8))]) rfl rfl (rx_box rfl (by decide)) rfl rfl (fun _ => rfl) (by omega) (by omega) (fun a9 c9 => ?_) | refine o1_fieldAddr rfl ?_ | refine ox_load rfl (by rfl) ?_ | refine ox_load_enc rfl (by first | omega | (simp; omega)) ?_ | refine ox_load_any rfl (by assumption) ?_ | refine o1_len rfl ?_ | refine o1_add rfl rfl (by omega) ?_ | refine o1_lss_t rfl rfl (by omega) ?_ | refine o1_lss_f rfl rfl (by omega) ?_ | refine o1_lss rfl rfl (fun _ => ?_) (fun _ => ?_) | refine o1_bnot rfl ?_ | refine o1_unot rfl ?_ | refine o1_lit_B rfl rfl rfl rfl rfl (fun _ => ?_) | refine ox_append rfl rfl (rx_box rfl (by first | decide | omega)) rfl rfl (fun _ => rfl) (by omega) (by omega) (fun _ _ => ?_) | refine ox_append rfl rfl (rx_any (by assumption)) rfl rfl (fun _ => rfl) (by omega) (by omega) (fun _ _ => ?_) | refine ox_append rfl rfl rx_row rfl rfl (fun _ => rfl) (by omega) (by omega) (fun _ _ => ?_) | refine o1_nilCheck rfl ?_)
    obtain ⟨u, hu⟩ : ∃ u : SlD (BitVec 8), u = ⟨a5, c5, r.d⟩ := ⟨_, rfl⟩
    refine nx_push (T := 5) (ls := out) (s := u) (R := [.row 38 1 (.slice a9 (out.length + 1) c9) (out.length + 1) ((out ++ [u]).map Bs), .any (stars H)]) (by rw [hu]; (try dsimp only [List.cons_append, List.nil_append, List.singleton_append, List.append_nil]); (repeat (first | exact Ent.nil | exact Ent.refl _ | (apply Ent.cons; (repeat (first | exact Sel.here | apply Sel.there)))))) ?_
    refine nx_again (i + 1, a9, c9, out ++ [u]) ⟨?_, ?_⟩ ?_ (cov_cons rfl ?_ (cov_cons rfl rfl (cov_cons rfl rfl (cov_cons rfl rfl cov_nil)))) ?_
    · show i + 1 ≤ n; omega
    · show (out ++ [u]).map (·.l) = _
      rw [List.map_append, hout, List.take_succ_eq_append_getElem (by rw [List.length_map]; exact hiR), hu]
      simp [hr]
    · show n - (i + 1) < n - i; omega
    · show Value.slice a9 _ c9 = Value.slice a9 (out ++ [u]).length c9
      rw [List.length_append]; rfl
    · show Ent _ [.row 38 1 (.slice a9 (out ++ [u]).length c9) (out ++ [u]).length ((out ++ [u]).map Bs), .any (pcs 5 (out ++ [u])), .any (stars H)]
      rw [List.length_append, List.length_singleton]
      (try dsimp only [List.cons_append, List.nil_append, List.singleton_append, List.append_nil]); (repeat (first | exact Ent.nil | exact Ent.refl _ | (apply Ent.cons; (repeat (first | exact Sel.here | apply Sel.there)))))
  · have : i = n := by omega
    subst this
    repeat' (first | refine ls_of rfl ?_ | refine ls_of_no ?_ | refine ls_guard_yes rfl rfl ?_ | refine ls_guard_no rfl rfl rfl rfl ?_ | refine ls_guard_un rfl rfl rfl ?_ | refine o1_move rfl ?_ | refine o1_assign rfl ?_ | refine st_seq ?_ | refine st_region ?_ | refine st_block ?_ | refine st_skip ?_ | refine st_ret ?_ | refine st_exit ?_ | refine st_cond_t rfl ?_ | refine st_cond_f rfl ?_ | refine st_cond rfl (fun _ => ?_) (fun _ => ?_) | refine ls_nil ?_ | refine nx_seq ?_ | refine nx_blk ?_ | refine nx_fn ?_ | refine nx_rounds ?_ | refine xt_seq ?_ | refine xt_here ?_ | refine xt_on rfl ?_ | refine xt_rounds ?_ | refine xt_cut ?_ | refine rt_seq ?_ | refine rt_blk ?_ | refine rt_rounds ?_ | refine rt_cut ?_ | refine o1_fieldAddr rfl ?_ | refine ox_load rfl (by rfl) ?_ | refine ox_load_enc rfl (by first | omega | (simp; omega)) ?_ | refine ox_load_any rfl (by assumption) ?_ | refine o1_len rfl ?_ | refine o1_add rfl rfl (by omega) ?_ | refine o1_lss_t rfl rfl (by omega) ?_ | refine o1_lss_f rfl rfl (by omega) ?_ | refine o1_lss rfl rfl (fun _ => ?_) (fun _ => ?_) | refine o1_bnot rfl ?_ | refine o1_unot rfl ?_ | refine o1_lit_B rfl rfl rfl rfl rfl (fun _ => ?_) | refine ox_append rfl rfl (rx_box rfl (by first | decide | omega)) rfl rfl (fun _ => rfl) (by omega) (by omega) (fun _ _ => ?_) | refine ox_append rfl rfl (rx_any (by assumption)) rfl rfl (fun _ => rfl) (by omega) (by omega) (fun _ _ => ?_) | refine ox_append rfl rfl rx_row rfl rfl (fun _ => rfl) (by omega) (by omega) (fun _ _ => ?_) | refine o1_nilCheck rfl ?_)
    refine rt_tmp (a1, c1, out) rfl rfl rfl ?_ ?_
    · show out.map (·.l) = _
      rw [hout, List.take_of_length_le (by rw [List.length_map]; omega)]
    (try dsimp only [List.cons_append, List.nil_append, List.singleton_append, List.append_nil]); (repeat (first | exact Ent.nil | exact Ent.refl _ | (apply Ent.cons; (repeat (first | exact Sel.here | apply Sel.there)))))
end Go.Dp

set_option linter.unusedVariables false
set_option linter.unusedSimpArgs false
namespace Go.Dp
def xsB (g : Nat → Bool) : Nat → Bool
  | 0 => false
  | n + 1 => xsB g n ^^ g n
theorem xsB_zero {g : Nat → Bool} {n : Nat} (h : ∀ i, i < n → g i = false) : xsB g n = false := by
  induction n with
  | zero => rfl
  | succ n ih => rw [xsB, ih (fun i hi => h i (by omega)), h n (by omega)]; rfl
theorem xsB_one {g : Nat → Bool} {n j : Nat} (hj : j < n) (h : ∀ i, i < n → i ≠ j → g i = false) : xsB g n = g j := by
  induction n with
  | zero => omega
  | succ n ih =>
    rw [xsB]
    by_cases e : j = n
    · subst e
      rw [xsB_zero (fun i hi => h i (by omega) (by omega))]; simp
    · rw [ih (by omega) (fun i hi hne => h i (by omega) hne), h n (by omega) (fun q => e q.symm)]; simp
/-- A bit of a row of the matrix, false if there is no row. -/
def rowAt (M : List (Option LN)) (i k : Nat) : Bool := match M.getD i none with
  | some y => at_ y.1 k
  | none => false
/-- A reduced matrix: each row in the place of its first bit, which no other row has. -/
structure RR (n z : Nat) (M : List (Option LN)) : Prop where
  lok : LOk n z M
  fst : ∀ i y, M[i]? = some (some y) → at_ y.1 i = true
  lo : ∀ i y j, M[i]? = some (some y) → j < i → at_ y.1 j = false
  piv : ∀ i j y w, M[i]? = some (some y) → M[j]? = some (some w) → i ≠ j → at_ y.1 j = false
theorem getD_of {M : List (Option LN)} {i : Nat} {y : LN} (h : M[i]? = some (some y)) : M.getD i none = some y := by rw [List.getD_eq_getElem?_getD, h]; rfl
theorem getD_some {M : List (Option LN)} {i : Nat} {y : LN} (h : M.getD i none = some y) : M[i]? = some (some y) := by
  rw [List.getD_eq_getElem?_getD] at h
  cases hq : M[i]? with
  | none => rw [hq] at h; cases h
  | some o => rw [hq] at h; exact congrArg some h
theorem mem_of_get? {M : List (Option LN)} {i : Nat} {o : Option LN} (h : M[i]? = some o) : o ∈ M := List.mem_of_getElem? h
theorem redT_at {n z : Nat} {M : List (Option LN)} (h : RR n z M) {x : LN} (hx : x.1.length = n) (hd : x.2.length = z) : ∀ i, i ≤ n → ∀ k, at_ (redT M x i).1 k = (at_ x.1 k ^^ xsB (fun j => at_ x.1 j && rowAt M j k) i)
  | 0, _, k => by simp [redT, xsB]
  | i + 1, hi, k => by
    have ih := redT_at h hx hd i (by omega)
    obtain ⟨l1, l2⟩ := redT_len h.lok hx hd i
    rw [redT, xsB]
    cases ho : M.getD i none with
    | none =>
      have hr : rowAt M i k = false := by unfold rowAt; rw [ho]
      rw [hr, Bool.and_false, Bool.xor_false]
      exact ih k
    | some y =>
      have hM := getD_some ho
      have hr : rowAt M i k = at_ y.1 k := by unfold rowAt; rw [ho]
      obtain ⟨y1, y2⟩ := h.lok.ok y (mem_of_get? hM)
      have hc : at_ (redT M x i).1 i = at_ x.1 i := by
        rw [ih i, xsB_zero (fun j hj => ?_), Bool.xor_false]
        unfold rowAt
        cases hj2 : M.getD j none with
        | none => simp
        | some w =>
          show (at_ x.1 j && at_ w.1 i) = false
          rw [h.piv j i w y (getD_some hj2) hM (by omega), Bool.and_false]
      show at_ (if at_ (redT M x i).1 i = true then addL (redT M x i) y else redT M x i).1 k = _
      rw [hc, hr]
      cases hb : at_ x.1 i
      · simpa using ih k
      · simp only [if_true, Bool.true_and]
        show (xorV (redT M x i).1 y.1).getD k false = _
        rw [xorV_getD (by omega)]
        have := ih k
        rw [← Bool.xor_assoc, ← this]
theorem red_piv {n z : Nat} {M : List (Option LN)} (h : RR n z M) {x : LN} (hx : x.1.length = n) (hd : x.2.length = z) {j : Nat} {w : LN} (hj : M[j]? = some (some w)) : at_ (red M x).1 j = false := by
  have hjn : j < n := by
    rw [← h.lok.len]
    exact (List.getElem?_eq_some_iff.1 hj).1
  rw [red, h.lok.len, redT_at h hx hd n (Nat.le_refl _), xsB_one hjn (fun i hi hne => ?_)]
  · show (at_ x.1 j ^^ (at_ x.1 j && rowAt M j j)) = false
    have : rowAt M j j = true := by unfold rowAt; rw [getD_of hj]; exact h.fst j w hj
    rw [this]; simp
  · unfold rowAt
    cases hi2 : M.getD i none with
    | none => simp
    | some y =>
      show (at_ x.1 i && at_ y.1 j) = false
      rw [h.piv i j y w (getD_some hi2) hj hne, Bool.and_false]
theorem first_cases (l : List Bool) : firstV l = -1 ∨ ∃ a : Nat, firstV l = a ∧ a < l.length ∧ at_ l a = true ∧ ∀ j, j < a → at_ l j = false := by
  unfold firstV
  by_cases h : firstN (at_ l) l.length < l.length
  · rw [if_pos h]
    exact .inr ⟨_, rfl, h, firstN_at _ _ h, firstN_lo _ _⟩
  · rw [if_neg h]; exact .inl rfl
theorem red_free {n z : Nat} {M : List (Option LN)} (h : RR n z M) {x : LN} (hx : x.1.length = n) (hd : x.2.length = z) {a : Nat} (ha : a < n) (h1 : at_ (red M x).1 a = true) : M[a]? = some none := by
  have hl : a < M.length := by rw [h.lok.len]; exact ha
  rw [List.getElem?_eq_getElem hl]
  cases ho : M[a] with
  | none => rfl
  | some w =>
    have := red_piv h hx hd (j := a) (w := w) (by rw [List.getElem?_eq_getElem hl, ho])
    rw [this] at h1
    cases h1
/-- The entries of a matrix with a row added. -/
theorem addM_get {M : List (Option LN)} {a i : Nat} {x y : LN} (ha : a < M.length) (h : (addM M a x)[i]? = some (some y)) : (i = a ∧ y = x) ∨ (i ≠ a ∧ ∃ w, M[i]? = some (some w) ∧ y = if at_ w.1 a = true then addL w x else w) := by
  unfold addM at h
  rw [List.getElem?_set] at h
  by_cases e : a = i
  · subst e
    rw [if_pos rfl] at h
    simp only [List.length_map, ha, if_true, Option.some.injEq] at h
    exact .inl ⟨rfl, h.symm⟩
  · rw [if_neg e, List.getElem?_map] at h
    refine .inr ⟨fun q => e q.symm, ?_⟩
    cases hM : M[i]? with
    | none => rw [hM] at h; cases h
    | some o =>
      rw [hM] at h
      cases o with
      | none => cases h
      | some w =>
        simp only [Option.map_some, clrL, Option.some.injEq] at h
        exact ⟨w, rfl, h.symm⟩
theorem at_addL {x y : LN} (h : x.1.length = y.1.length) (k : Nat) : at_ (addL x y).1 k = (at_ x.1 k ^^ at_ y.1 k) := xorV_getD h k
theorem addM_RR {n z : Nat} {M : List (Option LN)} (h : RR n z M) {x : LN} {a : Nat} (hx : x.1.length = n) (hd : x.2.length = z) (ha : a < n) (h1 : at_ x.1 a = true) (h2 : ∀ j, j < a → at_ x.1 j = false) (hp : ∀ j w, M[j]? = some (some w) → at_ x.1 j = false) (hf : M[a]? = some none) : RR n z (addM M a x) := by
  have hl := h.lok.len
  have haM : a < M.length := by omega
  have lens : ∀ (i : Nat) (w : LN), M[i]? = some (some w) → w.1.length = n ∧ w.2.length = z := fun i w hw => h.lok.ok w (mem_of_get? hw)
  refine ⟨⟨by simp [addM, hl], fun y hy => ?_⟩, fun i y hy => ?_, fun i y j hy hj => ?_, fun i j y w hy hw hij => ?_⟩
  · obtain ⟨i, hi⟩ := List.getElem?_of_mem hy
    rcases addM_get haM hi with ⟨_, rfl⟩ | ⟨_, w, hw, rfl⟩
    · exact ⟨hx, hd⟩
    · obtain ⟨w1, w2⟩ := lens i w hw
      split
      · exact addL_len w1 w2 hx hd
      · exact ⟨w1, w2⟩
  · rcases addM_get haM hy with ⟨rfl, rfl⟩ | ⟨hne, w, hw, rfl⟩
    · exact h1
    · obtain ⟨w1, w2⟩ := lens i w hw
      split
      · rw [at_addL (by omega), h.fst i w hw, hp i w hw]; rfl
      · exact h.fst i w hw
  · rcases addM_get haM hy with ⟨rfl, rfl⟩ | ⟨hne, w, hw, rfl⟩
    · exact h2 j hj
    · obtain ⟨w1, w2⟩ := lens i w hw
      split
      · rename_i hq
        have hai : i < a := by
          rcases Nat.lt_trichotomy a i with q | q | q
          · rw [h.lo i w a hw q] at hq; cases hq
          · exact absurd q.symm hne
          · exact q
        rw [at_addL (by omega), h.lo i w j hw hj, h2 j (by omega)]; rfl
      · exact h.lo i w j hw hj
  · rcases addM_get haM hy with ⟨rfl, rfl⟩ | ⟨hne, u, hu, rfl⟩
    · rcases addM_get haM hw with ⟨e, _⟩ | ⟨_, v, hv, _⟩
      · exact absurd e.symm hij
      · exact hp j v hv
    · obtain ⟨w1, w2⟩ := lens i u hu
      rcases addM_get haM hw with ⟨rfl, _⟩ | ⟨_, v, hv, _⟩
      · split
        · rename_i hq
          rw [at_addL (by omega), hq, h1]; rfl
        · rename_i hq
          simpa using hq
      · split
        · rw [at_addL (by omega), h.piv i j u v hu hv hij, hp j v hv]; rfl
        · exact h.piv i j u v hu hv hij
theorem RR_none {n z : Nat} : RR n z (List.replicate n none) := by
  have hn : ∀ i (y : LN), ((List.replicate n none : List (Option LN))[i]? = some (some y)) → False := fun i y h => by
    have := mem_of_get? h
    cases List.eq_of_mem_replicate this
  exact ⟨⟨by simp, fun y hy => by cases List.eq_of_mem_replicate hy⟩, fun i y h => (hn i y h).elim, fun i y j h => (hn i y h).elim, fun i j y w h => (hn i y h).elim⟩
/-- How many rows there are. -/
def cntS : List (Option LN) → Nat
  | [] => 0
  | none :: t => cntS t
  | some _ :: t => cntS t + 1
theorem cntS_set : ∀ {M : List (Option LN)} {i : Nat} {x : LN}, M[i]? = some none → cntS (M.set i (some x)) = cntS M + 1
  | [], i, x, h => by simp at h
  | o :: M, 0, x, h => by
    simp at h
    subst h
    rfl
  | o :: M, i + 1, x, h => by
    simp at h
    have := cntS_set (x := x) h
    cases o with
    | none => simpa [cntS] using this
    | some y => simp [cntS, this]
theorem cntS_clr (a : Nat) (x : LN) : ∀ M : List (Option LN), cntS (M.map (clrL a x)) = cntS M
  | [] => rfl
  | none :: M => by simp only [List.map_cons, clrL, Option.map_none, cntS]; exact cntS_clr a x M
  | some y :: M => by simp only [List.map_cons, clrL, Option.map_some, cntS]; rw [cntS_clr a x M]
theorem cntS_addM {M : List (Option LN)} {a : Nat} {x : LN} (h : M[a]? = some none) : cntS (addM M a x) = cntS M + 1 := by
  rw [addM, cntS_set (by rw [List.getElem?_map, h]; rfl), cntS_clr]
theorem cntS_le : ∀ M : List (Option LN), cntS M ≤ M.length
  | [] => Nat.le_refl _
  | none :: M => by simp only [cntS, List.length_cons]; have := cntS_le M; omega
  | some y :: M => by simp only [cntS, List.length_cons]; have := cntS_le M; omega
theorem cntS_none (n : Nat) : cntS (List.replicate n none) = 0 := by
  induction n with
  | zero => rfl
  | succ n ih => rw [List.replicate_succ]; exact ih
theorem cntS_append : ∀ (A B : List (Option LN)), cntS (A ++ B) = cntS A + cntS B
  | [], B => by simp [cntS]
  | none :: A, B => by simp only [List.cons_append, cntS]; exact cntS_append A B
  | some y :: A, B => by simp only [List.cons_append, cntS, cntS_append A B]; omega
/-- What no row has a say in stays. -/
theorem redT_id {M : List (Option LN)} {x : LN} (h : ∀ j w, M[j]? = some (some w) → at_ x.1 j = false) : ∀ i, redT M x i = x
  | 0 => rfl
  | i + 1 => by
    rw [redT, redT_id h i]
    cases ho : M.getD i none with
    | none => rfl
    | some y =>
      show (if at_ x.1 i = true then addL x y else x) = x
      rw [h i y (getD_some ho)]; rfl
/-- What is to be added and what comes of it: a new row, or none. -/
theorem add_cases {n z : Nat} {M : List (Option LN)} (h : RR n z M) {v : LN} (hx : v.1.length = n) (hd : v.2.length = z) : firstV (red M v).1 = -1 ∨ ∃ a : Nat, firstV (red M v).1 = a ∧ M[a]? = some none ∧ RR n z (addM M a (red M v)) ∧ cntS (addM M a (red M v)) = cntS M + 1 := by
  obtain ⟨l1, l2⟩ := redT_len h.lok hx hd M.length
  rcases first_cases (red M v).1 with e | ⟨a, e, ha, h1, h2⟩
  · exact .inl e
  · have ha : a < n := by
      have l1 : (red M v).1.length = n := l1
      omega
    have hf := red_free h hx hd ha h1
    exact .inr ⟨a, e, hf, addM_RR h l1 l2 ha h1 h2 (fun j w hw => red_piv h hx hd hw) hf, cntS_addM hf⟩
/-! Bytes. -/
def lineB (o : Option LN) : List (BitVec 8) := match o with
  | none => []
  | some y => bytesV y.1 ++ y.2
def rowsB (M : List (Option LN)) : List (BitVec 8) := M.flatMap lineB
def headB (n z k : Nat) : List (BitVec 8) := [BitVec.ofInt 8 ((n : Int) - 1), BitVec.ofInt 8 (z : Int), BitVec.ofInt 8 ((k : Int) / 256), BitVec.ofInt 8 (k : Int)]
def matB (n z k : Nat) (M : List (Option LN)) : List (BitVec 8) := headB n z k ++ rowsB M
theorem rowsB_len {n z : Nat} : ∀ {M : List (Option LN)}, (∀ y, some y ∈ M → y.1.length = n ∧ y.2.length = z) → (rowsB M).length = cntS M * (nb n + z)
  | [], _ => by simp [rowsB, cntS]
  | none :: M, h => by
    have := rowsB_len (M := M) (fun y hy => h y (List.mem_cons_of_mem _ hy))
    simpa [rowsB, cntS, lineB] using this
  | some y :: M, h => by
    have ih := rowsB_len (M := M) (fun y hy => h y (List.mem_cons_of_mem _ hy))
    obtain ⟨h1, h2⟩ := h y (List.mem_cons_self ..)
    have e : (rowsB (some y :: M)).length = (bytesV y.1 ++ y.2).length + (rowsB M).length := by simp [rowsB, lineB]; omega
    rw [e, ih, List.length_append, bytesV_len, h1, h2, cntS, Nat.add_mul]
    omega
/-- The first c rows, and none behind them. -/
def prefM (M : List (Option LN)) (c : Nat) : List (Option LN) := M.take c ++ List.replicate (M.length - c) none
theorem prefM_len (M : List (Option LN)) (c : Nat) (h : c ≤ M.length) : (prefM M c).length = M.length := by simp [prefM]; omega
theorem prefM_get {M : List (Option LN)} {c i : Nat} (hc : c ≤ M.length) (hi : i < M.length) : (prefM M c)[i]? = some (if i < c then M.getD i none else none) := by
  unfold prefM
  by_cases h : i < c
  · rw [List.getElem?_append_left (by simp; omega), if_pos h, List.getElem?_take, if_pos h, List.getD_eq_getElem?_getD, List.getElem?_eq_getElem hi]
    rfl
  · rw [List.getElem?_append_right (by simp; omega), if_neg h, List.getElem?_replicate, if_pos (by simp; omega)]
theorem prefM_zero (M : List (Option LN)) : prefM M 0 = List.replicate M.length none := by simp [prefM]
theorem prefM_all (M : List (Option LN)) : prefM M M.length = M := by simp [prefM]
theorem prefM_skip {M : List (Option LN)} {c d : Nat} (hcd : c ≤ d) (hd : d ≤ M.length) (h : ∀ i, c ≤ i → i < d → M.getD i none = none) : prefM M c = prefM M d := by
  apply List.ext_getElem?
  intro i
  by_cases hi : i < M.length
  · rw [prefM_get (by omega) hi, prefM_get hd hi]
    by_cases h1 : i < c
    · rw [if_pos h1, if_pos (by omega)]
    · rw [if_neg h1]
      by_cases h2 : i < d
      · rw [if_pos h2, h i (by omega) h2]
      · rw [if_neg h2]
  · rw [List.getElem?_eq_none (by rw [prefM_len _ _ (by omega)]; omega), List.getElem?_eq_none (by rw [prefM_len _ _ hd]; omega)]
theorem prefM_some {M : List (Option LN)} {c j : Nat} {w : LN} (hc : c ≤ M.length) (h : (prefM M c)[j]? = some (some w)) : j < c ∧ M[j]? = some (some w) := by
  have hj : j < M.length := by
    rw [← prefM_len M c hc]
    exact (List.getElem?_eq_some_iff.1 h).1
  rw [prefM_get hc hj] at h
  by_cases hjc : j < c
  · rw [if_pos hjc] at h
    exact ⟨hjc, getD_some (Option.some.inj h)⟩
  · rw [if_neg hjc] at h
    cases h
theorem prefM_red {n z : Nat} {M : List (Option LN)} (h : RR n z M) {i : Nat} {y : LN} (hy : M[i]? = some (some y)) : red (prefM M i) y = y ∧ firstV y.1 = i ∧ (prefM M i)[i]? = some none ∧ addM (prefM M i) i y = prefM M (i + 1) ∧ i < n := by
  have hi : i < M.length := (List.getElem?_eq_some_iff.1 hy).1
  have hn : i < n := by rw [← h.lok.len]; exact hi
  obtain ⟨y1, y2⟩ := h.lok.ok y (mem_of_get? hy)
  refine ⟨redT_id (fun j w hw => ?_) _, firstV_is (by omega) (h.fst i y hy) (fun j hj => h.lo i y j hy hj), ?_, ?_, hn⟩
  · obtain ⟨hj, hw⟩ := prefM_some (by omega) hw
    exact h.piv i j y w hy hw (by omega)
  · rw [prefM_get (by omega) hi, if_neg (by omega)]
  · apply List.ext_getElem?
    intro j
    by_cases hj : j < M.length
    · rw [prefM_get (by omega) hj, addM, List.getElem?_set]
      by_cases e : i = j
      · subst e
        rw [if_pos rfl, if_pos (by rw [List.length_map, prefM_len _ _ (by omega)]; exact hi), if_pos (by omega), getD_of hy]
      · rw [if_neg e, List.getElem?_map, prefM_get (by omega) hj]
        by_cases h1 : j < i
        · rw [if_pos h1, if_pos (by omega)]
          cases ho : M.getD j none with
          | none => rfl
          | some w =>
            show some (some (if at_ w.1 i = true then addL w y else w)) = _
            rw [h.piv j i w y (getD_some ho) hy (fun q => e q.symm)]; rfl
        · rw [if_neg h1, if_neg (by omega)]; rfl
    · rw [List.getElem?_eq_none (by simp [addM, prefM_len M i (by omega)]; omega), List.getElem?_eq_none (by rw [prefM_len _ _ (by omega)]; omega)]
/-- The next row, if there is one. -/
theorem next_row (M : List (Option LN)) : ∀ c, c ≤ M.length → (∀ i, c ≤ i → i < M.length → M.getD i none = none) ∨ ∃ i y, c ≤ i ∧ M[i]? = some (some y) ∧ (∀ j, c ≤ j → j < i → M.getD j none = none) := by
  intro c hc
  by_cases h : ∃ i, c ≤ i ∧ i < M.length ∧ M.getD i none ≠ none
  · obtain ⟨m, hm, hmin⟩ := least h
    cases hq : M.getD m none with
    | none => exact absurd hq hm.2.2
    | some y =>
      exact .inr ⟨m, y, hm.1, getD_some hq, fun j hj hjm => by
        cases hj2 : M.getD j none with
        | none => rfl
        | some w => exact absurd ⟨hj, by omega, by rw [hj2]; simp⟩ (hmin j hjm)⟩
  · refine .inl (fun i hi hl => ?_)
    cases hq : M.getD i none with
    | none => rfl
    | some y => exact absurd ⟨i, hi, hl, by rw [hq]; simp⟩ h
theorem rowsB_none {M : List (Option LN)} (h : ∀ o ∈ M, o = none) : rowsB M = [] := by
  unfold rowsB
  rw [List.flatMap_eq_nil_iff]
  intro o ho
  rw [h o ho]; rfl
theorem drop_none {M : List (Option LN)} {c : Nat} (h : ∀ i, c ≤ i → i < M.length → M.getD i none = none) : ∀ o ∈ M.drop c, o = none := by
  intro o ho
  obtain ⟨i, hi, e⟩ := List.getElem_of_mem ho
  rw [List.getElem_drop] at e
  rw [List.length_drop] at hi
  have := h (c + i) (by omega) (by omega)
  rw [List.getD_eq_getElem?_getD, List.getElem?_eq_getElem (by omega), Option.getD_some] at this
  rw [← e, this]
theorem rowsB_next {M : List (Option LN)} {c i : Nat} {y : LN} (hci : c ≤ i) (hy : M[i]? = some (some y)) (h : ∀ j, c ≤ j → j < i → M.getD j none = none) : rowsB (M.drop c) = (bytesV y.1 ++ y.2) ++ rowsB (M.drop (i + 1)) := by
  have hi : i < M.length := (List.getElem?_eq_some_iff.1 hy).1
  have e1 : M.drop c = (M.take i).drop c ++ M.drop i := by
    conv => lhs; rw [← List.take_append_drop i M]
    rw [List.drop_append_of_le_length (by simp; omega)]
  have e2 : M.drop i = some y :: M.drop (i + 1) := by
    rw [List.drop_eq_getElem_cons hi]
    congr 1
    exact (List.getElem?_eq_some_iff.1 hy).2
  have e3 : rowsB ((M.take i).drop c) = [] := rowsB_none (by
    intro o ho
    obtain ⟨j, hj, e⟩ := List.getElem_of_mem ho
    rw [List.getElem_drop, List.getElem_take] at e
    simp at hj
    have := h (c + j) (by omega) (by omega)
    rw [List.getD_eq_getElem?_getD, List.getElem?_eq_getElem (by omega), Option.getD_some] at this
    rw [← e, this])
  have e4 : rowsB (M.drop c) = rowsB ((M.take i).drop c) ++ rowsB (M.drop i) := by rw [e1]; simp only [rowsB, List.flatMap_append]
  rw [e4, e3, e2]
  simp [rowsB, lineB]
end Go.Dp

set_option linter.unusedVariables false
set_option linter.unusedSimpArgs false
namespace Go.Dp
/-- The rows that are there, in order. -/
def cmp : List (Option LN) → List LN
  | [] => []
  | none :: t => cmp t
  | some y :: t => y :: cmp t
theorem cmp_append : ∀ A B : List (Option LN), cmp (A ++ B) = cmp A ++ cmp B
  | [], B => rfl
  | none :: A, B => cmp_append A B
  | some y :: A, B => by simp only [List.cons_append, cmp, cmp_append A B]
theorem cmp_len : ∀ M : List (Option LN), (cmp M).length = cntS M
  | [] => rfl
  | none :: M => cmp_len M
  | some y :: M => by simp only [cmp, cntS, List.length_cons, cmp_len M]
theorem cmp_mem : ∀ {M : List (Option LN)} {y : LN}, y ∈ cmp M ↔ some y ∈ M
  | [], y => by simp [cmp]
  | none :: M, y => by simp [cmp, cmp_mem (M := M)]
  | some x :: M, y => by
    simp only [cmp, List.mem_cons, cmp_mem (M := M), Option.some.injEq]
theorem cmp_none (n : Nat) : cmp (List.replicate n none) = [] := by
  induction n with
  | zero => rfl
  | succ n ih => rw [List.replicate_succ]; exact ih
theorem cmp_rowsB : ∀ M : List (Option LN), (cmp M).flatMap (fun y => bytesV y.1 ++ y.2) = rowsB M
  | [] => rfl
  | none :: M => by
    have := cmp_rowsB M
    simpa [cmp, rowsB, lineB] using this
  | some y :: M => by
    have := cmp_rowsB M
    simp only [rowsB] at this
    simp [cmp, rowsB, lineB, this]
theorem cmp_map (g : LN → LN) : ∀ M : List (Option LN), cmp (M.map (fun o => o.map g)) = (cmp M).map g
  | [] => rfl
  | none :: M => cmp_map g M
  | some y :: M => by simp only [List.map_cons, Option.map_some, cmp, cmp_map g M]
theorem cmp_take_succ {M : List (Option LN)} {i : Nat} (hi : i < M.length) : cmp (M.take (i + 1)) = cmp (M.take i) ++ (match M[i] with | none => [] | some y => [y]) := by
  rw [List.take_succ_eq_append_getElem hi, cmp_append]
  cases M[i] <;> rfl
theorem cmp_split {M : List (Option LN)} (i : Nat) : cmp M = cmp (M.take i) ++ cmp (M.drop i) := by
  rw [← cmp_append, List.take_append_drop]
/-- One row more taken off. -/
def rstep (x y : LN) : LN := if at_ x.1 (firstV y.1).toNat = true then addL x y else x
theorem row_first {n z : Nat} {M : List (Option LN)} (h : RR n z M) {i : Nat} {y : LN} (hy : M[i]? = some (some y)) : firstV y.1 = i ∧ i < n := by
  obtain ⟨_, h2, _, _, h5⟩ := prefM_red h hy
  exact ⟨h2, h5⟩
theorem rred_at {n z : Nat} {M : List (Option LN)} (h : RR n z M) (x : LN) : ∀ i, i ≤ M.length → (cmp (M.take i)).foldl rstep x = redT M x i
  | 0, _ => by simp [cmp, redT]
  | i + 1, hi => by
    have hlt : i < M.length := hi
    have hg : M.getD i none = M[i] := by rw [List.getD_eq_getElem?_getD, List.getElem?_eq_getElem hlt]; rfl
    rw [cmp_take_succ hlt, List.foldl_append, rred_at h x i (by omega), redT, hg]
    cases ho : M[i] with
    | none => rfl
    | some y =>
      obtain ⟨hf, _⟩ := row_first h (i := i) (y := y) (by rw [List.getElem?_eq_getElem hlt, ho])
      show rstep (redT M x i) y = if at_ (redT M x i).1 i = true then addL (redT M x i) y else redT M x i
      unfold rstep
      rw [hf]
      rfl
theorem rred {n z : Nat} {M : List (Option LN)} (h : RR n z M) (x : LN) : (cmp M).foldl rstep x = red M x := by
  have := rred_at h x M.length (Nat.le_refl _)
  rw [List.take_length] at this
  exact this
/-- What a row of the reference's matrix is. -/
structure LRow (n z : Nat) (y : LN) : Prop where
  l1 : y.1.length = n
  l2 : y.2.length = z
  f : ∃ a : Nat, firstV y.1 = a ∧ a < n
theorem cmp_row {n z : Nat} {M : List (Option LN)} (h : RR n z M) {y : LN} (hy : y ∈ cmp M) : LRow n z y := by
  obtain ⟨i, hi⟩ := List.getElem?_of_mem (cmp_mem.1 hy)
  obtain ⟨h1, h2⟩ := h.lok.ok y (cmp_mem.1 hy)
  obtain ⟨h3, h4⟩ := row_first h hi
  exact ⟨h1, h2, i, h3, h4⟩
/-- A row put in its place. -/
def clr1 (a : Nat) (x y : LN) : LN := if at_ y.1 a = true then addL y x else y
def stepI (a : Nat) (x : LN) (s : List LN × Bool) (r : LN) : List LN × Bool :=
  if s.2 = false ∧ (a : Int) < firstV r.1 then ((s.1 ++ [x]) ++ [clr1 a x r], true) else (s.1 ++ [clr1 a x r], s.2)
def finI (x : LN) (s : List LN × Bool) : List LN := if s.2 = true then s.1 else s.1 ++ [x]
theorem stepI_lo (a : Nat) (x : LN) : ∀ (l : List LN) (s : List LN), (∀ y ∈ l, firstV y.1 < a) → l.foldl (stepI a x) (s, false) = (s ++ l.map (clr1 a x), false)
  | [], s, _ => by simp
  | y :: l, s, h => by
    have h1 := h y (by simp)
    rw [List.foldl_cons]
    have e : stepI a x (s, false) y = (s ++ [clr1 a x y], false) := by
      unfold stepI
      rw [if_neg (by rintro ⟨_, q⟩; omega)]
    rw [e, stepI_lo a x l _ (fun y hy => h y (by simp [hy]))]
    simp
theorem stepI_put (a : Nat) (x : LN) : ∀ (l : List LN) (s : List LN), l.foldl (stepI a x) (s, true) = (s ++ l.map (clr1 a x), true)
  | [], s => by simp
  | y :: l, s => by
    rw [List.foldl_cons]
    have e : stepI a x (s, true) y = (s ++ [clr1 a x y], true) := by
      unfold stepI
      rw [if_neg (by rintro ⟨q, _⟩; cases q)]
    rw [e, stepI_put a x l]
    simp
theorem stepI_hi (a : Nat) (x : LN) : ∀ (l : List LN) (s : List LN), (∀ y ∈ l, (a : Int) < firstV y.1) → finI x (l.foldl (stepI a x) (s, false)) = s ++ [x] ++ l.map (clr1 a x)
  | [], s, _ => by simp [finI]
  | y :: l, s, h => by
    have h1 := h y (by simp)
    rw [List.foldl_cons]
    have e : stepI a x (s, false) y = ((s ++ [x]) ++ [clr1 a x y], true) := by
      unfold stepI
      rw [if_pos ⟨rfl, h1⟩]
    rw [e, stepI_put]
    simp [finI]
theorem ins_all {n z : Nat} {M : List (Option LN)} (h : RR n z M) {a : Nat} {x : LN} (hf : M[a]? = some none) : finI x ((cmp M).foldl (stepI a x) ([], false)) = cmp (addM M a x) := by
  have ha : a < M.length := (List.getElem?_eq_some_iff.1 hf).1
  have hMa : M[a] = none := (List.getElem?_eq_some_iff.1 hf).2
  have e1 : M = M.take a ++ none :: M.drop (a + 1) := by
    conv => lhs; rw [← List.take_append_drop a M, List.drop_eq_getElem_cons ha, hMa]
  have hc : cmp M = cmp (M.take a) ++ cmp (M.drop (a + 1)) := by
    conv => lhs; rw [e1]
    rw [cmp_append]
    rfl
  have lo : ∀ y ∈ cmp (M.take a), firstV y.1 < a := fun y hy => by
    obtain ⟨i, hi⟩ := List.getElem?_of_mem (cmp_mem.1 hy)
    rw [List.getElem?_take] at hi
    split at hi
    · obtain ⟨h1, _⟩ := row_first h hi
      omega
    · cases hi
  have up : ∀ y ∈ cmp (M.drop (a + 1)), (a : Int) < firstV y.1 := fun y hy => by
    obtain ⟨i, hi⟩ := List.getElem?_of_mem (cmp_mem.1 hy)
    rw [List.getElem?_drop] at hi
    obtain ⟨h1, _⟩ := row_first h hi
    omega
  have e2 : addM M a x = (M.take a).map (fun o => o.map (clr1 a x)) ++ some x :: (M.drop (a + 1)).map (fun o => o.map (clr1 a x)) := by
    have e0 : M.map (clrL a x) = (M.take a).map (fun o => o.map (clr1 a x)) ++ none :: (M.drop (a + 1)).map (fun o => o.map (clr1 a x)) := by
      conv => lhs; rw [e1]
      rw [List.map_append, List.map_cons]
      rfl
    unfold addM
    rw [e0, List.set_append_right _ _ (by simp; omega)]
    simp [Nat.min_eq_left (Nat.le_of_lt ha)]
  rw [hc, List.foldl_append, stepI_lo a x _ [] lo, stepI_hi a x _ _ up, e2, cmp_append, cmp, cmp_map, cmp_map]
  simp
/-- Where the rows stand. -/
theorem cmp_at {n z : Nat} {M : List (Option LN)} (h : RR n z M) {i : Nat} (hi : i < M.length) : (∀ y, M[i] = some y → (cmp M)[cntS (M.take i)]? = some y ∧ firstV y.1 = i) ∧ (M[i] = none → ∀ y, (cmp M)[cntS (M.take i)]? = some y → firstV y.1 ≠ i) := by
  have hd : cmp M = cmp (M.take i) ++ cmp (M.drop i) := cmp_split i
  have hl : (cmp (M.take i)).length = cntS (M.take i) := cmp_len _
  have hg : (cmp M)[cntS (M.take i)]? = (cmp (M.drop i))[0]? := by
    rw [hd, List.getElem?_append_right (by omega), hl, Nat.sub_self]
  have hdi : M.drop i = M[i] :: M.drop (i + 1) := List.drop_eq_getElem_cons hi
  constructor
  · intro y hy
    refine ⟨?_, (row_first h (by rw [List.getElem?_eq_getElem hi, hy])).1⟩
    rw [hg, hdi, hy]
    rfl
  · intro hy y hq
    rw [hg, hdi, hy] at hq
    have hm : y ∈ cmp (M.drop (i + 1)) := List.mem_of_getElem? hq
    obtain ⟨j, hj⟩ := List.getElem?_of_mem (cmp_mem.1 hm)
    rw [List.getElem?_drop] at hj
    obtain ⟨h1, _⟩ := row_first h hj
    omega
end Go.Dp

set_option linter.unusedVariables false
set_option linter.unusedSimpArgs false
namespace Go.Dp
open Go.RowKit Go.Proofs
def rtY2_0 : List Row := [⟨some 25, [], [], none⟩, ⟨some 26, [], [], none⟩, ⟨some 27, [1], [1], none⟩, ⟨some 28, [0, 2], [0, 1, 2], none⟩, ⟨some 29, [], [], none⟩, ⟨some 30, [], [], none⟩, ⟨some 31, [5], [5], none⟩, ⟨some 32, [4, 6, 3], [0, 1, 2, 3, 4, 5, 6], none⟩, ⟨some 1, [3, 7, 0, 1, 2, 3], [0, 1, 2, 3, 4, 5, 6, 7], none⟩, ⟨some 2, [7, 8, 0, 1, 2, 3, 4, 5, 6, 7, 8], [0, 1, 2, 3, 4, 5, 6, 7, 8], none⟩]
/-- B holds all of A, and more. -/
def Gr (A B : Hp → Prop) : Prop := ∀ h, B h → stars [.any A] h
theorem Gr.refl (A : Hp → Prop) : Gr A A := fun h ha => ⟨h, fun _ => none, fun _ => .inr rfl, .refl _, fun _ _ e => (by cases e), ha, trivial⟩
theorem Gr.sat {A B : Hp → Prop} (g : Gr A B) {w : World} (hw : sat w B) : sat w A := by
  obtain ⟨h, h1, h2⟩ := hw
  obtain ⟨k1, k2, _, s1, _, ka, _⟩ := g h h2
  exact ⟨k1, fun i o e => h1 i o (s1 i o e), ka⟩
theorem Gr.trans {A B C : Hp → Prop} (g : Gr A B) (k : Gr B C) : Gr A C := fun h hc => by
  obtain ⟨k1, k2, _, s1, _, kb, _⟩ := k h hc
  obtain ⟨l1, l2, _, t1, _, la, _⟩ := g k1 kb
  exact ⟨l1, fun _ => none, fun _ => .inr rfl, fun i o e => s1 i o (t1 i o e), fun _ _ e => (by cases e), la, trivial⟩
theorem Gr.of {L H' : List Hl} {A : Hp → Prop} [s : SAny L A H'] : Gr A (stars L) := fun h hh => by
  have := s.s.out h hh
  exact sep_mono this (fun _ a => a) (fun _ _ => trivial)
theorem has_any {A : Hp → Prop} {R : List Hl} (hh : Has (.any A :: R)) : ∃ w, sat w A := let ⟨w, hw⟩ := hh; ⟨w, sel_sat .here w hw⟩
theorem gr_drop {A B : Hp → Prop} (g : Gr A B) (R : List Hl) : ∀ h, stars (.any B :: R) h → stars (.any A :: R) h := fun h hh =>
  sep_mono hh (fun h' hb => hb) (fun _ a => a) |> fun hh => by
    obtain ⟨h1, h2, hd, s1, s2, hb, hr⟩ := hh
    obtain ⟨k1, k2, _, t1, _, ka, _⟩ := g h1 hb
    exact ⟨k1, h2, fun i => (hd i).elim (fun e => .inl (by
      cases hk : k1 i with
      | none => rfl
      | some o => have := t1 i o hk; rw [e] at this; cases this)) .inr, fun i o e => s1 i o (t1 i o e), s2, ka, hr⟩
/-- A row of the reference's matrix, in memory. -/
structure LnD where
  v : SlD Bool
  d : SlD (BitVec 8)
abbrev fV (n : Nat) (x : LnD) : Value := .slice x.v.ad n x.v.cap
abbrev fD (z : Nat) (x : LnD) : Value := .slice x.d.ad z x.d.cap
def lnV (x : LnD) : LN := (x.v.l, x.d.l)
/-- A row's parts are read. -/
structure RdX (A : Hp → Prop) (n z : Nat) (x : LnD) : Prop where
  v : Rs A Bo x.v.ad x.v.cap x.v.l
  d : Rs A B x.d.ad x.d.cap x.d.l
  lv : x.v.l.length = n
  ld : x.d.l.length = z
theorem RdX.mono {A A' : Hp → Prop} {n z : Nat} {x : LnD} (h : RdX A n z x) (g : Gr A A') : RdX A' n z x := ⟨h.v.mono fun w hw => g.sat hw, h.d.mono fun w hw => g.sat hw, h.lv, h.ld⟩
structure RdL (A : Hp → Prop) (n z : Nat) (ad : Option Addr) (c : Nat) (ls : List LnD) : Prop where
  r : R2 A (fV n) (fD z) ad c ls
  x : ∀ x ∈ ls, RdX A n z x
theorem RdL.mono {A A' : Hp → Prop} {n z : Nat} {ad : Option Addr} {c : Nat} {ls : List LnD} (h : RdL A n z ad c ls) (g : Gr A A') : RdL A' n z ad c ls :=
  ⟨h.r.mono fun w hw => g.sat hw, fun x hx => (h.x x hx).mono g⟩
theorem RdL.nil {A : Hp → Prop} {n z : Nat} : RdL A n z none 0 [] := ⟨.nil, (fun x hx => by cases hx)⟩
theorem rs_gr {α : Type} {A A' : Hp → Prop} {enc : α → Value} {ad : Option Addr} {c : Nat} {l : List α} (h : Rs A enc ad c l) (g : Gr A A') : Rs A' enc ad c l := h.mono fun w hw => g.sat hw
abbrev rB (b n z : Nat) (ad : Option Addr) (c k : Nat) : Hl := .box b 76 [I n, I z, .slice ad k c]
theorem r1_NewMatrix_no (H : List Hl) (n z : Int) (h : ¬ (1 ≤ n ∧ n ≤ 256 ∧ 1 ≤ z ∧ z ≤ 16)) :
    Spec Tryd.prog 44 [I n, I z] H (fun _ : Unit => True) (fun _ => .pointer none) (fun _ => H) := by
  refine spec_pure (res := fun _ => []) H Tryd.func44 rfl Tryd.ntmps44 (by kernel_rfl) rfl (fun W => ?_)
  rcases (by omega : n < 1 ∨ (1 ≤ n ∧ 256 < n) ∨ (1 ≤ n ∧ n ≤ 256 ∧ z < 1) ∨ (1 ≤ n ∧ n ≤ 256 ∧ 1 ≤ z ∧ 16 < z)) with q | ⟨q1, q2⟩ | ⟨q1, q2, q3⟩ | ⟨q1, q2, q3, q4⟩
  all_goals
    repeat' (first | refine ls_of rfl ?_ | refine ls_of_no ?_ | refine ls_guard_yes rfl rfl ?_ | refine ls_guard_no rfl rfl rfl rfl ?_ | refine ls_guard_un rfl rfl rfl ?_ | refine o1_move rfl ?_ | refine o1_assign rfl ?_ | refine st_seq ?_ | refine st_region ?_ | refine st_block ?_ | refine st_skip ?_ | refine st_ret ?_ | refine st_exit ?_ | refine st_cond_t rfl ?_ | refine st_cond_f rfl ?_ | refine st_cond rfl (fun _ => ?_) (fun _ => ?_) | refine ls_nil ?_ | refine nx_seq ?_ | refine nx_blk ?_ | refine nx_fn ?_ | refine nx_rounds ?_ | refine xt_seq ?_ | refine xt_here ?_ | refine xt_on rfl ?_ | refine xt_rounds ?_ | refine xt_cut ?_ | refine rt_seq ?_ | refine rt_blk ?_ | refine rt_rounds ?_ | refine rt_cut ?_ | refine o1_pick_t rfl rfl ?_ | refine o1_pick_f rfl rfl ?_ | refine o1_box rfl rfl (fun _ => ?_) | refine o1_lss_t rfl rfl (by omega) ?_ | refine o1_lss_f rfl rfl (by omega) ?_ | refine o1_lss rfl rfl (fun _ => ?_) (fun _ => ?_) | refine o1_gtr_t rfl rfl (by omega) ?_ | refine o1_gtr_f rfl rfl (by omega) ?_ | refine o1_gtr rfl rfl (fun _ => ?_) (fun _ => ?_) | refine o1_buildx rfl (by simp only [buildL, putL, List.set_cons_zero, List.set_cons_succ, List.getElem?_cons_zero, List.getElem?_cons_succ, Option.getD_some, Value.cells, Nat.zero_add, Nat.reduceAdd]; rfl) (fun _ => by kernel_rfl) ?_)
    refine rt_tmp () rfl rfl rfl trivial ?_
    (try dsimp only [List.cons_append, List.nil_append, List.singleton_append, List.append_nil]); (repeat (first | exact Ent.nil | exact Ent.refl _ | (apply Ent.cons; (repeat (first | exact Sel.here | apply Sel.there)))))
theorem r1_NewMatrix (H : List Hl) (n z : Nat) (h1 : 1 ≤ n) (h2 : n ≤ 256) (h3 : 1 ≤ z) (h4 : z ≤ 16) :
    Spec Tryd.prog 44 [I n, I z] H (fun _ : Nat => True) (fun b => .pointer (some ⟨b, 0, none⟩)) (fun b => rB b n z none 0 0 :: H) := by
  refine spec_pure (res := fun b : Nat => [rB b n z none 0 0]) H Tryd.func44 rfl Tryd.ntmps44 (by kernel_rfl) rfl (fun W => ?_)
  repeat' (first | refine ls_of rfl ?_ | refine ls_of_no ?_ | refine ls_guard_yes rfl rfl ?_ | refine ls_guard_no rfl rfl rfl rfl ?_ | refine ls_guard_un rfl rfl rfl ?_ | refine o1_move rfl ?_ | refine o1_assign rfl ?_ | refine st_seq ?_ | refine st_region ?_ | refine st_block ?_ | refine st_skip ?_ | refine st_ret ?_ | refine st_exit ?_ | refine st_cond_t rfl ?_ | refine st_cond_f rfl ?_ | refine st_cond rfl (fun _ => ?_) (fun _ => ?_) | refine ls_nil ?_ | refine nx_seq ?_ | refine nx_blk ?_ | refine nx_fn ?_ | refine nx_rounds ?_ | refine xt_seq ?_ | refine xt_here ?_ | refine xt_on rfl ?_ | refine xt_rounds ?_ | refine xt_cut ?_ | refine rt_seq ?_ | refine rt_blk ?_ | refine rt_rounds ?_ | refine rt_cut ?_ | refine o1_box rfl rfl (fun b1 => ?_) | refine o1_pick_t rfl rfl ?_ | refine o1_pick_f rfl rfl ?_ | refine o1_box rfl rfl (fun _ => ?_) | refine o1_lss_t rfl rfl (by omega) ?_ | refine o1_lss_f rfl rfl (by omega) ?_ | refine o1_lss rfl rfl (fun _ => ?_) (fun _ => ?_) | refine o1_gtr_t rfl rfl (by omega) ?_ | refine o1_gtr_f rfl rfl (by omega) ?_ | refine o1_gtr rfl rfl (fun _ => ?_) (fun _ => ?_) | refine o1_buildx rfl (by simp only [buildL, putL, List.set_cons_zero, List.set_cons_succ, List.getElem?_cons_zero, List.getElem?_cons_succ, Option.getD_some, Value.cells, Nat.zero_add, Nat.reduceAdd]; rfl) (fun _ => by kernel_rfl) ?_)
  refine rt_tmp b1 rfl rfl rfl trivial ?_
  (try dsimp only [List.cons_append, List.nil_append, List.singleton_append, List.append_nil]); (repeat (first | exact Ent.nil | exact Ent.refl _ | (apply Ent.cons; (repeat (first | exact Sel.here | apply Sel.there)))))
set_option maxHeartbeats 4000000 in
theorem r1_reduce (H : List Hl) (A : Hp → Prop) (b n z : Nat) (ad : Option Addr) (c : Nat) (ls : List LnD) (v : SlD Bool) (d : SlD (BitVec 8)) (hb2 : Cl (stars H) ⟨b, 2, none⟩ (.slice ad ls.length c)) (hL : RdL A n z ad c ls) (hok : ∀ y ∈ ls.map lnV, LRow n z y) (hn : n ≤ 256) (hz : z ≤ 16) (hv : Rs A Bo v.ad v.cap v.l) (hvl : v.l.length = n) (hd : Rs A B d.ad d.cap d.l) (hdl : d.l.length = z) :
    Spec Tryd.prog 65 [.pointer (some ⟨b, 0, none⟩), .slice v.ad n v.cap, .slice d.ad z d.cap] (.any A :: H) (fun r : SlD Bool × SlD (BitVec 8) × (Hp → Prop) => (r.1.l, r.2.1.l) = (ls.map lnV).foldl rstep (v.l, d.l) ∧ r.1.l.length = n ∧ r.2.1.l.length = z ∧ Rs r.2.2 Bo r.1.ad r.1.cap r.1.l ∧ Rs r.2.2 B r.2.1.ad r.2.1.cap r.2.1.l ∧ Gr A r.2.2) (fun r => .tuple #[.slice r.1.ad n r.1.cap, .slice r.2.1.ad z r.2.1.cap]) (fun r => .any r.2.2 :: H) := by
  refine spec_fn (res := fun r : SlD Bool × SlD (BitVec 8) × (Hp → Prop) => [.any r.2.2]) [.any A] H Tryd.func65 rfl Tryd.ntmps65 (by kernel_rfl) rfl (fun W => ?_)
  dsimp only [List.cons_append, List.nil_append]
  have b3 := hL.r.le
  have b4 := hL.r.big
  repeat' (first | refine ls_of rfl ?_ | refine ls_of_no ?_ | refine ls_guard_yes rfl rfl ?_ | refine ls_guard_no rfl rfl rfl rfl ?_ | refine ls_guard_un rfl rfl rfl ?_ | refine o1_move rfl ?_ | refine o1_assign rfl ?_ | refine st_seq ?_ | refine st_region ?_ | refine st_block ?_ | refine st_skip ?_ | refine st_ret ?_ | refine st_exit ?_ | refine st_cond_t rfl ?_ | refine st_cond_f rfl ?_ | refine st_cond rfl (fun _ => ?_) (fun _ => ?_) | refine ls_nil ?_ | refine nx_seq ?_ | refine nx_blk ?_ | refine nx_fn ?_ | refine nx_rounds ?_ | refine xt_seq ?_ | refine xt_here ?_ | refine xt_on rfl ?_ | refine xt_rounds ?_ | refine xt_cut ?_ | refine rt_seq ?_ | refine rt_blk ?_ | refine rt_rounds ?_ | refine rt_cut ?_ | refine ox_load_any rfl hb2 ?_ | refine o1_fieldAddr rfl ?_ | refine ox_load rfl (by rfl) ?_ | refine ox_load_enc rfl (by first | omega | (simp; omega)) ?_ | refine ox_load_any rfl (by assumption) ?_ | refine o1_len rfl ?_ | refine o1_add rfl rfl (by omega) ?_ | refine o1_lss_t rfl rfl (by omega) ?_ | refine o1_lss_f rfl rfl (by omega) ?_ | refine o1_lss rfl rfl (fun _ => ?_) (fun _ => ?_) | refine o1_alloc rfl (fun _ => ?_) | refine o1_nilCheck rfl ?_ | refine ox_store_agg rfl rfl (by rfl) (by simp) (by simp [Value.oneCell']) (by simp only [putL, List.set_cons_zero, List.set_cons_succ, Nat.zero_add, Nat.reduceAdd]; rfl) ?_ | refine ox_load_agg rfl (by simp only [Nat.zero_add, Nat.reduceAdd, List.drop_zero, List.drop_succ_cons, List.take_succ_cons, List.take_zero]; rfl) (by rfl) ?_)
  refine st_loop (S := Nat × SlD Bool × SlD (BitVec 8) × (Hp → Prop)) (fun q => [(1, .slice q.2.1.ad n q.2.1.cap), (2, .slice q.2.2.1.ad z q.2.2.1.cap), (13, .slice ad ls.length c), (14, I ls.length), (15, I q.1)])
    (fun q => [.any q.2.2.2, .any (stars H)])
    (fun q => q.1 ≤ ls.length ∧ (q.2.1.l, q.2.2.1.l) = ((ls.map lnV).take q.1).foldl rstep (v.l, d.l) ∧ q.2.1.l.length = n ∧ q.2.2.1.l.length = z ∧ Rs q.2.2.2 Bo q.2.1.ad q.2.1.cap q.2.1.l ∧ Rs q.2.2.2 B q.2.2.1.ad q.2.2.1.cap q.2.2.1.l ∧ Gr A q.2.2.2) (fun q => ls.length - q.1) (0, v, d, A) ⟨Nat.zero_le _, rfl, hvl, hdl, hv, hd, Gr.refl A⟩
    (cov_cons rfl rfl (cov_cons rfl rfl (cov_cons rfl rfl (cov_cons rfl rfl (cov_cons rfl rfl cov_nil))))) (by (try dsimp only [List.cons_append, List.nil_append, List.singleton_append, List.append_nil]); (repeat (first | exact Ent.nil | exact Ent.refl _ | (apply Ent.cons; (repeat (first | exact Sel.here | apply Sel.there)))))) ?_
  rintro ⟨i, v1, d1, A1⟩ ⟨hi, hfold, hl1, hl2, hv1, hd1, hg1⟩
  dsimp only at hi hfold hl1 hl2 hv1 hd1 hg1 ⊢
  by_cases hlt : i < ls.length
  · obtain ⟨x, hx⟩ : ∃ x, ls[i] = x := ⟨_, rfl⟩
    have hxi : ls[i]? = some x := by rw [List.getElem?_eq_getElem hlt, hx]
    have hxm : x ∈ ls := hx ▸ List.getElem_mem hlt
    have hL1 := hL.mono hg1
    have hr1 := hL1.r
    obtain ⟨hxv, hxd, q1, q2⟩ := hL1.x x hxm
    obtain ⟨_, _, a, hfa, han⟩ := hok (lnV x) (List.mem_map_of_mem hxm)
    have hfa : firstV x.v.l = a := hfa
    have hav : a < v1.l.length := by omega
    have hnx : ((ls.map lnV).take (i + 1)).foldl rstep (v.l, d.l) = rstep (v1.l, d1.l) (lnV x) := by
      rw [List.take_succ_eq_append_getElem (by rw [List.length_map]; exact hlt), List.foldl_append, ← hfold, List.getElem_map, hx]
      rfl
    have hat : at_ v1.l a = v1.l[a] := by show v1.l.getD a false = _; rw [List.getD_eq_getElem?_getD, List.getElem?_eq_getElem hav]; rfl
    have hstep : rstep (v1.l, d1.l) (lnV x) = if at_ v1.l a = true then (xorV v1.l x.v.l, xorL d1.l x.d.l) else (v1.l, d1.l) := by
      unfold rstep
      show (if at_ v1.l (firstV x.v.l).toNat = true then _ else _) = _
      rw [hfa]
      rfl
    cases hb : v1.l[a]
    · rw [hat, hb] at hstep
      have hstep : rstep (v1.l, d1.l) (lnV x) = (v1.l, d1.l) := hstep
      repeat' (first | refine ls_of rfl ?_ | refine ls_of_no ?_ | refine ls_guard_yes rfl rfl ?_ | refine ls_guard_no rfl rfl rfl rfl ?_ | refine ls_guard_un rfl rfl rfl ?_ | refine o1_move rfl ?_ | refine o1_assign rfl ?_ | refine st_seq ?_ | refine st_region ?_ | refine st_block ?_ | refine st_skip ?_ | refine st_ret ?_ | refine st_exit ?_ | refine st_cond_t rfl ?_ | refine st_cond_f rfl ?_ | refine st_cond rfl (fun _ => ?_) (fun _ => ?_) | refine ls_nil ?_ | refine nx_seq ?_ | refine nx_blk ?_ | refine nx_fn ?_ | refine nx_rounds ?_ | refine xt_seq ?_ | refine xt_here ?_ | refine xt_on rfl ?_ | refine xt_rounds ?_ | refine xt_cut ?_ | refine rt_seq ?_ | refine rt_blk ?_ | refine rt_rounds ?_ | refine rt_cut ?_ | refine o1_iaw (f := fV n) (g := fD z) (ad := ad) (c := c) i rfl rfl hr1 rfl rfl hlt ?_ | refine o1_load_iaw (f := fV n) (g := fD z) (ad := ad) (c := c) i x rfl hr1 hxi ?_ | refine o1_call (fun _ => (r1_First _ x.v.ad n x.v.cap x.v.l (Rs.up hxv) q1.symm).vv (b := I a) (by rw [hfa])) rfl (fun _ _ => ?_) | refine o1_ia (ad := v1.ad) (c := v1.cap) a rfl rfl hv1 hl1.symm rfl hav ?_ | (refine o1_load_ia (ad := v1.ad) (c := v1.cap) a rfl hv1 hav ?_; rw [hb]) | refine o1_fieldAddr rfl ?_ | refine ox_load rfl (by rfl) ?_ | refine ox_load_enc rfl (by first | omega | (simp; omega)) ?_ | refine ox_load_any rfl (by assumption) ?_ | refine o1_len rfl ?_ | refine o1_add rfl rfl (by omega) ?_ | refine o1_lss_t rfl rfl (by omega) ?_ | refine o1_lss_f rfl rfl (by omega) ?_ | refine o1_lss rfl rfl (fun _ => ?_) (fun _ => ?_) | refine o1_alloc rfl (fun _ => ?_) | refine o1_nilCheck rfl ?_ | refine ox_store_agg rfl rfl (by rfl) (by simp) (by simp [Value.oneCell']) (by simp only [putL, List.set_cons_zero, List.set_cons_succ, Nat.zero_add, Nat.reduceAdd]; rfl) ?_ | refine ox_load_agg rfl (by simp only [Nat.zero_add, Nat.reduceAdd, List.drop_zero, List.drop_succ_cons, List.take_succ_cons, List.take_zero]; rfl) (by rfl) ?_)
      refine nx_again (i + 1, v1, d1, A1) ⟨?_, ?_, hl1, hl2, hv1, hd1, hg1⟩ ?_ (cov_cons rfl rfl (cov_cons rfl rfl (cov_cons rfl rfl (cov_cons rfl rfl (cov_cons rfl rfl cov_nil))))) ?_
      · show i + 1 ≤ ls.length; omega
      · show (v1.l, d1.l) = ((ls.map lnV).take (i + 1)).foldl rstep (v.l, d.l)
        rw [hnx, hstep]
      · show ls.length - (i + 1) < ls.length - i; omega
      (try dsimp only [List.cons_append, List.nil_append, List.singleton_append, List.append_nil]); (repeat (first | exact Ent.nil | exact Ent.refl _ | (apply Ent.cons; (repeat (first | exact Sel.here | apply Sel.there)))))
    · rw [hat, hb] at hstep
      have hstep : rstep (v1.l, d1.l) (lnV x) = (xorV v1.l x.v.l, xorL d1.l x.d.l) := hstep
      repeat' (first | refine ls_of rfl ?_ | refine ls_of_no ?_ | refine ls_guard_yes rfl rfl ?_ | refine ls_guard_no rfl rfl rfl rfl ?_ | refine ls_guard_un rfl rfl rfl ?_ | refine o1_move rfl ?_ | refine o1_assign rfl ?_ | refine st_seq ?_ | refine st_region ?_ | refine st_block ?_ | refine st_skip ?_ | refine st_ret ?_ | refine st_exit ?_ | refine st_cond_t rfl ?_ | refine st_cond_f rfl ?_ | refine st_cond rfl (fun _ => ?_) (fun _ => ?_) | refine ls_nil ?_ | refine nx_seq ?_ | refine nx_blk ?_ | refine nx_fn ?_ | refine nx_rounds ?_ | refine xt_seq ?_ | refine xt_here ?_ | refine xt_on rfl ?_ | refine xt_rounds ?_ | refine xt_cut ?_ | refine rt_seq ?_ | refine rt_blk ?_ | refine rt_rounds ?_ | refine rt_cut ?_ | refine o1_iaw (f := fV n) (g := fD z) (ad := ad) (c := c) i rfl rfl hr1 rfl rfl hlt ?_ | refine o1_load_iaw (f := fV n) (g := fD z) (ad := ad) (c := c) i x rfl hr1 hxi ?_ | refine o1_alloc rfl (fun b9 => ?_) | refine o1_call (fun _ => (r1_First _ x.v.ad n x.v.cap x.v.l (Rs.up hxv) q1.symm).vv (b := I a) (by rw [hfa])) rfl (fun _ _ => ?_) | refine o1_ia (ad := v1.ad) (c := v1.cap) a rfl rfl hv1 hl1.symm rfl hav ?_ | (refine o1_load_ia (ad := v1.ad) (c := v1.cap) a rfl hv1 hav ?_; rw [hb]) | refine o1_fieldAddr rfl ?_ | refine ox_load rfl (by rfl) ?_ | refine ox_load_enc rfl (by first | omega | (simp; omega)) ?_ | refine ox_load_any rfl (by assumption) ?_ | refine o1_len rfl ?_ | refine o1_add rfl rfl (by omega) ?_ | refine o1_lss_t rfl rfl (by omega) ?_ | refine o1_lss_f rfl rfl (by omega) ?_ | refine o1_lss rfl rfl (fun _ => ?_) (fun _ => ?_) | refine o1_alloc rfl (fun _ => ?_) | refine o1_nilCheck rfl ?_ | refine ox_store_agg rfl rfl (by rfl) (by simp) (by simp [Value.oneCell']) (by simp only [putL, List.set_cons_zero, List.set_cons_succ, Nat.zero_add, Nat.reduceAdd]; rfl) ?_ | refine ox_load_agg rfl (by simp only [Nat.zero_add, Nat.reduceAdd, List.drop_zero, List.drop_succ_cons, List.take_succ_cons, List.take_zero]; rfl) (by rfl) ?_)
      refine st_stages [(1, _), (9, _), (2, _)] rtY2_0 [3, 7] [⟨[0, 1, 2, 4, 5, 6], [], some 3⟩, ⟨[], [4, 5, 6], some 7⟩, ⟨[8, 9], [], none⟩] mixed (cov_cons rfl rfl (cov_cons rfl rfl (cov_cons rfl rfl cov_nil))) (by kernel_rfl) (by kernel_rfl) ?_
      all_goals refine wk_ch ?_
      all_goals (refine xp1 1 rfl rfl rfl rfl (by refine o1_move rfl fz) ?_)
      all_goals (refine xp1 9 rfl rfl rfl rfl (by refine o1_fieldAddr rfl fz) ?_)
      all_goals (refine xp1 26 rfl rfl rfl rfl (by first | refine ox_load (b := b9) rfl rfl fz | refine ox_load rfl (by rfl) fz | refine ox_load_enc rfl (by first | omega | (simp; omega)) fz | refine ox_load_any rfl (by assumption) fz) ?_)
      all_goals (refine xp1 2 rfl rfl rfl rfl (by refine o1_move rfl fz) ?_)
      all_goals (refine xp1 9 rfl rfl rfl rfl (by refine o1_fieldAddr rfl fz) ?_)
      all_goals (refine xp1 30 rfl rfl rfl rfl (by first | refine ox_load (b := b9) rfl rfl fz | refine ox_load rfl (by rfl) fz | refine ox_load_enc rfl (by first | omega | (simp; omega)) fz | refine ox_load_any rfl (by assumption) fz) ?_)
      all_goals refine op_nil ?_
      all_goals refine re_nil ?_
      all_goals first | (refine ch_run (E' := [(25, _), (27, _)]) rfl (gd_r0 rfl) rfl (cov_cons rfl rfl (cov_cons rfl rfl cov_nil)) ?_; (first | (refine o1_call (fun _ => r1_Xor _ v1.ad x.v.ad n v1.cap n x.v.cap v1.l x.v.l (Rs.up hv1) (Rs.up hxv) hl1.symm q1.symm rfl hn) rfl (fun b28 _ => ?_))))
      all_goals refine wk_ch ?_
      all_goals refine op_nil ?_
      all_goals (refine xq1 2 rfl rfl rfl rfl rfl (by refine o1_move rfl fz) ?_)
      all_goals (refine xq1 9 rfl rfl rfl rfl rfl (by refine o1_fieldAddr rfl fz) ?_)
      all_goals (refine xq1 30 rfl rfl rfl rfl rfl (by first | refine ox_load (b := b9) rfl rfl fz | refine ox_load rfl (by rfl) fz | refine ox_load_enc rfl (by first | omega | (simp; omega)) fz | refine ox_load_any rfl (by assumption) fz) ?_)
      all_goals refine re_nil ?_
      all_goals first | (refine ch_run (E' := [(29, _), (31, _)]) rfl (gd_r0 rfl) rfl (cov_cons rfl rfl (cov_cons rfl rfl cov_nil)) ?_; (first | (refine o1_call (fun _ => r1_XorB _ d1.ad x.d.ad z d1.cap z x.d.cap d1.l x.d.l (Rs.up hd1) (Rs.up hxd) hl2.symm q2.symm rfl (by omega)) rfl (fun b32 _ => ?_))))
      all_goals refine wk_end ?_
      all_goals (refine xp1 28 rfl rfl rfl rfl (by refine o1_assign rfl fz) ?_)
      all_goals (refine xp1 32 rfl rfl rfl rfl (by refine o1_assign rfl fz) ?_)
      all_goals refine op_nil ?_
      all_goals refine re_nil ?_
      all_goals dsimp only [List.cons_append, List.nil_append]
      repeat' (first | refine ls_of rfl ?_ | refine ls_of_no ?_ | refine ls_guard_yes rfl rfl ?_ | refine ls_guard_no rfl rfl rfl rfl ?_ | refine ls_guard_un rfl rfl rfl ?_ | refine o1_move rfl ?_ | refine o1_assign rfl ?_ | refine st_seq ?_ | refine st_region ?_ | refine st_block ?_ | refine st_skip ?_ | refine st_ret ?_ | refine st_exit ?_ | refine st_cond_t rfl ?_ | refine st_cond_f rfl ?_ | refine st_cond rfl (fun _ => ?_) (fun _ => ?_) | refine ls_nil ?_ | refine nx_seq ?_ | refine nx_blk ?_ | refine nx_fn ?_ | refine nx_rounds ?_ | refine xt_seq ?_ | refine xt_here ?_ | refine xt_on rfl ?_ | refine xt_rounds ?_ | refine xt_cut ?_ | refine rt_seq ?_ | refine rt_blk ?_ | refine rt_rounds ?_ | refine rt_cut ?_ | refine o1_fieldAddr rfl ?_ | refine ox_load rfl (by rfl) ?_ | refine ox_load_enc rfl (by first | omega | (simp; omega)) ?_ | refine ox_load_any rfl (by assumption) ?_ | refine o1_len rfl ?_ | refine o1_add rfl rfl (by omega) ?_ | refine o1_lss_t rfl rfl (by omega) ?_ | refine o1_lss_f rfl rfl (by omega) ?_ | refine o1_lss rfl rfl (fun _ => ?_) (fun _ => ?_) | refine o1_alloc rfl (fun _ => ?_) | refine o1_nilCheck rfl ?_ | refine ox_store_agg rfl rfl (by rfl) (by simp) (by simp [Value.oneCell']) (by simp only [putL, List.set_cons_zero, List.set_cons_succ, Nat.zero_add, Nat.reduceAdd]; rfl) ?_ | refine ox_load_agg rfl (by simp only [Nat.zero_add, Nat.reduceAdd, List.drop_zero, List.drop_succ_cons, List.take_succ_cons, List.take_zero]; rfl) (by rfl) ?_)
      have hX : (xorV v1.l x.v.l).length = n := by rw [xorV_len (by omega)]; exact hl1
      have hY : (xorL d1.l x.d.l).length = z := by rw [xorL_len _ _ (by omega)]; exact hl2
      refine nx_pack [.box b28 4 ((xorV v1.l x.v.l).map Bo), .box b32 5 ((xorL d1.l x.d.l).map B), .any A1] [.any (stars H)] (by (try dsimp only [List.cons_append, List.nil_append, List.singleton_append, List.append_nil]); (repeat (first | exact Ent.nil | exact Ent.refl _ | (apply Ent.cons; (repeat (first | exact Sel.here | apply Sel.there)))))) ?_
      refine nx_has (fun hh => ?_)
      have hA2 := has_any hh
      have f1 := rx_box (b := b28) (T := 4) (enc := Bo) hX (by omega) hA2
      have f2 := rx_box (b := b32) (T := 5) (enc := B) hY (by omega) hA2
      obtain ⟨A2, hA2e⟩ : ∃ A2, stars [.box b28 4 ((xorV v1.l x.v.l).map Bo), .box b32 5 ((xorL d1.l x.d.l).map B), .any A1] = A2 := ⟨_, rfl⟩
      have hg2 : Gr A1 A2 := by rw [← hA2e]; exact Gr.of
      rw [hA2e] at f1 f2 ⊢
      refine nx_again (i + 1, ⟨some ⟨b28, 0, none⟩, n, xorV v1.l x.v.l⟩, ⟨some ⟨b32, 0, none⟩, z, xorL d1.l x.d.l⟩, A2) ⟨?_, ?_, hX, hY, f1, f2, hg1.trans hg2⟩ ?_ (cov_cons rfl rfl (cov_cons rfl rfl (cov_cons rfl rfl (cov_cons rfl rfl (cov_cons rfl rfl cov_nil))))) ?_
      · show i + 1 ≤ ls.length; omega
      · show (xorV v1.l x.v.l, xorL d1.l x.d.l) = ((ls.map lnV).take (i + 1)).foldl rstep (v.l, d.l)
        rw [hnx, hstep]
      · show ls.length - (i + 1) < ls.length - i; omega
      (try dsimp only [List.cons_append, List.nil_append, List.singleton_append, List.append_nil]); (repeat (first | exact Ent.nil | exact Ent.refl _ | (apply Ent.cons; (repeat (first | exact Sel.here | apply Sel.there)))))
  · have : i = ls.length := by omega
    subst this
    repeat' (first | refine ls_of rfl ?_ | refine ls_of_no ?_ | refine ls_guard_yes rfl rfl ?_ | refine ls_guard_no rfl rfl rfl rfl ?_ | refine ls_guard_un rfl rfl rfl ?_ | refine o1_move rfl ?_ | refine o1_assign rfl ?_ | refine st_seq ?_ | refine st_region ?_ | refine st_block ?_ | refine st_skip ?_ | refine st_ret ?_ | refine st_exit ?_ | refine st_cond_t rfl ?_ | refine st_cond_f rfl ?_ | refine st_cond rfl (fun _ => ?_) (fun _ => ?_) | refine ls_nil ?_ | refine nx_seq ?_ | refine nx_blk ?_ | refine nx_fn ?_ | refine nx_rounds ?_ | refine xt_seq ?_ | refine xt_here ?_ | refine xt_on rfl ?_ | refine xt_rounds ?_ | refine xt_cut ?_ | refine rt_seq ?_ | refine rt_blk ?_ | refine rt_rounds ?_ | refine rt_cut ?_ | refine o1_fieldAddr rfl ?_ | refine ox_load rfl (by rfl) ?_ | refine ox_load_enc rfl (by first | omega | (simp; omega)) ?_ | refine ox_load_any rfl (by assumption) ?_ | refine o1_len rfl ?_ | refine o1_add rfl rfl (by omega) ?_ | refine o1_lss_t rfl rfl (by omega) ?_ | refine o1_lss_f rfl rfl (by omega) ?_ | refine o1_lss rfl rfl (fun _ => ?_) (fun _ => ?_) | refine o1_alloc rfl (fun _ => ?_) | refine o1_nilCheck rfl ?_ | refine ox_store_agg rfl rfl (by rfl) (by simp) (by simp [Value.oneCell']) (by simp only [putL, List.set_cons_zero, List.set_cons_succ, Nat.zero_add, Nat.reduceAdd]; rfl) ?_ | refine ox_load_agg rfl (by simp only [Nat.zero_add, Nat.reduceAdd, List.drop_zero, List.drop_succ_cons, List.take_succ_cons, List.take_zero]; rfl) (by rfl) ?_)
    refine rt_tmp2 (v1, d1, A1) rfl rfl rfl rfl ⟨?_, hl1, hl2, hv1, hd1, hg1⟩ ?_
    · rw [hfold, List.take_of_length_le (by rw [List.length_map]; exact Nat.le_refl _)]
    (try dsimp only [List.cons_append, List.nil_append, List.singleton_append, List.append_nil]); (repeat (first | exact Ent.nil | exact Ent.refl _ | (apply Ent.cons; (repeat (first | exact Sel.here | apply Sel.there)))))
theorem red_fst {n z : Nat} {M : List (Option LN)} (h : RR n z M) {v : List Bool} {d d' : List (BitVec 8)} (hv : v.length = n) (hd : d.length = z) (hd' : d'.length = z) : (red M (v, d)).1 = (red M (v, d')).1 := by
  obtain ⟨l1, _⟩ := redT_len h.lok (x := (v, d)) hv hd M.length
  obtain ⟨l2, _⟩ := redT_len h.lok (x := (v, d')) hv hd' M.length
  have l1 : (red M (v, d)).1.length = n := l1
  have l2 : (red M (v, d')).1.length = n := l2
  apply List.ext_getElem (by omega)
  intro i h1 h2
  have e1 := redT_at h (x := (v, d)) hv hd n (Nat.le_refl _) i
  have e2 := redT_at h (x := (v, d')) hv hd' n (Nat.le_refl _) i
  rw [← h.lok.len] at e1 e2
  have e : at_ (red M (v, d)).1 i = at_ (red M (v, d')).1 i := e1.trans e2.symm
  unfold at_ at e
  rw [List.getD_eq_getElem?_getD, List.getD_eq_getElem?_getD, List.getElem?_eq_getElem h1, List.getElem?_eq_getElem h2] at e
  exact e
set_option maxHeartbeats 4000000 in
theorem r1_Says (H : List Hl) (A : Hp → Prop) (b n z : Nat) (ad : Option Addr) (c : Nat) (ls : List LnD) (M : List (Option LN)) (v : SlD Bool) (q : Bool) (hb0 : Cl (stars H) ⟨b, 0, none⟩ (I n)) (hb1 : Cl (stars H) ⟨b, 1, none⟩ (I z)) (hb2 : Cl (stars H) ⟨b, 2, none⟩ (.slice ad ls.length c)) (hL : RdL A n z ad c ls) (hM : ls.map lnV = cmp M) (hRR : RR n z M) (hn : n ≤ 256) (hz : z ≤ 16) (hv : Rs A Bo v.ad v.cap v.l) (hvl : v.l.length = n) (hq : decide (0 ≤ firstV (red M (v.l, List.replicate z 0#8)).1) = q) :
    Spec Tryd.prog 45 [.pointer (some ⟨b, 0, none⟩), .slice v.ad n v.cap] (.any A :: H) (fun _ : Unit => True) (fun _ => .bool q) (fun _ => .any A :: H) := by
  refine spec_fn (res := fun _ : Unit => [.any A]) [.any A] H Tryd.func45 rfl Tryd.ntmps45 (by kernel_rfl) rfl (fun W => ?_)
  dsimp only [List.cons_append, List.nil_append]
  have hok : ∀ y ∈ ls.map lnV, LRow n z y := fun y hy => cmp_row hRR (hM ▸ hy)
  obtain ⟨Z, hZ⟩ : ∃ Z, List.replicate z 0#8 = Z := ⟨_, rfl⟩
  have hZl : Z.length = z := by rw [← hZ]; simp
  rw [hZ] at hq
  repeat' (first | refine ls_of rfl ?_ | refine ls_of_no ?_ | refine ls_guard_yes rfl rfl ?_ | refine ls_guard_no rfl rfl rfl rfl ?_ | refine ls_guard_un rfl rfl rfl ?_ | refine o1_move rfl ?_ | refine o1_assign rfl ?_ | refine st_seq ?_ | refine st_region ?_ | refine st_block ?_ | refine st_skip ?_ | refine st_ret ?_ | refine st_exit ?_ | refine st_cond_t rfl ?_ | refine st_cond_f rfl ?_ | refine st_cond rfl (fun _ => ?_) (fun _ => ?_) | refine ls_nil ?_ | refine nx_seq ?_ | refine nx_blk ?_ | refine nx_fn ?_ | refine nx_rounds ?_ | refine xt_seq ?_ | refine xt_here ?_ | refine xt_on rfl ?_ | refine xt_rounds ?_ | refine xt_cut ?_ | refine rt_seq ?_ | refine rt_blk ?_ | refine rt_rounds ?_ | refine rt_cut ?_ | refine ox_load_any rfl hb0 ?_ | refine ox_load_any rfl hb1 ?_ | refine o1_neq_f rfl rfl rfl ?_ | (refine o1_maker (enc := B) 0#8 z rfl rfl rfl rfl rfl (by omega) (by omega) (fun b19 => ?_); rw [hZ]) | (refine o1_call_to (.any (stars [.box b19 5 (Z.map B), .any A]) :: [.any (stars H)]) (fun h hh => ent_pack [.box b19 5 (Z.map B), .any A] [.any (stars H)] h (Ent.out (by (try dsimp only [List.cons_append, List.nil_append, List.singleton_append, List.append_nil]); (repeat (first | exact Ent.nil | exact Ent.refl _ | (apply Ent.cons; (repeat (first | exact Sel.here | apply Sel.there)))))) h hh)) (fun hh => r1_reduce _ (stars [.box b19 5 (Z.map B), .any A]) b n z ad c ls v ⟨some ⟨b19, 0, none⟩, z, Z⟩ (cl_up hb2) (hL.mono Gr.of) hok hn hz (rs_gr hv Gr.of) hvl (rx_box (T := 5) hZl (by show z ≤ 9223372036854775807; omega) (has_any hh)) hZl) rfl (fun ⟨v1, d1, A1⟩ hr => ?_); dsimp only at hr ⊢; obtain ⟨e1, e2, e3, e4, e5, e6⟩ := hr; rw [hM, rred hRR] at e1; obtain ⟨e7, e8⟩ := Prod.mk.inj (show (v1.l, d1.l) = ((red M (v.l, Z)).1, (red M (v.l, Z)).2) from e1)) | refine o1_call (fun _ => (r1_First _ v1.ad n v1.cap v1.l (Rs.up e4) e2.symm).vv (b := I (firstV (red M (v.l, Z)).1)) (by rw [e7])) rfl (fun _ _ => ?_) | (refine o1_geq_d rfl rfl ?_; rw [hq]) | refine o1_extract rfl rfl ?_ | refine o1_fieldAddr rfl ?_ | refine ox_load rfl (by rfl) ?_ | refine ox_load_enc rfl (by first | omega | (simp; omega)) ?_ | refine ox_load_any rfl (by assumption) ?_ | refine o1_len rfl ?_ | refine o1_geq_t rfl rfl (by omega) ?_ | refine o1_geq_f rfl rfl (by omega) ?_ | refine o1_geq rfl rfl (fun _ => ?_) (fun _ => ?_) | refine o1_neq_t rfl rfl (by omega) ?_ | refine o1_neq_f rfl rfl (by omega) ?_ | refine o1_neq rfl rfl (fun _ => ?_) (fun _ => ?_) | refine o1_maken (enc := B) 0#8 rfl rfl rfl rfl (by omega) (by omega) (by omega) (fun _ => ?_) | refine o1_nilCheck rfl ?_)
  refine rt_ent (gr_drop (Gr.trans (Gr.of (A := A) (L := [.box b19 5 (Z.map B), .any A])) e6) [.any (stars H)]) ?_
  refine rt_tmp () rfl rfl rfl trivial ?_
  (try dsimp only [List.cons_append, List.nil_append, List.singleton_append, List.append_nil]); (repeat (first | exact Ent.nil | exact Ent.refl _ | (apply Ent.cons; (repeat (first | exact Sel.here | apply Sel.there)))))
end Go.Dp

set_option linter.unusedVariables false
set_option linter.unusedSimpArgs false
namespace Go.Dp
open Go.RowKit Go.Proofs
def rtY3_0 : List Row := [⟨some 71, [], [], none⟩, ⟨some 72, [0], [0], none⟩, ⟨some 73, [], [], none⟩, ⟨some 74, [1, 2], [0, 1, 2], none⟩, ⟨some 75, [], [], none⟩, ⟨some 76, [4], [4], none⟩, ⟨some 77, [], [], none⟩, ⟨some 78, [5, 6, 3], [0, 1, 2, 3, 4, 5, 6], none⟩, ⟨some 79, [3, 7], [0, 1, 2, 3, 4, 5, 6, 7], none⟩, ⟨none, [8, 7, 0, 1, 2, 3, 4, 5, 6, 7, 8], [0, 1, 2, 3, 4, 5, 6, 7, 8], none⟩]
def rtY3_1 : List Row := [⟨some 71, [], [], none⟩, ⟨some 72, [0], [0], none⟩, ⟨some 73, [], [], none⟩, ⟨some 74, [1, 2], [0, 1, 2], none⟩, ⟨some 75, [], [], none⟩, ⟨some 76, [4], [4], none⟩, ⟨some 77, [], [], none⟩, ⟨some 78, [5, 6, 3], [0, 1, 2, 3, 4, 5, 6], none⟩, ⟨some 79, [3, 7], [0, 1, 2, 3, 4, 5, 6, 7], none⟩, ⟨none, [8, 7, 0, 1, 2, 3, 4, 5, 6, 7, 8], [0, 1, 2, 3, 4, 5, 6, 7, 8], none⟩]
def rtY3_2 : List Row := [⟨some 71, [], [], none⟩, ⟨some 72, [0], [0], none⟩, ⟨some 73, [], [], none⟩, ⟨some 74, [1, 2], [0, 1, 2], none⟩, ⟨some 75, [], [], none⟩, ⟨some 76, [4], [4], none⟩, ⟨some 77, [], [], none⟩, ⟨some 78, [5, 6, 3], [0, 1, 2, 3, 4, 5, 6], none⟩, ⟨some 79, [3, 7], [0, 1, 2, 3, 4, 5, 6, 7], none⟩, ⟨none, [8, 7, 0, 1, 2, 3, 4, 5, 6, 7, 8], [0, 1, 2, 3, 4, 5, 6, 7, 8], none⟩]
theorem rt_has {P : Program} {k : Kon} {n : Nat} {e : Ev} {W : World} {H : List Hl} (h : Has H → Rt P k n e W H) : Rt P k n e W H := ⟨fun a w ho => (h ⟨w, ho.sat⟩).out a w ho⟩
theorem cmp_ne {n z : Nat} {M : List (Option LN)} (h : RR n z M) {a : Nat} (hf : M[a]? = some none) {y : LN} (hy : y ∈ cmp M) : firstV y.1 ≠ a := fun e => by
  obtain ⟨i, hi⟩ := List.getElem?_of_mem (cmp_mem.1 hy)
  obtain ⟨h1, _⟩ := row_first h hi
  have : i = a := by omega
  subst this
  rw [hf] at hi
  cases hi
theorem xorV_zeros {v : List Bool} {n : Nat} (h : v.length = n) : xorV v (List.replicate n false) = v := by
  subst h
  apply List.ext_getElem
  · rw [xorV_len (by simp)]
  · intro i h1 h2
    simp [xorV]
theorem one2 {a b : Value} (ha : a.oneCell' = true) (hb : b.oneCell' = true) : ∀ v ∈ [a, b], v.oneCell' = true := fun v hv => by
  rcases List.mem_cons.1 hv with rfl | hv
  · exact ha
  · obtain rfl : v = b := by simpa using hv
    exact hb
theorem r1_Add_len (H : List Hl) (b n z : Nat) (ad : Option Addr) (c k : Nat) (va : Option Addr) (vc : Nat) (da : Option Addr) (dm dc : Nat) (hdm : dm ≠ z) (h1 : Cl (stars H) ⟨b, 1, none⟩ (I z)) :
    Spec Tryd.prog 46 [.pointer (some ⟨b, 0, none⟩), .slice va n vc, .slice da dm dc] H (fun _ : Unit => True) (fun _ => .bool false) (fun _ => H) := by
  refine spec_pure (res := fun _ => []) H Tryd.func46 rfl Tryd.ntmps46 (by kernel_rfl) rfl (fun W => ?_)
  repeat' (first | refine ls_of rfl ?_ | refine ls_of_no ?_ | refine ls_guard_yes rfl rfl ?_ | refine ls_guard_no rfl rfl rfl rfl ?_ | refine ls_guard_un rfl rfl rfl ?_ | refine o1_move rfl ?_ | refine o1_assign rfl ?_ | refine st_seq ?_ | refine st_region ?_ | refine st_block ?_ | refine st_skip ?_ | refine st_ret ?_ | refine st_exit ?_ | refine st_cond_t rfl ?_ | refine st_cond_f rfl ?_ | refine st_cond rfl (fun _ => ?_) (fun _ => ?_) | refine ls_nil ?_ | refine nx_seq ?_ | refine nx_blk ?_ | refine nx_fn ?_ | refine nx_rounds ?_ | refine xt_seq ?_ | refine xt_here ?_ | refine xt_on rfl ?_ | refine xt_rounds ?_ | refine xt_cut ?_ | refine rt_seq ?_ | refine rt_blk ?_ | refine rt_rounds ?_ | refine rt_cut ?_ | refine ox_load_any rfl h1 ?_ | refine o1_neq_t rfl rfl (by omega) ?_ | refine o1_pick_t rfl rfl ?_ | refine o1_pick_f rfl rfl ?_ | refine o1_extract rfl rfl ?_ | refine o1_fieldAddr rfl ?_ | refine ox_load rfl (by rfl) ?_ | refine ox_load_enc rfl (by first | omega | (simp; omega)) ?_ | refine ox_load_any rfl (by assumption) ?_ | refine o1_len rfl ?_ | refine o1_add rfl rfl (by omega) ?_ | refine o1_lss_t rfl rfl (by omega) ?_ | refine o1_lss_f rfl rfl (by omega) ?_ | refine o1_lss rfl rfl (fun _ => ?_) (fun _ => ?_) | refine o1_gtr_t rfl rfl (by omega) ?_ | refine o1_gtr_f rfl rfl (by omega) ?_ | refine o1_gtr rfl rfl (fun _ => ?_) (fun _ => ?_) | refine o1_neq_t rfl rfl (by omega) ?_ | refine o1_neq_f rfl rfl (by omega) ?_ | refine o1_neq rfl rfl (fun _ => ?_) (fun _ => ?_) | refine o1_bnot rfl ?_ | refine o1_unot rfl ?_ | refine o1_maken (enc := B) 0#8 rfl rfl rfl rfl (by omega) (by omega) (by omega) (fun _ => ?_) | refine o1_lit_B rfl rfl rfl rfl rfl (fun _ => ?_) | refine o1_buildx rfl (by simp only [buildL, putL, List.set_cons_zero, List.set_cons_succ, List.getElem?_cons_zero, List.getElem?_cons_succ, Option.getD_some, Value.cells, Nat.zero_add, Nat.reduceAdd]; rfl) (fun _ => by kernel_rfl) ?_ | refine ox_append rfl rfl (rx_box rfl (by first | decide | omega)) rfl rfl (fun _ => rfl) (by omega) (by omega) (fun _ _ => ?_) | refine ox_append rfl rfl (rx_any (by assumption)) rfl rfl (fun _ => rfl) (by omega) (by omega) (fun _ _ => ?_) | refine ox_append rfl rfl rx_row rfl rfl (fun _ => rfl) (by omega) (by omega) (fun _ _ => ?_) | refine o1_alloc rfl (fun _ => ?_) | refine ox_store_enc B rfl rfl (by first | omega | (simp; done) | (simp; omega)) rfl ?_ | refine ox_stores rfl rfl (by first | omega | (simp; done) | (simp; omega)) rfl (by first | (simp only [List.set_cons_zero, List.set_cons_succ, Nat.zero_add, Nat.reduceAdd]; rfl) | rfl) ?_ | refine o1_nilCheck rfl ?_ | refine ox_store_agg rfl rfl (by rfl) (by simp) (by simp [Value.oneCell']) (by simp only [putL, List.set_cons_zero, List.set_cons_succ, Nat.zero_add, Nat.reduceAdd]; rfl) ?_ | refine ox_load_agg rfl (by simp only [Nat.zero_add, Nat.reduceAdd, List.drop_zero, List.drop_succ_cons, List.take_succ_cons, List.take_zero]; rfl) (by rfl) ?_)
  refine rt_tmp () rfl rfl rfl trivial ?_
  (try dsimp only [List.cons_append, List.nil_append, List.singleton_append, List.append_nil]); (repeat (first | exact Ent.nil | exact Ent.refl _ | (apply Ent.cons; (repeat (first | exact Sel.here | apply Sel.there)))))
theorem r1_Add_old (H : List Hl) (A : Hp → Prop) (b n z : Nat) (ad : Option Addr) (c : Nat) (ls : List LnD) (M : List (Option LN)) (v : SlD Bool) (da : Option Addr) (dc : Nat) (hb0 : Cl (stars H) ⟨b, 0, none⟩ (I n)) (hb1 : Cl (stars H) ⟨b, 1, none⟩ (I z)) (hb2 : Cl (stars H) ⟨b, 2, none⟩ (.slice ad ls.length c)) (hL : RdL A n z ad c ls) (hM : ls.map lnV = cmp M) (hRR : RR n z M) (hn : n ≤ 256) (hz : z ≤ 16) (hv : Rs A Bo v.ad v.cap v.l) (hvl : v.l.length = n) (hq : firstV (red M (v.l, List.replicate z 0#8)).1 = -1) :
    Spec Tryd.prog 46 [.pointer (some ⟨b, 0, none⟩), .slice v.ad n v.cap, .slice da z dc] (.any A :: H) (fun _ : Unit => True) (fun _ => .bool false) (fun _ => .any A :: H) := by
  refine spec_fn (res := fun _ : Unit => [.any A]) [.any A] H Tryd.func46 rfl Tryd.ntmps46 (by kernel_rfl) rfl (fun W => ?_)
  dsimp only [List.cons_append, List.nil_append]
  repeat' (first | refine ls_of rfl ?_ | refine ls_of_no ?_ | refine ls_guard_yes rfl rfl ?_ | refine ls_guard_no rfl rfl rfl rfl ?_ | refine ls_guard_un rfl rfl rfl ?_ | refine o1_move rfl ?_ | refine o1_assign rfl ?_ | refine st_seq ?_ | refine st_region ?_ | refine st_block ?_ | refine st_skip ?_ | refine st_ret ?_ | refine st_exit ?_ | refine st_cond_t rfl ?_ | refine st_cond_f rfl ?_ | refine st_cond rfl (fun _ => ?_) (fun _ => ?_) | refine ls_nil ?_ | refine nx_seq ?_ | refine nx_blk ?_ | refine nx_fn ?_ | refine nx_rounds ?_ | refine xt_seq ?_ | refine xt_here ?_ | refine xt_on rfl ?_ | refine xt_rounds ?_ | refine xt_cut ?_ | refine rt_seq ?_ | refine rt_blk ?_ | refine rt_rounds ?_ | refine rt_cut ?_ | refine ox_load_any rfl hb1 ?_ | refine o1_neq_f rfl rfl rfl ?_ | refine o1_call_a A (fun hh => r1_Says _ A b n z ad c ls M v false (cl_up hb0) (cl_up hb1) (cl_up hb2) hL hM hRR hn hz hv hvl (by rw [hq]; rfl)) rfl (fun _ _ => ?_) | refine o1_pick_t rfl rfl ?_ | refine o1_pick_f rfl rfl ?_ | refine o1_extract rfl rfl ?_ | refine o1_fieldAddr rfl ?_ | refine ox_load rfl (by rfl) ?_ | refine ox_load_enc rfl (by first | omega | (simp; omega)) ?_ | refine ox_load_any rfl (by assumption) ?_ | refine o1_len rfl ?_ | refine o1_add rfl rfl (by omega) ?_ | refine o1_lss_t rfl rfl (by omega) ?_ | refine o1_lss_f rfl rfl (by omega) ?_ | refine o1_lss rfl rfl (fun _ => ?_) (fun _ => ?_) | refine o1_gtr_t rfl rfl (by omega) ?_ | refine o1_gtr_f rfl rfl (by omega) ?_ | refine o1_gtr rfl rfl (fun _ => ?_) (fun _ => ?_) | refine o1_neq_t rfl rfl (by omega) ?_ | refine o1_neq_f rfl rfl (by omega) ?_ | refine o1_neq rfl rfl (fun _ => ?_) (fun _ => ?_) | refine o1_bnot rfl ?_ | refine o1_unot rfl ?_ | refine o1_maken (enc := B) 0#8 rfl rfl rfl rfl (by omega) (by omega) (by omega) (fun _ => ?_) | refine o1_lit_B rfl rfl rfl rfl rfl (fun _ => ?_) | refine o1_buildx rfl (by simp only [buildL, putL, List.set_cons_zero, List.set_cons_succ, List.getElem?_cons_zero, List.getElem?_cons_succ, Option.getD_some, Value.cells, Nat.zero_add, Nat.reduceAdd]; rfl) (fun _ => by kernel_rfl) ?_ | refine ox_append rfl rfl (rx_box rfl (by first | decide | omega)) rfl rfl (fun _ => rfl) (by omega) (by omega) (fun _ _ => ?_) | refine ox_append rfl rfl (rx_any (by assumption)) rfl rfl (fun _ => rfl) (by omega) (by omega) (fun _ _ => ?_) | refine ox_append rfl rfl rx_row rfl rfl (fun _ => rfl) (by omega) (by omega) (fun _ _ => ?_) | refine o1_alloc rfl (fun _ => ?_) | refine ox_store_enc B rfl rfl (by first | omega | (simp; done) | (simp; omega)) rfl ?_ | refine ox_stores rfl rfl (by first | omega | (simp; done) | (simp; omega)) rfl (by first | (simp only [List.set_cons_zero, List.set_cons_succ, Nat.zero_add, Nat.reduceAdd]; rfl) | rfl) ?_ | refine o1_nilCheck rfl ?_ | refine ox_store_agg rfl rfl (by rfl) (by simp) (by simp [Value.oneCell']) (by simp only [putL, List.set_cons_zero, List.set_cons_succ, Nat.zero_add, Nat.reduceAdd]; rfl) ?_ | refine ox_load_agg rfl (by simp only [Nat.zero_add, Nat.reduceAdd, List.drop_zero, List.drop_succ_cons, List.take_succ_cons, List.take_zero]; rfl) (by rfl) ?_)
  refine rt_tmp () rfl rfl rfl trivial ?_
  (try dsimp only [List.cons_append, List.nil_append, List.singleton_append, List.append_nil]); (repeat (first | exact Ent.nil | exact Ent.refl _ | (apply Ent.cons; (repeat (first | exact Sel.here | apply Sel.there)))))
set_option maxHeartbeats 16000000 in
theorem r1_Add (H : List Hl) (A : Hp → Prop) (b n z : Nat) (ad : Option Addr) (c : Nat) (ls : List LnD) (M : List (Option LN)) (v : SlD Bool) (d : SlD (BitVec 8)) (x : LN) (a : Nat) (hL : RdL A n z ad c ls) (hM : ls.map lnV = cmp M) (hRR : RR n z M) (hn : n ≤ 256) (hz : z ≤ 16) (hv : Rs A Bo v.ad v.cap v.l) (hvl : v.l.length = n) (hd : Rs A B d.ad d.cap d.l) (hdl : d.l.length = z) (hx : red M (v.l, d.l) = x) (hfa : firstV x.1 = a) (hfree : M[a]? = some none) :
    Spec Tryd.prog 46 [.pointer (some ⟨b, 0, none⟩), .slice v.ad n v.cap, .slice d.ad z d.cap] (rB b n z ad c ls.length :: .any A :: H) (fun r : (Option Addr × Nat × List LnD) × (Hp → Prop) => RdL r.2 n z r.1.1 r.1.2.1 r.1.2.2 ∧ r.1.2.2.map lnV = cmp (addM M a x) ∧ Gr A r.2) (fun _ => .bool true) (fun r => rB b n z r.1.1 r.1.2.1 r.1.2.2.length :: .any r.2 :: H) := by
  refine spec_fn (res := fun r : (Option Addr × Nat × List LnD) × (Hp → Prop) => [rB b n z r.1.1 r.1.2.1 r.1.2.2.length, .any r.2]) [rB b n z ad c ls.length, .any A] H Tryd.func46 rfl Tryd.ntmps46 (by kernel_rfl) rfl (fun W => ?_)
  dsimp only [List.cons_append, List.nil_append]
  have b3 := hL.r.le
  have b4 := hL.r.big
  have hok : ∀ y ∈ ls.map lnV, LRow n z y := fun y hy => cmp_row hRR (hM ▸ hy)
  have haM : a < M.length := (List.getElem?_eq_some_iff.1 hfree).1
  have han : a < n := by rw [← hRR.lok.len]; exact haM
  have hll : ls.length ≤ 256 := by
    have h1 := congrArg List.length hM
    rw [List.length_map, cmp_len] at h1
    have h2 := cntS_le M
    have h3 := hRR.lok.len
    omega
  obtain ⟨Zb, hZb⟩ : ∃ Zb, List.replicate n false = Zb := ⟨_, rfl⟩
  have hZbl : Zb.length = n := by rw [← hZb]; simp
  have hsay : decide (0 ≤ firstV (red M (v.l, List.replicate z 0#8)).1) = true := by
    have e := red_fst hRR (v := v.l) (d := List.replicate z 0#8) (d' := d.l) hvl (by simp) hdl
    rw [e, hx, hfa]
    simp
  repeat' (first | refine ls_of rfl ?_ | refine ls_of_no ?_ | refine ls_guard_yes rfl rfl ?_ | refine ls_guard_no rfl rfl rfl rfl ?_ | refine ls_guard_un rfl rfl rfl ?_ | refine o1_move rfl ?_ | refine o1_assign rfl ?_ | refine st_seq ?_ | refine st_region ?_ | refine st_block ?_ | refine st_skip ?_ | refine st_ret ?_ | refine st_exit ?_ | refine st_cond_t rfl ?_ | refine st_cond_f rfl ?_ | refine st_cond rfl (fun _ => ?_) (fun _ => ?_) | refine ls_nil ?_ | refine nx_seq ?_ | refine nx_blk ?_ | refine nx_fn ?_ | refine nx_rounds ?_ | refine xt_seq ?_ | refine xt_here ?_ | refine xt_on rfl ?_ | refine xt_rounds ?_ | refine xt_cut ?_ | refine rt_seq ?_ | refine rt_blk ?_ | refine rt_rounds ?_ | refine rt_cut ?_ | refine o1_neq_f rfl rfl rfl ?_ | refine o1_call_a A (fun hh => r1_Says _ A b n z ad c ls M v true (cl_box rfl) (cl_box rfl) (cl_box rfl) hL hM hRR hn hz hv hvl hsay) rfl (fun _ _ => ?_) | (refine o1_call_a A (fun hh => r1_reduce _ A b n z ad c ls v d (cl_box rfl) hL hok hn hz hv hvl hd hdl) rfl (fun ⟨v1, d1, A1⟩ hr => ?_); dsimp only at hr ⊢; obtain ⟨e1, e2, e3, e4, e5, e6⟩ := hr; rw [hM, rred hRR, hx] at e1; obtain ⟨e7, e8⟩ := Prod.mk.inj (show (v1.l, d1.l) = (x.1, x.2) from e1)) | refine o1_call (fun _ => (r1_First _ v1.ad n v1.cap v1.l (Rs.up e4) e2.symm).vv (b := I a) (by rw [e7, hfa])) rfl (fun _ _ => ?_) | refine o1_pick_t rfl rfl ?_ | refine o1_pick_f rfl rfl ?_ | refine o1_extract rfl rfl ?_ | refine o1_fieldAddr rfl ?_ | refine ox_load rfl (by rfl) ?_ | refine ox_load_enc rfl (by first | omega | (simp; omega)) ?_ | refine ox_load_any rfl (by assumption) ?_ | refine o1_len rfl ?_ | refine o1_add rfl rfl (by omega) ?_ | refine o1_lss_t rfl rfl (by omega) ?_ | refine o1_lss_f rfl rfl (by omega) ?_ | refine o1_lss rfl rfl (fun _ => ?_) (fun _ => ?_) | refine o1_gtr_t rfl rfl (by omega) ?_ | refine o1_gtr_f rfl rfl (by omega) ?_ | refine o1_gtr rfl rfl (fun _ => ?_) (fun _ => ?_) | refine o1_neq_t rfl rfl (by omega) ?_ | refine o1_neq_f rfl rfl (by omega) ?_ | refine o1_neq rfl rfl (fun _ => ?_) (fun _ => ?_) | refine o1_bnot rfl ?_ | refine o1_unot rfl ?_ | refine o1_maken (enc := B) 0#8 rfl rfl rfl rfl (by omega) (by omega) (by omega) (fun _ => ?_) | refine o1_lit_B rfl rfl rfl rfl rfl (fun _ => ?_) | refine o1_buildx rfl (by simp only [buildL, putL, List.set_cons_zero, List.set_cons_succ, List.getElem?_cons_zero, List.getElem?_cons_succ, Option.getD_some, Value.cells, Nat.zero_add, Nat.reduceAdd]; rfl) (fun _ => by kernel_rfl) ?_ | refine ox_append rfl rfl (rx_box rfl (by first | decide | omega)) rfl rfl (fun _ => rfl) (by omega) (by omega) (fun _ _ => ?_) | refine ox_append rfl rfl (rx_any (by assumption)) rfl rfl (fun _ => rfl) (by omega) (by omega) (fun _ _ => ?_) | refine ox_append rfl rfl rx_row rfl rfl (fun _ => rfl) (by omega) (by omega) (fun _ _ => ?_) | refine o1_alloc rfl (fun _ => ?_) | refine ox_store_enc B rfl rfl (by first | omega | (simp; done) | (simp; omega)) rfl ?_ | refine ox_stores rfl rfl (by first | omega | (simp; done) | (simp; omega)) rfl (by first | (simp only [List.set_cons_zero, List.set_cons_succ, Nat.zero_add, Nat.reduceAdd]; rfl) | rfl) ?_ | refine o1_nilCheck rfl ?_ | refine ox_store_agg rfl rfl (by rfl) (by simp) (by simp [Value.oneCell']) (by simp only [putL, List.set_cons_zero, List.set_cons_succ, Nat.zero_add, Nat.reduceAdd]; rfl) ?_ | refine ox_load_agg rfl (by simp only [Nat.zero_add, Nat.reduceAdd, List.drop_zero, List.drop_succ_cons, List.take_succ_cons, List.take_zero]; rfl) (by rfl) ?_)
  have hL1 := hL.mono e6
  have hxz : xorV v1.l Zb = v1.l := by rw [← hZb]; exact xorV_zeros e2
  have hBD : Bs d1 = .slice d1.ad z d1.cap := by show Value.slice _ _ _ = _; rw [e3]
  have hcat : cat [d1] = d1.l := by simp [cat]
  have hx1 : (v1.l, d1.l) = x := e1
  refine st_ent (ent_nil2 78 (fV n) (fD z)) ?_
  refine st_loop (S := Nat × (Option Addr × Nat × List LnD) × Bool × (Hp → Prop)) (fun q => [(0, .pointer (some ⟨b, 0, none⟩)), (1, .slice v1.ad n v1.cap), (2, .slice d1.ad z d1.cap), (7, I a), (8, .slice q.2.1.1 q.2.1.2.2.length q.2.1.2.1), (9, .bool q.2.2.1), (37, .slice ad ls.length c), (38, I ls.length), (39, I q.1)])
    (fun q => [.row 78 2 (.slice q.2.1.1 q.2.1.2.2.length q.2.1.2.1) q.2.1.2.2.length (w2 (fV n) (fD z) q.2.1.2.2), .any q.2.2.2, rB b n z ad c ls.length, .any (stars H)])
    (fun q => q.1 ≤ ls.length ∧ (q.2.1.2.2.map lnV, q.2.2.1) = ((cmp M).take q.1).foldl (stepI a x) ([], false) ∧ (∀ y ∈ q.2.1.2.2, RdX q.2.2.2 n z y) ∧ Gr A1 q.2.2.2 ∧ q.2.1.2.2.length ≤ 2 * q.1) (fun q => ls.length - q.1) (0, (none, 0, []), false, A1) ⟨Nat.zero_le _, rfl, (fun y hy => by cases hy), Gr.refl A1, Nat.le_refl _⟩
    (cov_cons rfl rfl (cov_cons rfl rfl (cov_cons rfl rfl (cov_cons rfl rfl (cov_cons rfl rfl (cov_cons rfl rfl (cov_cons rfl rfl (cov_cons rfl rfl (cov_cons rfl rfl cov_nil))))))))) (by (try dsimp only [List.cons_append, List.nil_append, List.singleton_append, List.append_nil]); (repeat (first | exact Ent.nil | exact Ent.refl _ | (apply Ent.cons; (repeat (first | exact Sel.here | apply Sel.there)))))) ?_
  rintro ⟨i, ⟨ao, co, out⟩, put, A2⟩ ⟨hi, hfold, hel, hg, hol⟩
  dsimp only at hi hfold hel hg hol ⊢
  have hv1 := rs_gr e4 hg
  have hd1 := rs_gr e5 hg
  have hL2 := hL1.mono hg
  by_cases hlt : i < ls.length
  · obtain ⟨r, hr⟩ : ∃ r, ls[i] = r := ⟨_, rfl⟩
    have hri : ls[i]? = some r := by rw [List.getElem?_eq_getElem hlt, hr]
    have hrm : r ∈ ls := hr ▸ List.getElem_mem hlt
    have hr2 := hL2.r
    obtain ⟨hxv, hxd, q1, q2⟩ := hL2.x r hrm
    have hrc : lnV r ∈ cmp M := hM ▸ List.mem_map_of_mem hrm
    obtain ⟨_, _, f, hff, hfn⟩ := hok (lnV r) (List.mem_map_of_mem hrm)
    have hff : firstV r.v.l = f := hff
    have hfne : f ≠ a := fun e => cmp_ne hRR hfree hrc (by show firstV r.v.l = _; rw [hff, e])
    have htk : (cmp M).take (i + 1) = (cmp M).take i ++ [lnV r] := by
      rw [← hM, List.take_succ_eq_append_getElem (by rw [List.length_map]; exact hlt), List.getElem_map, hr]
    have hnx : ((cmp M).take (i + 1)).foldl (stepI a x) ([], false) = stepI a x (out.map lnV, put) (lnV r) := by
      rw [htk, List.foldl_append, ← hfold]
      rfl
    have hax : a < r.v.l.length := by omega
    have hat : at_ r.v.l a = r.v.l[a] := by show r.v.l.getD a false = _; rw [List.getD_eq_getElem?_getD, List.getElem?_eq_getElem hax]; rfl
    have hclr : clr1 a x (lnV r) = if at_ r.v.l a = true then (xorV r.v.l v1.l, xorL r.d.l d1.l) else lnV r := by
      rw [← hx1]
      rfl
    obtain ⟨X, hX⟩ : ∃ X, xorV r.v.l v1.l = X := ⟨_, rfl⟩
    obtain ⟨Y, hY⟩ : ∃ Y, xorL r.d.l d1.l = Y := ⟨_, rfl⟩
    have hXl : X.length = n := by rw [← hX, xorV_len (by omega)]; exact q1
    have hYl : Y.length = z := by rw [← hY, xorL_len _ _ (by omega)]; exact q2
    rw [hX, hY] at hclr
    have hone : ∀ s ∈ [d1], Rs A2 B s.ad s.cap s.l := fun s hs => by
      obtain rfl : s = d1 := by simpa using hs
      exact hd1
    have hbig : out.length ≤ 512 := by omega
    cases hb : r.v.l[a]
    · cases put
      · by_cases hcmp : a < f
        · skip
          repeat' (first | refine ls_of rfl ?_ | refine ls_of_no ?_ | refine ls_guard_yes rfl rfl ?_ | refine ls_guard_no rfl rfl rfl rfl ?_ | refine ls_guard_un rfl rfl rfl ?_ | refine o1_move rfl ?_ | refine o1_assign rfl ?_ | refine st_seq ?_ | refine st_region ?_ | refine st_block ?_ | refine st_skip ?_ | refine st_ret ?_ | refine st_exit ?_ | refine st_cond_t rfl ?_ | refine st_cond_f rfl ?_ | refine st_cond rfl (fun _ => ?_) (fun _ => ?_) | refine ls_nil ?_ | refine nx_seq ?_ | refine nx_blk ?_ | refine nx_fn ?_ | refine nx_rounds ?_ | refine xt_seq ?_ | refine xt_here ?_ | refine xt_on rfl ?_ | refine xt_rounds ?_ | refine xt_cut ?_ | refine rt_seq ?_ | refine rt_blk ?_ | refine rt_rounds ?_ | refine rt_cut ?_ | refine o1_iaw (f := fV n) (g := fD z) (ad := ad) (c := c) i rfl rfl hr2 rfl rfl hlt ?_ | refine o1_load_iaw (f := fV n) (g := fD z) (ad := ad) (c := c) i r rfl hr2 hri ?_ | refine o1_alloc rfl (fun b11 => ?_) | refine o1_call (fun _ => (r1_First _ r.v.ad n r.v.cap r.v.l (Rs.up hxv) q1.symm).vv (b := I f) (by rw [hff])) rfl (fun _ _ => ?_) | refine o1_gtr_t rfl rfl (by omega) ?_ | (refine o1_maker (enc := Bo) false n rfl rfl rfl rfl rfl (by omega) (by omega) (fun b58 => ?_); rw [hZb]) | (refine o1_call (fun hh => r1_Xor _ v1.ad (some ⟨b58, 0, none⟩) n v1.cap n n v1.l Zb (Rs.up hv1) (rx_box (T := 4) hZbl (by omega) hh) e2.symm hZbl.symm rfl hn) rfl (fun b59 _ => ?_); rw [hxz]) | refine o1_lit_enc (T := 39) Bs [d1] rfl rfl (by show _ = [Bs d1]; rw [hBD]; rfl) (fun _ => rfl) rfl rfl rfl (fun b61 => ?_) | (refine o1_call (fun hh => r1_Join _ (some ⟨b61, 0, none⟩) 1 [d1] (rx_box (T := 38) rfl (by show (1 : Nat) ≤ 9223372036854775807; decide) hh) (all_up hone) (by rw [hcat]; omega)) rfl (fun ⟨a62, c62⟩ _ => ?_); (try dsimp only); rw [hcat, e3]) | refine o1_lit_w (a := .slice (some ⟨b59, 0, none⟩) n n) (b := .slice a62 z c62) rfl rfl (fun b64 => ?_) | refine ox_append_w (f := fV n) (g := fD z) (xs := out) (y0 := (⟨⟨some ⟨b59, 0, none⟩, n, v1.l⟩, ⟨a62, c62, d1.l⟩⟩ : LnD)) (b := b64) rfl rfl rfl rfl rfl (by omega) (by omega) (fun a65 c65 => ?_) | refine o1_ia (ad := r.v.ad) (c := r.v.cap) a rfl rfl hxv q1.symm rfl hax ?_ | (refine o1_load_ia (ad := r.v.ad) (c := r.v.cap) a rfl hxv hax ?_; rw [hb]) | refine ox_load_agg (b := b11) rfl rfl rfl ?_ | refine o1_lit_w (a := .slice r.v.ad n r.v.cap) (b := .slice r.d.ad z r.d.cap) rfl rfl (fun b82 => ?_) | refine ox_append_w (f := fV n) (g := fD z) (xs := out ++ [(⟨⟨some ⟨b59, 0, none⟩, n, v1.l⟩, ⟨a62, c62, d1.l⟩⟩ : LnD)]) (y0 := r) (b := b82) rfl rfl rfl rfl rfl (by omega) (by omega) (fun a83 c83 => ?_) | refine o1_pick_t rfl rfl ?_ | refine o1_pick_f rfl rfl ?_ | refine o1_extract rfl rfl ?_ | refine o1_fieldAddr rfl ?_ | refine ox_load rfl (by rfl) ?_ | refine ox_load_enc rfl (by first | omega | (simp; omega)) ?_ | refine ox_load_any rfl (by assumption) ?_ | refine o1_len rfl ?_ | refine o1_add rfl rfl (by omega) ?_ | refine o1_lss_t rfl rfl (by omega) ?_ | refine o1_lss_f rfl rfl (by omega) ?_ | refine o1_lss rfl rfl (fun _ => ?_) (fun _ => ?_) | refine o1_gtr_t rfl rfl (by omega) ?_ | refine o1_gtr_f rfl rfl (by omega) ?_ | refine o1_gtr rfl rfl (fun _ => ?_) (fun _ => ?_) | refine o1_neq_t rfl rfl (by omega) ?_ | refine o1_neq_f rfl rfl (by omega) ?_ | refine o1_neq rfl rfl (fun _ => ?_) (fun _ => ?_) | refine o1_bnot rfl ?_ | refine o1_unot rfl ?_ | refine o1_maken (enc := B) 0#8 rfl rfl rfl rfl (by omega) (by omega) (by omega) (fun _ => ?_) | refine o1_lit_B rfl rfl rfl rfl rfl (fun _ => ?_) | refine o1_buildx rfl (by simp only [buildL, putL, List.set_cons_zero, List.set_cons_succ, List.getElem?_cons_zero, List.getElem?_cons_succ, Option.getD_some, Value.cells, Nat.zero_add, Nat.reduceAdd]; rfl) (fun _ => by kernel_rfl) ?_ | refine ox_append rfl rfl (rx_box rfl (by first | decide | omega)) rfl rfl (fun _ => rfl) (by omega) (by omega) (fun _ _ => ?_) | refine ox_append rfl rfl (rx_any (by assumption)) rfl rfl (fun _ => rfl) (by omega) (by omega) (fun _ _ => ?_) | refine ox_append rfl rfl rx_row rfl rfl (fun _ => rfl) (by omega) (by omega) (fun _ _ => ?_) | refine o1_alloc rfl (fun _ => ?_) | refine ox_store_enc B rfl rfl (by first | omega | (simp; done) | (simp; omega)) rfl ?_ | refine ox_stores rfl rfl (by first | omega | (simp; done) | (simp; omega)) rfl (by first | (simp only [List.set_cons_zero, List.set_cons_succ, Nat.zero_add, Nat.reduceAdd]; rfl) | rfl) ?_ | refine o1_nilCheck rfl ?_ | refine ox_store_agg rfl rfl (by rfl) (by simp) (by simp [Value.oneCell']) (by simp only [putL, List.set_cons_zero, List.set_cons_succ, Nat.zero_add, Nat.reduceAdd]; rfl) ?_ | refine ox_load_agg rfl (by simp only [Nat.zero_add, Nat.reduceAdd, List.drop_zero, List.drop_succ_cons, List.take_succ_cons, List.take_zero]; rfl) (by rfl) ?_)
          obtain ⟨u, hu⟩ : ∃ u : LnD, u = ⟨⟨some ⟨b59, 0, none⟩, n, v1.l⟩, ⟨a62, c62, d1.l⟩⟩ := ⟨_, rfl⟩
          rw [← hu]
          refine nx_pack [.box b59 4 (v1.l.map Bo), .row 5 1 (.slice a62 z c62) z (d1.l.map B), .any A2] [.row 78 2 (.slice a83 (out.length + 1 + 1) c83) (out.length + 1 + 1) (w2 (fV n) (fD z) ((out ++ [u]) ++ [r])), rB b n z ad c ls.length, .any (stars H)] (by (try dsimp only [List.cons_append, List.nil_append, List.singleton_append, List.append_nil]); (repeat (first | exact Ent.nil | exact Ent.refl _ | (apply Ent.cons; (repeat (first | exact Sel.here | apply Sel.there)))))) ?_
          refine nx_has (fun hh => ?_)
          have hA := has_any hh
          have g2 := rx_box (b := b59) (T := 4) (enc := Bo) e2 (by omega) hA
          have g3 := rx_row (ad := a62) (c := c62) (l := d1.l) (enc := B) hA
          obtain ⟨A3, hA3⟩ : ∃ A3, stars [.box b59 4 (v1.l.map Bo), .row 5 1 (.slice a62 z c62) z (d1.l.map B), .any A2] = A3 := ⟨_, rfl⟩
          have hg3 : Gr A2 A3 := by rw [← hA3]; exact Gr.of
          rw [hA3] at g2 g3 ⊢
          refine nx_again (i + 1, (a83, c83, (out ++ [u]) ++ [r]), true, A3) ⟨?_, ?_, ?_, hg.trans hg3, ?_⟩ ?_ (cov_cons rfl rfl (cov_cons rfl rfl (cov_cons rfl rfl (cov_cons rfl rfl (cov_cons rfl ?_ (cov_cons rfl rfl (cov_cons rfl rfl (cov_cons rfl rfl (cov_cons rfl rfl cov_nil))))))))) ?_
          · show i + 1 ≤ ls.length; omega
          · show (((out ++ [u]) ++ [r]).map lnV, true) = ((cmp M).take (i + 1)).foldl (stepI a x) ([], false)
            rw [hnx]
            unfold stepI
            rw [if_pos ⟨rfl, by show (a : Int) < firstV r.v.l; rw [hff]; omega⟩, hclr, hat, hb]
            rw [List.map_append, List.map_append, hu]
            rw [← hx1]
            rfl
          · intro y hy
            rcases List.mem_append.1 hy with q | q
            · rcases List.mem_append.1 q with q | q
              · exact (hel y q).mono hg3
              · obtain rfl : y = u := by simpa using q
                rw [hu]
                exact ⟨g2, g3, e2, e3⟩
            · obtain rfl : y = r := by simpa using q
              exact (hL2.x y hrm).mono hg3
          · show ((out ++ [u]) ++ [r]).length ≤ 2 * (i + 1)
            simp only [List.length_append, List.length_singleton]
            omega
          · show ls.length - (i + 1) < ls.length - i; omega
          · show Value.slice a83 _ c83 = Value.slice a83 ((out ++ [u]) ++ [r]).length c83
            simp only [List.length_append, List.length_singleton]
          show Ent _ [.row 78 2 (.slice a83 ((out ++ [u]) ++ [r]).length c83) ((out ++ [u]) ++ [r]).length (w2 (fV n) (fD z) ((out ++ [u]) ++ [r])), .any A3, rB b n z ad c ls.length, .any (stars H)]
          simp only [List.length_append, List.length_singleton]
          (try dsimp only [List.cons_append, List.nil_append, List.singleton_append, List.append_nil]); (repeat (first | exact Ent.nil | exact Ent.refl _ | (apply Ent.cons; (repeat (first | exact Sel.here | apply Sel.there)))))
        · skip
          repeat' (first | refine ls_of rfl ?_ | refine ls_of_no ?_ | refine ls_guard_yes rfl rfl ?_ | refine ls_guard_no rfl rfl rfl rfl ?_ | refine ls_guard_un rfl rfl rfl ?_ | refine o1_move rfl ?_ | refine o1_assign rfl ?_ | refine st_seq ?_ | refine st_region ?_ | refine st_block ?_ | refine st_skip ?_ | refine st_ret ?_ | refine st_exit ?_ | refine st_cond_t rfl ?_ | refine st_cond_f rfl ?_ | refine st_cond rfl (fun _ => ?_) (fun _ => ?_) | refine ls_nil ?_ | refine nx_seq ?_ | refine nx_blk ?_ | refine nx_fn ?_ | refine nx_rounds ?_ | refine xt_seq ?_ | refine xt_here ?_ | refine xt_on rfl ?_ | refine xt_rounds ?_ | refine xt_cut ?_ | refine rt_seq ?_ | refine rt_blk ?_ | refine rt_rounds ?_ | refine rt_cut ?_ | refine o1_iaw (f := fV n) (g := fD z) (ad := ad) (c := c) i rfl rfl hr2 rfl rfl hlt ?_ | refine o1_load_iaw (f := fV n) (g := fD z) (ad := ad) (c := c) i r rfl hr2 hri ?_ | refine o1_alloc rfl (fun b11 => ?_) | refine o1_call (fun _ => (r1_First _ r.v.ad n r.v.cap r.v.l (Rs.up hxv) q1.symm).vv (b := I f) (by rw [hff])) rfl (fun _ _ => ?_) | refine o1_gtr_f rfl rfl (by omega) ?_ | refine o1_ia (ad := r.v.ad) (c := r.v.cap) a rfl rfl hxv q1.symm rfl hax ?_ | (refine o1_load_ia (ad := r.v.ad) (c := r.v.cap) a rfl hxv hax ?_; rw [hb]) | refine ox_load_agg (b := b11) rfl rfl rfl ?_ | refine o1_lit_w (a := .slice r.v.ad n r.v.cap) (b := .slice r.d.ad z r.d.cap) rfl rfl (fun b82 => ?_) | refine ox_append_w (f := fV n) (g := fD z) (xs := out) (y0 := r) (b := b82) rfl rfl rfl rfl rfl (by omega) (by omega) (fun a83 c83 => ?_) | refine o1_pick_t rfl rfl ?_ | refine o1_pick_f rfl rfl ?_ | refine o1_extract rfl rfl ?_ | refine o1_fieldAddr rfl ?_ | refine ox_load rfl (by rfl) ?_ | refine ox_load_enc rfl (by first | omega | (simp; omega)) ?_ | refine ox_load_any rfl (by assumption) ?_ | refine o1_len rfl ?_ | refine o1_add rfl rfl (by omega) ?_ | refine o1_lss_t rfl rfl (by omega) ?_ | refine o1_lss_f rfl rfl (by omega) ?_ | refine o1_lss rfl rfl (fun _ => ?_) (fun _ => ?_) | refine o1_gtr_t rfl rfl (by omega) ?_ | refine o1_gtr_f rfl rfl (by omega) ?_ | refine o1_gtr rfl rfl (fun _ => ?_) (fun _ => ?_) | refine o1_neq_t rfl rfl (by omega) ?_ | refine o1_neq_f rfl rfl (by omega) ?_ | refine o1_neq rfl rfl (fun _ => ?_) (fun _ => ?_) | refine o1_bnot rfl ?_ | refine o1_unot rfl ?_ | refine o1_maken (enc := B) 0#8 rfl rfl rfl rfl (by omega) (by omega) (by omega) (fun _ => ?_) | refine o1_lit_B rfl rfl rfl rfl rfl (fun _ => ?_) | refine o1_buildx rfl (by simp only [buildL, putL, List.set_cons_zero, List.set_cons_succ, List.getElem?_cons_zero, List.getElem?_cons_succ, Option.getD_some, Value.cells, Nat.zero_add, Nat.reduceAdd]; rfl) (fun _ => by kernel_rfl) ?_ | refine ox_append rfl rfl (rx_box rfl (by first | decide | omega)) rfl rfl (fun _ => rfl) (by omega) (by omega) (fun _ _ => ?_) | refine ox_append rfl rfl (rx_any (by assumption)) rfl rfl (fun _ => rfl) (by omega) (by omega) (fun _ _ => ?_) | refine ox_append rfl rfl rx_row rfl rfl (fun _ => rfl) (by omega) (by omega) (fun _ _ => ?_) | refine o1_alloc rfl (fun _ => ?_) | refine ox_store_enc B rfl rfl (by first | omega | (simp; done) | (simp; omega)) rfl ?_ | refine ox_stores rfl rfl (by first | omega | (simp; done) | (simp; omega)) rfl (by first | (simp only [List.set_cons_zero, List.set_cons_succ, Nat.zero_add, Nat.reduceAdd]; rfl) | rfl) ?_ | refine o1_nilCheck rfl ?_ | refine ox_store_agg rfl rfl (by rfl) (by simp) (by simp [Value.oneCell']) (by simp only [putL, List.set_cons_zero, List.set_cons_succ, Nat.zero_add, Nat.reduceAdd]; rfl) ?_ | refine ox_load_agg rfl (by simp only [Nat.zero_add, Nat.reduceAdd, List.drop_zero, List.drop_succ_cons, List.take_succ_cons, List.take_zero]; rfl) (by rfl) ?_)
          have hg3 := Gr.refl A2
          refine nx_again (i + 1, (a83, c83, out ++ [r]), false, A2) ⟨?_, ?_, ?_, hg.trans hg3, ?_⟩ ?_ (cov_cons rfl rfl (cov_cons rfl rfl (cov_cons rfl rfl (cov_cons rfl rfl (cov_cons rfl ?_ (cov_cons rfl rfl (cov_cons rfl rfl (cov_cons rfl rfl (cov_cons rfl rfl cov_nil))))))))) ?_
          · show i + 1 ≤ ls.length; omega
          · show ((out ++ [r]).map lnV, false) = ((cmp M).take (i + 1)).foldl (stepI a x) ([], false)
            rw [hnx]
            unfold stepI
            rw [if_neg (by rintro ⟨q, q3⟩; have q3 : (a : Int) < firstV r.v.l := q3; rw [hff] at q3; omega), hclr, hat, hb]
            rw [List.map_append]
            rfl
          · intro y hy
            rcases List.mem_append.1 hy with q | q
            · exact (hel y q).mono hg3
            · obtain rfl : y = r := by simpa using q
              exact (hL2.x y hrm).mono hg3
          · show (out ++ [r]).length ≤ 2 * (i + 1)
            simp only [List.length_append, List.length_singleton]
            omega
          · show ls.length - (i + 1) < ls.length - i; omega
          · show Value.slice a83 _ c83 = Value.slice a83 (out ++ [r]).length c83
            simp only [List.length_append, List.length_singleton]
          show Ent _ [.row 78 2 (.slice a83 (out ++ [r]).length c83) (out ++ [r]).length (w2 (fV n) (fD z) (out ++ [r])), .any A2, rB b n z ad c ls.length, .any (stars H)]
          simp only [List.length_append, List.length_singleton]
          (try dsimp only [List.cons_append, List.nil_append, List.singleton_append, List.append_nil]); (repeat (first | exact Ent.nil | exact Ent.refl _ | (apply Ent.cons; (repeat (first | exact Sel.here | apply Sel.there)))))
      · skip
        repeat' (first | refine ls_of rfl ?_ | refine ls_of_no ?_ | refine ls_guard_yes rfl rfl ?_ | refine ls_guard_no rfl rfl rfl rfl ?_ | refine ls_guard_un rfl rfl rfl ?_ | refine o1_move rfl ?_ | refine o1_assign rfl ?_ | refine st_seq ?_ | refine st_region ?_ | refine st_block ?_ | refine st_skip ?_ | refine st_ret ?_ | refine st_exit ?_ | refine st_cond_t rfl ?_ | refine st_cond_f rfl ?_ | refine st_cond rfl (fun _ => ?_) (fun _ => ?_) | refine ls_nil ?_ | refine nx_seq ?_ | refine nx_blk ?_ | refine nx_fn ?_ | refine nx_rounds ?_ | refine xt_seq ?_ | refine xt_here ?_ | refine xt_on rfl ?_ | refine xt_rounds ?_ | refine xt_cut ?_ | refine rt_seq ?_ | refine rt_blk ?_ | refine rt_rounds ?_ | refine rt_cut ?_ | refine o1_iaw (f := fV n) (g := fD z) (ad := ad) (c := c) i rfl rfl hr2 rfl rfl hlt ?_ | refine o1_load_iaw (f := fV n) (g := fD z) (ad := ad) (c := c) i r rfl hr2 hri ?_ | refine o1_alloc rfl (fun b11 => ?_) | refine o1_ia (ad := r.v.ad) (c := r.v.cap) a rfl rfl hxv q1.symm rfl hax ?_ | (refine o1_load_ia (ad := r.v.ad) (c := r.v.cap) a rfl hxv hax ?_; rw [hb]) | refine ox_load_agg (b := b11) rfl rfl rfl ?_ | refine o1_lit_w (a := .slice r.v.ad n r.v.cap) (b := .slice r.d.ad z r.d.cap) rfl rfl (fun b82 => ?_) | refine ox_append_w (f := fV n) (g := fD z) (xs := out) (y0 := r) (b := b82) rfl rfl rfl rfl rfl (by omega) (by omega) (fun a83 c83 => ?_) | refine o1_pick_t rfl rfl ?_ | refine o1_pick_f rfl rfl ?_ | refine o1_extract rfl rfl ?_ | refine o1_fieldAddr rfl ?_ | refine ox_load rfl (by rfl) ?_ | refine ox_load_enc rfl (by first | omega | (simp; omega)) ?_ | refine ox_load_any rfl (by assumption) ?_ | refine o1_len rfl ?_ | refine o1_add rfl rfl (by omega) ?_ | refine o1_lss_t rfl rfl (by omega) ?_ | refine o1_lss_f rfl rfl (by omega) ?_ | refine o1_lss rfl rfl (fun _ => ?_) (fun _ => ?_) | refine o1_gtr_t rfl rfl (by omega) ?_ | refine o1_gtr_f rfl rfl (by omega) ?_ | refine o1_gtr rfl rfl (fun _ => ?_) (fun _ => ?_) | refine o1_neq_t rfl rfl (by omega) ?_ | refine o1_neq_f rfl rfl (by omega) ?_ | refine o1_neq rfl rfl (fun _ => ?_) (fun _ => ?_) | refine o1_bnot rfl ?_ | refine o1_unot rfl ?_ | refine o1_maken (enc := B) 0#8 rfl rfl rfl rfl (by omega) (by omega) (by omega) (fun _ => ?_) | refine o1_lit_B rfl rfl rfl rfl rfl (fun _ => ?_) | refine o1_buildx rfl (by simp only [buildL, putL, List.set_cons_zero, List.set_cons_succ, List.getElem?_cons_zero, List.getElem?_cons_succ, Option.getD_some, Value.cells, Nat.zero_add, Nat.reduceAdd]; rfl) (fun _ => by kernel_rfl) ?_ | refine ox_append rfl rfl (rx_box rfl (by first | decide | omega)) rfl rfl (fun _ => rfl) (by omega) (by omega) (fun _ _ => ?_) | refine ox_append rfl rfl (rx_any (by assumption)) rfl rfl (fun _ => rfl) (by omega) (by omega) (fun _ _ => ?_) | refine ox_append rfl rfl rx_row rfl rfl (fun _ => rfl) (by omega) (by omega) (fun _ _ => ?_) | refine o1_alloc rfl (fun _ => ?_) | refine ox_store_enc B rfl rfl (by first | omega | (simp; done) | (simp; omega)) rfl ?_ | refine ox_stores rfl rfl (by first | omega | (simp; done) | (simp; omega)) rfl (by first | (simp only [List.set_cons_zero, List.set_cons_succ, Nat.zero_add, Nat.reduceAdd]; rfl) | rfl) ?_ | refine o1_nilCheck rfl ?_ | refine ox_store_agg rfl rfl (by rfl) (by simp) (by simp [Value.oneCell']) (by simp only [putL, List.set_cons_zero, List.set_cons_succ, Nat.zero_add, Nat.reduceAdd]; rfl) ?_ | refine ox_load_agg rfl (by simp only [Nat.zero_add, Nat.reduceAdd, List.drop_zero, List.drop_succ_cons, List.take_succ_cons, List.take_zero]; rfl) (by rfl) ?_)
        have hg3 := Gr.refl A2
        refine nx_again (i + 1, (a83, c83, out ++ [r]), true, A2) ⟨?_, ?_, ?_, hg.trans hg3, ?_⟩ ?_ (cov_cons rfl rfl (cov_cons rfl rfl (cov_cons rfl rfl (cov_cons rfl rfl (cov_cons rfl ?_ (cov_cons rfl rfl (cov_cons rfl rfl (cov_cons rfl rfl (cov_cons rfl rfl cov_nil))))))))) ?_
        · show i + 1 ≤ ls.length; omega
        · show ((out ++ [r]).map lnV, true) = ((cmp M).take (i + 1)).foldl (stepI a x) ([], false)
          rw [hnx]
          unfold stepI
          rw [if_neg (by rintro ⟨q, q3⟩; cases q), hclr, hat, hb]
          rw [List.map_append]
          rfl
        · intro y hy
          rcases List.mem_append.1 hy with q | q
          · exact (hel y q).mono hg3
          · obtain rfl : y = r := by simpa using q
            exact (hL2.x y hrm).mono hg3
        · show (out ++ [r]).length ≤ 2 * (i + 1)
          simp only [List.length_append, List.length_singleton]
          omega
        · show ls.length - (i + 1) < ls.length - i; omega
        · show Value.slice a83 _ c83 = Value.slice a83 (out ++ [r]).length c83
          simp only [List.length_append, List.length_singleton]
        show Ent _ [.row 78 2 (.slice a83 (out ++ [r]).length c83) (out ++ [r]).length (w2 (fV n) (fD z) (out ++ [r])), .any A2, rB b n z ad c ls.length, .any (stars H)]
        simp only [List.length_append, List.length_singleton]
        (try dsimp only [List.cons_append, List.nil_append, List.singleton_append, List.append_nil]); (repeat (first | exact Ent.nil | exact Ent.refl _ | (apply Ent.cons; (repeat (first | exact Sel.here | apply Sel.there)))))
    · cases put
      · by_cases hcmp : a < f
        · skip
          repeat' (first | refine ls_of rfl ?_ | refine ls_of_no ?_ | refine ls_guard_yes rfl rfl ?_ | refine ls_guard_no rfl rfl rfl rfl ?_ | refine ls_guard_un rfl rfl rfl ?_ | refine o1_move rfl ?_ | refine o1_assign rfl ?_ | refine st_seq ?_ | refine st_region ?_ | refine st_block ?_ | refine st_skip ?_ | refine st_ret ?_ | refine st_exit ?_ | refine st_cond_t rfl ?_ | refine st_cond_f rfl ?_ | refine st_cond rfl (fun _ => ?_) (fun _ => ?_) | refine ls_nil ?_ | refine nx_seq ?_ | refine nx_blk ?_ | refine nx_fn ?_ | refine nx_rounds ?_ | refine xt_seq ?_ | refine xt_here ?_ | refine xt_on rfl ?_ | refine xt_rounds ?_ | refine xt_cut ?_ | refine rt_seq ?_ | refine rt_blk ?_ | refine rt_rounds ?_ | refine rt_cut ?_ | refine o1_iaw (f := fV n) (g := fD z) (ad := ad) (c := c) i rfl rfl hr2 rfl rfl hlt ?_ | refine o1_load_iaw (f := fV n) (g := fD z) (ad := ad) (c := c) i r rfl hr2 hri ?_ | refine o1_alloc rfl (fun b11 => ?_) | refine o1_call (fun _ => (r1_First _ r.v.ad n r.v.cap r.v.l (Rs.up hxv) q1.symm).vv (b := I f) (by rw [hff])) rfl (fun _ _ => ?_) | refine o1_gtr_t rfl rfl (by omega) ?_ | (refine o1_maker (enc := Bo) false n rfl rfl rfl rfl rfl (by omega) (by omega) (fun b58 => ?_); rw [hZb]) | (refine o1_call (fun hh => r1_Xor _ v1.ad (some ⟨b58, 0, none⟩) n v1.cap n n v1.l Zb (Rs.up hv1) (rx_box (T := 4) hZbl (by omega) hh) e2.symm hZbl.symm rfl hn) rfl (fun b59 _ => ?_); rw [hxz]) | refine o1_lit_enc (T := 39) Bs [d1] rfl rfl (by show _ = [Bs d1]; rw [hBD]; rfl) (fun _ => rfl) rfl rfl rfl (fun b61 => ?_) | (refine o1_call (fun hh => r1_Join _ (some ⟨b61, 0, none⟩) 1 [d1] (rx_box (T := 38) rfl (by show (1 : Nat) ≤ 9223372036854775807; decide) hh) (all_up hone) (by rw [hcat]; omega)) rfl (fun ⟨a62, c62⟩ _ => ?_); (try dsimp only); rw [hcat, e3]) | refine o1_lit_w (a := .slice (some ⟨b59, 0, none⟩) n n) (b := .slice a62 z c62) rfl rfl (fun b64 => ?_) | refine ox_append_w (f := fV n) (g := fD z) (xs := out) (y0 := (⟨⟨some ⟨b59, 0, none⟩, n, v1.l⟩, ⟨a62, c62, d1.l⟩⟩ : LnD)) (b := b64) rfl rfl rfl rfl rfl (by omega) (by omega) (fun a65 c65 => ?_) | refine o1_ia (ad := r.v.ad) (c := r.v.cap) a rfl rfl hxv q1.symm rfl hax ?_ | (refine o1_load_ia (ad := r.v.ad) (c := r.v.cap) a rfl hxv hax ?_; rw [hb]) | refine o1_pick_t rfl rfl ?_ | refine o1_pick_f rfl rfl ?_ | refine o1_extract rfl rfl ?_ | refine o1_fieldAddr rfl ?_ | refine ox_load rfl (by rfl) ?_ | refine ox_load_enc rfl (by first | omega | (simp; omega)) ?_ | refine ox_load_any rfl (by assumption) ?_ | refine o1_len rfl ?_ | refine o1_add rfl rfl (by omega) ?_ | refine o1_lss_t rfl rfl (by omega) ?_ | refine o1_lss_f rfl rfl (by omega) ?_ | refine o1_lss rfl rfl (fun _ => ?_) (fun _ => ?_) | refine o1_gtr_t rfl rfl (by omega) ?_ | refine o1_gtr_f rfl rfl (by omega) ?_ | refine o1_gtr rfl rfl (fun _ => ?_) (fun _ => ?_) | refine o1_neq_t rfl rfl (by omega) ?_ | refine o1_neq_f rfl rfl (by omega) ?_ | refine o1_neq rfl rfl (fun _ => ?_) (fun _ => ?_) | refine o1_bnot rfl ?_ | refine o1_unot rfl ?_ | refine o1_maken (enc := B) 0#8 rfl rfl rfl rfl (by omega) (by omega) (by omega) (fun _ => ?_) | refine o1_lit_B rfl rfl rfl rfl rfl (fun _ => ?_) | refine o1_buildx rfl (by simp only [buildL, putL, List.set_cons_zero, List.set_cons_succ, List.getElem?_cons_zero, List.getElem?_cons_succ, Option.getD_some, Value.cells, Nat.zero_add, Nat.reduceAdd]; rfl) (fun _ => by kernel_rfl) ?_ | refine ox_append rfl rfl (rx_box rfl (by first | decide | omega)) rfl rfl (fun _ => rfl) (by omega) (by omega) (fun _ _ => ?_) | refine ox_append rfl rfl (rx_any (by assumption)) rfl rfl (fun _ => rfl) (by omega) (by omega) (fun _ _ => ?_) | refine ox_append rfl rfl rx_row rfl rfl (fun _ => rfl) (by omega) (by omega) (fun _ _ => ?_) | refine o1_alloc rfl (fun _ => ?_) | refine ox_store_enc B rfl rfl (by first | omega | (simp; done) | (simp; omega)) rfl ?_ | refine ox_stores rfl rfl (by first | omega | (simp; done) | (simp; omega)) rfl (by first | (simp only [List.set_cons_zero, List.set_cons_succ, Nat.zero_add, Nat.reduceAdd]; rfl) | rfl) ?_ | refine o1_nilCheck rfl ?_ | refine ox_store_agg rfl rfl (by rfl) (by simp) (by simp [Value.oneCell']) (by simp only [putL, List.set_cons_zero, List.set_cons_succ, Nat.zero_add, Nat.reduceAdd]; rfl) ?_ | refine ox_load_agg rfl (by simp only [Nat.zero_add, Nat.reduceAdd, List.drop_zero, List.drop_succ_cons, List.take_succ_cons, List.take_zero]; rfl) (by rfl) ?_)
          refine st_stages [(11, _), (1, _), (2, _)] rtY3_0 [3, 7, 9] [⟨[0, 1, 2, 4, 5, 6], [], some 3⟩, ⟨[], [4, 5, 6], some 7⟩, ⟨[8], [], some 9⟩, ⟨[], [], none⟩] mixed (cov_cons rfl rfl (cov_cons rfl rfl (cov_cons rfl rfl cov_nil))) (by kernel_rfl) (by kernel_rfl) ?_
          all_goals refine wk_ch ?_
          all_goals (refine xp1 11 rfl rfl rfl rfl (by refine o1_fieldAddr rfl fz) ?_)
          all_goals (refine xp1 71 rfl rfl rfl rfl (by first | refine ox_load (b := b11) rfl rfl fz | refine ox_load rfl (by rfl) fz | refine ox_load_enc rfl (by first | omega | (simp; omega)) fz | refine ox_load_any rfl (by assumption) fz) ?_)
          all_goals (refine xp1 1 rfl rfl rfl rfl (by refine o1_move rfl fz) ?_)
          all_goals (refine xp1 11 rfl rfl rfl rfl (by refine o1_fieldAddr rfl fz) ?_)
          all_goals (refine xp1 75 rfl rfl rfl rfl (by first | refine ox_load (b := b11) rfl rfl fz | refine ox_load rfl (by rfl) fz | refine ox_load_enc rfl (by first | omega | (simp; omega)) fz | refine ox_load_any rfl (by assumption) fz) ?_)
          all_goals (refine xp1 2 rfl rfl rfl rfl (by refine o1_move rfl fz) ?_)
          all_goals refine op_nil ?_
          all_goals refine re_nil ?_
          all_goals first | (refine ch_run (E' := [(72, _), (73, _)]) rfl (gd_r0 rfl) rfl (cov_cons rfl rfl (cov_cons rfl rfl cov_nil)) ?_; (first | (refine o1_call (fun _ => r1_Xor _ r.v.ad v1.ad n r.v.cap n v1.cap r.v.l v1.l (Rs.up hxv) (Rs.up hv1) q1.symm e2.symm rfl hn) rfl (fun b74 _ => ?_); rw [hX])))
          all_goals refine wk_ch ?_
          all_goals refine op_nil ?_
          all_goals (refine xq1 11 rfl rfl rfl rfl rfl (by refine o1_fieldAddr rfl fz) ?_)
          all_goals (refine xq1 75 rfl rfl rfl rfl rfl (by first | refine ox_load (b := b11) rfl rfl fz | refine ox_load rfl (by rfl) fz | refine ox_load_enc rfl (by first | omega | (simp; omega)) fz | refine ox_load_any rfl (by assumption) fz) ?_)
          all_goals (refine xq1 2 rfl rfl rfl rfl rfl (by refine o1_move rfl fz) ?_)
          all_goals refine re_nil ?_
          all_goals first | (refine ch_run (E' := [(76, _), (77, _)]) rfl (gd_r0 rfl) rfl (cov_cons rfl rfl (cov_cons rfl rfl cov_nil)) ?_; (first | (refine o1_call (fun _ => r1_XorB _ r.d.ad d1.ad z r.d.cap z d1.cap r.d.l d1.l (Rs.up hxd) (Rs.up hd1) q2.symm e3.symm rfl (by omega)) rfl (fun b78 _ => ?_); rw [hY])))
          all_goals refine wk_ch ?_
          all_goals (refine xp2 74 78 rfl rfl rfl rfl rfl (by (refine o1_buildx rfl (by simp only [buildL, putL, List.set_cons_zero, List.set_cons_succ, List.getElem?_cons_zero, List.getElem?_cons_succ, Option.getD_some, Value.cells, Nat.zero_add, Nat.reduceAdd]; rfl) (fun _ => by kernel_rfl) ?_; all_goals exact fz)) ?_)
          all_goals refine op_nil ?_
          all_goals refine re_nil ?_
          all_goals first | (refine ch_run_no (E' := [(11, _), (79, _)]) rfl (gd_r0 rfl) rfl (cov_cons rfl rfl (cov_cons rfl rfl cov_nil)) ?_; (first | (refine ox_store_agg (b := b11) rfl rfl rfl (Nat.le_refl 2) (one2 rfl rfl) rfl ?_) | refine ox_store_agg rfl rfl (by rfl) (by simp) (by simp [Value.oneCell']) (by simp only [putL, List.set_cons_zero, List.set_cons_succ, Nat.zero_add, Nat.reduceAdd]; rfl) ?_))
          all_goals refine wk_end ?_
          all_goals refine op_nil ?_
          all_goals refine re_nil ?_
          all_goals dsimp only [List.cons_append, List.nil_append]
          repeat' (first | refine ls_of rfl ?_ | refine ls_of_no ?_ | refine ls_guard_yes rfl rfl ?_ | refine ls_guard_no rfl rfl rfl rfl ?_ | refine ls_guard_un rfl rfl rfl ?_ | refine o1_move rfl ?_ | refine o1_assign rfl ?_ | refine st_seq ?_ | refine st_region ?_ | refine st_block ?_ | refine st_skip ?_ | refine st_ret ?_ | refine st_exit ?_ | refine st_cond_t rfl ?_ | refine st_cond_f rfl ?_ | refine st_cond rfl (fun _ => ?_) (fun _ => ?_) | refine ls_nil ?_ | refine nx_seq ?_ | refine nx_blk ?_ | refine nx_fn ?_ | refine nx_rounds ?_ | refine xt_seq ?_ | refine xt_here ?_ | refine xt_on rfl ?_ | refine xt_rounds ?_ | refine xt_cut ?_ | refine rt_seq ?_ | refine rt_blk ?_ | refine rt_rounds ?_ | refine rt_cut ?_ | refine ox_load_agg (b := b11) rfl rfl rfl ?_ | refine o1_lit_w (a := .slice (some ⟨b74, 0, none⟩) n n) (b := .slice (some ⟨b78, 0, none⟩) z z) rfl rfl (fun b82 => ?_) | refine ox_append_w (f := fV n) (g := fD z) (xs := out ++ [(⟨⟨some ⟨b59, 0, none⟩, n, v1.l⟩, ⟨a62, c62, d1.l⟩⟩ : LnD)]) (y0 := (⟨⟨some ⟨b74, 0, none⟩, n, X⟩, ⟨some ⟨b78, 0, none⟩, z, Y⟩⟩ : LnD)) (b := b82) rfl rfl rfl rfl rfl (by omega) (by omega) (fun a83 c83 => ?_) | refine o1_pick_t rfl rfl ?_ | refine o1_pick_f rfl rfl ?_ | refine o1_extract rfl rfl ?_ | refine o1_fieldAddr rfl ?_ | refine ox_load rfl (by rfl) ?_ | refine ox_load_enc rfl (by first | omega | (simp; omega)) ?_ | refine ox_load_any rfl (by assumption) ?_ | refine o1_len rfl ?_ | refine o1_add rfl rfl (by omega) ?_ | refine o1_lss_t rfl rfl (by omega) ?_ | refine o1_lss_f rfl rfl (by omega) ?_ | refine o1_lss rfl rfl (fun _ => ?_) (fun _ => ?_) | refine o1_gtr_t rfl rfl (by omega) ?_ | refine o1_gtr_f rfl rfl (by omega) ?_ | refine o1_gtr rfl rfl (fun _ => ?_) (fun _ => ?_) | refine o1_neq_t rfl rfl (by omega) ?_ | refine o1_neq_f rfl rfl (by omega) ?_ | refine o1_neq rfl rfl (fun _ => ?_) (fun _ => ?_) | refine o1_bnot rfl ?_ | refine o1_unot rfl ?_ | refine o1_maken (enc := B) 0#8 rfl rfl rfl rfl (by omega) (by omega) (by omega) (fun _ => ?_) | refine o1_lit_B rfl rfl rfl rfl rfl (fun _ => ?_) | refine o1_buildx rfl (by simp only [buildL, putL, List.set_cons_zero, List.set_cons_succ, List.getElem?_cons_zero, List.getElem?_cons_succ, Option.getD_some, Value.cells, Nat.zero_add, Nat.reduceAdd]; rfl) (fun _ => by kernel_rfl) ?_ | refine ox_append rfl rfl (rx_box rfl (by first | decide | omega)) rfl rfl (fun _ => rfl) (by omega) (by omega) (fun _ _ => ?_) | refine ox_append rfl rfl (rx_any (by assumption)) rfl rfl (fun _ => rfl) (by omega) (by omega) (fun _ _ => ?_) | refine ox_append rfl rfl rx_row rfl rfl (fun _ => rfl) (by omega) (by omega) (fun _ _ => ?_) | refine o1_alloc rfl (fun _ => ?_) | refine ox_store_enc B rfl rfl (by first | omega | (simp; done) | (simp; omega)) rfl ?_ | refine ox_stores rfl rfl (by first | omega | (simp; done) | (simp; omega)) rfl (by first | (simp only [List.set_cons_zero, List.set_cons_succ, Nat.zero_add, Nat.reduceAdd]; rfl) | rfl) ?_ | refine o1_nilCheck rfl ?_ | refine ox_store_agg rfl rfl (by rfl) (by simp) (by simp [Value.oneCell']) (by simp only [putL, List.set_cons_zero, List.set_cons_succ, Nat.zero_add, Nat.reduceAdd]; rfl) ?_ | refine ox_load_agg rfl (by simp only [Nat.zero_add, Nat.reduceAdd, List.drop_zero, List.drop_succ_cons, List.take_succ_cons, List.take_zero]; rfl) (by rfl) ?_)
          obtain ⟨u, hu⟩ : ∃ u : LnD, u = ⟨⟨some ⟨b59, 0, none⟩, n, v1.l⟩, ⟨a62, c62, d1.l⟩⟩ := ⟨_, rfl⟩
          rw [← hu]
          obtain ⟨w, hw⟩ : ∃ w : LnD, w = ⟨⟨some ⟨b74, 0, none⟩, n, X⟩, ⟨some ⟨b78, 0, none⟩, z, Y⟩⟩ := ⟨_, rfl⟩
          rw [← hw]
          refine nx_pack [.box b59 4 (v1.l.map Bo), .row 5 1 (.slice a62 z c62) z (d1.l.map B), .box b74 4 (X.map Bo), .box b78 5 (Y.map B), .any A2] [.row 78 2 (.slice a83 (out.length + 1 + 1) c83) (out.length + 1 + 1) (w2 (fV n) (fD z) ((out ++ [u]) ++ [w])), rB b n z ad c ls.length, .any (stars H)] (by (try dsimp only [List.cons_append, List.nil_append, List.singleton_append, List.append_nil]); (repeat (first | exact Ent.nil | exact Ent.refl _ | (apply Ent.cons; (repeat (first | exact Sel.here | apply Sel.there)))))) ?_
          refine nx_has (fun hh => ?_)
          have hA := has_any hh
          have g2 := rx_box (b := b59) (T := 4) (enc := Bo) e2 (by omega) hA
          have g3 := rx_row (ad := a62) (c := c62) (l := d1.l) (enc := B) hA
          have g4 := rx_box (b := b74) (T := 4) (enc := Bo) hXl (by omega) hA
          have g5 := rx_box (b := b78) (T := 5) (enc := B) hYl (by omega) hA
          obtain ⟨A3, hA3⟩ : ∃ A3, stars [.box b59 4 (v1.l.map Bo), .row 5 1 (.slice a62 z c62) z (d1.l.map B), .box b74 4 (X.map Bo), .box b78 5 (Y.map B), .any A2] = A3 := ⟨_, rfl⟩
          have hg3 : Gr A2 A3 := by rw [← hA3]; exact Gr.of
          rw [hA3] at g2 g3 g4 g5 ⊢
          refine nx_again (i + 1, (a83, c83, (out ++ [u]) ++ [w]), true, A3) ⟨?_, ?_, ?_, hg.trans hg3, ?_⟩ ?_ (cov_cons rfl rfl (cov_cons rfl rfl (cov_cons rfl rfl (cov_cons rfl rfl (cov_cons rfl ?_ (cov_cons rfl rfl (cov_cons rfl rfl (cov_cons rfl rfl (cov_cons rfl rfl cov_nil))))))))) ?_
          · show i + 1 ≤ ls.length; omega
          · show (((out ++ [u]) ++ [w]).map lnV, true) = ((cmp M).take (i + 1)).foldl (stepI a x) ([], false)
            rw [hnx]
            unfold stepI
            rw [if_pos ⟨rfl, by show (a : Int) < firstV r.v.l; rw [hff]; omega⟩, hclr, hat, hb]
            rw [List.map_append, List.map_append, hu]
            rw [hw]
            rw [← hx1]
            rfl
          · intro y hy
            rcases List.mem_append.1 hy with q | q
            · rcases List.mem_append.1 q with q | q
              · exact (hel y q).mono hg3
              · obtain rfl : y = u := by simpa using q
                rw [hu]
                exact ⟨g2, g3, e2, e3⟩
            · obtain rfl : y = w := by simpa using q
              rw [hw]
              exact ⟨g4, g5, hXl, hYl⟩
          · show ((out ++ [u]) ++ [w]).length ≤ 2 * (i + 1)
            simp only [List.length_append, List.length_singleton]
            omega
          · show ls.length - (i + 1) < ls.length - i; omega
          · show Value.slice a83 _ c83 = Value.slice a83 ((out ++ [u]) ++ [w]).length c83
            simp only [List.length_append, List.length_singleton]
          show Ent _ [.row 78 2 (.slice a83 ((out ++ [u]) ++ [w]).length c83) ((out ++ [u]) ++ [w]).length (w2 (fV n) (fD z) ((out ++ [u]) ++ [w])), .any A3, rB b n z ad c ls.length, .any (stars H)]
          simp only [List.length_append, List.length_singleton]
          (try dsimp only [List.cons_append, List.nil_append, List.singleton_append, List.append_nil]); (repeat (first | exact Ent.nil | exact Ent.refl _ | (apply Ent.cons; (repeat (first | exact Sel.here | apply Sel.there)))))
        · skip
          repeat' (first | refine ls_of rfl ?_ | refine ls_of_no ?_ | refine ls_guard_yes rfl rfl ?_ | refine ls_guard_no rfl rfl rfl rfl ?_ | refine ls_guard_un rfl rfl rfl ?_ | refine o1_move rfl ?_ | refine o1_assign rfl ?_ | refine st_seq ?_ | refine st_region ?_ | refine st_block ?_ | refine st_skip ?_ | refine st_ret ?_ | refine st_exit ?_ | refine st_cond_t rfl ?_ | refine st_cond_f rfl ?_ | refine st_cond rfl (fun _ => ?_) (fun _ => ?_) | refine ls_nil ?_ | refine nx_seq ?_ | refine nx_blk ?_ | refine nx_fn ?_ | refine nx_rounds ?_ | refine xt_seq ?_ | refine xt_here ?_ | refine xt_on rfl ?_ | refine xt_rounds ?_ | refine xt_cut ?_ | refine rt_seq ?_ | refine rt_blk ?_ | refine rt_rounds ?_ | refine rt_cut ?_ | refine o1_iaw (f := fV n) (g := fD z) (ad := ad) (c := c) i rfl rfl hr2 rfl rfl hlt ?_ | refine o1_load_iaw (f := fV n) (g := fD z) (ad := ad) (c := c) i r rfl hr2 hri ?_ | refine o1_alloc rfl (fun b11 => ?_) | refine o1_call (fun _ => (r1_First _ r.v.ad n r.v.cap r.v.l (Rs.up hxv) q1.symm).vv (b := I f) (by rw [hff])) rfl (fun _ _ => ?_) | refine o1_gtr_f rfl rfl (by omega) ?_ | refine o1_ia (ad := r.v.ad) (c := r.v.cap) a rfl rfl hxv q1.symm rfl hax ?_ | (refine o1_load_ia (ad := r.v.ad) (c := r.v.cap) a rfl hxv hax ?_; rw [hb]) | refine o1_pick_t rfl rfl ?_ | refine o1_pick_f rfl rfl ?_ | refine o1_extract rfl rfl ?_ | refine o1_fieldAddr rfl ?_ | refine ox_load rfl (by rfl) ?_ | refine ox_load_enc rfl (by first | omega | (simp; omega)) ?_ | refine ox_load_any rfl (by assumption) ?_ | refine o1_len rfl ?_ | refine o1_add rfl rfl (by omega) ?_ | refine o1_lss_t rfl rfl (by omega) ?_ | refine o1_lss_f rfl rfl (by omega) ?_ | refine o1_lss rfl rfl (fun _ => ?_) (fun _ => ?_) | refine o1_gtr_t rfl rfl (by omega) ?_ | refine o1_gtr_f rfl rfl (by omega) ?_ | refine o1_gtr rfl rfl (fun _ => ?_) (fun _ => ?_) | refine o1_neq_t rfl rfl (by omega) ?_ | refine o1_neq_f rfl rfl (by omega) ?_ | refine o1_neq rfl rfl (fun _ => ?_) (fun _ => ?_) | refine o1_bnot rfl ?_ | refine o1_unot rfl ?_ | refine o1_maken (enc := B) 0#8 rfl rfl rfl rfl (by omega) (by omega) (by omega) (fun _ => ?_) | refine o1_lit_B rfl rfl rfl rfl rfl (fun _ => ?_) | refine o1_buildx rfl (by simp only [buildL, putL, List.set_cons_zero, List.set_cons_succ, List.getElem?_cons_zero, List.getElem?_cons_succ, Option.getD_some, Value.cells, Nat.zero_add, Nat.reduceAdd]; rfl) (fun _ => by kernel_rfl) ?_ | refine ox_append rfl rfl (rx_box rfl (by first | decide | omega)) rfl rfl (fun _ => rfl) (by omega) (by omega) (fun _ _ => ?_) | refine ox_append rfl rfl (rx_any (by assumption)) rfl rfl (fun _ => rfl) (by omega) (by omega) (fun _ _ => ?_) | refine ox_append rfl rfl rx_row rfl rfl (fun _ => rfl) (by omega) (by omega) (fun _ _ => ?_) | refine o1_alloc rfl (fun _ => ?_) | refine ox_store_enc B rfl rfl (by first | omega | (simp; done) | (simp; omega)) rfl ?_ | refine ox_stores rfl rfl (by first | omega | (simp; done) | (simp; omega)) rfl (by first | (simp only [List.set_cons_zero, List.set_cons_succ, Nat.zero_add, Nat.reduceAdd]; rfl) | rfl) ?_ | refine o1_nilCheck rfl ?_ | refine ox_store_agg rfl rfl (by rfl) (by simp) (by simp [Value.oneCell']) (by simp only [putL, List.set_cons_zero, List.set_cons_succ, Nat.zero_add, Nat.reduceAdd]; rfl) ?_ | refine ox_load_agg rfl (by simp only [Nat.zero_add, Nat.reduceAdd, List.drop_zero, List.drop_succ_cons, List.take_succ_cons, List.take_zero]; rfl) (by rfl) ?_)
          refine st_stages [(11, _), (1, _), (2, _)] rtY3_1 [3, 7, 9] [⟨[0, 1, 2, 4, 5, 6], [], some 3⟩, ⟨[], [4, 5, 6], some 7⟩, ⟨[8], [], some 9⟩, ⟨[], [], none⟩] mixed (cov_cons rfl rfl (cov_cons rfl rfl (cov_cons rfl rfl cov_nil))) (by kernel_rfl) (by kernel_rfl) ?_
          all_goals refine wk_ch ?_
          all_goals (refine xp1 11 rfl rfl rfl rfl (by refine o1_fieldAddr rfl fz) ?_)
          all_goals (refine xp1 71 rfl rfl rfl rfl (by first | refine ox_load (b := b11) rfl rfl fz | refine ox_load rfl (by rfl) fz | refine ox_load_enc rfl (by first | omega | (simp; omega)) fz | refine ox_load_any rfl (by assumption) fz) ?_)
          all_goals (refine xp1 1 rfl rfl rfl rfl (by refine o1_move rfl fz) ?_)
          all_goals (refine xp1 11 rfl rfl rfl rfl (by refine o1_fieldAddr rfl fz) ?_)
          all_goals (refine xp1 75 rfl rfl rfl rfl (by first | refine ox_load (b := b11) rfl rfl fz | refine ox_load rfl (by rfl) fz | refine ox_load_enc rfl (by first | omega | (simp; omega)) fz | refine ox_load_any rfl (by assumption) fz) ?_)
          all_goals (refine xp1 2 rfl rfl rfl rfl (by refine o1_move rfl fz) ?_)
          all_goals refine op_nil ?_
          all_goals refine re_nil ?_
          all_goals first | (refine ch_run (E' := [(72, _), (73, _)]) rfl (gd_r0 rfl) rfl (cov_cons rfl rfl (cov_cons rfl rfl cov_nil)) ?_; (first | (refine o1_call (fun _ => r1_Xor _ r.v.ad v1.ad n r.v.cap n v1.cap r.v.l v1.l (Rs.up hxv) (Rs.up hv1) q1.symm e2.symm rfl hn) rfl (fun b74 _ => ?_); rw [hX])))
          all_goals refine wk_ch ?_
          all_goals refine op_nil ?_
          all_goals (refine xq1 11 rfl rfl rfl rfl rfl (by refine o1_fieldAddr rfl fz) ?_)
          all_goals (refine xq1 75 rfl rfl rfl rfl rfl (by first | refine ox_load (b := b11) rfl rfl fz | refine ox_load rfl (by rfl) fz | refine ox_load_enc rfl (by first | omega | (simp; omega)) fz | refine ox_load_any rfl (by assumption) fz) ?_)
          all_goals (refine xq1 2 rfl rfl rfl rfl rfl (by refine o1_move rfl fz) ?_)
          all_goals refine re_nil ?_
          all_goals first | (refine ch_run (E' := [(76, _), (77, _)]) rfl (gd_r0 rfl) rfl (cov_cons rfl rfl (cov_cons rfl rfl cov_nil)) ?_; (first | (refine o1_call (fun _ => r1_XorB _ r.d.ad d1.ad z r.d.cap z d1.cap r.d.l d1.l (Rs.up hxd) (Rs.up hd1) q2.symm e3.symm rfl (by omega)) rfl (fun b78 _ => ?_); rw [hY])))
          all_goals refine wk_ch ?_
          all_goals (refine xp2 74 78 rfl rfl rfl rfl rfl (by (refine o1_buildx rfl (by simp only [buildL, putL, List.set_cons_zero, List.set_cons_succ, List.getElem?_cons_zero, List.getElem?_cons_succ, Option.getD_some, Value.cells, Nat.zero_add, Nat.reduceAdd]; rfl) (fun _ => by kernel_rfl) ?_; all_goals exact fz)) ?_)
          all_goals refine op_nil ?_
          all_goals refine re_nil ?_
          all_goals first | (refine ch_run_no (E' := [(11, _), (79, _)]) rfl (gd_r0 rfl) rfl (cov_cons rfl rfl (cov_cons rfl rfl cov_nil)) ?_; (first | (refine ox_store_agg (b := b11) rfl rfl rfl (Nat.le_refl 2) (one2 rfl rfl) rfl ?_) | refine ox_store_agg rfl rfl (by rfl) (by simp) (by simp [Value.oneCell']) (by simp only [putL, List.set_cons_zero, List.set_cons_succ, Nat.zero_add, Nat.reduceAdd]; rfl) ?_))
          all_goals refine wk_end ?_
          all_goals refine op_nil ?_
          all_goals refine re_nil ?_
          all_goals dsimp only [List.cons_append, List.nil_append]
          repeat' (first | refine ls_of rfl ?_ | refine ls_of_no ?_ | refine ls_guard_yes rfl rfl ?_ | refine ls_guard_no rfl rfl rfl rfl ?_ | refine ls_guard_un rfl rfl rfl ?_ | refine o1_move rfl ?_ | refine o1_assign rfl ?_ | refine st_seq ?_ | refine st_region ?_ | refine st_block ?_ | refine st_skip ?_ | refine st_ret ?_ | refine st_exit ?_ | refine st_cond_t rfl ?_ | refine st_cond_f rfl ?_ | refine st_cond rfl (fun _ => ?_) (fun _ => ?_) | refine ls_nil ?_ | refine nx_seq ?_ | refine nx_blk ?_ | refine nx_fn ?_ | refine nx_rounds ?_ | refine xt_seq ?_ | refine xt_here ?_ | refine xt_on rfl ?_ | refine xt_rounds ?_ | refine xt_cut ?_ | refine rt_seq ?_ | refine rt_blk ?_ | refine rt_rounds ?_ | refine rt_cut ?_ | refine ox_load_agg (b := b11) rfl rfl rfl ?_ | refine o1_lit_w (a := .slice (some ⟨b74, 0, none⟩) n n) (b := .slice (some ⟨b78, 0, none⟩) z z) rfl rfl (fun b82 => ?_) | refine ox_append_w (f := fV n) (g := fD z) (xs := out) (y0 := (⟨⟨some ⟨b74, 0, none⟩, n, X⟩, ⟨some ⟨b78, 0, none⟩, z, Y⟩⟩ : LnD)) (b := b82) rfl rfl rfl rfl rfl (by omega) (by omega) (fun a83 c83 => ?_) | refine o1_pick_t rfl rfl ?_ | refine o1_pick_f rfl rfl ?_ | refine o1_extract rfl rfl ?_ | refine o1_fieldAddr rfl ?_ | refine ox_load rfl (by rfl) ?_ | refine ox_load_enc rfl (by first | omega | (simp; omega)) ?_ | refine ox_load_any rfl (by assumption) ?_ | refine o1_len rfl ?_ | refine o1_add rfl rfl (by omega) ?_ | refine o1_lss_t rfl rfl (by omega) ?_ | refine o1_lss_f rfl rfl (by omega) ?_ | refine o1_lss rfl rfl (fun _ => ?_) (fun _ => ?_) | refine o1_gtr_t rfl rfl (by omega) ?_ | refine o1_gtr_f rfl rfl (by omega) ?_ | refine o1_gtr rfl rfl (fun _ => ?_) (fun _ => ?_) | refine o1_neq_t rfl rfl (by omega) ?_ | refine o1_neq_f rfl rfl (by omega) ?_ | refine o1_neq rfl rfl (fun _ => ?_) (fun _ => ?_) | refine o1_bnot rfl ?_ | refine o1_unot rfl ?_ | refine o1_maken (enc := B) 0#8 rfl rfl rfl rfl (by omega) (by omega) (by omega) (fun _ => ?_) | refine o1_lit_B rfl rfl rfl rfl rfl (fun _ => ?_) | refine o1_buildx rfl (by simp only [buildL, putL, List.set_cons_zero, List.set_cons_succ, List.getElem?_cons_zero, List.getElem?_cons_succ, Option.getD_some, Value.cells, Nat.zero_add, Nat.reduceAdd]; rfl) (fun _ => by kernel_rfl) ?_ | refine ox_append rfl rfl (rx_box rfl (by first | decide | omega)) rfl rfl (fun _ => rfl) (by omega) (by omega) (fun _ _ => ?_) | refine ox_append rfl rfl (rx_any (by assumption)) rfl rfl (fun _ => rfl) (by omega) (by omega) (fun _ _ => ?_) | refine ox_append rfl rfl rx_row rfl rfl (fun _ => rfl) (by omega) (by omega) (fun _ _ => ?_) | refine o1_alloc rfl (fun _ => ?_) | refine ox_store_enc B rfl rfl (by first | omega | (simp; done) | (simp; omega)) rfl ?_ | refine ox_stores rfl rfl (by first | omega | (simp; done) | (simp; omega)) rfl (by first | (simp only [List.set_cons_zero, List.set_cons_succ, Nat.zero_add, Nat.reduceAdd]; rfl) | rfl) ?_ | refine o1_nilCheck rfl ?_ | refine ox_store_agg rfl rfl (by rfl) (by simp) (by simp [Value.oneCell']) (by simp only [putL, List.set_cons_zero, List.set_cons_succ, Nat.zero_add, Nat.reduceAdd]; rfl) ?_ | refine ox_load_agg rfl (by simp only [Nat.zero_add, Nat.reduceAdd, List.drop_zero, List.drop_succ_cons, List.take_succ_cons, List.take_zero]; rfl) (by rfl) ?_)
          obtain ⟨w, hw⟩ : ∃ w : LnD, w = ⟨⟨some ⟨b74, 0, none⟩, n, X⟩, ⟨some ⟨b78, 0, none⟩, z, Y⟩⟩ := ⟨_, rfl⟩
          rw [← hw]
          refine nx_pack [.box b74 4 (X.map Bo), .box b78 5 (Y.map B), .any A2] [.row 78 2 (.slice a83 (out.length + 1) c83) (out.length + 1) (w2 (fV n) (fD z) (out ++ [w])), rB b n z ad c ls.length, .any (stars H)] (by (try dsimp only [List.cons_append, List.nil_append, List.singleton_append, List.append_nil]); (repeat (first | exact Ent.nil | exact Ent.refl _ | (apply Ent.cons; (repeat (first | exact Sel.here | apply Sel.there)))))) ?_
          refine nx_has (fun hh => ?_)
          have hA := has_any hh
          have g4 := rx_box (b := b74) (T := 4) (enc := Bo) hXl (by omega) hA
          have g5 := rx_box (b := b78) (T := 5) (enc := B) hYl (by omega) hA
          obtain ⟨A3, hA3⟩ : ∃ A3, stars [.box b74 4 (X.map Bo), .box b78 5 (Y.map B), .any A2] = A3 := ⟨_, rfl⟩
          have hg3 : Gr A2 A3 := by rw [← hA3]; exact Gr.of
          rw [hA3] at g4 g5 ⊢
          refine nx_again (i + 1, (a83, c83, out ++ [w]), false, A3) ⟨?_, ?_, ?_, hg.trans hg3, ?_⟩ ?_ (cov_cons rfl rfl (cov_cons rfl rfl (cov_cons rfl rfl (cov_cons rfl rfl (cov_cons rfl ?_ (cov_cons rfl rfl (cov_cons rfl rfl (cov_cons rfl rfl (cov_cons rfl rfl cov_nil))))))))) ?_
          · show i + 1 ≤ ls.length; omega
          · show ((out ++ [w]).map lnV, false) = ((cmp M).take (i + 1)).foldl (stepI a x) ([], false)
            rw [hnx]
            unfold stepI
            rw [if_neg (by rintro ⟨q, q3⟩; have q3 : (a : Int) < firstV r.v.l := q3; rw [hff] at q3; omega), hclr, hat, hb]
            rw [List.map_append]
            rw [hw]
            rfl
          · intro y hy
            rcases List.mem_append.1 hy with q | q
            · exact (hel y q).mono hg3
            · obtain rfl : y = w := by simpa using q
              rw [hw]
              exact ⟨g4, g5, hXl, hYl⟩
          · show (out ++ [w]).length ≤ 2 * (i + 1)
            simp only [List.length_append, List.length_singleton]
            omega
          · show ls.length - (i + 1) < ls.length - i; omega
          · show Value.slice a83 _ c83 = Value.slice a83 (out ++ [w]).length c83
            simp only [List.length_append, List.length_singleton]
          show Ent _ [.row 78 2 (.slice a83 (out ++ [w]).length c83) (out ++ [w]).length (w2 (fV n) (fD z) (out ++ [w])), .any A3, rB b n z ad c ls.length, .any (stars H)]
          simp only [List.length_append, List.length_singleton]
          (try dsimp only [List.cons_append, List.nil_append, List.singleton_append, List.append_nil]); (repeat (first | exact Ent.nil | exact Ent.refl _ | (apply Ent.cons; (repeat (first | exact Sel.here | apply Sel.there)))))
      · skip
        repeat' (first | refine ls_of rfl ?_ | refine ls_of_no ?_ | refine ls_guard_yes rfl rfl ?_ | refine ls_guard_no rfl rfl rfl rfl ?_ | refine ls_guard_un rfl rfl rfl ?_ | refine o1_move rfl ?_ | refine o1_assign rfl ?_ | refine st_seq ?_ | refine st_region ?_ | refine st_block ?_ | refine st_skip ?_ | refine st_ret ?_ | refine st_exit ?_ | refine st_cond_t rfl ?_ | refine st_cond_f rfl ?_ | refine st_cond rfl (fun _ => ?_) (fun _ => ?_) | refine ls_nil ?_ | refine nx_seq ?_ | refine nx_blk ?_ | refine nx_fn ?_ | refine nx_rounds ?_ | refine xt_seq ?_ | refine xt_here ?_ | refine xt_on rfl ?_ | refine xt_rounds ?_ | refine xt_cut ?_ | refine rt_seq ?_ | refine rt_blk ?_ | refine rt_rounds ?_ | refine rt_cut ?_ | refine o1_iaw (f := fV n) (g := fD z) (ad := ad) (c := c) i rfl rfl hr2 rfl rfl hlt ?_ | refine o1_load_iaw (f := fV n) (g := fD z) (ad := ad) (c := c) i r rfl hr2 hri ?_ | refine o1_alloc rfl (fun b11 => ?_) | refine o1_ia (ad := r.v.ad) (c := r.v.cap) a rfl rfl hxv q1.symm rfl hax ?_ | (refine o1_load_ia (ad := r.v.ad) (c := r.v.cap) a rfl hxv hax ?_; rw [hb]) | refine o1_pick_t rfl rfl ?_ | refine o1_pick_f rfl rfl ?_ | refine o1_extract rfl rfl ?_ | refine o1_fieldAddr rfl ?_ | refine ox_load rfl (by rfl) ?_ | refine ox_load_enc rfl (by first | omega | (simp; omega)) ?_ | refine ox_load_any rfl (by assumption) ?_ | refine o1_len rfl ?_ | refine o1_add rfl rfl (by omega) ?_ | refine o1_lss_t rfl rfl (by omega) ?_ | refine o1_lss_f rfl rfl (by omega) ?_ | refine o1_lss rfl rfl (fun _ => ?_) (fun _ => ?_) | refine o1_gtr_t rfl rfl (by omega) ?_ | refine o1_gtr_f rfl rfl (by omega) ?_ | refine o1_gtr rfl rfl (fun _ => ?_) (fun _ => ?_) | refine o1_neq_t rfl rfl (by omega) ?_ | refine o1_neq_f rfl rfl (by omega) ?_ | refine o1_neq rfl rfl (fun _ => ?_) (fun _ => ?_) | refine o1_bnot rfl ?_ | refine o1_unot rfl ?_ | refine o1_maken (enc := B) 0#8 rfl rfl rfl rfl (by omega) (by omega) (by omega) (fun _ => ?_) | refine o1_lit_B rfl rfl rfl rfl rfl (fun _ => ?_) | refine o1_buildx rfl (by simp only [buildL, putL, List.set_cons_zero, List.set_cons_succ, List.getElem?_cons_zero, List.getElem?_cons_succ, Option.getD_some, Value.cells, Nat.zero_add, Nat.reduceAdd]; rfl) (fun _ => by kernel_rfl) ?_ | refine ox_append rfl rfl (rx_box rfl (by first | decide | omega)) rfl rfl (fun _ => rfl) (by omega) (by omega) (fun _ _ => ?_) | refine ox_append rfl rfl (rx_any (by assumption)) rfl rfl (fun _ => rfl) (by omega) (by omega) (fun _ _ => ?_) | refine ox_append rfl rfl rx_row rfl rfl (fun _ => rfl) (by omega) (by omega) (fun _ _ => ?_) | refine o1_alloc rfl (fun _ => ?_) | refine ox_store_enc B rfl rfl (by first | omega | (simp; done) | (simp; omega)) rfl ?_ | refine ox_stores rfl rfl (by first | omega | (simp; done) | (simp; omega)) rfl (by first | (simp only [List.set_cons_zero, List.set_cons_succ, Nat.zero_add, Nat.reduceAdd]; rfl) | rfl) ?_ | refine o1_nilCheck rfl ?_ | refine ox_store_agg rfl rfl (by rfl) (by simp) (by simp [Value.oneCell']) (by simp only [putL, List.set_cons_zero, List.set_cons_succ, Nat.zero_add, Nat.reduceAdd]; rfl) ?_ | refine ox_load_agg rfl (by simp only [Nat.zero_add, Nat.reduceAdd, List.drop_zero, List.drop_succ_cons, List.take_succ_cons, List.take_zero]; rfl) (by rfl) ?_)
        refine st_stages [(11, _), (1, _), (2, _)] rtY3_2 [3, 7, 9] [⟨[0, 1, 2, 4, 5, 6], [], some 3⟩, ⟨[], [4, 5, 6], some 7⟩, ⟨[8], [], some 9⟩, ⟨[], [], none⟩] mixed (cov_cons rfl rfl (cov_cons rfl rfl (cov_cons rfl rfl cov_nil))) (by kernel_rfl) (by kernel_rfl) ?_
        all_goals refine wk_ch ?_
        all_goals (refine xp1 11 rfl rfl rfl rfl (by refine o1_fieldAddr rfl fz) ?_)
        all_goals (refine xp1 71 rfl rfl rfl rfl (by first | refine ox_load (b := b11) rfl rfl fz | refine ox_load rfl (by rfl) fz | refine ox_load_enc rfl (by first | omega | (simp; omega)) fz | refine ox_load_any rfl (by assumption) fz) ?_)
        all_goals (refine xp1 1 rfl rfl rfl rfl (by refine o1_move rfl fz) ?_)
        all_goals (refine xp1 11 rfl rfl rfl rfl (by refine o1_fieldAddr rfl fz) ?_)
        all_goals (refine xp1 75 rfl rfl rfl rfl (by first | refine ox_load (b := b11) rfl rfl fz | refine ox_load rfl (by rfl) fz | refine ox_load_enc rfl (by first | omega | (simp; omega)) fz | refine ox_load_any rfl (by assumption) fz) ?_)
        all_goals (refine xp1 2 rfl rfl rfl rfl (by refine o1_move rfl fz) ?_)
        all_goals refine op_nil ?_
        all_goals refine re_nil ?_
        all_goals first | (refine ch_run (E' := [(72, _), (73, _)]) rfl (gd_r0 rfl) rfl (cov_cons rfl rfl (cov_cons rfl rfl cov_nil)) ?_; (first | (refine o1_call (fun _ => r1_Xor _ r.v.ad v1.ad n r.v.cap n v1.cap r.v.l v1.l (Rs.up hxv) (Rs.up hv1) q1.symm e2.symm rfl hn) rfl (fun b74 _ => ?_); rw [hX])))
        all_goals refine wk_ch ?_
        all_goals refine op_nil ?_
        all_goals (refine xq1 11 rfl rfl rfl rfl rfl (by refine o1_fieldAddr rfl fz) ?_)
        all_goals (refine xq1 75 rfl rfl rfl rfl rfl (by first | refine ox_load (b := b11) rfl rfl fz | refine ox_load rfl (by rfl) fz | refine ox_load_enc rfl (by first | omega | (simp; omega)) fz | refine ox_load_any rfl (by assumption) fz) ?_)
        all_goals (refine xq1 2 rfl rfl rfl rfl rfl (by refine o1_move rfl fz) ?_)
        all_goals refine re_nil ?_
        all_goals first | (refine ch_run (E' := [(76, _), (77, _)]) rfl (gd_r0 rfl) rfl (cov_cons rfl rfl (cov_cons rfl rfl cov_nil)) ?_; (first | (refine o1_call (fun _ => r1_XorB _ r.d.ad d1.ad z r.d.cap z d1.cap r.d.l d1.l (Rs.up hxd) (Rs.up hd1) q2.symm e3.symm rfl (by omega)) rfl (fun b78 _ => ?_); rw [hY])))
        all_goals refine wk_ch ?_
        all_goals (refine xp2 74 78 rfl rfl rfl rfl rfl (by (refine o1_buildx rfl (by simp only [buildL, putL, List.set_cons_zero, List.set_cons_succ, List.getElem?_cons_zero, List.getElem?_cons_succ, Option.getD_some, Value.cells, Nat.zero_add, Nat.reduceAdd]; rfl) (fun _ => by kernel_rfl) ?_; all_goals exact fz)) ?_)
        all_goals refine op_nil ?_
        all_goals refine re_nil ?_
        all_goals first | (refine ch_run_no (E' := [(11, _), (79, _)]) rfl (gd_r0 rfl) rfl (cov_cons rfl rfl (cov_cons rfl rfl cov_nil)) ?_; (first | (refine ox_store_agg (b := b11) rfl rfl rfl (Nat.le_refl 2) (one2 rfl rfl) rfl ?_) | refine ox_store_agg rfl rfl (by rfl) (by simp) (by simp [Value.oneCell']) (by simp only [putL, List.set_cons_zero, List.set_cons_succ, Nat.zero_add, Nat.reduceAdd]; rfl) ?_))
        all_goals refine wk_end ?_
        all_goals refine op_nil ?_
        all_goals refine re_nil ?_
        all_goals dsimp only [List.cons_append, List.nil_append]
        repeat' (first | refine ls_of rfl ?_ | refine ls_of_no ?_ | refine ls_guard_yes rfl rfl ?_ | refine ls_guard_no rfl rfl rfl rfl ?_ | refine ls_guard_un rfl rfl rfl ?_ | refine o1_move rfl ?_ | refine o1_assign rfl ?_ | refine st_seq ?_ | refine st_region ?_ | refine st_block ?_ | refine st_skip ?_ | refine st_ret ?_ | refine st_exit ?_ | refine st_cond_t rfl ?_ | refine st_cond_f rfl ?_ | refine st_cond rfl (fun _ => ?_) (fun _ => ?_) | refine ls_nil ?_ | refine nx_seq ?_ | refine nx_blk ?_ | refine nx_fn ?_ | refine nx_rounds ?_ | refine xt_seq ?_ | refine xt_here ?_ | refine xt_on rfl ?_ | refine xt_rounds ?_ | refine xt_cut ?_ | refine rt_seq ?_ | refine rt_blk ?_ | refine rt_rounds ?_ | refine rt_cut ?_ | refine ox_load_agg (b := b11) rfl rfl rfl ?_ | refine o1_lit_w (a := .slice (some ⟨b74, 0, none⟩) n n) (b := .slice (some ⟨b78, 0, none⟩) z z) rfl rfl (fun b82 => ?_) | refine ox_append_w (f := fV n) (g := fD z) (xs := out) (y0 := (⟨⟨some ⟨b74, 0, none⟩, n, X⟩, ⟨some ⟨b78, 0, none⟩, z, Y⟩⟩ : LnD)) (b := b82) rfl rfl rfl rfl rfl (by omega) (by omega) (fun a83 c83 => ?_) | refine o1_pick_t rfl rfl ?_ | refine o1_pick_f rfl rfl ?_ | refine o1_extract rfl rfl ?_ | refine o1_fieldAddr rfl ?_ | refine ox_load rfl (by rfl) ?_ | refine ox_load_enc rfl (by first | omega | (simp; omega)) ?_ | refine ox_load_any rfl (by assumption) ?_ | refine o1_len rfl ?_ | refine o1_add rfl rfl (by omega) ?_ | refine o1_lss_t rfl rfl (by omega) ?_ | refine o1_lss_f rfl rfl (by omega) ?_ | refine o1_lss rfl rfl (fun _ => ?_) (fun _ => ?_) | refine o1_gtr_t rfl rfl (by omega) ?_ | refine o1_gtr_f rfl rfl (by omega) ?_ | refine o1_gtr rfl rfl (fun _ => ?_) (fun _ => ?_) | refine o1_neq_t rfl rfl (by omega) ?_ | refine o1_neq_f rfl rfl (by omega) ?_ | refine o1_neq rfl rfl (fun _ => ?_) (fun _ => ?_) | refine o1_bnot rfl ?_ | refine o1_unot rfl ?_ | refine o1_maken (enc := B) 0#8 rfl rfl rfl rfl (by omega) (by omega) (by omega) (fun _ => ?_) | refine o1_lit_B rfl rfl rfl rfl rfl (fun _ => ?_) | refine o1_buildx rfl (by simp only [buildL, putL, List.set_cons_zero, List.set_cons_succ, List.getElem?_cons_zero, List.getElem?_cons_succ, Option.getD_some, Value.cells, Nat.zero_add, Nat.reduceAdd]; rfl) (fun _ => by kernel_rfl) ?_ | refine ox_append rfl rfl (rx_box rfl (by first | decide | omega)) rfl rfl (fun _ => rfl) (by omega) (by omega) (fun _ _ => ?_) | refine ox_append rfl rfl (rx_any (by assumption)) rfl rfl (fun _ => rfl) (by omega) (by omega) (fun _ _ => ?_) | refine ox_append rfl rfl rx_row rfl rfl (fun _ => rfl) (by omega) (by omega) (fun _ _ => ?_) | refine o1_alloc rfl (fun _ => ?_) | refine ox_store_enc B rfl rfl (by first | omega | (simp; done) | (simp; omega)) rfl ?_ | refine ox_stores rfl rfl (by first | omega | (simp; done) | (simp; omega)) rfl (by first | (simp only [List.set_cons_zero, List.set_cons_succ, Nat.zero_add, Nat.reduceAdd]; rfl) | rfl) ?_ | refine o1_nilCheck rfl ?_ | refine ox_store_agg rfl rfl (by rfl) (by simp) (by simp [Value.oneCell']) (by simp only [putL, List.set_cons_zero, List.set_cons_succ, Nat.zero_add, Nat.reduceAdd]; rfl) ?_ | refine ox_load_agg rfl (by simp only [Nat.zero_add, Nat.reduceAdd, List.drop_zero, List.drop_succ_cons, List.take_succ_cons, List.take_zero]; rfl) (by rfl) ?_)
        obtain ⟨w, hw⟩ : ∃ w : LnD, w = ⟨⟨some ⟨b74, 0, none⟩, n, X⟩, ⟨some ⟨b78, 0, none⟩, z, Y⟩⟩ := ⟨_, rfl⟩
        rw [← hw]
        refine nx_pack [.box b74 4 (X.map Bo), .box b78 5 (Y.map B), .any A2] [.row 78 2 (.slice a83 (out.length + 1) c83) (out.length + 1) (w2 (fV n) (fD z) (out ++ [w])), rB b n z ad c ls.length, .any (stars H)] (by (try dsimp only [List.cons_append, List.nil_append, List.singleton_append, List.append_nil]); (repeat (first | exact Ent.nil | exact Ent.refl _ | (apply Ent.cons; (repeat (first | exact Sel.here | apply Sel.there)))))) ?_
        refine nx_has (fun hh => ?_)
        have hA := has_any hh
        have g4 := rx_box (b := b74) (T := 4) (enc := Bo) hXl (by omega) hA
        have g5 := rx_box (b := b78) (T := 5) (enc := B) hYl (by omega) hA
        obtain ⟨A3, hA3⟩ : ∃ A3, stars [.box b74 4 (X.map Bo), .box b78 5 (Y.map B), .any A2] = A3 := ⟨_, rfl⟩
        have hg3 : Gr A2 A3 := by rw [← hA3]; exact Gr.of
        rw [hA3] at g4 g5 ⊢
        refine nx_again (i + 1, (a83, c83, out ++ [w]), true, A3) ⟨?_, ?_, ?_, hg.trans hg3, ?_⟩ ?_ (cov_cons rfl rfl (cov_cons rfl rfl (cov_cons rfl rfl (cov_cons rfl rfl (cov_cons rfl ?_ (cov_cons rfl rfl (cov_cons rfl rfl (cov_cons rfl rfl (cov_cons rfl rfl cov_nil))))))))) ?_
        · show i + 1 ≤ ls.length; omega
        · show ((out ++ [w]).map lnV, true) = ((cmp M).take (i + 1)).foldl (stepI a x) ([], false)
          rw [hnx]
          unfold stepI
          rw [if_neg (by rintro ⟨q, q3⟩; cases q), hclr, hat, hb]
          rw [List.map_append]
          rw [hw]
          rfl
        · intro y hy
          rcases List.mem_append.1 hy with q | q
          · exact (hel y q).mono hg3
          · obtain rfl : y = w := by simpa using q
            rw [hw]
            exact ⟨g4, g5, hXl, hYl⟩
        · show (out ++ [w]).length ≤ 2 * (i + 1)
          simp only [List.length_append, List.length_singleton]
          omega
        · show ls.length - (i + 1) < ls.length - i; omega
        · show Value.slice a83 _ c83 = Value.slice a83 (out ++ [w]).length c83
          simp only [List.length_append, List.length_singleton]
        show Ent _ [.row 78 2 (.slice a83 (out ++ [w]).length c83) (out ++ [w]).length (w2 (fV n) (fD z) (out ++ [w])), .any A3, rB b n z ad c ls.length, .any (stars H)]
        simp only [List.length_append, List.length_singleton]
        (try dsimp only [List.cons_append, List.nil_append, List.singleton_append, List.append_nil]); (repeat (first | exact Ent.nil | exact Ent.refl _ | (apply Ent.cons; (repeat (first | exact Sel.here | apply Sel.there)))))
  · have : i = ls.length := by omega
    subst this
    clear hlt
    have hone : ∀ s ∈ [d1], Rs A2 B s.ad s.cap s.l := fun s hs => by
      obtain rfl : s = d1 := by simpa using hs
      exact hd1
    have hall : finI x (out.map lnV, put) = cmp (addM M a x) := by
      have e : ((cmp M).take ls.length).foldl (stepI a x) ([], false) = (cmp M).foldl (stepI a x) ([], false) := by
        rw [List.take_of_length_le (by have := congrArg List.length hM; rw [List.length_map] at this; omega)]
      rw [hfold, e]
      exact ins_all hRR hfree
    cases put
    · repeat' (first | refine ls_of rfl ?_ | refine ls_of_no ?_ | refine ls_guard_yes rfl rfl ?_ | refine ls_guard_no rfl rfl rfl rfl ?_ | refine ls_guard_un rfl rfl rfl ?_ | refine o1_move rfl ?_ | refine o1_assign rfl ?_ | refine st_seq ?_ | refine st_region ?_ | refine st_block ?_ | refine st_skip ?_ | refine st_ret ?_ | refine st_exit ?_ | refine st_cond_t rfl ?_ | refine st_cond_f rfl ?_ | refine st_cond rfl (fun _ => ?_) (fun _ => ?_) | refine ls_nil ?_ | refine nx_seq ?_ | refine nx_blk ?_ | refine nx_fn ?_ | refine nx_rounds ?_ | refine xt_seq ?_ | refine xt_here ?_ | refine xt_on rfl ?_ | refine xt_rounds ?_ | refine xt_cut ?_ | refine rt_seq ?_ | refine rt_blk ?_ | refine rt_rounds ?_ | refine rt_cut ?_ | (refine o1_maker (enc := Bo) false n rfl rfl rfl rfl rfl (by omega) (by omega) (fun b93 => ?_); rw [hZb]) | (refine o1_call (fun hh => r1_Xor _ v1.ad (some ⟨b93, 0, none⟩) n v1.cap n n v1.l Zb (Rs.up hv1) (rx_box (T := 4) hZbl (by omega) hh) e2.symm hZbl.symm rfl hn) rfl (fun b94 _ => ?_); rw [hxz]) | refine o1_lit_enc (T := 39) Bs [d1] rfl rfl (by show _ = [Bs d1]; rw [hBD]; rfl) (fun _ => rfl) rfl rfl rfl (fun b96 => ?_) | (refine o1_call (fun hh => r1_Join _ (some ⟨b96, 0, none⟩) 1 [d1] (rx_box (T := 38) rfl (by show (1 : Nat) ≤ 9223372036854775807; decide) hh) (all_up hone) (by rw [hcat]; omega)) rfl (fun ⟨a97, c97⟩ _ => ?_); (try dsimp only); rw [hcat, e3]) | refine o1_lit_w (a := .slice (some ⟨b94, 0, none⟩) n n) (b := .slice a97 z c97) rfl rfl (fun b99 => ?_) | refine ox_append_w (f := fV n) (g := fD z) (xs := out) (y0 := (⟨⟨some ⟨b94, 0, none⟩, n, v1.l⟩, ⟨a97, c97, d1.l⟩⟩ : LnD)) (b := b99) rfl rfl rfl rfl rfl (by omega) (by omega) (fun a8 c8 => ?_) | refine o1_move rfl ?_ | refine o1_pick_t rfl rfl ?_ | refine o1_pick_f rfl rfl ?_ | refine o1_extract rfl rfl ?_ | refine o1_fieldAddr rfl ?_ | refine ox_load rfl (by rfl) ?_ | refine ox_load_enc rfl (by first | omega | (simp; omega)) ?_ | refine ox_load_any rfl (by assumption) ?_ | refine o1_len rfl ?_ | refine o1_add rfl rfl (by omega) ?_ | refine o1_lss_t rfl rfl (by omega) ?_ | refine o1_lss_f rfl rfl (by omega) ?_ | refine o1_lss rfl rfl (fun _ => ?_) (fun _ => ?_) | refine o1_gtr_t rfl rfl (by omega) ?_ | refine o1_gtr_f rfl rfl (by omega) ?_ | refine o1_gtr rfl rfl (fun _ => ?_) (fun _ => ?_) | refine o1_neq_t rfl rfl (by omega) ?_ | refine o1_neq_f rfl rfl (by omega) ?_ | refine o1_neq rfl rfl (fun _ => ?_) (fun _ => ?_) | refine o1_bnot rfl ?_ | refine o1_unot rfl ?_ | refine o1_maken (enc := B) 0#8 rfl rfl rfl rfl (by omega) (by omega) (by omega) (fun _ => ?_) | refine o1_lit_B rfl rfl rfl rfl rfl (fun _ => ?_) | refine o1_buildx rfl (by simp only [buildL, putL, List.set_cons_zero, List.set_cons_succ, List.getElem?_cons_zero, List.getElem?_cons_succ, Option.getD_some, Value.cells, Nat.zero_add, Nat.reduceAdd]; rfl) (fun _ => by kernel_rfl) ?_ | refine ox_append rfl rfl (rx_box rfl (by first | decide | omega)) rfl rfl (fun _ => rfl) (by omega) (by omega) (fun _ _ => ?_) | refine ox_append rfl rfl (rx_any (by assumption)) rfl rfl (fun _ => rfl) (by omega) (by omega) (fun _ _ => ?_) | refine ox_append rfl rfl rx_row rfl rfl (fun _ => rfl) (by omega) (by omega) (fun _ _ => ?_) | refine o1_alloc rfl (fun _ => ?_) | refine ox_store_enc B rfl rfl (by first | omega | (simp; done) | (simp; omega)) rfl ?_ | refine ox_stores rfl rfl (by first | omega | (simp; done) | (simp; omega)) rfl (by first | (simp only [List.set_cons_zero, List.set_cons_succ, Nat.zero_add, Nat.reduceAdd]; rfl) | rfl) ?_ | refine o1_nilCheck rfl ?_ | refine ox_store_agg rfl rfl (by rfl) (by simp) (by simp [Value.oneCell']) (by simp only [putL, List.set_cons_zero, List.set_cons_succ, Nat.zero_add, Nat.reduceAdd]; rfl) ?_ | refine ox_load_agg rfl (by simp only [Nat.zero_add, Nat.reduceAdd, List.drop_zero, List.drop_succ_cons, List.take_succ_cons, List.take_zero]; rfl) (by rfl) ?_)
      obtain ⟨u, hu⟩ : ∃ u : LnD, u = ⟨⟨some ⟨b94, 0, none⟩, n, v1.l⟩, ⟨a97, c97, d1.l⟩⟩ := ⟨_, rfl⟩
      rw [← hu]
      refine rt_pack [.row 78 2 (.slice a8 (out.length + 1) c8) (out.length + 1) (w2 (fV n) (fD z) (out ++ [u])), .box b94 4 (v1.l.map Bo), .row 5 1 (.slice a97 z c97) z (d1.l.map B), .any A2] [rB b n z a8 c8 (out.length + 1), .any (stars H)] (by (try dsimp only [List.cons_append, List.nil_append, List.singleton_append, List.append_nil]); (repeat (first | exact Ent.nil | exact Ent.refl _ | (apply Ent.cons; (repeat (first | exact Sel.here | apply Sel.there)))))) ?_
      refine rt_has (fun hh => ?_)
      have hA := has_any hh
      have g1 := R2.of_row (f := fV n) (g := fD z) (l := out ++ [u]) (.here (H := [.box b94 4 (v1.l.map Bo), .row 5 1 (.slice a97 z c97) z (d1.l.map B), .any A2])) hA
      have g2 := rx_box (b := b94) (T := 4) (enc := Bo) e2 (by omega) hA
      have g3 := rx_row (ad := a97) (c := c97) (l := d1.l) (enc := B) hA
      obtain ⟨A4, hA4⟩ : ∃ A4, stars [.row 78 2 (.slice a8 (out.length + 1) c8) (out.length + 1) (w2 (fV n) (fD z) (out ++ [u])), .box b94 4 (v1.l.map Bo), .row 5 1 (.slice a97 z c97) z (d1.l.map B), .any A2] = A4 := ⟨_, rfl⟩
      have hg4 : Gr A2 A4 := by rw [← hA4]; exact Gr.of
      rw [hA4] at g1 g2 g3 ⊢
      refine rt_tmp (((a8, c8, out ++ [u]), A4) : (Option Addr × Nat × List LnD) × (Hp → Prop)) rfl rfl rfl ⟨⟨g1, fun y hy => ?_⟩, ?_, (e6.trans hg).trans hg4⟩ ?_
      · rcases List.mem_append.1 hy with q | q
        · exact (hel y q).mono hg4
        · obtain rfl : y = u := by simpa using q
          rw [hu]
          exact ⟨g2, g3, e2, e3⟩
      · show (out ++ [u]).map lnV = _
        rw [← hall, List.map_append, hu]
        show _ = out.map lnV ++ [x]
        rw [← hx1]
        rfl
      show Ent _ [rB b n z a8 c8 (out ++ [u]).length, .any A4, .any (stars H)]
      rw [List.length_append, List.length_singleton]
      (try dsimp only [List.cons_append, List.nil_append, List.singleton_append, List.append_nil]); (repeat (first | exact Ent.nil | exact Ent.refl _ | (apply Ent.cons; (repeat (first | exact Sel.here | apply Sel.there)))))
    · repeat' (first | refine ls_of rfl ?_ | refine ls_of_no ?_ | refine ls_guard_yes rfl rfl ?_ | refine ls_guard_no rfl rfl rfl rfl ?_ | refine ls_guard_un rfl rfl rfl ?_ | refine o1_move rfl ?_ | refine o1_assign rfl ?_ | refine st_seq ?_ | refine st_region ?_ | refine st_block ?_ | refine st_skip ?_ | refine st_ret ?_ | refine st_exit ?_ | refine st_cond_t rfl ?_ | refine st_cond_f rfl ?_ | refine st_cond rfl (fun _ => ?_) (fun _ => ?_) | refine ls_nil ?_ | refine nx_seq ?_ | refine nx_blk ?_ | refine nx_fn ?_ | refine nx_rounds ?_ | refine xt_seq ?_ | refine xt_here ?_ | refine xt_on rfl ?_ | refine xt_rounds ?_ | refine xt_cut ?_ | refine rt_seq ?_ | refine rt_blk ?_ | refine rt_rounds ?_ | refine rt_cut ?_ | refine o1_pick_t rfl rfl ?_ | refine o1_pick_f rfl rfl ?_ | refine o1_extract rfl rfl ?_ | refine o1_fieldAddr rfl ?_ | refine ox_load rfl (by rfl) ?_ | refine ox_load_enc rfl (by first | omega | (simp; omega)) ?_ | refine ox_load_any rfl (by assumption) ?_ | refine o1_len rfl ?_ | refine o1_add rfl rfl (by omega) ?_ | refine o1_lss_t rfl rfl (by omega) ?_ | refine o1_lss_f rfl rfl (by omega) ?_ | refine o1_lss rfl rfl (fun _ => ?_) (fun _ => ?_) | refine o1_gtr_t rfl rfl (by omega) ?_ | refine o1_gtr_f rfl rfl (by omega) ?_ | refine o1_gtr rfl rfl (fun _ => ?_) (fun _ => ?_) | refine o1_neq_t rfl rfl (by omega) ?_ | refine o1_neq_f rfl rfl (by omega) ?_ | refine o1_neq rfl rfl (fun _ => ?_) (fun _ => ?_) | refine o1_bnot rfl ?_ | refine o1_unot rfl ?_ | refine o1_maken (enc := B) 0#8 rfl rfl rfl rfl (by omega) (by omega) (by omega) (fun _ => ?_) | refine o1_lit_B rfl rfl rfl rfl rfl (fun _ => ?_) | refine o1_buildx rfl (by simp only [buildL, putL, List.set_cons_zero, List.set_cons_succ, List.getElem?_cons_zero, List.getElem?_cons_succ, Option.getD_some, Value.cells, Nat.zero_add, Nat.reduceAdd]; rfl) (fun _ => by kernel_rfl) ?_ | refine ox_append rfl rfl (rx_box rfl (by first | decide | omega)) rfl rfl (fun _ => rfl) (by omega) (by omega) (fun _ _ => ?_) | refine ox_append rfl rfl (rx_any (by assumption)) rfl rfl (fun _ => rfl) (by omega) (by omega) (fun _ _ => ?_) | refine ox_append rfl rfl rx_row rfl rfl (fun _ => rfl) (by omega) (by omega) (fun _ _ => ?_) | refine o1_alloc rfl (fun _ => ?_) | refine ox_store_enc B rfl rfl (by first | omega | (simp; done) | (simp; omega)) rfl ?_ | refine ox_stores rfl rfl (by first | omega | (simp; done) | (simp; omega)) rfl (by first | (simp only [List.set_cons_zero, List.set_cons_succ, Nat.zero_add, Nat.reduceAdd]; rfl) | rfl) ?_ | refine o1_nilCheck rfl ?_ | refine ox_store_agg rfl rfl (by rfl) (by simp) (by simp [Value.oneCell']) (by simp only [putL, List.set_cons_zero, List.set_cons_succ, Nat.zero_add, Nat.reduceAdd]; rfl) ?_ | refine ox_load_agg rfl (by simp only [Nat.zero_add, Nat.reduceAdd, List.drop_zero, List.drop_succ_cons, List.take_succ_cons, List.take_zero]; rfl) (by rfl) ?_)
      refine rt_pack [.row 78 2 (.slice ao out.length co) out.length (w2 (fV n) (fD z) out), .any A2] [rB b n z ao co out.length, .any (stars H)] (by (try dsimp only [List.cons_append, List.nil_append, List.singleton_append, List.append_nil]); (repeat (first | exact Ent.nil | exact Ent.refl _ | (apply Ent.cons; (repeat (first | exact Sel.here | apply Sel.there)))))) ?_
      refine rt_has (fun hh => ?_)
      have hA := has_any hh
      have g1 := R2.of_row (f := fV n) (g := fD z) (l := out) (.here (H := [.any A2])) hA
      obtain ⟨A4, hA4⟩ : ∃ A4, stars [.row 78 2 (.slice ao out.length co) out.length (w2 (fV n) (fD z) out), .any A2] = A4 := ⟨_, rfl⟩
      have hg4 : Gr A2 A4 := by rw [← hA4]; exact Gr.of
      rw [hA4] at g1 ⊢
      refine rt_tmp (((ao, co, out), A4) : (Option Addr × Nat × List LnD) × (Hp → Prop)) rfl rfl rfl ⟨⟨g1, fun y hy => (hel y hy).mono hg4⟩, ?_, (e6.trans hg).trans hg4⟩ ?_
      · show out.map lnV = _
        rw [← hall]
        rfl
      (try dsimp only [List.cons_append, List.nil_append, List.singleton_append, List.append_nil]); (repeat (first | exact Ent.nil | exact Ent.refl _ | (apply Ent.cons; (repeat (first | exact Sel.here | apply Sel.there)))))
end Go.Dp

set_option linter.unusedVariables false
set_option linter.unusedSimpArgs false
namespace Go.Dp
open Go.RowKit Go.Proofs
theorem rt_tmp3 {P : Program} {n : Nat} {e : Ev} {W : World} {H : List Hl} {X : Type} {fn : Func} {good : X → Prop} {val : X → Value} {res : X → List Hl} {t t' t2 : Nat} {v v' v2 : Value} (r : X) (hres : fn.results = #[.tmp t, .tmp t', .tmp t2]) (hl : look e t = some v) (hl' : look e t' = some v') (hl2 : look e t2 = some v2) (hv : .tuple #[v, v', v2] = val r) (hg : good r) (hE : Ent H (res r)) :
    Rt P (.fn fn fun x w' => ∃ r, good r ∧ x = .returned (val r) ∧ Ext W w' ∧ sat w' (stars (res r))) n e W H :=
  rt_fn (v := .tuple #[v, v', v2]) (fun a w ho => by simp [results, hres, ho.ev.get t v hl, ho.ev.get t' v' hl', ho.ev.get t2 v2 hl2]) r hg hv hE
theorem all_some : ∀ {M : List (Option RD)} {ys : List LN}, M.map vw = ys.map some → ∃ R : List RD, M = R.map some ∧ R.map (fun r => (r.v.l, r.d)) = ys
  | [], [], _ => ⟨[], rfl, rfl⟩
  | [], y :: ys, h => by cases h
  | o :: M, [], h => by cases h
  | o :: M, y :: ys, h => by
    simp only [List.map_cons, List.cons.injEq] at h
    obtain ⟨R, h1, h2⟩ := all_some h.2
    cases o with
    | none => cases h.1
    | some r =>
      have e := h.1
      simp only [vw, Option.map_some, Option.some.injEq] at e
      exact ⟨r :: R, by rw [h1]; rfl, by rw [List.map_cons, h2, e]⟩
theorem MOk.none {n z : Nat} (h1 : 1 ≤ n) (h2 : n ≤ 256) (h3 : 1 ≤ z) (h4 : z ≤ 16) : MOk n z (List.replicate n none) := ⟨by simp, h1, h2, h3, h4, fun r hr => by cases List.eq_of_mem_replicate hr⟩
set_option maxHeartbeats 4000000 in
theorem awake6 (H : List Hl) (ht : TabF (stars H)) : Spec Tryd.prog 27 [] H (fun _ : Unit => True) (fun _ => .bool true) (fun _ => H) := by
  refine spec_pure (res := fun _ => []) H Tryd.func27 rfl Tryd.ntmps27 (by kernel_rfl) rfl (fun W => ?_)
  have hk0 : MOk 2 1 (List.replicate 2 none) := MOk.none (by decide) (by decide) (by decide) (by decide)
  have e1 : bitsOf 2 [0, 1] = [true, true] := by decide
  have e2 : bitsOf 2 [1] = [false, true] := by decide
  obtain ⟨M0, hM0⟩ : ∃ M0 : List (Option RD), List.replicate 2 none = M0 := ⟨_, rfl⟩
  have hv0 : M0.map vw = [none, none] := by subst hM0; rfl
  rw [hM0] at hk0
  have r1 : red [none, none] ([true, true], [3#8]) = ([true, true], [3#8]) := by decide
  have r2 : red [some ([true, true], [3#8]), none] ([false, true], [1#8]) = ([false, true], [1#8]) := by decide
  have g1 : addM [none, none] 0 ([true, true], [3#8]) = [some ([true, true], [3#8]), none] := by decide
  have g2 : addM [some ([true, true], [3#8]), none] 1 ([false, true], [1#8]) = [some ([true, false], [2#8]), some ([false, true], [1#8])] := by decide
  have f1 : firstV [true, true] = ((0 : Nat) : Int) := by decide
  have f2 : firstV [false, true] = ((1 : Nat) : Int) := by decide
  repeat' (first | refine ls_of rfl ?_ | refine ls_of_no ?_ | refine ls_guard_yes rfl rfl ?_ | refine ls_guard_no rfl rfl rfl rfl ?_ | refine ls_guard_un rfl rfl rfl ?_ | refine o1_move rfl ?_ | refine o1_assign rfl ?_ | refine st_seq ?_ | refine st_region ?_ | refine st_block ?_ | refine st_skip ?_ | refine st_ret ?_ | refine st_exit ?_ | refine st_cond_t rfl ?_ | refine st_cond_f rfl ?_ | refine st_cond rfl (fun _ => ?_) (fun _ => ?_) | refine ls_nil ?_ | refine nx_seq ?_ | refine nx_blk ?_ | refine nx_fn ?_ | refine nx_rounds ?_ | refine xt_seq ?_ | refine xt_here ?_ | refine xt_on rfl ?_ | refine xt_rounds ?_ | refine xt_cut ?_ | refine rt_seq ?_ | refine rt_blk ?_ | refine rt_rounds ?_ | refine rt_cut ?_ | (refine o1_call (fun _ => elim_New _ 2 1 (by decide) (by decide) (by decide) (by decide)) rfl (fun ⟨bm, ar, cr⟩ _ => ?_); dsimp only; rw [hM0]) | refine o1_lit_enc I [0, 1] rfl rfl rfl (fun _ => rfl) rfl rfl rfl (fun b7 => ?_) | (refine o1_call (fun hh => vec_Of _ 2 (some ⟨b7, 0, none⟩) 2 [0, 1] (by decide) (rx_box (T := 3) rfl (by decide) hh)) rfl (fun ⟨b8, a8, c8⟩ _ => ?_); dsimp only; rw [e1]) | refine o1_lit_enc B [3#8] rfl rfl rfl (fun _ => rfl) rfl rfl rfl (fun b9 => ?_) | (refine o1_call_bra bm ar cr (mrows M0) (fun hh => elim_Add _ bm 2 1 ar cr 0 M0 ⟨b8, 2, a8, c8, [true, true]⟩ (some ⟨b9, 0, none⟩) 1 1 [3#8] [none, none] ([true, true], [3#8]) 0 hk0 hv0 (RdV.own rfl (by decide) (has_tail (has_tail (has_tail hh)))) rfl (rx_box (T := 5) rfl (by decide) (has_tail (has_tail (has_tail hh)))) rfl rfl r1 f1 rfl (by decide) (TabF.up ht)) rfl (fun M1 hM1 => ?_); obtain ⟨hv1, hk1⟩ := hM1; rw [g1] at hv1) | refine o1_lit_enc I [1] rfl rfl rfl (fun _ => rfl) rfl rfl rfl (fun b12 => ?_) | (refine o1_call (fun hh => vec_Of _ 2 (some ⟨b12, 0, none⟩) 1 [1] (by decide) (rx_box (T := 3) rfl (by decide) hh)) rfl (fun ⟨b13, a13, c13⟩ _ => ?_); dsimp only; rw [e2]) | refine o1_lit_enc B [1#8] rfl rfl rfl (fun _ => rfl) rfl rfl rfl (fun b14 => ?_) | (refine o1_call_bra bm ar cr (mrows M1) (fun hh => elim_Add _ bm 2 1 ar cr 1 M1 ⟨b13, 2, a13, c13, [false, true]⟩ (some ⟨b14, 0, none⟩) 1 1 [1#8] [some ([true, true], [3#8]), none] ([false, true], [1#8]) 1 hk1 hv1 (RdV.own rfl (by decide) (has_tail (has_tail (has_tail hh)))) rfl (rx_box (T := 5) rfl (by decide) (has_tail (has_tail (has_tail hh)))) rfl rfl r2 f2 rfl (by decide) (TabF.up ht)) rfl (fun M2 hM2 => ?_); obtain ⟨hv2, hk2⟩ := hM2; rw [g2] at hv2; obtain ⟨R, hR1, hR2⟩ := all_some (ys := [([true, false], [2#8]), ([false, true], [1#8])]) hv2) | (refine o1_call (fun hh => elim_Solve _ bm 2 1 ar cr M2 R (RdM.own hk2 hh) hR1) rfl (fun ⟨a4, c4, ps⟩ hps => ?_); dsimp only at hps ⊢) | refine o1_pick_t rfl rfl ?_ | refine o1_pick_f rfl rfl ?_ | refine ox_load rfl (by rfl) ?_ | refine ox_load_enc rfl (by first | omega | (simp; omega)) ?_ | refine ox_load_any rfl (by assumption) ?_ | refine o1_len rfl ?_ | refine o1_eql_t rfl rfl (by omega) ?_ | refine o1_eql_f rfl rfl (by omega) ?_ | refine o1_eql rfl rfl (fun _ => ?_) (fun _ => ?_) | refine o1_lit_B rfl rfl rfl rfl rfl (fun _ => ?_))
  have hps2 : ps.map (·.l) = [[2#8], [1#8]] := by
    rw [hps]
    have := congrArg (List.map (·.2)) hR2
    rw [List.map_map] at this
    exact this
  have hpl : ps.length = 2 := by have := congrArg List.length hps2; simpa using this
  have hp1 : 0 < ps.length := by omega
  have hp2 : ps[0].l = [2#8] := by
    have : (ps.map (·.l))[0]? = some [2#8] := by rw [hps2]; rfl
    simpa [List.getElem?_map, hp1] using this
  have hp3 : Bs ps[0] = .slice ps[0].ad 1 ps[0].cap := by show Value.slice _ _ _ = _; rw [hp2]; rfl
  have hp4 : ps[0].l[0]? = some 2#8 := by rw [hp2]; rfl
  repeat' (first | refine ls_of rfl ?_ | refine ls_of_no ?_ | refine ls_guard_yes rfl rfl ?_ | refine ls_guard_no rfl rfl rfl rfl ?_ | refine ls_guard_un rfl rfl rfl ?_ | refine o1_move rfl ?_ | refine o1_assign rfl ?_ | refine st_seq ?_ | refine st_region ?_ | refine st_block ?_ | refine st_skip ?_ | refine st_ret ?_ | refine st_exit ?_ | refine st_cond_t rfl ?_ | refine st_cond_f rfl ?_ | refine st_cond rfl (fun _ => ?_) (fun _ => ?_) | refine ls_nil ?_ | refine nx_seq ?_ | refine nx_blk ?_ | refine nx_fn ?_ | refine nx_rounds ?_ | refine xt_seq ?_ | refine xt_here ?_ | refine xt_on rfl ?_ | refine xt_rounds ?_ | refine xt_cut ?_ | refine rt_seq ?_ | refine rt_blk ?_ | refine rt_rounds ?_ | refine rt_cut ?_ | refine o1_call (fun hh => (elim_Full _ bm 2 2 (RdM.own hk2 hh).fk (RdM.own hk2 hh).fn).bv (b := true) (by decide)) rfl (fun _ _ => ?_) | refine o1_eql_t rfl rfl (by first | omega | decide) ?_ | refine o1_iah (enc := Bs) (ad := a4) (c := c4) (xs := ps) 0 rfl rfl rx_row rfl rfl hp1 ?_ | (refine o1_load_iah (enc := Bs) (ad := a4) (c := c4) (xs := ps) 0 rfl rx_row hp1 ?_; rw [hp3]) | refine o1_iah (enc := B) (xs := ps[0].l) 0 rfl rfl (fun hh => pcs_read (T := 5) (ls := ps) (List.getElem_mem _) hh) (by rw [hp2]; rfl) rfl (by rw [hp2]; decide) ?_ | refine o1_load_hv (enc := B) (c := ps[0].cap) 0 _ rfl (fun hh => pcs_read (T := 5) (ls := ps) (List.getElem_mem _) hh) hp4 ?_ | refine o1_pick_t rfl rfl ?_ | refine o1_pick_f rfl rfl ?_ | refine ox_load rfl (by rfl) ?_ | refine ox_load_enc rfl (by first | omega | (simp; omega)) ?_ | refine ox_load_any rfl (by assumption) ?_ | refine o1_len rfl ?_ | refine o1_eql_t rfl rfl (by omega) ?_ | refine o1_eql_f rfl rfl (by omega) ?_ | refine o1_eql rfl rfl (fun _ => ?_) (fun _ => ?_) | refine o1_lit_B rfl rfl rfl rfl rfl (fun _ => ?_))
  refine rt_tmp () rfl rfl rfl trivial ?_
  (try dsimp only [List.cons_append, List.nil_append, List.singleton_append, List.append_nil]); (repeat (first | exact Ent.nil | exact Ent.refl _ | (apply Ent.cons; (repeat (first | exact Sel.here | apply Sel.there)))))
end Go.Dp
