/-
  vec.Copy, Xor, walked.
  Conditions: those that stand in each theorem.
-/
import Derived.Test.YtlmmnnhbnbakgaaDoorV6
import Derived.Test.YtlmmnnhbnbakgaaDoorV4s
set_option linter.unusedVariables false
set_option linter.unusedSimpArgs false
namespace Go.Dp
open Go.RowKit Go.Proofs
def rtV6c_0 : List Row := [⟨some 5, [], [], none⟩, ⟨some 6, [0], [0], none⟩, ⟨some 7, [1], [0, 1], none⟩, ⟨some 8, [2], [0, 1, 2], none⟩, ⟨some 9, [], [], none⟩, ⟨some 10, [4], [4], none⟩, ⟨some 11, [5], [4, 5], none⟩, ⟨some 12, [6], [4, 5, 6], none⟩, ⟨some 13, [7], [4, 5, 6, 7], none⟩, ⟨some 14, [3, 8], [0, 1, 2, 3, 4, 5, 6, 7, 8], none⟩, ⟨some 15, [9], [0, 1, 2, 3, 4, 5, 6, 7, 8, 9], none⟩, ⟨some 2, [10, 8, 0, 1, 2, 3, 4, 5, 6, 7, 8, 9, 10], [0, 1, 2, 3, 4, 5, 6, 7, 8, 9, 10], none⟩]
def rtV6c_1 : List Row := [⟨some 6, [], [], none⟩, ⟨some 7, [0], [0], none⟩, ⟨some 8, [1], [0, 1], none⟩, ⟨some 9, [2], [0, 1, 2], some (2, false)⟩, ⟨some 10, [3, 2], [0, 1, 2, 3], some (2, false)⟩, ⟨some 11, [2, 4], [0, 1, 2, 3, 4], none⟩, ⟨some 12, [5, 2], [0, 1, 2, 3, 4, 5], none⟩, ⟨some 13, [6], [0, 1, 2, 3, 4, 5, 6], some (6, false)⟩, ⟨some 14, [7, 6], [0, 1, 2, 3, 4, 5, 6, 7], some (6, false)⟩, ⟨some 15, [8, 6], [0, 1, 2, 3, 4, 5, 6, 7, 8], some (6, false)⟩, ⟨some 16, [9, 6], [0, 1, 2, 3, 4, 5, 6, 7, 8, 9], some (6, false)⟩, ⟨some 17, [6], [0, 1, 2, 3, 4, 5, 6], some (6, false)⟩, ⟨some 18, [11, 6], [0, 1, 2, 3, 4, 5, 6, 11], some (6, false)⟩, ⟨some 19, [12, 6], [0, 1, 2, 3, 4, 5, 6, 11, 12], some (6, false)⟩, ⟨some 20, [13, 6], [0, 1, 2, 3, 4, 5, 6, 11, 12, 13], some (6, false)⟩, ⟨some 21, [10, 14, 6], [0, 1, 2, 3, 4, 5, 6, 7, 8, 9, 10, 11, 12, 13, 14], some (6, false)⟩, ⟨some 22, [6, 15], [0, 1, 2, 3, 4, 5, 6, 7, 8, 9, 10, 11, 12, 13, 14, 15], none⟩]
def rtV6c_2 : List Row := [⟨some 31, [], [], none⟩, ⟨some 32, [0], [0], none⟩, ⟨some 33, [1], [0, 1], none⟩, ⟨some 34, [2], [0, 1, 2], none⟩, ⟨some 35, [], [], none⟩, ⟨some 36, [3, 4], [0, 1, 2, 3, 4], none⟩, ⟨some 37, [5], [0, 1, 2, 3, 4, 5], none⟩, ⟨some 38, [], [], none⟩, ⟨some 39, [7], [7], none⟩, ⟨some 40, [8], [7, 8], none⟩, ⟨some 41, [9], [7, 8, 9], none⟩, ⟨some 42, [], [], none⟩, ⟨some 43, [10, 11], [7, 8, 9, 10, 11], none⟩, ⟨some 44, [12], [7, 8, 9, 10, 11, 12], none⟩, ⟨some 45, [6, 13], [0, 1, 2, 3, 4, 5, 6, 7, 8, 9, 10, 11, 12, 13], none⟩, ⟨some 46, [3, 4, 0, 1, 2, 3, 4, 5, 6, 7, 8, 9, 10, 11, 12, 13, 14], [0, 1, 2, 3, 4, 5, 6, 7, 8, 9, 10, 11, 12, 13, 14], none⟩, ⟨none, [15, 14, 0, 1, 2, 3, 4, 5, 6, 7, 8, 9, 10, 11, 12, 13, 14], [0, 1, 2, 3, 4, 5, 6, 7, 8, 9, 10, 11, 12, 13, 14, 15], none⟩]
theorem clone_W (H : List Hl) (ad : Option Addr) (c m : Nat) (l : List (BitVec 64)) (h : Rs (stars H) W8 ad c l) (hm : m = l.length) (hb : m ≤ 1000) :
    Spec Tryd.prog 50 [.slice ad m c] H (fun _ : Option Addr × Nat => True) (fun r => .slice r.1 m r.2) (fun r => .row 24 1 (.slice r.1 m r.2) m (l.map W8) :: H) := by
  refine spec_pure (res := fun r : Option Addr × Nat => [.row 24 1 (.slice r.1 m r.2) m (l.map W8)]) H Tryd.func50 rfl Tryd.ntmps50 (by kernel_rfl) rfl (fun W => ?_)
  cases ad with
  | none =>
    have hl : l = [] := by
      cases l with
      | nil => rfl
      | cons a l => obtain ⟨x, hx⟩ := h.sm (by simp); cases hx
    subst hl
    subst hm
    repeat' (first | refine ls_of rfl ?_ | refine ls_of_no ?_ | refine ls_guard_yes rfl rfl ?_ | refine ls_guard_no rfl rfl rfl rfl ?_ | refine ls_guard_un rfl rfl rfl ?_ | refine o1_move rfl ?_ | refine o1_assign rfl ?_ | refine st_seq ?_ | refine st_region ?_ | refine st_block ?_ | refine st_skip ?_ | refine st_ret ?_ | refine st_exit ?_ | refine st_cond_t rfl ?_ | refine st_cond_f rfl ?_ | refine st_cond rfl (fun _ => ?_) (fun _ => ?_) | refine ls_nil ?_ | refine nx_seq ?_ | refine nx_blk ?_ | refine nx_fn ?_ | refine nx_rounds ?_ | refine xt_seq ?_ | refine xt_here ?_ | refine xt_on rfl ?_ | refine xt_rounds ?_ | refine xt_cut ?_ | refine rt_seq ?_ | refine rt_blk ?_ | refine rt_rounds ?_ | refine rt_cut ?_ | refine o1_slice_nil rfl ?_ | refine o1_lit_B rfl rfl rfl rfl rfl (fun _ => ?_) | refine ox_append rfl rfl (rx_box rfl (by first | decide | omega)) rfl rfl (fun _ => rfl) (by omega) (by omega) (fun _ _ => ?_) | refine ox_append rfl rfl (rx_any (by assumption)) rfl rfl (fun _ => rfl) (by omega) (by omega) (fun _ _ => ?_) | refine ox_append rfl rfl rx_row rfl rfl (fun _ => rfl) (by omega) (by omega) (fun _ _ => ?_))
    refine (rt_ent (ent_nil 24 W8) ?_)
    refine rt_tmp (none, 0) rfl rfl rfl trivial ?_
    (try dsimp only [List.cons_append, List.nil_append, List.singleton_append, List.append_nil]); (repeat (first | exact Ent.nil | exact Ent.refl _ | (apply Ent.cons; (repeat (first | exact Sel.here | apply Sel.there)))))
  | some a =>
    repeat' (first | refine ls_of rfl ?_ | refine ls_of_no ?_ | refine ls_guard_yes rfl rfl ?_ | refine ls_guard_no rfl rfl rfl rfl ?_ | refine ls_guard_un rfl rfl rfl ?_ | refine o1_move rfl ?_ | refine o1_assign rfl ?_ | refine st_seq ?_ | refine st_region ?_ | refine st_block ?_ | refine st_skip ?_ | refine st_ret ?_ | refine st_exit ?_ | refine st_cond_t rfl ?_ | refine st_cond_f rfl ?_ | refine st_cond rfl (fun _ => ?_) (fun _ => ?_) | refine ls_nil ?_ | refine nx_seq ?_ | refine nx_blk ?_ | refine nx_fn ?_ | refine nx_rounds ?_ | refine xt_seq ?_ | refine xt_here ?_ | refine xt_on rfl ?_ | refine xt_rounds ?_ | refine xt_cut ?_ | refine rt_seq ?_ | refine rt_blk ?_ | refine rt_rounds ?_ | refine rt_cut ?_ | refine o1_lit_enc W8 ([] : List (BitVec 64)) rfl rfl rfl (fun _ => rfl) rfl rfl rfl (fun _ => ?_) | refine ox_append_box (enc := W8) (xs := ([] : List (BitVec 64))) rfl rfl rfl rfl (rx_any h) hm rfl (fun _ => rfl) (by omega) (by omega) (fun _ _ => ?_) | refine o1_slice_nil rfl ?_ | refine o1_lit_B rfl rfl rfl rfl rfl (fun _ => ?_) | refine ox_append rfl rfl (rx_box rfl (by first | decide | omega)) rfl rfl (fun _ => rfl) (by omega) (by omega) (fun _ _ => ?_) | refine ox_append rfl rfl (rx_any (by assumption)) rfl rfl (fun _ => rfl) (by omega) (by omega) (fun _ _ => ?_) | refine ox_append rfl rfl rx_row rfl rfl (fun _ => rfl) (by omega) (by omega) (fun _ _ => ?_))
    refine rt_tmp (_, _) rfl rfl (by simp only [Nat.zero_add]; rfl) trivial ?_
    simp only [Nat.zero_add, List.nil_append]
    (try dsimp only [List.cons_append, List.nil_append, List.singleton_append, List.append_nil]); (repeat (first | exact Ent.nil | exact Ent.refl _ | (apply Ent.cons; (repeat (first | exact Sel.here | apply Sel.there)))))
theorem vec_Copy (H : List Hl) (v : VD) (h : RdV (stars H) v) :
    Spec Tryd.prog 16 [Pv v] H (fun _ : Nat × Option Addr × Nat => True) (fun r => .pointer (some ⟨r.1, 0, none⟩)) (fun r => vB r.1 v.n r.2.1 r.2.2 :: vR v.n r.2.1 r.2.2 v.l :: H) := by
  refine spec_pure (res := fun r : Nat × Option Addr × Nat => [vB r.1 v.n r.2.1 r.2.2, vR v.n r.2.1 r.2.2 v.l]) H Tryd.func16 rfl Tryd.ntmps16 (by kernel_rfl) rfl (fun W => ?_)
  have h4 := nw_4 h.ok.hi
  have hwl := h.ok.words
  have e1 := h.n
  have e2 := h.s
  repeat' (first | refine ls_of rfl ?_ | refine ls_of_no ?_ | refine ls_guard_yes rfl rfl ?_ | refine ls_guard_no rfl rfl rfl rfl ?_ | refine ls_guard_un rfl rfl rfl ?_ | refine o1_move rfl ?_ | refine o1_assign rfl ?_ | refine st_seq ?_ | refine st_region ?_ | refine st_block ?_ | refine st_skip ?_ | refine st_ret ?_ | refine st_exit ?_ | refine st_cond_t rfl ?_ | refine st_cond_f rfl ?_ | refine st_cond rfl (fun _ => ?_) (fun _ => ?_) | refine ls_nil ?_ | refine nx_seq ?_ | refine nx_blk ?_ | refine nx_fn ?_ | refine nx_rounds ?_ | refine xt_seq ?_ | refine xt_here ?_ | refine xt_on rfl ?_ | refine xt_rounds ?_ | refine xt_cut ?_ | refine rt_seq ?_ | refine rt_blk ?_ | refine rt_rounds ?_ | refine rt_cut ?_ | refine o1_peql rfl rfl ?_ | refine o1_fieldAddr rfl ?_ | refine ox_load rfl (by rfl) ?_ | refine ox_load_enc rfl (by first | omega | (simp; omega)) ?_ | refine ox_load_any rfl (by assumption) ?_ | refine o1_box rfl rfl (fun _ => ?_) | refine o1_slice_nil rfl ?_ | refine o1_buildx rfl (by simp only [buildL, putL, List.set_cons_zero, List.set_cons_succ, List.getElem?_cons_zero, List.getElem?_cons_succ, Option.getD_some, Value.cells, Nat.zero_add, Nat.reduceAdd]; rfl) (fun _ => by kernel_rfl) ?_ | refine o1_nilCheck rfl ?_)
  refine st_stages [(0, _)] rtV6c_0 [8, 10] [⟨[0, 1, 2, 3, 4, 5, 6, 7], [], some 8⟩, ⟨[9], [0, 1, 2, 3], some 10⟩, ⟨[11], [], none⟩] mixed (cov_cons rfl rfl cov_nil) (by kernel_rfl) (by kernel_rfl) ?_
  all_goals refine wk_ch ?_
  all_goals (refine xp1 0 rfl rfl rfl rfl (by refine o1_move rfl fz) ?_)
  all_goals (refine xp1 5 rfl rfl rfl rfl (by refine o1_nilCheck rfl fz) ?_)
  all_goals (refine xp1 6 rfl rfl rfl rfl (by refine o1_fieldAddr rfl fz) ?_)
  all_goals (refine xp1 7 rfl rfl rfl rfl (by first | refine ox_load_any rfl e1 fz | refine ox_load_any rfl e2 fz | refine ox_load rfl (by rfl) fz | refine ox_load_enc rfl (by first | omega | (simp; omega)) fz | refine ox_load_any rfl (by assumption) fz) ?_)
  all_goals (refine xp1 0 rfl rfl rfl rfl (by refine o1_move rfl fz) ?_)
  all_goals (refine xp1 9 rfl rfl rfl rfl (by refine o1_nilCheck rfl fz) ?_)
  all_goals (refine xp1 10 rfl rfl rfl rfl (by refine o1_fieldAddr rfl fz) ?_)
  all_goals (refine xp1 11 rfl rfl rfl rfl (by first | refine ox_load_any rfl e1 fz | refine ox_load_any rfl e2 fz | refine ox_load rfl (by rfl) fz | refine ox_load_enc rfl (by first | omega | (simp; omega)) fz | refine ox_load_any rfl (by assumption) fz) ?_)
  all_goals refine op_nil ?_
  all_goals refine re_nil ?_
  all_goals first | (refine ch_run (E' := [(12, _)]) rfl (gd_r0 rfl) rfl (cov_cons rfl rfl cov_nil) ?_; (first | (refine o1_call (fun _ => clone_W _ v.a v.c (nw v.n) (words v.l) (Rs.up h.w) hwl.symm (by omega)) rfl (fun ⟨a2, c2⟩ _ => ?_))))
  all_goals refine wk_ch ?_
  all_goals (refine xp2 8 13 rfl rfl rfl rfl rfl (by (refine o1_buildx rfl (by simp only [buildL, putL, List.set_cons_zero, List.set_cons_succ, List.getElem?_cons_zero, List.getElem?_cons_succ, Option.getD_some, Value.cells, Nat.zero_add, Nat.reduceAdd]; rfl) (fun _ => by kernel_rfl) ?_; all_goals exact fz)) ?_)
  all_goals refine op_nil ?_
  all_goals (refine xq1 0 rfl rfl rfl rfl rfl (by refine o1_move rfl fz) ?_)
  all_goals (refine xq1 5 rfl rfl rfl rfl rfl (by refine o1_nilCheck rfl fz) ?_)
  all_goals (refine xq1 6 rfl rfl rfl rfl rfl (by refine o1_fieldAddr rfl fz) ?_)
  all_goals (refine xq1 7 rfl rfl rfl rfl rfl (by first | refine ox_load_any rfl e1 fz | refine ox_load_any rfl e2 fz | refine ox_load rfl (by rfl) fz | refine ox_load_enc rfl (by first | omega | (simp; omega)) fz | refine ox_load_any rfl (by assumption) fz) ?_)
  all_goals refine re_nil ?_
  all_goals first | (refine ch_run (E' := [(14, _)]) rfl (gd_r0 rfl) rfl (cov_cons rfl rfl cov_nil) ?_; (first | (refine o1_box rfl rfl (fun b2 => ?_)) | refine o1_box rfl rfl (fun _ => ?_)))
  all_goals refine wk_end ?_
  all_goals (refine xp1 15 rfl rfl rfl rfl (by refine o1_assign rfl fz) ?_)
  all_goals refine op_nil ?_
  all_goals refine re_nil ?_
  all_goals dsimp only [List.cons_append, List.nil_append]
  repeat' (first | refine ls_of rfl ?_ | refine ls_of_no ?_ | refine ls_guard_yes rfl rfl ?_ | refine ls_guard_no rfl rfl rfl rfl ?_ | refine ls_guard_un rfl rfl rfl ?_ | refine o1_move rfl ?_ | refine o1_assign rfl ?_ | refine st_seq ?_ | refine st_region ?_ | refine st_block ?_ | refine st_skip ?_ | refine st_ret ?_ | refine st_exit ?_ | refine st_cond_t rfl ?_ | refine st_cond_f rfl ?_ | refine st_cond rfl (fun _ => ?_) (fun _ => ?_) | refine ls_nil ?_ | refine nx_seq ?_ | refine nx_blk ?_ | refine nx_fn ?_ | refine nx_rounds ?_ | refine xt_seq ?_ | refine xt_here ?_ | refine xt_on rfl ?_ | refine xt_rounds ?_ | refine xt_cut ?_ | refine rt_seq ?_ | refine rt_blk ?_ | refine rt_rounds ?_ | refine rt_cut ?_ | refine o1_fieldAddr rfl ?_ | refine ox_load rfl (by rfl) ?_ | refine ox_load_enc rfl (by first | omega | (simp; omega)) ?_ | refine ox_load_any rfl (by assumption) ?_ | refine o1_box rfl rfl (fun _ => ?_) | refine o1_slice_nil rfl ?_ | refine o1_buildx rfl (by simp only [buildL, putL, List.set_cons_zero, List.set_cons_succ, List.getElem?_cons_zero, List.getElem?_cons_succ, Option.getD_some, Value.cells, Nat.zero_add, Nat.reduceAdd]; rfl) (fun _ => by kernel_rfl) ?_ | refine o1_nilCheck rfl ?_)
  refine rt_tmp (b2, a2, c2) rfl rfl rfl trivial ?_
  (try dsimp only [List.cons_append, List.nil_append, List.singleton_append, List.append_nil]); (repeat (first | exact Ent.nil | exact Ent.refl _ | (apply Ent.cons; (repeat (first | exact Sel.here | apply Sel.there)))))
theorem vec_Xor (H : List Hl) (b n : Nat) (a : Option Addr) (c : Nat) (l : List Bool) (w : VD) (hl : l.length = n) (hn : n ≤ 256) (hw : RdV (stars H) w) (hwn : w.n = n) :
    Spec Tryd.prog 33 [.pointer (some ⟨b, 0, none⟩), Pv w] (vB b n a c :: vR n a c l :: H) (fun _ : Unit => True) (fun _ => .bool true) (fun _ => vB b n a c :: vR n a c (xorV l w.l) :: H) := by
  refine spec_fn (res := fun _ : Unit => [vB b n a c, vR n a c (xorV l w.l)]) [vB b n a c, vR n a c l] H Tryd.func33 rfl Tryd.ntmps33 (by kernel_rfl) rfl (fun W => ?_)
  dsimp only [List.cons_append, List.nil_append]
  have h4 := nw_4 hn
  have e1 := hw.n
  have e2 := hw.s
  have e3 := hw.w
  have hwl := hw.ok.words
  rw [hwn] at e1 e2 hwl
  have hll : l.length = w.l.length := by rw [hl, hw.ok.len, hwn]
  obtain ⟨L0, hL0⟩ : ∃ L0, words l = L0 := ⟨_, rfl⟩
  obtain ⟨L1, hL1⟩ : ∃ L1, words (xorV l w.l) = L1 := ⟨_, rfl⟩
  obtain ⟨M, hM⟩ : ∃ M, words w.l = M := ⟨_, rfl⟩
  rw [hM] at e3 hwl
  have hl0 : L0.length = nw n := by rw [← hL0, words_len, hl]
  have hl1 : L1.length = nw n := by rw [← hL1, words_len, xorV_len hll, hl]
  have hz : L1.length = L0.length := by omega
  have hx : L1 = List.zipWith (· ^^^ ·) L0 M := by rw [← hL1, ← hL0, ← hM]; exact words_xor hll
  dsimp only [vR]
  rw [hL0]
  repeat' (first | refine ls_of rfl ?_ | refine ls_of_no ?_ | refine ls_guard_yes rfl rfl ?_ | refine ls_guard_no rfl rfl rfl rfl ?_ | refine ls_guard_un rfl rfl rfl ?_ | refine o1_move rfl ?_ | refine o1_assign rfl ?_ | refine st_seq ?_ | refine st_region ?_ | refine st_block ?_ | refine st_skip ?_ | refine st_ret ?_ | refine st_exit ?_ | refine st_cond_t rfl ?_ | refine st_cond_f rfl ?_ | refine st_cond rfl (fun _ => ?_) (fun _ => ?_) | refine ls_nil ?_ | refine nx_seq ?_ | refine nx_blk ?_ | refine nx_fn ?_ | refine nx_rounds ?_ | refine xt_seq ?_ | refine xt_here ?_ | refine xt_on rfl ?_ | refine xt_rounds ?_ | refine xt_cut ?_ | refine rt_seq ?_ | refine rt_blk ?_ | refine rt_rounds ?_ | refine rt_cut ?_ | refine o1_pick_t rfl rfl ?_ | refine o1_pick_f rfl rfl ?_ | refine o1_fieldAddr rfl ?_ | refine ox_load rfl (by rfl) ?_ | refine ox_load_enc rfl (by first | omega | (simp; omega)) ?_ | refine ox_load_any rfl (by assumption) ?_ | refine o1_len rfl ?_ | refine o1_add rfl rfl (by omega) ?_ | refine o1_lss_t rfl rfl (by omega) ?_ | refine o1_lss_f rfl rfl (by omega) ?_ | refine o1_lss rfl rfl (fun _ => ?_) (fun _ => ?_) | refine o1_neq_t rfl rfl (by omega) ?_ | refine o1_neq_f rfl rfl (by omega) ?_ | refine o1_neq rfl rfl (fun _ => ?_) (fun _ => ?_) | refine o1_uxor rfl rfl ?_ | refine o1_slice_nil rfl ?_ | refine ox_store_enc B rfl rfl (by first | omega | (simp; done) | (simp; omega)) rfl ?_ | refine ox_stores rfl rfl (by first | omega | (simp; done) | (simp; omega)) rfl (by first | (simp only [List.set_cons_zero, List.set_cons_succ, Nat.zero_add, Nat.reduceAdd]; rfl) | rfl) ?_ | refine o1_nilCheck rfl ?_)
  refine st_stages [(0, _), (1, _)] rtV6c_1 [] [⟨[0, 1, 2, 3, 4, 5, 6, 7, 8, 9, 10, 11, 12, 13, 14, 15, 16], [], none⟩] mixed (cov_cons rfl rfl (cov_cons rfl rfl cov_nil)) (by kernel_rfl) (by kernel_rfl) ?_
  all_goals refine wk_end ?_
  all_goals (refine xp1 0 rfl rfl rfl rfl (by first | refine o1_peql rfl rfl fz | refine o1_move rfl fz) ?_)
  all_goals (refine xp1 6 rfl rfl rfl rfl (by first | refine o1_peql rfl rfl fz | refine o1_slice_nil rfl fz) ?_)
  all_goals (refine xp1 7 rfl rfl rfl rfl (by first | refine o1_peql rfl rfl fz | refine o1_move rfl fz) ?_)
  all_goals first | (refine xpo1 rfl rfl rfl rfl ?_) | (refine xpo2 rfl rfl rfl rfl ?_) | (refine xpg1 1 rfl rfl rfl rfl rfl rfl (by first | refine o1_peql rfl rfl fz | refine o1_move rfl fz) ?_)
  all_goals first | (refine xpo1 rfl rfl rfl rfl ?_) | (refine xpo2 rfl rfl rfl rfl ?_) | (refine xpg1 9 rfl rfl rfl rfl rfl rfl (by first | refine o1_peql rfl rfl fz | refine o1_slice_nil rfl fz) ?_)
  all_goals (refine xp2 8 10 rfl rfl rfl rfl rfl (by first | refine o1_peql rfl rfl fz | refine o1_pick_t rfl rfl fz | refine o1_pick_f rfl rfl fz) ?_)
  all_goals (refine xp1 11 rfl rfl rfl rfl (by first | refine o1_peql rfl rfl fz | refine o1_move rfl fz) ?_)
  all_goals first | (refine xpo1 rfl rfl rfl rfl ?_) | (refine xpo2 rfl rfl rfl rfl ?_) | (refine xpg1 0 rfl rfl rfl rfl rfl rfl (by first | refine o1_peql rfl rfl fz | refine o1_move rfl fz) ?_)
  all_goals first | (refine xpo1 rfl rfl rfl rfl ?_) | (refine xpo2 rfl rfl rfl rfl ?_) | (refine xpg1 13 rfl rfl rfl rfl rfl rfl (by first | refine o1_peql rfl rfl fz | refine o1_nilCheck rfl fz) ?_)
  all_goals first | (refine xpo1 rfl rfl rfl rfl ?_) | (refine xpo2 rfl rfl rfl rfl ?_) | (refine xpg1 14 rfl rfl rfl rfl rfl rfl (by first | refine o1_peql rfl rfl fz | refine o1_fieldAddr rfl fz) ?_)
  all_goals first | (refine xpo1 rfl rfl rfl rfl ?_) | (refine xpo2 rfl rfl rfl rfl ?_) | (refine xpg1 15 rfl rfl rfl rfl rfl rfl (by first | refine o1_peql rfl rfl fz | refine ox_load_any rfl e1 fz | refine ox_load rfl (by rfl) fz | refine ox_load_enc rfl (by first | omega | (simp; omega)) fz | refine ox_load_any rfl (by assumption) fz) ?_)
  all_goals first | (refine xpo1 rfl rfl rfl rfl ?_) | (refine xpo2 rfl rfl rfl rfl ?_) | (refine xpg1 1 rfl rfl rfl rfl rfl rfl (by first | refine o1_peql rfl rfl fz | refine o1_move rfl fz) ?_)
  all_goals first | (refine xpo1 rfl rfl rfl rfl ?_) | (refine xpo2 rfl rfl rfl rfl ?_) | (refine xpg1 17 rfl rfl rfl rfl rfl rfl (by first | refine o1_peql rfl rfl fz | refine o1_nilCheck rfl fz) ?_)
  all_goals first | (refine xpo1 rfl rfl rfl rfl ?_) | (refine xpo2 rfl rfl rfl rfl ?_) | (refine xpg1 18 rfl rfl rfl rfl rfl rfl (by first | refine o1_peql rfl rfl fz | refine o1_fieldAddr rfl fz) ?_)
  all_goals first | (refine xpo1 rfl rfl rfl rfl ?_) | (refine xpo2 rfl rfl rfl rfl ?_) | (refine xpg1 19 rfl rfl rfl rfl rfl rfl (by first | refine o1_peql rfl rfl fz | refine ox_load_any rfl e1 fz | refine ox_load rfl (by rfl) fz | refine ox_load_enc rfl (by first | omega | (simp; omega)) fz | refine ox_load_any rfl (by assumption) fz) ?_)
  all_goals first | (refine xpo1 rfl rfl rfl rfl ?_) | (refine xpo2 rfl rfl rfl rfl ?_) | (refine xpg2 16 20 rfl rfl rfl rfl rfl rfl rfl (by first | refine o1_peql rfl rfl fz | refine o1_neq_f rfl rfl rfl fz | refine o1_neq_t rfl rfl (by omega) fz | refine o1_neq_f rfl rfl (by omega) fz | refine o1_neq_d rfl rfl fz) ?_)
  all_goals (refine xp2 12 21 rfl rfl rfl rfl rfl (by first | refine o1_peql rfl rfl fz | refine o1_pick_t rfl rfl fz | refine o1_pick_f rfl rfl fz) ?_)
  all_goals refine op_nil ?_
  all_goals refine re_nil ?_
  all_goals dsimp only [List.cons_append, List.nil_append]
  repeat' (first | refine ls_of rfl ?_ | refine ls_of_no ?_ | refine ls_guard_yes rfl rfl ?_ | refine ls_guard_no rfl rfl rfl rfl ?_ | refine ls_guard_un rfl rfl rfl ?_ | refine o1_move rfl ?_ | refine o1_assign rfl ?_ | refine st_seq ?_ | refine st_region ?_ | refine st_block ?_ | refine st_skip ?_ | refine st_ret ?_ | refine st_exit ?_ | refine st_cond_t rfl ?_ | refine st_cond_f rfl ?_ | refine st_cond rfl (fun _ => ?_) (fun _ => ?_) | refine ls_nil ?_ | refine nx_seq ?_ | refine nx_blk ?_ | refine nx_fn ?_ | refine nx_rounds ?_ | refine xt_seq ?_ | refine xt_here ?_ | refine xt_on rfl ?_ | refine xt_rounds ?_ | refine xt_cut ?_ | refine rt_seq ?_ | refine rt_blk ?_ | refine rt_rounds ?_ | refine rt_cut ?_ | refine o1_pick_t rfl rfl ?_ | refine o1_pick_f rfl rfl ?_ | refine o1_fieldAddr rfl ?_ | refine ox_load rfl (by rfl) ?_ | refine ox_load_enc rfl (by first | omega | (simp; omega)) ?_ | refine ox_load_any rfl (by assumption) ?_ | refine o1_len rfl ?_ | refine o1_add rfl rfl (by omega) ?_ | refine o1_lss_t rfl rfl (by omega) ?_ | refine o1_lss_f rfl rfl (by omega) ?_ | refine o1_lss rfl rfl (fun _ => ?_) (fun _ => ?_) | refine o1_neq_t rfl rfl (by omega) ?_ | refine o1_neq_f rfl rfl (by omega) ?_ | refine o1_neq rfl rfl (fun _ => ?_) (fun _ => ?_) | refine o1_uxor rfl rfl ?_ | refine o1_slice_nil rfl ?_ | refine ox_store_enc B rfl rfl (by first | omega | (simp; done) | (simp; omega)) rfl ?_ | refine ox_stores rfl rfl (by first | omega | (simp; done) | (simp; omega)) rfl (by first | (simp only [List.set_cons_zero, List.set_cons_succ, Nat.zero_add, Nat.reduceAdd]; rfl) | rfl) ?_ | refine o1_nilCheck rfl ?_)
  refine st_loop (S := Nat) (fun i => [(0, .pointer (some ⟨b, 0, none⟩)), (1, Pv w), (27, I (nw n)), (28, I i)]) (fun i => [vB b n a c, .row 24 1 (.slice a (nw n) c) (nw n) ((partL L1 L0 i).map W8), .any (stars H)]) (fun i => i ≤ nw n) (fun i => nw n - i) 0 (Nat.zero_le _)
    (cov_cons rfl rfl (cov_cons rfl rfl (cov_cons rfl rfl (cov_cons rfl rfl cov_nil)))) (by show Ent _ [vB b n a c, .row 24 1 (.slice a (nw n) c) (nw n) ((partL L1 L0 0).map W8), .any (stars H)]; rw [partL_zero]; (try dsimp only [List.cons_append, List.nil_append, List.singleton_append, List.append_nil]); (repeat (first | exact Ent.nil | exact Ent.refl _ | (apply Ent.cons; (repeat (first | exact Sel.here | apply Sel.there)))))) ?_
  intro i hi
  by_cases hlt : i < nw n
  · have hql := partL_len hz i
    have hka : i < (partL L1 L0 i).length := by omega
    have hpk : (partL L1 L0 i)[i] = L0[i]'(by omega) := partL_at hz (Nat.le_refl i) _
    have hset : (partL L1 L0 i).set i (L1[i]'(by omega)) = partL L1 L0 (i + 1) := partL_succ hz (by omega)
    have hmi : i < M.length := by omega
    have hxi : L0[i]'(by omega) ^^^ M[i] = L1[i]'(by omega) := by subst hx; simp
    repeat' (first | refine ls_of rfl ?_ | refine ls_of_no ?_ | refine ls_guard_yes rfl rfl ?_ | refine ls_guard_no rfl rfl rfl rfl ?_ | refine ls_guard_un rfl rfl rfl ?_ | refine o1_move rfl ?_ | refine o1_assign rfl ?_ | refine st_seq ?_ | refine st_region ?_ | refine st_block ?_ | refine st_skip ?_ | refine st_ret ?_ | refine st_exit ?_ | refine st_cond_t rfl ?_ | refine st_cond_f rfl ?_ | refine st_cond rfl (fun _ => ?_) (fun _ => ?_) | refine ls_nil ?_ | refine nx_seq ?_ | refine nx_blk ?_ | refine nx_fn ?_ | refine nx_rounds ?_ | refine xt_seq ?_ | refine xt_here ?_ | refine xt_on rfl ?_ | refine xt_rounds ?_ | refine xt_cut ?_ | refine rt_seq ?_ | refine rt_blk ?_ | refine rt_rounds ?_ | refine rt_cut ?_ | refine o1_pick_t rfl rfl ?_ | refine o1_pick_f rfl rfl ?_ | refine o1_fieldAddr rfl ?_ | refine ox_load rfl (by rfl) ?_ | refine ox_load_enc rfl (by first | omega | (simp; omega)) ?_ | refine ox_load_any rfl (by assumption) ?_ | refine o1_len rfl ?_ | refine o1_add rfl rfl (by omega) ?_ | refine o1_lss_t rfl rfl (by omega) ?_ | refine o1_lss_f rfl rfl (by omega) ?_ | refine o1_lss rfl rfl (fun _ => ?_) (fun _ => ?_) | refine o1_neq_t rfl rfl (by omega) ?_ | refine o1_neq_f rfl rfl (by omega) ?_ | refine o1_neq rfl rfl (fun _ => ?_) (fun _ => ?_) | refine o1_uxor rfl rfl ?_ | refine o1_slice_nil rfl ?_ | refine ox_store_enc B rfl rfl (by first | omega | (simp; done) | (simp; omega)) rfl ?_ | refine ox_stores rfl rfl (by first | omega | (simp; done) | (simp; omega)) rfl (by first | (simp only [List.set_cons_zero, List.set_cons_succ, Nat.zero_add, Nat.reduceAdd]; rfl) | rfl) ?_ | refine o1_nilCheck rfl ?_)
    refine st_stages [(0, _), (5, _), (1, _)] rtV6c_2 [16] [⟨[0, 1, 2, 3, 4, 5, 6, 7, 8, 9, 10, 11, 12, 13, 14, 15], [], some 16⟩, ⟨[], [], none⟩] mixed (cov_cons rfl rfl (cov_cons rfl rfl (cov_cons rfl rfl cov_nil))) (by kernel_rfl) (by kernel_rfl) ?_
    all_goals refine wk_ch ?_
    all_goals (refine xp1 0 rfl rfl rfl rfl (by refine o1_move rfl fz) ?_)
    all_goals (refine xp1 31 rfl rfl rfl rfl (by refine o1_nilCheck rfl fz) ?_)
    all_goals (refine xp1 32 rfl rfl rfl rfl (by refine o1_fieldAddr rfl fz) ?_)
    all_goals (refine xp1 33 rfl rfl rfl rfl (by first | refine ox_load_any rfl e2 fz | ((refine o1_load_iah (enc := W8) (ad := a) (c := c) (xs := partL L1 L0 i) i rfl rx_row hka ?_; rw [hpk]); all_goals exact fz) | refine o1_load_ia i rfl e3 hmi fz | refine ox_load rfl (by rfl) fz | refine ox_load_enc rfl (by first | omega | (simp; omega)) fz | refine ox_load_any rfl (by assumption) fz) ?_)
    all_goals (refine xp1 5 rfl rfl rfl rfl (by refine o1_move rfl fz) ?_)
    all_goals (refine xp2 34 35 rfl rfl rfl rfl rfl (by first | refine o1_iah (enc := W8) (ad := a) (c := c) (xs := partL L1 L0 i) i rfl rfl rx_row (by omega) rfl hka fz | refine o1_ia i rfl rfl e3 hwl.symm rfl hmi fz) ?_)
    all_goals (refine xp1 36 rfl rfl rfl rfl (by first | refine ox_load_any rfl e2 fz | ((refine o1_load_iah (enc := W8) (ad := a) (c := c) (xs := partL L1 L0 i) i rfl rx_row hka ?_; rw [hpk]); all_goals exact fz) | refine o1_load_ia i rfl e3 hmi fz | refine ox_load rfl (by rfl) fz | refine ox_load_enc rfl (by first | omega | (simp; omega)) fz | refine ox_load_any rfl (by assumption) fz) ?_)
    all_goals (refine xp1 1 rfl rfl rfl rfl (by refine o1_move rfl fz) ?_)
    all_goals (refine xp1 38 rfl rfl rfl rfl (by refine o1_nilCheck rfl fz) ?_)
    all_goals (refine xp1 39 rfl rfl rfl rfl (by refine o1_fieldAddr rfl fz) ?_)
    all_goals (refine xp1 40 rfl rfl rfl rfl (by first | refine ox_load_any rfl e2 fz | ((refine o1_load_iah (enc := W8) (ad := a) (c := c) (xs := partL L1 L0 i) i rfl rx_row hka ?_; rw [hpk]); all_goals exact fz) | refine o1_load_ia i rfl e3 hmi fz | refine ox_load rfl (by rfl) fz | refine ox_load_enc rfl (by first | omega | (simp; omega)) fz | refine ox_load_any rfl (by assumption) fz) ?_)
    all_goals (refine xp1 5 rfl rfl rfl rfl (by refine o1_move rfl fz) ?_)
    all_goals (refine xp2 41 42 rfl rfl rfl rfl rfl (by first | refine o1_iah (enc := W8) (ad := a) (c := c) (xs := partL L1 L0 i) i rfl rfl rx_row (by omega) rfl hka fz | refine o1_ia i rfl rfl e3 hwl.symm rfl hmi fz) ?_)
    all_goals (refine xp1 43 rfl rfl rfl rfl (by first | refine ox_load_any rfl e2 fz | ((refine o1_load_iah (enc := W8) (ad := a) (c := c) (xs := partL L1 L0 i) i rfl rx_row hka ?_; rw [hpk]); all_goals exact fz) | refine o1_load_ia i rfl e3 hmi fz | refine ox_load rfl (by rfl) fz | refine ox_load_enc rfl (by first | omega | (simp; omega)) fz | refine ox_load_any rfl (by assumption) fz) ?_)
    all_goals (refine xp2 37 44 rfl rfl rfl rfl rfl (by first | ((refine o1_uxor rfl rfl ?_; rw [hxi]); all_goals exact fz) | refine o1_uxor rfl rfl fz) ?_)
    all_goals (refine xp2 34 35 rfl rfl rfl rfl rfl (by first | refine o1_iah (enc := W8) (ad := a) (c := c) (xs := partL L1 L0 i) i rfl rfl rx_row (by omega) rfl hka fz | refine o1_ia i rfl rfl e3 hwl.symm rfl hmi fz) ?_)
    all_goals refine op_nil ?_
    all_goals refine re_nil ?_
    all_goals first | (refine ch_run_no (E' := [(46, _), (45, _)]) rfl (gd_r0 rfl) rfl (cov_cons rfl rfl (cov_cons rfl rfl cov_nil)) ?_; (first | (refine ox_store_rowenc (ad := a) (c := c) W8 i rfl rfl hlt rfl ?_; rw [hset]) | refine ox_store_enc B rfl rfl (by first | omega | (simp; done) | (simp; omega)) rfl ?_ | refine ox_stores rfl rfl (by first | omega | (simp; done) | (simp; omega)) rfl (by first | (simp only [List.set_cons_zero, List.set_cons_succ, Nat.zero_add, Nat.reduceAdd]; rfl) | rfl) ?_))
    all_goals refine wk_end ?_
    all_goals refine op_nil ?_
    all_goals refine re_nil ?_
    all_goals dsimp only [List.cons_append, List.nil_append]
    repeat' (first | refine ls_of rfl ?_ | refine ls_of_no ?_ | refine ls_guard_yes rfl rfl ?_ | refine ls_guard_no rfl rfl rfl rfl ?_ | refine ls_guard_un rfl rfl rfl ?_ | refine o1_move rfl ?_ | refine o1_assign rfl ?_ | refine st_seq ?_ | refine st_region ?_ | refine st_block ?_ | refine st_skip ?_ | refine st_ret ?_ | refine st_exit ?_ | refine st_cond_t rfl ?_ | refine st_cond_f rfl ?_ | refine st_cond rfl (fun _ => ?_) (fun _ => ?_) | refine ls_nil ?_ | refine nx_seq ?_ | refine nx_blk ?_ | refine nx_fn ?_ | refine nx_rounds ?_ | refine xt_seq ?_ | refine xt_here ?_ | refine xt_on rfl ?_ | refine xt_rounds ?_ | refine xt_cut ?_ | refine rt_seq ?_ | refine rt_blk ?_ | refine rt_rounds ?_ | refine rt_cut ?_ | refine o1_pick_t rfl rfl ?_ | refine o1_pick_f rfl rfl ?_ | refine o1_fieldAddr rfl ?_ | refine ox_load rfl (by rfl) ?_ | refine ox_load_enc rfl (by first | omega | (simp; omega)) ?_ | refine ox_load_any rfl (by assumption) ?_ | refine o1_len rfl ?_ | refine o1_add rfl rfl (by omega) ?_ | refine o1_lss_t rfl rfl (by omega) ?_ | refine o1_lss_f rfl rfl (by omega) ?_ | refine o1_lss rfl rfl (fun _ => ?_) (fun _ => ?_) | refine o1_neq_t rfl rfl (by omega) ?_ | refine o1_neq_f rfl rfl (by omega) ?_ | refine o1_neq rfl rfl (fun _ => ?_) (fun _ => ?_) | refine o1_uxor rfl rfl ?_ | refine o1_slice_nil rfl ?_ | refine ox_store_enc B rfl rfl (by first | omega | (simp; done) | (simp; omega)) rfl ?_ | refine ox_stores rfl rfl (by first | omega | (simp; done) | (simp; omega)) rfl (by first | (simp only [List.set_cons_zero, List.set_cons_succ, Nat.zero_add, Nat.reduceAdd]; rfl) | rfl) ?_ | refine o1_nilCheck rfl ?_)
    refine nx_again (i + 1) (by omega) (by omega) (cov_cons rfl rfl (cov_cons rfl rfl (cov_cons rfl rfl (cov_cons rfl rfl cov_nil)))) ?_
    (try dsimp only [List.cons_append, List.nil_append, List.singleton_append, List.append_nil]); (repeat (first | exact Ent.nil | exact Ent.refl _ | (apply Ent.cons; (repeat (first | exact Sel.here | apply Sel.there)))))
  · have : i = nw n := by omega
    subst this
    rw [partL_full hz hl0.symm]
    repeat' (first | refine ls_of rfl ?_ | refine ls_of_no ?_ | refine ls_guard_yes rfl rfl ?_ | refine ls_guard_no rfl rfl rfl rfl ?_ | refine ls_guard_un rfl rfl rfl ?_ | refine o1_move rfl ?_ | refine o1_assign rfl ?_ | refine st_seq ?_ | refine st_region ?_ | refine st_block ?_ | refine st_skip ?_ | refine st_ret ?_ | refine st_exit ?_ | refine st_cond_t rfl ?_ | refine st_cond_f rfl ?_ | refine st_cond rfl (fun _ => ?_) (fun _ => ?_) | refine ls_nil ?_ | refine nx_seq ?_ | refine nx_blk ?_ | refine nx_fn ?_ | refine nx_rounds ?_ | refine xt_seq ?_ | refine xt_here ?_ | refine xt_on rfl ?_ | refine xt_rounds ?_ | refine xt_cut ?_ | refine rt_seq ?_ | refine rt_blk ?_ | refine rt_rounds ?_ | refine rt_cut ?_ | refine o1_pick_t rfl rfl ?_ | refine o1_pick_f rfl rfl ?_ | refine o1_fieldAddr rfl ?_ | refine ox_load rfl (by rfl) ?_ | refine ox_load_enc rfl (by first | omega | (simp; omega)) ?_ | refine ox_load_any rfl (by assumption) ?_ | refine o1_len rfl ?_ | refine o1_add rfl rfl (by omega) ?_ | refine o1_lss_t rfl rfl (by omega) ?_ | refine o1_lss_f rfl rfl (by omega) ?_ | refine o1_lss rfl rfl (fun _ => ?_) (fun _ => ?_) | refine o1_neq_t rfl rfl (by omega) ?_ | refine o1_neq_f rfl rfl (by omega) ?_ | refine o1_neq rfl rfl (fun _ => ?_) (fun _ => ?_) | refine o1_uxor rfl rfl ?_ | refine o1_slice_nil rfl ?_ | refine ox_store_enc B rfl rfl (by first | omega | (simp; done) | (simp; omega)) rfl ?_ | refine ox_stores rfl rfl (by first | omega | (simp; done) | (simp; omega)) rfl (by first | (simp only [List.set_cons_zero, List.set_cons_succ, Nat.zero_add, Nat.reduceAdd]; rfl) | rfl) ?_ | refine o1_nilCheck rfl ?_)
    refine rt_tmp () rfl rfl rfl trivial ?_
    rw [hL1]
    (try dsimp only [List.cons_append, List.nil_append, List.singleton_append, List.append_nil]); (repeat (first | exact Ent.nil | exact Ent.refl _ | (apply Ent.cons; (repeat (first | exact Sel.here | apply Sel.there)))))
end Go.Dp
