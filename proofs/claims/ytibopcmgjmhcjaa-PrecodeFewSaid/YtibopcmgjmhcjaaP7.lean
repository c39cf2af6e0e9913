/-
  The law PrecodeFew, walked.
  Conditions: those that stand in each theorem.
-/
import Derived.Test.YtibopcmgjmhcjaaP6
set_option linter.unusedVariables false
set_option linter.unusedSimpArgs false
namespace Go.Dp
open Go.RowKit Go.Proofs
def rtP7_0 : List Row := [⟨some 25, [], [], none⟩, ⟨some 26, [0], [0], none⟩, ⟨some 27, [], [], none⟩, ⟨some 28, [2, 1], [0, 1, 2], none⟩, ⟨some 6, [1, 3, 0, 1], [0, 1, 2, 3], none⟩, ⟨some 7, [3, 4, 0, 1, 2, 3, 4], [0, 1, 2, 3, 4], none⟩]
def rtP7_1 : List Row := [⟨some 46, [], [], none⟩, ⟨some 47, [0], [0], none⟩, ⟨some 48, [], [], none⟩, ⟨some 49, [2], [2], none⟩, ⟨some 50, [1, 3], [0, 1, 2, 3], none⟩, ⟨some 51, [], [], none⟩, ⟨some 52, [], [], none⟩, ⟨some 53, [5, 6], [5, 6], none⟩, ⟨some 54, [7], [5, 6, 7], none⟩, ⟨some 55, [8], [5, 6, 7, 8], none⟩, ⟨some 56, [4, 9, 9], [0, 1, 2, 3, 4, 5, 6, 7, 8, 9], none⟩, ⟨some 9, [10, 10, 0, 1, 2, 3, 4, 5, 6, 7, 8, 9, 10], [0, 1, 2, 3, 4, 5, 6, 7, 8, 9, 10], none⟩]
def rtP7_2 : List Row := [⟨some 57, [], [], none⟩, ⟨some 58, [], [], none⟩, ⟨some 59, [], [], none⟩, ⟨some 60, [1, 2], [1, 2], none⟩, ⟨some 61, [3], [1, 2, 3], none⟩, ⟨some 62, [0, 4], [0, 1, 2, 3, 4], none⟩, ⟨some 63, [5], [0, 1, 2, 3, 4, 5], none⟩, ⟨some 64, [6, 5], [0, 1, 2, 3, 4, 5, 6], none⟩, ⟨some 65, [7], [0, 1, 2, 3, 4, 5, 6, 7], some (7, false)⟩, ⟨some 66, [8, 7, 7], [0, 1, 2, 3, 4, 5, 6, 7, 8], some (7, false)⟩, ⟨some 67, [7], [0, 1, 2, 3, 4, 5, 6, 7], some (7, false)⟩, ⟨some 68, [7], [0, 1, 2, 3, 4, 5, 6, 7], some (7, false)⟩, ⟨some 69, [10, 11, 7], [0, 1, 2, 3, 4, 5, 6, 7, 10, 11], some (7, false)⟩, ⟨some 70, [12, 7], [0, 1, 2, 3, 4, 5, 6, 7, 10, 11, 12], some (7, false)⟩, ⟨some 71, [13, 9, 7], [0, 1, 2, 3, 4, 5, 6, 7, 8, 9, 10, 11, 12, 13], some (7, false)⟩, ⟨some 72, [9, 14, 7], [0, 1, 2, 3, 4, 5, 6, 7, 8, 9, 10, 11, 12, 13, 14], some (7, false)⟩, ⟨some 73, [7, 15], [0, 1, 2, 3, 4, 5, 6, 7, 8, 9, 10, 11, 12, 13, 14, 15], none⟩]
theorem few_bits {s : BitVec 32} {K P Q j : Nat} (hj : j < Q) (hQ : Q ≤ P) : bitsOf (K + Q) (listV (rowR s (K + P) K j)) = rowR s (K + Q) K j := by
  refine bits_ext (by rw [bitsOf_len, rowR_len]) (fun i hi => ?_)
  rw [bitsOf_len] at hi
  rw [bitsOf_at _ _ _ hi, rowR_at _ _ _ _ _ hi]
  have e1 : at_ (rowR s (K + P) K j) i = parR s K j i := rowR_at _ _ _ _ _ (by omega)
  have e2 : ((i : Int) ∈ listV (rowR s (K + P) K j)) ↔ parR s K j i = true := by
    rw [listV_mem, rowR_len]
    have e3 : ((i : Int)).toNat = i := by omega
    rw [e3, e1]
    constructor
    · exact fun h => h.2.2
    · exact fun h => ⟨by omega, by omega, h⟩
  by_cases h : parR s K j i = true
  · rw [h]; exact decide_eq_true (e2.2 h)
  · rw [Bool.not_eq_true] at h
    rw [h]
    exact decide_eq_false (fun q => by rw [e2.1 q] at h; cases h)
theorem few_count {s : BitVec 32} {K P Q j : Nat} (hj : j < Q) (hQ : Q ≤ P) : countV (rowR s (K + Q) K j) = countV (rowR s (K + P) K j) := by
  have e : ∀ n, countV (rowR s (K + n) K j) = cnt (parR s K j) (K + n) := fun n => by
    rw [countV, rowR_len]
    exact cnt_congr (fun i hi => rowR_at _ _ _ _ _ hi)
  rw [e, e, show K + P = (K + Q) + (P - Q) from by omega, cnt_add _ (K + Q) (P - Q), cnt_none (f := fun i => parR s K j (K + Q + i)) (fun i hi => ?_)]
  · rfl
  · have h1 : ¬ (K + Q + i < K) := by omega
    have h2 : ¬ (K + Q + i = K + j) := by omega
    simp [parR, h1, h2]
set_option maxHeartbeats 8000000 in
theorem PrecodeFew_law (H : List Hl) (s : BitVec 32) (k p z less : Int) :
    Spec Try.prog 6 [parV s k p z, I less] H (fun _ : Unit => True) (fun _ => .bool true) (fun _ => H) := by
  refine spec_pure (res := fun _ => []) H Try.func6 rfl Try.ntmps6 (by kernel_rfl) rfl (fun W => ?_)
  have hm := sound_may k p z
  obtain ⟨q1, q2⟩ := sK_b k
  have q3 := sP_b p
  obtain ⟨q4, q5⟩ := sZ_b z
  obtain ⟨K, hK⟩ : ∃ K, sK k = K := ⟨_, rfl⟩
  obtain ⟨P, hP⟩ : ∃ P, sP p = P := ⟨_, rfl⟩
  obtain ⟨Z, hZ⟩ : ∃ Z, sZ z = Z := ⟨_, rfl⟩
  simp only [hK, hP, hZ] at hm q1 q2 q3 q4 q5
  obtain ⟨Q, hQ, hQP⟩ : ∃ Q : Nat, ((BitVec.ofInt 64 less).toNat : Int) % ((P : Int) + 1) = Q ∧ Q ≤ P := ⟨(BitVec.ofInt 64 less).toNat % (P + 1), by push_cast; rfl, by have := Nat.mod_lt (BitVec.ofInt 64 less).toNat (show 0 < P + 1 by omega); omega⟩
  have hmq : mayP K Q Z = true := by
    simp only [mayP, decide_eq_true_eq]
    omega
  repeat' (first | refine ls_of rfl ?_ | refine ls_of_no ?_ | refine ls_guard_yes rfl rfl ?_ | refine ls_guard_no rfl rfl rfl rfl ?_ | refine ls_guard_un rfl rfl rfl ?_ | refine o1_move rfl ?_ | refine o1_assign rfl ?_ | refine st_seq ?_ | refine st_region ?_ | refine st_block ?_ | refine st_skip ?_ | refine st_ret ?_ | refine st_exit ?_ | refine st_cond_t rfl ?_ | refine st_cond_f rfl ?_ | refine st_cond rfl (fun _ => ?_) (fun _ => ?_) | refine ls_nil ?_ | refine nx_seq ?_ | refine nx_blk ?_ | refine nx_fn ?_ | refine nx_rounds ?_ | refine xt_seq ?_ | refine xt_here ?_ | refine xt_on rfl ?_ | refine xt_rounds ?_ | refine xt_cut ?_ | refine rt_seq ?_ | refine rt_blk ?_ | refine rt_rounds ?_ | refine rt_cut ?_ | refine o1_box rfl rfl (fun bp => ?_) | refine o1_alloc rfl (fun bq => ?_) | (refine o1_call (fun _ => law9_sound2 _ s k p z 1#8 K P Z hK hP hZ) rfl (fun ⟨a3, c3, ls⟩ hls => ?_); dsimp only at hls ⊢) | refine o1_conv_u64 rfl (by omega) ?_ | (refine o1_rem_nn rfl rfl (by omega) ?_; rw [hQ]) | refine o1_pick_t rfl rfl ?_ | refine o1_pick_f rfl rfl ?_ | refine o1_extract rfl rfl ?_ | refine o1_fieldAddr rfl ?_ | refine ox_load rfl (by rfl) ?_ | refine ox_load_enc rfl (by first | omega | (simp; omega)) ?_ | refine ox_load_any rfl (by assumption) ?_ | refine o1_box rfl rfl (fun _ => ?_) | refine o1_len rfl ?_ | refine o1_add rfl rfl (by omega) ?_ | refine o1_lss_t rfl rfl (by omega) ?_ | refine o1_lss_f rfl rfl (by omega) ?_ | refine o1_lss rfl rfl (fun _ => ?_) (fun _ => ?_) | refine o1_neq_t rfl rfl (by omega) ?_ | refine o1_neq_f rfl rfl (by omega) ?_ | refine o1_neq rfl rfl (fun _ => ?_) (fun _ => ?_) | refine o1_bnot rfl ?_ | refine o1_unot rfl ?_ | refine o1_conv_i rfl (by omega) ?_ | refine o1_conv_ui rfl (by exact bv_small (by decide) _) ?_ | refine o1_conv_u64 rfl (by omega) ?_ | refine o1_conv_iu rfl ?_ | refine o1_rem_nn rfl rfl (by omega) ?_ | refine o1_alloc rfl (fun _ => ?_) | refine ox_store_enc B rfl rfl (by first | omega | (simp; done) | (simp; omega)) rfl ?_ | refine ox_stores rfl rfl (by first | omega | (simp; done) | (simp; omega)) rfl (by first | (simp only [List.set_cons_zero, List.set_cons_succ, Nat.zero_add, Nat.reduceAdd]; rfl) | rfl) ?_ | refine ox_store_agg rfl rfl (by rfl) (by simp) (by simp [Value.oneCell']) (by simp only [putL, List.set_cons_zero, List.set_cons_succ, Nat.zero_add, Nat.reduceAdd]; rfl) ?_ | refine ox_load_agg rfl (by simp only [Nat.zero_add, Nat.reduceAdd, List.drop_zero, List.drop_succ_cons, List.take_succ_cons, List.take_zero]; rfl) (by rfl) ?_)
  refine st_stages [(2, _), (5, _)] rtP7_0 [1, 3] [⟨[0, 2], [], some 1⟩, ⟨[], [2], some 3⟩, ⟨[4, 5], [], none⟩] mixed (cov_cons rfl rfl (cov_cons rfl rfl cov_nil)) (by kernel_rfl) (by kernel_rfl) ?_
  all_goals refine wk_ch ?_
  all_goals (refine xp1 2 rfl rfl rfl rfl (by refine ox_load_agg rfl (by simp only [Nat.zero_add, Nat.reduceAdd, List.drop_zero, List.drop_succ_cons, List.take_succ_cons, List.take_zero]; try rfl) (by rfl) fz) ?_)
  all_goals (refine xp1 5 rfl rfl rfl rfl (by refine ox_load_agg rfl (by simp only [Nat.zero_add, Nat.reduceAdd, List.drop_zero, List.drop_succ_cons, List.take_succ_cons, List.take_zero]; try rfl) (by rfl) fz) ?_)
  all_goals refine op_nil ?_
  all_goals refine re_nil ?_
  all_goals first | (refine ch_run (E' := [(25, _)]) rfl (gd_r0 rfl) rfl (cov_cons rfl rfl cov_nil) ?_; (first | (refine o1_call (fun _ => precode_Rows _ s K P Z hm) rfl (fun ⟨ar, cr, vs⟩ hr => ?_); dsimp only at hr ⊢; have ev : vs.length = P := (by have := congrArg List.length hr.1; simpa [rowsL] using this)) | (refine o1_call (fun _ => precode_Rows _ s K Q Z hmq) rfl (fun ⟨at_, ct, ws⟩ ht => ?_); dsimp only at ht ⊢; have ew : ws.length = Q := (by have := congrArg List.length ht.1; simpa [rowsL] using this))))
  all_goals refine wk_ch ?_
  all_goals refine op_nil ?_
  all_goals (refine xq1 5 rfl rfl rfl rfl rfl (by refine ox_load_agg rfl (by simp only [Nat.zero_add, Nat.reduceAdd, List.drop_zero, List.drop_succ_cons, List.take_succ_cons, List.take_zero]; try rfl) (by rfl) fz) ?_)
  all_goals refine re_nil ?_
  all_goals first | (refine ch_run (E' := [(27, _)]) rfl (gd_r0 rfl) rfl (cov_cons rfl rfl cov_nil) ?_; (first | (refine o1_call (fun _ => precode_Rows _ s K P Z hm) rfl (fun ⟨ar, cr, vs⟩ hr => ?_); dsimp only at hr ⊢; have ev : vs.length = P := (by have := congrArg List.length hr.1; simpa [rowsL] using this)) | (refine o1_call (fun _ => precode_Rows _ s K Q Z hmq) rfl (fun ⟨at_, ct, ws⟩ ht => ?_); dsimp only at ht ⊢; have ew : ws.length = Q := (by have := congrArg List.length ht.1; simpa [rowsL] using this))))
  all_goals refine wk_end ?_
  all_goals (refine xp1 26 rfl rfl rfl rfl (by refine o1_assign rfl fz) ?_)
  all_goals (refine xp1 28 rfl rfl rfl rfl (by refine o1_assign rfl fz) ?_)
  all_goals refine op_nil ?_
  all_goals refine re_nil ?_
  all_goals dsimp only [List.cons_append, List.nil_append]
  obtain ⟨hvs, hvk⟩ := hr
  obtain ⟨hws, hwk⟩ := ht
  repeat' (first | refine ls_of rfl ?_ | refine ls_of_no ?_ | refine ls_guard_yes rfl rfl ?_ | refine ls_guard_no rfl rfl rfl rfl ?_ | refine ls_guard_un rfl rfl rfl ?_ | refine o1_move rfl ?_ | refine o1_assign rfl ?_ | refine st_seq ?_ | refine st_region ?_ | refine st_block ?_ | refine st_skip ?_ | refine st_ret ?_ | refine st_exit ?_ | refine st_cond_t rfl ?_ | refine st_cond_f rfl ?_ | refine st_cond rfl (fun _ => ?_) (fun _ => ?_) | refine ls_nil ?_ | refine nx_seq ?_ | refine nx_blk ?_ | refine nx_fn ?_ | refine nx_rounds ?_ | refine xt_seq ?_ | refine xt_here ?_ | refine xt_on rfl ?_ | refine xt_rounds ?_ | refine xt_cut ?_ | refine rt_seq ?_ | refine rt_blk ?_ | refine rt_rounds ?_ | refine rt_cut ?_ | refine o1_neq_f rfl rfl (by omega) ?_ | refine o1_pick_t rfl rfl ?_ | refine o1_pick_f rfl rfl ?_ | refine o1_extract rfl rfl ?_ | refine o1_fieldAddr rfl ?_ | refine ox_load rfl (by rfl) ?_ | refine ox_load_enc rfl (by first | omega | (simp; omega)) ?_ | refine ox_load_any rfl (by assumption) ?_ | refine o1_box rfl rfl (fun _ => ?_) | refine o1_len rfl ?_ | refine o1_add rfl rfl (by omega) ?_ | refine o1_lss_t rfl rfl (by omega) ?_ | refine o1_lss_f rfl rfl (by omega) ?_ | refine o1_lss rfl rfl (fun _ => ?_) (fun _ => ?_) | refine o1_neq_t rfl rfl (by omega) ?_ | refine o1_neq_f rfl rfl (by omega) ?_ | refine o1_neq rfl rfl (fun _ => ?_) (fun _ => ?_) | refine o1_bnot rfl ?_ | refine o1_unot rfl ?_ | refine o1_conv_i rfl (by omega) ?_ | refine o1_conv_ui rfl (by exact bv_small (by decide) _) ?_ | refine o1_conv_u64 rfl (by omega) ?_ | refine o1_conv_iu rfl ?_ | refine o1_rem_nn rfl rfl (by omega) ?_ | refine o1_alloc rfl (fun _ => ?_) | refine ox_store_enc B rfl rfl (by first | omega | (simp; done) | (simp; omega)) rfl ?_ | refine ox_stores rfl rfl (by first | omega | (simp; done) | (simp; omega)) rfl (by first | (simp only [List.set_cons_zero, List.set_cons_succ, Nat.zero_add, Nat.reduceAdd]; rfl) | rfl) ?_ | refine ox_store_agg rfl rfl (by rfl) (by simp) (by simp [Value.oneCell']) (by simp only [putL, List.set_cons_zero, List.set_cons_succ, Nat.zero_add, Nat.reduceAdd]; rfl) ?_ | refine ox_load_agg rfl (by simp only [Nat.zero_add, Nat.reduceAdd, List.drop_zero, List.drop_succ_cons, List.take_succ_cons, List.take_zero]; rfl) (by rfl) ?_)
  refine st_loop (S := Nat) (fun j => [(5, .pointer (some ⟨bq, 0, none⟩)), (6, .slice ar vs.length cr), (7, .slice at_ ws.length ct), (41, .slice at_ ws.length ct), (42, I ws.length), (43, I j)])
    (fun j => [.row 37 1 (.slice ar vs.length cr) vs.length (vs.map Pv), .any (vecs vs), .row 37 1 (.slice at_ ws.length ct) ws.length (ws.map Pv), .any (vecs ws), .box bq 24 [W4 s, I K, I Q, I Z], .any (stars H)])
    (fun j => j ≤ ws.length) (fun j => ws.length - j) 0 (Nat.zero_le _)
    (cov_cons rfl rfl (cov_cons rfl rfl (cov_cons rfl rfl (cov_cons rfl rfl (cov_cons rfl rfl (cov_cons rfl rfl cov_nil)))))) (by (try dsimp only [List.cons_append, List.nil_append, List.singleton_append, List.append_nil]); (repeat (first | exact Ent.nil | exact Ent.refl _ | (apply Ent.cons; (repeat (first | exact Sel.here | apply Sel.there)))))) ?_
  intro j hj
  by_cases hjt : j < ws.length
  · have hjv : j < vs.length := by omega
    obtain ⟨vj, hvj0⟩ : ∃ vj, vs[j] = vj := ⟨_, rfl⟩
    obtain ⟨wj, hwj0⟩ : ∃ wj, ws[j] = wj := ⟨_, rfl⟩
    have hvm : vj ∈ vs := hvj0 ▸ List.getElem_mem _
    have hwm : wj ∈ ws := hwj0 ▸ List.getElem_mem _
    have hvj : vj.l = rowR s (K + P) K j := by
      have : (vs.map (·.l))[j]'(by simpa using hjv) = (rowsL s K P)[j]'(by rw [← hvs]; simpa using hjv) := by simp only [hvs]
      simpa [rowsL, hvj0] using this
    have hwj : wj.l = rowR s (K + Q) K j := by
      have : (ws.map (·.l))[j]'(by simpa using hjt) = (rowsL s K Q)[j]'(by rw [← hws]; simpa using hjt) := by simp only [hws]
      simpa [rowsL, hwj0] using this
    have hvo := (hvk vj hvm).1
    have hwo := (hwk wj hwm).1
    have hnq : ((K : Int) + Q) = ((K + Q : Nat) : Int) := by push_cast; rfl
    obtain ⟨LV, hLV⟩ : ∃ LV, listV vj.l = LV := ⟨_, rfl⟩
    have hbits : bitsOf (K + Q) LV = wj.l := by rw [← hLV, hvj, hwj]; exact few_bits (by omega) hQP
    have hcnt : ((countV wj.l : Nat) : Int) = (countV vj.l : Nat) := by rw [hvj, hwj, few_count (by omega) hQP]
    have hwll : wj.l.length = K + Q := by rw [hwj, rowR_len]
    repeat' (first | refine ls_of rfl ?_ | refine ls_of_no ?_ | refine ls_guard_yes rfl rfl ?_ | refine ls_guard_no rfl rfl rfl rfl ?_ | refine ls_guard_un rfl rfl rfl ?_ | refine o1_move rfl ?_ | refine o1_assign rfl ?_ | refine st_seq ?_ | refine st_region ?_ | refine st_block ?_ | refine st_skip ?_ | refine st_ret ?_ | refine st_exit ?_ | refine st_cond_t rfl ?_ | refine st_cond_f rfl ?_ | refine st_cond rfl (fun _ => ?_) (fun _ => ?_) | refine ls_nil ?_ | refine nx_seq ?_ | refine nx_blk ?_ | refine nx_fn ?_ | refine nx_rounds ?_ | refine xt_seq ?_ | refine xt_here ?_ | refine xt_on rfl ?_ | refine xt_rounds ?_ | refine xt_cut ?_ | refine rt_seq ?_ | refine rt_blk ?_ | refine rt_rounds ?_ | refine rt_cut ?_ | refine o1_pick_t rfl rfl ?_ | refine o1_pick_f rfl rfl ?_ | refine o1_extract rfl rfl ?_ | refine o1_fieldAddr rfl ?_ | refine ox_load rfl (by rfl) ?_ | refine ox_load_enc rfl (by first | omega | (simp; omega)) ?_ | refine ox_load_any rfl (by assumption) ?_ | refine o1_box rfl rfl (fun _ => ?_) | refine o1_len rfl ?_ | refine o1_add rfl rfl (by omega) ?_ | refine o1_lss_t rfl rfl (by omega) ?_ | refine o1_lss_f rfl rfl (by omega) ?_ | refine o1_lss rfl rfl (fun _ => ?_) (fun _ => ?_) | refine o1_neq_t rfl rfl (by omega) ?_ | refine o1_neq_f rfl rfl (by omega) ?_ | refine o1_neq rfl rfl (fun _ => ?_) (fun _ => ?_) | refine o1_bnot rfl ?_ | refine o1_unot rfl ?_ | refine o1_conv_i rfl (by omega) ?_ | refine o1_conv_ui rfl (by exact bv_small (by decide) _) ?_ | refine o1_conv_u64 rfl (by omega) ?_ | refine o1_conv_iu rfl ?_ | refine o1_rem_nn rfl rfl (by omega) ?_ | refine o1_alloc rfl (fun _ => ?_) | refine ox_store_enc B rfl rfl (by first | omega | (simp; done) | (simp; omega)) rfl ?_ | refine ox_stores rfl rfl (by first | omega | (simp; done) | (simp; omega)) rfl (by first | (simp only [List.set_cons_zero, List.set_cons_succ, Nat.zero_add, Nat.reduceAdd]; rfl) | rfl) ?_ | refine ox_store_agg rfl rfl (by rfl) (by simp) (by simp [Value.oneCell']) (by simp only [putL, List.set_cons_zero, List.set_cons_succ, Nat.zero_add, Nat.reduceAdd]; rfl) ?_ | refine ox_load_agg rfl (by simp only [Nat.zero_add, Nat.reduceAdd, List.drop_zero, List.drop_succ_cons, List.take_succ_cons, List.take_zero]; rfl) (by rfl) ?_)
    refine st_stages [(5, _), (6, _), (8, _)] rtP7_1 [9, 10] [⟨[0, 1, 2, 3, 4, 5, 6, 7, 8], [], some 9⟩, ⟨[], [0, 1, 2, 3, 4], some 10⟩, ⟨[11], [], none⟩] mixed (cov_cons rfl rfl (cov_cons rfl rfl (cov_cons rfl rfl cov_nil))) (by kernel_rfl) (by kernel_rfl) ?_
    all_goals refine wk_ch ?_
    all_goals (refine xp1 5 rfl rfl rfl rfl (by refine o1_fieldAddr rfl fz) ?_)
    all_goals (refine xp1 46 rfl rfl rfl rfl (by first | ((refine o1_load_iah (enc := Pv) (ad := ar) (c := cr) (xs := vs) j rfl rx_row hjv ?_; rw [hvj0]); all_goals exact fz) | refine ox_load rfl (by rfl) fz | refine ox_load_enc rfl (by first | omega | (simp; omega)) fz | refine ox_load_any rfl (by assumption) fz) ?_)
    all_goals (refine xp1 5 rfl rfl rfl rfl (by refine o1_fieldAddr rfl fz) ?_)
    all_goals (refine xp1 48 rfl rfl rfl rfl (by first | ((refine o1_load_iah (enc := Pv) (ad := ar) (c := cr) (xs := vs) j rfl rx_row hjv ?_; rw [hvj0]); all_goals exact fz) | refine ox_load rfl (by rfl) fz | refine ox_load_enc rfl (by first | omega | (simp; omega)) fz | refine ox_load_any rfl (by assumption) fz) ?_)
    all_goals (refine xp2 47 49 rfl rfl rfl rfl rfl (by first | ((refine o1_add rfl rfl (by omega) ?_; rw [hnq]); all_goals exact fz) | refine o1_add rfl rfl (by omega) fz) ?_)
    all_goals (refine xp1 6 rfl rfl rfl rfl (by refine o1_move rfl fz) ?_)
    all_goals (refine xp1 8 rfl rfl rfl rfl (by refine o1_move rfl fz) ?_)
    all_goals (refine xp2 51 52 rfl rfl rfl rfl rfl (by refine o1_iah (enc := Pv) (ad := ar) (c := cr) (xs := vs) j rfl rfl rx_row rfl rfl hjv fz) ?_)
    all_goals (refine xp1 53 rfl rfl rfl rfl (by first | ((refine o1_load_iah (enc := Pv) (ad := ar) (c := cr) (xs := vs) j rfl rx_row hjv ?_; rw [hvj0]); all_goals exact fz) | refine ox_load rfl (by rfl) fz | refine ox_load_enc rfl (by first | omega | (simp; omega)) fz | refine ox_load_any rfl (by assumption) fz) ?_)
    all_goals refine op_nil ?_
    all_goals refine re_nil ?_
    all_goals first | (refine ch_run (E' := [(54, _)]) rfl (gd_r0 rfl) rfl (cov_cons rfl rfl cov_nil) ?_; (first | (refine o1_call (fun hh => vec_List _ vj (vecs_read (vs := vs) hvm hvo hh)) rfl (fun ⟨a12, c12⟩ _ => ?_); dsimp only; rw [hLV])))
    all_goals refine wk_ch ?_
    all_goals refine op_nil ?_
    all_goals (refine xq1 5 rfl rfl rfl rfl rfl (by refine o1_fieldAddr rfl fz) ?_)
    all_goals (refine xq1 46 rfl rfl rfl rfl rfl (by first | ((refine o1_load_iah (enc := Pv) (ad := ar) (c := cr) (xs := vs) j rfl rx_row hjv ?_; rw [hvj0]); all_goals exact fz) | refine ox_load rfl (by rfl) fz | refine ox_load_enc rfl (by first | omega | (simp; omega)) fz | refine ox_load_any rfl (by assumption) fz) ?_)
    all_goals (refine xq1 5 rfl rfl rfl rfl rfl (by refine o1_fieldAddr rfl fz) ?_)
    all_goals (refine xq1 48 rfl rfl rfl rfl rfl (by first | ((refine o1_load_iah (enc := Pv) (ad := ar) (c := cr) (xs := vs) j rfl rx_row hjv ?_; rw [hvj0]); all_goals exact fz) | refine ox_load rfl (by rfl) fz | refine ox_load_enc rfl (by first | omega | (simp; omega)) fz | refine ox_load_any rfl (by assumption) fz) ?_)
    all_goals (refine xq2 47 49 rfl rfl rfl rfl rfl rfl (by first | ((refine o1_add rfl rfl (by omega) ?_; rw [hnq]); all_goals exact fz) | refine o1_add rfl rfl (by omega) fz) ?_)
    all_goals refine re_nil ?_
    all_goals first | (refine ch_run (E' := [(50, _), (55, _)]) rfl (gd_r0 rfl) rfl (cov_cons rfl rfl (cov_cons rfl rfl cov_nil)) ?_; (first | (refine o1_call (fun hh => vec_Of _ (K + Q) a12 c12 LV (by omega) (rx_row hh)) rfl (fun ⟨b9, a9, c9⟩ _ => ?_); dsimp only; rw [hbits])))
    all_goals refine wk_end ?_
    all_goals (refine xp1 56 rfl rfl rfl rfl (by refine o1_assign rfl fz) ?_)
    all_goals refine op_nil ?_
    all_goals refine re_nil ?_
    all_goals dsimp only [List.cons_append, List.nil_append]
    repeat' (first | refine ls_of rfl ?_ | refine ls_of_no ?_ | refine ls_guard_yes rfl rfl ?_ | refine ls_guard_no rfl rfl rfl rfl ?_ | refine ls_guard_un rfl rfl rfl ?_ | refine o1_move rfl ?_ | refine o1_assign rfl ?_ | refine st_seq ?_ | refine st_region ?_ | refine st_block ?_ | refine st_skip ?_ | refine st_ret ?_ | refine st_exit ?_ | refine st_cond_t rfl ?_ | refine st_cond_f rfl ?_ | refine st_cond rfl (fun _ => ?_) (fun _ => ?_) | refine ls_nil ?_ | refine nx_seq ?_ | refine nx_blk ?_ | refine nx_fn ?_ | refine nx_rounds ?_ | refine xt_seq ?_ | refine xt_here ?_ | refine xt_on rfl ?_ | refine xt_rounds ?_ | refine xt_cut ?_ | refine rt_seq ?_ | refine rt_blk ?_ | refine rt_rounds ?_ | refine rt_cut ?_ | refine o1_pick_t rfl rfl ?_ | refine o1_pick_f rfl rfl ?_ | refine o1_extract rfl rfl ?_ | refine o1_fieldAddr rfl ?_ | refine ox_load rfl (by rfl) ?_ | refine ox_load_enc rfl (by first | omega | (simp; omega)) ?_ | refine ox_load_any rfl (by assumption) ?_ | refine o1_box rfl rfl (fun _ => ?_) | refine o1_len rfl ?_ | refine o1_add rfl rfl (by omega) ?_ | refine o1_lss_t rfl rfl (by omega) ?_ | refine o1_lss_f rfl rfl (by omega) ?_ | refine o1_lss rfl rfl (fun _ => ?_) (fun _ => ?_) | refine o1_neq_t rfl rfl (by omega) ?_ | refine o1_neq_f rfl rfl (by omega) ?_ | refine o1_neq rfl rfl (fun _ => ?_) (fun _ => ?_) | refine o1_bnot rfl ?_ | refine o1_unot rfl ?_ | refine o1_conv_i rfl (by omega) ?_ | refine o1_conv_ui rfl (by exact bv_small (by decide) _) ?_ | refine o1_conv_u64 rfl (by omega) ?_ | refine o1_conv_iu rfl ?_ | refine o1_rem_nn rfl rfl (by omega) ?_ | refine o1_alloc rfl (fun _ => ?_) | refine ox_store_enc B rfl rfl (by first | omega | (simp; done) | (simp; omega)) rfl ?_ | refine ox_stores rfl rfl (by first | omega | (simp; done) | (simp; omega)) rfl (by first | (simp only [List.set_cons_zero, List.set_cons_succ, Nat.zero_add, Nat.reduceAdd]; rfl) | rfl) ?_ | refine ox_store_agg rfl rfl (by rfl) (by simp) (by simp [Value.oneCell']) (by simp only [putL, List.set_cons_zero, List.set_cons_succ, Nat.zero_add, Nat.reduceAdd]; rfl) ?_ | refine ox_load_agg rfl (by simp only [Nat.zero_add, Nat.reduceAdd, List.drop_zero, List.drop_succ_cons, List.take_succ_cons, List.take_zero]; rfl) (by rfl) ?_)
    refine st_stages [(9, _), (7, _), (8, _), (6, _)] rtP7_2 [5, 9, 14] [⟨[0, 1, 2, 3, 4], [], some 5⟩, ⟨[6, 7, 8, 10, 11, 12, 13], [], some 9⟩, ⟨[], [10, 11, 12, 13], some 14⟩, ⟨[15, 16], [], none⟩] mixed (cov_cons rfl rfl (cov_cons rfl rfl (cov_cons rfl rfl (cov_cons rfl rfl cov_nil)))) (by kernel_rfl) (by kernel_rfl) ?_
    all_goals refine wk_ch ?_
    all_goals (refine xp1 9 rfl rfl rfl rfl (by refine o1_move rfl fz) ?_)
    all_goals (refine xp1 7 rfl rfl rfl rfl (by refine o1_move rfl fz) ?_)
    all_goals (refine xp1 8 rfl rfl rfl rfl (by refine o1_move rfl fz) ?_)
    all_goals (refine xp2 58 59 rfl rfl rfl rfl rfl (by first | refine o1_iah (enc := Pv) (ad := at_) (c := ct) (xs := ws) j rfl rfl rx_row rfl rfl hjt fz | refine o1_iah (enc := Pv) (ad := ar) (c := cr) (xs := vs) j rfl rfl rx_row rfl rfl hjv fz) ?_)
    all_goals (refine xp1 60 rfl rfl rfl rfl (by first | ((refine o1_load_iah (enc := Pv) (ad := at_) (c := ct) (xs := ws) j rfl rx_row hjt ?_; rw [hwj0]); all_goals exact fz) | ((refine o1_load_iah (enc := Pv) (ad := ar) (c := cr) (xs := vs) j rfl rx_row hjv ?_; rw [hvj0]); all_goals exact fz) | refine ox_load rfl (by rfl) fz | refine ox_load_enc rfl (by first | omega | (simp; omega)) fz | refine ox_load_any rfl (by assumption) fz) ?_)
    all_goals refine op_nil ?_
    all_goals refine re_nil ?_
    all_goals first | (refine ch_run (E' := [(57, _), (61, _)]) rfl (gd_r0 rfl) rfl (cov_cons rfl rfl (cov_cons rfl rfl cov_nil)) ?_; (first | (refine o1_call (fun hh => (vec_Same _ ⟨b9, K + Q, a9, c9, wj.l⟩ wj (RdV.own hwll (by omega) hh) (vecs_read (vs := ws) hwm hwo hh)).bv (b := true) (by simp)) rfl (fun _ _ => ?_))))
    all_goals refine wk_ch ?_
    all_goals (refine xp1 62 rfl rfl rfl rfl (by first | refine o1_bnot rfl fz | refine o1_unot rfl fz) ?_)
    all_goals (refine xp1 63 rfl rfl rfl rfl (by refine o1_move rfl fz) ?_)
    all_goals first | (refine xpo1 rfl rfl rfl rfl ?_) | (refine xpo2 rfl rfl rfl rfl ?_) | (refine xpg1 9 rfl rfl rfl rfl rfl rfl (by refine o1_move rfl fz) ?_)
    all_goals first | (refine xpo1 rfl rfl rfl rfl ?_) | (refine xpo2 rfl rfl rfl rfl ?_) | (refine xpg1 6 rfl rfl rfl rfl rfl rfl (by refine o1_move rfl fz) ?_)
    all_goals first | (refine xpo1 rfl rfl rfl rfl ?_) | (refine xpo2 rfl rfl rfl rfl ?_) | (refine xpg1 8 rfl rfl rfl rfl rfl rfl (by refine o1_move rfl fz) ?_)
    all_goals first | (refine xpo1 rfl rfl rfl rfl ?_) | (refine xpo2 rfl rfl rfl rfl ?_) | (refine xpg2 67 68 rfl rfl rfl rfl rfl rfl rfl (by first | refine o1_iah (enc := Pv) (ad := at_) (c := ct) (xs := ws) j rfl rfl rx_row rfl rfl hjt fz | refine o1_iah (enc := Pv) (ad := ar) (c := cr) (xs := vs) j rfl rfl rx_row rfl rfl hjv fz) ?_)
    all_goals first | (refine xpo1 rfl rfl rfl rfl ?_) | (refine xpo2 rfl rfl rfl rfl ?_) | (refine xpg1 69 rfl rfl rfl rfl rfl rfl (by first | ((refine o1_load_iah (enc := Pv) (ad := at_) (c := ct) (xs := ws) j rfl rx_row hjt ?_; rw [hwj0]); all_goals exact fz) | ((refine o1_load_iah (enc := Pv) (ad := ar) (c := cr) (xs := vs) j rfl rx_row hjv ?_; rw [hvj0]); all_goals exact fz) | refine ox_load rfl (by rfl) fz | refine ox_load_enc rfl (by first | omega | (simp; omega)) fz | refine ox_load_any rfl (by assumption) fz) ?_)
    all_goals refine op_nil ?_
    all_goals refine re_nil ?_
    all_goals first | (refine ch_off rfl (by first | exact gd_o1 rfl rfl rfl | exact gd_o2 rfl rfl rfl) ?_) | (refine ch_run (E' := [(65, _)]) rfl (gd_r1 rfl rfl rfl) rfl (cov_cons rfl rfl cov_nil) ?_; (first | (refine o1_call (fun hh => vec_Count _ ⟨b9, K + Q, a9, c9, wj.l⟩ (RdV.own hwll (by omega) hh)) rfl (fun _ _ => ?_)) | (refine o1_call (fun hh => vec_Count _ vj (vecs_read (vs := vs) hvm hvo hh)) rfl (fun _ _ => ?_))))
    all_goals refine wk_ch ?_
    all_goals refine op_nil ?_
    all_goals first | (refine xqo1 rfl rfl rfl rfl rfl ?_) | (refine xqo2 rfl rfl rfl rfl rfl ?_) | (refine xqg1 6 rfl rfl rfl rfl rfl rfl rfl (by refine o1_move rfl fz) ?_)
    all_goals first | (refine xqo1 rfl rfl rfl rfl rfl ?_) | (refine xqo2 rfl rfl rfl rfl rfl ?_) | (refine xqg1 8 rfl rfl rfl rfl rfl rfl rfl (by refine o1_move rfl fz) ?_)
    all_goals first | (refine xqo1 rfl rfl rfl rfl rfl ?_) | (refine xqo2 rfl rfl rfl rfl rfl ?_) | (refine xqg2 67 68 rfl rfl rfl rfl rfl rfl rfl rfl (by first | refine o1_iah (enc := Pv) (ad := at_) (c := ct) (xs := ws) j rfl rfl rx_row rfl rfl hjt fz | refine o1_iah (enc := Pv) (ad := ar) (c := cr) (xs := vs) j rfl rfl rx_row rfl rfl hjv fz) ?_)
    all_goals first | (refine xqo1 rfl rfl rfl rfl rfl ?_) | (refine xqo2 rfl rfl rfl rfl rfl ?_) | (refine xqg1 69 rfl rfl rfl rfl rfl rfl rfl (by first | ((refine o1_load_iah (enc := Pv) (ad := at_) (c := ct) (xs := ws) j rfl rx_row hjt ?_; rw [hwj0]); all_goals exact fz) | ((refine o1_load_iah (enc := Pv) (ad := ar) (c := cr) (xs := vs) j rfl rx_row hjv ?_; rw [hvj0]); all_goals exact fz) | refine ox_load rfl (by rfl) fz | refine ox_load_enc rfl (by first | omega | (simp; omega)) fz | refine ox_load_any rfl (by assumption) fz) ?_)
    all_goals refine re_nil ?_
    all_goals first | (refine ch_off rfl (by first | exact gd_o1 rfl rfl rfl | exact gd_o2 rfl rfl rfl) ?_) | (refine ch_run (E' := [(70, _)]) rfl (gd_r1 rfl rfl rfl) rfl (cov_cons rfl rfl cov_nil) ?_; (first | (refine o1_call (fun hh => vec_Count _ ⟨b9, K + Q, a9, c9, wj.l⟩ (RdV.own hwll (by omega) hh)) rfl (fun _ _ => ?_)) | (refine o1_call (fun hh => vec_Count _ vj (vecs_read (vs := vs) hvm hvo hh)) rfl (fun _ _ => ?_))))
    all_goals refine wk_end ?_
    all_goals first | (refine xpo1 rfl rfl rfl rfl ?_) | (refine xpo2 rfl rfl rfl rfl ?_) | (refine xpg2 66 71 rfl rfl rfl rfl rfl rfl rfl (by first | refine o1_neq_f rfl rfl hcnt fz | refine o1_neq_t rfl rfl (by omega) fz | refine o1_neq_f rfl rfl (by omega) fz | refine o1_neq_d rfl rfl fz) ?_)
    all_goals (refine xp2 64 72 rfl rfl rfl rfl rfl (by first | refine o1_pick_t rfl rfl fz | refine o1_pick_f rfl rfl fz) ?_)
    all_goals refine op_nil ?_
    all_goals refine re_nil ?_
    all_goals dsimp only [List.cons_append, List.nil_append]
    repeat' (first | refine ls_of rfl ?_ | refine ls_of_no ?_ | refine ls_guard_yes rfl rfl ?_ | refine ls_guard_no rfl rfl rfl rfl ?_ | refine ls_guard_un rfl rfl rfl ?_ | refine o1_move rfl ?_ | refine o1_assign rfl ?_ | refine st_seq ?_ | refine st_region ?_ | refine st_block ?_ | refine st_skip ?_ | refine st_ret ?_ | refine st_exit ?_ | refine st_cond_t rfl ?_ | refine st_cond_f rfl ?_ | refine st_cond rfl (fun _ => ?_) (fun _ => ?_) | refine ls_nil ?_ | refine nx_seq ?_ | refine nx_blk ?_ | refine nx_fn ?_ | refine nx_rounds ?_ | refine xt_seq ?_ | refine xt_here ?_ | refine xt_on rfl ?_ | refine xt_rounds ?_ | refine xt_cut ?_ | refine rt_seq ?_ | refine rt_blk ?_ | refine rt_rounds ?_ | refine rt_cut ?_ | refine o1_pick_t rfl rfl ?_ | refine o1_pick_f rfl rfl ?_ | refine o1_extract rfl rfl ?_ | refine o1_fieldAddr rfl ?_ | refine ox_load rfl (by rfl) ?_ | refine ox_load_enc rfl (by first | omega | (simp; omega)) ?_ | refine ox_load_any rfl (by assumption) ?_ | refine o1_box rfl rfl (fun _ => ?_) | refine o1_len rfl ?_ | refine o1_add rfl rfl (by omega) ?_ | refine o1_lss_t rfl rfl (by omega) ?_ | refine o1_lss_f rfl rfl (by omega) ?_ | refine o1_lss rfl rfl (fun _ => ?_) (fun _ => ?_) | refine o1_neq_t rfl rfl (by omega) ?_ | refine o1_neq_f rfl rfl (by omega) ?_ | refine o1_neq rfl rfl (fun _ => ?_) (fun _ => ?_) | refine o1_bnot rfl ?_ | refine o1_unot rfl ?_ | refine o1_conv_i rfl (by omega) ?_ | refine o1_conv_ui rfl (by exact bv_small (by decide) _) ?_ | refine o1_conv_u64 rfl (by omega) ?_ | refine o1_conv_iu rfl ?_ | refine o1_rem_nn rfl rfl (by omega) ?_ | refine o1_alloc rfl (fun _ => ?_) | refine ox_store_enc B rfl rfl (by first | omega | (simp; done) | (simp; omega)) rfl ?_ | refine ox_stores rfl rfl (by first | omega | (simp; done) | (simp; omega)) rfl (by first | (simp only [List.set_cons_zero, List.set_cons_succ, Nat.zero_add, Nat.reduceAdd]; rfl) | rfl) ?_ | refine ox_store_agg rfl rfl (by rfl) (by simp) (by simp [Value.oneCell']) (by simp only [putL, List.set_cons_zero, List.set_cons_succ, Nat.zero_add, Nat.reduceAdd]; rfl) ?_ | refine ox_load_agg rfl (by simp only [Nat.zero_add, Nat.reduceAdd, List.drop_zero, List.drop_succ_cons, List.take_succ_cons, List.take_zero]; rfl) (by rfl) ?_)
    refine nx_again (j + 1) (by omega) (by omega) (cov_cons rfl rfl (cov_cons rfl rfl (cov_cons rfl rfl (cov_cons rfl rfl (cov_cons rfl rfl (cov_cons rfl rfl cov_nil)))))) ?_
    (try dsimp only [List.cons_append, List.nil_append, List.singleton_append, List.append_nil]); (repeat (first | exact Ent.nil | exact Ent.refl _ | (apply Ent.cons; (repeat (first | exact Sel.here | apply Sel.there)))))
  · have : j = ws.length := by omega
    subst this
    repeat' (first | refine ls_of rfl ?_ | refine ls_of_no ?_ | refine ls_guard_yes rfl rfl ?_ | refine ls_guard_no rfl rfl rfl rfl ?_ | refine ls_guard_un rfl rfl rfl ?_ | refine o1_move rfl ?_ | refine o1_assign rfl ?_ | refine st_seq ?_ | refine st_region ?_ | refine st_block ?_ | refine st_skip ?_ | refine st_ret ?_ | refine st_exit ?_ | refine st_cond_t rfl ?_ | refine st_cond_f rfl ?_ | refine st_cond rfl (fun _ => ?_) (fun _ => ?_) | refine ls_nil ?_ | refine nx_seq ?_ | refine nx_blk ?_ | refine nx_fn ?_ | refine nx_rounds ?_ | refine xt_seq ?_ | refine xt_here ?_ | refine xt_on rfl ?_ | refine xt_rounds ?_ | refine xt_cut ?_ | refine rt_seq ?_ | refine rt_blk ?_ | refine rt_rounds ?_ | refine rt_cut ?_ | refine o1_call (fun _ => awake9 _) rfl (fun _ _ => ?_) | refine o1_pick_t rfl rfl ?_ | refine o1_pick_f rfl rfl ?_ | refine o1_extract rfl rfl ?_ | refine o1_fieldAddr rfl ?_ | refine ox_load rfl (by rfl) ?_ | refine ox_load_enc rfl (by first | omega | (simp; omega)) ?_ | refine ox_load_any rfl (by assumption) ?_ | refine o1_box rfl rfl (fun _ => ?_) | refine o1_len rfl ?_ | refine o1_add rfl rfl (by omega) ?_ | refine o1_lss_t rfl rfl (by omega) ?_ | refine o1_lss_f rfl rfl (by omega) ?_ | refine o1_lss rfl rfl (fun _ => ?_) (fun _ => ?_) | refine o1_neq_t rfl rfl (by omega) ?_ | refine o1_neq_f rfl rfl (by omega) ?_ | refine o1_neq rfl rfl (fun _ => ?_) (fun _ => ?_) | refine o1_bnot rfl ?_ | refine o1_unot rfl ?_ | refine o1_conv_i rfl (by omega) ?_ | refine o1_conv_ui rfl (by exact bv_small (by decide) _) ?_ | refine o1_conv_u64 rfl (by omega) ?_ | refine o1_conv_iu rfl ?_ | refine o1_rem_nn rfl rfl (by omega) ?_ | refine o1_alloc rfl (fun _ => ?_) | refine ox_store_enc B rfl rfl (by first | omega | (simp; done) | (simp; omega)) rfl ?_ | refine ox_stores rfl rfl (by first | omega | (simp; done) | (simp; omega)) rfl (by first | (simp only [List.set_cons_zero, List.set_cons_succ, Nat.zero_add, Nat.reduceAdd]; rfl) | rfl) ?_ | refine ox_store_agg rfl rfl (by rfl) (by simp) (by simp [Value.oneCell']) (by simp only [putL, List.set_cons_zero, List.set_cons_succ, Nat.zero_add, Nat.reduceAdd]; rfl) ?_ | refine ox_load_agg rfl (by simp only [Nat.zero_add, Nat.reduceAdd, List.drop_zero, List.drop_succ_cons, List.take_succ_cons, List.take_zero]; rfl) (by rfl) ?_)
    refine rt_tmp () rfl rfl rfl trivial ?_
    (try dsimp only [List.cons_append, List.nil_append, List.singleton_append, List.append_nil]); (repeat (first | exact Ent.nil | exact Ent.refl _ | (apply Ent.cons; (repeat (first | exact Sel.here | apply Sel.there)))))
end Go.Dp
