/-
  state.Bytes, walked.
  Conditions: those that stand in each theorem.
-/
import Derived.Test.YtenkfeiklpigjaaG2
import Derived.Test.YtenkfeiklpigjaaE14
import Derived.Test.YtenkfeiklpigjaaBy
set_option linter.unusedVariables false
set_option linter.unusedSimpArgs false
namespace Go.Dp
open Go.RowKit Go.Proofs
def rtG4_0 : List Row := [⟨some 12, [], [], none⟩, ⟨some 13, [0], [0], none⟩, ⟨some 14, [1], [0, 1], none⟩, ⟨some 15, [], [], none⟩, ⟨some 16, [3], [3], none⟩, ⟨some 17, [4], [3, 4], none⟩, ⟨some 18, [2, 5], [0, 1, 2, 3, 4, 5], none⟩, ⟨some 19, [], [], none⟩, ⟨some 20, [7], [7], none⟩, ⟨some 21, [8], [7, 8], none⟩, ⟨some 22, [], [], none⟩, ⟨some 23, [10], [10], none⟩, ⟨some 24, [11, 9], [7, 8, 9, 10, 11], none⟩, ⟨some 25, [6, 9, 12], [0, 1, 2, 3, 4, 5, 6, 7, 8, 9, 10, 11, 12], none⟩, ⟨some 26, [13, 12], [0, 1, 2, 3, 4, 5, 6, 7, 8, 9, 10, 11, 12, 13], none⟩, ⟨some 4, [14, 14, 0, 1, 2, 3, 4, 5, 6, 7, 8, 9, 10, 11, 12, 13, 14], [0, 1, 2, 3, 4, 5, 6, 7, 8, 9, 10, 11, 12, 13, 14], none⟩]
def rtG4_1 : List Row := [⟨some 37, [], [], none⟩, ⟨some 38, [], [], none⟩, ⟨some 39, [], [], none⟩, ⟨some 40, [2], [2], none⟩, ⟨some 41, [3], [2, 3], none⟩, ⟨some 42, [], [], none⟩, ⟨some 43, [5], [5], none⟩, ⟨some 44, [6], [5, 6], none⟩, ⟨some 45, [7], [5, 6, 7], none⟩, ⟨some 46, [], [], none⟩, ⟨some 47, [9], [9], none⟩, ⟨some 48, [10], [9, 10], none⟩, ⟨some 49, [8, 11], [5, 6, 7, 8, 9, 10, 11], none⟩, ⟨some 50, [], [], none⟩, ⟨some 51, [13], [13], none⟩, ⟨some 52, [0, 1, 4, 12, 14], [0, 1, 2, 3, 4, 5, 6, 7, 8, 9, 10, 11, 12, 13, 14], none⟩, ⟨some 53, [15, 4], [0, 1, 2, 3, 4, 5, 6, 7, 8, 9, 10, 11, 12, 13, 14, 15], none⟩, ⟨some 4, [16, 16, 0, 1, 2, 3, 4, 5, 6, 7, 8, 9, 10, 11, 12, 13, 14, 15, 16], [0, 1, 2, 3, 4, 5, 6, 7, 8, 9, 10, 11, 12, 13, 14, 15, 16], none⟩]
def rtG4_2 : List Row := [⟨some 37, [], [], none⟩, ⟨some 38, [], [], none⟩, ⟨some 39, [], [], none⟩, ⟨some 40, [2], [2], none⟩, ⟨some 41, [3], [2, 3], none⟩, ⟨some 42, [], [], none⟩, ⟨some 43, [5], [5], none⟩, ⟨some 44, [6], [5, 6], none⟩, ⟨some 45, [7], [5, 6, 7], none⟩, ⟨some 46, [], [], none⟩, ⟨some 47, [9], [9], none⟩, ⟨some 48, [10], [9, 10], none⟩, ⟨some 49, [8, 11], [5, 6, 7, 8, 9, 10, 11], none⟩, ⟨some 50, [], [], none⟩, ⟨some 51, [13], [13], none⟩, ⟨some 52, [0, 1, 4, 12, 14], [0, 1, 2, 3, 4, 5, 6, 7, 8, 9, 10, 11, 12, 13, 14], none⟩, ⟨some 53, [15, 4], [0, 1, 2, 3, 4, 5, 6, 7, 8, 9, 10, 11, 12, 13, 14, 15], none⟩, ⟨some 4, [16, 16, 0, 1, 2, 3, 4, 5, 6, 7, 8, 9, 10, 11, 12, 13, 14, 15, 16], [0, 1, 2, 3, 4, 5, 6, 7, 8, 9, 10, 11, 12, 13, 14, 15, 16], none⟩]
theorem may_light' {x : StD} (h : x.may = true) : x.light := by
  rcases Classical.em x.light with hl | hl
  · exact hl
  · rw [StD.heavy hl] at h; cases h
theorem st_may_m {x : StD} (h : x.may = true) : (if x.on then x.m.may else x.m.none) = true := by
  simp only [StD.may, Bool.and_eq_true] at h
  exact h.2
def SlotD.by (x : SlotD) : List (BitVec 8) := if x.nothing then [0#8] else 1#8 :: (be4 x.v ++ (be2 x.n ++ x.h.l))
def StD.head (x : StD) : List (BitVec 8) := [BitVec.ofInt 8 x.a, BitVec.ofInt 8 x.t] ++ (be4 x.f ++ be4 x.g)
def StD.tail (x : StD) : List (BitVec 8) := if x.on then 1#8 :: x.m.by else [0#8]
/-- A state as bytes. -/
def StD.by (x : StD) : List (BitVec 8) := ((x.head ++ x.s0.by) ++ x.s1.by) ++ x.tail
theorem slot_by_no {x : SlotD} (h : x.nothing = true) : x.by = [0#8] := if_pos h
theorem slot_by_yes {x : SlotD} (h : x.nothing = false) : x.by = 1#8 :: (be4 x.v ++ (be2 x.n ++ x.h.l)) := if_neg (by simp [h])
theorem slot_by_len (x : SlotD) : x.by.length ≤ 7 + x.h.l.length := by
  unfold SlotD.by
  split
  · simp; omega
  · simp [be4, be2]; omega
theorem head_len (x : StD) : x.head.length = 10 := rfl
theorem head_cat (x : StD) (a1 a2 a3 : Option Addr) (c1 c2 c3 : Nat) : cat [⟨a1, c1, [BitVec.ofInt 8 x.a, BitVec.ofInt 8 x.t]⟩, ⟨a2, c2, be4 x.f⟩, ⟨a3, c3, be4 x.g⟩] = x.head := by simp [cat, StD.head]
theorem slot_cat {x : SlotD} (h : x.nothing = false) (p : List (BitVec 8)) (a1 a2 a3 a4 a5 : Option Addr) (c1 c2 c3 c4 c5 : Nat) : cat [⟨a1, c1, p⟩, ⟨a2, c2, [1#8]⟩, ⟨a3, c3, be4 x.v⟩, ⟨a4, c4, be2 x.n⟩, ⟨a5, c5, x.h.l⟩] = p ++ x.by := by rw [slot_by_yes h]; simp [cat]
theorem tail_cat (m : ManD) (p : List (BitVec 8)) (a1 a2 a3 : Option Addr) (c1 c2 c3 : Nat) : cat [⟨a1, c1, p⟩, ⟨a2, c2, [1#8]⟩, ⟨a3, c3, m.by⟩] = p ++ (1#8 :: m.by) := by simp [cat]
theorem st_word (H : List Hl) (x : BitVec 32) : Spec Try.prog 44 [W4 x] H (fun _ : Nat => True) (fun b => .slice (some ⟨b, 0, none⟩) 4 4) (fun b => .box b 5 ((be4 x).map B) :: H) := by
  refine spec_pure (res := fun b : Nat => [.box b 5 ((be4 x).map B)]) H Try.func44 rfl Try.ntmps44 (by kernel_rfl) rfl (fun W => ?_)
  repeat' (first | refine ls_of rfl ?_ | refine ls_of_no ?_ | refine ls_guard_yes rfl rfl ?_ | refine ls_guard_no rfl rfl rfl rfl ?_ | refine ls_guard_un rfl rfl rfl ?_ | refine o1_move rfl ?_ | refine o1_assign rfl ?_ | refine st_seq ?_ | refine st_region ?_ | refine st_block ?_ | refine st_skip ?_ | refine st_ret ?_ | refine st_exit ?_ | refine st_cond_t rfl ?_ | refine st_cond_f rfl ?_ | refine st_cond rfl (fun _ => ?_) (fun _ => ?_) | refine ls_nil ?_ | refine nx_seq ?_ | refine nx_blk ?_ | refine nx_fn ?_ | refine nx_rounds ?_ | refine xt_seq ?_ | refine xt_here ?_ | refine xt_on rfl ?_ | refine xt_rounds ?_ | refine xt_cut ?_ | refine rt_seq ?_ | refine rt_blk ?_ | refine rt_rounds ?_ | refine rt_cut ?_ | refine o1_ushr rfl rfl (by omega) ?_ | refine o1_conv_uu rfl ?_ | refine o1_lit_B rfl rfl rfl rfl rfl (fun _ => ?_))
  refine rt_tmp _ rfl rfl rfl trivial ?_
  (try dsimp only [List.cons_append, List.nil_append, List.singleton_append, List.append_nil]); (repeat (first | exact Ent.nil | exact Ent.refl _ | (apply Ent.cons; (repeat (first | exact Sel.here | apply Sel.there)))))
theorem st_Bytes_no (H : List Hl) (x : StD) (h : x.may = false) : Spec Try.prog 27 [x.V] H (fun _ : Unit => True) (fun _ => .tuple #[.slice none 0 0, I 1]) (fun _ => H) := by
  refine spec_pure (res := fun _ => []) H Try.func27 rfl Try.ntmps27 (by kernel_rfl) rfl (fun W => ?_)
  repeat' (first | refine ls_of rfl ?_ | refine ls_of_no ?_ | refine ls_guard_yes rfl rfl ?_ | refine ls_guard_no rfl rfl rfl rfl ?_ | refine ls_guard_un rfl rfl rfl ?_ | refine o1_move rfl ?_ | refine o1_assign rfl ?_ | refine st_seq ?_ | refine st_region ?_ | refine st_block ?_ | refine st_skip ?_ | refine st_ret ?_ | refine st_exit ?_ | refine st_cond_t rfl ?_ | refine st_cond_f rfl ?_ | refine st_cond rfl (fun _ => ?_) (fun _ => ?_) | refine ls_nil ?_ | refine nx_seq ?_ | refine nx_blk ?_ | refine nx_fn ?_ | refine nx_rounds ?_ | refine xt_seq ?_ | refine xt_here ?_ | refine xt_on rfl ?_ | refine xt_rounds ?_ | refine xt_cut ?_ | refine rt_seq ?_ | refine rt_blk ?_ | refine rt_rounds ?_ | refine rt_cut ?_ | refine o1_call (fun _ => (st_May _ x).bv (b := false) h) rfl (fun _ _ => ?_) | refine o1_extract rfl rfl ?_ | refine o1_fieldAddr rfl ?_ | refine ox_load rfl (by rfl) ?_ | refine ox_load_enc rfl (by first | omega | (simp; omega)) ?_ | refine ox_load_any rfl (by assumption) ?_ | refine o1_box rfl rfl (fun _ => ?_) | refine o1_add rfl rfl (by omega) ?_ | refine o1_lss_t rfl rfl (by omega) ?_ | refine o1_lss_f rfl rfl (by omega) ?_ | refine o1_lss rfl rfl (fun _ => ?_) (fun _ => ?_) | refine o1_bnot rfl ?_ | refine o1_ushr rfl rfl (by omega) ?_ | refine o1_unot rfl ?_ | refine o1_conv_iu rfl ?_ | refine o1_lit_B rfl rfl rfl rfl rfl (fun _ => ?_) | refine o1_index_arr rfl rfl (by omega) (by rfl) ?_ | refine ox_append rfl rfl (rx_box rfl (by first | decide | omega)) rfl rfl (fun _ => rfl) (by omega) (by omega) (fun _ _ => ?_) | refine ox_append rfl rfl (rx_any (by assumption)) rfl rfl (fun _ => rfl) (by omega) (by omega) (fun _ _ => ?_) | refine ox_append rfl rfl rx_row rfl rfl (fun _ => rfl) (by omega) (by omega) (fun _ _ => ?_) | refine o1_alloc rfl (fun _ => ?_) | refine ox_store_agg rfl rfl (by rfl) (by simp) (by simp [Value.oneCell']) (by simp only [putL, List.set_cons_zero, List.set_cons_succ, Nat.zero_add, Nat.reduceAdd]; rfl) ?_ | refine ox_load_agg rfl (by simp only [Nat.zero_add, Nat.reduceAdd, List.drop_zero, List.drop_succ_cons, List.take_succ_cons, List.take_zero]; rfl) (by rfl) ?_)
  refine rt_tmp2 () rfl rfl rfl rfl trivial ?_
  (try dsimp only [List.cons_append, List.nil_append, List.singleton_append, List.append_nil]); (repeat (first | exact Ent.nil | exact Ent.refl _ | (apply Ent.cons; (repeat (first | exact Sel.here | apply Sel.there)))))
abbrev arrV (x : StD) : Value := .agg #[W4 x.s0.v, I x.s0.n, Bs x.s0.h, W4 x.s1.v, I x.s1.n, Bs x.s1.h]
set_option maxHeartbeats 8000000 in
theorem st_Bytes (H : List Hl) (x : StD) (hm : x.may = true) (hx : x.Rd (stars H)) : Spec Try.prog 27 [x.V] H (fun _ : PA => True) (fun r => .tuple #[.slice r.1 x.by.length r.2, I 0]) (fun r => rowB r x.by :: H) := by
  refine spec_pure (res := fun r : PA => [rowB r x.by]) H Try.func27 rfl Try.ntmps27 (by kernel_rfl) rfl (fun W => ?_)
  have e0 := hx.s0
  have e1 := hx.s1
  have e2 := hx.m
  have hl := may_light' hm
  have hl0 := slot_by_len x.s0
  have hl1 := slot_by_len x.s1
  have hlh := head_len x
  obtain ⟨q0, q1, q2⟩ := hl
  have hl01 : (x.head ++ x.s0.by).length ≤ 117 := by rw [List.length_append]; omega
  have hl02 : ((x.head ++ x.s0.by) ++ x.s1.by).length ≤ 224 := by rw [List.length_append]; omega
  repeat' (first | refine ls_of rfl ?_ | refine ls_of_no ?_ | refine ls_guard_yes rfl rfl ?_ | refine ls_guard_no rfl rfl rfl rfl ?_ | refine ls_guard_un rfl rfl rfl ?_ | refine o1_move rfl ?_ | refine o1_assign rfl ?_ | refine st_seq ?_ | refine st_region ?_ | refine st_block ?_ | refine st_skip ?_ | refine st_ret ?_ | refine st_exit ?_ | refine st_cond_t rfl ?_ | refine st_cond_f rfl ?_ | refine st_cond rfl (fun _ => ?_) (fun _ => ?_) | refine ls_nil ?_ | refine nx_seq ?_ | refine nx_blk ?_ | refine nx_fn ?_ | refine nx_rounds ?_ | refine xt_seq ?_ | refine xt_here ?_ | refine xt_on rfl ?_ | refine xt_rounds ?_ | refine xt_cut ?_ | refine rt_seq ?_ | refine rt_blk ?_ | refine rt_rounds ?_ | refine rt_cut ?_ | refine o1_call (fun _ => (st_May _ x).bv (b := true) hm) rfl (fun _ _ => ?_) | refine o1_extract rfl rfl ?_ | refine o1_fieldAddr rfl ?_ | refine ox_load rfl (by rfl) ?_ | refine ox_load_enc rfl (by first | omega | (simp; omega)) ?_ | refine ox_load_any rfl (by assumption) ?_ | refine o1_box rfl rfl (fun _ => ?_) | refine o1_add rfl rfl (by omega) ?_ | refine o1_lss_t rfl rfl (by omega) ?_ | refine o1_lss_f rfl rfl (by omega) ?_ | refine o1_lss rfl rfl (fun _ => ?_) (fun _ => ?_) | refine o1_bnot rfl ?_ | refine o1_ushr rfl rfl (by omega) ?_ | refine o1_unot rfl ?_ | refine o1_conv_iu rfl ?_ | refine o1_lit_B rfl rfl rfl rfl rfl (fun _ => ?_) | refine o1_index_arr rfl rfl (by omega) (by rfl) ?_ | refine ox_append rfl rfl (rx_box rfl (by first | decide | omega)) rfl rfl (fun _ => rfl) (by omega) (by omega) (fun _ _ => ?_) | refine ox_append rfl rfl (rx_any (by assumption)) rfl rfl (fun _ => rfl) (by omega) (by omega) (fun _ _ => ?_) | refine ox_append rfl rfl rx_row rfl rfl (fun _ => rfl) (by omega) (by omega) (fun _ _ => ?_) | refine o1_alloc rfl (fun _ => ?_) | refine ox_store_agg rfl rfl (by rfl) (by simp) (by simp [Value.oneCell']) (by simp only [putL, List.set_cons_zero, List.set_cons_succ, Nat.zero_add, Nat.reduceAdd]; rfl) ?_ | refine ox_load_agg rfl (by simp only [Nat.zero_add, Nat.reduceAdd, List.drop_zero, List.drop_succ_cons, List.take_succ_cons, List.take_zero]; rfl) (by rfl) ?_)
  rename_i b1 _ _
  refine st_viaK (X := PA) (fun r => [(1, .pointer (some ⟨b1, 0, none⟩)), (4, .slice r.1 x.head.length r.2)]) (fun r => [.box b1 30 x.c, rowB r x.head, .any (stars H)]) ?rest ?walk
  case walk =>
    intro k' via
    refine st_tree [(1, _)] rtG4_0 [6, 9, 12, 13, 14] (.alt [0, 1, 2, 3, 4, 5, 7, 8, 10, 11] [] 6 (.step [] [7, 8, 10, 11] 9 (.step [] [10, 11] 12 (.step [] [] 13 (.step [] [] 14 (.fin [15] []))))) 9 (.alt [] [0, 1, 2, 3, 4, 5, 10, 11] 6 (.step [] [10, 11] 12 (.step [] [] 13 (.step [] [] 14 (.fin [15] [])))) 12 (.step [] [0, 1, 2, 3, 4, 5] 6 (.step [] [] 13 (.step [] [] 14 (.fin [15] [])))))) mixed (cov_cons rfl rfl cov_nil) (by kernel_rfl) (by kernel_rfl) ?_
    all_goals refine wt_alt ?_
    all_goals (refine xp1 1 rfl rfl rfl rfl (by refine o1_fieldAddr rfl fz) ?_)
    all_goals (refine xp1 12 rfl rfl rfl rfl (by first | refine ox_load rfl (by rfl) fz | refine ox_load_enc rfl (by first | omega | (simp; omega)) fz | refine ox_load_any rfl (by assumption) fz) ?_)
    all_goals (refine xp1 13 rfl rfl rfl rfl (by refine o1_conv_iu rfl fz) ?_)
    all_goals (refine xp1 1 rfl rfl rfl rfl (by refine o1_fieldAddr rfl fz) ?_)
    all_goals (refine xp1 15 rfl rfl rfl rfl (by first | refine ox_load rfl (by rfl) fz | refine ox_load_enc rfl (by first | omega | (simp; omega)) fz | refine ox_load_any rfl (by assumption) fz) ?_)
    all_goals (refine xp1 16 rfl rfl rfl rfl (by refine o1_conv_iu rfl fz) ?_)
    all_goals (refine xp1 1 rfl rfl rfl rfl (by refine o1_fieldAddr rfl fz) ?_)
    all_goals (refine xp1 19 rfl rfl rfl rfl (by first | refine ox_load rfl (by rfl) fz | refine ox_load_enc rfl (by first | omega | (simp; omega)) fz | refine ox_load_any rfl (by assumption) fz) ?_)
    all_goals (refine xp1 1 rfl rfl rfl rfl (by refine o1_fieldAddr rfl fz) ?_)
    all_goals (refine xp1 22 rfl rfl rfl rfl (by first | refine ox_load rfl (by rfl) fz | refine ox_load_enc rfl (by first | omega | (simp; omega)) fz | refine ox_load_any rfl (by assumption) fz) ?_)
    all_goals refine op_nil ?_
    all_goals refine re_nil ?_
    refine ⟨?al1_1A, ?al1_1B⟩
    case' al1_1A =>
      all_goals first | (refine ct_run (E' := [(14, _), (17, _)]) rfl (gd_r0 rfl) rfl (cov_cons rfl rfl (cov_cons rfl rfl cov_nil)) ?_; (first | (refine o1_lit_enc B [BitVec.ofInt 8 x.a, BitVec.ofInt 8 x.t] rfl rfl rfl (fun _ => rfl) rfl rfl rfl (fun b4 => ?_)) | (refine o1_lit_enc Bs [⟨some ⟨b4, 0, none⟩, 2, [BitVec.ofInt 8 x.a, BitVec.ofInt 8 x.t]⟩, ⟨some ⟨b2, 0, none⟩, 4, be4 x.f⟩, ⟨some ⟨b3, 0, none⟩, 4, be4 x.g⟩] rfl rfl rfl (fun _ => rfl) rfl rfl rfl (fun b5 => ?_)) | refine o1_lit_B rfl rfl rfl rfl rfl (fun _ => ?_)))
      all_goals refine wt_ch ?_
      all_goals refine op_nil ?_
      all_goals (refine xq1 1 rfl rfl rfl rfl rfl (by refine o1_fieldAddr rfl fz) ?_)
      all_goals (refine xq1 19 rfl rfl rfl rfl rfl (by first | refine ox_load rfl (by rfl) fz | refine ox_load_enc rfl (by first | omega | (simp; omega)) fz | refine ox_load_any rfl (by assumption) fz) ?_)
      all_goals (refine xq1 1 rfl rfl rfl rfl rfl (by refine o1_fieldAddr rfl fz) ?_)
      all_goals (refine xq1 22 rfl rfl rfl rfl rfl (by first | refine ox_load rfl (by rfl) fz | refine ox_load_enc rfl (by first | omega | (simp; omega)) fz | refine ox_load_any rfl (by assumption) fz) ?_)
      all_goals refine re_nil ?_
      all_goals first | (refine ct_run (E' := [(20, _)]) rfl (gd_r0 rfl) rfl (cov_cons rfl rfl cov_nil) ?_; (first | (refine o1_call (fun _ => st_word _ x.f) rfl (fun b2 _ => ?_)) | (refine o1_call (fun _ => st_word _ x.g) rfl (fun b3 _ => ?_))))
      all_goals refine wt_ch ?_
      all_goals refine op_nil ?_
      all_goals (refine xq1 1 rfl rfl rfl rfl rfl (by refine o1_fieldAddr rfl fz) ?_)
      all_goals (refine xq1 22 rfl rfl rfl rfl rfl (by first | refine ox_load rfl (by rfl) fz | refine ox_load_enc rfl (by first | omega | (simp; omega)) fz | refine ox_load_any rfl (by assumption) fz) ?_)
      all_goals refine re_nil ?_
      all_goals first | (refine ct_run (E' := [(23, _)]) rfl (gd_r0 rfl) rfl (cov_cons rfl rfl cov_nil) ?_; (first | (refine o1_call (fun _ => st_word _ x.f) rfl (fun b2 _ => ?_)) | (refine o1_call (fun _ => st_word _ x.g) rfl (fun b3 _ => ?_))))
      all_goals refine wt_ch ?_
      all_goals refine op_nil ?_
      all_goals refine re_nil ?_
      all_goals first | (refine ct_run (E' := [(18, _), (21, _), (24, _)]) rfl (gd_r0 rfl) rfl (cov_cons rfl rfl (cov_cons rfl rfl (cov_cons rfl rfl cov_nil))) ?_; (first | (refine o1_lit_enc B [BitVec.ofInt 8 x.a, BitVec.ofInt 8 x.t] rfl rfl rfl (fun _ => rfl) rfl rfl rfl (fun b4 => ?_)) | (refine o1_lit_enc Bs [⟨some ⟨b4, 0, none⟩, 2, [BitVec.ofInt 8 x.a, BitVec.ofInt 8 x.t]⟩, ⟨some ⟨b2, 0, none⟩, 4, be4 x.f⟩, ⟨some ⟨b3, 0, none⟩, 4, be4 x.g⟩] rfl rfl rfl (fun _ => rfl) rfl rfl rfl (fun b5 => ?_)) | refine o1_lit_B rfl rfl rfl rfl rfl (fun _ => ?_)))
      all_goals refine wt_ch ?_
      all_goals refine op_nil ?_
      all_goals refine re_nil ?_
      all_goals first | (refine ct_run (E' := [(25, _)]) rfl (gd_r0 rfl) rfl (cov_cons rfl rfl cov_nil) ?_; (first | (refine o1_call (fun hh => slices_Concat _ _ _ [⟨some ⟨b4, 0, none⟩, 2, [BitVec.ofInt 8 x.a, BitVec.ofInt 8 x.t]⟩, ⟨some ⟨b2, 0, none⟩, 4, be4 x.f⟩, ⟨some ⟨b3, 0, none⟩, 4, be4 x.g⟩] (rx_lit rfl rfl hh) (fa_cons (rx_lit rfl rfl hh) (fa_cons (rx_lit rfl rfl hh) (fa_cons (rx_lit rfl rfl hh) fa_nil))) (by rw [head_cat]; omega)) rfl (fun ⟨a5, c5⟩ _ => ?_); dsimp only; rw [head_cat])))
      all_goals refine wt_end ?_
      all_goals (refine xp1 26 rfl rfl rfl rfl (by refine o1_assign rfl fz) ?_)
      all_goals refine op_nil ?_
      all_goals refine re_nil ?_
    case' al1_1B =>
      all_goals first | (refine ct_run (E' := [(20, _)]) rfl (gd_r0 rfl) rfl (cov_cons rfl rfl cov_nil) ?_; (first | (refine o1_call (fun _ => st_word _ x.f) rfl (fun b2 _ => ?_)) | (refine o1_call (fun _ => st_word _ x.g) rfl (fun b3 _ => ?_))))
      all_goals refine wt_alt ?_
      all_goals refine op_nil ?_
      all_goals (refine xq1 1 rfl rfl rfl rfl rfl (by refine o1_fieldAddr rfl fz) ?_)
      all_goals (refine xq1 12 rfl rfl rfl rfl rfl (by first | refine ox_load rfl (by rfl) fz | refine ox_load_enc rfl (by first | omega | (simp; omega)) fz | refine ox_load_any rfl (by assumption) fz) ?_)
      all_goals (refine xq1 13 rfl rfl rfl rfl rfl (by refine o1_conv_iu rfl fz) ?_)
      all_goals (refine xq1 1 rfl rfl rfl rfl rfl (by refine o1_fieldAddr rfl fz) ?_)
      all_goals (refine xq1 15 rfl rfl rfl rfl rfl (by first | refine ox_load rfl (by rfl) fz | refine ox_load_enc rfl (by first | omega | (simp; omega)) fz | refine ox_load_any rfl (by assumption) fz) ?_)
      all_goals (refine xq1 16 rfl rfl rfl rfl rfl (by refine o1_conv_iu rfl fz) ?_)
      all_goals (refine xq1 1 rfl rfl rfl rfl rfl (by refine o1_fieldAddr rfl fz) ?_)
      all_goals (refine xq1 22 rfl rfl rfl rfl rfl (by first | refine ox_load rfl (by rfl) fz | refine ox_load_enc rfl (by first | omega | (simp; omega)) fz | refine ox_load_any rfl (by assumption) fz) ?_)
      all_goals refine re_nil ?_
      refine ⟨?al1_2A, ?al1_2B⟩
      case' al1_2A =>
        all_goals first | (refine ct_run (E' := [(14, _), (17, _)]) rfl (gd_r0 rfl) rfl (cov_cons rfl rfl (cov_cons rfl rfl cov_nil)) ?_; (first | (refine o1_lit_enc B [BitVec.ofInt 8 x.a, BitVec.ofInt 8 x.t] rfl rfl rfl (fun _ => rfl) rfl rfl rfl (fun b4 => ?_)) | (refine o1_lit_enc Bs [⟨some ⟨b4, 0, none⟩, 2, [BitVec.ofInt 8 x.a, BitVec.ofInt 8 x.t]⟩, ⟨some ⟨b2, 0, none⟩, 4, be4 x.f⟩, ⟨some ⟨b3, 0, none⟩, 4, be4 x.g⟩] rfl rfl rfl (fun _ => rfl) rfl rfl rfl (fun b5 => ?_)) | refine o1_lit_B rfl rfl rfl rfl rfl (fun _ => ?_)))
        all_goals refine wt_ch ?_
        all_goals refine op_nil ?_
        all_goals (refine xq1 1 rfl rfl rfl rfl rfl (by refine o1_fieldAddr rfl fz) ?_)
        all_goals (refine xq1 22 rfl rfl rfl rfl rfl (by first | refine ox_load rfl (by rfl) fz | refine ox_load_enc rfl (by first | omega | (simp; omega)) fz | refine ox_load_any rfl (by assumption) fz) ?_)
        all_goals refine re_nil ?_
        all_goals first | (refine ct_run (E' := [(23, _)]) rfl (gd_r0 rfl) rfl (cov_cons rfl rfl cov_nil) ?_; (first | (refine o1_call (fun _ => st_word _ x.f) rfl (fun b2 _ => ?_)) | (refine o1_call (fun _ => st_word _ x.g) rfl (fun b3 _ => ?_))))
        all_goals refine wt_ch ?_
        all_goals refine op_nil ?_
        all_goals refine re_nil ?_
        all_goals first | (refine ct_run (E' := [(18, _), (21, _), (24, _)]) rfl (gd_r0 rfl) rfl (cov_cons rfl rfl (cov_cons rfl rfl (cov_cons rfl rfl cov_nil))) ?_; (first | (refine o1_lit_enc B [BitVec.ofInt 8 x.a, BitVec.ofInt 8 x.t] rfl rfl rfl (fun _ => rfl) rfl rfl rfl (fun b4 => ?_)) | (refine o1_lit_enc Bs [⟨some ⟨b4, 0, none⟩, 2, [BitVec.ofInt 8 x.a, BitVec.ofInt 8 x.t]⟩, ⟨some ⟨b2, 0, none⟩, 4, be4 x.f⟩, ⟨some ⟨b3, 0, none⟩, 4, be4 x.g⟩] rfl rfl rfl (fun _ => rfl) rfl rfl rfl (fun b5 => ?_)) | refine o1_lit_B rfl rfl rfl rfl rfl (fun _ => ?_)))
        all_goals refine wt_ch ?_
        all_goals refine op_nil ?_
        all_goals refine re_nil ?_
        all_goals first | (refine ct_run (E' := [(25, _)]) rfl (gd_r0 rfl) rfl (cov_cons rfl rfl cov_nil) ?_; (first | (refine o1_call (fun hh => slices_Concat _ _ _ [⟨some ⟨b4, 0, none⟩, 2, [BitVec.ofInt 8 x.a, BitVec.ofInt 8 x.t]⟩, ⟨some ⟨b2, 0, none⟩, 4, be4 x.f⟩, ⟨some ⟨b3, 0, none⟩, 4, be4 x.g⟩] (rx_lit rfl rfl hh) (fa_cons (rx_lit rfl rfl hh) (fa_cons (rx_lit rfl rfl hh) (fa_cons (rx_lit rfl rfl hh) fa_nil))) (by rw [head_cat]; omega)) rfl (fun ⟨a5, c5⟩ _ => ?_); dsimp only; rw [head_cat])))
        all_goals refine wt_end ?_
        all_goals (refine xp1 26 rfl rfl rfl rfl (by refine o1_assign rfl fz) ?_)
        all_goals refine op_nil ?_
        all_goals refine re_nil ?_
      case' al1_2B =>
        all_goals first | (refine ct_run (E' := [(23, _)]) rfl (gd_r0 rfl) rfl (cov_cons rfl rfl cov_nil) ?_; (first | (refine o1_call (fun _ => st_word _ x.f) rfl (fun b2 _ => ?_)) | (refine o1_call (fun _ => st_word _ x.g) rfl (fun b3 _ => ?_))))
        all_goals refine wt_ch ?_
        all_goals refine op_nil ?_
        all_goals (refine xq1 1 rfl rfl rfl rfl rfl (by refine o1_fieldAddr rfl fz) ?_)
        all_goals (refine xq1 12 rfl rfl rfl rfl rfl (by first | refine ox_load rfl (by rfl) fz | refine ox_load_enc rfl (by first | omega | (simp; omega)) fz | refine ox_load_any rfl (by assumption) fz) ?_)
        all_goals (refine xq1 13 rfl rfl rfl rfl rfl (by refine o1_conv_iu rfl fz) ?_)
        all_goals (refine xq1 1 rfl rfl rfl rfl rfl (by refine o1_fieldAddr rfl fz) ?_)
        all_goals (refine xq1 15 rfl rfl rfl rfl rfl (by first | refine ox_load rfl (by rfl) fz | refine ox_load_enc rfl (by first | omega | (simp; omega)) fz | refine ox_load_any rfl (by assumption) fz) ?_)
        all_goals (refine xq1 16 rfl rfl rfl rfl rfl (by refine o1_conv_iu rfl fz) ?_)
        all_goals refine re_nil ?_
        all_goals first | (refine ct_run (E' := [(14, _), (17, _)]) rfl (gd_r0 rfl) rfl (cov_cons rfl rfl (cov_cons rfl rfl cov_nil)) ?_; (first | (refine o1_lit_enc B [BitVec.ofInt 8 x.a, BitVec.ofInt 8 x.t] rfl rfl rfl (fun _ => rfl) rfl rfl rfl (fun b4 => ?_)) | (refine o1_lit_enc Bs [⟨some ⟨b4, 0, none⟩, 2, [BitVec.ofInt 8 x.a, BitVec.ofInt 8 x.t]⟩, ⟨some ⟨b2, 0, none⟩, 4, be4 x.f⟩, ⟨some ⟨b3, 0, none⟩, 4, be4 x.g⟩] rfl rfl rfl (fun _ => rfl) rfl rfl rfl (fun b5 => ?_)) | refine o1_lit_B rfl rfl rfl rfl rfl (fun _ => ?_)))
        all_goals refine wt_ch ?_
        all_goals refine op_nil ?_
        all_goals refine re_nil ?_
        all_goals first | (refine ct_run (E' := [(18, _), (21, _), (24, _)]) rfl (gd_r0 rfl) rfl (cov_cons rfl rfl (cov_cons rfl rfl (cov_cons rfl rfl cov_nil))) ?_; (first | (refine o1_lit_enc B [BitVec.ofInt 8 x.a, BitVec.ofInt 8 x.t] rfl rfl rfl (fun _ => rfl) rfl rfl rfl (fun b4 => ?_)) | (refine o1_lit_enc Bs [⟨some ⟨b4, 0, none⟩, 2, [BitVec.ofInt 8 x.a, BitVec.ofInt 8 x.t]⟩, ⟨some ⟨b2, 0, none⟩, 4, be4 x.f⟩, ⟨some ⟨b3, 0, none⟩, 4, be4 x.g⟩] rfl rfl rfl (fun _ => rfl) rfl rfl rfl (fun b5 => ?_)) | refine o1_lit_B rfl rfl rfl rfl rfl (fun _ => ?_)))
        all_goals refine wt_ch ?_
        all_goals refine op_nil ?_
        all_goals refine re_nil ?_
        all_goals first | (refine ct_run (E' := [(25, _)]) rfl (gd_r0 rfl) rfl (cov_cons rfl rfl cov_nil) ?_; (first | (refine o1_call (fun hh => slices_Concat _ _ _ [⟨some ⟨b4, 0, none⟩, 2, [BitVec.ofInt 8 x.a, BitVec.ofInt 8 x.t]⟩, ⟨some ⟨b2, 0, none⟩, 4, be4 x.f⟩, ⟨some ⟨b3, 0, none⟩, 4, be4 x.g⟩] (rx_lit rfl rfl hh) (fa_cons (rx_lit rfl rfl hh) (fa_cons (rx_lit rfl rfl hh) (fa_cons (rx_lit rfl rfl hh) fa_nil))) (by rw [head_cat]; omega)) rfl (fun ⟨a5, c5⟩ _ => ?_); dsimp only; rw [head_cat])))
        all_goals refine wt_end ?_
        all_goals (refine xp1 26 rfl rfl rfl rfl (by refine o1_assign rfl fz) ?_)
        all_goals refine op_nil ?_
        all_goals refine re_nil ?_
    all_goals dsimp only [List.cons_append, List.nil_append]
    all_goals exact via (a5, c5) _ _ (cov_cons rfl rfl (cov_cons rfl rfl cov_nil)) (by (try dsimp only [List.cons_append, List.nil_append, List.singleton_append, List.append_nil]); (repeat (first | exact Ent.nil | exact Ent.refl _ | (apply Ent.cons; (repeat (first | exact Sel.here | apply Sel.there))))))
  case rest =>
    rintro ⟨a0, c0⟩
    dsimp only
    repeat' (first | refine ls_of rfl ?_ | refine ls_of_no ?_ | refine ls_guard_yes rfl rfl ?_ | refine ls_guard_no rfl rfl rfl rfl ?_ | refine ls_guard_un rfl rfl rfl ?_ | refine o1_move rfl ?_ | refine o1_assign rfl ?_ | refine st_seq ?_ | refine st_region ?_ | refine st_skip ?_ | refine st_ret ?_ | refine st_exit ?_ | refine st_cond_t rfl ?_ | refine st_cond_f rfl ?_ | refine st_cond rfl (fun _ => ?_) (fun _ => ?_) | refine ls_nil ?_ | refine nx_seq ?_ | refine nx_blk ?_ | refine nx_fn ?_ | refine nx_rounds ?_ | refine xt_seq ?_ | refine xt_here ?_ | refine xt_on rfl ?_ | refine xt_rounds ?_ | refine xt_cut ?_ | refine rt_seq ?_ | refine rt_blk ?_ | refine rt_rounds ?_ | refine rt_cut ?_ | refine o1_extract rfl rfl ?_ | refine o1_fieldAddr rfl ?_ | refine ox_load rfl (by rfl) ?_ | refine ox_load_enc rfl (by first | omega | (simp; omega)) ?_ | refine ox_load_any rfl (by assumption) ?_ | refine o1_box rfl rfl (fun _ => ?_) | refine o1_add rfl rfl (by omega) ?_ | refine o1_lss_t rfl rfl (by omega) ?_ | refine o1_lss_f rfl rfl (by omega) ?_ | refine o1_lss rfl rfl (fun _ => ?_) (fun _ => ?_) | refine o1_bnot rfl ?_ | refine o1_ushr rfl rfl (by omega) ?_ | refine o1_unot rfl ?_ | refine o1_conv_iu rfl ?_ | refine o1_lit_B rfl rfl rfl rfl rfl (fun _ => ?_) | refine o1_index_arr rfl rfl (by omega) (by rfl) ?_ | refine ox_append rfl rfl (rx_box rfl (by first | decide | omega)) rfl rfl (fun _ => rfl) (by omega) (by omega) (fun _ _ => ?_) | refine ox_append rfl rfl (rx_any (by assumption)) rfl rfl (fun _ => rfl) (by omega) (by omega) (fun _ _ => ?_) | refine ox_append rfl rfl rx_row rfl rfl (fun _ => rfl) (by omega) (by omega) (fun _ _ => ?_) | refine o1_alloc rfl (fun _ => ?_) | refine ox_store_agg rfl rfl (by rfl) (by simp) (by simp [Value.oneCell']) (by simp only [putL, List.set_cons_zero, List.set_cons_succ, Nat.zero_add, Nat.reduceAdd]; rfl) ?_ | refine ox_load_agg rfl (by simp only [Nat.zero_add, Nat.reduceAdd, List.drop_zero, List.drop_succ_cons, List.take_succ_cons, List.take_zero]; rfl) (by rfl) ?_)
    refine st_block ?_
    refine st_rounds 2 ?_
    repeat' (first | refine ls_of rfl ?_ | refine ls_of_no ?_ | refine ls_guard_yes rfl rfl ?_ | refine ls_guard_no rfl rfl rfl rfl ?_ | refine ls_guard_un rfl rfl rfl ?_ | refine o1_move rfl ?_ | refine o1_assign rfl ?_ | refine st_seq ?_ | refine st_region ?_ | refine st_skip ?_ | refine st_ret ?_ | refine st_exit ?_ | refine st_cond_t rfl ?_ | refine st_cond_f rfl ?_ | refine st_cond rfl (fun _ => ?_) (fun _ => ?_) | refine ls_nil ?_ | refine nx_seq ?_ | refine nx_blk ?_ | refine nx_fn ?_ | refine nx_rounds ?_ | refine xt_seq ?_ | refine xt_here ?_ | refine xt_on rfl ?_ | refine xt_rounds ?_ | refine xt_cut ?_ | refine rt_seq ?_ | refine rt_blk ?_ | refine rt_rounds ?_ | refine rt_cut ?_ | refine o1_extract rfl rfl ?_ | refine o1_fieldAddr rfl ?_ | refine ox_load rfl (by rfl) ?_ | refine ox_load_enc rfl (by first | omega | (simp; omega)) ?_ | refine ox_load_any rfl (by assumption) ?_ | refine o1_box rfl rfl (fun _ => ?_) | refine o1_add rfl rfl (by omega) ?_ | refine o1_lss_t rfl rfl (by omega) ?_ | refine o1_lss_f rfl rfl (by omega) ?_ | refine o1_lss rfl rfl (fun _ => ?_) (fun _ => ?_) | refine o1_bnot rfl ?_ | refine o1_ushr rfl rfl (by omega) ?_ | refine o1_unot rfl ?_ | refine o1_conv_iu rfl ?_ | refine o1_lit_B rfl rfl rfl rfl rfl (fun _ => ?_) | refine o1_index_arr rfl rfl (by omega) (by rfl) ?_ | refine ox_append rfl rfl (rx_box rfl (by first | decide | omega)) rfl rfl (fun _ => rfl) (by omega) (by omega) (fun _ _ => ?_) | refine ox_append rfl rfl (rx_any (by assumption)) rfl rfl (fun _ => rfl) (by omega) (by omega) (fun _ _ => ?_) | refine ox_append rfl rfl rx_row rfl rfl (fun _ => rfl) (by omega) (by omega) (fun _ _ => ?_) | refine o1_alloc rfl (fun _ => ?_) | refine ox_store_agg rfl rfl (by rfl) (by simp) (by simp [Value.oneCell']) (by simp only [putL, List.set_cons_zero, List.set_cons_succ, Nat.zero_add, Nat.reduceAdd]; rfl) ?_ | refine ox_load_agg rfl (by simp only [Nat.zero_add, Nat.reduceAdd, List.drop_zero, List.drop_succ_cons, List.take_succ_cons, List.take_zero]; rfl) (by rfl) ?_)
    refine st_viaK (X := PA) (fun r => [(1, .pointer (some ⟨b1, 0, none⟩)), (4, .slice r.1 (x.head ++ x.s0.by).length r.2), (28, arrV x), (29, I 0)]) (fun r => [.box b1 30 x.c, rowB r (x.head ++ x.s0.by), .any (stars H)]) ?restA ?walkA
    case walkA =>
      intro k' via
      cases hn : x.s0.nothing
      · repeat' (first | refine ls_of rfl ?_ | refine ls_of_no ?_ | refine ls_guard_yes rfl rfl ?_ | refine ls_guard_no rfl rfl rfl rfl ?_ | refine ls_guard_un rfl rfl rfl ?_ | refine o1_move rfl ?_ | refine o1_assign rfl ?_ | refine st_seq ?_ | refine st_region ?_ | refine st_block ?_ | refine st_skip ?_ | refine st_ret ?_ | refine st_exit ?_ | refine st_cond_t rfl ?_ | refine st_cond_f rfl ?_ | refine st_cond rfl (fun _ => ?_) (fun _ => ?_) | refine ls_nil ?_ | refine nx_seq ?_ | refine nx_blk ?_ | refine nx_fn ?_ | refine nx_rounds ?_ | refine xt_seq ?_ | refine xt_here ?_ | refine xt_on rfl ?_ | refine xt_rounds ?_ | refine xt_cut ?_ | refine rt_seq ?_ | refine rt_blk ?_ | refine rt_rounds ?_ | refine rt_cut ?_ | refine o1_index_agg 0 rfl rfl rfl (by decide) (by simp only [Nat.zero_mul, Nat.one_mul, Nat.reduceMul, List.drop_zero, List.drop_succ_cons, List.take_succ_cons, List.take_zero]; rfl) ?_ | refine o1_call (fun _ => (st_nothing _ x.s0).bv (b := false) hn) rfl (fun _ _ => ?_) | refine o1_extract rfl rfl ?_ | refine o1_fieldAddr rfl ?_ | refine ox_load rfl (by rfl) ?_ | refine ox_load_enc rfl (by first | omega | (simp; omega)) ?_ | refine ox_load_any rfl (by assumption) ?_ | refine o1_box rfl rfl (fun _ => ?_) | refine o1_add rfl rfl (by omega) ?_ | refine o1_lss_t rfl rfl (by omega) ?_ | refine o1_lss_f rfl rfl (by omega) ?_ | refine o1_lss rfl rfl (fun _ => ?_) (fun _ => ?_) | refine o1_bnot rfl ?_ | refine o1_ushr rfl rfl (by omega) ?_ | refine o1_unot rfl ?_ | refine o1_conv_iu rfl ?_ | refine o1_lit_B rfl rfl rfl rfl rfl (fun _ => ?_) | refine o1_index_arr rfl rfl (by omega) (by rfl) ?_ | refine ox_append rfl rfl (rx_box rfl (by first | decide | omega)) rfl rfl (fun _ => rfl) (by omega) (by omega) (fun _ _ => ?_) | refine ox_append rfl rfl (rx_any (by assumption)) rfl rfl (fun _ => rfl) (by omega) (by omega) (fun _ _ => ?_) | refine ox_append rfl rfl rx_row rfl rfl (fun _ => rfl) (by omega) (by omega) (fun _ _ => ?_) | refine o1_alloc rfl (fun _ => ?_) | refine ox_store_agg rfl rfl (by rfl) (by simp) (by simp [Value.oneCell']) (by simp only [putL, List.set_cons_zero, List.set_cons_succ, Nat.zero_add, Nat.reduceAdd]; rfl) ?_ | refine ox_load_agg rfl (by simp only [Nat.zero_add, Nat.reduceAdd, List.drop_zero, List.drop_succ_cons, List.take_succ_cons, List.take_zero]; rfl) (by rfl) ?_)
        refine st_tree [(4, _), (6, _)] rtG4_1 [1, 4, 12, 15, 16] (.alt3 [0, 2, 3, 5, 6, 7, 8, 9, 10, 11, 13, 14] [] 1 (.alt [] [0, 2, 3, 5, 6, 7, 8, 9, 10, 11, 13, 14] 4 (.step [] [0, 5, 6, 7, 8, 9, 10, 11, 13, 14] 12 (.step [] [0, 13, 14] 15 (.step [] [] 16 (.fin [17] [])))) 12 (.step [] [0, 2, 3, 13, 14] 4 (.step [] [0, 13, 14] 15 (.step [] [] 16 (.fin [17] []))))) 4 (.alt [] [0, 5, 6, 7, 8, 9, 10, 11, 13, 14] 1 (.step [] [0, 5, 6, 7, 8, 9, 10, 11, 13, 14] 12 (.step [] [0, 13, 14] 15 (.step [] [] 16 (.fin [17] [])))) 12 (.step [] [0, 13, 14] 1 (.step [] [0, 13, 14] 15 (.step [] [] 16 (.fin [17] []))))) 12 (.alt [] [0, 2, 3, 13, 14] 1 (.step [] [0, 2, 3, 13, 14] 4 (.step [] [0, 13, 14] 15 (.step [] [] 16 (.fin [17] [])))) 4 (.step [] [0, 13, 14] 1 (.step [] [0, 13, 14] 15 (.step [] [] 16 (.fin [17] [])))))) mixed (cov_cons rfl rfl (cov_cons rfl rfl cov_nil)) (by kernel_rfl) (by kernel_rfl) ?_
        all_goals refine wt_alt3 ?_
        all_goals (refine xp1 4 rfl rfl rfl rfl (by refine o1_move rfl fz) ?_)
        all_goals (refine xp1 6 rfl rfl rfl rfl (by refine o1_fieldAddr rfl fz) ?_)
        all_goals (refine xp1 39 rfl rfl rfl rfl (by first | refine ox_load rfl (by rfl) fz | refine ox_load_enc rfl (by first | omega | (simp; omega)) fz | refine ox_load_any rfl (by assumption) fz) ?_)
        all_goals (refine xp1 6 rfl rfl rfl rfl (by refine o1_fieldAddr rfl fz) ?_)
        all_goals (refine xp1 42 rfl rfl rfl rfl (by first | refine ox_load rfl (by rfl) fz | refine ox_load_enc rfl (by first | omega | (simp; omega)) fz | refine ox_load_any rfl (by assumption) fz) ?_)
        all_goals (refine xp1 43 rfl rfl rfl rfl (by first | refine o1_ishr8 rfl rfl fz | refine o1_ushr rfl rfl (by omega) fz) ?_)
        all_goals (refine xp1 44 rfl rfl rfl rfl (by refine o1_conv_iu rfl fz) ?_)
        all_goals (refine xp1 6 rfl rfl rfl rfl (by refine o1_fieldAddr rfl fz) ?_)
        all_goals (refine xp1 46 rfl rfl rfl rfl (by first | refine ox_load rfl (by rfl) fz | refine ox_load_enc rfl (by first | omega | (simp; omega)) fz | refine ox_load_any rfl (by assumption) fz) ?_)
        all_goals (refine xp1 47 rfl rfl rfl rfl (by refine o1_conv_iu rfl fz) ?_)
        all_goals (refine xp1 6 rfl rfl rfl rfl (by refine o1_fieldAddr rfl fz) ?_)
        all_goals (refine xp1 50 rfl rfl rfl rfl (by first | refine ox_load rfl (by rfl) fz | refine ox_load_enc rfl (by first | omega | (simp; omega)) fz | refine ox_load_any rfl (by assumption) fz) ?_)
        all_goals refine op_nil ?_
        all_goals refine re_nil ?_
        refine ⟨?al2_1A, ?al2_1B, ?al2_1C⟩
        case' al2_1A =>
          all_goals first | (refine ct_run (E' := []) rfl (gd_r0 rfl) rfl cov_nil ?_; (first | (refine o1_lit_enc B [1#8] rfl rfl rfl (fun _ => rfl) rfl rfl rfl (fun b3 => ?_)) | (refine o1_lit_enc B (be2 x.s0.n) rfl rfl rfl (fun _ => rfl) rfl rfl rfl (fun b4 => ?_)) | (refine o1_lit_enc Bs [⟨a0, c0, x.head⟩, ⟨some ⟨b3, 0, none⟩, 1, [1#8]⟩, ⟨some ⟨b2, 0, none⟩, 4, be4 x.s0.v⟩, ⟨some ⟨b4, 0, none⟩, 2, be2 x.s0.n⟩, x.s0.h] rfl rfl rfl (fun _ => rfl) rfl rfl rfl (fun b5 => ?_)) | refine o1_lit_B rfl rfl rfl rfl rfl (fun _ => ?_)))
          all_goals refine wt_alt ?_
          all_goals refine op_nil ?_
          all_goals (refine xq1 4 rfl rfl rfl rfl rfl (by refine o1_move rfl fz) ?_)
          all_goals (refine xq1 6 rfl rfl rfl rfl rfl (by refine o1_fieldAddr rfl fz) ?_)
          all_goals (refine xq1 39 rfl rfl rfl rfl rfl (by first | refine ox_load rfl (by rfl) fz | refine ox_load_enc rfl (by first | omega | (simp; omega)) fz | refine ox_load_any rfl (by assumption) fz) ?_)
          all_goals (refine xq1 6 rfl rfl rfl rfl rfl (by refine o1_fieldAddr rfl fz) ?_)
          all_goals (refine xq1 42 rfl rfl rfl rfl rfl (by first | refine ox_load rfl (by rfl) fz | refine ox_load_enc rfl (by first | omega | (simp; omega)) fz | refine ox_load_any rfl (by assumption) fz) ?_)
          all_goals (refine xq1 43 rfl rfl rfl rfl rfl (by first | refine o1_ishr8 rfl rfl fz | refine o1_ushr rfl rfl (by omega) fz) ?_)
          all_goals (refine xq1 44 rfl rfl rfl rfl rfl (by refine o1_conv_iu rfl fz) ?_)
          all_goals (refine xq1 6 rfl rfl rfl rfl rfl (by refine o1_fieldAddr rfl fz) ?_)
          all_goals (refine xq1 46 rfl rfl rfl rfl rfl (by first | refine ox_load rfl (by rfl) fz | refine ox_load_enc rfl (by first | omega | (simp; omega)) fz | refine ox_load_any rfl (by assumption) fz) ?_)
          all_goals (refine xq1 47 rfl rfl rfl rfl rfl (by refine o1_conv_iu rfl fz) ?_)
          all_goals (refine xq1 6 rfl rfl rfl rfl rfl (by refine o1_fieldAddr rfl fz) ?_)
          all_goals (refine xq1 50 rfl rfl rfl rfl rfl (by first | refine ox_load rfl (by rfl) fz | refine ox_load_enc rfl (by first | omega | (simp; omega)) fz | refine ox_load_any rfl (by assumption) fz) ?_)
          all_goals refine re_nil ?_
          refine ⟨?al2_2A, ?al2_2B⟩
          case' al2_2A =>
            all_goals first | (refine ct_run (E' := [(40, _)]) rfl (gd_r0 rfl) rfl (cov_cons rfl rfl cov_nil) ?_; (first | (refine o1_call (fun _ => st_word _ x.s0.v) rfl (fun b2 _ => ?_))))
            all_goals refine wt_ch ?_
            all_goals refine op_nil ?_
            all_goals (refine xq1 4 rfl rfl rfl rfl rfl (by refine o1_move rfl fz) ?_)
            all_goals (refine xq1 6 rfl rfl rfl rfl rfl (by refine o1_fieldAddr rfl fz) ?_)
            all_goals (refine xq1 42 rfl rfl rfl rfl rfl (by first | refine ox_load rfl (by rfl) fz | refine ox_load_enc rfl (by first | omega | (simp; omega)) fz | refine ox_load_any rfl (by assumption) fz) ?_)
            all_goals (refine xq1 43 rfl rfl rfl rfl rfl (by first | refine o1_ishr8 rfl rfl fz | refine o1_ushr rfl rfl (by omega) fz) ?_)
            all_goals (refine xq1 44 rfl rfl rfl rfl rfl (by refine o1_conv_iu rfl fz) ?_)
            all_goals (refine xq1 6 rfl rfl rfl rfl rfl (by refine o1_fieldAddr rfl fz) ?_)
            all_goals (refine xq1 46 rfl rfl rfl rfl rfl (by first | refine ox_load rfl (by rfl) fz | refine ox_load_enc rfl (by first | omega | (simp; omega)) fz | refine ox_load_any rfl (by assumption) fz) ?_)
            all_goals (refine xq1 47 rfl rfl rfl rfl rfl (by refine o1_conv_iu rfl fz) ?_)
            all_goals (refine xq1 6 rfl rfl rfl rfl rfl (by refine o1_fieldAddr rfl fz) ?_)
            all_goals (refine xq1 50 rfl rfl rfl rfl rfl (by first | refine ox_load rfl (by rfl) fz | refine ox_load_enc rfl (by first | omega | (simp; omega)) fz | refine ox_load_any rfl (by assumption) fz) ?_)
            all_goals refine re_nil ?_
            all_goals first | (refine ct_run (E' := [(45, _), (48, _)]) rfl (gd_r0 rfl) rfl (cov_cons rfl rfl (cov_cons rfl rfl cov_nil)) ?_; (first | (refine o1_lit_enc B [1#8] rfl rfl rfl (fun _ => rfl) rfl rfl rfl (fun b3 => ?_)) | (refine o1_lit_enc B (be2 x.s0.n) rfl rfl rfl (fun _ => rfl) rfl rfl rfl (fun b4 => ?_)) | (refine o1_lit_enc Bs [⟨a0, c0, x.head⟩, ⟨some ⟨b3, 0, none⟩, 1, [1#8]⟩, ⟨some ⟨b2, 0, none⟩, 4, be4 x.s0.v⟩, ⟨some ⟨b4, 0, none⟩, 2, be2 x.s0.n⟩, x.s0.h] rfl rfl rfl (fun _ => rfl) rfl rfl rfl (fun b5 => ?_)) | refine o1_lit_B rfl rfl rfl rfl rfl (fun _ => ?_)))
            all_goals refine wt_ch ?_
            all_goals refine op_nil ?_
            all_goals (refine xq1 4 rfl rfl rfl rfl rfl (by refine o1_move rfl fz) ?_)
            all_goals (refine xq1 6 rfl rfl rfl rfl rfl (by refine o1_fieldAddr rfl fz) ?_)
            all_goals (refine xq1 50 rfl rfl rfl rfl rfl (by first | refine ox_load rfl (by rfl) fz | refine ox_load_enc rfl (by first | omega | (simp; omega)) fz | refine ox_load_any rfl (by assumption) fz) ?_)
            all_goals refine re_nil ?_
            all_goals first | (refine ct_run (E' := [(37, _), (38, _), (41, _), (49, _), (51, _)]) rfl (gd_r0 rfl) rfl (cov_cons rfl rfl (cov_cons rfl rfl (cov_cons rfl rfl (cov_cons rfl rfl (cov_cons rfl rfl cov_nil))))) ?_; (first | (refine o1_lit_enc B [1#8] rfl rfl rfl (fun _ => rfl) rfl rfl rfl (fun b3 => ?_)) | (refine o1_lit_enc B (be2 x.s0.n) rfl rfl rfl (fun _ => rfl) rfl rfl rfl (fun b4 => ?_)) | (refine o1_lit_enc Bs [⟨a0, c0, x.head⟩, ⟨some ⟨b3, 0, none⟩, 1, [1#8]⟩, ⟨some ⟨b2, 0, none⟩, 4, be4 x.s0.v⟩, ⟨some ⟨b4, 0, none⟩, 2, be2 x.s0.n⟩, x.s0.h] rfl rfl rfl (fun _ => rfl) rfl rfl rfl (fun b5 => ?_)) | refine o1_lit_B rfl rfl rfl rfl rfl (fun _ => ?_)))
            all_goals refine wt_ch ?_
            all_goals refine op_nil ?_
            all_goals refine re_nil ?_
            all_goals first | (refine ct_run (E' := [(52, _)]) rfl (gd_r0 rfl) rfl (cov_cons rfl rfl cov_nil) ?_; (first | (refine o1_call (fun hh => slices_Concat _ _ _ [⟨a0, c0, x.head⟩, ⟨some ⟨b3, 0, none⟩, 1, [1#8]⟩, ⟨some ⟨b2, 0, none⟩, 4, be4 x.s0.v⟩, ⟨some ⟨b4, 0, none⟩, 2, be2 x.s0.n⟩, x.s0.h] (rx_lit rfl rfl hh) (fa_cons (rx_row (ad := a0) (c := c0) hh) (fa_cons (rx_lit rfl rfl hh) (fa_cons (rx_lit rfl rfl hh) (fa_cons (rx_lit rfl rfl hh) (fa_cons (Rs.up e0) fa_nil))))) (by rw [slot_cat hn]; omega)) rfl (fun ⟨a5, c5⟩ _ => ?_); dsimp only; rw [slot_cat hn])))
            all_goals refine wt_end ?_
            all_goals (refine xp1 53 rfl rfl rfl rfl (by refine o1_assign rfl fz) ?_)
            all_goals refine op_nil ?_
            all_goals refine re_nil ?_
          case' al2_2B =>
            all_goals first | (refine ct_run (E' := [(45, _), (48, _)]) rfl (gd_r0 rfl) rfl (cov_cons rfl rfl (cov_cons rfl rfl cov_nil)) ?_; (first | (refine o1_lit_enc B [1#8] rfl rfl rfl (fun _ => rfl) rfl rfl rfl (fun b3 => ?_)) | (refine o1_lit_enc B (be2 x.s0.n) rfl rfl rfl (fun _ => rfl) rfl rfl rfl (fun b4 => ?_)) | (refine o1_lit_enc Bs [⟨a0, c0, x.head⟩, ⟨some ⟨b3, 0, none⟩, 1, [1#8]⟩, ⟨some ⟨b2, 0, none⟩, 4, be4 x.s0.v⟩, ⟨some ⟨b4, 0, none⟩, 2, be2 x.s0.n⟩, x.s0.h] rfl rfl rfl (fun _ => rfl) rfl rfl rfl (fun b5 => ?_)) | refine o1_lit_B rfl rfl rfl rfl rfl (fun _ => ?_)))
            all_goals refine wt_ch ?_
            all_goals refine op_nil ?_
            all_goals (refine xq1 4 rfl rfl rfl rfl rfl (by refine o1_move rfl fz) ?_)
            all_goals (refine xq1 6 rfl rfl rfl rfl rfl (by refine o1_fieldAddr rfl fz) ?_)
            all_goals (refine xq1 39 rfl rfl rfl rfl rfl (by first | refine ox_load rfl (by rfl) fz | refine ox_load_enc rfl (by first | omega | (simp; omega)) fz | refine ox_load_any rfl (by assumption) fz) ?_)
            all_goals (refine xq1 6 rfl rfl rfl rfl rfl (by refine o1_fieldAddr rfl fz) ?_)
            all_goals (refine xq1 50 rfl rfl rfl rfl rfl (by first | refine ox_load rfl (by rfl) fz | refine ox_load_enc rfl (by first | omega | (simp; omega)) fz | refine ox_load_any rfl (by assumption) fz) ?_)
            all_goals refine re_nil ?_
            all_goals first | (refine ct_run (E' := [(40, _)]) rfl (gd_r0 rfl) rfl (cov_cons rfl rfl cov_nil) ?_; (first | (refine o1_call (fun _ => st_word _ x.s0.v) rfl (fun b2 _ => ?_))))
            all_goals refine wt_ch ?_
            all_goals refine op_nil ?_
            all_goals (refine xq1 4 rfl rfl rfl rfl rfl (by refine o1_move rfl fz) ?_)
            all_goals (refine xq1 6 rfl rfl rfl rfl rfl (by refine o1_fieldAddr rfl fz) ?_)
            all_goals (refine xq1 50 rfl rfl rfl rfl rfl (by first | refine ox_load rfl (by rfl) fz | refine ox_load_enc rfl (by first | omega | (simp; omega)) fz | refine ox_load_any rfl (by assumption) fz) ?_)
            all_goals refine re_nil ?_
            all_goals first | (refine ct_run (E' := [(37, _), (38, _), (41, _), (49, _), (51, _)]) rfl (gd_r0 rfl) rfl (cov_cons rfl rfl (cov_cons rfl rfl (cov_cons rfl rfl (cov_cons rfl rfl (cov_cons rfl rfl cov_nil))))) ?_; (first | (refine o1_lit_enc B [1#8] rfl rfl rfl (fun _ => rfl) rfl rfl rfl (fun b3 => ?_)) | (refine o1_lit_enc B (be2 x.s0.n) rfl rfl rfl (fun _ => rfl) rfl rfl rfl (fun b4 => ?_)) | (refine o1_lit_enc Bs [⟨a0, c0, x.head⟩, ⟨some ⟨b3, 0, none⟩, 1, [1#8]⟩, ⟨some ⟨b2, 0, none⟩, 4, be4 x.s0.v⟩, ⟨some ⟨b4, 0, none⟩, 2, be2 x.s0.n⟩, x.s0.h] rfl rfl rfl (fun _ => rfl) rfl rfl rfl (fun b5 => ?_)) | refine o1_lit_B rfl rfl rfl rfl rfl (fun _ => ?_)))
            all_goals refine wt_ch ?_
            all_goals refine op_nil ?_
            all_goals refine re_nil ?_
            all_goals first | (refine ct_run (E' := [(52, _)]) rfl (gd_r0 rfl) rfl (cov_cons rfl rfl cov_nil) ?_; (first | (refine o1_call (fun hh => slices_Concat _ _ _ [⟨a0, c0, x.head⟩, ⟨some ⟨b3, 0, none⟩, 1, [1#8]⟩, ⟨some ⟨b2, 0, none⟩, 4, be4 x.s0.v⟩, ⟨some ⟨b4, 0, none⟩, 2, be2 x.s0.n⟩, x.s0.h] (rx_lit rfl rfl hh) (fa_cons (rx_row (ad := a0) (c := c0) hh) (fa_cons (rx_lit rfl rfl hh) (fa_cons (rx_lit rfl rfl hh) (fa_cons (rx_lit rfl rfl hh) (fa_cons (Rs.up e0) fa_nil))))) (by rw [slot_cat hn]; omega)) rfl (fun ⟨a5, c5⟩ _ => ?_); dsimp only; rw [slot_cat hn])))
            all_goals refine wt_end ?_
            all_goals (refine xp1 53 rfl rfl rfl rfl (by refine o1_assign rfl fz) ?_)
            all_goals refine op_nil ?_
            all_goals refine re_nil ?_
        case' al2_1B =>
          all_goals first | (refine ct_run (E' := [(40, _)]) rfl (gd_r0 rfl) rfl (cov_cons rfl rfl cov_nil) ?_; (first | (refine o1_call (fun _ => st_word _ x.s0.v) rfl (fun b2 _ => ?_))))
          all_goals refine wt_alt ?_
          all_goals refine op_nil ?_
          all_goals (refine xq1 4 rfl rfl rfl rfl rfl (by refine o1_move rfl fz) ?_)
          all_goals (refine xq1 6 rfl rfl rfl rfl rfl (by refine o1_fieldAddr rfl fz) ?_)
          all_goals (refine xq1 42 rfl rfl rfl rfl rfl (by first | refine ox_load rfl (by rfl) fz | refine ox_load_enc rfl (by first | omega | (simp; omega)) fz | refine ox_load_any rfl (by assumption) fz) ?_)
          all_goals (refine xq1 43 rfl rfl rfl rfl rfl (by first | refine o1_ishr8 rfl rfl fz | refine o1_ushr rfl rfl (by omega) fz) ?_)
          all_goals (refine xq1 44 rfl rfl rfl rfl rfl (by refine o1_conv_iu rfl fz) ?_)
          all_goals (refine xq1 6 rfl rfl rfl rfl rfl (by refine o1_fieldAddr rfl fz) ?_)
          all_goals (refine xq1 46 rfl rfl rfl rfl rfl (by first | refine ox_load rfl (by rfl) fz | refine ox_load_enc rfl (by first | omega | (simp; omega)) fz | refine ox_load_any rfl (by assumption) fz) ?_)
          all_goals (refine xq1 47 rfl rfl rfl rfl rfl (by refine o1_conv_iu rfl fz) ?_)
          all_goals (refine xq1 6 rfl rfl rfl rfl rfl (by refine o1_fieldAddr rfl fz) ?_)
          all_goals (refine xq1 50 rfl rfl rfl rfl rfl (by first | refine ox_load rfl (by rfl) fz | refine ox_load_enc rfl (by first | omega | (simp; omega)) fz | refine ox_load_any rfl (by assumption) fz) ?_)
          all_goals refine re_nil ?_
          refine ⟨?al2_3A, ?al2_3B⟩
          case' al2_3A =>
            all_goals first | (refine ct_run (E' := []) rfl (gd_r0 rfl) rfl cov_nil ?_; (first | (refine o1_lit_enc B [1#8] rfl rfl rfl (fun _ => rfl) rfl rfl rfl (fun b3 => ?_)) | (refine o1_lit_enc B (be2 x.s0.n) rfl rfl rfl (fun _ => rfl) rfl rfl rfl (fun b4 => ?_)) | (refine o1_lit_enc Bs [⟨a0, c0, x.head⟩, ⟨some ⟨b3, 0, none⟩, 1, [1#8]⟩, ⟨some ⟨b2, 0, none⟩, 4, be4 x.s0.v⟩, ⟨some ⟨b4, 0, none⟩, 2, be2 x.s0.n⟩, x.s0.h] rfl rfl rfl (fun _ => rfl) rfl rfl rfl (fun b5 => ?_)) | refine o1_lit_B rfl rfl rfl rfl rfl (fun _ => ?_)))
            all_goals refine wt_ch ?_
            all_goals refine op_nil ?_
            all_goals (refine xq1 4 rfl rfl rfl rfl rfl (by refine o1_move rfl fz) ?_)
            all_goals (refine xq1 6 rfl rfl rfl rfl rfl (by refine o1_fieldAddr rfl fz) ?_)
            all_goals (refine xq1 42 rfl rfl rfl rfl rfl (by first | refine ox_load rfl (by rfl) fz | refine ox_load_enc rfl (by first | omega | (simp; omega)) fz | refine ox_load_any rfl (by assumption) fz) ?_)
            all_goals (refine xq1 43 rfl rfl rfl rfl rfl (by first | refine o1_ishr8 rfl rfl fz | refine o1_ushr rfl rfl (by omega) fz) ?_)
            all_goals (refine xq1 44 rfl rfl rfl rfl rfl (by refine o1_conv_iu rfl fz) ?_)
            all_goals (refine xq1 6 rfl rfl rfl rfl rfl (by refine o1_fieldAddr rfl fz) ?_)
            all_goals (refine xq1 46 rfl rfl rfl rfl rfl (by first | refine ox_load rfl (by rfl) fz | refine ox_load_enc rfl (by first | omega | (simp; omega)) fz | refine ox_load_any rfl (by assumption) fz) ?_)
            all_goals (refine xq1 47 rfl rfl rfl rfl rfl (by refine o1_conv_iu rfl fz) ?_)
            all_goals (refine xq1 6 rfl rfl rfl rfl rfl (by refine o1_fieldAddr rfl fz) ?_)
            all_goals (refine xq1 50 rfl rfl rfl rfl rfl (by first | refine ox_load rfl (by rfl) fz | refine ox_load_enc rfl (by first | omega | (simp; omega)) fz | refine ox_load_any rfl (by assumption) fz) ?_)
            all_goals refine re_nil ?_
            all_goals first | (refine ct_run (E' := [(45, _), (48, _)]) rfl (gd_r0 rfl) rfl (cov_cons rfl rfl (cov_cons rfl rfl cov_nil)) ?_; (first | (refine o1_lit_enc B [1#8] rfl rfl rfl (fun _ => rfl) rfl rfl rfl (fun b3 => ?_)) | (refine o1_lit_enc B (be2 x.s0.n) rfl rfl rfl (fun _ => rfl) rfl rfl rfl (fun b4 => ?_)) | (refine o1_lit_enc Bs [⟨a0, c0, x.head⟩, ⟨some ⟨b3, 0, none⟩, 1, [1#8]⟩, ⟨some ⟨b2, 0, none⟩, 4, be4 x.s0.v⟩, ⟨some ⟨b4, 0, none⟩, 2, be2 x.s0.n⟩, x.s0.h] rfl rfl rfl (fun _ => rfl) rfl rfl rfl (fun b5 => ?_)) | refine o1_lit_B rfl rfl rfl rfl rfl (fun _ => ?_)))
            all_goals refine wt_ch ?_
            all_goals refine op_nil ?_
            all_goals (refine xq1 4 rfl rfl rfl rfl rfl (by refine o1_move rfl fz) ?_)
            all_goals (refine xq1 6 rfl rfl rfl rfl rfl (by refine o1_fieldAddr rfl fz) ?_)
            all_goals (refine xq1 50 rfl rfl rfl rfl rfl (by first | refine ox_load rfl (by rfl) fz | refine ox_load_enc rfl (by first | omega | (simp; omega)) fz | refine ox_load_any rfl (by assumption) fz) ?_)
            all_goals refine re_nil ?_
            all_goals first | (refine ct_run (E' := [(37, _), (38, _), (41, _), (49, _), (51, _)]) rfl (gd_r0 rfl) rfl (cov_cons rfl rfl (cov_cons rfl rfl (cov_cons rfl rfl (cov_cons rfl rfl (cov_cons rfl rfl cov_nil))))) ?_; (first | (refine o1_lit_enc B [1#8] rfl rfl rfl (fun _ => rfl) rfl rfl rfl (fun b3 => ?_)) | (refine o1_lit_enc B (be2 x.s0.n) rfl rfl rfl (fun _ => rfl) rfl rfl rfl (fun b4 => ?_)) | (refine o1_lit_enc Bs [⟨a0, c0, x.head⟩, ⟨some ⟨b3, 0, none⟩, 1, [1#8]⟩, ⟨some ⟨b2, 0, none⟩, 4, be4 x.s0.v⟩, ⟨some ⟨b4, 0, none⟩, 2, be2 x.s0.n⟩, x.s0.h] rfl rfl rfl (fun _ => rfl) rfl rfl rfl (fun b5 => ?_)) | refine o1_lit_B rfl rfl rfl rfl rfl (fun _ => ?_)))
            all_goals refine wt_ch ?_
            all_goals refine op_nil ?_
            all_goals refine re_nil ?_
            all_goals first | (refine ct_run (E' := [(52, _)]) rfl (gd_r0 rfl) rfl (cov_cons rfl rfl cov_nil) ?_; (first | (refine o1_call (fun hh => slices_Concat _ _ _ [⟨a0, c0, x.head⟩, ⟨some ⟨b3, 0, none⟩, 1, [1#8]⟩, ⟨some ⟨b2, 0, none⟩, 4, be4 x.s0.v⟩, ⟨some ⟨b4, 0, none⟩, 2, be2 x.s0.n⟩, x.s0.h] (rx_lit rfl rfl hh) (fa_cons (rx_row (ad := a0) (c := c0) hh) (fa_cons (rx_lit rfl rfl hh) (fa_cons (rx_lit rfl rfl hh) (fa_cons (rx_lit rfl rfl hh) (fa_cons (Rs.up e0) fa_nil))))) (by rw [slot_cat hn]; omega)) rfl (fun ⟨a5, c5⟩ _ => ?_); dsimp only; rw [slot_cat hn])))
            all_goals refine wt_end ?_
            all_goals (refine xp1 53 rfl rfl rfl rfl (by refine o1_assign rfl fz) ?_)
            all_goals refine op_nil ?_
            all_goals refine re_nil ?_
          case' al2_3B =>
            all_goals first | (refine ct_run (E' := [(45, _), (48, _)]) rfl (gd_r0 rfl) rfl (cov_cons rfl rfl (cov_cons rfl rfl cov_nil)) ?_; (first | (refine o1_lit_enc B [1#8] rfl rfl rfl (fun _ => rfl) rfl rfl rfl (fun b3 => ?_)) | (refine o1_lit_enc B (be2 x.s0.n) rfl rfl rfl (fun _ => rfl) rfl rfl rfl (fun b4 => ?_)) | (refine o1_lit_enc Bs [⟨a0, c0, x.head⟩, ⟨some ⟨b3, 0, none⟩, 1, [1#8]⟩, ⟨some ⟨b2, 0, none⟩, 4, be4 x.s0.v⟩, ⟨some ⟨b4, 0, none⟩, 2, be2 x.s0.n⟩, x.s0.h] rfl rfl rfl (fun _ => rfl) rfl rfl rfl (fun b5 => ?_)) | refine o1_lit_B rfl rfl rfl rfl rfl (fun _ => ?_)))
            all_goals refine wt_ch ?_
            all_goals refine op_nil ?_
            all_goals (refine xq1 4 rfl rfl rfl rfl rfl (by refine o1_move rfl fz) ?_)
            all_goals (refine xq1 6 rfl rfl rfl rfl rfl (by refine o1_fieldAddr rfl fz) ?_)
            all_goals (refine xq1 50 rfl rfl rfl rfl rfl (by first | refine ox_load rfl (by rfl) fz | refine ox_load_enc rfl (by first | omega | (simp; omega)) fz | refine ox_load_any rfl (by assumption) fz) ?_)
            all_goals refine re_nil ?_
            all_goals first | (refine ct_run (E' := []) rfl (gd_r0 rfl) rfl cov_nil ?_; (first | (refine o1_lit_enc B [1#8] rfl rfl rfl (fun _ => rfl) rfl rfl rfl (fun b3 => ?_)) | (refine o1_lit_enc B (be2 x.s0.n) rfl rfl rfl (fun _ => rfl) rfl rfl rfl (fun b4 => ?_)) | (refine o1_lit_enc Bs [⟨a0, c0, x.head⟩, ⟨some ⟨b3, 0, none⟩, 1, [1#8]⟩, ⟨some ⟨b2, 0, none⟩, 4, be4 x.s0.v⟩, ⟨some ⟨b4, 0, none⟩, 2, be2 x.s0.n⟩, x.s0.h] rfl rfl rfl (fun _ => rfl) rfl rfl rfl (fun b5 => ?_)) | refine o1_lit_B rfl rfl rfl rfl rfl (fun _ => ?_)))
            all_goals refine wt_ch ?_
            all_goals refine op_nil ?_
            all_goals (refine xq1 4 rfl rfl rfl rfl rfl (by refine o1_move rfl fz) ?_)
            all_goals (refine xq1 6 rfl rfl rfl rfl rfl (by refine o1_fieldAddr rfl fz) ?_)
            all_goals (refine xq1 50 rfl rfl rfl rfl rfl (by first | refine ox_load rfl (by rfl) fz | refine ox_load_enc rfl (by first | omega | (simp; omega)) fz | refine ox_load_any rfl (by assumption) fz) ?_)
            all_goals refine re_nil ?_
            all_goals first | (refine ct_run (E' := [(37, _), (38, _), (41, _), (49, _), (51, _)]) rfl (gd_r0 rfl) rfl (cov_cons rfl rfl (cov_cons rfl rfl (cov_cons rfl rfl (cov_cons rfl rfl (cov_cons rfl rfl cov_nil))))) ?_; (first | (refine o1_lit_enc B [1#8] rfl rfl rfl (fun _ => rfl) rfl rfl rfl (fun b3 => ?_)) | (refine o1_lit_enc B (be2 x.s0.n) rfl rfl rfl (fun _ => rfl) rfl rfl rfl (fun b4 => ?_)) | (refine o1_lit_enc Bs [⟨a0, c0, x.head⟩, ⟨some ⟨b3, 0, none⟩, 1, [1#8]⟩, ⟨some ⟨b2, 0, none⟩, 4, be4 x.s0.v⟩, ⟨some ⟨b4, 0, none⟩, 2, be2 x.s0.n⟩, x.s0.h] rfl rfl rfl (fun _ => rfl) rfl rfl rfl (fun b5 => ?_)) | refine o1_lit_B rfl rfl rfl rfl rfl (fun _ => ?_)))
            all_goals refine wt_ch ?_
            all_goals refine op_nil ?_
            all_goals refine re_nil ?_
            all_goals first | (refine ct_run (E' := [(52, _)]) rfl (gd_r0 rfl) rfl (cov_cons rfl rfl cov_nil) ?_; (first | (refine o1_call (fun hh => slices_Concat _ _ _ [⟨a0, c0, x.head⟩, ⟨some ⟨b3, 0, none⟩, 1, [1#8]⟩, ⟨some ⟨b2, 0, none⟩, 4, be4 x.s0.v⟩, ⟨some ⟨b4, 0, none⟩, 2, be2 x.s0.n⟩, x.s0.h] (rx_lit rfl rfl hh) (fa_cons (rx_row (ad := a0) (c := c0) hh) (fa_cons (rx_lit rfl rfl hh) (fa_cons (rx_lit rfl rfl hh) (fa_cons (rx_lit rfl rfl hh) (fa_cons (Rs.up e0) fa_nil))))) (by rw [slot_cat hn]; omega)) rfl (fun ⟨a5, c5⟩ _ => ?_); dsimp only; rw [slot_cat hn])))
            all_goals refine wt_end ?_
            all_goals (refine xp1 53 rfl rfl rfl rfl (by refine o1_assign rfl fz) ?_)
            all_goals refine op_nil ?_
            all_goals refine re_nil ?_
        case' al2_1C =>
          all_goals first | (refine ct_run (E' := [(45, _), (48, _)]) rfl (gd_r0 rfl) rfl (cov_cons rfl rfl (cov_cons rfl rfl cov_nil)) ?_; (first | (refine o1_lit_enc B [1#8] rfl rfl rfl (fun _ => rfl) rfl rfl rfl (fun b3 => ?_)) | (refine o1_lit_enc B (be2 x.s0.n) rfl rfl rfl (fun _ => rfl) rfl rfl rfl (fun b4 => ?_)) | (refine o1_lit_enc Bs [⟨a0, c0, x.head⟩, ⟨some ⟨b3, 0, none⟩, 1, [1#8]⟩, ⟨some ⟨b2, 0, none⟩, 4, be4 x.s0.v⟩, ⟨some ⟨b4, 0, none⟩, 2, be2 x.s0.n⟩, x.s0.h] rfl rfl rfl (fun _ => rfl) rfl rfl rfl (fun b5 => ?_)) | refine o1_lit_B rfl rfl rfl rfl rfl (fun _ => ?_)))
          all_goals refine wt_alt ?_
          all_goals refine op_nil ?_
          all_goals (refine xq1 4 rfl rfl rfl rfl rfl (by refine o1_move rfl fz) ?_)
          all_goals (refine xq1 6 rfl rfl rfl rfl rfl (by refine o1_fieldAddr rfl fz) ?_)
          all_goals (refine xq1 39 rfl rfl rfl rfl rfl (by first | refine ox_load rfl (by rfl) fz | refine ox_load_enc rfl (by first | omega | (simp; omega)) fz | refine ox_load_any rfl (by assumption) fz) ?_)
          all_goals (refine xq1 6 rfl rfl rfl rfl rfl (by refine o1_fieldAddr rfl fz) ?_)
          all_goals (refine xq1 50 rfl rfl rfl rfl rfl (by first | refine ox_load rfl (by rfl) fz | refine ox_load_enc rfl (by first | omega | (simp; omega)) fz | refine ox_load_any rfl (by assumption) fz) ?_)
          all_goals refine re_nil ?_
          refine ⟨?al2_4A, ?al2_4B⟩
          case' al2_4A =>
            all_goals first | (refine ct_run (E' := []) rfl (gd_r0 rfl) rfl cov_nil ?_; (first | (refine o1_lit_enc B [1#8] rfl rfl rfl (fun _ => rfl) rfl rfl rfl (fun b3 => ?_)) | (refine o1_lit_enc B (be2 x.s0.n) rfl rfl rfl (fun _ => rfl) rfl rfl rfl (fun b4 => ?_)) | (refine o1_lit_enc Bs [⟨a0, c0, x.head⟩, ⟨some ⟨b3, 0, none⟩, 1, [1#8]⟩, ⟨some ⟨b2, 0, none⟩, 4, be4 x.s0.v⟩, ⟨some ⟨b4, 0, none⟩, 2, be2 x.s0.n⟩, x.s0.h] rfl rfl rfl (fun _ => rfl) rfl rfl rfl (fun b5 => ?_)) | refine o1_lit_B rfl rfl rfl rfl rfl (fun _ => ?_)))
            all_goals refine wt_ch ?_
            all_goals refine op_nil ?_
            all_goals (refine xq1 4 rfl rfl rfl rfl rfl (by refine o1_move rfl fz) ?_)
            all_goals (refine xq1 6 rfl rfl rfl rfl rfl (by refine o1_fieldAddr rfl fz) ?_)
            all_goals (refine xq1 39 rfl rfl rfl rfl rfl (by first | refine ox_load rfl (by rfl) fz | refine ox_load_enc rfl (by first | omega | (simp; omega)) fz | refine ox_load_any rfl (by assumption) fz) ?_)
            all_goals (refine xq1 6 rfl rfl rfl rfl rfl (by refine o1_fieldAddr rfl fz) ?_)
            all_goals (refine xq1 50 rfl rfl rfl rfl rfl (by first | refine ox_load rfl (by rfl) fz | refine ox_load_enc rfl (by first | omega | (simp; omega)) fz | refine ox_load_any rfl (by assumption) fz) ?_)
            all_goals refine re_nil ?_
            all_goals first | (refine ct_run (E' := [(40, _)]) rfl (gd_r0 rfl) rfl (cov_cons rfl rfl cov_nil) ?_; (first | (refine o1_call (fun _ => st_word _ x.s0.v) rfl (fun b2 _ => ?_))))
            all_goals refine wt_ch ?_
            all_goals refine op_nil ?_
            all_goals (refine xq1 4 rfl rfl rfl rfl rfl (by refine o1_move rfl fz) ?_)
            all_goals (refine xq1 6 rfl rfl rfl rfl rfl (by refine o1_fieldAddr rfl fz) ?_)
            all_goals (refine xq1 50 rfl rfl rfl rfl rfl (by first | refine ox_load rfl (by rfl) fz | refine ox_load_enc rfl (by first | omega | (simp; omega)) fz | refine ox_load_any rfl (by assumption) fz) ?_)
            all_goals refine re_nil ?_
            all_goals first | (refine ct_run (E' := [(37, _), (38, _), (41, _), (49, _), (51, _)]) rfl (gd_r0 rfl) rfl (cov_cons rfl rfl (cov_cons rfl rfl (cov_cons rfl rfl (cov_cons rfl rfl (cov_cons rfl rfl cov_nil))))) ?_; (first | (refine o1_lit_enc B [1#8] rfl rfl rfl (fun _ => rfl) rfl rfl rfl (fun b3 => ?_)) | (refine o1_lit_enc B (be2 x.s0.n) rfl rfl rfl (fun _ => rfl) rfl rfl rfl (fun b4 => ?_)) | (refine o1_lit_enc Bs [⟨a0, c0, x.head⟩, ⟨some ⟨b3, 0, none⟩, 1, [1#8]⟩, ⟨some ⟨b2, 0, none⟩, 4, be4 x.s0.v⟩, ⟨some ⟨b4, 0, none⟩, 2, be2 x.s0.n⟩, x.s0.h] rfl rfl rfl (fun _ => rfl) rfl rfl rfl (fun b5 => ?_)) | refine o1_lit_B rfl rfl rfl rfl rfl (fun _ => ?_)))
            all_goals refine wt_ch ?_
            all_goals refine op_nil ?_
            all_goals refine re_nil ?_
            all_goals first | (refine ct_run (E' := [(52, _)]) rfl (gd_r0 rfl) rfl (cov_cons rfl rfl cov_nil) ?_; (first | (refine o1_call (fun hh => slices_Concat _ _ _ [⟨a0, c0, x.head⟩, ⟨some ⟨b3, 0, none⟩, 1, [1#8]⟩, ⟨some ⟨b2, 0, none⟩, 4, be4 x.s0.v⟩, ⟨some ⟨b4, 0, none⟩, 2, be2 x.s0.n⟩, x.s0.h] (rx_lit rfl rfl hh) (fa_cons (rx_row (ad := a0) (c := c0) hh) (fa_cons (rx_lit rfl rfl hh) (fa_cons (rx_lit rfl rfl hh) (fa_cons (rx_lit rfl rfl hh) (fa_cons (Rs.up e0) fa_nil))))) (by rw [slot_cat hn]; omega)) rfl (fun ⟨a5, c5⟩ _ => ?_); dsimp only; rw [slot_cat hn])))
            all_goals refine wt_end ?_
            all_goals (refine xp1 53 rfl rfl rfl rfl (by refine o1_assign rfl fz) ?_)
            all_goals refine op_nil ?_
            all_goals refine re_nil ?_
          case' al2_4B =>
            all_goals first | (refine ct_run (E' := [(40, _)]) rfl (gd_r0 rfl) rfl (cov_cons rfl rfl cov_nil) ?_; (first | (refine o1_call (fun _ => st_word _ x.s0.v) rfl (fun b2 _ => ?_))))
            all_goals refine wt_ch ?_
            all_goals refine op_nil ?_
            all_goals (refine xq1 4 rfl rfl rfl rfl rfl (by refine o1_move rfl fz) ?_)
            all_goals (refine xq1 6 rfl rfl rfl rfl rfl (by refine o1_fieldAddr rfl fz) ?_)
            all_goals (refine xq1 50 rfl rfl rfl rfl rfl (by first | refine ox_load rfl (by rfl) fz | refine ox_load_enc rfl (by first | omega | (simp; omega)) fz | refine ox_load_any rfl (by assumption) fz) ?_)
            all_goals refine re_nil ?_
            all_goals first | (refine ct_run (E' := []) rfl (gd_r0 rfl) rfl cov_nil ?_; (first | (refine o1_lit_enc B [1#8] rfl rfl rfl (fun _ => rfl) rfl rfl rfl (fun b3 => ?_)) | (refine o1_lit_enc B (be2 x.s0.n) rfl rfl rfl (fun _ => rfl) rfl rfl rfl (fun b4 => ?_)) | (refine o1_lit_enc Bs [⟨a0, c0, x.head⟩, ⟨some ⟨b3, 0, none⟩, 1, [1#8]⟩, ⟨some ⟨b2, 0, none⟩, 4, be4 x.s0.v⟩, ⟨some ⟨b4, 0, none⟩, 2, be2 x.s0.n⟩, x.s0.h] rfl rfl rfl (fun _ => rfl) rfl rfl rfl (fun b5 => ?_)) | refine o1_lit_B rfl rfl rfl rfl rfl (fun _ => ?_)))
            all_goals refine wt_ch ?_
            all_goals refine op_nil ?_
            all_goals (refine xq1 4 rfl rfl rfl rfl rfl (by refine o1_move rfl fz) ?_)
            all_goals (refine xq1 6 rfl rfl rfl rfl rfl (by refine o1_fieldAddr rfl fz) ?_)
            all_goals (refine xq1 50 rfl rfl rfl rfl rfl (by first | refine ox_load rfl (by rfl) fz | refine ox_load_enc rfl (by first | omega | (simp; omega)) fz | refine ox_load_any rfl (by assumption) fz) ?_)
            all_goals refine re_nil ?_
            all_goals first | (refine ct_run (E' := [(37, _), (38, _), (41, _), (49, _), (51, _)]) rfl (gd_r0 rfl) rfl (cov_cons rfl rfl (cov_cons rfl rfl (cov_cons rfl rfl (cov_cons rfl rfl (cov_cons rfl rfl cov_nil))))) ?_; (first | (refine o1_lit_enc B [1#8] rfl rfl rfl (fun _ => rfl) rfl rfl rfl (fun b3 => ?_)) | (refine o1_lit_enc B (be2 x.s0.n) rfl rfl rfl (fun _ => rfl) rfl rfl rfl (fun b4 => ?_)) | (refine o1_lit_enc Bs [⟨a0, c0, x.head⟩, ⟨some ⟨b3, 0, none⟩, 1, [1#8]⟩, ⟨some ⟨b2, 0, none⟩, 4, be4 x.s0.v⟩, ⟨some ⟨b4, 0, none⟩, 2, be2 x.s0.n⟩, x.s0.h] rfl rfl rfl (fun _ => rfl) rfl rfl rfl (fun b5 => ?_)) | refine o1_lit_B rfl rfl rfl rfl rfl (fun _ => ?_)))
            all_goals refine wt_ch ?_
            all_goals refine op_nil ?_
            all_goals refine re_nil ?_
            all_goals first | (refine ct_run (E' := [(52, _)]) rfl (gd_r0 rfl) rfl (cov_cons rfl rfl cov_nil) ?_; (first | (refine o1_call (fun hh => slices_Concat _ _ _ [⟨a0, c0, x.head⟩, ⟨some ⟨b3, 0, none⟩, 1, [1#8]⟩, ⟨some ⟨b2, 0, none⟩, 4, be4 x.s0.v⟩, ⟨some ⟨b4, 0, none⟩, 2, be2 x.s0.n⟩, x.s0.h] (rx_lit rfl rfl hh) (fa_cons (rx_row (ad := a0) (c := c0) hh) (fa_cons (rx_lit rfl rfl hh) (fa_cons (rx_lit rfl rfl hh) (fa_cons (rx_lit rfl rfl hh) (fa_cons (Rs.up e0) fa_nil))))) (by rw [slot_cat hn]; omega)) rfl (fun ⟨a5, c5⟩ _ => ?_); dsimp only; rw [slot_cat hn])))
            all_goals refine wt_end ?_
            all_goals (refine xp1 53 rfl rfl rfl rfl (by refine o1_assign rfl fz) ?_)
            all_goals refine op_nil ?_
            all_goals refine re_nil ?_
        all_goals dsimp only [List.cons_append, List.nil_append]
        all_goals (refine nx_blk ?_; exact via (a5, c5) _ _ (cov_cons rfl rfl (cov_cons rfl rfl (cov_cons rfl rfl (cov_cons rfl rfl cov_nil)))) (by (try dsimp only [List.cons_append, List.nil_append, List.singleton_append, List.append_nil]); (repeat (first | exact Ent.nil | exact Ent.refl _ | (apply Ent.cons; (repeat (first | exact Sel.here | apply Sel.there)))))))
      · rw [slot_by_no hn] at via
        repeat' (first | refine ls_of rfl ?_ | refine ls_of_no ?_ | refine ls_guard_yes rfl rfl ?_ | refine ls_guard_no rfl rfl rfl rfl ?_ | refine ls_guard_un rfl rfl rfl ?_ | refine o1_move rfl ?_ | refine o1_assign rfl ?_ | refine st_seq ?_ | refine st_region ?_ | refine st_block ?_ | refine st_skip ?_ | refine st_ret ?_ | refine st_exit ?_ | refine st_cond_t rfl ?_ | refine st_cond_f rfl ?_ | refine st_cond rfl (fun _ => ?_) (fun _ => ?_) | refine ls_nil ?_ | refine nx_seq ?_ | refine nx_blk ?_ | refine nx_fn ?_ | refine nx_rounds ?_ | refine xt_seq ?_ | refine xt_here ?_ | refine xt_on rfl ?_ | refine xt_rounds ?_ | refine xt_cut ?_ | refine rt_seq ?_ | refine rt_blk ?_ | refine rt_rounds ?_ | refine rt_cut ?_ | refine o1_index_agg 0 rfl rfl rfl (by decide) (by simp only [Nat.zero_mul, Nat.one_mul, Nat.reduceMul, List.drop_zero, List.drop_succ_cons, List.take_succ_cons, List.take_zero]; rfl) ?_ | refine o1_call (fun _ => (st_nothing _ x.s0).bv (b := true) hn) rfl (fun _ _ => ?_) | refine o1_lit_enc B [0#8] rfl rfl rfl (fun _ => rfl) rfl rfl rfl (fun b3 => ?_) | refine ox_appendL (xs := x.head) (ys := [0#8]) rfl rfl (rx_box rfl (by decide)) rfl (fun _ => rfl) (by simp; omega) (by simp; omega) (fun a5 c5 => ?_) | refine o1_extract rfl rfl ?_ | refine o1_fieldAddr rfl ?_ | refine ox_load rfl (by rfl) ?_ | refine ox_load_enc rfl (by first | omega | (simp; omega)) ?_ | refine ox_load_any rfl (by assumption) ?_ | refine o1_box rfl rfl (fun _ => ?_) | refine o1_add rfl rfl (by omega) ?_ | refine o1_lss_t rfl rfl (by omega) ?_ | refine o1_lss_f rfl rfl (by omega) ?_ | refine o1_lss rfl rfl (fun _ => ?_) (fun _ => ?_) | refine o1_bnot rfl ?_ | refine o1_ushr rfl rfl (by omega) ?_ | refine o1_unot rfl ?_ | refine o1_conv_iu rfl ?_ | refine o1_lit_B rfl rfl rfl rfl rfl (fun _ => ?_) | refine o1_index_arr rfl rfl (by omega) (by rfl) ?_ | refine ox_append rfl rfl (rx_box rfl (by first | decide | omega)) rfl rfl (fun _ => rfl) (by omega) (by omega) (fun _ _ => ?_) | refine ox_append rfl rfl (rx_any (by assumption)) rfl rfl (fun _ => rfl) (by omega) (by omega) (fun _ _ => ?_) | refine ox_append rfl rfl rx_row rfl rfl (fun _ => rfl) (by omega) (by omega) (fun _ _ => ?_) | refine o1_alloc rfl (fun _ => ?_) | refine ox_store_agg rfl rfl (by rfl) (by simp) (by simp [Value.oneCell']) (by simp only [putL, List.set_cons_zero, List.set_cons_succ, Nat.zero_add, Nat.reduceAdd]; rfl) ?_ | refine ox_load_agg rfl (by simp only [Nat.zero_add, Nat.reduceAdd, List.drop_zero, List.drop_succ_cons, List.take_succ_cons, List.take_zero]; rfl) (by rfl) ?_)
        exact via (a5, c5) _ _ (cov_cons rfl rfl (cov_cons rfl rfl (cov_cons rfl rfl (cov_cons rfl rfl cov_nil)))) (by (try dsimp only [List.cons_append, List.nil_append, List.singleton_append, List.append_nil]); (repeat (first | exact Ent.nil | exact Ent.refl _ | (apply Ent.cons; (repeat (first | exact Sel.here | apply Sel.there))))))
    case restA =>
      rintro ⟨a0, c0⟩
      dsimp only
      repeat' (first | refine ls_of rfl ?_ | refine ls_of_no ?_ | refine ls_guard_yes rfl rfl ?_ | refine ls_guard_no rfl rfl rfl rfl ?_ | refine ls_guard_un rfl rfl rfl ?_ | refine o1_move rfl ?_ | refine o1_assign rfl ?_ | refine st_seq ?_ | refine st_region ?_ | refine st_skip ?_ | refine st_ret ?_ | refine st_exit ?_ | refine st_cond_t rfl ?_ | refine st_cond_f rfl ?_ | refine st_cond rfl (fun _ => ?_) (fun _ => ?_) | refine ls_nil ?_ | refine nx_seq ?_ | refine nx_blk ?_ | refine nx_fn ?_ | refine nx_rounds ?_ | refine xt_seq ?_ | refine xt_here ?_ | refine xt_on rfl ?_ | refine xt_rounds ?_ | refine xt_cut ?_ | refine rt_seq ?_ | refine rt_blk ?_ | refine rt_rounds ?_ | refine rt_cut ?_ | refine o1_extract rfl rfl ?_ | refine o1_fieldAddr rfl ?_ | refine ox_load rfl (by rfl) ?_ | refine ox_load_enc rfl (by first | omega | (simp; omega)) ?_ | refine ox_load_any rfl (by assumption) ?_ | refine o1_box rfl rfl (fun _ => ?_) | refine o1_add rfl rfl (by omega) ?_ | refine o1_lss_t rfl rfl (by omega) ?_ | refine o1_lss_f rfl rfl (by omega) ?_ | refine o1_lss rfl rfl (fun _ => ?_) (fun _ => ?_) | refine o1_bnot rfl ?_ | refine o1_ushr rfl rfl (by omega) ?_ | refine o1_unot rfl ?_ | refine o1_conv_iu rfl ?_ | refine o1_lit_B rfl rfl rfl rfl rfl (fun _ => ?_) | refine o1_index_arr rfl rfl (by omega) (by rfl) ?_ | refine ox_append rfl rfl (rx_box rfl (by first | decide | omega)) rfl rfl (fun _ => rfl) (by omega) (by omega) (fun _ _ => ?_) | refine ox_append rfl rfl (rx_any (by assumption)) rfl rfl (fun _ => rfl) (by omega) (by omega) (fun _ _ => ?_) | refine ox_append rfl rfl rx_row rfl rfl (fun _ => rfl) (by omega) (by omega) (fun _ _ => ?_) | refine o1_alloc rfl (fun _ => ?_) | refine ox_store_agg rfl rfl (by rfl) (by simp) (by simp [Value.oneCell']) (by simp only [putL, List.set_cons_zero, List.set_cons_succ, Nat.zero_add, Nat.reduceAdd]; rfl) ?_ | refine ox_load_agg rfl (by simp only [Nat.zero_add, Nat.reduceAdd, List.drop_zero, List.drop_succ_cons, List.take_succ_cons, List.take_zero]; rfl) (by rfl) ?_)
      refine st_viaK (X := PA) (fun r => [(1, .pointer (some ⟨b1, 0, none⟩)), (4, .slice r.1 ((x.head ++ x.s0.by) ++ x.s1.by).length r.2), (28, arrV x), (29, I (0 + 1))]) (fun r => [.box b1 30 x.c, rowB r ((x.head ++ x.s0.by) ++ x.s1.by), .any (stars H)]) ?restB ?walkB
      case walkB =>
        intro k' via
        cases hn : x.s1.nothing
        · repeat' (first | refine ls_of rfl ?_ | refine ls_of_no ?_ | refine ls_guard_yes rfl rfl ?_ | refine ls_guard_no rfl rfl rfl rfl ?_ | refine ls_guard_un rfl rfl rfl ?_ | refine o1_move rfl ?_ | refine o1_assign rfl ?_ | refine st_seq ?_ | refine st_region ?_ | refine st_block ?_ | refine st_skip ?_ | refine st_ret ?_ | refine st_exit ?_ | refine st_cond_t rfl ?_ | refine st_cond_f rfl ?_ | refine st_cond rfl (fun _ => ?_) (fun _ => ?_) | refine ls_nil ?_ | refine nx_seq ?_ | refine nx_blk ?_ | refine nx_fn ?_ | refine nx_rounds ?_ | refine xt_seq ?_ | refine xt_here ?_ | refine xt_on rfl ?_ | refine xt_rounds ?_ | refine xt_cut ?_ | refine rt_seq ?_ | refine rt_blk ?_ | refine rt_rounds ?_ | refine rt_cut ?_ | refine o1_index_agg 1 rfl rfl rfl (by decide) (by simp only [Nat.zero_mul, Nat.one_mul, Nat.reduceMul, List.drop_zero, List.drop_succ_cons, List.take_succ_cons, List.take_zero]; rfl) ?_ | refine o1_call (fun _ => (st_nothing _ x.s1).bv (b := false) hn) rfl (fun _ _ => ?_) | refine o1_extract rfl rfl ?_ | refine o1_fieldAddr rfl ?_ | refine ox_load rfl (by rfl) ?_ | refine ox_load_enc rfl (by first | omega | (simp; omega)) ?_ | refine ox_load_any rfl (by assumption) ?_ | refine o1_box rfl rfl (fun _ => ?_) | refine o1_add rfl rfl (by omega) ?_ | refine o1_lss_t rfl rfl (by omega) ?_ | refine o1_lss_f rfl rfl (by omega) ?_ | refine o1_lss rfl rfl (fun _ => ?_) (fun _ => ?_) | refine o1_bnot rfl ?_ | refine o1_ushr rfl rfl (by omega) ?_ | refine o1_unot rfl ?_ | refine o1_conv_iu rfl ?_ | refine o1_lit_B rfl rfl rfl rfl rfl (fun _ => ?_) | refine o1_index_arr rfl rfl (by omega) (by rfl) ?_ | refine ox_append rfl rfl (rx_box rfl (by first | decide | omega)) rfl rfl (fun _ => rfl) (by omega) (by omega) (fun _ _ => ?_) | refine ox_append rfl rfl (rx_any (by assumption)) rfl rfl (fun _ => rfl) (by omega) (by omega) (fun _ _ => ?_) | refine ox_append rfl rfl rx_row rfl rfl (fun _ => rfl) (by omega) (by omega) (fun _ _ => ?_) | refine o1_alloc rfl (fun _ => ?_) | refine ox_store_agg rfl rfl (by rfl) (by simp) (by simp [Value.oneCell']) (by simp only [putL, List.set_cons_zero, List.set_cons_succ, Nat.zero_add, Nat.reduceAdd]; rfl) ?_ | refine ox_load_agg rfl (by simp only [Nat.zero_add, Nat.reduceAdd, List.drop_zero, List.drop_succ_cons, List.take_succ_cons, List.take_zero]; rfl) (by rfl) ?_)
          refine st_tree [(4, _), (6, _)] rtG4_2 [1, 4, 12, 15, 16] (.alt3 [0, 2, 3, 5, 6, 7, 8, 9, 10, 11, 13, 14] [] 1 (.alt [] [0, 2, 3, 5, 6, 7, 8, 9, 10, 11, 13, 14] 4 (.step [] [0, 5, 6, 7, 8, 9, 10, 11, 13, 14] 12 (.step [] [0, 13, 14] 15 (.step [] [] 16 (.fin [17] [])))) 12 (.step [] [0, 2, 3, 13, 14] 4 (.step [] [0, 13, 14] 15 (.step [] [] 16 (.fin [17] []))))) 4 (.alt [] [0, 5, 6, 7, 8, 9, 10, 11, 13, 14] 1 (.step [] [0, 5, 6, 7, 8, 9, 10, 11, 13, 14] 12 (.step [] [0, 13, 14] 15 (.step [] [] 16 (.fin [17] [])))) 12 (.step [] [0, 13, 14] 1 (.step [] [0, 13, 14] 15 (.step [] [] 16 (.fin [17] []))))) 12 (.alt [] [0, 2, 3, 13, 14] 1 (.step [] [0, 2, 3, 13, 14] 4 (.step [] [0, 13, 14] 15 (.step [] [] 16 (.fin [17] [])))) 4 (.step [] [0, 13, 14] 1 (.step [] [0, 13, 14] 15 (.step [] [] 16 (.fin [17] [])))))) mixed (cov_cons rfl rfl (cov_cons rfl rfl cov_nil)) (by kernel_rfl) (by kernel_rfl) ?_
          all_goals refine wt_alt3 ?_
          all_goals (refine xp1 4 rfl rfl rfl rfl (by refine o1_move rfl fz) ?_)
          all_goals (refine xp1 6 rfl rfl rfl rfl (by refine o1_fieldAddr rfl fz) ?_)
          all_goals (refine xp1 39 rfl rfl rfl rfl (by first | refine ox_load rfl (by rfl) fz | refine ox_load_enc rfl (by first | omega | (simp; omega)) fz | refine ox_load_any rfl (by assumption) fz) ?_)
          all_goals (refine xp1 6 rfl rfl rfl rfl (by refine o1_fieldAddr rfl fz) ?_)
          all_goals (refine xp1 42 rfl rfl rfl rfl (by first | refine ox_load rfl (by rfl) fz | refine ox_load_enc rfl (by first | omega | (simp; omega)) fz | refine ox_load_any rfl (by assumption) fz) ?_)
          all_goals (refine xp1 43 rfl rfl rfl rfl (by first | refine o1_ishr8 rfl rfl fz | refine o1_ushr rfl rfl (by omega) fz) ?_)
          all_goals (refine xp1 44 rfl rfl rfl rfl (by refine o1_conv_iu rfl fz) ?_)
          all_goals (refine xp1 6 rfl rfl rfl rfl (by refine o1_fieldAddr rfl fz) ?_)
          all_goals (refine xp1 46 rfl rfl rfl rfl (by first | refine ox_load rfl (by rfl) fz | refine ox_load_enc rfl (by first | omega | (simp; omega)) fz | refine ox_load_any rfl (by assumption) fz) ?_)
          all_goals (refine xp1 47 rfl rfl rfl rfl (by refine o1_conv_iu rfl fz) ?_)
          all_goals (refine xp1 6 rfl rfl rfl rfl (by refine o1_fieldAddr rfl fz) ?_)
          all_goals (refine xp1 50 rfl rfl rfl rfl (by first | refine ox_load rfl (by rfl) fz | refine ox_load_enc rfl (by first | omega | (simp; omega)) fz | refine ox_load_any rfl (by assumption) fz) ?_)
          all_goals refine op_nil ?_
          all_goals refine re_nil ?_
          refine ⟨?al3_1A, ?al3_1B, ?al3_1C⟩
          case' al3_1A =>
            all_goals first | (refine ct_run (E' := []) rfl (gd_r0 rfl) rfl cov_nil ?_; (first | (refine o1_lit_enc B [1#8] rfl rfl rfl (fun _ => rfl) rfl rfl rfl (fun b3 => ?_)) | (refine o1_lit_enc B (be2 x.s1.n) rfl rfl rfl (fun _ => rfl) rfl rfl rfl (fun b4 => ?_)) | (refine o1_lit_enc Bs [⟨a0, c0, x.head ++ x.s0.by⟩, ⟨some ⟨b3, 0, none⟩, 1, [1#8]⟩, ⟨some ⟨b2, 0, none⟩, 4, be4 x.s1.v⟩, ⟨some ⟨b4, 0, none⟩, 2, be2 x.s1.n⟩, x.s1.h] rfl rfl rfl (fun _ => rfl) rfl rfl rfl (fun b5 => ?_)) | refine o1_lit_B rfl rfl rfl rfl rfl (fun _ => ?_)))
            all_goals refine wt_alt ?_
            all_goals refine op_nil ?_
            all_goals (refine xq1 4 rfl rfl rfl rfl rfl (by refine o1_move rfl fz) ?_)
            all_goals (refine xq1 6 rfl rfl rfl rfl rfl (by refine o1_fieldAddr rfl fz) ?_)
            all_goals (refine xq1 39 rfl rfl rfl rfl rfl (by first | refine ox_load rfl (by rfl) fz | refine ox_load_enc rfl (by first | omega | (simp; omega)) fz | refine ox_load_any rfl (by assumption) fz) ?_)
            all_goals (refine xq1 6 rfl rfl rfl rfl rfl (by refine o1_fieldAddr rfl fz) ?_)
            all_goals (refine xq1 42 rfl rfl rfl rfl rfl (by first | refine ox_load rfl (by rfl) fz | refine ox_load_enc rfl (by first | omega | (simp; omega)) fz | refine ox_load_any rfl (by assumption) fz) ?_)
            all_goals (refine xq1 43 rfl rfl rfl rfl rfl (by first | refine o1_ishr8 rfl rfl fz | refine o1_ushr rfl rfl (by omega) fz) ?_)
            all_goals (refine xq1 44 rfl rfl rfl rfl rfl (by refine o1_conv_iu rfl fz) ?_)
            all_goals (refine xq1 6 rfl rfl rfl rfl rfl (by refine o1_fieldAddr rfl fz) ?_)
            all_goals (refine xq1 46 rfl rfl rfl rfl rfl (by first | refine ox_load rfl (by rfl) fz | refine ox_load_enc rfl (by first | omega | (simp; omega)) fz | refine ox_load_any rfl (by assumption) fz) ?_)
            all_goals (refine xq1 47 rfl rfl rfl rfl rfl (by refine o1_conv_iu rfl fz) ?_)
            all_goals (refine xq1 6 rfl rfl rfl rfl rfl (by refine o1_fieldAddr rfl fz) ?_)
            all_goals (refine xq1 50 rfl rfl rfl rfl rfl (by first | refine ox_load rfl (by rfl) fz | refine ox_load_enc rfl (by first | omega | (simp; omega)) fz | refine ox_load_any rfl (by assumption) fz) ?_)
            all_goals refine re_nil ?_
            refine ⟨?al3_2A, ?al3_2B⟩
            case' al3_2A =>
              all_goals first | (refine ct_run (E' := [(40, _)]) rfl (gd_r0 rfl) rfl (cov_cons rfl rfl cov_nil) ?_; (first | (refine o1_call (fun _ => st_word _ x.s1.v) rfl (fun b2 _ => ?_))))
              all_goals refine wt_ch ?_
              all_goals refine op_nil ?_
              all_goals (refine xq1 4 rfl rfl rfl rfl rfl (by refine o1_move rfl fz) ?_)
              all_goals (refine xq1 6 rfl rfl rfl rfl rfl (by refine o1_fieldAddr rfl fz) ?_)
              all_goals (refine xq1 42 rfl rfl rfl rfl rfl (by first | refine ox_load rfl (by rfl) fz | refine ox_load_enc rfl (by first | omega | (simp; omega)) fz | refine ox_load_any rfl (by assumption) fz) ?_)
              all_goals (refine xq1 43 rfl rfl rfl rfl rfl (by first | refine o1_ishr8 rfl rfl fz | refine o1_ushr rfl rfl (by omega) fz) ?_)
              all_goals (refine xq1 44 rfl rfl rfl rfl rfl (by refine o1_conv_iu rfl fz) ?_)
              all_goals (refine xq1 6 rfl rfl rfl rfl rfl (by refine o1_fieldAddr rfl fz) ?_)
              all_goals (refine xq1 46 rfl rfl rfl rfl rfl (by first | refine ox_load rfl (by rfl) fz | refine ox_load_enc rfl (by first | omega | (simp; omega)) fz | refine ox_load_any rfl (by assumption) fz) ?_)
              all_goals (refine xq1 47 rfl rfl rfl rfl rfl (by refine o1_conv_iu rfl fz) ?_)
              all_goals (refine xq1 6 rfl rfl rfl rfl rfl (by refine o1_fieldAddr rfl fz) ?_)
              all_goals (refine xq1 50 rfl rfl rfl rfl rfl (by first | refine ox_load rfl (by rfl) fz | refine ox_load_enc rfl (by first | omega | (simp; omega)) fz | refine ox_load_any rfl (by assumption) fz) ?_)
              all_goals refine re_nil ?_
              all_goals first | (refine ct_run (E' := [(45, _), (48, _)]) rfl (gd_r0 rfl) rfl (cov_cons rfl rfl (cov_cons rfl rfl cov_nil)) ?_; (first | (refine o1_lit_enc B [1#8] rfl rfl rfl (fun _ => rfl) rfl rfl rfl (fun b3 => ?_)) | (refine o1_lit_enc B (be2 x.s1.n) rfl rfl rfl (fun _ => rfl) rfl rfl rfl (fun b4 => ?_)) | (refine o1_lit_enc Bs [⟨a0, c0, x.head ++ x.s0.by⟩, ⟨some ⟨b3, 0, none⟩, 1, [1#8]⟩, ⟨some ⟨b2, 0, none⟩, 4, be4 x.s1.v⟩, ⟨some ⟨b4, 0, none⟩, 2, be2 x.s1.n⟩, x.s1.h] rfl rfl rfl (fun _ => rfl) rfl rfl rfl (fun b5 => ?_)) | refine o1_lit_B rfl rfl rfl rfl rfl (fun _ => ?_)))
              all_goals refine wt_ch ?_
              all_goals refine op_nil ?_
              all_goals (refine xq1 4 rfl rfl rfl rfl rfl (by refine o1_move rfl fz) ?_)
              all_goals (refine xq1 6 rfl rfl rfl rfl rfl (by refine o1_fieldAddr rfl fz) ?_)
              all_goals (refine xq1 50 rfl rfl rfl rfl rfl (by first | refine ox_load rfl (by rfl) fz | refine ox_load_enc rfl (by first | omega | (simp; omega)) fz | refine ox_load_any rfl (by assumption) fz) ?_)
              all_goals refine re_nil ?_
              all_goals first | (refine ct_run (E' := [(37, _), (38, _), (41, _), (49, _), (51, _)]) rfl (gd_r0 rfl) rfl (cov_cons rfl rfl (cov_cons rfl rfl (cov_cons rfl rfl (cov_cons rfl rfl (cov_cons rfl rfl cov_nil))))) ?_; (first | (refine o1_lit_enc B [1#8] rfl rfl rfl (fun _ => rfl) rfl rfl rfl (fun b3 => ?_)) | (refine o1_lit_enc B (be2 x.s1.n) rfl rfl rfl (fun _ => rfl) rfl rfl rfl (fun b4 => ?_)) | (refine o1_lit_enc Bs [⟨a0, c0, x.head ++ x.s0.by⟩, ⟨some ⟨b3, 0, none⟩, 1, [1#8]⟩, ⟨some ⟨b2, 0, none⟩, 4, be4 x.s1.v⟩, ⟨some ⟨b4, 0, none⟩, 2, be2 x.s1.n⟩, x.s1.h] rfl rfl rfl (fun _ => rfl) rfl rfl rfl (fun b5 => ?_)) | refine o1_lit_B rfl rfl rfl rfl rfl (fun _ => ?_)))
              all_goals refine wt_ch ?_
              all_goals refine op_nil ?_
              all_goals refine re_nil ?_
              all_goals first | (refine ct_run (E' := [(52, _)]) rfl (gd_r0 rfl) rfl (cov_cons rfl rfl cov_nil) ?_; (first | (refine o1_call (fun hh => slices_Concat _ _ _ [⟨a0, c0, x.head ++ x.s0.by⟩, ⟨some ⟨b3, 0, none⟩, 1, [1#8]⟩, ⟨some ⟨b2, 0, none⟩, 4, be4 x.s1.v⟩, ⟨some ⟨b4, 0, none⟩, 2, be2 x.s1.n⟩, x.s1.h] (rx_lit rfl rfl hh) (fa_cons (rx_row (ad := a0) (c := c0) hh) (fa_cons (rx_lit rfl rfl hh) (fa_cons (rx_lit rfl rfl hh) (fa_cons (rx_lit rfl rfl hh) (fa_cons (Rs.up e1) fa_nil))))) (by rw [slot_cat hn]; omega)) rfl (fun ⟨a5, c5⟩ _ => ?_); dsimp only; rw [slot_cat hn])))
              all_goals refine wt_end ?_
              all_goals (refine xp1 53 rfl rfl rfl rfl (by refine o1_assign rfl fz) ?_)
              all_goals refine op_nil ?_
              all_goals refine re_nil ?_
            case' al3_2B =>
              all_goals first | (refine ct_run (E' := [(45, _), (48, _)]) rfl (gd_r0 rfl) rfl (cov_cons rfl rfl (cov_cons rfl rfl cov_nil)) ?_; (first | (refine o1_lit_enc B [1#8] rfl rfl rfl (fun _ => rfl) rfl rfl rfl (fun b3 => ?_)) | (refine o1_lit_enc B (be2 x.s1.n) rfl rfl rfl (fun _ => rfl) rfl rfl rfl (fun b4 => ?_)) | (refine o1_lit_enc Bs [⟨a0, c0, x.head ++ x.s0.by⟩, ⟨some ⟨b3, 0, none⟩, 1, [1#8]⟩, ⟨some ⟨b2, 0, none⟩, 4, be4 x.s1.v⟩, ⟨some ⟨b4, 0, none⟩, 2, be2 x.s1.n⟩, x.s1.h] rfl rfl rfl (fun _ => rfl) rfl rfl rfl (fun b5 => ?_)) | refine o1_lit_B rfl rfl rfl rfl rfl (fun _ => ?_)))
              all_goals refine wt_ch ?_
              all_goals refine op_nil ?_
              all_goals (refine xq1 4 rfl rfl rfl rfl rfl (by refine o1_move rfl fz) ?_)
              all_goals (refine xq1 6 rfl rfl rfl rfl rfl (by refine o1_fieldAddr rfl fz) ?_)
              all_goals (refine xq1 39 rfl rfl rfl rfl rfl (by first | refine ox_load rfl (by rfl) fz | refine ox_load_enc rfl (by first | omega | (simp; omega)) fz | refine ox_load_any rfl (by assumption) fz) ?_)
              all_goals (refine xq1 6 rfl rfl rfl rfl rfl (by refine o1_fieldAddr rfl fz) ?_)
              all_goals (refine xq1 50 rfl rfl rfl rfl rfl (by first | refine ox_load rfl (by rfl) fz | refine ox_load_enc rfl (by first | omega | (simp; omega)) fz | refine ox_load_any rfl (by assumption) fz) ?_)
              all_goals refine re_nil ?_
              all_goals first | (refine ct_run (E' := [(40, _)]) rfl (gd_r0 rfl) rfl (cov_cons rfl rfl cov_nil) ?_; (first | (refine o1_call (fun _ => st_word _ x.s1.v) rfl (fun b2 _ => ?_))))
              all_goals refine wt_ch ?_
              all_goals refine op_nil ?_
              all_goals (refine xq1 4 rfl rfl rfl rfl rfl (by refine o1_move rfl fz) ?_)
              all_goals (refine xq1 6 rfl rfl rfl rfl rfl (by refine o1_fieldAddr rfl fz) ?_)
              all_goals (refine xq1 50 rfl rfl rfl rfl rfl (by first | refine ox_load rfl (by rfl) fz | refine ox_load_enc rfl (by first | omega | (simp; omega)) fz | refine ox_load_any rfl (by assumption) fz) ?_)
              all_goals refine re_nil ?_
              all_goals first | (refine ct_run (E' := [(37, _), (38, _), (41, _), (49, _), (51, _)]) rfl (gd_r0 rfl) rfl (cov_cons rfl rfl (cov_cons rfl rfl (cov_cons rfl rfl (cov_cons rfl rfl (cov_cons rfl rfl cov_nil))))) ?_; (first | (refine o1_lit_enc B [1#8] rfl rfl rfl (fun _ => rfl) rfl rfl rfl (fun b3 => ?_)) | (refine o1_lit_enc B (be2 x.s1.n) rfl rfl rfl (fun _ => rfl) rfl rfl rfl (fun b4 => ?_)) | (refine o1_lit_enc Bs [⟨a0, c0, x.head ++ x.s0.by⟩, ⟨some ⟨b3, 0, none⟩, 1, [1#8]⟩, ⟨some ⟨b2, 0, none⟩, 4, be4 x.s1.v⟩, ⟨some ⟨b4, 0, none⟩, 2, be2 x.s1.n⟩, x.s1.h] rfl rfl rfl (fun _ => rfl) rfl rfl rfl (fun b5 => ?_)) | refine o1_lit_B rfl rfl rfl rfl rfl (fun _ => ?_)))
              all_goals refine wt_ch ?_
              all_goals refine op_nil ?_
              all_goals refine re_nil ?_
              all_goals first | (refine ct_run (E' := [(52, _)]) rfl (gd_r0 rfl) rfl (cov_cons rfl rfl cov_nil) ?_; (first | (refine o1_call (fun hh => slices_Concat _ _ _ [⟨a0, c0, x.head ++ x.s0.by⟩, ⟨some ⟨b3, 0, none⟩, 1, [1#8]⟩, ⟨some ⟨b2, 0, none⟩, 4, be4 x.s1.v⟩, ⟨some ⟨b4, 0, none⟩, 2, be2 x.s1.n⟩, x.s1.h] (rx_lit rfl rfl hh) (fa_cons (rx_row (ad := a0) (c := c0) hh) (fa_cons (rx_lit rfl rfl hh) (fa_cons (rx_lit rfl rfl hh) (fa_cons (rx_lit rfl rfl hh) (fa_cons (Rs.up e1) fa_nil))))) (by rw [slot_cat hn]; omega)) rfl (fun ⟨a5, c5⟩ _ => ?_); dsimp only; rw [slot_cat hn])))
              all_goals refine wt_end ?_
              all_goals (refine xp1 53 rfl rfl rfl rfl (by refine o1_assign rfl fz) ?_)
              all_goals refine op_nil ?_
              all_goals refine re_nil ?_
          case' al3_1B =>
            all_goals first | (refine ct_run (E' := [(40, _)]) rfl (gd_r0 rfl) rfl (cov_cons rfl rfl cov_nil) ?_; (first | (refine o1_call (fun _ => st_word _ x.s1.v) rfl (fun b2 _ => ?_))))
            all_goals refine wt_alt ?_
            all_goals refine op_nil ?_
            all_goals (refine xq1 4 rfl rfl rfl rfl rfl (by refine o1_move rfl fz) ?_)
            all_goals (refine xq1 6 rfl rfl rfl rfl rfl (by refine o1_fieldAddr rfl fz) ?_)
            all_goals (refine xq1 42 rfl rfl rfl rfl rfl (by first | refine ox_load rfl (by rfl) fz | refine ox_load_enc rfl (by first | omega | (simp; omega)) fz | refine ox_load_any rfl (by assumption) fz) ?_)
            all_goals (refine xq1 43 rfl rfl rfl rfl rfl (by first | refine o1_ishr8 rfl rfl fz | refine o1_ushr rfl rfl (by omega) fz) ?_)
            all_goals (refine xq1 44 rfl rfl rfl rfl rfl (by refine o1_conv_iu rfl fz) ?_)
            all_goals (refine xq1 6 rfl rfl rfl rfl rfl (by refine o1_fieldAddr rfl fz) ?_)
            all_goals (refine xq1 46 rfl rfl rfl rfl rfl (by first | refine ox_load rfl (by rfl) fz | refine ox_load_enc rfl (by first | omega | (simp; omega)) fz | refine ox_load_any rfl (by assumption) fz) ?_)
            all_goals (refine xq1 47 rfl rfl rfl rfl rfl (by refine o1_conv_iu rfl fz) ?_)
            all_goals (refine xq1 6 rfl rfl rfl rfl rfl (by refine o1_fieldAddr rfl fz) ?_)
            all_goals (refine xq1 50 rfl rfl rfl rfl rfl (by first | refine ox_load rfl (by rfl) fz | refine ox_load_enc rfl (by first | omega | (simp; omega)) fz | refine ox_load_any rfl (by assumption) fz) ?_)
            all_goals refine re_nil ?_
            refine ⟨?al3_3A, ?al3_3B⟩
            case' al3_3A =>
              all_goals first | (refine ct_run (E' := []) rfl (gd_r0 rfl) rfl cov_nil ?_; (first | (refine o1_lit_enc B [1#8] rfl rfl rfl (fun _ => rfl) rfl rfl rfl (fun b3 => ?_)) | (refine o1_lit_enc B (be2 x.s1.n) rfl rfl rfl (fun _ => rfl) rfl rfl rfl (fun b4 => ?_)) | (refine o1_lit_enc Bs [⟨a0, c0, x.head ++ x.s0.by⟩, ⟨some ⟨b3, 0, none⟩, 1, [1#8]⟩, ⟨some ⟨b2, 0, none⟩, 4, be4 x.s1.v⟩, ⟨some ⟨b4, 0, none⟩, 2, be2 x.s1.n⟩, x.s1.h] rfl rfl rfl (fun _ => rfl) rfl rfl rfl (fun b5 => ?_)) | refine o1_lit_B rfl rfl rfl rfl rfl (fun _ => ?_)))
              all_goals refine wt_ch ?_
              all_goals refine op_nil ?_
              all_goals (refine xq1 4 rfl rfl rfl rfl rfl (by refine o1_move rfl fz) ?_)
              all_goals (refine xq1 6 rfl rfl rfl rfl rfl (by refine o1_fieldAddr rfl fz) ?_)
              all_goals (refine xq1 42 rfl rfl rfl rfl rfl (by first | refine ox_load rfl (by rfl) fz | refine ox_load_enc rfl (by first | omega | (simp; omega)) fz | refine ox_load_any rfl (by assumption) fz) ?_)
              all_goals (refine xq1 43 rfl rfl rfl rfl rfl (by first | refine o1_ishr8 rfl rfl fz | refine o1_ushr rfl rfl (by omega) fz) ?_)
              all_goals (refine xq1 44 rfl rfl rfl rfl rfl (by refine o1_conv_iu rfl fz) ?_)
              all_goals (refine xq1 6 rfl rfl rfl rfl rfl (by refine o1_fieldAddr rfl fz) ?_)
              all_goals (refine xq1 46 rfl rfl rfl rfl rfl (by first | refine ox_load rfl (by rfl) fz | refine ox_load_enc rfl (by first | omega | (simp; omega)) fz | refine ox_load_any rfl (by assumption) fz) ?_)
              all_goals (refine xq1 47 rfl rfl rfl rfl rfl (by refine o1_conv_iu rfl fz) ?_)
              all_goals (refine xq1 6 rfl rfl rfl rfl rfl (by refine o1_fieldAddr rfl fz) ?_)
              all_goals (refine xq1 50 rfl rfl rfl rfl rfl (by first | refine ox_load rfl (by rfl) fz | refine ox_load_enc rfl (by first | omega | (simp; omega)) fz | refine ox_load_any rfl (by assumption) fz) ?_)
              all_goals refine re_nil ?_
              all_goals first | (refine ct_run (E' := [(45, _), (48, _)]) rfl (gd_r0 rfl) rfl (cov_cons rfl rfl (cov_cons rfl rfl cov_nil)) ?_; (first | (refine o1_lit_enc B [1#8] rfl rfl rfl (fun _ => rfl) rfl rfl rfl (fun b3 => ?_)) | (refine o1_lit_enc B (be2 x.s1.n) rfl rfl rfl (fun _ => rfl) rfl rfl rfl (fun b4 => ?_)) | (refine o1_lit_enc Bs [⟨a0, c0, x.head ++ x.s0.by⟩, ⟨some ⟨b3, 0, none⟩, 1, [1#8]⟩, ⟨some ⟨b2, 0, none⟩, 4, be4 x.s1.v⟩, ⟨some ⟨b4, 0, none⟩, 2, be2 x.s1.n⟩, x.s1.h] rfl rfl rfl (fun _ => rfl) rfl rfl rfl (fun b5 => ?_)) | refine o1_lit_B rfl rfl rfl rfl rfl (fun _ => ?_)))
              all_goals refine wt_ch ?_
              all_goals refine op_nil ?_
              all_goals (refine xq1 4 rfl rfl rfl rfl rfl (by refine o1_move rfl fz) ?_)
              all_goals (refine xq1 6 rfl rfl rfl rfl rfl (by refine o1_fieldAddr rfl fz) ?_)
              all_goals (refine xq1 50 rfl rfl rfl rfl rfl (by first | refine ox_load rfl (by rfl) fz | refine ox_load_enc rfl (by first | omega | (simp; omega)) fz | refine ox_load_any rfl (by assumption) fz) ?_)
              all_goals refine re_nil ?_
              all_goals first | (refine ct_run (E' := [(37, _), (38, _), (41, _), (49, _), (51, _)]) rfl (gd_r0 rfl) rfl (cov_cons rfl rfl (cov_cons rfl rfl (cov_cons rfl rfl (cov_cons rfl rfl (cov_cons rfl rfl cov_nil))))) ?_; (first | (refine o1_lit_enc B [1#8] rfl rfl rfl (fun _ => rfl) rfl rfl rfl (fun b3 => ?_)) | (refine o1_lit_enc B (be2 x.s1.n) rfl rfl rfl (fun _ => rfl) rfl rfl rfl (fun b4 => ?_)) | (refine o1_lit_enc Bs [⟨a0, c0, x.head ++ x.s0.by⟩, ⟨some ⟨b3, 0, none⟩, 1, [1#8]⟩, ⟨some ⟨b2, 0, none⟩, 4, be4 x.s1.v⟩, ⟨some ⟨b4, 0, none⟩, 2, be2 x.s1.n⟩, x.s1.h] rfl rfl rfl (fun _ => rfl) rfl rfl rfl (fun b5 => ?_)) | refine o1_lit_B rfl rfl rfl rfl rfl (fun _ => ?_)))
              all_goals refine wt_ch ?_
              all_goals refine op_nil ?_
              all_goals refine re_nil ?_
              all_goals first | (refine ct_run (E' := [(52, _)]) rfl (gd_r0 rfl) rfl (cov_cons rfl rfl cov_nil) ?_; (first | (refine o1_call (fun hh => slices_Concat _ _ _ [⟨a0, c0, x.head ++ x.s0.by⟩, ⟨some ⟨b3, 0, none⟩, 1, [1#8]⟩, ⟨some ⟨b2, 0, none⟩, 4, be4 x.s1.v⟩, ⟨some ⟨b4, 0, none⟩, 2, be2 x.s1.n⟩, x.s1.h] (rx_lit rfl rfl hh) (fa_cons (rx_row (ad := a0) (c := c0) hh) (fa_cons (rx_lit rfl rfl hh) (fa_cons (rx_lit rfl rfl hh) (fa_cons (rx_lit rfl rfl hh) (fa_cons (Rs.up e1) fa_nil))))) (by rw [slot_cat hn]; omega)) rfl (fun ⟨a5, c5⟩ _ => ?_); dsimp only; rw [slot_cat hn])))
              all_goals refine wt_end ?_
              all_goals (refine xp1 53 rfl rfl rfl rfl (by refine o1_assign rfl fz) ?_)
              all_goals refine op_nil ?_
              all_goals refine re_nil ?_
            case' al3_3B =>
              all_goals first | (refine ct_run (E' := [(45, _), (48, _)]) rfl (gd_r0 rfl) rfl (cov_cons rfl rfl (cov_cons rfl rfl cov_nil)) ?_; (first | (refine o1_lit_enc B [1#8] rfl rfl rfl (fun _ => rfl) rfl rfl rfl (fun b3 => ?_)) | (refine o1_lit_enc B (be2 x.s1.n) rfl rfl rfl (fun _ => rfl) rfl rfl rfl (fun b4 => ?_)) | (refine o1_lit_enc Bs [⟨a0, c0, x.head ++ x.s0.by⟩, ⟨some ⟨b3, 0, none⟩, 1, [1#8]⟩, ⟨some ⟨b2, 0, none⟩, 4, be4 x.s1.v⟩, ⟨some ⟨b4, 0, none⟩, 2, be2 x.s1.n⟩, x.s1.h] rfl rfl rfl (fun _ => rfl) rfl rfl rfl (fun b5 => ?_)) | refine o1_lit_B rfl rfl rfl rfl rfl (fun _ => ?_)))
              all_goals refine wt_ch ?_
              all_goals refine op_nil ?_
              all_goals (refine xq1 4 rfl rfl rfl rfl rfl (by refine o1_move rfl fz) ?_)
              all_goals (refine xq1 6 rfl rfl rfl rfl rfl (by refine o1_fieldAddr rfl fz) ?_)
              all_goals (refine xq1 50 rfl rfl rfl rfl rfl (by first | refine ox_load rfl (by rfl) fz | refine ox_load_enc rfl (by first | omega | (simp; omega)) fz | refine ox_load_any rfl (by assumption) fz) ?_)
              all_goals refine re_nil ?_
              all_goals first | (refine ct_run (E' := []) rfl (gd_r0 rfl) rfl cov_nil ?_; (first | (refine o1_lit_enc B [1#8] rfl rfl rfl (fun _ => rfl) rfl rfl rfl (fun b3 => ?_)) | (refine o1_lit_enc B (be2 x.s1.n) rfl rfl rfl (fun _ => rfl) rfl rfl rfl (fun b4 => ?_)) | (refine o1_lit_enc Bs [⟨a0, c0, x.head ++ x.s0.by⟩, ⟨some ⟨b3, 0, none⟩, 1, [1#8]⟩, ⟨some ⟨b2, 0, none⟩, 4, be4 x.s1.v⟩, ⟨some ⟨b4, 0, none⟩, 2, be2 x.s1.n⟩, x.s1.h] rfl rfl rfl (fun _ => rfl) rfl rfl rfl (fun b5 => ?_)) | refine o1_lit_B rfl rfl rfl rfl rfl (fun _ => ?_)))
              all_goals refine wt_ch ?_
              all_goals refine op_nil ?_
              all_goals (refine xq1 4 rfl rfl rfl rfl rfl (by refine o1_move rfl fz) ?_)
              all_goals (refine xq1 6 rfl rfl rfl rfl rfl (by refine o1_fieldAddr rfl fz) ?_)
              all_goals (refine xq1 50 rfl rfl rfl rfl rfl (by first | refine ox_load rfl (by rfl) fz | refine ox_load_enc rfl (by first | omega | (simp; omega)) fz | refine ox_load_any rfl (by assumption) fz) ?_)
              all_goals refine re_nil ?_
              all_goals first | (refine ct_run (E' := [(37, _), (38, _), (41, _), (49, _), (51, _)]) rfl (gd_r0 rfl) rfl (cov_cons rfl rfl (cov_cons rfl rfl (cov_cons rfl rfl (cov_cons rfl rfl (cov_cons rfl rfl cov_nil))))) ?_; (first | (refine o1_lit_enc B [1#8] rfl rfl rfl (fun _ => rfl) rfl rfl rfl (fun b3 => ?_)) | (refine o1_lit_enc B (be2 x.s1.n) rfl rfl rfl (fun _ => rfl) rfl rfl rfl (fun b4 => ?_)) | (refine o1_lit_enc Bs [⟨a0, c0, x.head ++ x.s0.by⟩, ⟨some ⟨b3, 0, none⟩, 1, [1#8]⟩, ⟨some ⟨b2, 0, none⟩, 4, be4 x.s1.v⟩, ⟨some ⟨b4, 0, none⟩, 2, be2 x.s1.n⟩, x.s1.h] rfl rfl rfl (fun _ => rfl) rfl rfl rfl (fun b5 => ?_)) | refine o1_lit_B rfl rfl rfl rfl rfl (fun _ => ?_)))
              all_goals refine wt_ch ?_
              all_goals refine op_nil ?_
              all_goals refine re_nil ?_
              all_goals first | (refine ct_run (E' := [(52, _)]) rfl (gd_r0 rfl) rfl (cov_cons rfl rfl cov_nil) ?_; (first | (refine o1_call (fun hh => slices_Concat _ _ _ [⟨a0, c0, x.head ++ x.s0.by⟩, ⟨some ⟨b3, 0, none⟩, 1, [1#8]⟩, ⟨some ⟨b2, 0, none⟩, 4, be4 x.s1.v⟩, ⟨some ⟨b4, 0, none⟩, 2, be2 x.s1.n⟩, x.s1.h] (rx_lit rfl rfl hh) (fa_cons (rx_row (ad := a0) (c := c0) hh) (fa_cons (rx_lit rfl rfl hh) (fa_cons (rx_lit rfl rfl hh) (fa_cons (rx_lit rfl rfl hh) (fa_cons (Rs.up e1) fa_nil))))) (by rw [slot_cat hn]; omega)) rfl (fun ⟨a5, c5⟩ _ => ?_); dsimp only; rw [slot_cat hn])))
              all_goals refine wt_end ?_
              all_goals (refine xp1 53 rfl rfl rfl rfl (by refine o1_assign rfl fz) ?_)
              all_goals refine op_nil ?_
              all_goals refine re_nil ?_
          case' al3_1C =>
            all_goals first | (refine ct_run (E' := [(45, _), (48, _)]) rfl (gd_r0 rfl) rfl (cov_cons rfl rfl (cov_cons rfl rfl cov_nil)) ?_; (first | (refine o1_lit_enc B [1#8] rfl rfl rfl (fun _ => rfl) rfl rfl rfl (fun b3 => ?_)) | (refine o1_lit_enc B (be2 x.s1.n) rfl rfl rfl (fun _ => rfl) rfl rfl rfl (fun b4 => ?_)) | (refine o1_lit_enc Bs [⟨a0, c0, x.head ++ x.s0.by⟩, ⟨some ⟨b3, 0, none⟩, 1, [1#8]⟩, ⟨some ⟨b2, 0, none⟩, 4, be4 x.s1.v⟩, ⟨some ⟨b4, 0, none⟩, 2, be2 x.s1.n⟩, x.s1.h] rfl rfl rfl (fun _ => rfl) rfl rfl rfl (fun b5 => ?_)) | refine o1_lit_B rfl rfl rfl rfl rfl (fun _ => ?_)))
            all_goals refine wt_alt ?_
            all_goals refine op_nil ?_
            all_goals (refine xq1 4 rfl rfl rfl rfl rfl (by refine o1_move rfl fz) ?_)
            all_goals (refine xq1 6 rfl rfl rfl rfl rfl (by refine o1_fieldAddr rfl fz) ?_)
            all_goals (refine xq1 39 rfl rfl rfl rfl rfl (by first | refine ox_load rfl (by rfl) fz | refine ox_load_enc rfl (by first | omega | (simp; omega)) fz | refine ox_load_any rfl (by assumption) fz) ?_)
            all_goals (refine xq1 6 rfl rfl rfl rfl rfl (by refine o1_fieldAddr rfl fz) ?_)
            all_goals (refine xq1 50 rfl rfl rfl rfl rfl (by first | refine ox_load rfl (by rfl) fz | refine ox_load_enc rfl (by first | omega | (simp; omega)) fz | refine ox_load_any rfl (by assumption) fz) ?_)
            all_goals refine re_nil ?_
            refine ⟨?al3_4A, ?al3_4B⟩
            case' al3_4A =>
              all_goals first | (refine ct_run (E' := []) rfl (gd_r0 rfl) rfl cov_nil ?_; (first | (refine o1_lit_enc B [1#8] rfl rfl rfl (fun _ => rfl) rfl rfl rfl (fun b3 => ?_)) | (refine o1_lit_enc B (be2 x.s1.n) rfl rfl rfl (fun _ => rfl) rfl rfl rfl (fun b4 => ?_)) | (refine o1_lit_enc Bs [⟨a0, c0, x.head ++ x.s0.by⟩, ⟨some ⟨b3, 0, none⟩, 1, [1#8]⟩, ⟨some ⟨b2, 0, none⟩, 4, be4 x.s1.v⟩, ⟨some ⟨b4, 0, none⟩, 2, be2 x.s1.n⟩, x.s1.h] rfl rfl rfl (fun _ => rfl) rfl rfl rfl (fun b5 => ?_)) | refine o1_lit_B rfl rfl rfl rfl rfl (fun _ => ?_)))
              all_goals refine wt_ch ?_
              all_goals refine op_nil ?_
              all_goals (refine xq1 4 rfl rfl rfl rfl rfl (by refine o1_move rfl fz) ?_)
              all_goals (refine xq1 6 rfl rfl rfl rfl rfl (by refine o1_fieldAddr rfl fz) ?_)
              all_goals (refine xq1 39 rfl rfl rfl rfl rfl (by first | refine ox_load rfl (by rfl) fz | refine ox_load_enc rfl (by first | omega | (simp; omega)) fz | refine ox_load_any rfl (by assumption) fz) ?_)
              all_goals (refine xq1 6 rfl rfl rfl rfl rfl (by refine o1_fieldAddr rfl fz) ?_)
              all_goals (refine xq1 50 rfl rfl rfl rfl rfl (by first | refine ox_load rfl (by rfl) fz | refine ox_load_enc rfl (by first | omega | (simp; omega)) fz | refine ox_load_any rfl (by assumption) fz) ?_)
              all_goals refine re_nil ?_
              all_goals first | (refine ct_run (E' := [(40, _)]) rfl (gd_r0 rfl) rfl (cov_cons rfl rfl cov_nil) ?_; (first | (refine o1_call (fun _ => st_word _ x.s1.v) rfl (fun b2 _ => ?_))))
              all_goals refine wt_ch ?_
              all_goals refine op_nil ?_
              all_goals (refine xq1 4 rfl rfl rfl rfl rfl (by refine o1_move rfl fz) ?_)
              all_goals (refine xq1 6 rfl rfl rfl rfl rfl (by refine o1_fieldAddr rfl fz) ?_)
              all_goals (refine xq1 50 rfl rfl rfl rfl rfl (by first | refine ox_load rfl (by rfl) fz | refine ox_load_enc rfl (by first | omega | (simp; omega)) fz | refine ox_load_any rfl (by assumption) fz) ?_)
              all_goals refine re_nil ?_
              all_goals first | (refine ct_run (E' := [(37, _), (38, _), (41, _), (49, _), (51, _)]) rfl (gd_r0 rfl) rfl (cov_cons rfl rfl (cov_cons rfl rfl (cov_cons rfl rfl (cov_cons rfl rfl (cov_cons rfl rfl cov_nil))))) ?_; (first | (refine o1_lit_enc B [1#8] rfl rfl rfl (fun _ => rfl) rfl rfl rfl (fun b3 => ?_)) | (refine o1_lit_enc B (be2 x.s1.n) rfl rfl rfl (fun _ => rfl) rfl rfl rfl (fun b4 => ?_)) | (refine o1_lit_enc Bs [⟨a0, c0, x.head ++ x.s0.by⟩, ⟨some ⟨b3, 0, none⟩, 1, [1#8]⟩, ⟨some ⟨b2, 0, none⟩, 4, be4 x.s1.v⟩, ⟨some ⟨b4, 0, none⟩, 2, be2 x.s1.n⟩, x.s1.h] rfl rfl rfl (fun _ => rfl) rfl rfl rfl (fun b5 => ?_)) | refine o1_lit_B rfl rfl rfl rfl rfl (fun _ => ?_)))
              all_goals refine wt_ch ?_
              all_goals refine op_nil ?_
              all_goals refine re_nil ?_
              all_goals first | (refine ct_run (E' := [(52, _)]) rfl (gd_r0 rfl) rfl (cov_cons rfl rfl cov_nil) ?_; (first | (refine o1_call (fun hh => slices_Concat _ _ _ [⟨a0, c0, x.head ++ x.s0.by⟩, ⟨some ⟨b3, 0, none⟩, 1, [1#8]⟩, ⟨some ⟨b2, 0, none⟩, 4, be4 x.s1.v⟩, ⟨some ⟨b4, 0, none⟩, 2, be2 x.s1.n⟩, x.s1.h] (rx_lit rfl rfl hh) (fa_cons (rx_row (ad := a0) (c := c0) hh) (fa_cons (rx_lit rfl rfl hh) (fa_cons (rx_lit rfl rfl hh) (fa_cons (rx_lit rfl rfl hh) (fa_cons (Rs.up e1) fa_nil))))) (by rw [slot_cat hn]; omega)) rfl (fun ⟨a5, c5⟩ _ => ?_); dsimp only; rw [slot_cat hn])))
              all_goals refine wt_end ?_
              all_goals (refine xp1 53 rfl rfl rfl rfl (by refine o1_assign rfl fz) ?_)
              all_goals refine op_nil ?_
              all_goals refine re_nil ?_
            case' al3_4B =>
              all_goals first | (refine ct_run (E' := [(40, _)]) rfl (gd_r0 rfl) rfl (cov_cons rfl rfl cov_nil) ?_; (first | (refine o1_call (fun _ => st_word _ x.s1.v) rfl (fun b2 _ => ?_))))
              all_goals refine wt_ch ?_
              all_goals refine op_nil ?_
              all_goals (refine xq1 4 rfl rfl rfl rfl rfl (by refine o1_move rfl fz) ?_)
              all_goals (refine xq1 6 rfl rfl rfl rfl rfl (by refine o1_fieldAddr rfl fz) ?_)
              all_goals (refine xq1 50 rfl rfl rfl rfl rfl (by first | refine ox_load rfl (by rfl) fz | refine ox_load_enc rfl (by first | omega | (simp; omega)) fz | refine ox_load_any rfl (by assumption) fz) ?_)
              all_goals refine re_nil ?_
              all_goals first | (refine ct_run (E' := []) rfl (gd_r0 rfl) rfl cov_nil ?_; (first | (refine o1_lit_enc B [1#8] rfl rfl rfl (fun _ => rfl) rfl rfl rfl (fun b3 => ?_)) | (refine o1_lit_enc B (be2 x.s1.n) rfl rfl rfl (fun _ => rfl) rfl rfl rfl (fun b4 => ?_)) | (refine o1_lit_enc Bs [⟨a0, c0, x.head ++ x.s0.by⟩, ⟨some ⟨b3, 0, none⟩, 1, [1#8]⟩, ⟨some ⟨b2, 0, none⟩, 4, be4 x.s1.v⟩, ⟨some ⟨b4, 0, none⟩, 2, be2 x.s1.n⟩, x.s1.h] rfl rfl rfl (fun _ => rfl) rfl rfl rfl (fun b5 => ?_)) | refine o1_lit_B rfl rfl rfl rfl rfl (fun _ => ?_)))
              all_goals refine wt_ch ?_
              all_goals refine op_nil ?_
              all_goals (refine xq1 4 rfl rfl rfl rfl rfl (by refine o1_move rfl fz) ?_)
              all_goals (refine xq1 6 rfl rfl rfl rfl rfl (by refine o1_fieldAddr rfl fz) ?_)
              all_goals (refine xq1 50 rfl rfl rfl rfl rfl (by first | refine ox_load rfl (by rfl) fz | refine ox_load_enc rfl (by first | omega | (simp; omega)) fz | refine ox_load_any rfl (by assumption) fz) ?_)
              all_goals refine re_nil ?_
              all_goals first | (refine ct_run (E' := [(37, _), (38, _), (41, _), (49, _), (51, _)]) rfl (gd_r0 rfl) rfl (cov_cons rfl rfl (cov_cons rfl rfl (cov_cons rfl rfl (cov_cons rfl rfl (cov_cons rfl rfl cov_nil))))) ?_; (first | (refine o1_lit_enc B [1#8] rfl rfl rfl (fun _ => rfl) rfl rfl rfl (fun b3 => ?_)) | (refine o1_lit_enc B (be2 x.s1.n) rfl rfl rfl (fun _ => rfl) rfl rfl rfl (fun b4 => ?_)) | (refine o1_lit_enc Bs [⟨a0, c0, x.head ++ x.s0.by⟩, ⟨some ⟨b3, 0, none⟩, 1, [1#8]⟩, ⟨some ⟨b2, 0, none⟩, 4, be4 x.s1.v⟩, ⟨some ⟨b4, 0, none⟩, 2, be2 x.s1.n⟩, x.s1.h] rfl rfl rfl (fun _ => rfl) rfl rfl rfl (fun b5 => ?_)) | refine o1_lit_B rfl rfl rfl rfl rfl (fun _ => ?_)))
              all_goals refine wt_ch ?_
              all_goals refine op_nil ?_
              all_goals refine re_nil ?_
              all_goals first | (refine ct_run (E' := [(52, _)]) rfl (gd_r0 rfl) rfl (cov_cons rfl rfl cov_nil) ?_; (first | (refine o1_call (fun hh => slices_Concat _ _ _ [⟨a0, c0, x.head ++ x.s0.by⟩, ⟨some ⟨b3, 0, none⟩, 1, [1#8]⟩, ⟨some ⟨b2, 0, none⟩, 4, be4 x.s1.v⟩, ⟨some ⟨b4, 0, none⟩, 2, be2 x.s1.n⟩, x.s1.h] (rx_lit rfl rfl hh) (fa_cons (rx_row (ad := a0) (c := c0) hh) (fa_cons (rx_lit rfl rfl hh) (fa_cons (rx_lit rfl rfl hh) (fa_cons (rx_lit rfl rfl hh) (fa_cons (Rs.up e1) fa_nil))))) (by rw [slot_cat hn]; omega)) rfl (fun ⟨a5, c5⟩ _ => ?_); dsimp only; rw [slot_cat hn])))
              all_goals refine wt_end ?_
              all_goals (refine xp1 53 rfl rfl rfl rfl (by refine o1_assign rfl fz) ?_)
              all_goals refine op_nil ?_
              all_goals refine re_nil ?_
          all_goals dsimp only [List.cons_append, List.nil_append]
          all_goals (refine nx_blk ?_; exact via (a5, c5) _ _ (cov_cons rfl rfl (cov_cons rfl rfl (cov_cons rfl rfl (cov_cons rfl rfl cov_nil)))) (by (try dsimp only [List.cons_append, List.nil_append, List.singleton_append, List.append_nil]); (repeat (first | exact Ent.nil | exact Ent.refl _ | (apply Ent.cons; (repeat (first | exact Sel.here | apply Sel.there)))))))
        · rw [slot_by_no hn] at via
          repeat' (first | refine ls_of rfl ?_ | refine ls_of_no ?_ | refine ls_guard_yes rfl rfl ?_ | refine ls_guard_no rfl rfl rfl rfl ?_ | refine ls_guard_un rfl rfl rfl ?_ | refine o1_move rfl ?_ | refine o1_assign rfl ?_ | refine st_seq ?_ | refine st_region ?_ | refine st_block ?_ | refine st_skip ?_ | refine st_ret ?_ | refine st_exit ?_ | refine st_cond_t rfl ?_ | refine st_cond_f rfl ?_ | refine st_cond rfl (fun _ => ?_) (fun _ => ?_) | refine ls_nil ?_ | refine nx_seq ?_ | refine nx_blk ?_ | refine nx_fn ?_ | refine nx_rounds ?_ | refine xt_seq ?_ | refine xt_here ?_ | refine xt_on rfl ?_ | refine xt_rounds ?_ | refine xt_cut ?_ | refine rt_seq ?_ | refine rt_blk ?_ | refine rt_rounds ?_ | refine rt_cut ?_ | refine o1_index_agg 1 rfl rfl rfl (by decide) (by simp only [Nat.zero_mul, Nat.one_mul, Nat.reduceMul, List.drop_zero, List.drop_succ_cons, List.take_succ_cons, List.take_zero]; rfl) ?_ | refine o1_call (fun _ => (st_nothing _ x.s1).bv (b := true) hn) rfl (fun _ _ => ?_) | refine o1_lit_enc B [0#8] rfl rfl rfl (fun _ => rfl) rfl rfl rfl (fun b3 => ?_) | refine ox_appendL (xs := x.head ++ x.s0.by) (ys := [0#8]) rfl rfl (rx_box rfl (by decide)) rfl (fun _ => rfl) (by simp only [List.length_cons, List.length_nil]; omega) (by simp only [List.length_cons, List.length_nil]; omega) (fun a5 c5 => ?_) | refine o1_extract rfl rfl ?_ | refine o1_fieldAddr rfl ?_ | refine ox_load rfl (by rfl) ?_ | refine ox_load_enc rfl (by first | omega | (simp; omega)) ?_ | refine ox_load_any rfl (by assumption) ?_ | refine o1_box rfl rfl (fun _ => ?_) | refine o1_add rfl rfl (by omega) ?_ | refine o1_lss_t rfl rfl (by omega) ?_ | refine o1_lss_f rfl rfl (by omega) ?_ | refine o1_lss rfl rfl (fun _ => ?_) (fun _ => ?_) | refine o1_bnot rfl ?_ | refine o1_ushr rfl rfl (by omega) ?_ | refine o1_unot rfl ?_ | refine o1_conv_iu rfl ?_ | refine o1_lit_B rfl rfl rfl rfl rfl (fun _ => ?_) | refine o1_index_arr rfl rfl (by omega) (by rfl) ?_ | refine ox_append rfl rfl (rx_box rfl (by first | decide | omega)) rfl rfl (fun _ => rfl) (by omega) (by omega) (fun _ _ => ?_) | refine ox_append rfl rfl (rx_any (by assumption)) rfl rfl (fun _ => rfl) (by omega) (by omega) (fun _ _ => ?_) | refine ox_append rfl rfl rx_row rfl rfl (fun _ => rfl) (by omega) (by omega) (fun _ _ => ?_) | refine o1_alloc rfl (fun _ => ?_) | refine ox_store_agg rfl rfl (by rfl) (by simp) (by simp [Value.oneCell']) (by simp only [putL, List.set_cons_zero, List.set_cons_succ, Nat.zero_add, Nat.reduceAdd]; rfl) ?_ | refine ox_load_agg rfl (by simp only [Nat.zero_add, Nat.reduceAdd, List.drop_zero, List.drop_succ_cons, List.take_succ_cons, List.take_zero]; rfl) (by rfl) ?_)
          exact via (a5, c5) _ _ (cov_cons rfl rfl (cov_cons rfl rfl (cov_cons rfl rfl (cov_cons rfl rfl cov_nil)))) (by (try dsimp only [List.cons_append, List.nil_append, List.singleton_append, List.append_nil]); (repeat (first | exact Ent.nil | exact Ent.refl _ | (apply Ent.cons; (repeat (first | exact Sel.here | apply Sel.there))))))
      case restB =>
        rintro ⟨a0, c0⟩
        dsimp only
        obtain ⟨q, hq⟩ : ∃ q, (x.head ++ x.s0.by) ++ x.s1.by = q := ⟨_, rfl⟩
        have hby : x.by = q ++ x.tail := by rw [← hq]; rfl
        rw [hq] at hl02 ⊢
        rw [hby]
        cases hon : x.on
        · have ht : x.tail = [0#8] := if_neg (by simp [hon])
          rw [ht]
          obtain ⟨a, t, f, g, s0, s1, on, m⟩ := x
          dsimp only at hon
          subst hon
          repeat' (first | refine ls_of rfl ?_ | refine ls_of_no ?_ | refine ls_guard_yes rfl rfl ?_ | refine ls_guard_no rfl rfl rfl rfl ?_ | refine ls_guard_un rfl rfl rfl ?_ | refine o1_move rfl ?_ | refine o1_assign rfl ?_ | refine st_seq ?_ | refine st_region ?_ | refine st_block ?_ | refine st_skip ?_ | refine st_ret ?_ | refine st_exit ?_ | refine st_cond_t rfl ?_ | refine st_cond_f rfl ?_ | refine st_cond rfl (fun _ => ?_) (fun _ => ?_) | refine ls_nil ?_ | refine nx_seq ?_ | refine nx_blk ?_ | refine nx_fn ?_ | refine nx_rounds ?_ | refine xt_seq ?_ | refine xt_here ?_ | refine xt_on rfl ?_ | refine xt_rounds ?_ | refine xt_cut ?_ | refine rt_seq ?_ | refine rt_blk ?_ | refine rt_rounds ?_ | refine rt_cut ?_ | refine o1_lit_enc B [0#8] rfl rfl rfl (fun _ => rfl) rfl rfl rfl (fun b3 => ?_) | refine ox_appendL (xs := q) (ys := [0#8]) rfl rfl (rx_box rfl (by decide)) rfl (fun _ => rfl) (by simp only [List.length_cons, List.length_nil]; omega) (by simp only [List.length_cons, List.length_nil]; omega) (fun a5 c5 => ?_) | refine o1_extract rfl rfl ?_ | refine o1_fieldAddr rfl ?_ | refine ox_load rfl (by rfl) ?_ | refine ox_load_enc rfl (by first | omega | (simp; omega)) ?_ | refine ox_load_any rfl (by assumption) ?_ | refine o1_box rfl rfl (fun _ => ?_) | refine o1_add rfl rfl (by omega) ?_ | refine o1_lss_t rfl rfl (by omega) ?_ | refine o1_lss_f rfl rfl (by omega) ?_ | refine o1_lss rfl rfl (fun _ => ?_) (fun _ => ?_) | refine o1_bnot rfl ?_ | refine o1_ushr rfl rfl (by omega) ?_ | refine o1_unot rfl ?_ | refine o1_conv_iu rfl ?_ | refine o1_lit_B rfl rfl rfl rfl rfl (fun _ => ?_) | refine o1_index_arr rfl rfl (by omega) (by rfl) ?_ | refine ox_append rfl rfl (rx_box rfl (by first | decide | omega)) rfl rfl (fun _ => rfl) (by omega) (by omega) (fun _ _ => ?_) | refine ox_append rfl rfl (rx_any (by assumption)) rfl rfl (fun _ => rfl) (by omega) (by omega) (fun _ _ => ?_) | refine ox_append rfl rfl rx_row rfl rfl (fun _ => rfl) (by omega) (by omega) (fun _ _ => ?_) | refine o1_alloc rfl (fun _ => ?_) | refine ox_store_agg rfl rfl (by rfl) (by simp) (by simp [Value.oneCell']) (by simp only [putL, List.set_cons_zero, List.set_cons_succ, Nat.zero_add, Nat.reduceAdd]; rfl) ?_ | refine ox_load_agg rfl (by simp only [Nat.zero_add, Nat.reduceAdd, List.drop_zero, List.drop_succ_cons, List.take_succ_cons, List.take_zero]; rfl) (by rfl) ?_)
          refine rt_tmp2 (a5, c5) rfl rfl rfl rfl trivial ?_
          (try dsimp only [List.cons_append, List.nil_append, List.singleton_append, List.append_nil]); (repeat (first | exact Ent.nil | exact Ent.refl _ | (apply Ent.cons; (repeat (first | exact Sel.here | apply Sel.there)))))
        · have ht : x.tail = 1#8 :: x.m.by := if_pos hon
          have hmm : x.m.may = true := by
            have := (st_may_m hm)
            rwa [if_pos hon] at this
          have hml := by_len x.m
          rw [ht]
          obtain ⟨a, t, f, g, s0, s1, on, m⟩ := x
          dsimp only at hon e2 hmm hml q2
          subst hon
          repeat' (first | refine ls_of rfl ?_ | refine ls_of_no ?_ | refine ls_guard_yes rfl rfl ?_ | refine ls_guard_no rfl rfl rfl rfl ?_ | refine ls_guard_un rfl rfl rfl ?_ | refine o1_move rfl ?_ | refine o1_assign rfl ?_ | refine st_seq ?_ | refine st_region ?_ | refine st_block ?_ | refine st_skip ?_ | refine st_ret ?_ | refine st_exit ?_ | refine st_cond_t rfl ?_ | refine st_cond_f rfl ?_ | refine st_cond rfl (fun _ => ?_) (fun _ => ?_) | refine ls_nil ?_ | refine nx_seq ?_ | refine nx_blk ?_ | refine nx_fn ?_ | refine nx_rounds ?_ | refine xt_seq ?_ | refine xt_here ?_ | refine xt_on rfl ?_ | refine xt_rounds ?_ | refine xt_cut ?_ | refine rt_seq ?_ | refine rt_blk ?_ | refine rt_rounds ?_ | refine rt_cut ?_ | (refine o1_call (fun _ => mf_Plain _ m hmm (Rs.up e2)) rfl (fun ⟨a6, c6⟩ _ => ?_); dsimp only) | refine o1_lit_enc B [1#8] rfl rfl rfl (fun _ => rfl) rfl rfl rfl (fun b3 => ?_) | refine o1_lit_enc Bs [⟨a0, c0, q⟩, ⟨some ⟨b3, 0, none⟩, 1, [1#8]⟩, ⟨a6, c6, m.by⟩] rfl rfl rfl (fun _ => rfl) rfl rfl rfl (fun b5 => ?_) | (refine o1_call (fun hh => slices_Concat _ _ _ [⟨a0, c0, q⟩, ⟨some ⟨b3, 0, none⟩, 1, [1#8]⟩, ⟨a6, c6, m.by⟩] (rx_lit rfl rfl hh) (fa_cons (rx_row (ad := a0) (c := c0) hh) (fa_cons (rx_lit rfl rfl hh) (fa_cons (rx_row (ad := a6) (c := c6) hh) fa_nil))) (by rw [tail_cat]; simp only [List.length_append, List.length_cons]; omega)) rfl (fun ⟨a5, c5⟩ _ => ?_); dsimp only; rw [tail_cat]) | refine o1_extract rfl rfl ?_ | refine o1_fieldAddr rfl ?_ | refine ox_load rfl (by rfl) ?_ | refine ox_load_enc rfl (by first | omega | (simp; omega)) ?_ | refine ox_load_any rfl (by assumption) ?_ | refine o1_box rfl rfl (fun _ => ?_) | refine o1_add rfl rfl (by omega) ?_ | refine o1_lss_t rfl rfl (by omega) ?_ | refine o1_lss_f rfl rfl (by omega) ?_ | refine o1_lss rfl rfl (fun _ => ?_) (fun _ => ?_) | refine o1_bnot rfl ?_ | refine o1_ushr rfl rfl (by omega) ?_ | refine o1_unot rfl ?_ | refine o1_conv_iu rfl ?_ | refine o1_lit_B rfl rfl rfl rfl rfl (fun _ => ?_) | refine o1_index_arr rfl rfl (by omega) (by rfl) ?_ | refine ox_append rfl rfl (rx_box rfl (by first | decide | omega)) rfl rfl (fun _ => rfl) (by omega) (by omega) (fun _ _ => ?_) | refine ox_append rfl rfl (rx_any (by assumption)) rfl rfl (fun _ => rfl) (by omega) (by omega) (fun _ _ => ?_) | refine ox_append rfl rfl rx_row rfl rfl (fun _ => rfl) (by omega) (by omega) (fun _ _ => ?_) | refine o1_alloc rfl (fun _ => ?_) | refine ox_store_agg rfl rfl (by rfl) (by simp) (by simp [Value.oneCell']) (by simp only [putL, List.set_cons_zero, List.set_cons_succ, Nat.zero_add, Nat.reduceAdd]; rfl) ?_ | refine ox_load_agg rfl (by simp only [Nat.zero_add, Nat.reduceAdd, List.drop_zero, List.drop_succ_cons, List.take_succ_cons, List.take_zero]; rfl) (by rfl) ?_)
          refine rt_tmp2 (a5, c5) rfl rfl rfl rfl trivial ?_
          (try dsimp only [List.cons_append, List.nil_append, List.singleton_append, List.append_nil]); (repeat (first | exact Ent.nil | exact Ent.refl _ | (apply Ent.cons; (repeat (first | exact Sel.here | apply Sel.there)))))
end Go.Dp
