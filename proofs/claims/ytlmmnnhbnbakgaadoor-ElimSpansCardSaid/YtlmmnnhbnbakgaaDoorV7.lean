/-
  downpourlaw5: awake, VecSets, VecOrder, walked.
  Conditions: those that stand in each theorem.
-/
import Derived.Test.YtlmmnnhbnbakgaaDoorV6c
set_option linter.unusedVariables false
set_option linter.unusedSimpArgs false
namespace Go.Dp
open Go.RowKit Go.Proofs
def rtV7_0 : List Row := [⟨some 30, [], [], none⟩, ⟨some 31, [], [], none⟩, ⟨some 32, [], [], none⟩, ⟨some 33, [], [], none⟩, ⟨some 34, [2, 3], [2, 3], none⟩, ⟨some 35, [1, 4], [1, 2, 3, 4], none⟩, ⟨some 36, [], [], none⟩, ⟨some 37, [5, 6, 5], [1, 2, 3, 4, 5, 6], none⟩, ⟨some 38, [], [], none⟩, ⟨some 39, [], [], none⟩, ⟨some 40, [8, 9], [8, 9], none⟩, ⟨some 41, [7, 10, 7], [1, 2, 3, 4, 5, 6, 7, 8, 9, 10], none⟩, ⟨some 42, [0, 11, 11], [0, 1, 2, 3, 4, 5, 6, 7, 8, 9, 10, 11], none⟩, ⟨some 9, [12, 12, 0, 1, 2, 3, 4, 5, 6, 7, 8, 9, 10, 11, 12], [0, 1, 2, 3, 4, 5, 6, 7, 8, 9, 10, 11, 12], none⟩]
theorem awake_bytes : bytesV (bitsOf 10 [1, 9, 10, -1]) = [2#8, 2#8] := by decide +kernel
theorem awake_count : countV (bitsOf 10 [1, 9, 10, -1]) = 2 := by decide
theorem awake_first : firstV (bitsOf 10 [1, 9, 10, -1]) = 1 := by decide
theorem awake5 (H : List Hl) (ht : TabF (stars H)) : Spec Tryd.prog 14 [] H (fun _ : Unit => True) (fun _ => .bool true) (fun _ => H) := by
  refine spec_pure (res := fun _ => []) H Tryd.func14 rfl Tryd.ntmps14 (by kernel_rfl) rfl (fun W => ?_)
  obtain ⟨B0, hB0⟩ : ∃ B0, bitsOf 10 [1, 9, 10, -1] = B0 := ⟨_, rfl⟩
  have h1 := awake_bytes
  have h2 := awake_count
  have h3 := awake_first
  rw [hB0] at h1 h2 h3
  have hl : B0.length = 10 := by rw [← hB0, bitsOf_len]
  repeat' (first | refine ls_of rfl ?_ | refine ls_of_no ?_ | refine ls_guard_yes rfl rfl ?_ | refine ls_guard_no rfl rfl rfl rfl ?_ | refine ls_guard_un rfl rfl rfl ?_ | refine o1_move rfl ?_ | refine o1_assign rfl ?_ | refine st_seq ?_ | refine st_region ?_ | refine st_block ?_ | refine st_skip ?_ | refine st_ret ?_ | refine st_exit ?_ | refine st_cond_t rfl ?_ | refine st_cond_f rfl ?_ | refine st_cond rfl (fun _ => ?_) (fun _ => ?_) | refine ls_nil ?_ | refine nx_seq ?_ | refine nx_blk ?_ | refine nx_fn ?_ | refine nx_rounds ?_ | refine xt_seq ?_ | refine xt_here ?_ | refine xt_on rfl ?_ | refine xt_rounds ?_ | refine xt_cut ?_ | refine rt_seq ?_ | refine rt_blk ?_ | refine rt_rounds ?_ | refine rt_cut ?_ | refine o1_lit_enc I [1, 9, 10, -1] rfl rfl rfl (fun _ => rfl) rfl rfl rfl (fun b2 => ?_) | (refine o1_call (fun hh => vec_Of _ 10 (some ⟨b2, 0, none⟩) 4 [1, 9, 10, -1] (by decide) (rx_box (T := 3) rfl (by decide) hh)) rfl (fun ⟨b1, a1, c1⟩ _ => ?_); dsimp only; rw [hB0]) | (refine o1_call (fun hh => vec_Bytes _ ⟨b1, 10, a1, c1, B0⟩ (RdV.own hl (by decide) hh)) rfl (fun b5 _ => ?_); dsimp only; rw [h1]) | refine o1_string (xs := [2#8, 2#8]) rfl rfl (rx_box (b := b5) (T := 5) rfl (by decide)) ?_ | refine o1_call (fun hh => (vec_Count _ ⟨b1, 10, a1, c1, B0⟩ (RdV.own hl (by decide) hh)).vv (b := I 2) (by rw [h2]; rfl)) rfl (fun _ _ => ?_) | refine o1_call (fun hh => (vec_First _ ⟨b1, 10, a1, c1, B0⟩ (RdV.own hl (by decide) hh) ht.up).vv (b := I 1) (by rw [h3])) rfl (fun _ _ => ?_) | refine o1_pick_t rfl rfl ?_ | refine o1_pick_f rfl rfl ?_ | refine o1_eql_t rfl rfl (by omega) ?_ | refine o1_eql_f rfl rfl (by omega) ?_ | refine o1_eql rfl rfl (fun _ => ?_) (fun _ => ?_) | refine o1_streq rfl rfl (fun _ => ?_) (fun _ => ?_) | refine o1_string rfl (by rfl) rx_row ?_ | refine o1_string rfl (by rfl) (rx_any (by assumption)) ?_ | refine o1_strlit (r := true) rfl rfl (by kernel_rfl) ?_ | refine o1_lit_B rfl rfl rfl rfl rfl (fun _ => ?_))
  refine rt_tmp () rfl rfl rfl trivial ?_
  (try dsimp only [List.cons_append, List.nil_append, List.singleton_append, List.append_nil]); (repeat (first | exact Ent.nil | exact Ent.refl _ | (apply Ent.cons; (repeat (first | exact Sel.here | apply Sel.there)))))
theorem set_back {l : List Bool} {m : Nat} (h : m < l.length) (b : Bool) : (l.set m b).set m (at_ l m) = l := by
  rw [List.set_set]
  have : at_ l m = l[m] := by show l.getD m false = _; rw [List.getD_eq_getElem?_getD, List.getElem?_eq_getElem h]; rfl
  rw [this]
  exact List.set_getElem_self h
set_option maxHeartbeats 4000000 in
theorem VecSets_law (H : List Hl) (n i : Int) (ad : Option Addr) (c : Nat) (l : List Int) (h : Rs (stars H) I ad c l) (ht : TabF (stars H)) (hn : -9223372036854775808 ≤ n ∧ n ≤ 9223372036854775807) (hi : -9223372036854775808 ≤ i ∧ i ≤ 9223372036854775807) :
    Spec Tryd.prog 3 [I n, .slice ad l.length c, I i] H (fun _ : Unit => True) (fun _ => .bool true) (fun _ => H) := by
  have b3 := h.le
  have b4 := h.big
  refine spec_pure (res := fun _ => []) H Tryd.func3 rfl Tryd.ntmps3 (by kernel_rfl) rfl (fun W => ?_)
  by_cases hll : 300 < l.length
  · repeat' (first | refine ls_of rfl ?_ | refine ls_of_no ?_ | refine ls_guard_yes rfl rfl ?_ | refine ls_guard_no rfl rfl rfl rfl ?_ | refine ls_guard_un rfl rfl rfl ?_ | refine o1_move rfl ?_ | refine o1_assign rfl ?_ | refine st_seq ?_ | refine st_region ?_ | refine st_block ?_ | refine st_skip ?_ | refine st_ret ?_ | refine st_exit ?_ | refine st_cond_t rfl ?_ | refine st_cond_f rfl ?_ | refine st_cond rfl (fun _ => ?_) (fun _ => ?_) | refine ls_nil ?_ | refine nx_seq ?_ | refine nx_blk ?_ | refine nx_fn ?_ | refine nx_rounds ?_ | refine xt_seq ?_ | refine xt_here ?_ | refine xt_on rfl ?_ | refine xt_rounds ?_ | refine xt_cut ?_ | refine rt_seq ?_ | refine rt_blk ?_ | refine rt_rounds ?_ | refine rt_cut ?_ | refine o1_call (fun _ => awake5 _ ht.up) rfl (fun _ _ => ?_) | refine o1_pick_t rfl rfl ?_ | refine o1_pick_f rfl rfl ?_ | refine o1_len rfl ?_ | refine o1_add rfl rfl (by omega) ?_ | refine o1_sub rfl rfl (by omega) ?_ | refine o1_gtr_t rfl rfl (by omega) ?_ | refine o1_gtr_f rfl rfl (by omega) ?_ | refine o1_gtr rfl rfl (fun _ => ?_) (fun _ => ?_) | refine o1_eql_t rfl rfl (by omega) ?_ | refine o1_eql_f rfl rfl (by omega) ?_ | refine o1_eql rfl rfl (fun _ => ?_) (fun _ => ?_) | refine o1_neq_t rfl rfl (by omega) ?_ | refine o1_neq_f rfl rfl (by omega) ?_ | refine o1_neq rfl rfl (fun _ => ?_) (fun _ => ?_) | refine o1_bnot rfl ?_ | refine o1_unot rfl ?_ | refine o1_conv_i rfl (by omega) ?_ | refine o1_conv_ui rfl (by exact bv_small (by decide) _) ?_ | refine o1_conv_u64 rfl (by omega) ?_ | refine o1_conv_iu rfl ?_ | refine o1_rem_nn rfl rfl (by omega) ?_ | refine o1_eqb rfl rfl ?_)
    refine rt_tmp () rfl rfl rfl trivial ?_
    (try dsimp only [List.cons_append, List.nil_append, List.singleton_append, List.append_nil]); (repeat (first | exact Ent.nil | exact Ent.refl _ | (apply Ent.cons; (repeat (first | exact Sel.here | apply Sel.there)))))
  obtain ⟨N, hN, hN1, hN2⟩ : ∃ N : Nat, 1 + ((BitVec.ofInt 64 n).toNat : Int) % 256 = N ∧ 1 ≤ N ∧ N ≤ 256 := ⟨1 + (BitVec.ofInt 64 n).toNat % 256, by rw [Int.natCast_add, Int.natCast_emod]; rfl, by omega, by omega⟩
  obtain ⟨m, hm, hmN⟩ : ∃ m : Nat, ((BitVec.ofInt 64 i).toNat : Int) % N = m ∧ m < N := ⟨(BitVec.ofInt 64 i).toNat % N, (Int.natCast_emod _ _).symm, Nat.mod_lt _ (by omega)⟩
  obtain ⟨B0, hB0⟩ : ∃ B0, bitsOf N l = B0 := ⟨_, rfl⟩
  have hl0 : B0.length = N := by rw [← hB0, bitsOf_len]
  obtain ⟨was, hwas⟩ : ∃ was, at_ B0 m = was := ⟨_, rfl⟩
  obtain ⟨B1, hB1⟩ : ∃ B1, B0.set m (!was) = B1 := ⟨_, rfl⟩
  have hl1 : B1.length = N := by rw [← hB1, List.length_set]; exact hl0
  have hS1 : setB B0 m (!was) = B1 := by rw [setB_nat _ _ _ (by omega), hB1]
  have hS2 : setB B1 m was = B0 := by rw [setB_nat _ _ _ (by omega), ← hB1, ← hwas]; exact set_back (by omega) _
  have hS3 : setB B0 N true = B0 := setB_out _ _ _ (by omega)
  have hS4 : setB B0 (-1) true = B0 := setB_out _ _ _ (by omega)
  have hH0 : hasV B0 m = was := by rw [hasV_nat, hwas]
  have hH1 : hasV B1 m = !was := by
    rw [hasV_nat, ← hB1]
    show (B0.set m (!was)).getD m false = !was
    rw [atD_set, if_pos ⟨rfl, by omega⟩]
  have hne : decide (B0 = B1) = false := by
    refine decide_eq_false (fun e => ?_)
    rw [← e, hH0] at hH1
    cases was <;> cases hH1
  have hd := countV_set B0 m (!was) (by omega)
  rw [hB1, hwas] at hd
  have hc0 : countV B0 ≤ B0.length := cnt_le _ _
  have hc1 : countV B1 ≤ B1.length := cnt_le _ _
  have hi1 : inV N m = true := inV_of (by omega) (by omega)
  have hi2 : inV N N = false := inV_not (by omega)
  have hi3 : inV N (-1) = false := inV_not (by omega)
  cases was
  all_goals simp at hd
  all_goals
    repeat' (first | refine ls_of rfl ?_ | refine ls_of_no ?_ | refine ls_guard_yes rfl rfl ?_ | refine ls_guard_no rfl rfl rfl rfl ?_ | refine ls_guard_un rfl rfl rfl ?_ | refine o1_move rfl ?_ | refine o1_assign rfl ?_ | refine st_seq ?_ | refine st_region ?_ | refine st_block ?_ | refine st_skip ?_ | refine st_ret ?_ | refine st_exit ?_ | refine st_cond_t rfl ?_ | refine st_cond_f rfl ?_ | refine st_cond rfl (fun _ => ?_) (fun _ => ?_) | refine ls_nil ?_ | refine nx_seq ?_ | refine nx_blk ?_ | refine nx_fn ?_ | refine nx_rounds ?_ | refine xt_seq ?_ | refine xt_here ?_ | refine xt_on rfl ?_ | refine xt_rounds ?_ | refine xt_cut ?_ | refine rt_seq ?_ | refine rt_blk ?_ | refine rt_rounds ?_ | refine rt_cut ?_ | (refine o1_add rfl rfl (by omega) ?_; rw [hN]) | (refine o1_rem_nn rfl rfl (by omega) ?_; rw [hm]) | (refine o1_call (fun _ => vec_Of _ N ad c l (by omega) h.up) rfl (fun ⟨b7, a7, c7⟩ _ => ?_); dsimp only; rw [hB0]) | (refine o1_call (fun hh => vec_Copy _ ⟨b7, N, a7, c7, B0⟩ (RdV.own hl0 hN2 hh)) rfl (fun ⟨b8, a8, c8⟩ _ => ?_); dsimp only) | refine o1_call (fun hh => (vec_Has _ ⟨b7, N, a7, c7, B0⟩ m (RdV.own hl0 hN2 hh)).bv hH0) rfl (fun _ _ => ?_) | (refine o1_call_br b8 a8 c8 (fun _ => (vec_Set _ b8 N a8 c8 B0 m _ hl0 hN2).bv hi1) rfl (fun _ _ => ?_); rw [hS1]) | refine o1_call (fun hh => (vec_Has _ ⟨b8, N, a8, c8, B1⟩ m (RdV.own hl1 hN2 hh)).bv hH1) rfl (fun _ _ => ?_) | refine o1_call (fun hh => (vec_Same _ ⟨b7, N, a7, c7, B0⟩ ⟨b8, N, a8, c8, B1⟩ (RdV.own hl0 hN2 hh) (RdV.own hl1 hN2 hh)).bv hne) rfl (fun _ _ => ?_) | (refine o1_call (fun hh => vec_Count _ ⟨b8, N, a8, c8, B1⟩ (RdV.own hl1 hN2 hh)) rfl (fun _ _ => ?_); dsimp only) | (refine o1_call (fun hh => vec_Count _ ⟨b7, N, a7, c7, B0⟩ (RdV.own hl0 hN2 hh)) rfl (fun _ _ => ?_); dsimp only) | (refine o1_call_br b8 a8 c8 (fun _ => (vec_Set _ b8 N a8 c8 B1 m _ hl1 hN2).bv hi1) rfl (fun _ _ => ?_); rw [hS2]) | refine o1_call (fun hh => (vec_Same _ ⟨b7, N, a7, c7, B0⟩ ⟨b8, N, a8, c8, B0⟩ (RdV.own hl0 hN2 hh) (RdV.own hl0 hN2 hh)).bv (b := true) (by simp)) rfl (fun _ _ => ?_) | (refine o1_call_br b8 a8 c8 (fun _ => (vec_Set _ b8 N a8 c8 B0 N true hl0 hN2).bv hi2) rfl (fun _ _ => ?_); rw [hS3]) | (refine o1_call_br b8 a8 c8 (fun _ => (vec_Set _ b8 N a8 c8 B0 (-1) true hl0 hN2).bv hi3) rfl (fun _ _ => ?_); rw [hS4]) | refine o1_call (fun _ => awake5 _ ht.up) rfl (fun _ _ => ?_) | refine o1_pick_t rfl rfl ?_ | refine o1_pick_f rfl rfl ?_ | refine o1_len rfl ?_ | refine o1_add rfl rfl (by omega) ?_ | refine o1_sub rfl rfl (by omega) ?_ | refine o1_gtr_t rfl rfl (by omega) ?_ | refine o1_gtr_f rfl rfl (by omega) ?_ | refine o1_gtr rfl rfl (fun _ => ?_) (fun _ => ?_) | refine o1_eql_t rfl rfl (by omega) ?_ | refine o1_eql_f rfl rfl (by omega) ?_ | refine o1_eql rfl rfl (fun _ => ?_) (fun _ => ?_) | refine o1_neq_t rfl rfl (by omega) ?_ | refine o1_neq_f rfl rfl (by omega) ?_ | refine o1_neq rfl rfl (fun _ => ?_) (fun _ => ?_) | refine o1_bnot rfl ?_ | refine o1_unot rfl ?_ | refine o1_conv_i rfl (by omega) ?_ | refine o1_conv_ui rfl (by exact bv_small (by decide) _) ?_ | refine o1_conv_u64 rfl (by omega) ?_ | refine o1_conv_iu rfl ?_ | refine o1_rem_nn rfl rfl (by omega) ?_ | refine o1_eqb rfl rfl ?_)
    refine rt_tmp () rfl rfl rfl trivial ?_
    (try dsimp only [List.cons_append, List.nil_append, List.singleton_append, List.append_nil]); (repeat (first | exact Ent.nil | exact Ent.refl _ | (apply Ent.cons; (repeat (first | exact Sel.here | apply Sel.there)))))
set_option maxHeartbeats 4000000 in
theorem VecOrder_law (H : List Hl) (n turn : Int) (ad : Option Addr) (c : Nat) (l : List Int) (h : Rs (stars H) I ad c l) (ht : TabF (stars H)) (hn : -9223372036854775808 ≤ n ∧ n ≤ 9223372036854775807) (hi : -9223372036854775808 ≤ turn ∧ turn ≤ 9223372036854775807) :
    Spec Tryd.prog 4 [I n, .slice ad l.length c, I turn] H (fun _ : Unit => True) (fun _ => .bool true) (fun _ => H) := by
  have b3 := h.le
  have b4 := h.big
  refine spec_pure (res := fun _ => []) H Tryd.func4 rfl Tryd.ntmps4 (by kernel_rfl) rfl (fun W => ?_)
  by_cases hll : 300 < l.length
  · repeat' (first | refine ls_of rfl ?_ | refine ls_of_no ?_ | refine ls_guard_yes rfl rfl ?_ | refine ls_guard_no rfl rfl rfl rfl ?_ | refine ls_guard_un rfl rfl rfl ?_ | refine o1_move rfl ?_ | refine o1_assign rfl ?_ | refine st_seq ?_ | refine st_region ?_ | refine st_block ?_ | refine st_skip ?_ | refine st_ret ?_ | refine st_exit ?_ | refine st_cond_t rfl ?_ | refine st_cond_f rfl ?_ | refine st_cond rfl (fun _ => ?_) (fun _ => ?_) | refine ls_nil ?_ | refine nx_seq ?_ | refine nx_blk ?_ | refine nx_fn ?_ | refine nx_rounds ?_ | refine xt_seq ?_ | refine xt_here ?_ | refine xt_on rfl ?_ | refine xt_rounds ?_ | refine xt_cut ?_ | refine rt_seq ?_ | refine rt_blk ?_ | refine rt_rounds ?_ | refine rt_cut ?_ | refine o1_call (fun _ => awake5 _ ht.up) rfl (fun _ _ => ?_) | refine o1_pick_t rfl rfl ?_ | refine o1_pick_f rfl rfl ?_ | refine o1_len rfl ?_ | refine o1_add rfl rfl (by omega) ?_ | refine o1_gtr_t rfl rfl (by omega) ?_ | refine o1_gtr_f rfl rfl (by omega) ?_ | refine o1_gtr rfl rfl (fun _ => ?_) (fun _ => ?_) | refine o1_eql_t rfl rfl (by omega) ?_ | refine o1_eql_f rfl rfl (by omega) ?_ | refine o1_eql rfl rfl (fun _ => ?_) (fun _ => ?_) | refine o1_conv_i rfl (by omega) ?_ | refine o1_conv_ui rfl (by exact bv_small (by decide) _) ?_ | refine o1_conv_u64 rfl (by omega) ?_ | refine o1_conv_iu rfl ?_ | refine o1_rem_nn rfl rfl (by omega) ?_ | refine o1_lit_B rfl rfl rfl rfl rfl (fun _ => ?_) | refine ox_append rfl rfl (rx_box rfl (by first | decide | omega)) rfl rfl (fun _ => rfl) (by omega) (by omega) (fun _ _ => ?_) | refine ox_append rfl rfl (rx_any (by assumption)) rfl rfl (fun _ => rfl) (by omega) (by omega) (fun _ _ => ?_) | refine ox_append rfl rfl rx_row rfl rfl (fun _ => rfl) (by omega) (by omega) (fun _ _ => ?_))
    refine rt_tmp () rfl rfl rfl trivial ?_
    (try dsimp only [List.cons_append, List.nil_append, List.singleton_append, List.append_nil]); (repeat (first | exact Ent.nil | exact Ent.refl _ | (apply Ent.cons; (repeat (first | exact Sel.here | apply Sel.there)))))
  obtain ⟨N, hN, hN2⟩ : ∃ N : Nat, ((BitVec.ofInt 64 n).toNat : Int) % 257 = N ∧ N ≤ 256 := ⟨(BitVec.ofInt 64 n).toNat % 257, (Int.natCast_emod _ _).symm, by omega⟩
  obtain ⟨k, hk, hkl⟩ : ∃ k : Nat, ((BitVec.ofInt 64 turn).toNat : Int) % ((l.length : Int) + 1) = k ∧ k ≤ l.length := ⟨(BitVec.ofInt 64 turn).toNat % (l.length + 1), (Int.natCast_emod _ _).symm, by have := Nat.mod_lt (BitVec.ofInt 64 turn).toNat (show 0 < l.length + 1 by omega); omega⟩
  obtain ⟨B0, hB0⟩ : ∃ B0, bitsOf N l = B0 := ⟨_, rfl⟩
  have hl0 : B0.length = N := by rw [← hB0, bitsOf_len]
  have hturn : bitsOf N ((l.drop k ++ l) ++ l.take k) = B0 := by rw [bitsOf_turn, hB0]
  have hback : bitsOf N (listV B0) = B0 := by rw [← hl0]; exact bitsOf_listV B0
  have hcl : ((countV B0 : Nat) : Int) = (listV B0).length := by rw [listV_len]; rfl
  repeat' (first | refine ls_of rfl ?_ | refine ls_of_no ?_ | refine ls_guard_yes rfl rfl ?_ | refine ls_guard_no rfl rfl rfl rfl ?_ | refine ls_guard_un rfl rfl rfl ?_ | refine o1_move rfl ?_ | refine o1_assign rfl ?_ | refine st_seq ?_ | refine st_region ?_ | refine st_block ?_ | refine st_skip ?_ | refine st_ret ?_ | refine st_exit ?_ | refine st_cond_t rfl ?_ | refine st_cond_f rfl ?_ | refine st_cond rfl (fun _ => ?_) (fun _ => ?_) | refine ls_nil ?_ | refine nx_seq ?_ | refine nx_blk ?_ | refine nx_fn ?_ | refine nx_rounds ?_ | refine xt_seq ?_ | refine xt_here ?_ | refine xt_on rfl ?_ | refine xt_rounds ?_ | refine xt_cut ?_ | refine rt_seq ?_ | refine rt_blk ?_ | refine rt_rounds ?_ | refine rt_cut ?_ | refine o1_call (fun _ => awake5 _ ht.up) rfl (fun _ _ => ?_) | (refine o1_rem_nn rfl rfl (by omega) ?_; rw [hN]) | (refine o1_rem_nn rfl rfl (by omega) ?_; rw [hk]) | (refine o1_call (fun _ => vec_Of _ N ad c l (by omega) h.up) rfl (fun ⟨b7, a7, c7⟩ _ => ?_); dsimp only; rw [hB0]) | refine o1_pick_t rfl rfl ?_ | refine o1_pick_f rfl rfl ?_ | refine o1_len rfl ?_ | refine o1_add rfl rfl (by omega) ?_ | refine o1_gtr_t rfl rfl (by omega) ?_ | refine o1_gtr_f rfl rfl (by omega) ?_ | refine o1_gtr rfl rfl (fun _ => ?_) (fun _ => ?_) | refine o1_eql_t rfl rfl (by omega) ?_ | refine o1_eql_f rfl rfl (by omega) ?_ | refine o1_eql rfl rfl (fun _ => ?_) (fun _ => ?_) | refine o1_conv_i rfl (by omega) ?_ | refine o1_conv_ui rfl (by exact bv_small (by decide) _) ?_ | refine o1_conv_u64 rfl (by omega) ?_ | refine o1_conv_iu rfl ?_ | refine o1_rem_nn rfl rfl (by omega) ?_ | refine o1_lit_B rfl rfl rfl rfl rfl (fun _ => ?_) | refine ox_append rfl rfl (rx_box rfl (by first | decide | omega)) rfl rfl (fun _ => rfl) (by omega) (by omega) (fun _ _ => ?_) | refine ox_append rfl rfl (rx_any (by assumption)) rfl rfl (fun _ => rfl) (by omega) (by omega) (fun _ _ => ?_) | refine ox_append rfl rfl rx_row rfl rfl (fun _ => rfl) (by omega) (by omega) (fun _ _ => ?_))
  refine st_stages [(0, _), (1, _), (7, _)] rtV7_0 [1, 5, 7, 11, 12] [⟨[0, 2, 3, 4, 6, 8, 9, 10], [], some 1⟩, ⟨[], [0, 2, 3, 4, 6, 8, 9, 10], some 5⟩, ⟨[], [0, 6, 8, 9, 10], some 7⟩, ⟨[], [0, 8, 9, 10], some 11⟩, ⟨[], [0], some 12⟩, ⟨[13], [], none⟩] mixed (cov_cons rfl rfl (cov_cons rfl rfl (cov_cons rfl rfl cov_nil))) (by kernel_rfl) (by kernel_rfl) ?_
  all_goals refine wk_ch ?_
  all_goals (refine xp1 0 rfl rfl rfl rfl (by refine o1_move rfl fz) ?_)
  all_goals (refine xp1 1 rfl rfl rfl rfl (by refine o1_move rfl fz) ?_)
  all_goals (refine xp1 7 rfl rfl rfl rfl (by refine o1_move rfl fz) ?_)
  all_goals (refine xp2 32 33 rfl rfl rfl rfl rfl (by first | refine o1_cs_l (xs := l) k rfl rfl rfl rfl (by omega) fz | refine o1_cs_h (xs := l) k rfl rfl rfl rfl (by omega) (by omega) fz) ?_)
  all_goals (refine xp1 1 rfl rfl rfl rfl (by refine o1_move rfl fz) ?_)
  all_goals (refine xp1 1 rfl rfl rfl rfl (by refine o1_move rfl fz) ?_)
  all_goals (refine xp1 7 rfl rfl rfl rfl (by refine o1_move rfl fz) ?_)
  all_goals (refine xp2 38 39 rfl rfl rfl rfl rfl (by first | refine o1_cs_l (xs := l) k rfl rfl rfl rfl (by omega) fz | refine o1_cs_h (xs := l) k rfl rfl rfl rfl (by omega) (by omega) fz) ?_)
  all_goals refine op_nil ?_
  all_goals refine re_nil ?_
  all_goals first | (refine ch_run (E' := []) rfl (gd_r0 rfl) rfl cov_nil ?_; (first | (refine o1_lit_enc I ([] : List Int) rfl rfl rfl (fun _ => rfl) rfl rfl rfl (fun b31 => ?_)) | refine o1_lit_B rfl rfl rfl rfl rfl (fun _ => ?_)))
  all_goals refine wk_ch ?_
  all_goals refine op_nil ?_
  all_goals (refine xq1 0 rfl rfl rfl rfl rfl (by refine o1_move rfl fz) ?_)
  all_goals (refine xq1 1 rfl rfl rfl rfl rfl (by refine o1_move rfl fz) ?_)
  all_goals (refine xq1 7 rfl rfl rfl rfl rfl (by refine o1_move rfl fz) ?_)
  all_goals (refine xq2 32 33 rfl rfl rfl rfl rfl rfl (by first | refine o1_cs_l (xs := l) k rfl rfl rfl rfl (by omega) fz | refine o1_cs_h (xs := l) k rfl rfl rfl rfl (by omega) (by omega) fz) ?_)
  all_goals (refine xq1 1 rfl rfl rfl rfl rfl (by refine o1_move rfl fz) ?_)
  all_goals (refine xq1 1 rfl rfl rfl rfl rfl (by refine o1_move rfl fz) ?_)
  all_goals (refine xq1 7 rfl rfl rfl rfl rfl (by refine o1_move rfl fz) ?_)
  all_goals (refine xq2 38 39 rfl rfl rfl rfl rfl rfl (by first | refine o1_cs_l (xs := l) k rfl rfl rfl rfl (by omega) fz | refine o1_cs_h (xs := l) k rfl rfl rfl rfl (by omega) (by omega) fz) ?_)
  all_goals refine re_nil ?_
  all_goals first | (refine ch_run (E' := [(31, _), (34, _)]) rfl (gd_r0 rfl) rfl (cov_cons rfl rfl (cov_cons rfl rfl cov_nil)) ?_; (first | (refine ox_append_box (enc := I) (b := b31) (xs := ([] : List Int)) (ys := l.drop k) rfl rfl rfl rfl (rx_any (h.cutl k (by omega))) rfl rfl (fun _ => rfl) (by simp; omega) (by simp; omega) (fun a35 c35 => ?_); rw [Nat.zero_add, List.nil_append]) | (refine ox_appendL (enc := I) (ad := a35) (c := c35) (xs := l.drop k) (ys := l) rfl rfl (rx_any h) rfl (fun _ => rfl) (by simp; omega) (by simp; omega) (fun a37 c37 => ?_)) | (refine ox_appendL (enc := I) (ad := a37) (c := c37) (xs := l.drop k ++ l) (ys := l.take k) rfl rfl (rx_any (h.cuth k (by omega))) rfl (fun _ => rfl) (by simp; omega) (by simp; omega) (fun a41 c41 => ?_)) | refine ox_append rfl rfl (rx_box rfl (by first | decide | omega)) rfl rfl (fun _ => rfl) (by omega) (by omega) (fun _ _ => ?_) | refine ox_append rfl rfl (rx_any (by assumption)) rfl rfl (fun _ => rfl) (by omega) (by omega) (fun _ _ => ?_) | refine ox_append rfl rfl rx_row rfl rfl (fun _ => rfl) (by omega) (by omega) (fun _ _ => ?_)))
  all_goals refine wk_ch ?_
  all_goals refine op_nil ?_
  all_goals (refine xq1 0 rfl rfl rfl rfl rfl (by refine o1_move rfl fz) ?_)
  all_goals (refine xq1 1 rfl rfl rfl rfl rfl (by refine o1_move rfl fz) ?_)
  all_goals (refine xq1 1 rfl rfl rfl rfl rfl (by refine o1_move rfl fz) ?_)
  all_goals (refine xq1 7 rfl rfl rfl rfl rfl (by refine o1_move rfl fz) ?_)
  all_goals (refine xq2 38 39 rfl rfl rfl rfl rfl rfl (by first | refine o1_cs_l (xs := l) k rfl rfl rfl rfl (by omega) fz | refine o1_cs_h (xs := l) k rfl rfl rfl rfl (by omega) (by omega) fz) ?_)
  all_goals refine re_nil ?_
  all_goals first | (refine ch_run (E' := [(35, _), (36, _)]) rfl (gd_r0 rfl) rfl (cov_cons rfl rfl (cov_cons rfl rfl cov_nil)) ?_; (first | (refine ox_append_box (enc := I) (b := b31) (xs := ([] : List Int)) (ys := l.drop k) rfl rfl rfl rfl (rx_any (h.cutl k (by omega))) rfl rfl (fun _ => rfl) (by simp; omega) (by simp; omega) (fun a35 c35 => ?_); rw [Nat.zero_add, List.nil_append]) | (refine ox_appendL (enc := I) (ad := a35) (c := c35) (xs := l.drop k) (ys := l) rfl rfl (rx_any h) rfl (fun _ => rfl) (by simp; omega) (by simp; omega) (fun a37 c37 => ?_)) | (refine ox_appendL (enc := I) (ad := a37) (c := c37) (xs := l.drop k ++ l) (ys := l.take k) rfl rfl (rx_any (h.cuth k (by omega))) rfl (fun _ => rfl) (by simp; omega) (by simp; omega) (fun a41 c41 => ?_)) | refine ox_append rfl rfl (rx_box rfl (by first | decide | omega)) rfl rfl (fun _ => rfl) (by omega) (by omega) (fun _ _ => ?_) | refine ox_append rfl rfl (rx_any (by assumption)) rfl rfl (fun _ => rfl) (by omega) (by omega) (fun _ _ => ?_) | refine ox_append rfl rfl rx_row rfl rfl (fun _ => rfl) (by omega) (by omega) (fun _ _ => ?_)))
  all_goals refine wk_ch ?_
  all_goals refine op_nil ?_
  all_goals (refine xq1 0 rfl rfl rfl rfl rfl (by refine o1_move rfl fz) ?_)
  all_goals (refine xq1 1 rfl rfl rfl rfl rfl (by refine o1_move rfl fz) ?_)
  all_goals (refine xq1 7 rfl rfl rfl rfl rfl (by refine o1_move rfl fz) ?_)
  all_goals (refine xq2 38 39 rfl rfl rfl rfl rfl rfl (by first | refine o1_cs_l (xs := l) k rfl rfl rfl rfl (by omega) fz | refine o1_cs_h (xs := l) k rfl rfl rfl rfl (by omega) (by omega) fz) ?_)
  all_goals refine re_nil ?_
  all_goals first | (refine ch_run (E' := [(37, _), (40, _)]) rfl (gd_r0 rfl) rfl (cov_cons rfl rfl (cov_cons rfl rfl cov_nil)) ?_; (first | (refine ox_append_box (enc := I) (b := b31) (xs := ([] : List Int)) (ys := l.drop k) rfl rfl rfl rfl (rx_any (h.cutl k (by omega))) rfl rfl (fun _ => rfl) (by simp; omega) (by simp; omega) (fun a35 c35 => ?_); rw [Nat.zero_add, List.nil_append]) | (refine ox_appendL (enc := I) (ad := a35) (c := c35) (xs := l.drop k) (ys := l) rfl rfl (rx_any h) rfl (fun _ => rfl) (by simp; omega) (by simp; omega) (fun a37 c37 => ?_)) | (refine ox_appendL (enc := I) (ad := a37) (c := c37) (xs := l.drop k ++ l) (ys := l.take k) rfl rfl (rx_any (h.cuth k (by omega))) rfl (fun _ => rfl) (by simp; omega) (by simp; omega) (fun a41 c41 => ?_)) | refine ox_append rfl rfl (rx_box rfl (by first | decide | omega)) rfl rfl (fun _ => rfl) (by omega) (by omega) (fun _ _ => ?_) | refine ox_append rfl rfl (rx_any (by assumption)) rfl rfl (fun _ => rfl) (by omega) (by omega) (fun _ _ => ?_) | refine ox_append rfl rfl rx_row rfl rfl (fun _ => rfl) (by omega) (by omega) (fun _ _ => ?_)))
  all_goals refine wk_ch ?_
  all_goals refine op_nil ?_
  all_goals (refine xq1 0 rfl rfl rfl rfl rfl (by refine o1_move rfl fz) ?_)
  all_goals refine re_nil ?_
  all_goals first | (refine ch_run (E' := [(30, _), (41, _)]) rfl (gd_r0 rfl) rfl (cov_cons rfl rfl (cov_cons rfl rfl cov_nil)) ?_; (first | (refine o1_call (fun hh => vec_Of _ N a41 c41 ((l.drop k ++ l) ++ l.take k) (by omega) (rx_row hh)) rfl (fun ⟨b9, a9, c9⟩ _ => ?_); dsimp only; rw [hturn])))
  all_goals refine wk_end ?_
  all_goals (refine xp1 42 rfl rfl rfl rfl (by refine o1_assign rfl fz) ?_)
  all_goals refine op_nil ?_
  all_goals refine re_nil ?_
  all_goals dsimp only [List.cons_append, List.nil_append]
  repeat' (first | refine ls_of rfl ?_ | refine ls_of_no ?_ | refine ls_guard_yes rfl rfl ?_ | refine ls_guard_no rfl rfl rfl rfl ?_ | refine ls_guard_un rfl rfl rfl ?_ | refine o1_move rfl ?_ | refine o1_assign rfl ?_ | refine st_seq ?_ | refine st_region ?_ | refine st_block ?_ | refine st_skip ?_ | refine st_ret ?_ | refine st_exit ?_ | refine st_cond_t rfl ?_ | refine st_cond_f rfl ?_ | refine st_cond rfl (fun _ => ?_) (fun _ => ?_) | refine ls_nil ?_ | refine nx_seq ?_ | refine nx_blk ?_ | refine nx_fn ?_ | refine nx_rounds ?_ | refine xt_seq ?_ | refine xt_here ?_ | refine xt_on rfl ?_ | refine xt_rounds ?_ | refine xt_cut ?_ | refine rt_seq ?_ | refine rt_blk ?_ | refine rt_rounds ?_ | refine rt_cut ?_ | (refine o1_call (fun hh => vec_List _ ⟨b7, N, a7, c7, B0⟩ (RdV.own hl0 hN2 hh)) rfl (fun ⟨a45, c45⟩ _ => ?_); dsimp only) | (refine o1_call (fun hh => vec_Of _ N a45 c45 (listV B0) (by omega) (rx_row hh)) rfl (fun ⟨b10, a10, c10⟩ _ => ?_); dsimp only; rw [hback]) | refine o1_call (fun hh => (vec_Same _ ⟨b7, N, a7, c7, B0⟩ ⟨b9, N, a9, c9, B0⟩ (RdV.own hl0 hN2 hh) (RdV.own hl0 hN2 hh)).bv (b := true) (by simp)) rfl (fun _ _ => ?_) | refine o1_call (fun hh => (vec_Same _ ⟨b7, N, a7, c7, B0⟩ ⟨b10, N, a10, c10, B0⟩ (RdV.own hl0 hN2 hh) (RdV.own hl0 hN2 hh)).bv (b := true) (by simp)) rfl (fun _ _ => ?_) | (refine o1_call (fun hh => vec_Count _ ⟨b7, N, a7, c7, B0⟩ (RdV.own hl0 hN2 hh)) rfl (fun _ _ => ?_); dsimp only) | refine o1_eql_t rfl rfl hcl ?_ | refine o1_call (fun _ => awake5 _ ht.up) rfl (fun _ _ => ?_) | refine o1_pick_t rfl rfl ?_ | refine o1_pick_f rfl rfl ?_ | refine o1_len rfl ?_ | refine o1_add rfl rfl (by omega) ?_ | refine o1_gtr_t rfl rfl (by omega) ?_ | refine o1_gtr_f rfl rfl (by omega) ?_ | refine o1_gtr rfl rfl (fun _ => ?_) (fun _ => ?_) | refine o1_eql_t rfl rfl (by omega) ?_ | refine o1_eql_f rfl rfl (by omega) ?_ | refine o1_eql rfl rfl (fun _ => ?_) (fun _ => ?_) | refine o1_conv_i rfl (by omega) ?_ | refine o1_conv_ui rfl (by exact bv_small (by decide) _) ?_ | refine o1_conv_u64 rfl (by omega) ?_ | refine o1_conv_iu rfl ?_ | refine o1_rem_nn rfl rfl (by omega) ?_ | refine o1_lit_B rfl rfl rfl rfl rfl (fun _ => ?_) | refine ox_append rfl rfl (rx_box rfl (by first | decide | omega)) rfl rfl (fun _ => rfl) (by omega) (by omega) (fun _ _ => ?_) | refine ox_append rfl rfl (rx_any (by assumption)) rfl rfl (fun _ => rfl) (by omega) (by omega) (fun _ _ => ?_) | refine ox_append rfl rfl rx_row rfl rfl (fun _ => rfl) (by omega) (by omega) (fun _ _ => ?_))
  refine rt_tmp () rfl rfl rfl trivial ?_
  (try dsimp only [List.cons_append, List.nil_append, List.singleton_append, List.append_nil]); (repeat (first | exact Ent.nil | exact Ent.refl _ | (apply Ent.cons; (repeat (first | exact Sel.here | apply Sel.there)))))
end Go.Dp
