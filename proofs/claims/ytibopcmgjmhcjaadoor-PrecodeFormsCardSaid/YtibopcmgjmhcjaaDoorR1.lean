/-
  rand.mix, the atomic word, rand.New and Next, walked.
  Conditions: those that stand in each theorem.
-/
import Derived.Test.YtibopcmgjmhcjaaDoorR0
import Derived.Test.YtibopcmgjmhcjaaDoorCa
import Derived.Test.YtibopcmgjmhcjaaDoorS0
import Derived.Test.YtibopcmgjmhcjaaDoorTy
set_option linter.unusedVariables false
set_option linter.unusedSimpArgs false
namespace Go.Dp
open Go.RowKit Go.Proofs
def rtR1_0 : List Row := [⟨some 8, [], [], none⟩, ⟨some 9, [0], [0], none⟩, ⟨some 10, [1], [0, 1], none⟩, ⟨some 11, [], [], none⟩, ⟨some 12, [3], [3], none⟩, ⟨some 13, [], [], none⟩, ⟨some 14, [5], [5], none⟩, ⟨some 15, [4, 6], [3, 4, 5, 6], none⟩, ⟨some 16, [7], [3, 4, 5, 6, 7], none⟩, ⟨some 17, [2, 8, 4], [0, 1, 2, 3, 4, 5, 6, 7, 8], none⟩]
theorem xf_load : XFn Tryd.prog 50 (Extern.Atomic.loadT (.int .u32)) := ⟨by kernel_rfl, by kernel_rfl⟩
theorem xf_store : XFn Tryd.prog 48 Extern.Atomic.storeT := ⟨by kernel_rfl, by kernel_rfl⟩
theorem xf_cas : XFn Tryd.prog 49 (Extern.Atomic.casT (.int .u32)) := ⟨by kernel_rfl, by kernel_rfl⟩
abbrev rB (b : Nat) (s : BitVec 32) : Hl := .box b 69 [W4 s]
theorem at_Load (H : List Hl) (b : Nat) (s : BitVec 32) :
    Spec Tryd.prog 42 [.pointer (some ⟨b, 0, none⟩)] (rB b s :: H) (fun _ : Unit => True) (fun _ => W4 s) (fun _ => rB b s :: H) := by
  refine spec_fn (res := fun _ : Unit => [rB b s]) [rB b s] H Tryd.func42 rfl Tryd.ntmps42 (by kernel_rfl) rfl (fun W => ?_)
  dsimp only [List.cons_append, List.nil_append]
  repeat' (first | refine ls_of rfl ?_ | refine ls_of_no ?_ | refine ls_guard_yes rfl rfl ?_ | refine ls_guard_no rfl rfl rfl rfl ?_ | refine ls_guard_un rfl rfl rfl ?_ | refine o1_move rfl ?_ | refine o1_assign rfl ?_ | refine st_seq ?_ | refine st_region ?_ | refine st_block ?_ | refine st_skip ?_ | refine st_ret ?_ | refine st_exit ?_ | refine st_cond_t rfl ?_ | refine st_cond_f rfl ?_ | refine st_cond rfl (fun _ => ?_) (fun _ => ?_) | refine ls_nil ?_ | refine nx_seq ?_ | refine nx_blk ?_ | refine nx_fn ?_ | refine nx_rounds ?_ | refine xt_seq ?_ | refine xt_here ?_ | refine xt_on rfl ?_ | refine xt_rounds ?_ | refine xt_cut ?_ | refine rt_seq ?_ | refine rt_blk ?_ | refine rt_rounds ?_ | refine rt_cut ?_ | refine o1_xload xf_load rfl (b := b) (i := 0) rfl ?_ | refine o1_fieldAddr rfl ?_ | refine o1_nilCheck rfl ?_)
  refine rt_tmp () rfl rfl rfl trivial ?_
  (try dsimp only [List.cons_append, List.nil_append, List.singleton_append, List.append_nil]); (repeat (first | exact Ent.nil | exact Ent.refl _ | (apply Ent.cons; (repeat (first | exact Sel.here | apply Sel.there)))))
theorem at_Store (H : List Hl) (b : Nat) (s x : BitVec 32) :
    Spec Tryd.prog 38 [.pointer (some ⟨b, 0, none⟩), W4 x] (rB b s :: H) (fun _ : Unit => True) (fun _ => .tuple #[]) (fun _ => rB b x :: H) := by
  refine spec_fn (res := fun _ : Unit => [rB b x]) [rB b s] H Tryd.func38 rfl Tryd.ntmps38 (by kernel_rfl) rfl (fun W => ?_)
  dsimp only [List.cons_append, List.nil_append]
  repeat' (first | refine ls_of rfl ?_ | refine ls_of_no ?_ | refine ls_guard_yes rfl rfl ?_ | refine ls_guard_no rfl rfl rfl rfl ?_ | refine ls_guard_un rfl rfl rfl ?_ | refine o1_move rfl ?_ | refine o1_assign rfl ?_ | refine st_seq ?_ | refine st_region ?_ | refine st_block ?_ | refine st_skip ?_ | refine st_ret ?_ | refine st_exit ?_ | refine st_cond_t rfl ?_ | refine st_cond_f rfl ?_ | refine st_cond rfl (fun _ => ?_) (fun _ => ?_) | refine ls_nil ?_ | refine nx_seq ?_ | refine nx_blk ?_ | refine nx_fn ?_ | refine nx_rounds ?_ | refine xt_seq ?_ | refine xt_here ?_ | refine xt_on rfl ?_ | refine xt_rounds ?_ | refine xt_cut ?_ | refine rt_seq ?_ | refine rt_blk ?_ | refine rt_rounds ?_ | refine rt_cut ?_ | refine o1_xstore xf_store rfl (b := b) (i := 0) (by simp) ?_ | refine o1_fieldAddr rfl ?_ | refine o1_nilCheck rfl ?_)
  refine rt_none () rfl rfl trivial ?_
  (try dsimp only [List.cons_append, List.nil_append, List.singleton_append, List.append_nil]); (repeat (first | exact Ent.nil | exact Ent.refl _ | (apply Ent.cons; (repeat (first | exact Sel.here | apply Sel.there)))))
theorem nzR_eq (s : BitVec 32) : (s = 0#32 ∧ nzR s = 1#32) ∨ (¬ (s.toNat : Int) = 0 ∧ s ≠ 0#32 ∧ nzR s = s) := by
  by_cases h : s = 0#32
  · exact .inl ⟨h, by simp [nzR, h]⟩
  · refine .inr ⟨fun e => h (BitVec.eq_of_toNat_eq ?_), h, by simp [nzR, h]⟩
    simp; omega
theorem at_CAS (H : List Hl) (b : Nat) (s : BitVec 32) :
    Spec Tryd.prog 41 [.pointer (some ⟨b, 0, none⟩), .int .u32 0, .int .u32 1] (rB b s :: H) (fun _ : Unit => True) (fun _ => .bool (decide (s = 0#32))) (fun _ => rB b (nzR s) :: H) := by
  refine spec_fn (res := fun _ : Unit => [rB b (nzR s)]) [rB b s] H Tryd.func41 rfl Tryd.ntmps41 (by kernel_rfl) rfl (fun W => ?_)
  dsimp only [List.cons_append, List.nil_append]
  rcases nzR_eq s with ⟨h, e⟩ | ⟨h, h2, e⟩
  · rw [e]
    subst h
    repeat' (first | refine ls_of rfl ?_ | refine ls_of_no ?_ | refine ls_guard_yes rfl rfl ?_ | refine ls_guard_no rfl rfl rfl rfl ?_ | refine ls_guard_un rfl rfl rfl ?_ | refine o1_move rfl ?_ | refine o1_assign rfl ?_ | refine st_seq ?_ | refine st_region ?_ | refine st_block ?_ | refine st_skip ?_ | refine st_ret ?_ | refine st_exit ?_ | refine st_cond_t rfl ?_ | refine st_cond_f rfl ?_ | refine st_cond rfl (fun _ => ?_) (fun _ => ?_) | refine ls_nil ?_ | refine nx_seq ?_ | refine nx_blk ?_ | refine nx_fn ?_ | refine nx_rounds ?_ | refine xt_seq ?_ | refine xt_here ?_ | refine xt_on rfl ?_ | refine xt_rounds ?_ | refine xt_cut ?_ | refine rt_seq ?_ | refine rt_blk ?_ | refine rt_rounds ?_ | refine rt_cut ?_ | refine o1_xcas_t xf_cas rfl (b := b) (i := 0) rfl ?_ | refine o1_fieldAddr rfl ?_ | refine o1_nilCheck rfl ?_)
    refine rt_tmp () rfl rfl rfl trivial ?_
    (try dsimp only [List.cons_append, List.nil_append, List.singleton_append, List.append_nil]); (repeat (first | exact Ent.nil | exact Ent.refl _ | (apply Ent.cons; (repeat (first | exact Sel.here | apply Sel.there)))))
  · rw [e]
    repeat' (first | refine ls_of rfl ?_ | refine ls_of_no ?_ | refine ls_guard_yes rfl rfl ?_ | refine ls_guard_no rfl rfl rfl rfl ?_ | refine ls_guard_un rfl rfl rfl ?_ | refine o1_move rfl ?_ | refine o1_assign rfl ?_ | refine st_seq ?_ | refine st_region ?_ | refine st_block ?_ | refine st_skip ?_ | refine st_ret ?_ | refine st_exit ?_ | refine st_cond_t rfl ?_ | refine st_cond_f rfl ?_ | refine st_cond rfl (fun _ => ?_) (fun _ => ?_) | refine ls_nil ?_ | refine nx_seq ?_ | refine nx_blk ?_ | refine nx_fn ?_ | refine nx_rounds ?_ | refine xt_seq ?_ | refine xt_here ?_ | refine xt_on rfl ?_ | refine xt_rounds ?_ | refine xt_cut ?_ | refine rt_seq ?_ | refine rt_blk ?_ | refine rt_rounds ?_ | refine rt_cut ?_ | refine o1_xcas_f xf_cas rfl (b := b) (i := 0) rfl h ?_ | refine o1_fieldAddr rfl ?_ | refine o1_nilCheck rfl ?_)
    refine rt_tmp () rfl rfl (by simp [h2]) trivial ?_
    (try dsimp only [List.cons_append, List.nil_append, List.singleton_append, List.append_nil]); (repeat (first | exact Ent.nil | exact Ent.refl _ | (apply Ent.cons; (repeat (first | exact Sel.here | apply Sel.there)))))
theorem rand_mix (H : List Hl) (x : BitVec 32) :
    Spec Tryd.prog 39 [W4 x] H (fun _ : Unit => True) (fun _ => W4 (mixR x)) (fun _ => H) := by
  refine spec_pure (res := fun _ => []) H Tryd.func39 rfl Tryd.ntmps39 (by kernel_rfl) rfl (fun W => ?_)
  have k1 : ∀ x : BitVec 32, (x ^^^ (x >>> (16 : Int).toNat)) * 0x7feb352d#32 = mixA x := fun _ => rfl
  have k2 : ∀ x : BitVec 32, (x ^^^ (x >>> (15 : Int).toNat)) * 0x846ca68b#32 = mixB x := fun _ => rfl
  have k3 : mixB (mixA x) ^^^ (mixB (mixA x) >>> (16 : Int).toNat) = mixR x := rfl
  repeat' (first | refine ls_of rfl ?_ | refine ls_of_no ?_ | refine ls_guard_yes rfl rfl ?_ | refine ls_guard_no rfl rfl rfl rfl ?_ | refine ls_guard_un rfl rfl rfl ?_ | refine o1_move rfl ?_ | refine o1_assign rfl ?_ | refine st_seq ?_ | refine st_region ?_ | refine st_block ?_ | refine st_skip ?_ | refine st_ret ?_ | refine st_exit ?_ | refine st_cond_t rfl ?_ | refine st_cond_f rfl ?_ | refine st_cond rfl (fun _ => ?_) (fun _ => ?_) | refine ls_nil ?_ | refine nx_seq ?_ | refine nx_blk ?_ | refine nx_fn ?_ | refine nx_rounds ?_ | refine xt_seq ?_ | refine xt_here ?_ | refine xt_on rfl ?_ | refine xt_rounds ?_ | refine xt_cut ?_ | refine rt_seq ?_ | refine rt_blk ?_ | refine rt_rounds ?_ | refine rt_cut ?_ | (refine o1_umul (v := 0x7feb352d#32) rfl rfl ?_; rw [k1]) | (refine o1_umul (v := 0x846ca68b#32) rfl rfl ?_; rw [k2]) | (refine o1_uxor rfl rfl ?_; rw [k3]) | refine o1_uxor rfl rfl ?_ | refine o1_umul rfl rfl ?_ | refine o1_ushr rfl rfl (by omega) ?_)
  refine rt_tmp () rfl rfl rfl trivial ?_
  (try dsimp only [List.cons_append, List.nil_append, List.singleton_append, List.append_nil]); (repeat (first | exact Ent.nil | exact Ent.refl _ | (apply Ent.cons; (repeat (first | exact Sel.here | apply Sel.there)))))
theorem rand_New (H : List Hl) (a c : BitVec 32) :
    Spec Tryd.prog 14 [W4 a, W4 c] H (fun _ : Nat => True) (fun b => .pointer (some ⟨b, 0, none⟩)) (fun b => rB b (srcNew a c) :: H) := by
  refine spec_pure (res := fun b : Nat => [rB b (srcNew a c)]) H Tryd.func14 rfl Tryd.ntmps14 (by kernel_rfl) rfl (fun W => ?_)
  repeat' (first | refine ls_of rfl ?_ | refine ls_of_no ?_ | refine ls_guard_yes rfl rfl ?_ | refine ls_guard_no rfl rfl rfl rfl ?_ | refine ls_guard_un rfl rfl rfl ?_ | refine o1_move rfl ?_ | refine o1_assign rfl ?_ | refine st_seq ?_ | refine st_region ?_ | refine st_block ?_ | refine st_skip ?_ | refine st_ret ?_ | refine st_exit ?_ | refine st_cond_t rfl ?_ | refine st_cond_f rfl ?_ | refine st_cond rfl (fun _ => ?_) (fun _ => ?_) | refine ls_nil ?_ | refine nx_seq ?_ | refine nx_blk ?_ | refine nx_fn ?_ | refine nx_rounds ?_ | refine xt_seq ?_ | refine xt_here ?_ | refine xt_on rfl ?_ | refine xt_rounds ?_ | refine xt_cut ?_ | refine rt_seq ?_ | refine rt_blk ?_ | refine rt_rounds ?_ | refine rt_cut ?_ | refine o1_box rfl rfl (fun b1 => ?_) | refine o1_fieldAddr rfl ?_ | refine o1_box rfl rfl (fun _ => ?_) | refine o1_uadd rfl rfl ?_ | refine o1_umul rfl rfl ?_ | refine o1_buildx rfl (by simp only [buildL, putL, List.set_cons_zero, List.set_cons_succ, List.getElem?_cons_zero, List.getElem?_cons_succ, Option.getD_some, Value.cells, Nat.zero_add, Nat.reduceAdd]; rfl) (fun _ => by kernel_rfl) ?_ | refine o1_nilCheck rfl ?_)
  refine st_stages [(5, _), (0, _), (1, _)] rtR1_0 [9] [⟨[0, 1, 2, 3, 4, 5, 6, 7, 8], [], some 9⟩, ⟨[], [], none⟩] mixed (cov_cons rfl rfl (cov_cons rfl rfl (cov_cons rfl rfl cov_nil))) (by kernel_rfl) (by kernel_rfl) ?_
  all_goals refine wk_ch ?_
  all_goals (refine xp1 5 rfl rfl rfl rfl (by refine o1_move rfl fz) ?_)
  all_goals (refine xp1 8 rfl rfl rfl rfl (by refine o1_nilCheck rfl fz) ?_)
  all_goals (refine xp1 9 rfl rfl rfl rfl (by refine o1_fieldAddr rfl fz) ?_)
  all_goals (refine xp1 0 rfl rfl rfl rfl (by refine o1_move rfl fz) ?_)
  all_goals (refine xp1 11 rfl rfl rfl rfl (by refine o1_call (fun _ => rand_mix _ a) rfl (fun _ _ => fz)) ?_)
  all_goals (refine xp1 1 rfl rfl rfl rfl (by refine o1_move rfl fz) ?_)
  all_goals (refine xp1 13 rfl rfl rfl rfl (by first | refine o1_umul (v := 0x9e3779b9#32) rfl rfl fz | refine o1_umul rfl rfl fz) ?_)
  all_goals (refine xp2 12 14 rfl rfl rfl rfl rfl (by first | refine o1_uadd (v := 1#32) rfl rfl fz | refine o1_uadd rfl rfl fz) ?_)
  all_goals (refine xp1 15 rfl rfl rfl rfl (by first | refine o1_uadd (v := 1#32) rfl rfl fz | refine o1_uadd rfl rfl fz) ?_)
  all_goals refine op_nil ?_
  all_goals refine re_nil ?_
  all_goals first | (refine ch_run (E' := [(10, _), (16, _)]) rfl (gd_r0 rfl) rfl (cov_cons rfl rfl (cov_cons rfl rfl cov_nil)) ?_; (first | (refine o1_call_box (b := b1) (fun _ => at_Store _ b1 0#32 (mixR a + c * 0x9e3779b9#32 + 1#32)) rfl (fun _ _ => ?_))))
  all_goals refine wk_end ?_
  all_goals refine op_nil ?_
  all_goals refine re_nil ?_
  all_goals dsimp only [List.cons_append, List.nil_append]
  repeat' (first | refine ls_of rfl ?_ | refine ls_of_no ?_ | refine ls_guard_yes rfl rfl ?_ | refine ls_guard_no rfl rfl rfl rfl ?_ | refine ls_guard_un rfl rfl rfl ?_ | refine o1_move rfl ?_ | refine o1_assign rfl ?_ | refine st_seq ?_ | refine st_region ?_ | refine st_block ?_ | refine st_skip ?_ | refine st_ret ?_ | refine st_exit ?_ | refine st_cond_t rfl ?_ | refine st_cond_f rfl ?_ | refine st_cond rfl (fun _ => ?_) (fun _ => ?_) | refine ls_nil ?_ | refine nx_seq ?_ | refine nx_blk ?_ | refine nx_fn ?_ | refine nx_rounds ?_ | refine xt_seq ?_ | refine xt_here ?_ | refine xt_on rfl ?_ | refine xt_rounds ?_ | refine xt_cut ?_ | refine rt_seq ?_ | refine rt_blk ?_ | refine rt_rounds ?_ | refine rt_cut ?_ | refine o1_fieldAddr rfl ?_ | refine o1_box rfl rfl (fun _ => ?_) | refine o1_uadd rfl rfl ?_ | refine o1_umul rfl rfl ?_ | refine o1_buildx rfl (by simp only [buildL, putL, List.set_cons_zero, List.set_cons_succ, List.getElem?_cons_zero, List.getElem?_cons_succ, Option.getD_some, Value.cells, Nat.zero_add, Nat.reduceAdd]; rfl) (fun _ => by kernel_rfl) ?_ | refine o1_nilCheck rfl ?_)
  refine rt_tmp b1 rfl rfl rfl trivial ?_
  (try dsimp only [List.cons_append, List.nil_append, List.singleton_append, List.append_nil]); (repeat (first | exact Ent.nil | exact Ent.refl _ | (apply Ent.cons; (repeat (first | exact Sel.here | apply Sel.there)))))
theorem rand_Next (H : List Hl) (b : Nat) (s : BitVec 32) :
    Spec Tryd.prog 16 [.pointer (some ⟨b, 0, none⟩)] (rB b s :: H) (fun _ : Unit => True) (fun _ => W4 (mixR (srcNx s))) (fun _ => rB b (srcNx s) :: H) := by
  refine spec_fn (res := fun _ : Unit => [rB b (srcNx s)]) [rB b s] H Tryd.func16 rfl Tryd.ntmps16 (by kernel_rfl) rfl (fun W => ?_)
  dsimp only [List.cons_append, List.nil_append]
  have k1 : ∀ x : BitVec 32, x ^^^ (x <<< (13 : Int).toNat) = stepA x := fun _ => rfl
  have k2 : ∀ x : BitVec 32, x ^^^ (x >>> (17 : Int).toNat) = stepB x := fun _ => rfl
  have k3 : ∀ x : BitVec 32, x ^^^ (x <<< (5 : Int).toNat) = stepC x := fun _ => rfl
  have k4 : stepC (stepB (stepA (nzR s))) = srcNx s := rfl
  repeat' (first | refine ls_of rfl ?_ | refine ls_of_no ?_ | refine ls_guard_yes rfl rfl ?_ | refine ls_guard_no rfl rfl rfl rfl ?_ | refine ls_guard_un rfl rfl rfl ?_ | refine o1_move rfl ?_ | refine o1_assign rfl ?_ | refine st_seq ?_ | refine st_region ?_ | refine st_block ?_ | refine st_skip ?_ | refine st_ret ?_ | refine st_exit ?_ | refine st_cond_t rfl ?_ | refine st_cond_f rfl ?_ | refine st_cond rfl (fun _ => ?_) (fun _ => ?_) | refine ls_nil ?_ | refine nx_seq ?_ | refine nx_blk ?_ | refine nx_fn ?_ | refine nx_rounds ?_ | refine xt_seq ?_ | refine xt_here ?_ | refine xt_on rfl ?_ | refine xt_rounds ?_ | refine xt_cut ?_ | refine rt_seq ?_ | refine rt_blk ?_ | refine rt_rounds ?_ | refine rt_cut ?_ | refine o1_peql rfl rfl ?_ | refine o1_call_box (b := b) (fun _ => at_CAS _ b s) rfl (fun _ _ => ?_) | refine o1_call_box (b := b) (fun _ => at_Load _ b (nzR s)) rfl (fun _ _ => ?_) | (refine o1_uxor rfl rfl ?_; rw [k1]) | (refine o1_uxor rfl rfl ?_; rw [k2]) | (refine o1_uxor rfl rfl ?_; rw [k3, k4]) | refine o1_call_box (b := b) (fun _ => at_Store _ b (nzR s) (srcNx s)) rfl (fun _ _ => ?_) | refine o1_call (fun _ => rand_mix _ (srcNx s)) rfl (fun _ _ => ?_) | refine o1_fieldAddr rfl ?_ | refine o1_uxor rfl rfl ?_ | refine o1_ushl rfl rfl (by omega) ?_ | refine o1_ushr rfl rfl (by omega) ?_ | refine o1_slice_nil rfl ?_ | refine o1_nilCheck rfl ?_)
  refine rt_tmp () rfl rfl rfl trivial ?_
  (try dsimp only [List.cons_append, List.nil_append, List.singleton_append, List.append_nil]); (repeat (first | exact Ent.nil | exact Ent.refl _ | (apply Ent.cons; (repeat (first | exact Sel.here | apply Sel.there)))))
end Go.Dp
