/-
  state.sameSlot and state.Same, walked.
  Conditions: those that stand in each theorem.
-/
import Derived.Test.YtajlpalgcdiplaaE3
set_option linter.unusedVariables false
set_option linter.unusedSimpArgs false
namespace Go.Dp
open Go.RowKit Go.Proofs
def SlotD.same (x y : SlotD) : Bool := decide ((x.v.toNat : Int) = (y.v.toNat : Int)) && (decide (x.n = y.n) && decide (x.h.l = y.h.l))
/-- Facts of what is read. -/
abbrev RdS (A : Hp → Prop) (h : SlD (BitVec 8)) : Prop := Rs A B h.ad h.cap h.l
structure StD.Rd (A : Hp → Prop) (x : StD) : Prop where
  s0 : RdS A x.s0.h
  s1 : RdS A x.s1.h
  m : RdS A x.m.h
theorem st_sameSlot (H : List Hl) (x y : SlotD) (hx : RdS (stars H) x.h) (hy : RdS (stars H) y.h) : Spec Try.prog 47 [x.V, y.V] H (fun _ : Unit => True) (fun _ => .bool (x.same y)) (fun _ => H) := by
  refine spec_pure (res := fun _ => []) H Try.func47 rfl Try.ntmps47 (by kernel_rfl) rfl (fun W => ?_)
  repeat' (first | refine ls_of rfl ?_ | refine ls_of_no ?_ | refine ls_guard_yes rfl rfl ?_ | refine ls_guard_no rfl rfl rfl rfl ?_ | refine ls_guard_un rfl rfl rfl ?_ | refine o1_move rfl ?_ | refine o1_assign rfl ?_ | refine st_seq ?_ | refine st_region ?_ | refine st_block ?_ | refine st_skip ?_ | refine st_ret ?_ | refine st_exit ?_ | refine st_cond_t rfl ?_ | refine st_cond_f rfl ?_ | refine st_cond rfl (fun _ => ?_) (fun _ => ?_) | refine ls_nil ?_ | refine nx_seq ?_ | refine nx_blk ?_ | refine nx_fn ?_ | refine nx_rounds ?_ | refine xt_seq ?_ | refine xt_here ?_ | refine xt_on rfl ?_ | refine xt_rounds ?_ | refine xt_cut ?_ | refine rt_seq ?_ | refine rt_blk ?_ | refine rt_rounds ?_ | refine rt_cut ?_ | refine o1_call (fun _ => slices_Equal _ _ _ _ _ x.h.l y.h.l (Rs.up hx) (Rs.up hy)) rfl (fun _ _ => ?_) | refine o1_pick_t rfl rfl ?_ | refine o1_pick_f rfl rfl ?_ | refine o1_fieldAddr rfl ?_ | refine ox_load rfl (by rfl) ?_ | refine ox_load_enc rfl (by first | omega | (simp; omega)) ?_ | refine ox_load_any rfl (by assumption) ?_ | refine o1_box rfl rfl (fun _ => ?_) | refine o1_eql_t rfl rfl (by omega) ?_ | refine o1_eql_f rfl rfl (by omega) ?_ | refine o1_eql rfl rfl (fun _ => ?_) (fun _ => ?_))
  all_goals (refine rt_tmp () rfl rfl ?_ trivial ?_; · simp only [SlotD.same, *]; first | rfl | simp | (simp; done))
  all_goals (try dsimp only [List.cons_append, List.nil_append, List.singleton_append, List.append_nil]); (repeat (first | exact Ent.nil | exact Ent.refl _ | (apply Ent.cons; (repeat (first | exact Sel.here | apply Sel.there)))))
def StD.same (x y : StD) : Bool := decide (x.a = y.a) && (decide (x.t = y.t) && (decide ((x.f.toNat : Int) = (y.f.toNat : Int)) && (decide ((x.g.toNat : Int) = (y.g.toNat : Int)) && ((x.on == y.on) && (x.s0.same y.s0 && (x.s1.same y.s1 && x.m.same y.m))))))
set_option maxHeartbeats 2000000 in
theorem st_Same (H : List Hl) (x y : StD) (hx : x.Rd (stars H)) (hy : y.Rd (stars H)) : Spec Try.prog 17 [x.V, y.V] H (fun _ : Unit => True) (fun _ => .bool (x.same y)) (fun _ => H) := by
  refine spec_pure (res := fun _ => []) H Try.func17 rfl Try.ntmps17 (by kernel_rfl) rfl (fun W => ?_)
  have e0 := hx.s0
  have e1 := hx.s1
  have e2 := hx.m
  have f0 := hy.s0
  have f1 := hy.s1
  have f2 := hy.m
  repeat' (first | refine ls_of rfl ?_ | refine ls_of_no ?_ | refine ls_guard_yes rfl rfl ?_ | refine ls_guard_no rfl rfl rfl rfl ?_ | refine ls_guard_un rfl rfl rfl ?_ | refine o1_move rfl ?_ | refine o1_assign rfl ?_ | refine st_seq ?_ | refine st_region ?_ | refine st_block ?_ | refine st_skip ?_ | refine st_ret ?_ | refine st_exit ?_ | refine st_cond_t rfl ?_ | refine st_cond_f rfl ?_ | refine st_cond rfl (fun _ => ?_) (fun _ => ?_) | refine ls_nil ?_ | refine nx_seq ?_ | refine nx_blk ?_ | refine nx_fn ?_ | refine nx_rounds ?_ | refine xt_seq ?_ | refine xt_here ?_ | refine xt_on rfl ?_ | refine xt_rounds ?_ | refine xt_cut ?_ | refine rt_seq ?_ | refine rt_blk ?_ | refine rt_rounds ?_ | refine rt_cut ?_ | refine ox_idx_arr 0 4 rfl rfl rfl (by decide) rfl ?_ | refine ox_idx_arr 1 7 rfl rfl rfl (by decide) rfl ?_ | (refine o1_eqb rfl rfl ?_; cases hon : (x.on == y.on)) | (refine o1_call (fun _ => st_sameSlot _ x.s0 y.s0 (Rs.up e0) (Rs.up f0)) rfl (fun _ _ => ?_); cases hs0 : x.s0.same y.s0) | (refine o1_call (fun _ => st_sameSlot _ x.s1 y.s1 (Rs.up e1) (Rs.up f1)) rfl (fun _ _ => ?_); cases hs1 : x.s1.same y.s1) | refine o1_call (fun _ => mf_Same _ x.m y.m (Rs.up e2) (Rs.up f2)) rfl (fun _ _ => ?_) | refine o1_pick_t rfl rfl ?_ | refine o1_pick_f rfl rfl ?_ | refine o1_fieldAddr rfl ?_ | refine ox_load rfl (by rfl) ?_ | refine ox_load_enc rfl (by first | omega | (simp; omega)) ?_ | refine ox_load_any rfl (by assumption) ?_ | refine o1_box rfl rfl (fun _ => ?_) | refine o1_eql_t rfl rfl (by omega) ?_ | refine o1_eql_f rfl rfl (by omega) ?_ | refine o1_eql rfl rfl (fun _ => ?_) (fun _ => ?_) | refine o1_eqb rfl rfl ?_ | refine ox_load_agg rfl (by simp only [Nat.zero_add, Nat.reduceAdd, List.drop_zero, List.drop_succ_cons, List.take_succ_cons, List.take_zero]; rfl) (by rfl) ?_)
  all_goals (refine rt_tmp () rfl rfl ?_ trivial ?_; · simp only [StD.same, *]; first | rfl | simp | (simp; done))
  all_goals (try dsimp only [List.cons_append, List.nil_append, List.singleton_append, List.append_nil]); (repeat (first | exact Ent.nil | exact Ent.refl _ | (apply Ent.cons; (repeat (first | exact Sel.here | apply Sel.there)))))
theorem SlotD.same_self (x : SlotD) : x.same x = true := by simp [SlotD.same]
theorem ManD.same_self (x : ManD) : x.same x = true := by simp [ManD.same]
theorem StD.same_self (x : StD) : x.same x = true := by simp [StD.same, SlotD.same_self, ManD.same_self]
end Go.Dp
