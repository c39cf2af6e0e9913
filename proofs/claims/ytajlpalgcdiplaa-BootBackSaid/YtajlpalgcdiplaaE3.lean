/-
  session.Newer, Heavy, manifest.Same, slices.Clone, First, good, walked.
  Conditions: those that stand in each theorem.
-/
import Derived.Test.YtajlpalgcdiplaaE2
import Derived.Test.YtajlpalgcdiplaaT2
set_option linter.unusedVariables false
set_option linter.unusedSimpArgs false
namespace Go.Dp
open Go.RowKit Go.Proofs
theorem slices_Clone (H : List Hl) (ad : Option Addr) (c : Nat) (l : List (BitVec 8)) (h : Rs (stars H) B ad c l) (hb : l.length ≤ 140737488355328) :
    Spec Try.prog 60 [.slice ad l.length c] H (fun _ : Option Addr × Nat => True) (fun r : Option Addr × Nat => .slice r.1 l.length r.2)
      (fun r : Option Addr × Nat => .row 5 1 (.slice r.1 l.length r.2) l.length (l.map B) :: H) := by
  refine spec_pure (res := fun r : Option Addr × Nat => [.row 5 1 (.slice r.1 l.length r.2) l.length (l.map B)]) H Try.func60 rfl Try.ntmps60 (by kernel_rfl) rfl (fun W => ?_)
  cases ad with
  | none =>
    have hl : l = [] := by
      cases l with
      | nil => rfl
      | cons a l => obtain ⟨x, hx⟩ := h.sm (by simp); cases hx
    subst hl
    repeat' (first | refine ls_of rfl ?_ | refine ls_of_no ?_ | refine ls_guard_yes rfl rfl ?_ | refine ls_guard_no rfl rfl rfl rfl ?_ | refine ls_guard_un rfl rfl rfl ?_ | refine o1_move rfl ?_ | refine o1_assign rfl ?_ | refine st_seq ?_ | refine st_region ?_ | refine st_block ?_ | refine st_skip ?_ | refine st_ret ?_ | refine st_exit ?_ | refine st_cond_t rfl ?_ | refine st_cond_f rfl ?_ | refine st_cond rfl (fun _ => ?_) (fun _ => ?_) | refine ls_nil ?_ | refine nx_seq ?_ | refine nx_blk ?_ | refine nx_fn ?_ | refine nx_rounds ?_ | refine xt_seq ?_ | refine xt_here ?_ | refine xt_on rfl ?_ | refine xt_rounds ?_ | refine xt_cut ?_ | refine rt_seq ?_ | refine rt_blk ?_ | refine rt_rounds ?_ | refine rt_cut ?_ | refine o1_slice_nil rfl ?_ | refine o1_lit_B rfl rfl rfl rfl rfl (fun _ => ?_) | refine ox_append rfl rfl (rx_box rfl (by first | decide | omega)) rfl rfl (fun _ => rfl) (by omega) (by omega) (fun _ _ => ?_) | refine ox_append rfl rfl (rx_any (by assumption)) rfl rfl (fun _ => rfl) (by omega) (by omega) (fun _ _ => ?_) | refine ox_append rfl rfl rx_row rfl rfl (fun _ => rfl) (by omega) (by omega) (fun _ _ => ?_))
    refine (rt_ent (ent_nil 5 B) ?_)
    refine rt_tmp (none, 0) rfl rfl rfl trivial ?_
    (try dsimp only [List.cons_append, List.nil_append, List.singleton_append, List.append_nil]); (repeat (first | exact Ent.nil | exact Ent.refl _ | (apply Ent.cons; (repeat (first | exact Sel.here | apply Sel.there)))))
  | some a =>
    repeat' (first | refine ls_of rfl ?_ | refine ls_of_no ?_ | refine ls_guard_yes rfl rfl ?_ | refine ls_guard_no rfl rfl rfl rfl ?_ | refine ls_guard_un rfl rfl rfl ?_ | refine o1_move rfl ?_ | refine o1_assign rfl ?_ | refine st_seq ?_ | refine st_region ?_ | refine st_block ?_ | refine st_skip ?_ | refine st_ret ?_ | refine st_exit ?_ | refine st_cond_t rfl ?_ | refine st_cond_f rfl ?_ | refine st_cond rfl (fun _ => ?_) (fun _ => ?_) | refine ls_nil ?_ | refine nx_seq ?_ | refine nx_blk ?_ | refine nx_fn ?_ | refine nx_rounds ?_ | refine xt_seq ?_ | refine xt_here ?_ | refine xt_on rfl ?_ | refine xt_rounds ?_ | refine xt_cut ?_ | refine rt_seq ?_ | refine rt_blk ?_ | refine rt_rounds ?_ | refine rt_cut ?_ | refine ox_append_box (xs := ([] : List (BitVec 8))) rfl rfl rfl rfl (rx_any h) rfl rfl (fun _ => rfl) (by omega) (by have := h.le; have := h.big; omega) (fun _ _ => ?_) | refine o1_slice_nil rfl ?_ | refine o1_lit_B rfl rfl rfl rfl rfl (fun _ => ?_) | refine ox_append rfl rfl (rx_box rfl (by first | decide | omega)) rfl rfl (fun _ => rfl) (by omega) (by omega) (fun _ _ => ?_) | refine ox_append rfl rfl (rx_any (by assumption)) rfl rfl (fun _ => rfl) (by omega) (by omega) (fun _ _ => ?_) | refine ox_append rfl rfl rx_row rfl rfl (fun _ => rfl) (by omega) (by omega) (fun _ _ => ?_))
    refine rt_tmp (_, _) rfl rfl (by simp only [Nat.zero_add]; rfl) trivial ?_
    simp only [Nat.zero_add, List.nil_append]
    (try dsimp only [List.cons_append, List.nil_append, List.singleton_append, List.append_nil]); (repeat (first | exact Ent.nil | exact Ent.refl _ | (apply Ent.cons; (repeat (first | exact Sel.here | apply Sel.there)))))
def StD.newer (x : StD) (v : BitVec 32) : Bool := x.may && (decide (x.f.toNat < v.toNat) && (decide (x.cur.v.toNat < v.toNat) && (!x.on || decide (x.m.v.toNat < v.toNat))))
theorem StD.may_a {x : StD} (h : x.may = true) : x.a = 0 ∨ x.a = 1 := by
  simp only [StD.may, Bool.and_eq_true, decide_eq_true_eq] at h
  exact h.1.1.1.1
def StD.light (x : StD) : Prop := x.s0.h.l.length ≤ 100 ∧ x.s1.h.l.length ≤ 100 ∧ x.m.h.l.length ≤ 100
theorem st_Heavy_yes (H : List Hl) (x : StD) (h : ¬ x.light) : Spec Try.prog 13 [x.V] H (fun _ : Unit => True) (fun _ => I 1) (fun _ => H) := by
  refine spec_pure (res := fun _ => []) H Try.func13 rfl Try.ntmps13 (by kernel_rfl) rfl (fun W => ?_)
  obtain ⟨a, t, f, g, ⟨v0, n0, h0⟩, ⟨v1, n1, h1⟩, on, ⟨ms, mv, mn, mz, mp, mh⟩⟩ := x
  dsimp only [StD.light] at h
  dsimp only [StD.V, StD.c]
  repeat' (first | refine ls_of rfl ?_ | refine ls_of_no ?_ | refine ls_guard_yes rfl rfl ?_ | refine ls_guard_no rfl rfl rfl rfl ?_ | refine ls_guard_un rfl rfl rfl ?_ | refine o1_move rfl ?_ | refine o1_assign rfl ?_ | refine st_seq ?_ | refine st_region ?_ | refine st_block ?_ | refine st_skip ?_ | refine st_ret ?_ | refine st_exit ?_ | refine st_cond_t rfl ?_ | refine st_cond_f rfl ?_ | refine st_cond rfl (fun _ => ?_) (fun _ => ?_) | refine ls_nil ?_ | refine nx_seq ?_ | refine nx_blk ?_ | refine nx_fn ?_ | refine nx_rounds ?_ | refine xt_seq ?_ | refine xt_here ?_ | refine xt_on rfl ?_ | refine xt_rounds ?_ | refine xt_cut ?_ | refine rt_seq ?_ | refine rt_blk ?_ | refine rt_rounds ?_ | refine rt_cut ?_ | refine ox_idx_arr 0 4 rfl rfl rfl (by decide) rfl ?_ | refine ox_idx_arr 1 7 rfl rfl rfl (by decide) rfl ?_ | refine o1_pick_t rfl rfl ?_ | refine o1_pick_f rfl rfl ?_ | refine o1_fieldAddr rfl ?_ | refine ox_load rfl (by rfl) ?_ | refine ox_load_enc rfl (by first | omega | (simp; omega)) ?_ | refine ox_load_any rfl (by assumption) ?_ | refine o1_box rfl rfl (fun _ => ?_) | refine o1_len rfl ?_ | refine o1_gtr_t rfl rfl (by omega) ?_ | refine o1_gtr_f rfl rfl (by omega) ?_ | refine o1_gtr rfl rfl (fun _ => ?_) (fun _ => ?_))
  all_goals (refine rt_tmp () rfl rfl ?_ trivial ?_; · first | rfl | (exfalso; omega))
  all_goals (try dsimp only [List.cons_append, List.nil_append, List.singleton_append, List.append_nil]); (repeat (first | exact Ent.nil | exact Ent.refl _ | (apply Ent.cons; (repeat (first | exact Sel.here | apply Sel.there)))))
theorem st_Heavy_no (H : List Hl) (x : StD) (h : x.light) : Spec Try.prog 13 [x.V] H (fun _ : Unit => True) (fun _ => I 0) (fun _ => H) := by
  refine spec_pure (res := fun _ => []) H Try.func13 rfl Try.ntmps13 (by kernel_rfl) rfl (fun W => ?_)
  obtain ⟨a, t, f, g, ⟨v0, n0, h0⟩, ⟨v1, n1, h1⟩, on, ⟨ms, mv, mn, mz, mp, mh⟩⟩ := x
  dsimp only [StD.light] at h
  obtain ⟨q1, q2, q3⟩ := h
  dsimp only [StD.V, StD.c]
  repeat' (first | refine ls_of rfl ?_ | refine ls_of_no ?_ | refine ls_guard_yes rfl rfl ?_ | refine ls_guard_no rfl rfl rfl rfl ?_ | refine ls_guard_un rfl rfl rfl ?_ | refine o1_move rfl ?_ | refine o1_assign rfl ?_ | refine st_seq ?_ | refine st_region ?_ | refine st_block ?_ | refine st_skip ?_ | refine st_ret ?_ | refine st_exit ?_ | refine st_cond_t rfl ?_ | refine st_cond_f rfl ?_ | refine st_cond rfl (fun _ => ?_) (fun _ => ?_) | refine ls_nil ?_ | refine nx_seq ?_ | refine nx_blk ?_ | refine nx_fn ?_ | refine nx_rounds ?_ | refine xt_seq ?_ | refine xt_here ?_ | refine xt_on rfl ?_ | refine xt_rounds ?_ | refine xt_cut ?_ | refine rt_seq ?_ | refine rt_blk ?_ | refine rt_rounds ?_ | refine rt_cut ?_ | refine ox_idx_arr 0 4 rfl rfl rfl (by decide) rfl ?_ | refine ox_idx_arr 1 7 rfl rfl rfl (by decide) rfl ?_ | refine o1_pick_t rfl rfl ?_ | refine o1_pick_f rfl rfl ?_ | refine o1_fieldAddr rfl ?_ | refine ox_load rfl (by rfl) ?_ | refine ox_load_enc rfl (by first | omega | (simp; omega)) ?_ | refine ox_load_any rfl (by assumption) ?_ | refine o1_box rfl rfl (fun _ => ?_) | refine o1_len rfl ?_ | refine o1_gtr_t rfl rfl (by omega) ?_ | refine o1_gtr_f rfl rfl (by omega) ?_ | refine o1_gtr rfl rfl (fun _ => ?_) (fun _ => ?_))
  all_goals (refine rt_tmp () rfl rfl ?_ trivial ?_; · first | rfl | (exfalso; omega))
  all_goals (try dsimp only [List.cons_append, List.nil_append, List.singleton_append, List.append_nil]); (repeat (first | exact Ent.nil | exact Ent.refl _ | (apply Ent.cons; (repeat (first | exact Sel.here | apply Sel.there)))))
def ManD.same (x y : ManD) : Bool := decide ((x.s.toNat : Int) = (y.s.toNat : Int)) && (decide ((x.v.toNat : Int) = (y.v.toNat : Int)) && (decide (x.n = y.n) && (decide (x.z = y.z) && (decide (x.p = y.p) && decide (x.h.l = y.h.l)))))
theorem mf_Same (H : List Hl) (x y : ManD) (hx : Rs (stars H) B x.h.ad x.h.cap x.h.l) (hy : Rs (stars H) B y.h.ad y.h.cap y.h.l) : Spec Try.prog 28 [x.V, y.V] H (fun _ : Unit => True) (fun _ => .bool (x.same y)) (fun _ => H) := by
  refine spec_pure (res := fun _ => []) H Try.func28 rfl Try.ntmps28 (by kernel_rfl) rfl (fun W => ?_)
  repeat' (first | refine ls_of rfl ?_ | refine ls_of_no ?_ | refine ls_guard_yes rfl rfl ?_ | refine ls_guard_no rfl rfl rfl rfl ?_ | refine ls_guard_un rfl rfl rfl ?_ | refine o1_move rfl ?_ | refine o1_assign rfl ?_ | refine st_seq ?_ | refine st_region ?_ | refine st_block ?_ | refine st_skip ?_ | refine st_ret ?_ | refine st_exit ?_ | refine st_cond_t rfl ?_ | refine st_cond_f rfl ?_ | refine st_cond rfl (fun _ => ?_) (fun _ => ?_) | refine ls_nil ?_ | refine nx_seq ?_ | refine nx_blk ?_ | refine nx_fn ?_ | refine nx_rounds ?_ | refine xt_seq ?_ | refine xt_here ?_ | refine xt_on rfl ?_ | refine xt_rounds ?_ | refine xt_cut ?_ | refine rt_seq ?_ | refine rt_blk ?_ | refine rt_rounds ?_ | refine rt_cut ?_ | refine o1_call (fun _ => slices_Equal _ _ _ _ _ x.h.l y.h.l hx.up hy.up) rfl (fun _ _ => ?_) | refine o1_pick_t rfl rfl ?_ | refine o1_pick_f rfl rfl ?_ | refine o1_fieldAddr rfl ?_ | refine ox_load rfl (by rfl) ?_ | refine ox_load_enc rfl (by first | omega | (simp; omega)) ?_ | refine ox_load_any rfl (by assumption) ?_ | refine o1_box rfl rfl (fun _ => ?_) | refine o1_eql_t rfl rfl (by omega) ?_ | refine o1_eql_f rfl rfl (by omega) ?_ | refine o1_eql rfl rfl (fun _ => ?_) (fun _ => ?_))
  all_goals (refine rt_tmp () rfl rfl ?_ trivial ?_; · simp only [ManD.same, *]; first | rfl | simp | (simp; done))
  all_goals (try dsimp only [List.cons_append, List.nil_append, List.singleton_append, List.append_nil]); (repeat (first | exact Ent.nil | exact Ent.refl _ | (apply Ent.cons; (repeat (first | exact Sel.here | apply Sel.there)))))
def firstS (b : Nat) : StD := ⟨0, 0, 0#32, 0#32, ⟨1#32, 3, ⟨some ⟨b, 0, none⟩, 32, List.replicate 32 0#8⟩⟩, ⟨0#32, 0, ⟨none, 0, []⟩⟩, false, ⟨0#32, 0#32, 0, 0, 0, ⟨none, 0, []⟩⟩⟩
def goodM (b : Nat) (v : BitVec 32) : ManD := ⟨1#32, v, 3, 2, 0, ⟨some ⟨b, 0, none⟩, 32, List.replicate 32 0#8⟩⟩
def zS : StD := ⟨0, 0, 0#32, 0#32, ⟨0#32, 0, ⟨none, 0, []⟩⟩, ⟨0#32, 0, ⟨none, 0, []⟩⟩, false, ⟨0#32, 0#32, 0, 0, 0, ⟨none, 0, []⟩⟩⟩
theorem rs32 {H H' : List Hl} {b : Nat} [s : SBox H b 5 ((List.replicate 32 0#8).map B) H'] : RsH H B (some ⟨b, 0, none⟩) 32 (List.replicate 32 0#8) := rx_box (T := 5) rfl (by decide)
theorem rs00 {H : List Hl} : RsH H B none 0 ([] : List (BitVec 8)) := rs_nil (by decide)
abbrev Z32 : List (BitVec 8) := List.replicate 32 0#8
abbrev PA := Option Addr × Nat
theorem StD.heavy {x : StD} (h : ¬ x.light) : x.may = false := by
  cases hm : x.may
  · rfl
  · exfalso
    apply h
    simp only [StD.may, Bool.and_eq_true, Bool.or_eq_true, decide_eq_true_eq] at hm
    obtain ⟨⟨⟨⟨ha, _⟩, h1⟩, h2⟩, h3⟩ := hm
    have h3' : x.m.h.l.length ≤ 32 := by
      split at h3
      · simp only [ManD.may, Bool.and_eq_true, decide_eq_true_eq] at h3; omega
      · simp only [ManD.none, decide_eq_true_eq] at h3; omega
    have k1 : ∀ y : SlotD, y.something = true → y.h.l.length ≤ 100 := fun y hy => by simp only [SlotD.something, decide_eq_true_eq] at hy; omega
    have k2 : ∀ y : SlotD, y.nothing = true → y.h.l.length ≤ 100 := fun y hy => by simp only [SlotD.nothing, decide_eq_true_eq] at hy; omega
    have h4 := k1 _ h1
    have h5 : x.oth.h.l.length ≤ 100 := by
      rcases h2 with h2 | h2
      · exact k1 _ h2
      · exact k2 _ h2.1
    rcases ha with ha | ha
    · rw [show x.cur = x.s0 from if_pos ha] at h4
      rw [show x.oth = x.s1 from if_pos ha] at h5
      exact ⟨h4, h5, by omega⟩
    · rw [show x.cur = x.s1 from if_neg (by omega)] at h4
      rw [show x.oth = x.s0 from if_neg (by omega)] at h5
      exact ⟨h5, h4, by omega⟩
def zM : ManD := ⟨0#32, 0#32, 0, 0, 0, ⟨none, 0, []⟩⟩
/-- The state without a session. -/
def StD.off (x : StD) : StD := ⟨x.a, x.t, x.f, x.g, x.s0, x.s1, false, zM⟩
end Go.Dp
