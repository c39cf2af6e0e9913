/-
  elim: reduced, Add, Rank, walked.
  Conditions: those that stand in each theorem.
-/
import Derived.Test.YtlmmnnhbnbakgaaDoorW1
set_option linter.unusedVariables false
set_option linter.unusedSimpArgs false
namespace Go.Dp
open Go.RowKit Go.Proofs
def rtW2_0 : List Row := [⟨some 10, [], [], none⟩, ⟨some 11, [0], [0], none⟩, ⟨some 12, [1], [0, 1], none⟩, ⟨some 13, [2], [0, 1, 2], some (2, false)⟩, ⟨some 14, [3, 2, 2], [0, 1, 2, 3], some (2, false)⟩, ⟨some 15, [2], [0, 1, 2], some (2, false)⟩, ⟨some 16, [5, 2], [0, 1, 2, 5], some (2, false)⟩, ⟨some 17, [6, 2], [0, 1, 2, 5, 6], some (2, false)⟩, ⟨some 18, [7, 2], [0, 1, 2, 5, 6, 7], some (2, false)⟩, ⟨some 19, [4, 8, 2], [0, 1, 2, 3, 4, 5, 6, 7, 8], some (2, false)⟩, ⟨some 20, [2, 9], [0, 1, 2, 3, 4, 5, 6, 7, 8, 9], none⟩]
def rtW2_1 : List Row := [⟨some 21, [], [], none⟩, ⟨some 22, [0], [0], none⟩, ⟨some 23, [], [], none⟩, ⟨some 24, [2], [2], none⟩, ⟨some 25, [3], [2, 3], none⟩, ⟨some 26, [4], [2, 3, 4], none⟩, ⟨some 27, [5, 5], [2, 3, 4, 5], none⟩, ⟨some 28, [1, 6], [0, 1, 2, 3, 4, 5, 6], none⟩, ⟨some 29, [7], [0, 1, 2, 3, 4, 5, 6, 7], none⟩, ⟨some 7, [8, 1, 0, 1, 2, 3, 4, 5, 6, 7, 8], [0, 1, 2, 3, 4, 5, 6, 7, 8], none⟩]
def rtW2_2 : List Row := [⟨some 10, [], [], none⟩, ⟨some 11, [0], [0], none⟩, ⟨some 12, [1], [0, 1], none⟩, ⟨some 13, [2], [0, 1, 2], some (2, false)⟩, ⟨some 14, [3, 2, 2], [0, 1, 2, 3], some (2, false)⟩, ⟨some 15, [2], [0, 1, 2], some (2, false)⟩, ⟨some 16, [5, 2], [0, 1, 2, 5], some (2, false)⟩, ⟨some 17, [6, 2], [0, 1, 2, 5, 6], some (2, false)⟩, ⟨some 18, [7, 2], [0, 1, 2, 5, 6, 7], some (2, false)⟩, ⟨some 19, [4, 8, 2], [0, 1, 2, 3, 4, 5, 6, 7, 8], some (2, false)⟩, ⟨some 20, [2, 9], [0, 1, 2, 3, 4, 5, 6, 7, 8, 9], none⟩]
def rtW2_3 : List Row := [⟨some 10, [], [], none⟩, ⟨some 11, [0], [0], none⟩, ⟨some 12, [1], [0, 1], none⟩, ⟨some 13, [2], [0, 1, 2], some (2, false)⟩, ⟨some 14, [3, 2, 2], [0, 1, 2, 3], some (2, false)⟩, ⟨some 15, [2], [0, 1, 2], some (2, false)⟩, ⟨some 16, [5, 2], [0, 1, 2, 5], some (2, false)⟩, ⟨some 17, [6, 2], [0, 1, 2, 5, 6], some (2, false)⟩, ⟨some 18, [7, 2], [0, 1, 2, 5, 6, 7], some (2, false)⟩, ⟨some 19, [4, 8, 2], [0, 1, 2, 3, 4, 5, 6, 7, 8], some (2, false)⟩, ⟨some 20, [2, 9], [0, 1, 2, 3, 4, 5, 6, 7, 8, 9], none⟩]
def rtW2_4 : List Row := [⟨some 10, [], [], none⟩, ⟨some 11, [0], [0], none⟩, ⟨some 12, [1], [0, 1], none⟩, ⟨some 13, [2], [0, 1, 2], some (2, false)⟩, ⟨some 14, [3, 2, 2], [0, 1, 2, 3], some (2, false)⟩, ⟨some 15, [2], [0, 1, 2], some (2, false)⟩, ⟨some 16, [5, 2], [0, 1, 2, 5], some (2, false)⟩, ⟨some 17, [6, 2], [0, 1, 2, 5, 6], some (2, false)⟩, ⟨some 18, [7, 2], [0, 1, 2, 5, 6, 7], some (2, false)⟩, ⟨some 19, [4, 8, 2], [0, 1, 2, 3, 4, 5, 6, 7, 8], some (2, false)⟩, ⟨some 20, [2, 9], [0, 1, 2, 3, 4, 5, 6, 7, 8, 9], none⟩]
def rtW2_5 : List Row := [⟨some 3, [], [], none⟩, ⟨some 4, [0], [0], none⟩, ⟨some 5, [1], [0, 1], none⟩, ⟨some 6, [2], [0, 1, 2], some (2, true)⟩, ⟨some 7, [3, 2, 2], [0, 1, 2, 3], some (2, true)⟩, ⟨some 8, [2], [0, 1, 2], some (2, true)⟩, ⟨some 9, [5, 2], [0, 1, 2, 5], some (2, true)⟩, ⟨some 10, [6, 2], [0, 1, 2, 5, 6], some (2, true)⟩, ⟨some 11, [7, 2], [0, 1, 2, 5, 6, 7], some (2, true)⟩, ⟨some 12, [4, 8, 2], [0, 1, 2, 3, 4, 5, 6, 7, 8], some (2, true)⟩, ⟨some 13, [2, 9], [0, 1, 2, 3, 4, 5, 6, 7, 8, 9], none⟩, ⟨some 2, [10, 4, 0, 1, 2, 3, 4, 5, 6, 7, 8, 9, 10], [0, 1, 2, 3, 4, 5, 6, 7, 8, 9, 10], none⟩]
/-- A row, and its data. -/
abbrev LN := List Bool × List (BitVec 8)
def vw (o : Option RD) : Option LN := o.map (fun r => (r.v.l, r.d))
def addL (x y : LN) : LN := (xorV x.1 y.1, xorL x.2 y.2)
def stepR (x : LN) (i : Nat) (o : Option LN) : LN := match o with
  | some y => if at_ x.1 i then addL x y else x
  | none => x
/-- A row less what the first i rows say of it. -/
def redT (M : List (Option LN)) (x : LN) : Nat → LN
  | 0 => x
  | i + 1 => stepR (redT M x i) i (M.getD i none)
def red (M : List (Option LN)) (x : LN) : LN := redT M x M.length
structure LOk (n z : Nat) (M : List (Option LN)) : Prop where
  len : M.length = n
  ok : ∀ y, some y ∈ M → y.1.length = n ∧ y.2.length = z
theorem MOk.vw {n z : Nat} {M : List (Option RD)} (h : MOk n z M) : LOk n z (M.map vw) := ⟨by rw [List.length_map, h.len], fun y hy => by
  obtain ⟨o, ho, e⟩ := List.mem_map.1 hy
  cases o with
  | none => cases e
  | some r =>
    obtain ⟨h1, h2, h3⟩ := h.ok r ho
    simp only [Go.Dp.vw, Option.map_some, Option.some.injEq] at e
    subst e
    exact ⟨by rw [h1.v.len, h2], by rw [h1.d, h3]⟩⟩
theorem addL_len {x y : LN} {n z : Nat} (h1 : x.1.length = n) (h2 : x.2.length = z) (h3 : y.1.length = n) (h4 : y.2.length = z) : (addL x y).1.length = n ∧ (addL x y).2.length = z :=
  ⟨by rw [addL, xorV_len (by omega), h1], by rw [addL, xorL_len _ _ (by omega), h2]⟩
theorem stepR_len {x : LN} {o : Option LN} {i n z : Nat} (h1 : x.1.length = n) (h2 : x.2.length = z) (ho : ∀ y, o = some y → y.1.length = n ∧ y.2.length = z) : (stepR x i o).1.length = n ∧ (stepR x i o).2.length = z := by
  cases o with
  | none => exact ⟨h1, h2⟩
  | some y =>
    obtain ⟨h3, h4⟩ := ho y rfl
    simp only [stepR]
    split
    · exact addL_len h1 h2 h3 h4
    · exact ⟨h1, h2⟩
theorem redT_len {M : List (Option LN)} {x : LN} {n z : Nat} (h : LOk n z M) (h1 : x.1.length = n) (h2 : x.2.length = z) : ∀ i, (redT M x i).1.length = n ∧ (redT M x i).2.length = z
  | 0 => ⟨h1, h2⟩
  | i + 1 => by
    obtain ⟨h3, h4⟩ := redT_len h h1 h2 i
    refine stepR_len h3 h4 (fun y hy => h.ok y ?_)
    rw [List.getD_eq_getElem?_getD] at hy
    by_cases hi : i < M.length
    · rw [List.getElem?_eq_getElem hi] at hy
      rw [← hy]
      exact List.getElem_mem hi
    · rw [List.getElem?_eq_none (by omega)] at hy
      cases hy
def padD (z : Nat) (dd : List (BitVec 8)) : List (BitVec 8) := dd.take (List.replicate z 0#8).length ++ (List.replicate z 0#8).drop dd.length
theorem padD_len (z : Nat) (dd : List (BitVec 8)) (h : dd.length ≤ z) : (padD z dd).length = z := by simp [padD]; omega
theorem padD_full {z : Nat} {dd : List (BitVec 8)} (h : dd.length = z) : padD z dd = dd := by
  subst h; simp [padD]
theorem padD_nil (z : Nat) : padD z [] = List.replicate z 0#8 := by simp [padD]
set_option maxHeartbeats 4000000 in
theorem elim_reduced (H : List Hl) (bm n z : Nat) (ar : Option Addr) (cr k : Nat) (M : List (Option RD)) (v : VD) (ad0 : Option Addr) (m0 c0 : Nat) (dd : List (BitVec 8)) (hM : RdM (stars H) bm n z ar cr k M) (hv : RdV (stars H) v) (hvn : v.n = n) (hd : Rs (stars H) B ad0 c0 dd) (hm0 : m0 = dd.length) (hdl : dd.length ≤ z) :
    Spec Tryd.prog 54 [.pointer (some ⟨bm, 0, none⟩), Pv v, .slice ad0 m0 c0] H (fun r : RD => r.v.n = n ∧ r.z = z ∧ (r.v.l, r.d) = red (M.map vw) (v.l, padD z dd)) (fun r => .pointer (some ⟨r.b, 0, none⟩)) (fun r => rX r.b (Pv r.v) r.ad r.z r.cd :: vB r.v.b r.v.n r.v.a r.v.c :: vR r.v.n r.v.a r.v.c r.v.l :: rD r.ad r.z r.cd r.d :: H) := by
  refine spec_pure (res := fun r : RD => [rX r.b (Pv r.v) r.ad r.z r.cd, vB r.v.b r.v.n r.v.a r.v.c, vR r.v.n r.v.a r.v.c r.v.l, rD r.ad r.z r.cd r.d]) H Tryd.func54 rfl Tryd.ntmps54 (by kernel_rfl) rfl (fun W => ?_)
  obtain ⟨l1, l2, l3, l4, l5, l6⟩ := hM.ok
  have m1 := hM.fn
  have m2 := hM.fz
  have m3 := hM.fs
  have mle := hM.fr.le
  have mbg := hM.fr.big
  have hvl : v.l.length = n := by rw [hv.ok.len, hvn]
  have hLk := hM.ok.vw
  have hpl := padD_len z dd hdl
  obtain ⟨ML, hML⟩ : ∃ ML, M.map vw = ML := ⟨_, rfl⟩
  rw [hML] at hLk ⊢
  repeat' (first | refine ls_of rfl ?_ | refine ls_of_no ?_ | refine ls_guard_yes rfl rfl ?_ | refine ls_guard_no rfl rfl rfl rfl ?_ | refine ls_guard_un rfl rfl rfl ?_ | refine o1_move rfl ?_ | refine o1_assign rfl ?_ | refine st_seq ?_ | refine st_region ?_ | refine st_block ?_ | refine st_skip ?_ | refine st_ret ?_ | refine st_exit ?_ | refine st_cond_t rfl ?_ | refine st_cond_f rfl ?_ | refine st_cond rfl (fun _ => ?_) (fun _ => ?_) | refine ls_nil ?_ | refine nx_seq ?_ | refine nx_blk ?_ | refine nx_fn ?_ | refine nx_rounds ?_ | refine xt_seq ?_ | refine xt_here ?_ | refine xt_on rfl ?_ | refine xt_rounds ?_ | refine xt_cut ?_ | refine rt_seq ?_ | refine rt_blk ?_ | refine rt_rounds ?_ | refine rt_cut ?_ | refine o1_pick_t rfl rfl ?_ | refine o1_pick_f rfl rfl ?_ | refine o1_fieldAddr rfl ?_ | refine ox_load rfl (by rfl) ?_ | refine ox_load_enc rfl (by first | omega | (simp; omega)) ?_ | refine ox_load_any rfl (by assumption) ?_ | refine o1_box rfl rfl (fun _ => ?_) | refine o1_len rfl ?_ | refine o1_add rfl rfl (by omega) ?_ | refine o1_lss_t rfl rfl (by omega) ?_ | refine o1_lss_f rfl rfl (by omega) ?_ | refine o1_lss rfl rfl (fun _ => ?_) (fun _ => ?_) | refine o1_neq_t rfl rfl (by omega) ?_ | refine o1_neq_f rfl rfl (by omega) ?_ | refine o1_neq rfl rfl (fun _ => ?_) (fun _ => ?_) | refine o1_maken (enc := B) 0#8 rfl rfl rfl rfl (by omega) (by omega) (by omega) (fun _ => ?_) | refine o1_slice_nil rfl ?_ | refine o1_buildx rfl (by simp only [buildL, putL, List.set_cons_zero, List.set_cons_succ, List.getElem?_cons_zero, List.getElem?_cons_succ, Option.getD_some, Value.cells, Nat.zero_add, Nat.reduceAdd]; rfl) (fun _ => by kernel_rfl) ?_ | refine o1_nilCheck rfl ?_)
  refine st_stages [(0, _), (1, _)] rtW2_0 [4] [⟨[0, 1, 2, 3, 5, 6, 7, 8], [], some 4⟩, ⟨[9, 10], [5, 6, 7, 8], none⟩] mixed (cov_cons rfl rfl (cov_cons rfl rfl cov_nil)) (by kernel_rfl) (by kernel_rfl) ?_
  all_goals refine wk_ch ?_
  all_goals (refine xp1 0 rfl rfl rfl rfl (by first | refine o1_peql rfl rfl fz | refine o1_move rfl fz) ?_)
  all_goals (refine xp1 10 rfl rfl rfl rfl (by first | refine o1_peql rfl rfl fz | refine o1_slice_nil rfl fz) ?_)
  all_goals (refine xp1 11 rfl rfl rfl rfl (by first | refine o1_peql rfl rfl fz | refine o1_move rfl fz) ?_)
  all_goals first | (refine xpo1 rfl rfl rfl rfl ?_) | (refine xpo2 rfl rfl rfl rfl ?_) | (refine xpg1 1 rfl rfl rfl rfl rfl rfl (by first | refine o1_peql rfl rfl fz | refine o1_move rfl fz) ?_)
  all_goals first | (refine xpo1 rfl rfl rfl rfl ?_) | (refine xpo2 rfl rfl rfl rfl ?_) | (refine xpg1 0 rfl rfl rfl rfl rfl rfl (by first | refine o1_peql rfl rfl fz | refine o1_move rfl fz) ?_)
  all_goals first | (refine xpo1 rfl rfl rfl rfl ?_) | (refine xpo2 rfl rfl rfl rfl ?_) | (refine xpg1 15 rfl rfl rfl rfl rfl rfl (by first | refine o1_peql rfl rfl fz | refine o1_nilCheck rfl fz) ?_)
  all_goals first | (refine xpo1 rfl rfl rfl rfl ?_) | (refine xpo2 rfl rfl rfl rfl ?_) | (refine xpg1 16 rfl rfl rfl rfl rfl rfl (by first | refine o1_peql rfl rfl fz | refine o1_fieldAddr rfl fz) ?_)
  all_goals first | (refine xpo1 rfl rfl rfl rfl ?_) | (refine xpo2 rfl rfl rfl rfl ?_) | (refine xpg1 17 rfl rfl rfl rfl rfl rfl (by first | refine o1_peql rfl rfl fz | refine ox_load_any rfl m1 fz | refine ox_load rfl (by rfl) fz | refine ox_load_enc rfl (by first | omega | (simp; omega)) fz | refine ox_load_any rfl (by assumption) fz) ?_)
  all_goals refine op_nil ?_
  all_goals refine re_nil ?_
  all_goals first | (refine ch_off rfl (by first | exact gd_o1 rfl rfl rfl | exact gd_o2 rfl rfl rfl) ?_) | (refine ch_run (E' := [(13, _)]) rfl (gd_r1 rfl rfl rfl) rfl (cov_cons rfl rfl cov_nil) ?_; (first | (refine o1_peql rfl rfl ?_) | (refine o1_call (fun _ => vec_Len _ v (cl_up hv.n)) rfl (fun _ _ => ?_))))
  all_goals refine wk_end ?_
  all_goals first | (refine xpo1 rfl rfl rfl rfl ?_) | (refine xpo2 rfl rfl rfl rfl ?_) | (refine xpg2 14 18 rfl rfl rfl rfl rfl rfl rfl (by first | refine o1_peql rfl rfl fz | refine o1_neq_f rfl rfl (by omega) fz | refine o1_neq_t rfl rfl (by omega) fz | refine o1_neq_f rfl rfl (by omega) fz | refine o1_neq_d rfl rfl fz) ?_)
  all_goals (refine xp2 12 19 rfl rfl rfl rfl rfl (by first | refine o1_peql rfl rfl fz | refine o1_pick_t rfl rfl fz | refine o1_pick_f rfl rfl fz) ?_)
  all_goals refine op_nil ?_
  all_goals first | (refine xqo1 rfl rfl rfl rfl rfl ?_) | (refine xqo2 rfl rfl rfl rfl rfl ?_) | (refine xqg1 0 rfl rfl rfl rfl rfl rfl rfl (by first | refine o1_peql rfl rfl fz | refine o1_move rfl fz) ?_)
  all_goals first | (refine xqo1 rfl rfl rfl rfl rfl ?_) | (refine xqo2 rfl rfl rfl rfl rfl ?_) | (refine xqg1 15 rfl rfl rfl rfl rfl rfl rfl (by first | refine o1_peql rfl rfl fz | refine o1_nilCheck rfl fz) ?_)
  all_goals first | (refine xqo1 rfl rfl rfl rfl rfl ?_) | (refine xqo2 rfl rfl rfl rfl rfl ?_) | (refine xqg1 16 rfl rfl rfl rfl rfl rfl rfl (by first | refine o1_peql rfl rfl fz | refine o1_fieldAddr rfl fz) ?_)
  all_goals first | (refine xqo1 rfl rfl rfl rfl rfl ?_) | (refine xqo2 rfl rfl rfl rfl rfl ?_) | (refine xqg1 17 rfl rfl rfl rfl rfl rfl rfl (by first | refine o1_peql rfl rfl fz | refine ox_load_any rfl m1 fz | refine ox_load rfl (by rfl) fz | refine ox_load_enc rfl (by first | omega | (simp; omega)) fz | refine ox_load_any rfl (by assumption) fz) ?_)
  all_goals refine re_nil ?_
  all_goals dsimp only [List.cons_append, List.nil_append]
  repeat' (first | refine ls_of rfl ?_ | refine ls_of_no ?_ | refine ls_guard_yes rfl rfl ?_ | refine ls_guard_no rfl rfl rfl rfl ?_ | refine ls_guard_un rfl rfl rfl ?_ | refine o1_move rfl ?_ | refine o1_assign rfl ?_ | refine st_seq ?_ | refine st_region ?_ | refine st_block ?_ | refine st_skip ?_ | refine st_ret ?_ | refine st_exit ?_ | refine st_cond_t rfl ?_ | refine st_cond_f rfl ?_ | refine st_cond rfl (fun _ => ?_) (fun _ => ?_) | refine ls_nil ?_ | refine nx_seq ?_ | refine nx_blk ?_ | refine nx_fn ?_ | refine nx_rounds ?_ | refine xt_seq ?_ | refine xt_here ?_ | refine xt_on rfl ?_ | refine xt_rounds ?_ | refine xt_cut ?_ | refine rt_seq ?_ | refine rt_blk ?_ | refine rt_rounds ?_ | refine rt_cut ?_ | refine o1_pick_t rfl rfl ?_ | refine o1_pick_f rfl rfl ?_ | refine o1_fieldAddr rfl ?_ | refine ox_load rfl (by rfl) ?_ | refine ox_load_enc rfl (by first | omega | (simp; omega)) ?_ | refine ox_load_any rfl (by assumption) ?_ | refine o1_box rfl rfl (fun _ => ?_) | refine o1_len rfl ?_ | refine o1_add rfl rfl (by omega) ?_ | refine o1_lss_t rfl rfl (by omega) ?_ | refine o1_lss_f rfl rfl (by omega) ?_ | refine o1_lss rfl rfl (fun _ => ?_) (fun _ => ?_) | refine o1_neq_t rfl rfl (by omega) ?_ | refine o1_neq_f rfl rfl (by omega) ?_ | refine o1_neq rfl rfl (fun _ => ?_) (fun _ => ?_) | refine o1_maken (enc := B) 0#8 rfl rfl rfl rfl (by omega) (by omega) (by omega) (fun _ => ?_) | refine o1_slice_nil rfl ?_ | refine o1_buildx rfl (by simp only [buildL, putL, List.set_cons_zero, List.set_cons_succ, List.getElem?_cons_zero, List.getElem?_cons_succ, Option.getD_some, Value.cells, Nat.zero_add, Nat.reduceAdd]; rfl) (fun _ => by kernel_rfl) ?_ | refine o1_nilCheck rfl ?_)
  refine st_via (X := Nat × Option Addr × Nat × Nat × Nat) (fun x => [(0, .pointer (some ⟨bm, 0, none⟩)), (2, .slice ad0 m0 c0), (7, .pointer (some ⟨x.2.2.2.2, 0, none⟩))]) (fun x => [rX x.2.2.2.2 (.pointer (some ⟨x.1, 0, none⟩)) (some ⟨x.2.2.2.1, 0, none⟩) z z, vB x.1 n x.2.1 x.2.2.1, vR n x.2.1 x.2.2.1 v.l, .box x.2.2.2.1 5 ((List.replicate z 0#8).map B), .any (stars H)]) ?restS ?walkS
  case walkS =>
    intro via
    refine st_tree [(1, _), (0, _)] rtW2_1 [1, 6, 8] (.alt [0, 2, 3, 4, 5] [] 1 (.step [] [2, 3, 4, 5] 6 (.step [7] [] 8 (.fin [9] []))) 6 (.step [] [0] 1 (.step [7] [] 8 (.fin [9] [])))) mixed (cov_cons rfl rfl (cov_cons rfl rfl cov_nil)) (by kernel_rfl) (by kernel_rfl) ?_
    all_goals refine wt_alt ?_
    all_goals (refine xp1 1 rfl rfl rfl rfl (by refine o1_move rfl fz) ?_)
    all_goals (refine xp1 0 rfl rfl rfl rfl (by refine o1_move rfl fz) ?_)
    all_goals (refine xp1 23 rfl rfl rfl rfl (by refine o1_nilCheck rfl fz) ?_)
    all_goals (refine xp1 24 rfl rfl rfl rfl (by refine o1_fieldAddr rfl fz) ?_)
    all_goals (refine xp1 25 rfl rfl rfl rfl (by first | refine ox_load_any rfl m2 fz | refine ox_load rfl (by rfl) fz | refine ox_load_enc rfl (by first | omega | (simp; omega)) fz | refine ox_load_any rfl (by assumption) fz) ?_)
    all_goals refine op_nil ?_
    all_goals refine re_nil ?_
    refine ⟨?al2_1A, ?al2_1B⟩
    case' al2_1A =>
      all_goals first | (refine ct_run (E' := [(21, _)]) rfl (gd_r0 rfl) rfl (cov_cons rfl rfl cov_nil) ?_; (first | (refine o1_call (fun _ => vec_Copy _ v hv.up) rfl (fun ⟨b20, a20, c20⟩ _ => ?_); dsimp only; rw [hvn])))
      all_goals refine wt_ch ?_
      all_goals refine op_nil ?_
      all_goals (refine xq1 0 rfl rfl rfl rfl rfl (by refine o1_move rfl fz) ?_)
      all_goals (refine xq1 23 rfl rfl rfl rfl rfl (by refine o1_nilCheck rfl fz) ?_)
      all_goals (refine xq1 24 rfl rfl rfl rfl rfl (by refine o1_fieldAddr rfl fz) ?_)
      all_goals (refine xq1 25 rfl rfl rfl rfl rfl (by first | refine ox_load_any rfl m2 fz | refine ox_load rfl (by rfl) fz | refine ox_load_enc rfl (by first | omega | (simp; omega)) fz | refine ox_load_any rfl (by assumption) fz) ?_)
      all_goals refine re_nil ?_
      all_goals first | (refine ct_run (E' := [(26, _)]) rfl (gd_r0 rfl) rfl (cov_cons rfl rfl cov_nil) ?_; (first | (refine o1_maker (enc := B) 0#8 z rfl rfl rfl rfl rfl (by omega) (by omega) (fun b27 => ?_)) | refine o1_maken (enc := B) 0#8 rfl rfl rfl rfl (by omega) (by omega) (by omega) (fun _ => ?_)))
      all_goals refine wt_ch ?_
      all_goals (refine xp2 22 27 rfl rfl rfl rfl rfl (by (refine o1_buildx rfl (by simp only [buildL, putL, List.set_cons_zero, List.set_cons_succ, List.getElem?_cons_zero, List.getElem?_cons_succ, Option.getD_some, Value.cells, Nat.zero_add, Nat.reduceAdd]; rfl) (fun _ => by kernel_rfl) ?_; all_goals exact fz)) ?_)
      all_goals refine op_nil ?_
      all_goals refine re_nil ?_
      all_goals first | (refine ct_run (E' := [(28, _)]) rfl (gd_r0 rfl) rfl (cov_cons rfl rfl cov_nil) ?_; (first | (refine o1_box rfl rfl (fun b29 => ?_)) | refine o1_box rfl rfl (fun _ => ?_)))
      all_goals refine wt_end ?_
      all_goals (refine xp1 29 rfl rfl rfl rfl (by refine o1_assign rfl fz) ?_)
      all_goals refine op_nil ?_
      all_goals refine re_nil ?_
    case' al2_1B =>
      all_goals first | (refine ct_run (E' := [(26, _)]) rfl (gd_r0 rfl) rfl (cov_cons rfl rfl cov_nil) ?_; (first | (refine o1_maker (enc := B) 0#8 z rfl rfl rfl rfl rfl (by omega) (by omega) (fun b27 => ?_)) | refine o1_maken (enc := B) 0#8 rfl rfl rfl rfl (by omega) (by omega) (by omega) (fun _ => ?_)))
      all_goals refine wt_ch ?_
      all_goals refine op_nil ?_
      all_goals (refine xq1 1 rfl rfl rfl rfl rfl (by refine o1_move rfl fz) ?_)
      all_goals refine re_nil ?_
      all_goals first | (refine ct_run (E' := [(21, _)]) rfl (gd_r0 rfl) rfl (cov_cons rfl rfl cov_nil) ?_; (first | (refine o1_call (fun _ => vec_Copy _ v hv.up) rfl (fun ⟨b20, a20, c20⟩ _ => ?_); dsimp only; rw [hvn])))
      all_goals refine wt_ch ?_
      all_goals (refine xp2 22 27 rfl rfl rfl rfl rfl (by (refine o1_buildx rfl (by simp only [buildL, putL, List.set_cons_zero, List.set_cons_succ, List.getElem?_cons_zero, List.getElem?_cons_succ, Option.getD_some, Value.cells, Nat.zero_add, Nat.reduceAdd]; rfl) (fun _ => by kernel_rfl) ?_; all_goals exact fz)) ?_)
      all_goals refine op_nil ?_
      all_goals refine re_nil ?_
      all_goals first | (refine ct_run (E' := [(28, _)]) rfl (gd_r0 rfl) rfl (cov_cons rfl rfl cov_nil) ?_; (first | (refine o1_box rfl rfl (fun b29 => ?_)) | refine o1_box rfl rfl (fun _ => ?_)))
      all_goals refine wt_end ?_
      all_goals (refine xp1 29 rfl rfl rfl rfl (by refine o1_assign rfl fz) ?_)
      all_goals refine op_nil ?_
      all_goals refine re_nil ?_
    all_goals dsimp only [List.cons_append, List.nil_append]
    all_goals exact via (_, _, _, _, _) _ _ (cov_cons rfl rfl (cov_cons rfl rfl (cov_cons rfl rfl cov_nil))) (by (try dsimp only [List.cons_append, List.nil_append, List.singleton_append, List.append_nil]); (repeat (first | exact Ent.nil | exact Ent.refl _ | (apply Ent.cons; (repeat (first | exact Sel.here | apply Sel.there))))))
  case restS =>
    rintro ⟨vb, va, vc, bd, b⟩
    dsimp only
    repeat' (first | refine ls_of rfl ?_ | refine ls_of_no ?_ | refine ls_guard_yes rfl rfl ?_ | refine ls_guard_no rfl rfl rfl rfl ?_ | refine ls_guard_un rfl rfl rfl ?_ | refine o1_move rfl ?_ | refine o1_assign rfl ?_ | refine st_seq ?_ | refine st_region ?_ | refine st_block ?_ | refine st_skip ?_ | refine st_ret ?_ | refine st_exit ?_ | refine st_cond_t rfl ?_ | refine st_cond_f rfl ?_ | refine st_cond rfl (fun _ => ?_) (fun _ => ?_) | refine ls_nil ?_ | refine nx_seq ?_ | refine nx_blk ?_ | refine nx_fn ?_ | refine nx_rounds ?_ | refine xt_seq ?_ | refine xt_here ?_ | refine xt_on rfl ?_ | refine xt_rounds ?_ | refine xt_cut ?_ | refine rt_seq ?_ | refine rt_blk ?_ | refine rt_rounds ?_ | refine rt_cut ?_ | refine ox_copy (b := bd) (xs := List.replicate z 0#8) (ys := dd) rfl rfl (by simp) (rx_any hd) hm0 (fun _ => rfl) ?_ | refine ox_load_any rfl m3 ?_ | refine o1_pick_t rfl rfl ?_ | refine o1_pick_f rfl rfl ?_ | refine o1_fieldAddr rfl ?_ | refine ox_load rfl (by rfl) ?_ | refine ox_load_enc rfl (by first | omega | (simp; omega)) ?_ | refine ox_load_any rfl (by assumption) ?_ | refine o1_box rfl rfl (fun _ => ?_) | refine o1_len rfl ?_ | refine o1_add rfl rfl (by omega) ?_ | refine o1_lss_t rfl rfl (by omega) ?_ | refine o1_lss_f rfl rfl (by omega) ?_ | refine o1_lss rfl rfl (fun _ => ?_) (fun _ => ?_) | refine o1_neq_t rfl rfl (by omega) ?_ | refine o1_neq_f rfl rfl (by omega) ?_ | refine o1_neq rfl rfl (fun _ => ?_) (fun _ => ?_) | refine o1_maken (enc := B) 0#8 rfl rfl rfl rfl (by omega) (by omega) (by omega) (fun _ => ?_) | refine o1_slice_nil rfl ?_ | refine o1_buildx rfl (by simp only [buildL, putL, List.set_cons_zero, List.set_cons_succ, List.getElem?_cons_zero, List.getElem?_cons_succ, Option.getD_some, Value.cells, Nat.zero_add, Nat.reduceAdd]; rfl) (fun _ => by kernel_rfl) ?_ | refine o1_nilCheck rfl ?_)
    have hpd : dd.take (List.replicate z 0#8).length ++ (List.replicate z 0#8).drop dd.length = padD z dd := rfl
    rw [hpd]
    refine st_row (T := 5) (b := bd) (m := z) (cp := z) (cs := (padD z dd).map B) (by rw [List.length_map, hpl]) rfl (by omega) ?_
    refine st_loop (S := Nat) (fun i => [(7, .pointer (some ⟨b, 0, none⟩)), (39, .slice ar n cr), (40, I n), (41, I i)])
      (fun i => [rX b (.pointer (some ⟨vb, 0, none⟩)) (some ⟨bd, 0, none⟩) z z, vB vb n va vc, vR n va vc (redT ML (v.l, padD z dd) i).1, rD (some ⟨bd, 0, none⟩) z z (redT ML (v.l, padD z dd) i).2, .any (stars H)]) (fun i => i ≤ n) (fun i => n - i) 0 (Nat.zero_le _)
      (cov_cons rfl rfl (cov_cons rfl rfl (cov_cons rfl rfl (cov_cons rfl rfl cov_nil)))) (by (try dsimp only [List.cons_append, List.nil_append, List.singleton_append, List.append_nil]); (repeat (first | exact Ent.nil | exact Ent.refl _ | (apply Ent.cons; (repeat (first | exact Sel.here | apply Sel.there)))))) ?_
    intro i hi
    obtain ⟨hxl, hxd⟩ := redT_len hLk (x := (v.l, padD z dd)) hvl hpl i
    by_cases hlt : i < n
    · have hiM : i < M.length := by omega
      have hnx : redT ML (v.l, padD z dd) (i + 1) = stepR (redT ML (v.l, padD z dd) i) i (vw M[i]) := by
        rw [redT]
        congr 1
        subst hML
        simp [List.getD_eq_getElem?_getD, hiM]
      obtain ⟨⟨xl, xd⟩, hX⟩ : ∃ X, redT ML (v.l, padD z dd) i = X := ⟨_, rfl⟩
      rw [hX] at hxl hxd hnx ⊢
      dsimp only at hxl hxd ⊢
      cases hMi : M[i] with
      | none =>
        rw [hMi] at hnx
        have hnx : redT ML (v.l, padD z dd) (i + 1) = (xl, xd) := hnx
        repeat' (first | refine ls_of rfl ?_ | refine ls_of_no ?_ | refine ls_guard_yes rfl rfl ?_ | refine ls_guard_no rfl rfl rfl rfl ?_ | refine ls_guard_un rfl rfl rfl ?_ | refine o1_move rfl ?_ | refine o1_assign rfl ?_ | refine st_seq ?_ | refine st_region ?_ | refine st_block ?_ | refine st_skip ?_ | refine st_ret ?_ | refine st_exit ?_ | refine st_cond_t rfl ?_ | refine st_cond_f rfl ?_ | refine st_cond rfl (fun _ => ?_) (fun _ => ?_) | refine ls_nil ?_ | refine nx_seq ?_ | refine nx_blk ?_ | refine nx_fn ?_ | refine nx_rounds ?_ | refine xt_seq ?_ | refine xt_here ?_ | refine xt_on rfl ?_ | refine xt_rounds ?_ | refine xt_cut ?_ | refine rt_seq ?_ | refine rt_blk ?_ | refine rt_rounds ?_ | refine rt_cut ?_ | refine o1_ia (ad := ar) (c := cr) i rfl rfl hM.fr l1.symm rfl hiM ?_ | (refine o1_load_ia (ad := ar) (c := cr) i rfl hM.fr hiM ?_; rw [hMi]) | refine o1_pneq rfl rfl ?_ | refine o1_pick_t rfl rfl ?_ | refine o1_pick_f rfl rfl ?_ | refine o1_fieldAddr rfl ?_ | refine ox_load rfl (by rfl) ?_ | refine ox_load_enc rfl (by first | omega | (simp; omega)) ?_ | refine ox_load_any rfl (by assumption) ?_ | refine o1_box rfl rfl (fun _ => ?_) | refine o1_len rfl ?_ | refine o1_add rfl rfl (by omega) ?_ | refine o1_lss_t rfl rfl (by omega) ?_ | refine o1_lss_f rfl rfl (by omega) ?_ | refine o1_lss rfl rfl (fun _ => ?_) (fun _ => ?_) | refine o1_neq_t rfl rfl (by omega) ?_ | refine o1_neq_f rfl rfl (by omega) ?_ | refine o1_neq rfl rfl (fun _ => ?_) (fun _ => ?_) | refine o1_maken (enc := B) 0#8 rfl rfl rfl rfl (by omega) (by omega) (by omega) (fun _ => ?_) | refine o1_slice_nil rfl ?_ | refine o1_buildx rfl (by simp only [buildL, putL, List.set_cons_zero, List.set_cons_succ, List.getElem?_cons_zero, List.getElem?_cons_succ, Option.getD_some, Value.cells, Nat.zero_add, Nat.reduceAdd]; rfl) (fun _ => by kernel_rfl) ?_ | refine o1_nilCheck rfl ?_)
        refine nx_again (i + 1) (by omega) (by omega) (cov_cons rfl rfl (cov_cons rfl rfl (cov_cons rfl rfl (cov_cons rfl rfl cov_nil)))) ?_
        rw [hnx]
        (try dsimp only [List.cons_append, List.nil_append, List.singleton_append, List.append_nil]); (repeat (first | exact Ent.nil | exact Ent.refl _ | (apply Ent.cons; (repeat (first | exact Sel.here | apply Sel.there)))))
      | some q =>
        rw [hMi] at hnx
        have hqm : some q ∈ M := hMi ▸ List.getElem_mem hiM
        have hq := hM.fm q hqm
        obtain ⟨hq1, hq2, hq3⟩ := l6 q hqm
        cases hat : at_ xl i
        · have hnx : redT ML (v.l, padD z dd) (i + 1) = (xl, xd) := by
            rw [hnx]
            show (if at_ xl i = true then _ else (xl, xd)) = _
            rw [hat]; rfl
          repeat' (first | refine ls_of rfl ?_ | refine ls_of_no ?_ | refine ls_guard_yes rfl rfl ?_ | refine ls_guard_no rfl rfl rfl rfl ?_ | refine ls_guard_un rfl rfl rfl ?_ | refine o1_move rfl ?_ | refine o1_assign rfl ?_ | refine st_seq ?_ | refine st_region ?_ | refine st_block ?_ | refine st_skip ?_ | refine st_ret ?_ | refine st_exit ?_ | refine st_cond_t rfl ?_ | refine st_cond_f rfl ?_ | refine st_cond rfl (fun _ => ?_) (fun _ => ?_) | refine ls_nil ?_ | refine nx_seq ?_ | refine nx_blk ?_ | refine nx_fn ?_ | refine nx_rounds ?_ | refine xt_seq ?_ | refine xt_here ?_ | refine xt_on rfl ?_ | refine xt_rounds ?_ | refine xt_cut ?_ | refine rt_seq ?_ | refine rt_blk ?_ | refine rt_rounds ?_ | refine rt_cut ?_ | refine o1_ia (ad := ar) (c := cr) i rfl rfl hM.fr l1.symm rfl hiM ?_ | (refine o1_load_ia (ad := ar) (c := cr) i rfl hM.fr hiM ?_; rw [hMi]) | refine o1_pneq rfl rfl ?_ | refine o1_call (fun hh => (vec_Has _ ⟨vb, n, va, vc, xl⟩ i (RdV.own hxl l3 hh)).bv (b := false) (by rw [hasV_nat, hat])) rfl (fun _ _ => ?_) | refine o1_pick_t rfl rfl ?_ | refine o1_pick_f rfl rfl ?_ | refine o1_fieldAddr rfl ?_ | refine ox_load rfl (by rfl) ?_ | refine ox_load_enc rfl (by first | omega | (simp; omega)) ?_ | refine ox_load_any rfl (by assumption) ?_ | refine o1_box rfl rfl (fun _ => ?_) | refine o1_len rfl ?_ | refine o1_add rfl rfl (by omega) ?_ | refine o1_lss_t rfl rfl (by omega) ?_ | refine o1_lss_f rfl rfl (by omega) ?_ | refine o1_lss rfl rfl (fun _ => ?_) (fun _ => ?_) | refine o1_neq_t rfl rfl (by omega) ?_ | refine o1_neq_f rfl rfl (by omega) ?_ | refine o1_neq rfl rfl (fun _ => ?_) (fun _ => ?_) | refine o1_maken (enc := B) 0#8 rfl rfl rfl rfl (by omega) (by omega) (by omega) (fun _ => ?_) | refine o1_slice_nil rfl ?_ | refine o1_buildx rfl (by simp only [buildL, putL, List.set_cons_zero, List.set_cons_succ, List.getElem?_cons_zero, List.getElem?_cons_succ, Option.getD_some, Value.cells, Nat.zero_add, Nat.reduceAdd]; rfl) (fun _ => by kernel_rfl) ?_ | refine o1_nilCheck rfl ?_)
          refine nx_again (i + 1) (by omega) (by omega) (cov_cons rfl rfl (cov_cons rfl rfl (cov_cons rfl rfl (cov_cons rfl rfl cov_nil)))) ?_
          rw [hnx]
          (try dsimp only [List.cons_append, List.nil_append, List.singleton_append, List.append_nil]); (repeat (first | exact Ent.nil | exact Ent.refl _ | (apply Ent.cons; (repeat (first | exact Sel.here | apply Sel.there)))))
        · have hnx : redT ML (v.l, padD z dd) (i + 1) = (xorV xl q.v.l, xorL xd q.d) := by
            rw [hnx]
            show (if at_ xl i = true then addL (xl, xd) (q.v.l, q.d) else (xl, xd)) = _
            rw [hat]; rfl
          repeat' (first | refine ls_of rfl ?_ | refine ls_of_no ?_ | refine ls_guard_yes rfl rfl ?_ | refine ls_guard_no rfl rfl rfl rfl ?_ | refine ls_guard_un rfl rfl rfl ?_ | refine o1_move rfl ?_ | refine o1_assign rfl ?_ | refine st_seq ?_ | refine st_region ?_ | refine st_block ?_ | refine st_skip ?_ | refine st_ret ?_ | refine st_exit ?_ | refine st_cond_t rfl ?_ | refine st_cond_f rfl ?_ | refine st_cond rfl (fun _ => ?_) (fun _ => ?_) | refine ls_nil ?_ | refine nx_seq ?_ | refine nx_blk ?_ | refine nx_fn ?_ | refine nx_rounds ?_ | refine xt_seq ?_ | refine xt_here ?_ | refine xt_on rfl ?_ | refine xt_rounds ?_ | refine xt_cut ?_ | refine rt_seq ?_ | refine rt_blk ?_ | refine rt_rounds ?_ | refine rt_cut ?_ | refine o1_ia (ad := ar) (c := cr) i rfl rfl hM.fr l1.symm rfl hiM ?_ | (refine o1_load_ia (ad := ar) (c := cr) i rfl hM.fr hiM ?_; rw [hMi]) | refine o1_pneq rfl rfl ?_ | refine o1_call (fun hh => (vec_Has _ ⟨vb, n, va, vc, xl⟩ i (RdV.own hxl l3 hh)).bv (b := true) (by rw [hasV_nat, hat])) rfl (fun _ _ => ?_) | refine o1_call_to [rX b (.pointer (some ⟨vb, 0, none⟩)) (some ⟨bd, 0, none⟩) z z, vB vb n va vc, vR n va vc xl, rD (some ⟨bd, 0, none⟩) z z xd, .any (stars H)] (Ent.out (by (try dsimp only [List.cons_append, List.nil_append, List.singleton_append, List.append_nil]); (repeat (first | exact Ent.nil | exact Ent.refl _ | (apply Ent.cons; (repeat (first | exact Sel.here | apply Sel.there))))))) (fun _ => row_xor _ b vb n va vc xl (some ⟨bd, 0, none⟩) z z xd q hxl l3 hxd l5 (RdR.up hq) hq2 hq3) rfl (fun _ _ => ?_) | refine o1_pick_t rfl rfl ?_ | refine o1_pick_f rfl rfl ?_ | refine o1_fieldAddr rfl ?_ | refine ox_load rfl (by rfl) ?_ | refine ox_load_enc rfl (by first | omega | (simp; omega)) ?_ | refine ox_load_any rfl (by assumption) ?_ | refine o1_box rfl rfl (fun _ => ?_) | refine o1_len rfl ?_ | refine o1_add rfl rfl (by omega) ?_ | refine o1_lss_t rfl rfl (by omega) ?_ | refine o1_lss_f rfl rfl (by omega) ?_ | refine o1_lss rfl rfl (fun _ => ?_) (fun _ => ?_) | refine o1_neq_t rfl rfl (by omega) ?_ | refine o1_neq_f rfl rfl (by omega) ?_ | refine o1_neq rfl rfl (fun _ => ?_) (fun _ => ?_) | refine o1_maken (enc := B) 0#8 rfl rfl rfl rfl (by omega) (by omega) (by omega) (fun _ => ?_) | refine o1_slice_nil rfl ?_ | refine o1_buildx rfl (by simp only [buildL, putL, List.set_cons_zero, List.set_cons_succ, List.getElem?_cons_zero, List.getElem?_cons_succ, Option.getD_some, Value.cells, Nat.zero_add, Nat.reduceAdd]; rfl) (fun _ => by kernel_rfl) ?_ | refine o1_nilCheck rfl ?_)
          refine nx_again (i + 1) (by omega) (by omega) (cov_cons rfl rfl (cov_cons rfl rfl (cov_cons rfl rfl (cov_cons rfl rfl cov_nil)))) ?_
          rw [hnx]
          (try dsimp only [List.cons_append, List.nil_append, List.singleton_append, List.append_nil]); (repeat (first | exact Ent.nil | exact Ent.refl _ | (apply Ent.cons; (repeat (first | exact Sel.here | apply Sel.there)))))
    · have : i = n := by omega
      subst this
      repeat' (first | refine ls_of rfl ?_ | refine ls_of_no ?_ | refine ls_guard_yes rfl rfl ?_ | refine ls_guard_no rfl rfl rfl rfl ?_ | refine ls_guard_un rfl rfl rfl ?_ | refine o1_move rfl ?_ | refine o1_assign rfl ?_ | refine st_seq ?_ | refine st_region ?_ | refine st_block ?_ | refine st_skip ?_ | refine st_ret ?_ | refine st_exit ?_ | refine st_cond_t rfl ?_ | refine st_cond_f rfl ?_ | refine st_cond rfl (fun _ => ?_) (fun _ => ?_) | refine ls_nil ?_ | refine nx_seq ?_ | refine nx_blk ?_ | refine nx_fn ?_ | refine nx_rounds ?_ | refine xt_seq ?_ | refine xt_here ?_ | refine xt_on rfl ?_ | refine xt_rounds ?_ | refine xt_cut ?_ | refine rt_seq ?_ | refine rt_blk ?_ | refine rt_rounds ?_ | refine rt_cut ?_ | refine o1_pick_t rfl rfl ?_ | refine o1_pick_f rfl rfl ?_ | refine o1_fieldAddr rfl ?_ | refine ox_load rfl (by rfl) ?_ | refine ox_load_enc rfl (by first | omega | (simp; omega)) ?_ | refine ox_load_any rfl (by assumption) ?_ | refine o1_box rfl rfl (fun _ => ?_) | refine o1_len rfl ?_ | refine o1_add rfl rfl (by omega) ?_ | refine o1_lss_t rfl rfl (by omega) ?_ | refine o1_lss_f rfl rfl (by omega) ?_ | refine o1_lss rfl rfl (fun _ => ?_) (fun _ => ?_) | refine o1_neq_t rfl rfl (by omega) ?_ | refine o1_neq_f rfl rfl (by omega) ?_ | refine o1_neq rfl rfl (fun _ => ?_) (fun _ => ?_) | refine o1_maken (enc := B) 0#8 rfl rfl rfl rfl (by omega) (by omega) (by omega) (fun _ => ?_) | refine o1_slice_nil rfl ?_ | refine o1_buildx rfl (by simp only [buildL, putL, List.set_cons_zero, List.set_cons_succ, List.getElem?_cons_zero, List.getElem?_cons_succ, Option.getD_some, Value.cells, Nat.zero_add, Nat.reduceAdd]; rfl) (fun _ => by kernel_rfl) ?_ | refine o1_nilCheck rfl ?_)
      refine rt_tmp (⟨b, ⟨vb, i, va, vc, (redT ML (v.l, padD z dd) i).1⟩, some ⟨bd, 0, none⟩, z, z, (redT ML (v.l, padD z dd) i).2⟩ : RD) rfl rfl rfl ⟨rfl, rfl, ?_⟩ ?_
      · show ((redT ML (v.l, padD z dd) i).1, (redT ML (v.l, padD z dd) i).2) = red ML (v.l, padD z dd)
        rw [red, hLk.len]
      (try dsimp only [List.cons_append, List.nil_append, List.singleton_append, List.append_nil]); (repeat (first | exact Ent.nil | exact Ent.refl _ | (apply Ent.cons; (repeat (first | exact Sel.here | apply Sel.there)))))
theorem elim_reduced_ne (H : List Hl) (bm n : Nat) (v : VD) (ad0 : Option Addr) (m0 c0 : Nat) (hM : Cl (stars H) ⟨bm, 0, none⟩ (I n)) (hv : Cl (stars H) ⟨v.b, 0, none⟩ (I v.n)) (hvn : v.n ≠ n) :
    Spec Tryd.prog 54 [.pointer (some ⟨bm, 0, none⟩), Pv v, .slice ad0 m0 c0] H (fun _ : Unit => True) (fun _ => .pointer none) (fun _ => H) := by
  refine spec_pure (res := fun _ => []) H Tryd.func54 rfl Tryd.ntmps54 (by kernel_rfl) rfl (fun W => ?_)
  repeat' (first | refine ls_of rfl ?_ | refine ls_of_no ?_ | refine ls_guard_yes rfl rfl ?_ | refine ls_guard_no rfl rfl rfl rfl ?_ | refine ls_guard_un rfl rfl rfl ?_ | refine o1_move rfl ?_ | refine o1_assign rfl ?_ | refine st_seq ?_ | refine st_region ?_ | refine st_block ?_ | refine st_skip ?_ | refine st_ret ?_ | refine st_exit ?_ | refine st_cond_t rfl ?_ | refine st_cond_f rfl ?_ | refine st_cond rfl (fun _ => ?_) (fun _ => ?_) | refine ls_nil ?_ | refine nx_seq ?_ | refine nx_blk ?_ | refine nx_fn ?_ | refine nx_rounds ?_ | refine xt_seq ?_ | refine xt_here ?_ | refine xt_on rfl ?_ | refine xt_rounds ?_ | refine xt_cut ?_ | refine rt_seq ?_ | refine rt_blk ?_ | refine rt_rounds ?_ | refine rt_cut ?_ | refine o1_pick_t rfl rfl ?_ | refine o1_pick_f rfl rfl ?_ | refine o1_fieldAddr rfl ?_ | refine ox_load rfl (by rfl) ?_ | refine ox_load_enc rfl (by first | omega | (simp; omega)) ?_ | refine ox_load_any rfl (by assumption) ?_ | refine o1_box rfl rfl (fun _ => ?_) | refine o1_len rfl ?_ | refine o1_add rfl rfl (by omega) ?_ | refine o1_lss_t rfl rfl (by omega) ?_ | refine o1_lss_f rfl rfl (by omega) ?_ | refine o1_lss rfl rfl (fun _ => ?_) (fun _ => ?_) | refine o1_neq_t rfl rfl (by omega) ?_ | refine o1_neq_f rfl rfl (by omega) ?_ | refine o1_neq rfl rfl (fun _ => ?_) (fun _ => ?_) | refine o1_maken (enc := B) 0#8 rfl rfl rfl rfl (by omega) (by omega) (by omega) (fun _ => ?_) | refine o1_slice_nil rfl ?_ | refine o1_buildx rfl (by simp only [buildL, putL, List.set_cons_zero, List.set_cons_succ, List.getElem?_cons_zero, List.getElem?_cons_succ, Option.getD_some, Value.cells, Nat.zero_add, Nat.reduceAdd]; rfl) (fun _ => by kernel_rfl) ?_ | refine o1_nilCheck rfl ?_)
  refine st_stages [(0, _), (1, _)] rtW2_2 [4] [⟨[0, 1, 2, 3, 5, 6, 7, 8], [], some 4⟩, ⟨[9, 10], [5, 6, 7, 8], none⟩] mixed (cov_cons rfl rfl (cov_cons rfl rfl cov_nil)) (by kernel_rfl) (by kernel_rfl) ?_
  all_goals refine wk_ch ?_
  all_goals (refine xp1 0 rfl rfl rfl rfl (by first | refine o1_peql rfl rfl fz | refine o1_move rfl fz) ?_)
  all_goals (refine xp1 10 rfl rfl rfl rfl (by first | refine o1_peql rfl rfl fz | refine o1_slice_nil rfl fz) ?_)
  all_goals (refine xp1 11 rfl rfl rfl rfl (by first | refine o1_peql rfl rfl fz | refine o1_move rfl fz) ?_)
  all_goals first | (refine xpo1 rfl rfl rfl rfl ?_) | (refine xpo2 rfl rfl rfl rfl ?_) | (refine xpg1 1 rfl rfl rfl rfl rfl rfl (by first | refine o1_peql rfl rfl fz | refine o1_move rfl fz) ?_)
  all_goals first | (refine xpo1 rfl rfl rfl rfl ?_) | (refine xpo2 rfl rfl rfl rfl ?_) | (refine xpg1 0 rfl rfl rfl rfl rfl rfl (by first | refine o1_peql rfl rfl fz | refine o1_move rfl fz) ?_)
  all_goals first | (refine xpo1 rfl rfl rfl rfl ?_) | (refine xpo2 rfl rfl rfl rfl ?_) | (refine xpg1 15 rfl rfl rfl rfl rfl rfl (by first | refine o1_peql rfl rfl fz | refine o1_nilCheck rfl fz) ?_)
  all_goals first | (refine xpo1 rfl rfl rfl rfl ?_) | (refine xpo2 rfl rfl rfl rfl ?_) | (refine xpg1 16 rfl rfl rfl rfl rfl rfl (by first | refine o1_peql rfl rfl fz | refine o1_fieldAddr rfl fz) ?_)
  all_goals first | (refine xpo1 rfl rfl rfl rfl ?_) | (refine xpo2 rfl rfl rfl rfl ?_) | (refine xpg1 17 rfl rfl rfl rfl rfl rfl (by first | refine o1_peql rfl rfl fz | refine ox_load_any rfl hM fz | refine ox_load rfl (by rfl) fz | refine ox_load_enc rfl (by first | omega | (simp; omega)) fz | refine ox_load_any rfl (by assumption) fz) ?_)
  all_goals refine op_nil ?_
  all_goals refine re_nil ?_
  all_goals first | (refine ch_off rfl (by first | exact gd_o1 rfl rfl rfl | exact gd_o2 rfl rfl rfl) ?_) | (refine ch_run (E' := [(13, _)]) rfl (gd_r1 rfl rfl rfl) rfl (cov_cons rfl rfl cov_nil) ?_; (first | (refine o1_peql rfl rfl ?_) | (refine o1_call (fun _ => vec_Len _ v (cl_up hv)) rfl (fun _ _ => ?_))))
  all_goals refine wk_end ?_
  all_goals first | (refine xpo1 rfl rfl rfl rfl ?_) | (refine xpo2 rfl rfl rfl rfl ?_) | (refine xpg2 14 18 rfl rfl rfl rfl rfl rfl rfl (by first | refine o1_peql rfl rfl fz | refine o1_neq_t rfl rfl (by omega) fz | refine o1_neq_t rfl rfl (by omega) fz | refine o1_neq_f rfl rfl (by omega) fz | refine o1_neq_d rfl rfl fz) ?_)
  all_goals (refine xp2 12 19 rfl rfl rfl rfl rfl (by first | refine o1_peql rfl rfl fz | refine o1_pick_t rfl rfl fz | refine o1_pick_f rfl rfl fz) ?_)
  all_goals refine op_nil ?_
  all_goals first | (refine xqo1 rfl rfl rfl rfl rfl ?_) | (refine xqo2 rfl rfl rfl rfl rfl ?_) | (refine xqg1 0 rfl rfl rfl rfl rfl rfl rfl (by first | refine o1_peql rfl rfl fz | refine o1_move rfl fz) ?_)
  all_goals first | (refine xqo1 rfl rfl rfl rfl rfl ?_) | (refine xqo2 rfl rfl rfl rfl rfl ?_) | (refine xqg1 15 rfl rfl rfl rfl rfl rfl rfl (by first | refine o1_peql rfl rfl fz | refine o1_nilCheck rfl fz) ?_)
  all_goals first | (refine xqo1 rfl rfl rfl rfl rfl ?_) | (refine xqo2 rfl rfl rfl rfl rfl ?_) | (refine xqg1 16 rfl rfl rfl rfl rfl rfl rfl (by first | refine o1_peql rfl rfl fz | refine o1_fieldAddr rfl fz) ?_)
  all_goals first | (refine xqo1 rfl rfl rfl rfl rfl ?_) | (refine xqo2 rfl rfl rfl rfl rfl ?_) | (refine xqg1 17 rfl rfl rfl rfl rfl rfl rfl (by first | refine o1_peql rfl rfl fz | refine ox_load_any rfl hM fz | refine ox_load rfl (by rfl) fz | refine ox_load_enc rfl (by first | omega | (simp; omega)) fz | refine ox_load_any rfl (by assumption) fz) ?_)
  all_goals refine re_nil ?_
  all_goals dsimp only [List.cons_append, List.nil_append]
  repeat' (first | refine ls_of rfl ?_ | refine ls_of_no ?_ | refine ls_guard_yes rfl rfl ?_ | refine ls_guard_no rfl rfl rfl rfl ?_ | refine ls_guard_un rfl rfl rfl ?_ | refine o1_move rfl ?_ | refine o1_assign rfl ?_ | refine st_seq ?_ | refine st_region ?_ | refine st_block ?_ | refine st_skip ?_ | refine st_ret ?_ | refine st_exit ?_ | refine st_cond_t rfl ?_ | refine st_cond_f rfl ?_ | refine st_cond rfl (fun _ => ?_) (fun _ => ?_) | refine ls_nil ?_ | refine nx_seq ?_ | refine nx_blk ?_ | refine nx_fn ?_ | refine nx_rounds ?_ | refine xt_seq ?_ | refine xt_here ?_ | refine xt_on rfl ?_ | refine xt_rounds ?_ | refine xt_cut ?_ | refine rt_seq ?_ | refine rt_blk ?_ | refine rt_rounds ?_ | refine rt_cut ?_ | refine o1_pick_t rfl rfl ?_ | refine o1_pick_f rfl rfl ?_ | refine o1_fieldAddr rfl ?_ | refine ox_load rfl (by rfl) ?_ | refine ox_load_enc rfl (by first | omega | (simp; omega)) ?_ | refine ox_load_any rfl (by assumption) ?_ | refine o1_box rfl rfl (fun _ => ?_) | refine o1_len rfl ?_ | refine o1_add rfl rfl (by omega) ?_ | refine o1_lss_t rfl rfl (by omega) ?_ | refine o1_lss_f rfl rfl (by omega) ?_ | refine o1_lss rfl rfl (fun _ => ?_) (fun _ => ?_) | refine o1_neq_t rfl rfl (by omega) ?_ | refine o1_neq_f rfl rfl (by omega) ?_ | refine o1_neq rfl rfl (fun _ => ?_) (fun _ => ?_) | refine o1_maken (enc := B) 0#8 rfl rfl rfl rfl (by omega) (by omega) (by omega) (fun _ => ?_) | refine o1_slice_nil rfl ?_ | refine o1_buildx rfl (by simp only [buildL, putL, List.set_cons_zero, List.set_cons_succ, List.getElem?_cons_zero, List.getElem?_cons_succ, Option.getD_some, Value.cells, Nat.zero_add, Nat.reduceAdd]; rfl) (fun _ => by kernel_rfl) ?_ | refine o1_nilCheck rfl ?_)
  refine rt_tmp () rfl rfl rfl trivial ?_
  (try dsimp only [List.cons_append, List.nil_append, List.singleton_append, List.append_nil]); (repeat (first | exact Ent.nil | exact Ent.refl _ | (apply Ent.cons; (repeat (first | exact Sel.here | apply Sel.there)))))
theorem elim_reduced_vnil (H : List Hl) (bm n : Nat) (ad0 : Option Addr) (m0 c0 : Nat) (hM : Cl (stars H) ⟨bm, 0, none⟩ (I n)) (hn : 1 ≤ n) :
    Spec Tryd.prog 54 [.pointer (some ⟨bm, 0, none⟩), .pointer none, .slice ad0 m0 c0] H (fun _ : Unit => True) (fun _ => .pointer none) (fun _ => H) := by
  refine spec_pure (res := fun _ => []) H Tryd.func54 rfl Tryd.ntmps54 (by kernel_rfl) rfl (fun W => ?_)
  repeat' (first | refine ls_of rfl ?_ | refine ls_of_no ?_ | refine ls_guard_yes rfl rfl ?_ | refine ls_guard_no rfl rfl rfl rfl ?_ | refine ls_guard_un rfl rfl rfl ?_ | refine o1_move rfl ?_ | refine o1_assign rfl ?_ | refine st_seq ?_ | refine st_region ?_ | refine st_block ?_ | refine st_skip ?_ | refine st_ret ?_ | refine st_exit ?_ | refine st_cond_t rfl ?_ | refine st_cond_f rfl ?_ | refine st_cond rfl (fun _ => ?_) (fun _ => ?_) | refine ls_nil ?_ | refine nx_seq ?_ | refine nx_blk ?_ | refine nx_fn ?_ | refine nx_rounds ?_ | refine xt_seq ?_ | refine xt_here ?_ | refine xt_on rfl ?_ | refine xt_rounds ?_ | refine xt_cut ?_ | refine rt_seq ?_ | refine rt_blk ?_ | refine rt_rounds ?_ | refine rt_cut ?_ | refine o1_pick_t rfl rfl ?_ | refine o1_pick_f rfl rfl ?_ | refine o1_fieldAddr rfl ?_ | refine ox_load rfl (by rfl) ?_ | refine ox_load_enc rfl (by first | omega | (simp; omega)) ?_ | refine ox_load_any rfl (by assumption) ?_ | refine o1_box rfl rfl (fun _ => ?_) | refine o1_len rfl ?_ | refine o1_add rfl rfl (by omega) ?_ | refine o1_lss_t rfl rfl (by omega) ?_ | refine o1_lss_f rfl rfl (by omega) ?_ | refine o1_lss rfl rfl (fun _ => ?_) (fun _ => ?_) | refine o1_neq_t rfl rfl (by omega) ?_ | refine o1_neq_f rfl rfl (by omega) ?_ | refine o1_neq rfl rfl (fun _ => ?_) (fun _ => ?_) | refine o1_maken (enc := B) 0#8 rfl rfl rfl rfl (by omega) (by omega) (by omega) (fun _ => ?_) | refine o1_slice_nil rfl ?_ | refine o1_buildx rfl (by simp only [buildL, putL, List.set_cons_zero, List.set_cons_succ, List.getElem?_cons_zero, List.getElem?_cons_succ, Option.getD_some, Value.cells, Nat.zero_add, Nat.reduceAdd]; rfl) (fun _ => by kernel_rfl) ?_ | refine o1_nilCheck rfl ?_)
  refine st_stages [(0, _), (1, _)] rtW2_3 [4] [⟨[0, 1, 2, 3, 5, 6, 7, 8], [], some 4⟩, ⟨[9, 10], [5, 6, 7, 8], none⟩] mixed (cov_cons rfl rfl (cov_cons rfl rfl cov_nil)) (by kernel_rfl) (by kernel_rfl) ?_
  all_goals refine wk_ch ?_
  all_goals (refine xp1 0 rfl rfl rfl rfl (by first | refine o1_peql rfl rfl fz | refine o1_move rfl fz) ?_)
  all_goals (refine xp1 10 rfl rfl rfl rfl (by first | refine o1_peql rfl rfl fz | refine o1_slice_nil rfl fz) ?_)
  all_goals (refine xp1 11 rfl rfl rfl rfl (by first | refine o1_peql rfl rfl fz | refine o1_move rfl fz) ?_)
  all_goals first | (refine xpo1 rfl rfl rfl rfl ?_) | (refine xpo2 rfl rfl rfl rfl ?_) | (refine xpg1 1 rfl rfl rfl rfl rfl rfl (by first | refine o1_peql rfl rfl fz | refine o1_move rfl fz) ?_)
  all_goals first | (refine xpo1 rfl rfl rfl rfl ?_) | (refine xpo2 rfl rfl rfl rfl ?_) | (refine xpg1 0 rfl rfl rfl rfl rfl rfl (by first | refine o1_peql rfl rfl fz | refine o1_move rfl fz) ?_)
  all_goals first | (refine xpo1 rfl rfl rfl rfl ?_) | (refine xpo2 rfl rfl rfl rfl ?_) | (refine xpg1 15 rfl rfl rfl rfl rfl rfl (by first | refine o1_peql rfl rfl fz | refine o1_nilCheck rfl fz) ?_)
  all_goals first | (refine xpo1 rfl rfl rfl rfl ?_) | (refine xpo2 rfl rfl rfl rfl ?_) | (refine xpg1 16 rfl rfl rfl rfl rfl rfl (by first | refine o1_peql rfl rfl fz | refine o1_fieldAddr rfl fz) ?_)
  all_goals first | (refine xpo1 rfl rfl rfl rfl ?_) | (refine xpo2 rfl rfl rfl rfl ?_) | (refine xpg1 17 rfl rfl rfl rfl rfl rfl (by first | refine o1_peql rfl rfl fz | refine ox_load_any rfl hM fz | refine ox_load rfl (by rfl) fz | refine ox_load_enc rfl (by first | omega | (simp; omega)) fz | refine ox_load_any rfl (by assumption) fz) ?_)
  all_goals refine op_nil ?_
  all_goals refine re_nil ?_
  all_goals first | (refine ch_off rfl (by first | exact gd_o1 rfl rfl rfl | exact gd_o2 rfl rfl rfl) ?_) | (refine ch_run (E' := [(13, _)]) rfl (gd_r1 rfl rfl rfl) rfl (cov_cons rfl rfl cov_nil) ?_; (first | (refine o1_peql rfl rfl ?_) | (refine o1_call (fun _ => vec_Len_nil _) rfl (fun _ _ => ?_))))
  all_goals refine wk_end ?_
  all_goals first | (refine xpo1 rfl rfl rfl rfl ?_) | (refine xpo2 rfl rfl rfl rfl ?_) | (refine xpg2 14 18 rfl rfl rfl rfl rfl rfl rfl (by first | refine o1_peql rfl rfl fz | refine o1_neq_t rfl rfl (by omega) fz | refine o1_neq_t rfl rfl (by omega) fz | refine o1_neq_f rfl rfl (by omega) fz | refine o1_neq_d rfl rfl fz) ?_)
  all_goals (refine xp2 12 19 rfl rfl rfl rfl rfl (by first | refine o1_peql rfl rfl fz | refine o1_pick_t rfl rfl fz | refine o1_pick_f rfl rfl fz) ?_)
  all_goals refine op_nil ?_
  all_goals first | (refine xqo1 rfl rfl rfl rfl rfl ?_) | (refine xqo2 rfl rfl rfl rfl rfl ?_) | (refine xqg1 0 rfl rfl rfl rfl rfl rfl rfl (by first | refine o1_peql rfl rfl fz | refine o1_move rfl fz) ?_)
  all_goals first | (refine xqo1 rfl rfl rfl rfl rfl ?_) | (refine xqo2 rfl rfl rfl rfl rfl ?_) | (refine xqg1 15 rfl rfl rfl rfl rfl rfl rfl (by first | refine o1_peql rfl rfl fz | refine o1_nilCheck rfl fz) ?_)
  all_goals first | (refine xqo1 rfl rfl rfl rfl rfl ?_) | (refine xqo2 rfl rfl rfl rfl rfl ?_) | (refine xqg1 16 rfl rfl rfl rfl rfl rfl rfl (by first | refine o1_peql rfl rfl fz | refine o1_fieldAddr rfl fz) ?_)
  all_goals first | (refine xqo1 rfl rfl rfl rfl rfl ?_) | (refine xqo2 rfl rfl rfl rfl rfl ?_) | (refine xqg1 17 rfl rfl rfl rfl rfl rfl rfl (by first | refine o1_peql rfl rfl fz | refine ox_load_any rfl hM fz | refine ox_load rfl (by rfl) fz | refine ox_load_enc rfl (by first | omega | (simp; omega)) fz | refine ox_load_any rfl (by assumption) fz) ?_)
  all_goals refine re_nil ?_
  all_goals dsimp only [List.cons_append, List.nil_append]
  repeat' (first | refine ls_of rfl ?_ | refine ls_of_no ?_ | refine ls_guard_yes rfl rfl ?_ | refine ls_guard_no rfl rfl rfl rfl ?_ | refine ls_guard_un rfl rfl rfl ?_ | refine o1_move rfl ?_ | refine o1_assign rfl ?_ | refine st_seq ?_ | refine st_region ?_ | refine st_block ?_ | refine st_skip ?_ | refine st_ret ?_ | refine st_exit ?_ | refine st_cond_t rfl ?_ | refine st_cond_f rfl ?_ | refine st_cond rfl (fun _ => ?_) (fun _ => ?_) | refine ls_nil ?_ | refine nx_seq ?_ | refine nx_blk ?_ | refine nx_fn ?_ | refine nx_rounds ?_ | refine xt_seq ?_ | refine xt_here ?_ | refine xt_on rfl ?_ | refine xt_rounds ?_ | refine xt_cut ?_ | refine rt_seq ?_ | refine rt_blk ?_ | refine rt_rounds ?_ | refine rt_cut ?_ | refine o1_pick_t rfl rfl ?_ | refine o1_pick_f rfl rfl ?_ | refine o1_fieldAddr rfl ?_ | refine ox_load rfl (by rfl) ?_ | refine ox_load_enc rfl (by first | omega | (simp; omega)) ?_ | refine ox_load_any rfl (by assumption) ?_ | refine o1_box rfl rfl (fun _ => ?_) | refine o1_len rfl ?_ | refine o1_add rfl rfl (by omega) ?_ | refine o1_lss_t rfl rfl (by omega) ?_ | refine o1_lss_f rfl rfl (by omega) ?_ | refine o1_lss rfl rfl (fun _ => ?_) (fun _ => ?_) | refine o1_neq_t rfl rfl (by omega) ?_ | refine o1_neq_f rfl rfl (by omega) ?_ | refine o1_neq rfl rfl (fun _ => ?_) (fun _ => ?_) | refine o1_maken (enc := B) 0#8 rfl rfl rfl rfl (by omega) (by omega) (by omega) (fun _ => ?_) | refine o1_slice_nil rfl ?_ | refine o1_buildx rfl (by simp only [buildL, putL, List.set_cons_zero, List.set_cons_succ, List.getElem?_cons_zero, List.getElem?_cons_succ, Option.getD_some, Value.cells, Nat.zero_add, Nat.reduceAdd]; rfl) (fun _ => by kernel_rfl) ?_ | refine o1_nilCheck rfl ?_)
  refine rt_tmp () rfl rfl rfl trivial ?_
  (try dsimp only [List.cons_append, List.nil_append, List.singleton_append, List.append_nil]); (repeat (first | exact Ent.nil | exact Ent.refl _ | (apply Ent.cons; (repeat (first | exact Sel.here | apply Sel.there)))))
theorem elim_reduced_nil (H : List Hl) (p : Option Addr) (ad0 : Option Addr) (m0 c0 : Nat) :
    Spec Tryd.prog 54 [.pointer none, .pointer p, .slice ad0 m0 c0] H (fun _ : Unit => True) (fun _ => .pointer none) (fun _ => H) := by
  refine spec_pure (res := fun _ => []) H Tryd.func54 rfl Tryd.ntmps54 (by kernel_rfl) rfl (fun W => ?_)
  repeat' (first | refine ls_of rfl ?_ | refine ls_of_no ?_ | refine ls_guard_yes rfl rfl ?_ | refine ls_guard_no rfl rfl rfl rfl ?_ | refine ls_guard_un rfl rfl rfl ?_ | refine o1_move rfl ?_ | refine o1_assign rfl ?_ | refine st_seq ?_ | refine st_region ?_ | refine st_block ?_ | refine st_skip ?_ | refine st_ret ?_ | refine st_exit ?_ | refine st_cond_t rfl ?_ | refine st_cond_f rfl ?_ | refine st_cond rfl (fun _ => ?_) (fun _ => ?_) | refine ls_nil ?_ | refine nx_seq ?_ | refine nx_blk ?_ | refine nx_fn ?_ | refine nx_rounds ?_ | refine xt_seq ?_ | refine xt_here ?_ | refine xt_on rfl ?_ | refine xt_rounds ?_ | refine xt_cut ?_ | refine rt_seq ?_ | refine rt_blk ?_ | refine rt_rounds ?_ | refine rt_cut ?_ | refine o1_pick_t rfl rfl ?_ | refine o1_pick_f rfl rfl ?_ | refine o1_fieldAddr rfl ?_ | refine ox_load rfl (by rfl) ?_ | refine ox_load_enc rfl (by first | omega | (simp; omega)) ?_ | refine ox_load_any rfl (by assumption) ?_ | refine o1_box rfl rfl (fun _ => ?_) | refine o1_len rfl ?_ | refine o1_add rfl rfl (by omega) ?_ | refine o1_lss_t rfl rfl (by omega) ?_ | refine o1_lss_f rfl rfl (by omega) ?_ | refine o1_lss rfl rfl (fun _ => ?_) (fun _ => ?_) | refine o1_neq_t rfl rfl (by omega) ?_ | refine o1_neq_f rfl rfl (by omega) ?_ | refine o1_neq rfl rfl (fun _ => ?_) (fun _ => ?_) | refine o1_maken (enc := B) 0#8 rfl rfl rfl rfl (by omega) (by omega) (by omega) (fun _ => ?_) | refine o1_slice_nil rfl ?_ | refine o1_buildx rfl (by simp only [buildL, putL, List.set_cons_zero, List.set_cons_succ, List.getElem?_cons_zero, List.getElem?_cons_succ, Option.getD_some, Value.cells, Nat.zero_add, Nat.reduceAdd]; rfl) (fun _ => by kernel_rfl) ?_ | refine o1_nilCheck rfl ?_)
  refine st_stages [(0, _), (1, _)] rtW2_4 [4] [⟨[0, 1, 2, 3, 5, 6, 7, 8], [], some 4⟩, ⟨[9, 10], [5, 6, 7, 8], none⟩] mixed (cov_cons rfl rfl (cov_cons rfl rfl cov_nil)) (by kernel_rfl) (by kernel_rfl) ?_
  all_goals refine wk_ch ?_
  all_goals (refine xp1 0 rfl rfl rfl rfl (by first | refine o1_peql rfl rfl fz | refine o1_move rfl fz) ?_)
  all_goals (refine xp1 10 rfl rfl rfl rfl (by first | refine o1_peql rfl rfl fz | refine o1_slice_nil rfl fz) ?_)
  all_goals (refine xp1 11 rfl rfl rfl rfl (by first | refine o1_peql rfl rfl fz | refine o1_move rfl fz) ?_)
  all_goals first | (refine xpo1 rfl rfl rfl rfl ?_) | (refine xpo2 rfl rfl rfl rfl ?_) | (refine xpg1 1 rfl rfl rfl rfl rfl rfl (by first | refine o1_peql rfl rfl fz | refine o1_move rfl fz) ?_)
  all_goals first | (refine xpo1 rfl rfl rfl rfl ?_) | (refine xpo2 rfl rfl rfl rfl ?_) | (refine xpg1 0 rfl rfl rfl rfl rfl rfl (by first | refine o1_peql rfl rfl fz | refine o1_move rfl fz) ?_)
  all_goals first | (refine xpo1 rfl rfl rfl rfl ?_) | (refine xpo2 rfl rfl rfl rfl ?_) | (refine xpg1 15 rfl rfl rfl rfl rfl rfl (by first | refine o1_peql rfl rfl fz | refine o1_nilCheck rfl fz) ?_)
  all_goals first | (refine xpo1 rfl rfl rfl rfl ?_) | (refine xpo2 rfl rfl rfl rfl ?_) | (refine xpg1 16 rfl rfl rfl rfl rfl rfl (by first | refine o1_peql rfl rfl fz | refine o1_fieldAddr rfl fz) ?_)
  all_goals first | (refine xpo1 rfl rfl rfl rfl ?_) | (refine xpo2 rfl rfl rfl rfl ?_) | (refine xpg1 17 rfl rfl rfl rfl rfl rfl (by first | refine o1_peql rfl rfl fz | refine ox_load rfl (by rfl) fz | refine ox_load_enc rfl (by first | omega | (simp; omega)) fz | refine ox_load_any rfl (by assumption) fz) ?_)
  all_goals refine op_nil ?_
  all_goals refine re_nil ?_
  all_goals first | (refine ch_off rfl (by first | exact gd_o1 rfl rfl rfl | exact gd_o2 rfl rfl rfl) ?_) | (refine ch_run (E' := [(13, _)]) rfl (gd_r1 rfl rfl rfl) rfl (cov_cons rfl rfl cov_nil) ?_; (first | (refine o1_peql rfl rfl ?_)))
  all_goals refine wk_end ?_
  all_goals first | (refine xpo1 rfl rfl rfl rfl ?_) | (refine xpo2 rfl rfl rfl rfl ?_) | (refine xpg2 14 18 rfl rfl rfl rfl rfl rfl rfl (by first | refine o1_peql rfl rfl fz | refine o1_neq_t rfl rfl (by omega) fz | refine o1_neq_f rfl rfl (by omega) fz | refine o1_neq_d rfl rfl fz) ?_)
  all_goals (refine xp2 12 19 rfl rfl rfl rfl rfl (by first | refine o1_peql rfl rfl fz | refine o1_pick_t rfl rfl fz | refine o1_pick_f rfl rfl fz) ?_)
  all_goals refine op_nil ?_
  all_goals first | (refine xqo1 rfl rfl rfl rfl rfl ?_) | (refine xqo2 rfl rfl rfl rfl rfl ?_) | (refine xqg1 0 rfl rfl rfl rfl rfl rfl rfl (by first | refine o1_peql rfl rfl fz | refine o1_move rfl fz) ?_)
  all_goals first | (refine xqo1 rfl rfl rfl rfl rfl ?_) | (refine xqo2 rfl rfl rfl rfl rfl ?_) | (refine xqg1 15 rfl rfl rfl rfl rfl rfl rfl (by first | refine o1_peql rfl rfl fz | refine o1_nilCheck rfl fz) ?_)
  all_goals first | (refine xqo1 rfl rfl rfl rfl rfl ?_) | (refine xqo2 rfl rfl rfl rfl rfl ?_) | (refine xqg1 16 rfl rfl rfl rfl rfl rfl rfl (by first | refine o1_peql rfl rfl fz | refine o1_fieldAddr rfl fz) ?_)
  all_goals first | (refine xqo1 rfl rfl rfl rfl rfl ?_) | (refine xqo2 rfl rfl rfl rfl rfl ?_) | (refine xqg1 17 rfl rfl rfl rfl rfl rfl rfl (by first | refine o1_peql rfl rfl fz | refine ox_load rfl (by rfl) fz | refine ox_load_enc rfl (by first | omega | (simp; omega)) fz | refine ox_load_any rfl (by assumption) fz) ?_)
  all_goals refine re_nil ?_
  all_goals dsimp only [List.cons_append, List.nil_append]
  repeat' (first | refine ls_of rfl ?_ | refine ls_of_no ?_ | refine ls_guard_yes rfl rfl ?_ | refine ls_guard_no rfl rfl rfl rfl ?_ | refine ls_guard_un rfl rfl rfl ?_ | refine o1_move rfl ?_ | refine o1_assign rfl ?_ | refine st_seq ?_ | refine st_region ?_ | refine st_block ?_ | refine st_skip ?_ | refine st_ret ?_ | refine st_exit ?_ | refine st_cond_t rfl ?_ | refine st_cond_f rfl ?_ | refine st_cond rfl (fun _ => ?_) (fun _ => ?_) | refine ls_nil ?_ | refine nx_seq ?_ | refine nx_blk ?_ | refine nx_fn ?_ | refine nx_rounds ?_ | refine xt_seq ?_ | refine xt_here ?_ | refine xt_on rfl ?_ | refine xt_rounds ?_ | refine xt_cut ?_ | refine rt_seq ?_ | refine rt_blk ?_ | refine rt_rounds ?_ | refine rt_cut ?_ | refine o1_pick_t rfl rfl ?_ | refine o1_pick_f rfl rfl ?_ | refine o1_fieldAddr rfl ?_ | refine ox_load rfl (by rfl) ?_ | refine ox_load_enc rfl (by first | omega | (simp; omega)) ?_ | refine ox_load_any rfl (by assumption) ?_ | refine o1_box rfl rfl (fun _ => ?_) | refine o1_len rfl ?_ | refine o1_add rfl rfl (by omega) ?_ | refine o1_lss_t rfl rfl (by omega) ?_ | refine o1_lss_f rfl rfl (by omega) ?_ | refine o1_lss rfl rfl (fun _ => ?_) (fun _ => ?_) | refine o1_neq_t rfl rfl (by omega) ?_ | refine o1_neq_f rfl rfl (by omega) ?_ | refine o1_neq rfl rfl (fun _ => ?_) (fun _ => ?_) | refine o1_maken (enc := B) 0#8 rfl rfl rfl rfl (by omega) (by omega) (by omega) (fun _ => ?_) | refine o1_slice_nil rfl ?_ | refine o1_buildx rfl (by simp only [buildL, putL, List.set_cons_zero, List.set_cons_succ, List.getElem?_cons_zero, List.getElem?_cons_succ, Option.getD_some, Value.cells, Nat.zero_add, Nat.reduceAdd]; rfl) (fun _ => by kernel_rfl) ?_ | refine o1_nilCheck rfl ?_)
  refine rt_tmp () rfl rfl rfl trivial ?_
  (try dsimp only [List.cons_append, List.nil_append, List.singleton_append, List.append_nil]); (repeat (first | exact Ent.nil | exact Ent.refl _ | (apply Ent.cons; (repeat (first | exact Sel.here | apply Sel.there)))))
theorem xf_load64 : XFn Tryd.prog 70 (Extern.Atomic.loadT (.int .i64)) := ⟨by kernel_rfl, by kernel_rfl⟩
theorem xf_add64 : XFn Tryd.prog 69 (Extern.Atomic.update (Op.intArith .add) .i64 true) := ⟨by kernel_rfl, by kernel_rfl⟩
theorem o1_xload_any {P : Program} {n : Nat} {H : List Hl} {e : Ev} {C : Value → List Hl → Prop} {ty : TypeId} {f : FuncId} {xs : List Operand} {ats : Array TypeId} {a0 : Addr} {H' : List Hl} {k : IntKind} {p : Int} {A : Hp → Prop} (x : XFn P f (Extern.Atomic.loadT (.int k))) (hxs : opds e xs = some [.pointer (some a0)]) (hc : Cl A a0 (.int k p)) [s : SAny H A H'] (h : C (.int k p) H) : O1 P (.call ⟨.value (.func f), xs.toArray, ats⟩) ty n e H C :=
  o1_xval _ hxs (fun a w ho => by
    obtain ⟨fn, h1, h2, h3, h4, h5⟩ := x.of
    exact run_call_load h1 h2 h3 h4 k h5 (hc.cell w (sel_sat s.s w ho.sat))) h
theorem at_Load64 (H : List Hl) (b i : Nat) (k : Int) (h : Cl (stars H) ⟨b, i, none⟩ (I k)) :
    Spec Tryd.prog 57 [.pointer (some ⟨b, i, none⟩)] H (fun _ : Unit => True) (fun _ => I k) (fun _ => H) := by
  refine spec_pure (res := fun _ => []) H Tryd.func57 rfl Tryd.ntmps57 (by kernel_rfl) rfl (fun W => ?_)
  repeat' (first | refine ls_of rfl ?_ | refine ls_of_no ?_ | refine ls_guard_yes rfl rfl ?_ | refine ls_guard_no rfl rfl rfl rfl ?_ | refine ls_guard_un rfl rfl rfl ?_ | refine o1_move rfl ?_ | refine o1_assign rfl ?_ | refine st_seq ?_ | refine st_region ?_ | refine st_block ?_ | refine st_skip ?_ | refine st_ret ?_ | refine st_exit ?_ | refine st_cond_t rfl ?_ | refine st_cond_f rfl ?_ | refine st_cond rfl (fun _ => ?_) (fun _ => ?_) | refine ls_nil ?_ | refine nx_seq ?_ | refine nx_blk ?_ | refine nx_fn ?_ | refine nx_rounds ?_ | refine xt_seq ?_ | refine xt_here ?_ | refine xt_on rfl ?_ | refine xt_rounds ?_ | refine xt_cut ?_ | refine rt_seq ?_ | refine rt_blk ?_ | refine rt_rounds ?_ | refine rt_cut ?_ | refine o1_xload_any xf_load64 rfl h ?_ | refine o1_fieldAddr rfl ?_ | refine o1_nilCheck rfl ?_)
  refine rt_tmp () rfl rfl rfl trivial ?_
  (try dsimp only [List.cons_append, List.nil_append, List.singleton_append, List.append_nil]); (repeat (first | exact Ent.nil | exact Ent.refl _ | (apply Ent.cons; (repeat (first | exact Sel.here | apply Sel.there)))))
theorem at_Add64 (H : List Hl) (b n z : Nat) (ar : Option Addr) (cr k : Nat) (hk : k ≤ 1000) :
    Spec Tryd.prog 56 [.pointer (some ⟨b, 3, none⟩), I 1] (mB b n z ar cr k :: H) (fun _ : Unit => True) (fun _ => I (k + 1 : Nat)) (fun _ => mB b n z ar cr (k + 1) :: H) := by
  refine spec_fn (res := fun _ : Unit => [mB b n z ar cr (k + 1)]) [mB b n z ar cr k] H Tryd.func56 rfl Tryd.ntmps56 (by kernel_rfl) rfl (fun W => ?_)
  dsimp only [List.cons_append, List.nil_append]
  repeat' (first | refine ls_of rfl ?_ | refine ls_of_no ?_ | refine ls_guard_yes rfl rfl ?_ | refine ls_guard_no rfl rfl rfl rfl ?_ | refine ls_guard_un rfl rfl rfl ?_ | refine o1_move rfl ?_ | refine o1_assign rfl ?_ | refine st_seq ?_ | refine st_region ?_ | refine st_block ?_ | refine st_skip ?_ | refine st_ret ?_ | refine st_exit ?_ | refine st_cond_t rfl ?_ | refine st_cond_f rfl ?_ | refine st_cond rfl (fun _ => ?_) (fun _ => ?_) | refine ls_nil ?_ | refine nx_seq ?_ | refine nx_blk ?_ | refine nx_fn ?_ | refine nx_rounds ?_ | refine xt_seq ?_ | refine xt_here ?_ | refine xt_on rfl ?_ | refine xt_rounds ?_ | refine xt_cut ?_ | refine rt_seq ?_ | refine rt_blk ?_ | refine rt_rounds ?_ | refine rt_cut ?_ | refine o1_xadd xf_add64 rfl (b := b) (i := 3) (r := ((k + 1 : Nat) : Int)) rfl (by rw [wrap_in (by omega) (by omega)]; push_cast; rfl) ?_ | refine o1_fieldAddr rfl ?_ | refine o1_nilCheck rfl ?_)
  refine rt_tmp () rfl rfl rfl trivial ?_
  (try dsimp only [List.cons_append, List.nil_append, List.singleton_append, List.append_nil]); (repeat (first | exact Ent.nil | exact Ent.refl _ | (apply Ent.cons; (repeat (first | exact Sel.here | apply Sel.there)))))
theorem elim_Rank (H : List Hl) (bm k : Nat) (h : Cl (stars H) ⟨bm, 3, none⟩ (I k)) :
    Spec Tryd.prog 24 [.pointer (some ⟨bm, 0, none⟩)] H (fun _ : Unit => True) (fun _ => I k) (fun _ => H) := by
  refine spec_pure (res := fun _ => []) H Tryd.func24 rfl Tryd.ntmps24 (by kernel_rfl) rfl (fun W => ?_)
  repeat' (first | refine ls_of rfl ?_ | refine ls_of_no ?_ | refine ls_guard_yes rfl rfl ?_ | refine ls_guard_no rfl rfl rfl rfl ?_ | refine ls_guard_un rfl rfl rfl ?_ | refine o1_move rfl ?_ | refine o1_assign rfl ?_ | refine st_seq ?_ | refine st_region ?_ | refine st_block ?_ | refine st_skip ?_ | refine st_ret ?_ | refine st_exit ?_ | refine st_cond_t rfl ?_ | refine st_cond_f rfl ?_ | refine st_cond rfl (fun _ => ?_) (fun _ => ?_) | refine ls_nil ?_ | refine nx_seq ?_ | refine nx_blk ?_ | refine nx_fn ?_ | refine nx_rounds ?_ | refine xt_seq ?_ | refine xt_here ?_ | refine xt_on rfl ?_ | refine xt_rounds ?_ | refine xt_cut ?_ | refine rt_seq ?_ | refine rt_blk ?_ | refine rt_rounds ?_ | refine rt_cut ?_ | refine o1_peql rfl rfl ?_ | refine o1_call (fun _ => at_Load64 _ bm 3 k (cl_up h)) rfl (fun _ _ => ?_) | refine o1_fieldAddr rfl ?_ | refine o1_slice_nil rfl ?_ | refine o1_nilCheck rfl ?_)
  refine rt_tmp () rfl rfl rfl trivial ?_
  (try dsimp only [List.cons_append, List.nil_append, List.singleton_append, List.append_nil]); (repeat (first | exact Ent.nil | exact Ent.refl _ | (apply Ent.cons; (repeat (first | exact Sel.here | apply Sel.there)))))
theorem elim_Full (H : List Hl) (bm n k : Nat) (h : Cl (stars H) ⟨bm, 3, none⟩ (I k)) (h0 : Cl (stars H) ⟨bm, 0, none⟩ (I n)) :
    Spec Tryd.prog 25 [.pointer (some ⟨bm, 0, none⟩)] H (fun _ : Unit => True) (fun _ => .bool (decide ((k : Int) = n))) (fun _ => H) := by
  refine spec_pure (res := fun _ => []) H Tryd.func25 rfl Tryd.ntmps25 (by kernel_rfl) rfl (fun W => ?_)
  repeat' (first | refine ls_of rfl ?_ | refine ls_of_no ?_ | refine ls_guard_yes rfl rfl ?_ | refine ls_guard_no rfl rfl rfl rfl ?_ | refine ls_guard_un rfl rfl rfl ?_ | refine o1_move rfl ?_ | refine o1_assign rfl ?_ | refine st_seq ?_ | refine st_region ?_ | refine st_block ?_ | refine st_skip ?_ | refine st_ret ?_ | refine st_exit ?_ | refine st_cond_t rfl ?_ | refine st_cond_f rfl ?_ | refine st_cond rfl (fun _ => ?_) (fun _ => ?_) | refine ls_nil ?_ | refine nx_seq ?_ | refine nx_blk ?_ | refine nx_fn ?_ | refine nx_rounds ?_ | refine xt_seq ?_ | refine xt_here ?_ | refine xt_on rfl ?_ | refine xt_rounds ?_ | refine xt_cut ?_ | refine rt_seq ?_ | refine rt_blk ?_ | refine rt_rounds ?_ | refine rt_cut ?_ | refine o1_pick_t rfl rfl ?_ | refine o1_pick_f rfl rfl ?_ | refine o1_fieldAddr rfl ?_ | refine ox_load rfl (by rfl) ?_ | refine ox_load_enc rfl (by first | omega | (simp; omega)) ?_ | refine ox_load_any rfl (by assumption) ?_ | refine o1_eql_t rfl rfl (by omega) ?_ | refine o1_eql_f rfl rfl (by omega) ?_ | refine o1_eql rfl rfl (fun _ => ?_) (fun _ => ?_) | refine o1_slice_nil rfl ?_ | refine o1_nilCheck rfl ?_)
  refine st_stages [(0, _)] rtW2_5 [4] [⟨[0, 1, 2, 3, 5, 6, 7, 8], [], some 4⟩, ⟨[9, 10, 11], [5, 6, 7, 8], none⟩] mixed (cov_cons rfl rfl cov_nil) (by kernel_rfl) (by kernel_rfl) ?_
  all_goals refine wk_ch ?_
  all_goals (refine xp1 0 rfl rfl rfl rfl (by first | refine o1_pneq rfl rfl fz | refine o1_move rfl fz) ?_)
  all_goals (refine xp1 3 rfl rfl rfl rfl (by first | refine o1_pneq rfl rfl fz | refine o1_slice_nil rfl fz) ?_)
  all_goals (refine xp1 4 rfl rfl rfl rfl (by first | refine o1_pneq rfl rfl fz | refine o1_move rfl fz) ?_)
  all_goals first | (refine xpo1 rfl rfl rfl rfl ?_) | (refine xpo2 rfl rfl rfl rfl ?_) | (refine xpg1 0 rfl rfl rfl rfl rfl rfl (by first | refine o1_pneq rfl rfl fz | refine o1_move rfl fz) ?_)
  all_goals first | (refine xpo1 rfl rfl rfl rfl ?_) | (refine xpo2 rfl rfl rfl rfl ?_) | (refine xpg1 0 rfl rfl rfl rfl rfl rfl (by first | refine o1_pneq rfl rfl fz | refine o1_move rfl fz) ?_)
  all_goals first | (refine xpo1 rfl rfl rfl rfl ?_) | (refine xpo2 rfl rfl rfl rfl ?_) | (refine xpg1 8 rfl rfl rfl rfl rfl rfl (by first | refine o1_pneq rfl rfl fz | refine o1_nilCheck rfl fz) ?_)
  all_goals first | (refine xpo1 rfl rfl rfl rfl ?_) | (refine xpo2 rfl rfl rfl rfl ?_) | (refine xpg1 9 rfl rfl rfl rfl rfl rfl (by first | refine o1_pneq rfl rfl fz | refine o1_fieldAddr rfl fz) ?_)
  all_goals first | (refine xpo1 rfl rfl rfl rfl ?_) | (refine xpo2 rfl rfl rfl rfl ?_) | (refine xpg1 10 rfl rfl rfl rfl rfl rfl (by first | refine o1_pneq rfl rfl fz | refine ox_load_any rfl h0 fz | refine ox_load rfl (by rfl) fz | refine ox_load_enc rfl (by first | omega | (simp; omega)) fz | refine ox_load_any rfl (by assumption) fz) ?_)
  all_goals refine op_nil ?_
  all_goals refine re_nil ?_
  all_goals first | (refine ch_off rfl (by first | exact gd_o1 rfl rfl rfl | exact gd_o2 rfl rfl rfl) ?_) | (refine ch_run (E' := [(6, _)]) rfl (gd_r1 rfl rfl rfl) rfl (cov_cons rfl rfl cov_nil) ?_; (first | (refine o1_pneq rfl rfl ?_) | (refine o1_call (fun _ => elim_Rank _ bm k (cl_up h)) rfl (fun _ _ => ?_))))
  all_goals refine wk_end ?_
  all_goals first | (refine xpo1 rfl rfl rfl rfl ?_) | (refine xpo2 rfl rfl rfl rfl ?_) | (refine xpg2 7 11 rfl rfl rfl rfl rfl rfl rfl (by first | refine o1_pneq rfl rfl fz | refine o1_eql_d rfl rfl fz | refine o1_eql_t rfl rfl (by omega) fz | refine o1_eql_f rfl rfl (by omega) fz | refine o1_eql_d rfl rfl fz) ?_)
  all_goals (refine xp2 5 12 rfl rfl rfl rfl rfl (by first | refine o1_pneq rfl rfl fz | refine o1_pick_t rfl rfl fz | refine o1_pick_f rfl rfl fz) ?_)
  all_goals (refine xp1 13 rfl rfl rfl rfl (by first | refine o1_pneq rfl rfl fz | refine o1_assign rfl fz) ?_)
  all_goals refine op_nil ?_
  all_goals first | (refine xqo1 rfl rfl rfl rfl rfl ?_) | (refine xqo2 rfl rfl rfl rfl rfl ?_) | (refine xqg1 0 rfl rfl rfl rfl rfl rfl rfl (by first | refine o1_pneq rfl rfl fz | refine o1_move rfl fz) ?_)
  all_goals first | (refine xqo1 rfl rfl rfl rfl rfl ?_) | (refine xqo2 rfl rfl rfl rfl rfl ?_) | (refine xqg1 8 rfl rfl rfl rfl rfl rfl rfl (by first | refine o1_pneq rfl rfl fz | refine o1_nilCheck rfl fz) ?_)
  all_goals first | (refine xqo1 rfl rfl rfl rfl rfl ?_) | (refine xqo2 rfl rfl rfl rfl rfl ?_) | (refine xqg1 9 rfl rfl rfl rfl rfl rfl rfl (by first | refine o1_pneq rfl rfl fz | refine o1_fieldAddr rfl fz) ?_)
  all_goals first | (refine xqo1 rfl rfl rfl rfl rfl ?_) | (refine xqo2 rfl rfl rfl rfl rfl ?_) | (refine xqg1 10 rfl rfl rfl rfl rfl rfl rfl (by first | refine o1_pneq rfl rfl fz | refine ox_load_any rfl h0 fz | refine ox_load rfl (by rfl) fz | refine ox_load_enc rfl (by first | omega | (simp; omega)) fz | refine ox_load_any rfl (by assumption) fz) ?_)
  all_goals refine re_nil ?_
  all_goals dsimp only [List.cons_append, List.nil_append]
  repeat' (first | refine ls_of rfl ?_ | refine ls_of_no ?_ | refine ls_guard_yes rfl rfl ?_ | refine ls_guard_no rfl rfl rfl rfl ?_ | refine ls_guard_un rfl rfl rfl ?_ | refine o1_move rfl ?_ | refine o1_assign rfl ?_ | refine st_seq ?_ | refine st_region ?_ | refine st_block ?_ | refine st_skip ?_ | refine st_ret ?_ | refine st_exit ?_ | refine st_cond_t rfl ?_ | refine st_cond_f rfl ?_ | refine st_cond rfl (fun _ => ?_) (fun _ => ?_) | refine ls_nil ?_ | refine nx_seq ?_ | refine nx_blk ?_ | refine nx_fn ?_ | refine nx_rounds ?_ | refine xt_seq ?_ | refine xt_here ?_ | refine xt_on rfl ?_ | refine xt_rounds ?_ | refine xt_cut ?_ | refine rt_seq ?_ | refine rt_blk ?_ | refine rt_rounds ?_ | refine rt_cut ?_ | refine o1_pick_t rfl rfl ?_ | refine o1_pick_f rfl rfl ?_ | refine o1_fieldAddr rfl ?_ | refine ox_load rfl (by rfl) ?_ | refine ox_load_enc rfl (by first | omega | (simp; omega)) ?_ | refine ox_load_any rfl (by assumption) ?_ | refine o1_eql_t rfl rfl (by omega) ?_ | refine o1_eql_f rfl rfl (by omega) ?_ | refine o1_eql rfl rfl (fun _ => ?_) (fun _ => ?_) | refine o1_slice_nil rfl ?_ | refine o1_nilCheck rfl ?_)
  refine rt_tmp () rfl rfl rfl trivial ?_
  (try dsimp only [List.cons_append, List.nil_append, List.singleton_append, List.append_nil]); (repeat (first | exact Ent.nil | exact Ent.refl _ | (apply Ent.cons; (repeat (first | exact Sel.here | apply Sel.there)))))
end Go.Dp
