/-
  elim: Row, Says, Bytes of a matrix that there isn't; downpourlaw6: awake, ElimNil, walked.
  Walks of functions that the laws of this seat reach, as contracts.
  elim.Bytes and From, walked.
  The reference's matrix: Bytes; elim.Row; what a matrix is like, walked.
  Matrices, reduced: what is spanned, the order of adding, sums of pieces; plain.
  Sums of pieces, plain.
  elim.Says, walked; sums of the pieces of ElimSpans, plain.
  A matrix is as the page has it (downpourlaw6.like), walked.
  Conditions: those that stand in each theorem.
-/
import Derived.Test.YtlmmnnhbnbakgaaDoorQElimPlays3
import Derived.Test.YtlmmnnhbnbakgaaDoorQElimPlays1
set_option linter.unusedVariables false
set_option linter.unusedSimpArgs false
namespace Go.Dp
open Go.RowKit Go.Proofs
theorem rt_tmp3 {P : Program} {n : Nat} {e : Ev} {W : World} {H : List Hl} {X : Type} {fn : Func} {good : X → Prop} {val : X → Value} {res : X → List Hl} {t t' t2 : Nat} {v v' v2 : Value} (r : X) (hres : fn.results = #[.tmp t, .tmp t', .tmp t2]) (hl : look e t = some v) (hl' : look e t' = some v') (hl2 : look e t2 = some v2) (hv : .tuple #[v, v', v2] = val r) (hg : good r) (hE : Ent H (res r)) :
    Rt P (.fn fn fun x w' => ∃ r, good r ∧ x = .returned (val r) ∧ Ext W w' ∧ sat w' (stars (res r))) n e W H :=
  rt_fn (v := .tuple #[v, v', v2]) (fun a w ho => by simp [results, hres, ho.ev.get t v hl, ho.ev.get t' v' hl', ho.ev.get t2 v2 hl2]) r hg hv hE
theorem elim_Row_nil (H : List Hl) (i : Int) :
    Spec Tryd.prog 39 [.pointer none, I i] H (fun _ : Unit => True) (fun _ => .tuple #[.pointer none, .slice none 0 0, .bool false]) (fun _ => H) := by
  refine spec_pure (res := fun _ => []) H Tryd.func39 rfl Tryd.ntmps39 (by kernel_rfl) rfl (fun W => ?_)
  repeat' (first | refine ls_of rfl ?_ | refine ls_of_no ?_ | refine ls_guard_yes rfl rfl ?_ | refine ls_guard_no rfl rfl rfl rfl ?_ | refine ls_guard_un rfl rfl rfl ?_ | refine o1_move rfl ?_ | refine o1_assign rfl ?_ | refine st_seq ?_ | refine st_region ?_ | refine st_block ?_ | refine st_skip ?_ | refine st_ret ?_ | refine st_exit ?_ | refine st_cond_t rfl ?_ | refine st_cond_f rfl ?_ | refine st_cond rfl (fun _ => ?_) (fun _ => ?_) | refine ls_nil ?_ | refine nx_seq ?_ | refine nx_blk ?_ | refine nx_fn ?_ | refine nx_rounds ?_ | refine xt_seq ?_ | refine xt_here ?_ | refine xt_on rfl ?_ | refine xt_rounds ?_ | refine xt_cut ?_ | refine rt_seq ?_ | refine rt_blk ?_ | refine rt_rounds ?_ | refine rt_cut ?_ | refine o1_peql rfl rfl ?_ | refine o1_pick_t rfl rfl ?_ | refine o1_pick_f rfl rfl ?_ | refine o1_fieldAddr rfl ?_ | refine ox_load rfl (by rfl) ?_ | refine ox_load_enc rfl (by first | omega | (simp; omega)) ?_ | refine ox_load_any rfl (by assumption) ?_ | refine o1_lss_t rfl rfl (by omega) ?_ | refine o1_lss_f rfl rfl (by omega) ?_ | refine o1_lss rfl rfl (fun _ => ?_) (fun _ => ?_) | refine o1_geq_t rfl rfl (by omega) ?_ | refine o1_geq_f rfl rfl (by omega) ?_ | refine o1_geq rfl rfl (fun _ => ?_) (fun _ => ?_) | refine o1_slice_nil rfl ?_ | refine o1_nilCheck rfl ?_)
  refine rt_tmp3 () rfl rfl rfl rfl rfl trivial ?_
  (try dsimp only [List.cons_append, List.nil_append, List.singleton_append, List.append_nil]); (repeat (first | exact Ent.nil | exact Ent.refl _ | (apply Ent.cons; (repeat (first | exact Sel.here | apply Sel.there)))))
theorem elim_Bytes_nil (H : List Hl) :
    Spec Tryd.prog 41 [.pointer none] H (fun _ : Unit => True) (fun _ => .slice none 0 0) (fun _ => H) := by
  refine spec_pure (res := fun _ => []) H Tryd.func41 rfl Tryd.ntmps41 (by kernel_rfl) rfl (fun W => ?_)
  repeat' (first | refine ls_of rfl ?_ | refine ls_of_no ?_ | refine ls_guard_yes rfl rfl ?_ | refine ls_guard_no rfl rfl rfl rfl ?_ | refine ls_guard_un rfl rfl rfl ?_ | refine o1_move rfl ?_ | refine o1_assign rfl ?_ | refine st_seq ?_ | refine st_region ?_ | refine st_block ?_ | refine st_skip ?_ | refine st_ret ?_ | refine st_exit ?_ | refine st_cond_t rfl ?_ | refine st_cond_f rfl ?_ | refine st_cond rfl (fun _ => ?_) (fun _ => ?_) | refine ls_nil ?_ | refine nx_seq ?_ | refine nx_blk ?_ | refine nx_fn ?_ | refine nx_rounds ?_ | refine xt_seq ?_ | refine xt_here ?_ | refine xt_on rfl ?_ | refine xt_rounds ?_ | refine xt_cut ?_ | refine rt_seq ?_ | refine rt_blk ?_ | refine rt_rounds ?_ | refine rt_cut ?_ | refine o1_peql rfl rfl ?_ | refine o1_fieldAddr rfl ?_ | refine ox_load rfl (by rfl) ?_ | refine ox_load_enc rfl (by first | omega | (simp; omega)) ?_ | refine ox_load_any rfl (by assumption) ?_ | refine o1_len rfl ?_ | refine o1_add rfl rfl (by omega) ?_ | refine o1_sub rfl rfl (by omega) ?_ | refine o1_lss_t rfl rfl (by omega) ?_ | refine o1_lss_f rfl rfl (by omega) ?_ | refine o1_lss rfl rfl (fun _ => ?_) (fun _ => ?_) | refine o1_ushr rfl rfl (by omega) ?_ | refine o1_conv_iu rfl ?_ | refine o1_slice_nil rfl ?_ | refine o1_lit_B rfl rfl rfl rfl rfl (fun _ => ?_) | refine ox_append rfl rfl (rx_box rfl (by first | decide | omega)) rfl rfl (fun _ => rfl) (by omega) (by omega) (fun _ _ => ?_) | refine ox_append rfl rfl (rx_any (by assumption)) rfl rfl (fun _ => rfl) (by omega) (by omega) (fun _ _ => ?_) | refine ox_append rfl rfl rx_row rfl rfl (fun _ => rfl) (by omega) (by omega) (fun _ _ => ?_) | refine o1_nilCheck rfl ?_)
  refine rt_tmp () rfl rfl rfl trivial ?_
  (try dsimp only [List.cons_append, List.nil_append, List.singleton_append, List.append_nil]); (repeat (first | exact Ent.nil | exact Ent.refl _ | (apply Ent.cons; (repeat (first | exact Sel.here | apply Sel.there)))))
theorem elim_Says_nil (H : List Hl) (p : Option Addr) :
    Spec Tryd.prog 40 [.pointer none, .pointer p] H (fun _ : Unit => True) (fun _ => .bool false) (fun _ => H) := by
  refine spec_pure (res := fun _ => []) H Tryd.func40 rfl Tryd.ntmps40 (by kernel_rfl) rfl (fun W => ?_)
  repeat' (first | refine ls_of rfl ?_ | refine ls_of_no ?_ | refine ls_guard_yes rfl rfl ?_ | refine ls_guard_no rfl rfl rfl rfl ?_ | refine ls_guard_un rfl rfl rfl ?_ | refine o1_move rfl ?_ | refine o1_assign rfl ?_ | refine st_seq ?_ | refine st_region ?_ | refine st_block ?_ | refine st_skip ?_ | refine st_ret ?_ | refine st_exit ?_ | refine st_cond_t rfl ?_ | refine st_cond_f rfl ?_ | refine st_cond rfl (fun _ => ?_) (fun _ => ?_) | refine ls_nil ?_ | refine nx_seq ?_ | refine nx_blk ?_ | refine nx_fn ?_ | refine nx_rounds ?_ | refine xt_seq ?_ | refine xt_here ?_ | refine xt_on rfl ?_ | refine xt_rounds ?_ | refine xt_cut ?_ | refine rt_seq ?_ | refine rt_blk ?_ | refine rt_rounds ?_ | refine rt_cut ?_ | refine o1_pneq rfl rfl ?_ | refine o1_call (fun _ => elim_reduced_nil _ p none 0 0) rfl (fun _ _ => ?_) | refine o1_pick_t rfl rfl ?_ | refine o1_pick_f rfl rfl ?_ | refine o1_fieldAddr rfl ?_ | refine ox_load rfl (by rfl) ?_ | refine ox_load_enc rfl (by first | omega | (simp; omega)) ?_ | refine ox_load_any rfl (by assumption) ?_ | refine o1_geq_t rfl rfl (by omega) ?_ | refine o1_geq_f rfl rfl (by omega) ?_ | refine o1_geq rfl rfl (fun _ => ?_) (fun _ => ?_) | refine o1_slice_nil rfl ?_ | refine o1_nilCheck rfl ?_)
  refine rt_tmp () rfl rfl rfl trivial ?_
  (try dsimp only [List.cons_append, List.nil_append, List.singleton_append, List.append_nil]); (repeat (first | exact Ent.nil | exact Ent.refl _ | (apply Ent.cons; (repeat (first | exact Sel.here | apply Sel.there)))))
theorem elim_Says_vnil (H : List Hl) (bm n : Nat) (hM : Cl (stars H) ⟨bm, 0, none⟩ (I n)) (hn : 1 ≤ n) :
    Spec Tryd.prog 40 [.pointer (some ⟨bm, 0, none⟩), .pointer none] H (fun _ : Unit => True) (fun _ => .bool false) (fun _ => H) := by
  refine spec_pure (res := fun _ => []) H Tryd.func40 rfl Tryd.ntmps40 (by kernel_rfl) rfl (fun W => ?_)
  repeat' (first | refine ls_of rfl ?_ | refine ls_of_no ?_ | refine ls_guard_yes rfl rfl ?_ | refine ls_guard_no rfl rfl rfl rfl ?_ | refine ls_guard_un rfl rfl rfl ?_ | refine o1_move rfl ?_ | refine o1_assign rfl ?_ | refine st_seq ?_ | refine st_region ?_ | refine st_block ?_ | refine st_skip ?_ | refine st_ret ?_ | refine st_exit ?_ | refine st_cond_t rfl ?_ | refine st_cond_f rfl ?_ | refine st_cond rfl (fun _ => ?_) (fun _ => ?_) | refine ls_nil ?_ | refine nx_seq ?_ | refine nx_blk ?_ | refine nx_fn ?_ | refine nx_rounds ?_ | refine xt_seq ?_ | refine xt_here ?_ | refine xt_on rfl ?_ | refine xt_rounds ?_ | refine xt_cut ?_ | refine rt_seq ?_ | refine rt_blk ?_ | refine rt_rounds ?_ | refine rt_cut ?_ | refine o1_pneq rfl rfl ?_ | refine o1_call (fun _ => elim_reduced_vnil _ bm n none 0 0 (cl_up hM) hn) rfl (fun _ _ => ?_) | refine o1_pick_t rfl rfl ?_ | refine o1_pick_f rfl rfl ?_ | refine o1_fieldAddr rfl ?_ | refine ox_load rfl (by rfl) ?_ | refine ox_load_enc rfl (by first | omega | (simp; omega)) ?_ | refine ox_load_any rfl (by assumption) ?_ | refine o1_geq_t rfl rfl (by omega) ?_ | refine o1_geq_f rfl rfl (by omega) ?_ | refine o1_geq rfl rfl (fun _ => ?_) (fun _ => ?_) | refine o1_slice_nil rfl ?_ | refine o1_nilCheck rfl ?_)
  refine rt_tmp () rfl rfl rfl trivial ?_
  (try dsimp only [List.cons_append, List.nil_append, List.singleton_append, List.append_nil]); (repeat (first | exact Ent.nil | exact Ent.refl _ | (apply Ent.cons; (repeat (first | exact Sel.here | apply Sel.there)))))
theorem all_some : ∀ {M : List (Option RD)} {ys : List LN}, M.map vw = ys.map some → ∃ R : List RD, M = R.map some ∧ R.map (fun r => (r.v.l, r.d)) = ys
  | [], [], _ => ⟨[], rfl, rfl⟩
  | [], y :: ys, h => by cases h
  | o :: M, [], h => by cases h
  | o :: M, y :: ys, h => by
    simp only [List.map_cons, List.cons.injEq] at h
    obtain ⟨R, h1, h2⟩ := all_some h.2
    cases o with
    | none => cases h.1
    | some r =>
      have e := h.1
      simp only [vw, Option.map_some, Option.some.injEq] at e
      exact ⟨r :: R, by rw [h1]; rfl, by rw [List.map_cons, h2, e]⟩
theorem MOk.none {n z : Nat} (h1 : 1 ≤ n) (h2 : n ≤ 256) (h3 : 1 ≤ z) (h4 : z ≤ 16) : MOk n z (List.replicate n none) := ⟨by simp, h1, h2, h3, h4, fun r hr => by cases List.eq_of_mem_replicate hr⟩
set_option maxHeartbeats 4000000 in
theorem awake6 (H : List Hl) (ht : TabF (stars H)) : Spec Tryd.prog 27 [] H (fun _ : Unit => True) (fun _ => .bool true) (fun _ => H) := by
  refine spec_pure (res := fun _ => []) H Tryd.func27 rfl Tryd.ntmps27 (by kernel_rfl) rfl (fun W => ?_)
  have hk0 : MOk 2 1 (List.replicate 2 none) := MOk.none (by decide) (by decide) (by decide) (by decide)
  have e1 : bitsOf 2 [0, 1] = [true, true] := by decide
  have e2 : bitsOf 2 [1] = [false, true] := by decide
  obtain ⟨M0, hM0⟩ : ∃ M0 : List (Option RD), List.replicate 2 none = M0 := ⟨_, rfl⟩
  have hv0 : M0.map vw = [none, none] := by subst hM0; rfl
  rw [hM0] at hk0
  have r1 : red [none, none] ([true, true], [3#8]) = ([true, true], [3#8]) := by decide
  have r2 : red [some ([true, true], [3#8]), none] ([false, true], [1#8]) = ([false, true], [1#8]) := by decide
  have g1 : addM [none, none] 0 ([true, true], [3#8]) = [some ([true, true], [3#8]), none] := by decide
  have g2 : addM [some ([true, true], [3#8]), none] 1 ([false, true], [1#8]) = [some ([true, false], [2#8]), some ([false, true], [1#8])] := by decide
  have f1 : firstV [true, true] = ((0 : Nat) : Int) := by decide
  have f2 : firstV [false, true] = ((1 : Nat) : Int) := by decide
  repeat' (first | refine ls_of rfl ?_ | refine ls_of_no ?_ | refine ls_guard_yes rfl rfl ?_ | refine ls_guard_no rfl rfl rfl rfl ?_ | refine ls_guard_un rfl rfl rfl ?_ | refine o1_move rfl ?_ | refine o1_assign rfl ?_ | refine st_seq ?_ | refine st_region ?_ | refine st_block ?_ | refine st_skip ?_ | refine st_ret ?_ | refine st_exit ?_ | refine st_cond_t rfl ?_ | refine st_cond_f rfl ?_ | refine st_cond rfl (fun _ => ?_) (fun _ => ?_) | refine ls_nil ?_ | refine nx_seq ?_ | refine nx_blk ?_ | refine nx_fn ?_ | refine nx_rounds ?_ | refine xt_seq ?_ | refine xt_here ?_ | refine xt_on rfl ?_ | refine xt_rounds ?_ | refine xt_cut ?_ | refine rt_seq ?_ | refine rt_blk ?_ | refine rt_rounds ?_ | refine rt_cut ?_ | (refine o1_call (fun _ => elim_New _ 2 1 (by decide) (by decide) (by decide) (by decide)) rfl (fun ⟨bm, ar, cr⟩ _ => ?_); dsimp only; rw [hM0]) | refine o1_lit_enc I [0, 1] rfl rfl rfl (fun _ => rfl) rfl rfl rfl (fun b7 => ?_) | (refine o1_call (fun hh => vec_Of _ 2 (some ⟨b7, 0, none⟩) 2 [0, 1] (by decide) (rx_box (T := 3) rfl (by decide) hh)) rfl (fun ⟨b8, a8, c8⟩ _ => ?_); dsimp only; rw [e1]) | refine o1_lit_enc B [3#8] rfl rfl rfl (fun _ => rfl) rfl rfl rfl (fun b9 => ?_) | (refine o1_call_bra bm ar cr (mrows M0) (fun hh => elim_Add _ bm 2 1 ar cr 0 M0 ⟨b8, 2, a8, c8, [true, true]⟩ (some ⟨b9, 0, none⟩) 1 1 [3#8] [none, none] ([true, true], [3#8]) 0 hk0 hv0 (RdV.own rfl (by decide) (has_tail (has_tail (has_tail hh)))) rfl (rx_box (T := 5) rfl (by decide) (has_tail (has_tail (has_tail hh)))) rfl rfl r1 f1 rfl (by decide) (TabF.up ht)) rfl (fun M1 hM1 => ?_); obtain ⟨hv1, hk1⟩ := hM1; rw [g1] at hv1) | refine o1_lit_enc I [1] rfl rfl rfl (fun _ => rfl) rfl rfl rfl (fun b12 => ?_) | (refine o1_call (fun hh => vec_Of _ 2 (some ⟨b12, 0, none⟩) 1 [1] (by decide) (rx_box (T := 3) rfl (by decide) hh)) rfl (fun ⟨b13, a13, c13⟩ _ => ?_); dsimp only; rw [e2]) | refine o1_lit_enc B [1#8] rfl rfl rfl (fun _ => rfl) rfl rfl rfl (fun b14 => ?_) | (refine o1_call_bra bm ar cr (mrows M1) (fun hh => elim_Add _ bm 2 1 ar cr 1 M1 ⟨b13, 2, a13, c13, [false, true]⟩ (some ⟨b14, 0, none⟩) 1 1 [1#8] [some ([true, true], [3#8]), none] ([false, true], [1#8]) 1 hk1 hv1 (RdV.own rfl (by decide) (has_tail (has_tail (has_tail hh)))) rfl (rx_box (T := 5) rfl (by decide) (has_tail (has_tail (has_tail hh)))) rfl rfl r2 f2 rfl (by decide) (TabF.up ht)) rfl (fun M2 hM2 => ?_); obtain ⟨hv2, hk2⟩ := hM2; rw [g2] at hv2; obtain ⟨R, hR1, hR2⟩ := all_some (ys := [([true, false], [2#8]), ([false, true], [1#8])]) hv2) | (refine o1_call (fun hh => elim_Solve _ bm 2 1 ar cr M2 R (RdM.own hk2 hh) hR1) rfl (fun ⟨a4, c4, ps⟩ hps => ?_); dsimp only at hps ⊢) | refine o1_pick_t rfl rfl ?_ | refine o1_pick_f rfl rfl ?_ | refine ox_load rfl (by rfl) ?_ | refine ox_load_enc rfl (by first | omega | (simp; omega)) ?_ | refine ox_load_any rfl (by assumption) ?_ | refine o1_len rfl ?_ | refine o1_eql_t rfl rfl (by omega) ?_ | refine o1_eql_f rfl rfl (by omega) ?_ | refine o1_eql rfl rfl (fun _ => ?_) (fun _ => ?_) | refine o1_lit_B rfl rfl rfl rfl rfl (fun _ => ?_))
  have hps2 : ps.map (·.l) = [[2#8], [1#8]] := by
    rw [hps]
    have := congrArg (List.map (·.2)) hR2
    rw [List.map_map] at this
    exact this
  have hpl : ps.length = 2 := by have := congrArg List.length hps2; simpa using this
  have hp1 : 0 < ps.length := by omega
  have hp2 : ps[0].l = [2#8] := by
    have : (ps.map (·.l))[0]? = some [2#8] := by rw [hps2]; rfl
    simpa [List.getElem?_map, hp1] using this
  have hp3 : Bs ps[0] = .slice ps[0].ad 1 ps[0].cap := by show Value.slice _ _ _ = _; rw [hp2]; rfl
  have hp4 : ps[0].l[0]? = some 2#8 := by rw [hp2]; rfl
  repeat' (first | refine ls_of rfl ?_ | refine ls_of_no ?_ | refine ls_guard_yes rfl rfl ?_ | refine ls_guard_no rfl rfl rfl rfl ?_ | refine ls_guard_un rfl rfl rfl ?_ | refine o1_move rfl ?_ | refine o1_assign rfl ?_ | refine st_seq ?_ | refine st_region ?_ | refine st_block ?_ | refine st_skip ?_ | refine st_ret ?_ | refine st_exit ?_ | refine st_cond_t rfl ?_ | refine st_cond_f rfl ?_ | refine st_cond rfl (fun _ => ?_) (fun _ => ?_) | refine ls_nil ?_ | refine nx_seq ?_ | refine nx_blk ?_ | refine nx_fn ?_ | refine nx_rounds ?_ | refine xt_seq ?_ | refine xt_here ?_ | refine xt_on rfl ?_ | refine xt_rounds ?_ | refine xt_cut ?_ | refine rt_seq ?_ | refine rt_blk ?_ | refine rt_rounds ?_ | refine rt_cut ?_ | refine o1_call (fun hh => (elim_Full _ bm 2 2 (RdM.own hk2 hh).fk (RdM.own hk2 hh).fn).bv (b := true) (by decide)) rfl (fun _ _ => ?_) | refine o1_eql_t rfl rfl (by first | omega | decide) ?_ | refine o1_iah (enc := Bs) (ad := a4) (c := c4) (xs := ps) 0 rfl rfl rx_row rfl rfl hp1 ?_ | (refine o1_load_iah (enc := Bs) (ad := a4) (c := c4) (xs := ps) 0 rfl rx_row hp1 ?_; rw [hp3]) | refine o1_iah (enc := B) (xs := ps[0].l) 0 rfl rfl (fun hh => pcs_read (T := 5) (ls := ps) (List.getElem_mem _) hh) (by rw [hp2]; rfl) rfl (by rw [hp2]; decide) ?_ | refine o1_load_hv (enc := B) (c := ps[0].cap) 0 _ rfl (fun hh => pcs_read (T := 5) (ls := ps) (List.getElem_mem _) hh) hp4 ?_ | refine o1_pick_t rfl rfl ?_ | refine o1_pick_f rfl rfl ?_ | refine ox_load rfl (by rfl) ?_ | refine ox_load_enc rfl (by first | omega | (simp; omega)) ?_ | refine ox_load_any rfl (by assumption) ?_ | refine o1_len rfl ?_ | refine o1_eql_t rfl rfl (by omega) ?_ | refine o1_eql_f rfl rfl (by omega) ?_ | refine o1_eql rfl rfl (fun _ => ?_) (fun _ => ?_) | refine o1_lit_B rfl rfl rfl rfl rfl (fun _ => ?_))
  refine rt_tmp () rfl rfl rfl trivial ?_
  (try dsimp only [List.cons_append, List.nil_append, List.singleton_append, List.append_nil]); (repeat (first | exact Ent.nil | exact Ent.refl _ | (apply Ent.cons; (repeat (first | exact Sel.here | apply Sel.there)))))
set_option maxHeartbeats 4000000 in
theorem ElimNil_law (H : List Hl) (n : Int) (ad : Option Addr) (c : Nat) (d : List (BitVec 8)) (h : Rs (stars H) B ad c d) (ht : TabF (stars H)) :
    Spec Tryd.prog 9 [I n, .slice ad d.length c] H (fun _ : Unit => True) (fun _ => .bool true) (fun _ => H) := by
  refine spec_pure (res := fun _ => []) H Tryd.func9 rfl Tryd.ntmps9 (by kernel_rfl) rfl (fun W => ?_)
  have b3 := h.le
  have b4 := h.big
  by_cases hll : 100 < d.length
  · repeat' (first | refine ls_of rfl ?_ | refine ls_of_no ?_ | refine ls_guard_yes rfl rfl ?_ | refine ls_guard_no rfl rfl rfl rfl ?_ | refine ls_guard_un rfl rfl rfl ?_ | refine o1_move rfl ?_ | refine o1_assign rfl ?_ | refine st_seq ?_ | refine st_region ?_ | refine st_block ?_ | refine st_skip ?_ | refine st_ret ?_ | refine st_exit ?_ | refine st_cond_t rfl ?_ | refine st_cond_f rfl ?_ | refine st_cond rfl (fun _ => ?_) (fun _ => ?_) | refine ls_nil ?_ | refine nx_seq ?_ | refine nx_blk ?_ | refine nx_fn ?_ | refine nx_rounds ?_ | refine xt_seq ?_ | refine xt_here ?_ | refine xt_on rfl ?_ | refine xt_rounds ?_ | refine xt_cut ?_ | refine rt_seq ?_ | refine rt_blk ?_ | refine rt_rounds ?_ | refine rt_cut ?_ | refine o1_call (fun _ => awake6 _ ht.up) rfl (fun _ _ => ?_) | refine o1_pick_t rfl rfl ?_ | refine o1_pick_f rfl rfl ?_ | refine o1_extract rfl rfl ?_ | refine o1_len rfl ?_ | refine o1_gtr_t rfl rfl (by omega) ?_ | refine o1_gtr_f rfl rfl (by omega) ?_ | refine o1_gtr rfl rfl (fun _ => ?_) (fun _ => ?_) | refine o1_eql_t rfl rfl (by omega) ?_ | refine o1_eql_f rfl rfl (by omega) ?_ | refine o1_eql rfl rfl (fun _ => ?_) (fun _ => ?_) | refine o1_bnot rfl ?_ | refine o1_unot rfl ?_ | refine o1_conv_i rfl (by omega) ?_ | refine o1_conv_ui rfl (by exact bv_small (by decide) _) ?_ | refine o1_conv_u64 rfl (by omega) ?_ | refine o1_conv_iu rfl ?_ | refine o1_rem_nn rfl rfl (by omega) ?_)
    refine rt_tmp () rfl rfl rfl trivial ?_
    (try dsimp only [List.cons_append, List.nil_append, List.singleton_append, List.append_nil]); (repeat (first | exact Ent.nil | exact Ent.refl _ | (apply Ent.cons; (repeat (first | exact Sel.here | apply Sel.there)))))
  obtain ⟨N, hN, hN2⟩ : ∃ N : Nat, ((BitVec.ofInt 64 n).toNat : Int) % 257 = N ∧ N ≤ 256 := ⟨(BitVec.ofInt 64 n).toNat % 257, (Int.natCast_emod _ _).symm, by omega⟩
  obtain ⟨Z, hZ⟩ : ∃ Z, List.replicate N false = Z := ⟨_, rfl⟩
  have hk0 : MOk 3 1 (List.replicate 3 none) := MOk.none (by decide) (by decide) (by decide) (by decide)
  obtain ⟨M0, hM0⟩ : ∃ M0 : List (Option RD), List.replicate 3 none = M0 := ⟨_, rfl⟩
  rw [hM0] at hk0
  repeat' (first | refine ls_of rfl ?_ | refine ls_of_no ?_ | refine ls_guard_yes rfl rfl ?_ | refine ls_guard_no rfl rfl rfl rfl ?_ | refine ls_guard_un rfl rfl rfl ?_ | refine o1_move rfl ?_ | refine o1_assign rfl ?_ | refine st_seq ?_ | refine st_region ?_ | refine st_block ?_ | refine st_skip ?_ | refine st_ret ?_ | refine st_exit ?_ | refine st_cond_t rfl ?_ | refine st_cond_f rfl ?_ | refine st_cond rfl (fun _ => ?_) (fun _ => ?_) | refine ls_nil ?_ | refine nx_seq ?_ | refine nx_blk ?_ | refine nx_fn ?_ | refine nx_rounds ?_ | refine xt_seq ?_ | refine xt_here ?_ | refine xt_on rfl ?_ | refine xt_rounds ?_ | refine xt_cut ?_ | refine rt_seq ?_ | refine rt_blk ?_ | refine rt_rounds ?_ | refine rt_cut ?_ | (refine o1_rem_nn rfl rfl (by omega) ?_; rw [hN]) | (refine o1_call (fun _ => vec_New _ N hN2) rfl (fun ⟨b6, a6, c6⟩ _ => ?_); dsimp only; rw [hZ]) | refine o1_call (fun _ => elim_Row_nil _ n) rfl (fun _ _ => ?_) | (refine o1_call (fun _ => elim_New _ 3 1 (by decide) (by decide) (by decide) (by decide)) rfl (fun ⟨bm, ar, cr⟩ _ => ?_); dsimp only; rw [hM0]) | refine o1_call (fun _ => elim_Add_nil _ (some ⟨b6, 0, none⟩) ad d.length c) rfl (fun _ _ => ?_) | refine o1_call (fun _ => elim_Says_nil _ (some ⟨b6, 0, none⟩)) rfl (fun _ _ => ?_) | refine o1_call (fun _ => elim_Rank_nil _) rfl (fun _ _ => ?_) | refine o1_call (fun _ => elim_Full_nil _) rfl (fun _ _ => ?_) | refine o1_call (fun _ => elim_Solve_nil _) rfl (fun _ _ => ?_) | refine o1_call (fun _ => elim_Bytes_nil _) rfl (fun _ _ => ?_) | refine o1_call (fun hh => elim_Says_vnil _ bm 3 (RdM.own hk0 hh).fn (by decide)) rfl (fun _ _ => ?_) | refine o1_call (fun hh => elim_Add_vnil _ bm 3 1 ad d.length c (RdM.own hk0 hh).fz (RdM.own hk0 hh).fn (by decide) (by omega) (by decide)) rfl (fun _ _ => ?_) | refine o1_eql_t rfl rfl rfl ?_ | refine o1_call (fun _ => awake6 _ ht.up) rfl (fun _ _ => ?_) | refine o1_pick_t rfl rfl ?_ | refine o1_pick_f rfl rfl ?_ | refine o1_extract rfl rfl ?_ | refine o1_len rfl ?_ | refine o1_gtr_t rfl rfl (by omega) ?_ | refine o1_gtr_f rfl rfl (by omega) ?_ | refine o1_gtr rfl rfl (fun _ => ?_) (fun _ => ?_) | refine o1_eql_t rfl rfl (by omega) ?_ | refine o1_eql_f rfl rfl (by omega) ?_ | refine o1_eql rfl rfl (fun _ => ?_) (fun _ => ?_) | refine o1_bnot rfl ?_ | refine o1_unot rfl ?_ | refine o1_conv_i rfl (by omega) ?_ | refine o1_conv_ui rfl (by exact bv_small (by decide) _) ?_ | refine o1_conv_u64 rfl (by omega) ?_ | refine o1_conv_iu rfl ?_ | refine o1_rem_nn rfl rfl (by omega) ?_)
  refine rt_tmp () rfl rfl rfl trivial ?_
  (try dsimp only [List.cons_append, List.nil_append, List.singleton_append, List.append_nil]); (repeat (first | exact Ent.nil | exact Ent.refl _ | (apply Ent.cons; (repeat (first | exact Sel.here | apply Sel.there)))))
end Go.Dp

set_option linter.unusedVariables false
set_option linter.unusedSimpArgs false
namespace Go.Dp
open Go.RowKit Go.Proofs

theorem slices_Equal (H : List Hl) (ad ad' : Option Addr) (c c' : Nat) (l m : List (BitVec 8)) (h1 : Rs (stars H) B ad c l) (h2 : Rs (stars H) B ad' c' m) :
    Spec Tryd.prog 64 [.slice ad l.length c, .slice ad' m.length c'] H (fun _ : Unit => True) (fun _ => .bool (decide (l = m))) (fun _ => H) := by
  have b1 := h1.le
  have b2 := h1.big
  refine spec_pure (res := fun _ => []) H Tryd.func64 rfl Tryd.ntmps64 (by kernel_rfl) rfl (fun W => ?_)
  repeat' (first | refine ls_of rfl ?_ | refine ls_of_no ?_ | refine ls_guard_yes rfl rfl ?_ | refine ls_guard_no rfl rfl rfl rfl ?_ | refine ls_guard_un rfl rfl rfl ?_ | refine o1_move rfl ?_ | refine o1_assign rfl ?_ | refine st_seq ?_ | refine st_region ?_ | refine st_block ?_ | refine st_skip ?_ | refine st_ret ?_ | refine st_exit ?_ | refine st_cond_t rfl ?_ | refine st_cond_f rfl ?_ | refine st_cond rfl (fun _ => ?_) (fun _ => ?_) | refine ls_nil ?_ | refine nx_seq ?_ | refine nx_blk ?_ | refine nx_fn ?_ | refine nx_rounds ?_ | refine xt_seq ?_ | refine xt_here ?_ | refine xt_on rfl ?_ | refine xt_rounds ?_ | refine xt_cut ?_ | refine rt_seq ?_ | refine rt_blk ?_ | refine rt_rounds ?_ | refine rt_cut ?_ | refine ox_load rfl (by rfl) ?_ | refine ox_load_enc rfl (by first | omega | (simp; omega)) ?_ | refine ox_load_any rfl (by assumption) ?_ | refine o1_len rfl ?_ | refine o1_add rfl rfl (by omega) ?_ | refine o1_lss_t rfl rfl (by omega) ?_ | refine o1_lss_f rfl rfl (by omega) ?_ | refine o1_lss rfl rfl (fun _ => ?_) (fun _ => ?_) | refine o1_neq_t rfl rfl (by omega) ?_ | refine o1_neq_f rfl rfl (by omega) ?_ | refine o1_neq rfl rfl (fun _ => ?_) (fun _ => ?_))
  · rename_i hlen
    refine rt_tmp () rfl rfl ?_ trivial (Ent.refl _)
    simp; intro e; subst e; omega
  rename_i hlen
  have hlen : l.length = m.length := by omega
  refine st_loop (S := Nat) (fun i => [(0, .slice ad l.length c), (1, .slice ad' m.length c'), (12, .int .i64 l.length), (13, .int .i64 i)]) (fun _ => [.any (stars H)]) (fun i => i ≤ l.length ∧ l.take i = m.take i) (fun i => l.length - i) 0 ⟨by omega, by simp⟩
    (cov_cons rfl rfl (cov_cons rfl rfl (cov_cons rfl rfl (cov_cons rfl rfl cov_nil)))) (Ent.refl _) ?_
  rintro i ⟨hi, hpre⟩
  repeat' (first | refine ls_of rfl ?_ | refine ls_of_no ?_ | refine ls_guard_yes rfl rfl ?_ | refine ls_guard_no rfl rfl rfl rfl ?_ | refine ls_guard_un rfl rfl rfl ?_ | refine o1_move rfl ?_ | refine o1_assign rfl ?_ | refine st_seq ?_ | refine st_region ?_ | refine st_block ?_ | refine st_skip ?_ | refine st_ret ?_ | refine st_exit ?_ | refine st_cond_t rfl ?_ | refine st_cond_f rfl ?_ | refine st_cond rfl (fun _ => ?_) (fun _ => ?_) | refine ls_nil ?_ | refine nx_seq ?_ | refine nx_blk ?_ | refine nx_fn ?_ | refine nx_rounds ?_ | refine xt_seq ?_ | refine xt_here ?_ | refine xt_on rfl ?_ | refine xt_rounds ?_ | refine xt_cut ?_ | refine rt_seq ?_ | refine rt_blk ?_ | refine rt_rounds ?_ | refine rt_cut ?_ | refine ox_load rfl (by rfl) ?_ | refine ox_load_enc rfl (by first | omega | (simp; omega)) ?_ | refine ox_load_any rfl (by assumption) ?_ | refine o1_len rfl ?_ | refine o1_add rfl rfl (by omega) ?_ | refine o1_lss_t rfl rfl (by omega) ?_ | refine o1_lss_f rfl rfl (by omega) ?_ | refine o1_lss rfl rfl (fun _ => ?_) (fun _ => ?_) | refine o1_neq_t rfl rfl (by omega) ?_ | refine o1_neq_f rfl rfl (by omega) ?_ | refine o1_neq rfl rfl (fun _ => ?_) (fun _ => ?_))
  · rename_i hlt
    have hlt : i < l.length := by omega
    apply st_draw [(0, _), (5, _), (1, _)] [.c _, .c _, .p (fun v => ∃ a, v = .pointer (some a) ∧ Cl (stars H) a (B l[i])) (fun _ => []), .c _, .c _, .c _, .p (fun v => ∃ a, v = .pointer (some a) ∧ Cl (stars H) a (B m[i])) (fun _ => []), .c _, .c _] [⟨some 16, [], [], none⟩, ⟨some 17, [], [], none⟩, ⟨some 18, [0, 1], [0, 1], none⟩, ⟨some 19, [2], [0, 1, 2], none⟩, ⟨some 20, [], [], none⟩, ⟨some 21, [], [], none⟩, ⟨some 22, [4, 5], [4, 5], none⟩, ⟨some 23, [6], [4, 5, 6], none⟩, ⟨some 24, [3, 7], [0, 1, 2, 3, 4, 5, 6, 7], none⟩] mixed (cov_cons rfl rfl (cov_cons rfl rfl (cov_cons rfl rfl cov_nil))) (by kernel_rfl) (by kernel_rfl) (by kernel_rfl) (obl_cons ?d6_o0 (obl_cons ?d6_o1 (obl_cons ?d6_o2 (obl_cons ?d6_o3 (obl_cons ?d6_o4 (obl_cons ?d6_o5 (obl_cons ?d6_o6 (obl_cons ?d6_o7 (obl_cons ?d6_o8 obl_nil))))))))) ?d6_nx
    case d6_o0 => refine obl_run rfl (gd_none rfl) (fun _ => ?_); refine allv_nil ?_; dsimp only [List.cons_append, List.nil_append, List.singleton_append, List.append_nil, blk]; (first | refine o1_move rfl ?_); all_goals (exact ⟨rfl, fun _ h => h⟩)
    case d6_o1 => refine obl_run rfl (gd_none rfl) (fun _ => ?_); refine allv_nil ?_; dsimp only [List.cons_append, List.nil_append, List.singleton_append, List.append_nil, blk]; (first | refine o1_move rfl ?_); all_goals (exact ⟨rfl, fun _ h => h⟩)
    case d6_o2 => refine obl_run rfl (gd_none rfl) (fun _ => ?_); refine allv_c rfl rfl ?_; refine allv_c rfl rfl ?_; refine allv_nil ?_; dsimp only [List.cons_append, List.nil_append, List.singleton_append, List.append_nil, blk]; (refine o1_indexAddr_rd rfl rfl h1 i rfl hlt (fun a ha => ⟨⟨a, rfl, ha⟩, fun _ h => h⟩)); all_goals (first | exact ⟨⟨rfl⟩, fun _ h => h⟩ | exact ⟨⟨_, rfl⟩, fun _ h => h⟩ | exact ⟨⟨_, _, rfl⟩, fun _ h => h⟩ | exact ⟨⟨_, _, _, rfl⟩, fun _ h => h⟩)
    case d6_o3 => refine obl_run rfl (gd_none rfl) (fun _ => ?_); refine allv_c rfl rfl ?_; refine allv_c rfl rfl ?_; refine allv_p rfl rfl ?_; rintro _ ⟨_,rfl,_⟩; refine allv_nil ?_; dsimp only [List.cons_append, List.nil_append, List.singleton_append, List.append_nil, blk]; (first | refine ox_load rfl (by rfl) ?_ | refine ox_load_enc rfl (by first | omega | (simp; omega)) ?_ | refine ox_load_any rfl (by assumption) ?_); all_goals (exact ⟨rfl, fun _ h => h⟩)
    case d6_o4 => refine obl_run rfl (gd_none rfl) (fun _ => ?_); refine allv_nil ?_; dsimp only [List.cons_append, List.nil_append, List.singleton_append, List.append_nil, blk]; (first | refine o1_move rfl ?_); all_goals (exact ⟨rfl, fun _ h => h⟩)
    case d6_o5 => refine obl_run rfl (gd_none rfl) (fun _ => ?_); refine allv_nil ?_; dsimp only [List.cons_append, List.nil_append, List.singleton_append, List.append_nil, blk]; (first | refine o1_move rfl ?_); all_goals (exact ⟨rfl, fun _ h => h⟩)
    case d6_o6 => refine obl_run rfl (gd_none rfl) (fun _ => ?_); refine allv_c rfl rfl ?_; refine allv_c rfl rfl ?_; refine allv_nil ?_; dsimp only [List.cons_append, List.nil_append, List.singleton_append, List.append_nil, blk]; (refine o1_indexAddr_rd rfl rfl h2 i rfl (by omega) (fun a ha => ⟨⟨a, rfl, ha⟩, fun _ h => h⟩)); all_goals (first | exact ⟨⟨rfl⟩, fun _ h => h⟩ | exact ⟨⟨_, rfl⟩, fun _ h => h⟩ | exact ⟨⟨_, _, rfl⟩, fun _ h => h⟩ | exact ⟨⟨_, _, _, rfl⟩, fun _ h => h⟩)
    case d6_o7 => refine obl_run rfl (gd_none rfl) (fun _ => ?_); refine allv_c rfl rfl ?_; refine allv_c rfl rfl ?_; refine allv_p rfl rfl ?_; rintro _ ⟨_,rfl,_⟩; refine allv_nil ?_; dsimp only [List.cons_append, List.nil_append, List.singleton_append, List.append_nil, blk]; (first | refine ox_load rfl (by rfl) ?_ | refine ox_load_enc rfl (by first | omega | (simp; omega)) ?_ | refine ox_load_any rfl (by assumption) ?_); all_goals (exact ⟨rfl, fun _ h => h⟩)
    case d6_o8 => refine obl_run rfl (gd_none rfl) (fun _ => ?_); refine allv_c rfl rfl ?_; refine allv_c rfl rfl ?_; refine allv_p rfl rfl ?_; rintro _ ⟨_,rfl,_⟩; refine allv_c rfl rfl ?_; refine allv_c rfl rfl ?_; refine allv_c rfl rfl ?_; refine allv_p rfl rfl ?_; rintro _ ⟨_,rfl,_⟩; refine allv_c rfl rfl ?_; refine allv_nil ?_; dsimp only [List.cons_append, List.nil_append, List.singleton_append, List.append_nil, blk]; (first | refine o1_neq_t rfl rfl (by omega) ?_ | refine o1_neq_f rfl rfl (by omega) ?_ | refine o1_neq_d rfl rfl ?_); all_goals (exact ⟨rfl, fun _ h => h⟩)
    case d6_nx =>
      refine allv_c rfl rfl ?_; refine allv_c rfl rfl ?_; refine allv_p rfl rfl ?_; rintro _ ⟨_,rfl,_⟩; refine allv_c rfl rfl ?_; refine allv_c rfl rfl ?_; refine allv_c rfl rfl ?_; refine allv_p rfl rfl ?_; rintro _ ⟨_,rfl,_⟩; refine allv_c rfl rfl ?_; refine allv_c rfl rfl ?_; refine allv_nil ?_; dsimp only [List.cons_append, List.nil_append, List.singleton_append, List.append_nil, blk]
      repeat' (first | refine ls_of rfl ?_ | refine ls_of_no ?_ | refine ls_guard_yes rfl rfl ?_ | refine ls_guard_no rfl rfl rfl rfl ?_ | refine ls_guard_un rfl rfl rfl ?_ | refine o1_move rfl ?_ | refine o1_assign rfl ?_ | refine st_seq ?_ | refine st_region ?_ | refine st_block ?_ | refine st_skip ?_ | refine st_ret ?_ | refine st_exit ?_ | refine st_cond_t rfl ?_ | refine st_cond_f rfl ?_ | refine st_cond rfl (fun _ => ?_) (fun _ => ?_) | refine ls_nil ?_ | refine nx_seq ?_ | refine nx_blk ?_ | refine nx_fn ?_ | refine nx_rounds ?_ | refine xt_seq ?_ | refine xt_here ?_ | refine xt_on rfl ?_ | refine xt_rounds ?_ | refine xt_cut ?_ | refine rt_seq ?_ | refine rt_blk ?_ | refine rt_rounds ?_ | refine rt_cut ?_ | refine ox_load rfl (by rfl) ?_ | refine ox_load_enc rfl (by first | omega | (simp; omega)) ?_ | refine ox_load_any rfl (by assumption) ?_ | refine o1_len rfl ?_ | refine o1_add rfl rfl (by omega) ?_ | refine o1_lss_t rfl rfl (by omega) ?_ | refine o1_lss_f rfl rfl (by omega) ?_ | refine o1_lss rfl rfl (fun _ => ?_) (fun _ => ?_) | refine o1_neq_t rfl rfl (by omega) ?_ | refine o1_neq_f rfl rfl (by omega) ?_ | refine o1_neq rfl rfl (fun _ => ?_) (fun _ => ?_))
      · rename_i hne
        refine rt_tmp () rfl rfl ?_ trivial (Ent.refl _)
        simp at hne ⊢
        rintro rfl
        exact hne rfl
      · rename_i heq
        simp at heq
        refine nx_again (i + 1) ⟨by omega, ?_⟩ (by omega) (cov_cons rfl rfl (cov_cons rfl rfl (cov_cons rfl rfl (cov_cons rfl rfl cov_nil)))) (Ent.refl _)
        rw [List.take_succ_eq_append_getElem hlt, List.take_succ_eq_append_getElem (by omega : i < m.length), hpre, BitVec.eq_of_toNat_eq (by omega : l[i].toNat = m[i].toNat)]
  · refine rt_tmp () rfl rfl ?_ trivial (Ent.refl _)
    have : i = l.length := by omega
    subst this
    rw [List.take_length, List.take_of_length_le (by omega)] at hpre
    simp [hpre]
end Go.Dp

set_option linter.unusedVariables false
set_option linter.unusedSimpArgs false
namespace Go.Dp
open Go.RowKit Go.Proofs
def rtX2_0 : List Row := [⟨some 11, [], [], none⟩, ⟨some 12, [0], [0], none⟩, ⟨some 13, [1], [0, 1], none⟩, ⟨some 14, [2], [0, 1, 2], none⟩, ⟨some 15, [3], [0, 1, 2, 3], none⟩, ⟨some 16, [4], [0, 1, 2, 3, 4], none⟩, ⟨some 17, [], [], none⟩, ⟨some 18, [6], [6], none⟩, ⟨some 19, [7], [6, 7], none⟩, ⟨some 20, [8], [6, 7, 8], none⟩, ⟨some 21, [9], [6, 7, 8, 9], none⟩, ⟨some 22, [], [], none⟩, ⟨some 23, [11], [11], none⟩, ⟨some 24, [12], [11, 12], none⟩, ⟨some 25, [], [], none⟩, ⟨some 26, [14], [14], none⟩, ⟨some 27, [5, 10, 13, 15], [0, 1, 2, 3, 4, 5, 6, 7, 8, 9, 10, 11, 12, 13, 14, 15], none⟩, ⟨some 4, [16, 0, 1, 2, 3, 4, 5, 6, 7, 8, 9, 10, 11, 12, 13, 14, 15, 16], [0, 1, 2, 3, 4, 5, 6, 7, 8, 9, 10, 11, 12, 13, 14, 15, 16], none⟩]
def rtX2_1 : List Row := [⟨some 39, [], [], none⟩, ⟨some 40, [], [], none⟩, ⟨some 41, [1], [1], none⟩, ⟨some 42, [2], [1, 2], none⟩, ⟨some 43, [3], [1, 2, 3], none⟩, ⟨some 44, [4], [1, 2, 3, 4], none⟩, ⟨some 45, [0, 5, 5], [0, 1, 2, 3, 4, 5], none⟩, ⟨some 46, [], [], none⟩, ⟨some 47, [7], [7], none⟩, ⟨some 48, [8], [7, 8], none⟩, ⟨some 49, [9], [7, 8, 9], none⟩, ⟨some 50, [6, 10, 6], [0, 1, 2, 3, 4, 5, 6, 7, 8, 9, 10], none⟩, ⟨some 4, [11, 11, 0, 1, 2, 3, 4, 5, 6, 7, 8, 9, 10, 11], [0, 1, 2, 3, 4, 5, 6, 7, 8, 9, 10, 11], none⟩]
def rtX2_2 : List Row := [⟨some 12, [], [], none⟩, ⟨some 13, [0], [0], none⟩, ⟨some 14, [1], [0, 1], none⟩, ⟨some 15, [2], [0, 1, 2], none⟩, ⟨some 16, [3], [0, 1, 2, 3], none⟩, ⟨some 17, [], [], none⟩, ⟨some 18, [5], [5], none⟩, ⟨some 19, [6], [5, 6], none⟩, ⟨some 20, [7], [5, 6, 7], none⟩, ⟨some 21, [4, 8], [0, 1, 2, 3, 4, 5, 6, 7, 8], none⟩, ⟨some 4, [9, 9, 0, 1, 2, 3, 4, 5, 6, 7, 8, 9], [0, 1, 2, 3, 4, 5, 6, 7, 8, 9], none⟩]
def rtX2_3 : List Row := [⟨some 50, [], [], none⟩, ⟨some 51, [0], [0], none⟩, ⟨some 52, [1], [0, 1], none⟩, ⟨some 53, [2], [0, 1, 2], none⟩, ⟨some 54, [], [], none⟩, ⟨some 55, [], [], none⟩, ⟨some 56, [4, 5], [4, 5], none⟩, ⟨some 57, [3, 6], [0, 1, 2, 3, 4, 5, 6], none⟩, ⟨some 49, [7], [0, 1, 2, 3, 4, 5, 6, 7], none⟩, ⟨some 58, [8], [0, 1, 2, 3, 4, 5, 6, 7, 8], none⟩, ⟨some 59, [8], [0, 1, 2, 3, 4, 5, 6, 7, 8], none⟩, ⟨some 7, [9, 7, 0, 1, 2, 3, 4, 5, 6, 7, 8, 9], [0, 1, 2, 3, 4, 5, 6, 7, 8, 9], none⟩, ⟨some 8, [10, 11, 0, 1, 2, 3, 4, 5, 6, 7, 8, 9, 10, 11], [0, 1, 2, 3, 4, 5, 6, 7, 8, 9, 10, 11], none⟩]
theorem rowsB_take {M : List (Option LN)} {i : Nat} (hi : i < M.length) : rowsB (M.take (i + 1)) = rowsB (M.take i) ++ lineB M[i] := by
  unfold rowsB
  rw [List.take_succ_eq_append_getElem hi, List.flatMap_append, List.flatMap_singleton]
set_option maxHeartbeats 4000000 in
theorem elim_Bytes (H : List Hl) (bm n z : Nat) (ar : Option Addr) (cr k : Nat) (M : List (Option RD)) (ML : List (Option LN)) (R : List (BitVec 8)) (hM : RdM (stars H) bm n z ar cr k M) (hML : M.map vw = ML) (hR : matB n z k ML = R) (hk : k ≤ 1000) :
    Spec Tryd.prog 41 [.pointer (some ⟨bm, 0, none⟩)] H (fun _ : Option Addr × Nat => True) (fun r => .slice r.1 R.length r.2) (fun r => .row 5 1 (.slice r.1 R.length r.2) R.length (R.map B) :: H) := by
  refine spec_pure (res := fun r : Option Addr × Nat => [.row 5 1 (.slice r.1 R.length r.2) R.length (R.map B)]) H Tryd.func41 rfl Tryd.ntmps41 (by kernel_rfl) rfl (fun W => ?_)
  obtain ⟨l1, l2, l3, l4, l5, l6⟩ := hM.ok
  have m1 := hM.fn
  have m2 := hM.fz
  have m3 := hM.fs
  have hMLl : ML.length = n := by rw [← hML, List.length_map, l1]
  have hlok := hM.ok.vw
  rw [hML] at hlok
  have hnb : nb n ≤ 32 := by unfold nb; omega
  have hrl : ∀ i, i ≤ n → (headB n z k ++ rowsB (ML.take i)).length ≤ 4 + i * 48 := fun i hi => by
    have h1 := rowsB_len (n := n) (z := z) (M := ML.take i) (fun y hy => hlok.ok y (List.mem_of_mem_take hy))
    have h2 := cntS_le (ML.take i)
    rw [List.length_take] at h2
    have h3 : cntS (ML.take i) * (nb n + z) ≤ i * 48 := Nat.mul_le_mul (by omega) (by omega)
    rw [List.length_append, h1]
    simp only [headB, List.length_cons, List.length_nil]
    omega
  repeat' (first | refine ls_of rfl ?_ | refine ls_of_no ?_ | refine ls_guard_yes rfl rfl ?_ | refine ls_guard_no rfl rfl rfl rfl ?_ | refine ls_guard_un rfl rfl rfl ?_ | refine o1_move rfl ?_ | refine o1_assign rfl ?_ | refine st_seq ?_ | refine st_region ?_ | refine st_block ?_ | refine st_skip ?_ | refine st_ret ?_ | refine st_exit ?_ | refine st_cond_t rfl ?_ | refine st_cond_f rfl ?_ | refine st_cond rfl (fun _ => ?_) (fun _ => ?_) | refine ls_nil ?_ | refine nx_seq ?_ | refine nx_blk ?_ | refine nx_fn ?_ | refine nx_rounds ?_ | refine xt_seq ?_ | refine xt_here ?_ | refine xt_on rfl ?_ | refine xt_rounds ?_ | refine xt_cut ?_ | refine rt_seq ?_ | refine rt_blk ?_ | refine rt_rounds ?_ | refine rt_cut ?_ | refine o1_peql rfl rfl ?_ | refine o1_call (fun _ => elim_Rank _ bm k (cl_up hM.fk)) rfl (fun _ _ => ?_) | refine o1_fieldAddr rfl ?_ | refine ox_load rfl (by rfl) ?_ | refine ox_load_enc rfl (by first | omega | (simp; omega)) ?_ | refine ox_load_any rfl (by assumption) ?_ | refine o1_len rfl ?_ | refine o1_add rfl rfl (by omega) ?_ | refine o1_sub rfl rfl (by omega) ?_ | refine o1_lss_t rfl rfl (by omega) ?_ | refine o1_lss_f rfl rfl (by omega) ?_ | refine o1_lss rfl rfl (fun _ => ?_) (fun _ => ?_) | refine o1_ushr rfl rfl (by omega) ?_ | refine o1_conv_iu rfl ?_ | refine o1_slice_nil rfl ?_ | refine o1_lit_B rfl rfl rfl rfl rfl (fun _ => ?_) | refine ox_append rfl rfl (rx_box rfl (by first | decide | omega)) rfl rfl (fun _ => rfl) (by omega) (by omega) (fun _ _ => ?_) | refine ox_append rfl rfl (rx_any (by assumption)) rfl rfl (fun _ => rfl) (by omega) (by omega) (fun _ _ => ?_) | refine ox_append rfl rfl rx_row rfl rfl (fun _ => rfl) (by omega) (by omega) (fun _ _ => ?_) | refine o1_nilCheck rfl ?_)
  refine st_stages [(0, _), (3, _)] rtX2_0 [16] [⟨[0, 1, 2, 3, 4, 5, 6, 7, 8, 9, 10, 11, 12, 13, 14, 15], [], some 16⟩, ⟨[17], [], none⟩] mixed (cov_cons rfl rfl (cov_cons rfl rfl cov_nil)) (by kernel_rfl) (by kernel_rfl) ?_
  all_goals refine wk_ch ?_
  all_goals (refine xp1 0 rfl rfl rfl rfl (by refine o1_move rfl fz) ?_)
  all_goals (refine xp1 11 rfl rfl rfl rfl (by refine o1_nilCheck rfl fz) ?_)
  all_goals (refine xp1 12 rfl rfl rfl rfl (by refine o1_fieldAddr rfl fz) ?_)
  all_goals (refine xp1 13 rfl rfl rfl rfl (by first | refine ox_load_any rfl m1 fz | refine ox_load_any rfl m2 fz | refine ox_load rfl (by rfl) fz | refine ox_load_enc rfl (by first | omega | (simp; omega)) fz | refine ox_load_any rfl (by assumption) fz) ?_)
  all_goals (refine xp1 14 rfl rfl rfl rfl (by first | refine o1_sub rfl rfl (by omega) fz | refine o1_sub rfl rfl (by omega) fz) ?_)
  all_goals (refine xp1 15 rfl rfl rfl rfl (by first | refine o1_conv_iu rfl fz | refine o1_conv_iu rfl fz) ?_)
  all_goals (refine xp1 0 rfl rfl rfl rfl (by refine o1_move rfl fz) ?_)
  all_goals (refine xp1 17 rfl rfl rfl rfl (by refine o1_nilCheck rfl fz) ?_)
  all_goals (refine xp1 18 rfl rfl rfl rfl (by refine o1_fieldAddr rfl fz) ?_)
  all_goals (refine xp1 19 rfl rfl rfl rfl (by first | refine ox_load_any rfl m1 fz | refine ox_load_any rfl m2 fz | refine ox_load rfl (by rfl) fz | refine ox_load_enc rfl (by first | omega | (simp; omega)) fz | refine ox_load_any rfl (by assumption) fz) ?_)
  all_goals (refine xp1 20 rfl rfl rfl rfl (by first | refine o1_conv_iu rfl fz | refine o1_conv_iu rfl fz) ?_)
  all_goals (refine xp1 3 rfl rfl rfl rfl (by refine o1_move rfl fz) ?_)
  all_goals (refine xp1 22 rfl rfl rfl rfl (by first | refine o1_ishr8 rfl rfl fz | refine o1_ushr rfl rfl (by omega) fz) ?_)
  all_goals (refine xp1 23 rfl rfl rfl rfl (by first | refine o1_conv_iu rfl fz | refine o1_conv_iu rfl fz) ?_)
  all_goals (refine xp1 3 rfl rfl rfl rfl (by refine o1_move rfl fz) ?_)
  all_goals (refine xp1 25 rfl rfl rfl rfl (by first | refine o1_conv_iu rfl fz | refine o1_conv_iu rfl fz) ?_)
  all_goals refine op_nil ?_
  all_goals refine re_nil ?_
  all_goals first | (refine ch_run (E' := [(16, _), (21, _), (24, _), (26, _)]) rfl (gd_r0 rfl) rfl (cov_cons rfl rfl (cov_cons rfl rfl (cov_cons rfl rfl (cov_cons rfl rfl cov_nil)))) ?_; (first | (refine o1_lit_enc B (headB n z k) rfl rfl rfl (fun _ => rfl) rfl rfl rfl (fun b27 => ?_)) | refine o1_lit_B rfl rfl rfl rfl rfl (fun _ => ?_)))
  all_goals refine wk_end ?_
  all_goals (refine xp1 27 rfl rfl rfl rfl (by refine o1_assign rfl fz) ?_)
  all_goals refine op_nil ?_
  all_goals refine re_nil ?_
  all_goals dsimp only [List.cons_append, List.nil_append]
  repeat' (first | refine ls_of rfl ?_ | refine ls_of_no ?_ | refine ls_guard_yes rfl rfl ?_ | refine ls_guard_no rfl rfl rfl rfl ?_ | refine ls_guard_un rfl rfl rfl ?_ | refine o1_move rfl ?_ | refine o1_assign rfl ?_ | refine st_seq ?_ | refine st_region ?_ | refine st_block ?_ | refine st_skip ?_ | refine st_ret ?_ | refine st_exit ?_ | refine st_cond_t rfl ?_ | refine st_cond_f rfl ?_ | refine st_cond rfl (fun _ => ?_) (fun _ => ?_) | refine ls_nil ?_ | refine nx_seq ?_ | refine nx_blk ?_ | refine nx_fn ?_ | refine nx_rounds ?_ | refine xt_seq ?_ | refine xt_here ?_ | refine xt_on rfl ?_ | refine xt_rounds ?_ | refine xt_cut ?_ | refine rt_seq ?_ | refine rt_blk ?_ | refine rt_rounds ?_ | refine rt_cut ?_ | refine ox_load_any rfl m3 ?_ | refine o1_fieldAddr rfl ?_ | refine ox_load rfl (by rfl) ?_ | refine ox_load_enc rfl (by first | omega | (simp; omega)) ?_ | refine ox_load_any rfl (by assumption) ?_ | refine o1_len rfl ?_ | refine o1_add rfl rfl (by omega) ?_ | refine o1_sub rfl rfl (by omega) ?_ | refine o1_lss_t rfl rfl (by omega) ?_ | refine o1_lss_f rfl rfl (by omega) ?_ | refine o1_lss rfl rfl (fun _ => ?_) (fun _ => ?_) | refine o1_ushr rfl rfl (by omega) ?_ | refine o1_conv_iu rfl ?_ | refine o1_slice_nil rfl ?_ | refine o1_lit_B rfl rfl rfl rfl rfl (fun _ => ?_) | refine ox_append rfl rfl (rx_box rfl (by first | decide | omega)) rfl rfl (fun _ => rfl) (by omega) (by omega) (fun _ _ => ?_) | refine ox_append rfl rfl (rx_any (by assumption)) rfl rfl (fun _ => rfl) (by omega) (by omega) (fun _ _ => ?_) | refine ox_append rfl rfl rx_row rfl rfl (fun _ => rfl) (by omega) (by omega) (fun _ _ => ?_) | refine o1_nilCheck rfl ?_)
  refine st_row (T := 5) (b := b27) (m := 4) (cp := 4) (cs := (headB n z k).map B) rfl rfl (by omega) ?_
  refine st_loop (S := Nat × Option Addr × Nat) (fun q => [(4, .slice q.2.1 (headB n z k ++ rowsB (ML.take q.1)).length q.2.2), (31, .slice ar n cr), (32, I n), (33, I q.1)])
    (fun q => [.row 5 1 (.slice q.2.1 (headB n z k ++ rowsB (ML.take q.1)).length q.2.2) (headB n z k ++ rowsB (ML.take q.1)).length ((headB n z k ++ rowsB (ML.take q.1)).map B), .any (stars H)])
    (fun q => q.1 ≤ n) (fun q => n - q.1) (0, some ⟨b27, 0, none⟩, 4) (Nat.zero_le _)
    (cov_cons rfl rfl (cov_cons rfl rfl (cov_cons rfl rfl (cov_cons rfl rfl cov_nil)))) (by show Ent _ [.row 5 1 (.slice (some ⟨b27, 0, none⟩) 4 4) 4 ((headB n z k).map B), .any (stars H)]; (try dsimp only [List.cons_append, List.nil_append, List.singleton_append, List.append_nil]); (repeat (first | exact Ent.nil | exact Ent.refl _ | (apply Ent.cons; (repeat (first | exact Sel.here | apply Sel.there)))))) ?_
  rintro ⟨i, a1, c1⟩ hi
  dsimp only at hi ⊢
  by_cases hlt : i < n
  · have hiM : i < M.length := by omega
    have hiL : i < ML.length := by omega
    have hvi : ML[i] = vw M[i] := by subst hML; simp
    have htk := rowsB_take hiL
    have hl1 := hrl i (by omega)
    obtain ⟨X, hX⟩ : ∃ X, headB n z k ++ rowsB (ML.take i) = X := ⟨_, rfl⟩
    have hnx : headB n z k ++ rowsB (ML.take (i + 1)) = X ++ lineB (vw M[i]) := by rw [htk, ← List.append_assoc, hX, hvi]
    rw [hX] at hl1 ⊢
    cases hMi : M[i] with
    | none =>
      have hnx : headB n z k ++ rowsB (ML.take (i + 1)) = X := by rw [hnx, hMi]; simp [vw, lineB]
      repeat' (first | refine ls_of rfl ?_ | refine ls_of_no ?_ | refine ls_guard_yes rfl rfl ?_ | refine ls_guard_no rfl rfl rfl rfl ?_ | refine ls_guard_un rfl rfl rfl ?_ | refine o1_move rfl ?_ | refine o1_assign rfl ?_ | refine st_seq ?_ | refine st_region ?_ | refine st_block ?_ | refine st_skip ?_ | refine st_ret ?_ | refine st_exit ?_ | refine st_cond_t rfl ?_ | refine st_cond_f rfl ?_ | refine st_cond rfl (fun _ => ?_) (fun _ => ?_) | refine ls_nil ?_ | refine nx_seq ?_ | refine nx_blk ?_ | refine nx_fn ?_ | refine nx_rounds ?_ | refine xt_seq ?_ | refine xt_here ?_ | refine xt_on rfl ?_ | refine xt_rounds ?_ | refine xt_cut ?_ | refine rt_seq ?_ | refine rt_blk ?_ | refine rt_rounds ?_ | refine rt_cut ?_ | refine o1_ia (ad := ar) (c := cr) i rfl rfl hM.fr l1.symm rfl hiM ?_ | (refine o1_load_ia (ad := ar) (c := cr) i rfl hM.fr hiM ?_; rw [hMi]) | refine o1_pneq rfl rfl ?_ | refine o1_fieldAddr rfl ?_ | refine ox_load rfl (by rfl) ?_ | refine ox_load_enc rfl (by first | omega | (simp; omega)) ?_ | refine ox_load_any rfl (by assumption) ?_ | refine o1_len rfl ?_ | refine o1_add rfl rfl (by omega) ?_ | refine o1_sub rfl rfl (by omega) ?_ | refine o1_lss_t rfl rfl (by omega) ?_ | refine o1_lss_f rfl rfl (by omega) ?_ | refine o1_lss rfl rfl (fun _ => ?_) (fun _ => ?_) | refine o1_ushr rfl rfl (by omega) ?_ | refine o1_conv_iu rfl ?_ | refine o1_slice_nil rfl ?_ | refine o1_lit_B rfl rfl rfl rfl rfl (fun _ => ?_) | refine ox_append rfl rfl (rx_box rfl (by first | decide | omega)) rfl rfl (fun _ => rfl) (by omega) (by omega) (fun _ _ => ?_) | refine ox_append rfl rfl (rx_any (by assumption)) rfl rfl (fun _ => rfl) (by omega) (by omega) (fun _ _ => ?_) | refine ox_append rfl rfl rx_row rfl rfl (fun _ => rfl) (by omega) (by omega) (fun _ _ => ?_) | refine o1_nilCheck rfl ?_)
      refine nx_again (i + 1, a1, c1) (by show i + 1 ≤ n; omega) (by show n - (i + 1) < n - i; omega) (cov_cons rfl (by show Value.slice a1 _ c1 = Value.slice a1 (headB n z k ++ rowsB (ML.take (i + 1))).length c1; rw [hnx]) (cov_cons rfl rfl (cov_cons rfl rfl (cov_cons rfl rfl cov_nil)))) ?_
      show Ent _ [.row 5 1 (.slice a1 (headB n z k ++ rowsB (ML.take (i + 1))).length c1) (headB n z k ++ rowsB (ML.take (i + 1))).length ((headB n z k ++ rowsB (ML.take (i + 1))).map B), .any (stars H)]
      rw [hnx]
      (try dsimp only [List.cons_append, List.nil_append, List.singleton_append, List.append_nil]); (repeat (first | exact Ent.nil | exact Ent.refl _ | (apply Ent.cons; (repeat (first | exact Sel.here | apply Sel.there)))))
    | some q =>
      have hqm : some q ∈ M := hMi ▸ List.getElem_mem hiM
      have hq := hM.fm q hqm
      obtain ⟨hq1, hq2, hq3⟩ := l6 q hqm
      have hqp := hq.p
      have hqs := hq.s
      have hqd := hq.d
      have hqz := hq.z
      obtain ⟨V, hV⟩ : ∃ V, bytesV q.v.l = V := ⟨_, rfl⟩
      have hVl : V.length = nb q.v.n := by rw [← hV, bytesV_len, hq1.v.len]
      have hnx : headB n z k ++ rowsB (ML.take (i + 1)) = (X ++ V) ++ q.d := by rw [hnx, hMi]; simp [vw, lineB, hV]
      have hnbq : nb q.v.n ≤ 32 := by rw [hq2]; exact hnb
      have hnl : ((X ++ V) ++ q.d).length = X.length + nb q.v.n + q.z := by rw [List.length_append, List.length_append]; omega
      repeat' (first | refine ls_of rfl ?_ | refine ls_of_no ?_ | refine ls_guard_yes rfl rfl ?_ | refine ls_guard_no rfl rfl rfl rfl ?_ | refine ls_guard_un rfl rfl rfl ?_ | refine o1_move rfl ?_ | refine o1_assign rfl ?_ | refine st_seq ?_ | refine st_region ?_ | refine st_block ?_ | refine st_skip ?_ | refine st_ret ?_ | refine st_exit ?_ | refine st_cond_t rfl ?_ | refine st_cond_f rfl ?_ | refine st_cond rfl (fun _ => ?_) (fun _ => ?_) | refine ls_nil ?_ | refine nx_seq ?_ | refine nx_blk ?_ | refine nx_fn ?_ | refine nx_rounds ?_ | refine xt_seq ?_ | refine xt_here ?_ | refine xt_on rfl ?_ | refine xt_rounds ?_ | refine xt_cut ?_ | refine rt_seq ?_ | refine rt_blk ?_ | refine rt_rounds ?_ | refine rt_cut ?_ | refine o1_ia (ad := ar) (c := cr) i rfl rfl hM.fr l1.symm rfl hiM ?_ | (refine o1_load_ia (ad := ar) (c := cr) i rfl hM.fr hiM ?_; rw [hMi]) | refine o1_pneq rfl rfl ?_ | refine o1_fieldAddr rfl ?_ | refine ox_load rfl (by rfl) ?_ | refine ox_load_enc rfl (by first | omega | (simp; omega)) ?_ | refine ox_load_any rfl (by assumption) ?_ | refine o1_len rfl ?_ | refine o1_add rfl rfl (by omega) ?_ | refine o1_sub rfl rfl (by omega) ?_ | refine o1_lss_t rfl rfl (by omega) ?_ | refine o1_lss_f rfl rfl (by omega) ?_ | refine o1_lss rfl rfl (fun _ => ?_) (fun _ => ?_) | refine o1_ushr rfl rfl (by omega) ?_ | refine o1_conv_iu rfl ?_ | refine o1_slice_nil rfl ?_ | refine o1_lit_B rfl rfl rfl rfl rfl (fun _ => ?_) | refine ox_append rfl rfl (rx_box rfl (by first | decide | omega)) rfl rfl (fun _ => rfl) (by omega) (by omega) (fun _ _ => ?_) | refine ox_append rfl rfl (rx_any (by assumption)) rfl rfl (fun _ => rfl) (by omega) (by omega) (fun _ _ => ?_) | refine ox_append rfl rfl rx_row rfl rfl (fun _ => rfl) (by omega) (by omega) (fun _ _ => ?_) | refine o1_nilCheck rfl ?_)
      refine st_stages [(4, _), (6, _)] rtX2_1 [5, 6, 11] [⟨[0, 1, 2, 3, 4, 7, 8, 9, 10], [], some 5⟩, ⟨[], [0, 7, 8, 9, 10], some 6⟩, ⟨[], [7, 8, 9, 10], some 11⟩, ⟨[12], [], none⟩] mixed (cov_cons rfl rfl (cov_cons rfl rfl cov_nil)) (by kernel_rfl) (by kernel_rfl) ?_
      all_goals refine wk_ch ?_
      all_goals (refine xp1 4 rfl rfl rfl rfl (by refine o1_move rfl fz) ?_)
      all_goals (refine xp1 6 rfl rfl rfl rfl (by refine o1_move rfl fz) ?_)
      all_goals (refine xp1 40 rfl rfl rfl rfl (by refine o1_nilCheck rfl fz) ?_)
      all_goals (refine xp1 41 rfl rfl rfl rfl (by refine o1_fieldAddr rfl fz) ?_)
      all_goals (refine xp1 42 rfl rfl rfl rfl (by first | refine ox_load_any rfl hqp fz | refine ox_load_any rfl hqs fz | refine ox_load rfl (by rfl) fz | refine ox_load_enc rfl (by first | omega | (simp; omega)) fz | refine ox_load_any rfl (by assumption) fz) ?_)
      all_goals (refine xp1 6 rfl rfl rfl rfl (by refine o1_move rfl fz) ?_)
      all_goals (refine xp1 46 rfl rfl rfl rfl (by refine o1_nilCheck rfl fz) ?_)
      all_goals (refine xp1 47 rfl rfl rfl rfl (by refine o1_fieldAddr rfl fz) ?_)
      all_goals (refine xp1 48 rfl rfl rfl rfl (by first | refine ox_load_any rfl hqp fz | refine ox_load_any rfl hqs fz | refine ox_load rfl (by rfl) fz | refine ox_load_enc rfl (by first | omega | (simp; omega)) fz | refine ox_load_any rfl (by assumption) fz) ?_)
      all_goals refine op_nil ?_
      all_goals refine re_nil ?_
      all_goals first | (refine ch_run (E' := [(43, _)]) rfl (gd_r0 rfl) rfl (cov_cons rfl rfl cov_nil) ?_; (first | (refine o1_call (fun _ => vec_Bytes _ q.v (RdV.up hq.v)) rfl (fun b44 _ => ?_); rw [hV])))
      all_goals refine wk_ch ?_
      all_goals refine op_nil ?_
      all_goals (refine xq1 4 rfl rfl rfl rfl rfl (by refine o1_move rfl fz) ?_)
      all_goals (refine xq1 6 rfl rfl rfl rfl rfl (by refine o1_move rfl fz) ?_)
      all_goals (refine xq1 46 rfl rfl rfl rfl rfl (by refine o1_nilCheck rfl fz) ?_)
      all_goals (refine xq1 47 rfl rfl rfl rfl rfl (by refine o1_fieldAddr rfl fz) ?_)
      all_goals (refine xq1 48 rfl rfl rfl rfl rfl (by first | refine ox_load_any rfl hqp fz | refine ox_load_any rfl hqs fz | refine ox_load rfl (by rfl) fz | refine ox_load_enc rfl (by first | omega | (simp; omega)) fz | refine ox_load_any rfl (by assumption) fz) ?_)
      all_goals refine re_nil ?_
      all_goals first | (refine ch_run (E' := [(39, _), (44, _)]) rfl (gd_r0 rfl) rfl (cov_cons rfl rfl (cov_cons rfl rfl cov_nil)) ?_; (first | (refine ox_append (enc := B) (ad := a1) (c := c1) (xs := X) (ys := V) rfl rfl (rx_box (b := b44) (T := 5) hVl (by omega)) hVl.symm rfl (fun _ => rfl) (by omega) (by omega) (fun a45 c45 => ?_)) | (refine ox_append (enc := B) (ad := a45) (c := c45) (xs := X ++ V) (ys := q.d) rfl rfl (rx_any hqd) hqz.symm rfl (fun _ => rfl) (by omega) (by omega) (fun a50 c50 => ?_)) | refine ox_append rfl rfl (rx_box rfl (by first | decide | omega)) rfl rfl (fun _ => rfl) (by omega) (by omega) (fun _ _ => ?_) | refine ox_append rfl rfl (rx_any (by assumption)) rfl rfl (fun _ => rfl) (by omega) (by omega) (fun _ _ => ?_) | refine ox_append rfl rfl rx_row rfl rfl (fun _ => rfl) (by omega) (by omega) (fun _ _ => ?_)))
      all_goals refine wk_ch ?_
      all_goals refine op_nil ?_
      all_goals (refine xq1 6 rfl rfl rfl rfl rfl (by refine o1_move rfl fz) ?_)
      all_goals (refine xq1 46 rfl rfl rfl rfl rfl (by refine o1_nilCheck rfl fz) ?_)
      all_goals (refine xq1 47 rfl rfl rfl rfl rfl (by refine o1_fieldAddr rfl fz) ?_)
      all_goals (refine xq1 48 rfl rfl rfl rfl rfl (by first | refine ox_load_any rfl hqp fz | refine ox_load_any rfl hqs fz | refine ox_load rfl (by rfl) fz | refine ox_load_enc rfl (by first | omega | (simp; omega)) fz | refine ox_load_any rfl (by assumption) fz) ?_)
      all_goals refine re_nil ?_
      all_goals first | (refine ch_run (E' := [(45, _), (49, _)]) rfl (gd_r0 rfl) rfl (cov_cons rfl rfl (cov_cons rfl rfl cov_nil)) ?_; (first | (refine ox_append (enc := B) (ad := a1) (c := c1) (xs := X) (ys := V) rfl rfl (rx_box (b := b44) (T := 5) hVl (by omega)) hVl.symm rfl (fun _ => rfl) (by omega) (by omega) (fun a45 c45 => ?_)) | (refine ox_append (enc := B) (ad := a45) (c := c45) (xs := X ++ V) (ys := q.d) rfl rfl (rx_any hqd) hqz.symm rfl (fun _ => rfl) (by omega) (by omega) (fun a50 c50 => ?_)) | refine ox_append rfl rfl (rx_box rfl (by first | decide | omega)) rfl rfl (fun _ => rfl) (by omega) (by omega) (fun _ _ => ?_) | refine ox_append rfl rfl (rx_any (by assumption)) rfl rfl (fun _ => rfl) (by omega) (by omega) (fun _ _ => ?_) | refine ox_append rfl rfl rx_row rfl rfl (fun _ => rfl) (by omega) (by omega) (fun _ _ => ?_)))
      all_goals refine wk_end ?_
      all_goals (refine xp1 50 rfl rfl rfl rfl (by refine o1_assign rfl fz) ?_)
      all_goals refine op_nil ?_
      all_goals refine re_nil ?_
      all_goals dsimp only [List.cons_append, List.nil_append]
      repeat' (first | refine ls_of rfl ?_ | refine ls_of_no ?_ | refine ls_guard_yes rfl rfl ?_ | refine ls_guard_no rfl rfl rfl rfl ?_ | refine ls_guard_un rfl rfl rfl ?_ | refine o1_move rfl ?_ | refine o1_assign rfl ?_ | refine st_seq ?_ | refine st_region ?_ | refine st_block ?_ | refine st_skip ?_ | refine st_ret ?_ | refine st_exit ?_ | refine st_cond_t rfl ?_ | refine st_cond_f rfl ?_ | refine st_cond rfl (fun _ => ?_) (fun _ => ?_) | refine ls_nil ?_ | refine nx_seq ?_ | refine nx_blk ?_ | refine nx_fn ?_ | refine nx_rounds ?_ | refine xt_seq ?_ | refine xt_here ?_ | refine xt_on rfl ?_ | refine xt_rounds ?_ | refine xt_cut ?_ | refine rt_seq ?_ | refine rt_blk ?_ | refine rt_rounds ?_ | refine rt_cut ?_ | refine o1_fieldAddr rfl ?_ | refine ox_load rfl (by rfl) ?_ | refine ox_load_enc rfl (by first | omega | (simp; omega)) ?_ | refine ox_load_any rfl (by assumption) ?_ | refine o1_len rfl ?_ | refine o1_add rfl rfl (by omega) ?_ | refine o1_sub rfl rfl (by omega) ?_ | refine o1_lss_t rfl rfl (by omega) ?_ | refine o1_lss_f rfl rfl (by omega) ?_ | refine o1_lss rfl rfl (fun _ => ?_) (fun _ => ?_) | refine o1_ushr rfl rfl (by omega) ?_ | refine o1_conv_iu rfl ?_ | refine o1_slice_nil rfl ?_ | refine o1_lit_B rfl rfl rfl rfl rfl (fun _ => ?_) | refine ox_append rfl rfl (rx_box rfl (by first | decide | omega)) rfl rfl (fun _ => rfl) (by omega) (by omega) (fun _ _ => ?_) | refine ox_append rfl rfl (rx_any (by assumption)) rfl rfl (fun _ => rfl) (by omega) (by omega) (fun _ _ => ?_) | refine ox_append rfl rfl rx_row rfl rfl (fun _ => rfl) (by omega) (by omega) (fun _ _ => ?_) | refine o1_nilCheck rfl ?_)
      refine nx_again (i + 1, a50, c50) (by show i + 1 ≤ n; omega) (by show n - (i + 1) < n - i; omega) (cov_cons rfl (by show Value.slice a50 _ c50 = Value.slice a50 (headB n z k ++ rowsB (ML.take (i + 1))).length c50; rw [hnx, hnl]) (cov_cons rfl rfl (cov_cons rfl rfl (cov_cons rfl rfl cov_nil)))) ?_
      show Ent _ [.row 5 1 (.slice a50 (headB n z k ++ rowsB (ML.take (i + 1))).length c50) (headB n z k ++ rowsB (ML.take (i + 1))).length ((headB n z k ++ rowsB (ML.take (i + 1))).map B), .any (stars H)]
      rw [hnx, hnl]
      (try dsimp only [List.cons_append, List.nil_append, List.singleton_append, List.append_nil]); (repeat (first | exact Ent.nil | exact Ent.refl _ | (apply Ent.cons; (repeat (first | exact Sel.here | apply Sel.there)))))
  · have : i = n := by omega
    subst this
    have e1 : headB i z k ++ rowsB (ML.take i) = R := by rw [List.take_of_length_le (by omega)]; exact hR
    rw [e1]
    repeat' (first | refine ls_of rfl ?_ | refine ls_of_no ?_ | refine ls_guard_yes rfl rfl ?_ | refine ls_guard_no rfl rfl rfl rfl ?_ | refine ls_guard_un rfl rfl rfl ?_ | refine o1_move rfl ?_ | refine o1_assign rfl ?_ | refine st_seq ?_ | refine st_region ?_ | refine st_block ?_ | refine st_skip ?_ | refine st_ret ?_ | refine st_exit ?_ | refine st_cond_t rfl ?_ | refine st_cond_f rfl ?_ | refine st_cond rfl (fun _ => ?_) (fun _ => ?_) | refine ls_nil ?_ | refine nx_seq ?_ | refine nx_blk ?_ | refine nx_fn ?_ | refine nx_rounds ?_ | refine xt_seq ?_ | refine xt_here ?_ | refine xt_on rfl ?_ | refine xt_rounds ?_ | refine xt_cut ?_ | refine rt_seq ?_ | refine rt_blk ?_ | refine rt_rounds ?_ | refine rt_cut ?_ | refine o1_fieldAddr rfl ?_ | refine ox_load rfl (by rfl) ?_ | refine ox_load_enc rfl (by first | omega | (simp; omega)) ?_ | refine ox_load_any rfl (by assumption) ?_ | refine o1_len rfl ?_ | refine o1_add rfl rfl (by omega) ?_ | refine o1_sub rfl rfl (by omega) ?_ | refine o1_lss_t rfl rfl (by omega) ?_ | refine o1_lss_f rfl rfl (by omega) ?_ | refine o1_lss rfl rfl (fun _ => ?_) (fun _ => ?_) | refine o1_ushr rfl rfl (by omega) ?_ | refine o1_conv_iu rfl ?_ | refine o1_slice_nil rfl ?_ | refine o1_lit_B rfl rfl rfl rfl rfl (fun _ => ?_) | refine ox_append rfl rfl (rx_box rfl (by first | decide | omega)) rfl rfl (fun _ => rfl) (by omega) (by omega) (fun _ _ => ?_) | refine ox_append rfl rfl (rx_any (by assumption)) rfl rfl (fun _ => rfl) (by omega) (by omega) (fun _ _ => ?_) | refine ox_append rfl rfl rx_row rfl rfl (fun _ => rfl) (by omega) (by omega) (fun _ _ => ?_) | refine o1_nilCheck rfl ?_)
    refine rt_tmp (a1, c1) rfl rfl rfl trivial ?_
    (try dsimp only [List.cons_append, List.nil_append, List.singleton_append, List.append_nil]); (repeat (first | exact Ent.nil | exact Ent.refl _ | (apply Ent.cons; (repeat (first | exact Sel.here | apply Sel.there)))))
set_option maxHeartbeats 8000000 in
theorem elim_From (H : List Hl) (n z k : Nat) (ML : List (Option LN)) (ad : Option Addr) (c : Nat) (bs : List (BitVec 8)) (hb : Rs (stars H) B ad c bs) (hbs : matB n z k ML = bs) (hRR : RR n z ML) (hk : cntS ML = k) (h1 : 1 ≤ n) (h2 : n ≤ 256) (h3 : 1 ≤ z) (h4 : z ≤ 16) (ht : TabF (stars H)) :
    Spec Tryd.prog 42 [.slice ad bs.length c] H (fun r : Nat × (Option Addr × Nat) × List (Option RD) => r.2.2.map vw = ML ∧ MOk n z r.2.2) (fun r => .tuple #[.pointer (some ⟨r.1, 0, none⟩), .bool true]) (fun r => mB r.1 n z r.2.1.1 r.2.1.2 k :: mR n r.2.1.1 r.2.1.2 r.2.2 :: .any (mrows r.2.2) :: H) := by
  refine spec_pure (res := fun r : Nat × (Option Addr × Nat) × List (Option RD) => [mB r.1 n z r.2.1.1 r.2.1.2 k, mR n r.2.1.1 r.2.1.2 r.2.2, .any (mrows r.2.2)]) H Tryd.func42 rfl Tryd.ntmps42 (by kernel_rfl) rfl (fun W => ?_)
  have hle := hb.le
  have hbg := hb.big
  have hMLl := hRR.lok.len
  have hnb : nb n ≤ 32 := by unfold nb; omega
  have hq : ((n : Int) + 7) / 8 = (nb n : Nat) := by unfold nb; omega
  have hd4 : bs.drop 4 = rowsB ML := by rw [← hbs]; rfl
  have hl4 : bs.length = 4 + (rowsB ML).length := by rw [← hbs]; simp [matB, headB]; omega
  have g0 : bs[0]? = some (BitVec.ofInt 8 ((n : Int) - 1)) := by rw [← hbs]; rfl
  have g1 : bs[1]? = some (BitVec.ofInt 8 (z : Int)) := by rw [← hbs]; rfl
  have hn1 : ((BitVec.ofInt 8 ((n : Int) - 1)).toNat : Int) + 1 = n := by simp only [BitVec.toNat_ofInt]; omega
  have hz1 : ((BitVec.ofInt 8 (z : Int)).toNat : Int) = z := by simp only [BitVec.toNat_ofInt]; omega
  have hcc : cntS ML ≤ ML.length := cntS_le _
  repeat' (first | refine ls_of rfl ?_ | refine ls_of_no ?_ | refine ls_guard_yes rfl rfl ?_ | refine ls_guard_no rfl rfl rfl rfl ?_ | refine ls_guard_un rfl rfl rfl ?_ | refine o1_move rfl ?_ | refine o1_assign rfl ?_ | refine st_seq ?_ | refine st_region ?_ | refine st_block ?_ | refine st_skip ?_ | refine st_ret ?_ | refine st_exit ?_ | refine st_cond_t rfl ?_ | refine st_cond_f rfl ?_ | refine st_cond rfl (fun _ => ?_) (fun _ => ?_) | refine ls_nil ?_ | refine nx_seq ?_ | refine nx_blk ?_ | refine nx_fn ?_ | refine nx_rounds ?_ | refine xt_seq ?_ | refine xt_here ?_ | refine xt_on rfl ?_ | refine xt_rounds ?_ | refine xt_cut ?_ | refine rt_seq ?_ | refine rt_blk ?_ | refine rt_rounds ?_ | refine rt_cut ?_ | refine o1_pick_t rfl rfl ?_ | refine o1_pick_f rfl rfl ?_ | refine o1_extract rfl rfl ?_ | refine o1_fieldAddr rfl ?_ | refine ox_load rfl (by rfl) ?_ | refine ox_load_enc rfl (by first | omega | (simp; omega)) ?_ | refine ox_load_any rfl (by assumption) ?_ | refine o1_len rfl ?_ | refine o1_add rfl rfl (by omega) ?_ | refine o1_lss_t rfl rfl (by omega) ?_ | refine o1_lss_f rfl rfl (by omega) ?_ | refine o1_lss rfl rfl (fun _ => ?_) (fun _ => ?_) | refine o1_geq_t rfl rfl (by omega) ?_ | refine o1_geq_f rfl rfl (by omega) ?_ | refine o1_geq rfl rfl (fun _ => ?_) (fun _ => ?_) | refine o1_bnot rfl ?_ | refine o1_unot rfl ?_ | refine o1_conv_i rfl (by omega) ?_ | refine o1_conv_ui rfl (by exact bv_small (by decide) _) ?_ | refine o1_slice_nil rfl ?_ | refine o1_nilCheck rfl ?_)
  refine st_stages [(0, _)] rtX2_2 [9] [⟨[0, 1, 2, 3, 4, 5, 6, 7, 8], [], some 9⟩, ⟨[10], [], none⟩] mixed (cov_cons rfl rfl cov_nil) (by kernel_rfl) (by kernel_rfl) ?_
  all_goals refine wk_ch ?_
  all_goals (refine xp1 0 rfl rfl rfl rfl (by refine o1_move rfl fz) ?_)
  all_goals (refine xp1 12 rfl rfl rfl rfl (by first | refine o1_ia (ad := ad) (c := c) 0 rfl rfl hb rfl rfl (by omega) fz | refine o1_ia (ad := ad) (c := c) 1 rfl rfl hb rfl rfl (by omega) fz) ?_)
  all_goals (refine xp1 13 rfl rfl rfl rfl (by first | refine o1_load_av (ad := ad) (c := c) 0 _ rfl hb g0 fz | refine o1_load_av (ad := ad) (c := c) 1 _ rfl hb g1 fz | refine ox_load rfl (by rfl) fz | refine ox_load_enc rfl (by first | omega | (simp; omega)) fz | refine ox_load_any rfl (by assumption) fz) ?_)
  all_goals (refine xp1 14 rfl rfl rfl rfl (by first | ((refine o1_conv_i rfl (by omega) ?_; rw [hz1]); all_goals exact fz) | refine o1_conv_i rfl (by omega) fz | refine o1_conv_i rfl (by omega) fz | refine o1_conv_ui rfl (by exact bv_small (by decide) _) fz) ?_)
  all_goals (refine xp1 15 rfl rfl rfl rfl (by first | ((refine o1_add rfl rfl (by omega) ?_; rw [hn1]); all_goals exact fz) | refine o1_add rfl rfl (by omega) fz) ?_)
  all_goals (refine xp1 0 rfl rfl rfl rfl (by refine o1_move rfl fz) ?_)
  all_goals (refine xp1 17 rfl rfl rfl rfl (by first | refine o1_ia (ad := ad) (c := c) 0 rfl rfl hb rfl rfl (by omega) fz | refine o1_ia (ad := ad) (c := c) 1 rfl rfl hb rfl rfl (by omega) fz) ?_)
  all_goals (refine xp1 18 rfl rfl rfl rfl (by first | refine o1_load_av (ad := ad) (c := c) 0 _ rfl hb g0 fz | refine o1_load_av (ad := ad) (c := c) 1 _ rfl hb g1 fz | refine ox_load rfl (by rfl) fz | refine ox_load_enc rfl (by first | omega | (simp; omega)) fz | refine ox_load_any rfl (by assumption) fz) ?_)
  all_goals (refine xp1 19 rfl rfl rfl rfl (by first | ((refine o1_conv_i rfl (by omega) ?_; rw [hz1]); all_goals exact fz) | refine o1_conv_i rfl (by omega) fz | refine o1_conv_i rfl (by omega) fz | refine o1_conv_ui rfl (by exact bv_small (by decide) _) fz) ?_)
  all_goals refine op_nil ?_
  all_goals refine re_nil ?_
  all_goals first | (refine ch_run (E' := [(16, _), (20, _)]) rfl (gd_r0 rfl) rfl (cov_cons rfl rfl (cov_cons rfl rfl cov_nil)) ?_; (first | (refine o1_call (fun _ => elim_New _ n z h1 h2 h3 h4) rfl (fun ⟨bm, ar, cr⟩ _ => ?_); dsimp only)))
  all_goals refine wk_end ?_
  all_goals (refine xp1 21 rfl rfl rfl rfl (by refine o1_assign rfl fz) ?_)
  all_goals refine op_nil ?_
  all_goals refine re_nil ?_
  all_goals dsimp only [List.cons_append, List.nil_append]
  repeat' (first | refine ls_of rfl ?_ | refine ls_of_no ?_ | refine ls_guard_yes rfl rfl ?_ | refine ls_guard_no rfl rfl rfl rfl ?_ | refine ls_guard_un rfl rfl rfl ?_ | refine o1_move rfl ?_ | refine o1_assign rfl ?_ | refine st_seq ?_ | refine st_region ?_ | refine st_block ?_ | refine st_skip ?_ | refine st_ret ?_ | refine st_exit ?_ | refine st_cond_t rfl ?_ | refine st_cond_f rfl ?_ | refine st_cond rfl (fun _ => ?_) (fun _ => ?_) | refine ls_nil ?_ | refine nx_seq ?_ | refine nx_blk ?_ | refine nx_fn ?_ | refine nx_rounds ?_ | refine xt_seq ?_ | refine xt_here ?_ | refine xt_on rfl ?_ | refine xt_rounds ?_ | refine xt_cut ?_ | refine rt_seq ?_ | refine rt_blk ?_ | refine rt_rounds ?_ | refine rt_cut ?_ | refine o1_peql rfl rfl ?_ | (refine o1_quo rfl rfl (by omega) ?_; rw [hq]) | (refine o1_cs_l (xs := bs) 4 rfl rfl rfl rfl (by omega) ?_; rw [hd4]) | refine o1_pick_t rfl rfl ?_ | refine o1_pick_f rfl rfl ?_ | refine o1_extract rfl rfl ?_ | refine o1_fieldAddr rfl ?_ | refine ox_load rfl (by rfl) ?_ | refine ox_load_enc rfl (by first | omega | (simp; omega)) ?_ | refine ox_load_any rfl (by assumption) ?_ | refine o1_len rfl ?_ | refine o1_add rfl rfl (by omega) ?_ | refine o1_lss_t rfl rfl (by omega) ?_ | refine o1_lss_f rfl rfl (by omega) ?_ | refine o1_lss rfl rfl (fun _ => ?_) (fun _ => ?_) | refine o1_geq_t rfl rfl (by omega) ?_ | refine o1_geq_f rfl rfl (by omega) ?_ | refine o1_geq rfl rfl (fun _ => ?_) (fun _ => ?_) | refine o1_bnot rfl ?_ | refine o1_unot rfl ?_ | refine o1_conv_i rfl (by omega) ?_ | refine o1_conv_ui rfl (by exact bv_small (by decide) _) ?_ | refine o1_slice_nil rfl ?_ | refine o1_nilCheck rfl ?_)
  have hk0 : MOk n z (List.replicate n none) := MOk.none h1 h2 h3 h4
  have hv0 : (List.replicate n none : List (Option RD)).map vw = prefM ML 0 := by rw [prefM_zero, hMLl, List.map_replicate]; rfl
  have hc0 : cntS (prefM ML 0) = 0 := by rw [prefM_zero]; exact cntS_none _
  have hr0 : Rs (stars H) B (cutA ad c 4) (c - 4) (rowsB (ML.drop 0)) := by
    have := hb.cutl 4 (by omega)
    rw [hd4] at this
    exact this
  refine st_loop (S := Nat × Option Addr × Nat × List (Option RD)) (fun q => [(0, .slice ad bs.length c), (4, .pointer (some ⟨bm, 0, none⟩)), (5, I (nb n)), (6, .slice q.2.1 (rowsB (ML.drop q.1)).length q.2.2.1)])
    (fun q => [mB bm n z ar cr (cntS (prefM ML q.1)), mR n ar cr q.2.2.2, .any (mrows q.2.2.2), .any (stars H)])
    (fun q => q.1 ≤ n ∧ Rs (stars H) B q.2.1 q.2.2.1 (rowsB (ML.drop q.1)) ∧ q.2.2.2.map vw = prefM ML q.1 ∧ MOk n z q.2.2.2) (fun q => n - q.1) (0, cutA ad c 4, c - 4, List.replicate n none) ⟨Nat.zero_le _, hr0, hv0, hk0⟩
    (cov_cons rfl rfl (cov_cons rfl rfl (cov_cons rfl rfl (cov_cons rfl rfl cov_nil)))) (by show Ent _ [mB bm n z ar cr (cntS (prefM ML 0)), mR n ar cr (List.replicate n none), .any (mrows (List.replicate n none)), .any (stars H)]; rw [hc0]; (try dsimp only [List.cons_append, List.nil_append, List.singleton_append, List.append_nil]); (repeat (first | exact Ent.nil | exact Ent.refl _ | (apply Ent.cons; (repeat (first | exact Sel.here | apply Sel.there)))))) ?_
  rintro ⟨i0, aa, ca, M⟩ ⟨hi, hrs, hMv, hMk⟩
  dsimp only at hi hrs hMv hMk ⊢
  have hrl := rowsB_len (n := n) (z := z) (M := ML.drop i0) (fun y hy => hRR.lok.ok y (List.mem_of_mem_drop hy))
  rcases next_row ML i0 (by omega) with hnone | ⟨i, y, hci, hy, hbetween⟩
  · have hrest : rowsB (ML.drop i0) = [] := rowsB_none (drop_none hnone)
    have hpm : prefM ML i0 = ML := by
      rw [prefM_skip (d := ML.length) (by omega) (Nat.le_refl _) (fun j h1 h2 => hnone j h1 h2), prefM_all]
    rw [hpm] at hMv
    rw [hrest, hpm, hk]
    have hcond : ¬ ((([] : List (BitVec 8)).length : Int) ≥ (nb n : Nat) + (z : Int)) := by simp; omega
    repeat' (first | refine ls_of rfl ?_ | refine ls_of_no ?_ | refine ls_guard_yes rfl rfl ?_ | refine ls_guard_no rfl rfl rfl rfl ?_ | refine ls_guard_un rfl rfl rfl ?_ | refine o1_move rfl ?_ | refine o1_assign rfl ?_ | refine st_seq ?_ | refine st_region ?_ | refine st_block ?_ | refine st_skip ?_ | refine st_ret ?_ | refine st_exit ?_ | refine st_cond_t rfl ?_ | refine st_cond_f rfl ?_ | refine st_cond rfl (fun _ => ?_) (fun _ => ?_) | refine ls_nil ?_ | refine nx_seq ?_ | refine nx_blk ?_ | refine nx_fn ?_ | refine nx_rounds ?_ | refine xt_seq ?_ | refine xt_here ?_ | refine xt_on rfl ?_ | refine xt_rounds ?_ | refine xt_cut ?_ | refine rt_seq ?_ | refine rt_blk ?_ | refine rt_rounds ?_ | refine rt_cut ?_ | refine o1_geq_f rfl rfl (by simp; omega) ?_ | (refine o1_call (fun hh => elim_Bytes _ bm n z ar cr k M ML bs (RdM.own hMk hh) hMv hbs (by omega)) rfl (fun ⟨a78, c78⟩ _ => ?_); dsimp only) | refine o1_call (fun hh => (slices_Equal _ a78 ad c78 c bs bs (rx_row hh) hb.up).bv (b := true) (by simp)) rfl (fun _ _ => ?_) | refine o1_pick_t rfl rfl ?_ | refine o1_pick_f rfl rfl ?_ | refine o1_extract rfl rfl ?_ | refine o1_fieldAddr rfl ?_ | refine ox_load rfl (by rfl) ?_ | refine ox_load_enc rfl (by first | omega | (simp; omega)) ?_ | refine ox_load_any rfl (by assumption) ?_ | refine o1_len rfl ?_ | refine o1_add rfl rfl (by omega) ?_ | refine o1_lss_t rfl rfl (by omega) ?_ | refine o1_lss_f rfl rfl (by omega) ?_ | refine o1_lss rfl rfl (fun _ => ?_) (fun _ => ?_) | refine o1_geq_t rfl rfl (by omega) ?_ | refine o1_geq_f rfl rfl (by omega) ?_ | refine o1_geq rfl rfl (fun _ => ?_) (fun _ => ?_) | refine o1_bnot rfl ?_ | refine o1_unot rfl ?_ | refine o1_conv_i rfl (by omega) ?_ | refine o1_conv_ui rfl (by exact bv_small (by decide) _) ?_ | refine o1_slice_nil rfl ?_ | refine o1_nilCheck rfl ?_)
    refine rt_tmp2 (bm, (ar, cr), M) rfl rfl rfl rfl ⟨hMv, hMk⟩ ?_
    (try dsimp only [List.cons_append, List.nil_append, List.singleton_append, List.append_nil]); (repeat (first | exact Ent.nil | exact Ent.refl _ | (apply Ent.cons; (repeat (first | exact Sel.here | apply Sel.there)))))
  · obtain ⟨hred, hfst, hfree, hadd, hin⟩ := prefM_red hRR hy
    have hskip := prefM_skip (M := ML) hci (by omega) (fun j h1 h2 => hbetween j h1 h2)
    rw [← hskip] at hred hfree hadd
    obtain ⟨y1, y2⟩ := hRR.lok.ok y (mem_of_get? hy)
    have hrest := rowsB_next hci hy hbetween
    have hcnt := cntS_addM (x := y) hfree
    rw [hadd] at hcnt
    have hcm : cntS (prefM ML i0) ≤ 256 := by have := cntS_le (prefM ML i0); rw [prefM_len _ _ (by omega)] at this; omega
    obtain ⟨raw, hraw⟩ : ∃ raw, bytesV y.1 = raw := ⟨_, rfl⟩
    obtain ⟨tl, htl⟩ : ∃ tl, rowsB (ML.drop (i + 1)) = tl := ⟨_, rfl⟩
    obtain ⟨yb, yd⟩ := y
    dsimp only at y1 y2 hraw hrest hfst
    have hrawl : raw.length = nb n := by rw [← hraw, bytesV_len, y1]
    rw [hraw, htl] at hrest
    rw [hrest] at hrs ⊢
    have t1 : ((raw ++ yd) ++ tl).take (nb n) = raw := by rw [List.append_assoc, List.take_left' hrawl]
    have t2 : (((raw ++ yd) ++ tl).take (nb n + z)).drop (nb n) = yd := by
      rw [List.take_left' (by rw [List.length_append]; omega), List.drop_left' hrawl]
    have t3 : ((raw ++ yd) ++ tl).drop (nb n + z) = tl := by rw [List.drop_left' (by rw [List.length_append]; omega)]
    have hll : ((raw ++ yd) ++ tl).length = nb n + z + tl.length := by rw [List.length_append, List.length_append]; omega
    have hbig := hrs.big
    have hlee := hrs.le
    have f1 : Rs (stars H) B (cutA aa ca 0) (ca - 0) raw := by have := hrs.cuth (nb n) (by omega); rw [t1] at this; exact this
    have f2 : Rs (stars H) B (cutA aa ca (nb n)) (ca - nb n) yd := by have := hrs.cutv (nb n) (nb n + z) (by omega) (by omega); rw [t2] at this; exact this
    have f3 : Rs (stars H) B (cutA aa ca (nb n + z)) (ca - (nb n + z)) tl := by have := hrs.cutl (nb n + z) (by omega); rw [t3] at this; exact this
    have hno : ∀ i, n ≤ i → i < 8 * nb n → rbit raw i = false := fun i h1 h2 => by
      rw [← hraw, rbit_bytes _ _ (by rw [y1]; exact h2)]
      exact getD_out (by omega)
    have hmask : maskV n (rbit raw) n = yb := by
      have e1 := unpV_ok hrawl hno
      have e2 := unpV_bytes yb
      rw [y1, hraw, e1] at e2
      exact Option.some.inj e2
    have hnz : (nb n : Int) + z = ((nb n + z : Nat) : Int) := by push_cast; rfl
    repeat' (first | refine ls_of rfl ?_ | refine ls_of_no ?_ | refine ls_guard_yes rfl rfl ?_ | refine ls_guard_no rfl rfl rfl rfl ?_ | refine ls_guard_un rfl rfl rfl ?_ | refine o1_move rfl ?_ | refine o1_assign rfl ?_ | refine st_seq ?_ | refine st_region ?_ | refine st_block ?_ | refine st_skip ?_ | refine st_ret ?_ | refine st_exit ?_ | refine st_cond_t rfl ?_ | refine st_cond_f rfl ?_ | refine st_cond rfl (fun _ => ?_) (fun _ => ?_) | refine ls_nil ?_ | refine nx_seq ?_ | refine nx_blk ?_ | refine nx_fn ?_ | refine nx_rounds ?_ | refine xt_seq ?_ | refine xt_here ?_ | refine xt_on rfl ?_ | refine xt_rounds ?_ | refine xt_cut ?_ | refine rt_seq ?_ | refine rt_blk ?_ | refine rt_rounds ?_ | refine rt_cut ?_ | (refine o1_add rfl rfl (by omega) ?_; rw [hnz]) | refine o1_geq_t rfl rfl (by omega) ?_ | refine o1_pick_t rfl rfl ?_ | refine o1_pick_f rfl rfl ?_ | refine o1_extract rfl rfl ?_ | refine o1_fieldAddr rfl ?_ | refine ox_load rfl (by rfl) ?_ | refine ox_load_enc rfl (by first | omega | (simp; omega)) ?_ | refine ox_load_any rfl (by assumption) ?_ | refine o1_len rfl ?_ | refine o1_add rfl rfl (by omega) ?_ | refine o1_lss_t rfl rfl (by omega) ?_ | refine o1_lss_f rfl rfl (by omega) ?_ | refine o1_lss rfl rfl (fun _ => ?_) (fun _ => ?_) | refine o1_geq_t rfl rfl (by omega) ?_ | refine o1_geq_f rfl rfl (by omega) ?_ | refine o1_geq rfl rfl (fun _ => ?_) (fun _ => ?_) | refine o1_bnot rfl ?_ | refine o1_unot rfl ?_ | refine o1_conv_i rfl (by omega) ?_ | refine o1_conv_ui rfl (by exact bv_small (by decide) _) ?_ | refine o1_slice_nil rfl ?_ | refine o1_nilCheck rfl ?_)
    refine st_stages [(4, _), (6, _), (5, _)] rtX2_3 [7] [⟨[0, 1, 2, 3, 4, 5, 6], [], some 7⟩, ⟨[8, 9, 10, 11, 12], [], none⟩] mixed (cov_cons rfl rfl (cov_cons rfl rfl (cov_cons rfl rfl cov_nil))) (by kernel_rfl) (by kernel_rfl) ?_
    all_goals refine wk_ch ?_
    all_goals (refine xp1 4 rfl rfl rfl rfl (by refine o1_move rfl fz) ?_)
    all_goals (refine xp1 50 rfl rfl rfl rfl (by refine o1_nilCheck rfl fz) ?_)
    all_goals (refine xp1 51 rfl rfl rfl rfl (by refine o1_fieldAddr rfl fz) ?_)
    all_goals (refine xp1 52 rfl rfl rfl rfl (by first | refine ox_load rfl (by rfl) fz | refine ox_load_enc rfl (by first | omega | (simp; omega)) fz | refine ox_load_any rfl (by assumption) fz) ?_)
    all_goals (refine xp1 6 rfl rfl rfl rfl (by refine o1_move rfl fz) ?_)
    all_goals (refine xp1 5 rfl rfl rfl rfl (by refine o1_move rfl fz) ?_)
    all_goals (refine xp2 54 55 rfl rfl rfl rfl rfl (by ((refine o1_cs_h (xs := (raw ++ yd) ++ tl) (nb n) rfl rfl rfl rfl (by omega) (by omega) ?_; rw [t1]); all_goals exact fz)) ?_)
    all_goals refine op_nil ?_
    all_goals refine re_nil ?_
    all_goals first | (refine ch_run (E' := [(53, _), (56, _)]) rfl (gd_r0 rfl) rfl (cov_cons rfl rfl (cov_cons rfl rfl cov_nil)) ?_; (first | (refine o1_call (fun _ => vec_From_ok _ n (cutA aa ca 0) raw.length (ca - 0) raw h2 (Rs.up f1) rfl hrawl hno) rfl (fun ⟨b57, a57, c57⟩ _ => ?_); (try dsimp only); rw [hmask])))
    all_goals refine wk_end ?_
    all_goals (refine xp1 57 rfl rfl rfl rfl (by refine o1_move rfl fz) ?_)
    all_goals (refine xp1 49 rfl rfl rfl rfl (by refine o1_extract rfl rfl fz) ?_)
    all_goals (refine xp1 49 rfl rfl rfl rfl (by refine o1_extract rfl rfl fz) ?_)
    all_goals (refine xp1 58 rfl rfl rfl rfl (by refine o1_assign rfl fz) ?_)
    all_goals (refine xp1 59 rfl rfl rfl rfl (by refine o1_assign rfl fz) ?_)
    all_goals refine op_nil ?_
    all_goals refine re_nil ?_
    all_goals dsimp only [List.cons_append, List.nil_append]
    repeat' (first | refine ls_of rfl ?_ | refine ls_of_no ?_ | refine ls_guard_yes rfl rfl ?_ | refine ls_guard_no rfl rfl rfl rfl ?_ | refine ls_guard_un rfl rfl rfl ?_ | refine o1_move rfl ?_ | refine o1_assign rfl ?_ | refine st_seq ?_ | refine st_region ?_ | refine st_block ?_ | refine st_skip ?_ | refine st_ret ?_ | refine st_exit ?_ | refine st_cond_t rfl ?_ | refine st_cond_f rfl ?_ | refine st_cond rfl (fun _ => ?_) (fun _ => ?_) | refine ls_nil ?_ | refine nx_seq ?_ | refine nx_blk ?_ | refine nx_fn ?_ | refine nx_rounds ?_ | refine xt_seq ?_ | refine xt_here ?_ | refine xt_on rfl ?_ | refine xt_rounds ?_ | refine xt_cut ?_ | refine rt_seq ?_ | refine rt_blk ?_ | refine rt_rounds ?_ | refine rt_cut ?_ | (refine o1_add rfl rfl (by omega) ?_; rw [hnz]) | (refine o1_cs_lh (xs := (raw ++ yd) ++ tl) (nb n) (nb n + z) rfl rfl rfl rfl rfl rfl (by omega) (by omega) (by omega) ?_; rw [t2]) | (refine o1_call_bra bm ar cr (mrows M) (fun hh => elim_Add _ bm n z ar cr (cntS (prefM ML i0)) M ⟨b57, n, a57, c57, yb⟩ (cutA aa ca (nb n)) yd.length (ca - nb n) yd (prefM ML i0) (yb, yd) i hMk hMv (RdV.own y1 h2 (has_tail (has_tail (has_tail hh)))) rfl (Rs.up f2) rfl y2 hred hfst hfree (by omega) (TabF.up ht)) rfl (fun M2 hM2 => ?_)) | (refine o1_cs_l (xs := (raw ++ yd) ++ tl) (nb n + z) rfl rfl rfl rfl (by omega) ?_; rw [t3]) | refine o1_pick_t rfl rfl ?_ | refine o1_pick_f rfl rfl ?_ | refine o1_extract rfl rfl ?_ | refine o1_fieldAddr rfl ?_ | refine ox_load rfl (by rfl) ?_ | refine ox_load_enc rfl (by first | omega | (simp; omega)) ?_ | refine ox_load_any rfl (by assumption) ?_ | refine o1_len rfl ?_ | refine o1_add rfl rfl (by omega) ?_ | refine o1_lss_t rfl rfl (by omega) ?_ | refine o1_lss_f rfl rfl (by omega) ?_ | refine o1_lss rfl rfl (fun _ => ?_) (fun _ => ?_) | refine o1_geq_t rfl rfl (by omega) ?_ | refine o1_geq_f rfl rfl (by omega) ?_ | refine o1_geq rfl rfl (fun _ => ?_) (fun _ => ?_) | refine o1_bnot rfl ?_ | refine o1_unot rfl ?_ | refine o1_conv_i rfl (by omega) ?_ | refine o1_conv_ui rfl (by exact bv_small (by decide) _) ?_ | refine o1_slice_nil rfl ?_ | refine o1_nilCheck rfl ?_)
    refine nx_again (i + 1, cutA aa ca (nb n + z), ca - (nb n + z), M2) ⟨?_, ?_, ?_, hM2.2⟩ ?_ (cov_cons rfl rfl (cov_cons rfl rfl (cov_cons rfl rfl (cov_cons rfl (by show Value.slice _ tl.length _ = Value.slice _ (rowsB (ML.drop (i + 1))).length _; rw [htl]) cov_nil)))) ?_
    · show i + 1 ≤ n; omega
    · show Rs (stars H) B (cutA aa ca (nb n + z)) (ca - (nb n + z)) (rowsB (ML.drop (i + 1)))
      rw [htl]; exact f3
    · show M2.map vw = prefM ML (i + 1)
      rw [hM2.1, hadd]
    · show n - (i + 1) < n - i0; omega
    · show Ent _ [mB bm n z ar cr (cntS (prefM ML (i + 1))), mR n ar cr M2, .any (mrows M2), .any (stars H)]
      rw [hcnt]
      (try dsimp only [List.cons_append, List.nil_append, List.singleton_append, List.append_nil]); (repeat (first | exact Ent.nil | exact Ent.refl _ | (apply Ent.cons; (repeat (first | exact Sel.here | apply Sel.there)))))
end Go.Dp

set_option linter.unusedVariables false
set_option linter.unusedSimpArgs false
namespace Go.Dp
open Go.RowKit Go.Proofs
def rtY4_0 : List Row := [⟨some 6, [], [], none⟩, ⟨some 7, [0], [0], none⟩, ⟨some 8, [1], [0, 1], none⟩, ⟨some 9, [2], [0, 1, 2], none⟩, ⟨some 10, [3], [0, 1, 2, 3], none⟩, ⟨some 11, [4], [0, 1, 2, 3, 4], none⟩, ⟨some 12, [], [], none⟩, ⟨some 13, [6], [6], none⟩, ⟨some 14, [7], [6, 7], none⟩, ⟨some 15, [8], [6, 7, 8], none⟩, ⟨some 16, [9], [6, 7, 8, 9], none⟩, ⟨some 17, [], [], none⟩, ⟨some 18, [11], [11], none⟩, ⟨some 19, [12], [11, 12], none⟩, ⟨some 20, [13], [11, 12, 13], none⟩, ⟨some 21, [14], [11, 12, 13, 14], none⟩, ⟨some 22, [15], [11, 12, 13, 14, 15], none⟩, ⟨some 23, [16], [11, 12, 13, 14, 15, 16], none⟩, ⟨some 24, [], [], none⟩, ⟨some 25, [18], [18], none⟩, ⟨some 26, [19], [18, 19], none⟩, ⟨some 27, [20], [18, 19, 20], none⟩, ⟨some 28, [21], [18, 19, 20, 21], none⟩, ⟨some 29, [22], [18, 19, 20, 21, 22], none⟩, ⟨some 30, [5, 10, 17, 23], [0, 1, 2, 3, 4, 5, 6, 7, 8, 9, 10, 11, 12, 13, 14, 15, 16, 17, 18, 19, 20, 21, 22, 23], none⟩, ⟨some 3, [24, 0, 1, 2, 3, 4, 5, 6, 7, 8, 9, 10, 11, 12, 13, 14, 15, 16, 17, 18, 19, 20, 21, 22, 23, 24], [0, 1, 2, 3, 4, 5, 6, 7, 8, 9, 10, 11, 12, 13, 14, 15, 16, 17, 18, 19, 20, 21, 22, 23, 24], none⟩]
def rtY4_1 : List Row := [⟨some 40, [], [], none⟩, ⟨some 41, [], [], none⟩, ⟨some 42, [1], [1], none⟩, ⟨some 43, [2], [1, 2], none⟩, ⟨some 44, [], [], none⟩, ⟨some 45, [4], [4], none⟩, ⟨some 46, [0, 3, 5], [0, 1, 2, 3, 4, 5], none⟩, ⟨some 47, [6, 3], [0, 1, 2, 3, 4, 5, 6], none⟩, ⟨some 3, [7, 7, 0, 1, 2, 3, 4, 5, 6, 7], [0, 1, 2, 3, 4, 5, 6, 7], none⟩]
def rtY4_2 : List Row := [⟨some 31, [], [], none⟩, ⟨some 32, [0], [0], none⟩, ⟨some 33, [1], [0, 1], none⟩, ⟨some 34, [2], [0, 1, 2], none⟩, ⟨some 35, [], [], none⟩, ⟨some 36, [3, 4], [0, 1, 2, 3, 4], none⟩, ⟨some 37, [5], [0, 1, 2, 3, 4, 5], none⟩, ⟨some 38, [6], [0, 1, 2, 3, 4, 5, 6], none⟩, ⟨some 39, [7], [0, 1, 2, 3, 4, 5, 6, 7], none⟩, ⟨some 40, [8], [0, 1, 2, 3, 4, 5, 6, 7, 8], none⟩, ⟨some 41, [9], [0, 1, 2, 3, 4, 5, 6, 7, 8, 9], none⟩, ⟨some 42, [], [], none⟩, ⟨some 43, [11], [11], none⟩, ⟨some 44, [12], [11, 12], none⟩, ⟨some 45, [13], [11, 12, 13], none⟩, ⟨some 46, [], [], none⟩, ⟨some 47, [14, 15], [11, 12, 13, 14, 15], none⟩, ⟨some 48, [16], [11, 12, 13, 14, 15, 16], none⟩, ⟨some 49, [17], [11, 12, 13, 14, 15, 16, 17], none⟩, ⟨some 50, [18], [11, 12, 13, 14, 15, 16, 17, 18], none⟩, ⟨some 51, [19], [11, 12, 13, 14, 15, 16, 17, 18, 19], none⟩, ⟨some 52, [20, 10], [0, 1, 2, 3, 4, 5, 6, 7, 8, 9, 10, 11, 12, 13, 14, 15, 16, 17, 18, 19, 20], none⟩, ⟨some 4, [10, 21, 0, 1, 2, 3, 4, 5, 6, 7, 8, 9, 10], [0, 1, 2, 3, 4, 5, 6, 7, 8, 9, 10, 11, 12, 13, 14, 15, 16, 17, 18, 19, 20, 21], none⟩, ⟨some 5, [21, 22, 0, 1, 2, 3, 4, 5, 6, 7, 8, 9, 10, 11, 12, 13, 14, 15, 16, 17, 18, 19, 20, 21, 22], [0, 1, 2, 3, 4, 5, 6, 7, 8, 9, 10, 11, 12, 13, 14, 15, 16, 17, 18, 19, 20, 21, 22], none⟩, ⟨some 6, [23, 0, 1, 2, 3, 4, 5, 6, 7, 8, 9, 10, 11, 12, 13, 14, 15, 16, 17, 18, 19, 20, 21, 22, 23], [0, 1, 2, 3, 4, 5, 6, 7, 8, 9, 10, 11, 12, 13, 14, 15, 16, 17, 18, 19, 20, 21, 22, 23], none⟩]
theorem all3 {α : Type} {Q : α → Prop} {a b c : α} (ha : Q a) (hb : Q b) (hc : Q c) : ∀ s ∈ [a, b, c], Q s := fun s hs => by
  simp only [List.mem_cons, List.not_mem_nil, or_false] at hs
  rcases hs with rfl | rfl | rfl
  · exact ha
  · exact hb
  · exact hc
def lnB (x : LnD) : List (BitVec 8) := bytesV x.v.l ++ x.d.l
def rowsL (l : List LnD) : List (BitVec 8) := l.flatMap lnB
theorem rowsL_take {l : List LnD} {i : Nat} (hi : i < l.length) : rowsL (l.take (i + 1)) = rowsL (l.take i) ++ lnB l[i] := by
  unfold rowsL
  rw [List.take_succ_eq_append_getElem hi, List.flatMap_append, List.flatMap_singleton]
theorem rowsL_eq {l : List LnD} {M : List (Option LN)} (h : l.map lnV = cmp M) : rowsL l = rowsB M := by
  rw [← cmp_rowsB, ← h, List.flatMap_map]
  rfl
theorem rowsL_len {n z : Nat} : ∀ {l : List LnD}, (∀ y ∈ l.map lnV, LRow n z y) → (rowsL l).length = l.length * (nb n + z)
  | [], _ => by simp [rowsL]
  | x :: l, h => by
    have ih := rowsL_len (l := l) (fun y hy => h y (by rw [List.map_cons]; exact List.mem_cons_of_mem _ hy))
    obtain ⟨h1, h2, _⟩ := h (lnV x) (by simp)
    have h1 : x.v.l.length = n := h1
    have h2 : x.d.l.length = z := h2
    have e : (rowsL (x :: l)).length = (bytesV x.v.l ++ x.d.l).length + (rowsL l).length := by simp [rowsL, lnB]; omega
    rw [e, ih, List.length_append, bytesV_len, h1, h2, List.length_cons, Nat.add_mul, Nat.one_mul]
    omega
theorem clone_B (H : List Hl) (ad : Option Addr) (m c : Nat) (l : List (BitVec 8)) (h : Rs (stars H) B ad c l) (hm : m = l.length) (hb : m ≤ 140737488355328) :
    Spec Tryd.prog 58 [.slice ad m c] H (fun _ : Option Addr × Nat => True) (fun r : Option Addr × Nat => .slice r.1 m r.2)
      (fun r : Option Addr × Nat => .row 5 1 (.slice r.1 m r.2) m (l.map B) :: H) := by
  subst hm
  refine spec_pure (res := fun r : Option Addr × Nat => [.row 5 1 (.slice r.1 l.length r.2) l.length (l.map B)]) H Tryd.func58 rfl Tryd.ntmps58 (by kernel_rfl) rfl (fun W => ?_)
  cases ad with
  | none =>
    have hl : l = [] := by
      cases l with
      | nil => rfl
      | cons a l => obtain ⟨x, hx⟩ := h.sm (by simp); cases hx
    subst hl
    repeat' (first | refine ls_of rfl ?_ | refine ls_of_no ?_ | refine ls_guard_yes rfl rfl ?_ | refine ls_guard_no rfl rfl rfl rfl ?_ | refine ls_guard_un rfl rfl rfl ?_ | refine o1_move rfl ?_ | refine o1_assign rfl ?_ | refine st_seq ?_ | refine st_region ?_ | refine st_block ?_ | refine st_skip ?_ | refine st_ret ?_ | refine st_exit ?_ | refine st_cond_t rfl ?_ | refine st_cond_f rfl ?_ | refine st_cond rfl (fun _ => ?_) (fun _ => ?_) | refine ls_nil ?_ | refine nx_seq ?_ | refine nx_blk ?_ | refine nx_fn ?_ | refine nx_rounds ?_ | refine xt_seq ?_ | refine xt_here ?_ | refine xt_on rfl ?_ | refine xt_rounds ?_ | refine xt_cut ?_ | refine rt_seq ?_ | refine rt_blk ?_ | refine rt_rounds ?_ | refine rt_cut ?_ | refine o1_slice_nil rfl ?_ | refine o1_lit_B rfl rfl rfl rfl rfl (fun _ => ?_) | refine ox_append rfl rfl (rx_box rfl (by first | decide | omega)) rfl rfl (fun _ => rfl) (by omega) (by omega) (fun _ _ => ?_) | refine ox_append rfl rfl (rx_any (by assumption)) rfl rfl (fun _ => rfl) (by omega) (by omega) (fun _ _ => ?_) | refine ox_append rfl rfl rx_row rfl rfl (fun _ => rfl) (by omega) (by omega) (fun _ _ => ?_))
    refine (rt_ent (ent_nil 5 B) ?_)
    refine rt_tmp (none, 0) rfl rfl rfl trivial ?_
    (try dsimp only [List.cons_append, List.nil_append, List.singleton_append, List.append_nil]); (repeat (first | exact Ent.nil | exact Ent.refl _ | (apply Ent.cons; (repeat (first | exact Sel.here | apply Sel.there)))))
  | some a =>
    repeat' (first | refine ls_of rfl ?_ | refine ls_of_no ?_ | refine ls_guard_yes rfl rfl ?_ | refine ls_guard_no rfl rfl rfl rfl ?_ | refine ls_guard_un rfl rfl rfl ?_ | refine o1_move rfl ?_ | refine o1_assign rfl ?_ | refine st_seq ?_ | refine st_region ?_ | refine st_block ?_ | refine st_skip ?_ | refine st_ret ?_ | refine st_exit ?_ | refine st_cond_t rfl ?_ | refine st_cond_f rfl ?_ | refine st_cond rfl (fun _ => ?_) (fun _ => ?_) | refine ls_nil ?_ | refine nx_seq ?_ | refine nx_blk ?_ | refine nx_fn ?_ | refine nx_rounds ?_ | refine xt_seq ?_ | refine xt_here ?_ | refine xt_on rfl ?_ | refine xt_rounds ?_ | refine xt_cut ?_ | refine rt_seq ?_ | refine rt_blk ?_ | refine rt_rounds ?_ | refine rt_cut ?_ | refine ox_append_box (xs := ([] : List (BitVec 8))) rfl rfl rfl rfl (rx_any h) rfl rfl (fun _ => rfl) (by omega) (by have := h.le; have := h.big; omega) (fun _ _ => ?_) | refine o1_slice_nil rfl ?_ | refine o1_lit_B rfl rfl rfl rfl rfl (fun _ => ?_) | refine ox_append rfl rfl (rx_box rfl (by first | decide | omega)) rfl rfl (fun _ => rfl) (by omega) (by omega) (fun _ _ => ?_) | refine ox_append rfl rfl (rx_any (by assumption)) rfl rfl (fun _ => rfl) (by omega) (by omega) (fun _ _ => ?_) | refine ox_append rfl rfl rx_row rfl rfl (fun _ => rfl) (by omega) (by omega) (fun _ _ => ?_))
    refine rt_tmp (_, _) rfl rfl (by simp only [Nat.zero_add]; rfl) trivial ?_
    simp only [Nat.zero_add, List.nil_append]
    (try dsimp only [List.cons_append, List.nil_append, List.singleton_append, List.append_nil]); (repeat (first | exact Ent.nil | exact Ent.refl _ | (apply Ent.cons; (repeat (first | exact Sel.here | apply Sel.there)))))
set_option maxHeartbeats 4000000 in
theorem r1_MBytes (H : List Hl) (b n z : Nat) (ad : Option Addr) (c : Nat) (ls : List LnD) (k : Nat) (ML : List (Option LN)) (R : List (BitVec 8)) (hb0 : Cl (stars H) ⟨b, 0, none⟩ (I n)) (hb1 : Cl (stars H) ⟨b, 1, none⟩ (I z)) (hb2 : Cl (stars H) ⟨b, 2, none⟩ (.slice ad ls.length c)) (hL : RdL (stars H) n z ad c ls) (hM : ls.map lnV = cmp ML) (hRR : RR n z ML) (hn : n ≤ 256) (hz : z ≤ 16) (hk : ls.length = k) (hR : matB n z k ML = R) :
    Spec Tryd.prog 48 [.pointer (some ⟨b, 0, none⟩)] H (fun _ : Option Addr × Nat => True) (fun r => .slice r.1 R.length r.2) (fun r => .row 5 1 (.slice r.1 R.length r.2) R.length (R.map B) :: H) := by
  refine spec_pure (res := fun r : Option Addr × Nat => [.row 5 1 (.slice r.1 R.length r.2) R.length (R.map B)]) H Tryd.func48 rfl Tryd.ntmps48 (by kernel_rfl) rfl (fun W => ?_)
  have hok : ∀ y ∈ ls.map lnV, LRow n z y := fun y hy => cmp_row hRR (hM ▸ hy)
  have hll : ls.length ≤ 256 := by
    have h1 := congrArg List.length hM
    rw [List.length_map, cmp_len] at h1
    have h2 := cntS_le ML
    have h3 := hRR.lok.len
    omega
  have hr := hL.r
  have b3 := hr.le
  have b4 := hr.big
  have hnb : nb n ≤ 32 := by unfold nb; omega
  have hrl : ∀ i, i ≤ ls.length → (headB n z k ++ rowsL (ls.take i)).length ≤ 4 + i * 48 := fun i hi => by
    have h1 := rowsL_len (n := n) (z := z) (l := ls.take i) (fun y hy => hok y (by
      obtain ⟨x, hx, e⟩ := List.mem_map.1 hy
      exact List.mem_map.2 ⟨x, List.mem_of_mem_take hx, e⟩))
    rw [List.length_take, Nat.min_eq_left hi] at h1
    have h3 : i * (nb n + z) ≤ i * 48 := Nat.mul_le_mul (Nat.le_refl _) (by omega)
    rw [List.length_append, h1]
    simp only [headB, List.length_cons, List.length_nil]
    omega
  subst hk
  repeat' (first | refine ls_of rfl ?_ | refine ls_of_no ?_ | refine ls_guard_yes rfl rfl ?_ | refine ls_guard_no rfl rfl rfl rfl ?_ | refine ls_guard_un rfl rfl rfl ?_ | refine o1_move rfl ?_ | refine o1_assign rfl ?_ | refine st_seq ?_ | refine st_region ?_ | refine st_block ?_ | refine st_skip ?_ | refine st_ret ?_ | refine st_exit ?_ | refine st_cond_t rfl ?_ | refine st_cond_f rfl ?_ | refine st_cond rfl (fun _ => ?_) (fun _ => ?_) | refine ls_nil ?_ | refine nx_seq ?_ | refine nx_blk ?_ | refine nx_fn ?_ | refine nx_rounds ?_ | refine xt_seq ?_ | refine xt_here ?_ | refine xt_on rfl ?_ | refine xt_rounds ?_ | refine xt_cut ?_ | refine rt_seq ?_ | refine rt_blk ?_ | refine rt_rounds ?_ | refine rt_cut ?_ | refine o1_fieldAddr rfl ?_ | refine ox_load rfl (by rfl) ?_ | refine ox_load_enc rfl (by first | omega | (simp; omega)) ?_ | refine ox_load_any rfl (by assumption) ?_ | refine o1_len rfl ?_ | refine o1_add rfl rfl (by omega) ?_ | refine o1_sub rfl rfl (by omega) ?_ | refine o1_lss_t rfl rfl (by omega) ?_ | refine o1_lss_f rfl rfl (by omega) ?_ | refine o1_lss rfl rfl (fun _ => ?_) (fun _ => ?_) | refine o1_ushr rfl rfl (by omega) ?_ | refine o1_conv_iu rfl ?_ | refine o1_lit_B rfl rfl rfl rfl rfl (fun _ => ?_) | refine o1_alloc rfl (fun _ => ?_) | refine o1_nilCheck rfl ?_ | refine ox_store_agg rfl rfl (by rfl) (by simp) (by simp [Value.oneCell']) (by simp only [putL, List.set_cons_zero, List.set_cons_succ, Nat.zero_add, Nat.reduceAdd]; rfl) ?_ | refine ox_load_agg rfl (by simp only [Nat.zero_add, Nat.reduceAdd, List.drop_zero, List.drop_succ_cons, List.take_succ_cons, List.take_zero]; rfl) (by rfl) ?_)
  refine st_stages [(0, _)] rtY4_0 [24] [⟨[0, 1, 2, 3, 4, 5, 6, 7, 8, 9, 10, 11, 12, 13, 14, 15, 16, 17, 18, 19, 20, 21, 22, 23], [], some 24⟩, ⟨[25], [], none⟩] mixed (cov_cons rfl rfl cov_nil) (by kernel_rfl) (by kernel_rfl) ?_
  all_goals refine wk_ch ?_
  all_goals (refine xp1 0 rfl rfl rfl rfl (by refine o1_move rfl fz) ?_)
  all_goals (refine xp1 6 rfl rfl rfl rfl (by refine o1_nilCheck rfl fz) ?_)
  all_goals (refine xp1 7 rfl rfl rfl rfl (by refine o1_fieldAddr rfl fz) ?_)
  all_goals (refine xp1 8 rfl rfl rfl rfl (by first | refine ox_load_any rfl hb0 fz | refine ox_load_any rfl hb1 fz | refine ox_load_any rfl hb2 fz | refine ox_load rfl (by rfl) fz | refine ox_load_enc rfl (by first | omega | (simp; omega)) fz | refine ox_load_any rfl (by assumption) fz) ?_)
  all_goals (refine xp1 9 rfl rfl rfl rfl (by first | refine o1_sub rfl rfl (by omega) fz | refine o1_sub rfl rfl (by omega) fz) ?_)
  all_goals (refine xp1 10 rfl rfl rfl rfl (by first | refine o1_conv_iu rfl fz | refine o1_conv_iu rfl fz) ?_)
  all_goals (refine xp1 0 rfl rfl rfl rfl (by refine o1_move rfl fz) ?_)
  all_goals (refine xp1 12 rfl rfl rfl rfl (by refine o1_nilCheck rfl fz) ?_)
  all_goals (refine xp1 13 rfl rfl rfl rfl (by refine o1_fieldAddr rfl fz) ?_)
  all_goals (refine xp1 14 rfl rfl rfl rfl (by first | refine ox_load_any rfl hb0 fz | refine ox_load_any rfl hb1 fz | refine ox_load_any rfl hb2 fz | refine ox_load rfl (by rfl) fz | refine ox_load_enc rfl (by first | omega | (simp; omega)) fz | refine ox_load_any rfl (by assumption) fz) ?_)
  all_goals (refine xp1 15 rfl rfl rfl rfl (by first | refine o1_conv_iu rfl fz | refine o1_conv_iu rfl fz) ?_)
  all_goals (refine xp1 0 rfl rfl rfl rfl (by refine o1_move rfl fz) ?_)
  all_goals (refine xp1 17 rfl rfl rfl rfl (by refine o1_nilCheck rfl fz) ?_)
  all_goals (refine xp1 18 rfl rfl rfl rfl (by refine o1_fieldAddr rfl fz) ?_)
  all_goals (refine xp1 19 rfl rfl rfl rfl (by first | refine ox_load_any rfl hb0 fz | refine ox_load_any rfl hb1 fz | refine ox_load_any rfl hb2 fz | refine ox_load rfl (by rfl) fz | refine ox_load_enc rfl (by first | omega | (simp; omega)) fz | refine ox_load_any rfl (by assumption) fz) ?_)
  all_goals (refine xp1 20 rfl rfl rfl rfl (by refine o1_len rfl fz) ?_)
  all_goals (refine xp1 21 rfl rfl rfl rfl (by first | refine o1_ishr8 rfl rfl fz | refine o1_ushr rfl rfl (by omega) fz) ?_)
  all_goals (refine xp1 22 rfl rfl rfl rfl (by first | refine o1_conv_iu rfl fz | refine o1_conv_iu rfl fz) ?_)
  all_goals (refine xp1 0 rfl rfl rfl rfl (by refine o1_move rfl fz) ?_)
  all_goals (refine xp1 24 rfl rfl rfl rfl (by refine o1_nilCheck rfl fz) ?_)
  all_goals (refine xp1 25 rfl rfl rfl rfl (by refine o1_fieldAddr rfl fz) ?_)
  all_goals (refine xp1 26 rfl rfl rfl rfl (by first | refine ox_load_any rfl hb0 fz | refine ox_load_any rfl hb1 fz | refine ox_load_any rfl hb2 fz | refine ox_load rfl (by rfl) fz | refine ox_load_enc rfl (by first | omega | (simp; omega)) fz | refine ox_load_any rfl (by assumption) fz) ?_)
  all_goals (refine xp1 27 rfl rfl rfl rfl (by refine o1_len rfl fz) ?_)
  all_goals (refine xp1 28 rfl rfl rfl rfl (by first | refine o1_conv_iu rfl fz | refine o1_conv_iu rfl fz) ?_)
  all_goals refine op_nil ?_
  all_goals refine re_nil ?_
  all_goals first | (refine ch_run (E' := [(11, _), (16, _), (23, _), (29, _)]) rfl (gd_r0 rfl) rfl (cov_cons rfl rfl (cov_cons rfl rfl (cov_cons rfl rfl (cov_cons rfl rfl cov_nil)))) ?_; (first | (refine o1_lit_enc B (headB n z ls.length) rfl rfl rfl (fun _ => rfl) rfl rfl rfl (fun b30 => ?_)) | refine o1_lit_B rfl rfl rfl rfl rfl (fun _ => ?_)))
  all_goals refine wk_end ?_
  all_goals (refine xp1 30 rfl rfl rfl rfl (by refine o1_assign rfl fz) ?_)
  all_goals refine op_nil ?_
  all_goals refine re_nil ?_
  all_goals dsimp only [List.cons_append, List.nil_append]
  repeat' (first | refine ls_of rfl ?_ | refine ls_of_no ?_ | refine ls_guard_yes rfl rfl ?_ | refine ls_guard_no rfl rfl rfl rfl ?_ | refine ls_guard_un rfl rfl rfl ?_ | refine o1_move rfl ?_ | refine o1_assign rfl ?_ | refine st_seq ?_ | refine st_region ?_ | refine st_block ?_ | refine st_skip ?_ | refine st_ret ?_ | refine st_exit ?_ | refine st_cond_t rfl ?_ | refine st_cond_f rfl ?_ | refine st_cond rfl (fun _ => ?_) (fun _ => ?_) | refine ls_nil ?_ | refine nx_seq ?_ | refine nx_blk ?_ | refine nx_fn ?_ | refine nx_rounds ?_ | refine xt_seq ?_ | refine xt_here ?_ | refine xt_on rfl ?_ | refine xt_rounds ?_ | refine xt_cut ?_ | refine rt_seq ?_ | refine rt_blk ?_ | refine rt_rounds ?_ | refine rt_cut ?_ | refine ox_load_any rfl hb2 ?_ | refine o1_fieldAddr rfl ?_ | refine ox_load rfl (by rfl) ?_ | refine ox_load_enc rfl (by first | omega | (simp; omega)) ?_ | refine ox_load_any rfl (by assumption) ?_ | refine o1_len rfl ?_ | refine o1_add rfl rfl (by omega) ?_ | refine o1_sub rfl rfl (by omega) ?_ | refine o1_lss_t rfl rfl (by omega) ?_ | refine o1_lss_f rfl rfl (by omega) ?_ | refine o1_lss rfl rfl (fun _ => ?_) (fun _ => ?_) | refine o1_ushr rfl rfl (by omega) ?_ | refine o1_conv_iu rfl ?_ | refine o1_lit_B rfl rfl rfl rfl rfl (fun _ => ?_) | refine o1_alloc rfl (fun _ => ?_) | refine o1_nilCheck rfl ?_ | refine ox_store_agg rfl rfl (by rfl) (by simp) (by simp [Value.oneCell']) (by simp only [putL, List.set_cons_zero, List.set_cons_succ, Nat.zero_add, Nat.reduceAdd]; rfl) ?_ | refine ox_load_agg rfl (by simp only [Nat.zero_add, Nat.reduceAdd, List.drop_zero, List.drop_succ_cons, List.take_succ_cons, List.take_zero]; rfl) (by rfl) ?_)
  refine st_row (T := 5) (b := b30) (m := 4) (cp := 4) (cs := (headB n z ls.length).map B) rfl rfl (by omega) ?_
  refine st_loop (S := Nat × Option Addr × Nat) (fun q => [(3, .slice q.2.1 (headB n z ls.length ++ rowsL (ls.take q.1)).length q.2.2), (34, .slice ad ls.length c), (35, I ls.length), (36, I q.1)])
    (fun q => [.row 5 1 (.slice q.2.1 (headB n z ls.length ++ rowsL (ls.take q.1)).length q.2.2) (headB n z ls.length ++ rowsL (ls.take q.1)).length ((headB n z ls.length ++ rowsL (ls.take q.1)).map B), .any (stars H)])
    (fun q => q.1 ≤ ls.length) (fun q => ls.length - q.1) (0, some ⟨b30, 0, none⟩, 4) (Nat.zero_le _)
    (cov_cons rfl rfl (cov_cons rfl rfl (cov_cons rfl rfl (cov_cons rfl rfl cov_nil)))) (by show Ent _ [.row 5 1 (.slice (some ⟨b30, 0, none⟩) 4 4) 4 ((headB n z ls.length).map B), .any (stars H)]; (try dsimp only [List.cons_append, List.nil_append, List.singleton_append, List.append_nil]); (repeat (first | exact Ent.nil | exact Ent.refl _ | (apply Ent.cons; (repeat (first | exact Sel.here | apply Sel.there)))))) ?_
  rintro ⟨i, a1, c1⟩ hi
  dsimp only at hi ⊢
  by_cases hlt : i < ls.length
  · have htk := rowsL_take hlt
    have hl1 := hrl i (by omega)
    have hl2 := hrl (i + 1) (by omega)
    obtain ⟨X, hX⟩ : ∃ X, headB n z ls.length ++ rowsL (ls.take i) = X := ⟨_, rfl⟩
    obtain ⟨r, hre⟩ : ∃ r, ls[i] = r := ⟨_, rfl⟩
    have hri : ls[i]? = some r := by rw [List.getElem?_eq_getElem hlt, hre]
    have hrm : r ∈ ls := hre ▸ List.getElem_mem hlt
    obtain ⟨hxv, hxd, q1, q2⟩ := hL.x r hrm
    obtain ⟨V, hV⟩ : ∃ V, bytesV r.v.l = V := ⟨_, rfl⟩
    have hVl : V.length = nb n := by rw [← hV, bytesV_len, q1]
    have hnx : headB n z ls.length ++ rowsL (ls.take (i + 1)) = X ++ (V ++ r.d.l) := by rw [htk, ← List.append_assoc, hX, hre, lnB, hV]
    rw [hX] at hl1 ⊢
    rw [hnx] at hl2
    repeat' (first | refine ls_of rfl ?_ | refine ls_of_no ?_ | refine ls_guard_yes rfl rfl ?_ | refine ls_guard_no rfl rfl rfl rfl ?_ | refine ls_guard_un rfl rfl rfl ?_ | refine o1_move rfl ?_ | refine o1_assign rfl ?_ | refine st_seq ?_ | refine st_region ?_ | refine st_block ?_ | refine st_skip ?_ | refine st_ret ?_ | refine st_exit ?_ | refine st_cond_t rfl ?_ | refine st_cond_f rfl ?_ | refine st_cond rfl (fun _ => ?_) (fun _ => ?_) | refine ls_nil ?_ | refine nx_seq ?_ | refine nx_blk ?_ | refine nx_fn ?_ | refine nx_rounds ?_ | refine xt_seq ?_ | refine xt_here ?_ | refine xt_on rfl ?_ | refine xt_rounds ?_ | refine xt_cut ?_ | refine rt_seq ?_ | refine rt_blk ?_ | refine rt_rounds ?_ | refine rt_cut ?_ | refine o1_iaw (f := fV n) (g := fD z) (ad := ad) (c := c) i rfl rfl hr rfl rfl hlt ?_ | refine o1_load_iaw (f := fV n) (g := fD z) (ad := ad) (c := c) i r rfl hr hri ?_ | refine o1_alloc rfl (fun b5 => ?_) | refine o1_fieldAddr rfl ?_ | refine ox_load rfl (by rfl) ?_ | refine ox_load_enc rfl (by first | omega | (simp; omega)) ?_ | refine ox_load_any rfl (by assumption) ?_ | refine o1_len rfl ?_ | refine o1_add rfl rfl (by omega) ?_ | refine o1_sub rfl rfl (by omega) ?_ | refine o1_lss_t rfl rfl (by omega) ?_ | refine o1_lss_f rfl rfl (by omega) ?_ | refine o1_lss rfl rfl (fun _ => ?_) (fun _ => ?_) | refine o1_ushr rfl rfl (by omega) ?_ | refine o1_conv_iu rfl ?_ | refine o1_lit_B rfl rfl rfl rfl rfl (fun _ => ?_) | refine o1_alloc rfl (fun _ => ?_) | refine o1_nilCheck rfl ?_ | refine ox_store_agg rfl rfl (by rfl) (by simp) (by simp [Value.oneCell']) (by simp only [putL, List.set_cons_zero, List.set_cons_succ, Nat.zero_add, Nat.reduceAdd]; rfl) ?_ | refine ox_load_agg rfl (by simp only [Nat.zero_add, Nat.reduceAdd, List.drop_zero, List.drop_succ_cons, List.take_succ_cons, List.take_zero]; rfl) (by rfl) ?_)
    have hcat : ∀ b43, cat [(⟨a1, c1, X⟩ : SlD (BitVec 8)), ⟨some ⟨b43, 0, none⟩, nb n, V⟩, r.d] = X ++ (V ++ r.d.l) := fun b43 => by simp [cat]
    refine st_stages [(3, _), (5, _)] rtY4_1 [3, 6, 7] [⟨[0, 1, 2, 4, 5], [], some 3⟩, ⟨[], [0, 4, 5], some 6⟩, ⟨[], [], some 7⟩, ⟨[8], [], none⟩] mixed (cov_cons rfl rfl (cov_cons rfl rfl cov_nil)) (by kernel_rfl) (by kernel_rfl) ?_
    all_goals refine wk_ch ?_
    all_goals (refine xp1 3 rfl rfl rfl rfl (by refine o1_move rfl fz) ?_)
    all_goals (refine xp1 5 rfl rfl rfl rfl (by refine o1_fieldAddr rfl fz) ?_)
    all_goals (refine xp1 41 rfl rfl rfl rfl (by first | refine ox_load (b := b5) rfl rfl fz | refine ox_load rfl (by rfl) fz | refine ox_load_enc rfl (by first | omega | (simp; omega)) fz | refine ox_load_any rfl (by assumption) fz) ?_)
    all_goals (refine xp1 5 rfl rfl rfl rfl (by refine o1_fieldAddr rfl fz) ?_)
    all_goals (refine xp1 44 rfl rfl rfl rfl (by first | refine ox_load (b := b5) rfl rfl fz | refine ox_load rfl (by rfl) fz | refine ox_load_enc rfl (by first | omega | (simp; omega)) fz | refine ox_load_any rfl (by assumption) fz) ?_)
    all_goals refine op_nil ?_
    all_goals refine re_nil ?_
    all_goals first | (refine ch_run (E' := [(42, _)]) rfl (gd_r0 rfl) rfl (cov_cons rfl rfl cov_nil) ?_; (first | (refine o1_call (fun _ => r1_Pack _ r.v.ad n r.v.cap r.v.l (Rs.up hxv) q1.symm hn) rfl (fun b43 _ => ?_); rw [hV])))
    all_goals refine wk_ch ?_
    all_goals refine op_nil ?_
    all_goals (refine xq1 3 rfl rfl rfl rfl rfl (by refine o1_move rfl fz) ?_)
    all_goals (refine xq1 5 rfl rfl rfl rfl rfl (by refine o1_fieldAddr rfl fz) ?_)
    all_goals (refine xq1 44 rfl rfl rfl rfl rfl (by first | refine ox_load (b := b5) rfl rfl fz | refine ox_load rfl (by rfl) fz | refine ox_load_enc rfl (by first | omega | (simp; omega)) fz | refine ox_load_any rfl (by assumption) fz) ?_)
    all_goals refine re_nil ?_
    all_goals first | (refine ch_run (E' := [(40, _), (43, _), (45, _)]) rfl (gd_r0 rfl) rfl (cov_cons rfl rfl (cov_cons rfl rfl (cov_cons rfl rfl cov_nil))) ?_; (first | (refine o1_lit_enc (T := 39) Bs [⟨a1, c1, X⟩, ⟨some ⟨b43, 0, none⟩, nb n, V⟩, r.d] rfl rfl (by show _ = [Bs ⟨a1, c1, X⟩, Bs ⟨some ⟨b43, 0, none⟩, nb n, V⟩, Bs r.d]; simp only [Bs, hVl, q2]; rfl) (fun _ => rfl) rfl rfl rfl (fun b46 => ?_)) | refine o1_lit_B rfl rfl rfl rfl rfl (fun _ => ?_)))
    all_goals refine wk_ch ?_
    all_goals refine op_nil ?_
    all_goals refine re_nil ?_
    all_goals first | (refine ch_run (E' := [(46, _)]) rfl (gd_r0 rfl) rfl (cov_cons rfl rfl cov_nil) ?_; (first | (refine o1_call (fun hh => r1_Join _ (some ⟨b46, 0, none⟩) 3 [⟨a1, c1, X⟩, ⟨some ⟨b43, 0, none⟩, nb n, V⟩, r.d] (rx_box (T := 38) rfl (by show (3 : Nat) ≤ 9223372036854775807; decide) hh) (all3 (Q := fun s : SlD (BitVec 8) => Rs _ B s.ad s.cap s.l) (rx_row hh) (rx_box (T := 5) hVl (by show nb n ≤ _; omega) hh) (Rs.up hxd)) (by rw [hcat]; omega)) rfl (fun ⟨a47, c47⟩ _ => ?_); (try dsimp only); rw [hcat])))
    all_goals refine wk_end ?_
    all_goals (refine xp1 47 rfl rfl rfl rfl (by refine o1_assign rfl fz) ?_)
    all_goals refine op_nil ?_
    all_goals refine re_nil ?_
    all_goals dsimp only [List.cons_append, List.nil_append]
    repeat' (first | refine ls_of rfl ?_ | refine ls_of_no ?_ | refine ls_guard_yes rfl rfl ?_ | refine ls_guard_no rfl rfl rfl rfl ?_ | refine ls_guard_un rfl rfl rfl ?_ | refine o1_move rfl ?_ | refine o1_assign rfl ?_ | refine st_seq ?_ | refine st_region ?_ | refine st_block ?_ | refine st_skip ?_ | refine st_ret ?_ | refine st_exit ?_ | refine st_cond_t rfl ?_ | refine st_cond_f rfl ?_ | refine st_cond rfl (fun _ => ?_) (fun _ => ?_) | refine ls_nil ?_ | refine nx_seq ?_ | refine nx_blk ?_ | refine nx_fn ?_ | refine nx_rounds ?_ | refine xt_seq ?_ | refine xt_here ?_ | refine xt_on rfl ?_ | refine xt_rounds ?_ | refine xt_cut ?_ | refine rt_seq ?_ | refine rt_blk ?_ | refine rt_rounds ?_ | refine rt_cut ?_ | refine o1_fieldAddr rfl ?_ | refine ox_load rfl (by rfl) ?_ | refine ox_load_enc rfl (by first | omega | (simp; omega)) ?_ | refine ox_load_any rfl (by assumption) ?_ | refine o1_len rfl ?_ | refine o1_add rfl rfl (by omega) ?_ | refine o1_sub rfl rfl (by omega) ?_ | refine o1_lss_t rfl rfl (by omega) ?_ | refine o1_lss_f rfl rfl (by omega) ?_ | refine o1_lss rfl rfl (fun _ => ?_) (fun _ => ?_) | refine o1_ushr rfl rfl (by omega) ?_ | refine o1_conv_iu rfl ?_ | refine o1_lit_B rfl rfl rfl rfl rfl (fun _ => ?_) | refine o1_alloc rfl (fun _ => ?_) | refine o1_nilCheck rfl ?_ | refine ox_store_agg rfl rfl (by rfl) (by simp) (by simp [Value.oneCell']) (by simp only [putL, List.set_cons_zero, List.set_cons_succ, Nat.zero_add, Nat.reduceAdd]; rfl) ?_ | refine ox_load_agg rfl (by simp only [Nat.zero_add, Nat.reduceAdd, List.drop_zero, List.drop_succ_cons, List.take_succ_cons, List.take_zero]; rfl) (by rfl) ?_)
    refine nx_again (i + 1, a47, c47) (by show i + 1 ≤ ls.length; omega) (by show ls.length - (i + 1) < ls.length - i; omega) (cov_cons rfl (by show Value.slice a47 _ c47 = Value.slice a47 (headB n z ls.length ++ rowsL (ls.take (i + 1))).length c47; rw [hnx]) (cov_cons rfl rfl (cov_cons rfl rfl (cov_cons rfl rfl cov_nil)))) ?_
    show Ent _ [.row 5 1 (.slice a47 (headB n z ls.length ++ rowsL (ls.take (i + 1))).length c47) (headB n z ls.length ++ rowsL (ls.take (i + 1))).length ((headB n z ls.length ++ rowsL (ls.take (i + 1))).map B), .any (stars H)]
    rw [hnx]
    (try dsimp only [List.cons_append, List.nil_append, List.singleton_append, List.append_nil]); (repeat (first | exact Ent.nil | exact Ent.refl _ | (apply Ent.cons; (repeat (first | exact Sel.here | apply Sel.there)))))
  · have : i = ls.length := by omega
    subst this
    have e1 : headB n z ls.length ++ rowsL (ls.take ls.length) = R := by rw [List.take_length, rowsL_eq hM]; exact hR
    rw [e1]
    repeat' (first | refine ls_of rfl ?_ | refine ls_of_no ?_ | refine ls_guard_yes rfl rfl ?_ | refine ls_guard_no rfl rfl rfl rfl ?_ | refine ls_guard_un rfl rfl rfl ?_ | refine o1_move rfl ?_ | refine o1_assign rfl ?_ | refine st_seq ?_ | refine st_region ?_ | refine st_block ?_ | refine st_skip ?_ | refine st_ret ?_ | refine st_exit ?_ | refine st_cond_t rfl ?_ | refine st_cond_f rfl ?_ | refine st_cond rfl (fun _ => ?_) (fun _ => ?_) | refine ls_nil ?_ | refine nx_seq ?_ | refine nx_blk ?_ | refine nx_fn ?_ | refine nx_rounds ?_ | refine xt_seq ?_ | refine xt_here ?_ | refine xt_on rfl ?_ | refine xt_rounds ?_ | refine xt_cut ?_ | refine rt_seq ?_ | refine rt_blk ?_ | refine rt_rounds ?_ | refine rt_cut ?_ | refine o1_fieldAddr rfl ?_ | refine ox_load rfl (by rfl) ?_ | refine ox_load_enc rfl (by first | omega | (simp; omega)) ?_ | refine ox_load_any rfl (by assumption) ?_ | refine o1_len rfl ?_ | refine o1_add rfl rfl (by omega) ?_ | refine o1_sub rfl rfl (by omega) ?_ | refine o1_lss_t rfl rfl (by omega) ?_ | refine o1_lss_f rfl rfl (by omega) ?_ | refine o1_lss rfl rfl (fun _ => ?_) (fun _ => ?_) | refine o1_ushr rfl rfl (by omega) ?_ | refine o1_conv_iu rfl ?_ | refine o1_lit_B rfl rfl rfl rfl rfl (fun _ => ?_) | refine o1_alloc rfl (fun _ => ?_) | refine o1_nilCheck rfl ?_ | refine ox_store_agg rfl rfl (by rfl) (by simp) (by simp [Value.oneCell']) (by simp only [putL, List.set_cons_zero, List.set_cons_succ, Nat.zero_add, Nat.reduceAdd]; rfl) ?_ | refine ox_load_agg rfl (by simp only [Nat.zero_add, Nat.reduceAdd, List.drop_zero, List.drop_succ_cons, List.take_succ_cons, List.take_zero]; rfl) (by rfl) ?_)
    refine rt_tmp (a1, c1) rfl rfl rfl trivial ?_
    (try dsimp only [List.cons_append, List.nil_append, List.singleton_append, List.append_nil]); (repeat (first | exact Ent.nil | exact Ent.refl _ | (apply Ent.cons; (repeat (first | exact Sel.here | apply Sel.there)))))
theorem elim_Row_out (H : List Hl) (bm n : Nat) (i : Int) (hM : Cl (stars H) ⟨bm, 0, none⟩ (I n)) (hi : i < 0 ∨ (n : Int) ≤ i) :
    Spec Tryd.prog 39 [.pointer (some ⟨bm, 0, none⟩), I i] H (fun _ : Unit => True) (fun _ => .tuple #[.pointer none, .slice none 0 0, .bool false]) (fun _ => H) := by
  refine spec_pure (res := fun _ => []) H Tryd.func39 rfl Tryd.ntmps39 (by kernel_rfl) rfl (fun W => ?_)
  by_cases h0 : i < 0
  · repeat' (first | refine ls_of rfl ?_ | refine ls_of_no ?_ | refine ls_guard_yes rfl rfl ?_ | refine ls_guard_no rfl rfl rfl rfl ?_ | refine ls_guard_un rfl rfl rfl ?_ | refine o1_move rfl ?_ | refine o1_assign rfl ?_ | refine st_seq ?_ | refine st_region ?_ | refine st_block ?_ | refine st_skip ?_ | refine st_ret ?_ | refine st_exit ?_ | refine st_cond_t rfl ?_ | refine st_cond_f rfl ?_ | refine st_cond rfl (fun _ => ?_) (fun _ => ?_) | refine ls_nil ?_ | refine nx_seq ?_ | refine nx_blk ?_ | refine nx_fn ?_ | refine nx_rounds ?_ | refine xt_seq ?_ | refine xt_here ?_ | refine xt_on rfl ?_ | refine xt_rounds ?_ | refine xt_cut ?_ | refine rt_seq ?_ | refine rt_blk ?_ | refine rt_rounds ?_ | refine rt_cut ?_ | refine o1_peql rfl rfl ?_ | refine o1_pick_t rfl rfl ?_ | refine o1_pick_f rfl rfl ?_ | refine o1_fieldAddr rfl ?_ | refine ox_load rfl (by rfl) ?_ | refine ox_load_enc rfl (by first | omega | (simp; omega)) ?_ | refine ox_load_any rfl (by assumption) ?_ | refine o1_lss_t rfl rfl (by omega) ?_ | refine o1_lss_f rfl rfl (by omega) ?_ | refine o1_lss rfl rfl (fun _ => ?_) (fun _ => ?_) | refine o1_geq_t rfl rfl (by omega) ?_ | refine o1_geq_f rfl rfl (by omega) ?_ | refine o1_geq rfl rfl (fun _ => ?_) (fun _ => ?_) | refine o1_slice_nil rfl ?_ | refine o1_nilCheck rfl ?_)
    refine rt_tmp3 () rfl rfl rfl rfl rfl trivial ?_
    (try dsimp only [List.cons_append, List.nil_append, List.singleton_append, List.append_nil]); (repeat (first | exact Ent.nil | exact Ent.refl _ | (apply Ent.cons; (repeat (first | exact Sel.here | apply Sel.there)))))
  · repeat' (first | refine ls_of rfl ?_ | refine ls_of_no ?_ | refine ls_guard_yes rfl rfl ?_ | refine ls_guard_no rfl rfl rfl rfl ?_ | refine ls_guard_un rfl rfl rfl ?_ | refine o1_move rfl ?_ | refine o1_assign rfl ?_ | refine st_seq ?_ | refine st_region ?_ | refine st_block ?_ | refine st_skip ?_ | refine st_ret ?_ | refine st_exit ?_ | refine st_cond_t rfl ?_ | refine st_cond_f rfl ?_ | refine st_cond rfl (fun _ => ?_) (fun _ => ?_) | refine ls_nil ?_ | refine nx_seq ?_ | refine nx_blk ?_ | refine nx_fn ?_ | refine nx_rounds ?_ | refine xt_seq ?_ | refine xt_here ?_ | refine xt_on rfl ?_ | refine xt_rounds ?_ | refine xt_cut ?_ | refine rt_seq ?_ | refine rt_blk ?_ | refine rt_rounds ?_ | refine rt_cut ?_ | refine o1_peql rfl rfl ?_ | refine ox_load_any rfl hM ?_ | refine o1_pick_t rfl rfl ?_ | refine o1_pick_f rfl rfl ?_ | refine o1_fieldAddr rfl ?_ | refine ox_load rfl (by rfl) ?_ | refine ox_load_enc rfl (by first | omega | (simp; omega)) ?_ | refine ox_load_any rfl (by assumption) ?_ | refine o1_lss_t rfl rfl (by omega) ?_ | refine o1_lss_f rfl rfl (by omega) ?_ | refine o1_lss rfl rfl (fun _ => ?_) (fun _ => ?_) | refine o1_geq_t rfl rfl (by omega) ?_ | refine o1_geq_f rfl rfl (by omega) ?_ | refine o1_geq rfl rfl (fun _ => ?_) (fun _ => ?_) | refine o1_slice_nil rfl ?_ | refine o1_nilCheck rfl ?_)
    refine rt_tmp3 () rfl rfl rfl rfl rfl trivial ?_
    (try dsimp only [List.cons_append, List.nil_append, List.singleton_append, List.append_nil]); (repeat (first | exact Ent.nil | exact Ent.refl _ | (apply Ent.cons; (repeat (first | exact Sel.here | apply Sel.there)))))
theorem elim_Row_none (H : List Hl) (bm n z : Nat) (ar : Option Addr) (cr k : Nat) (M : List (Option RD)) (i : Nat) (hM : RdM (stars H) bm n z ar cr k M) (hi : i < n) (hMi : M[i]? = some none) :
    Spec Tryd.prog 39 [.pointer (some ⟨bm, 0, none⟩), I i] H (fun _ : Unit => True) (fun _ => .tuple #[.pointer none, .slice none 0 0, .bool false]) (fun _ => H) := by
  refine spec_pure (res := fun _ => []) H Tryd.func39 rfl Tryd.ntmps39 (by kernel_rfl) rfl (fun W => ?_)
  obtain ⟨l1, l2, l3, l4, l5, l6⟩ := hM.ok
  have m1 := hM.fn
  have m3 := hM.fs
  have hiM : i < M.length := by omega
  have hMi : M[i] = none := by rw [List.getElem?_eq_getElem hiM] at hMi; exact Option.some.inj hMi
  repeat' (first | refine ls_of rfl ?_ | refine ls_of_no ?_ | refine ls_guard_yes rfl rfl ?_ | refine ls_guard_no rfl rfl rfl rfl ?_ | refine ls_guard_un rfl rfl rfl ?_ | refine o1_move rfl ?_ | refine o1_assign rfl ?_ | refine st_seq ?_ | refine st_region ?_ | refine st_block ?_ | refine st_skip ?_ | refine st_ret ?_ | refine st_exit ?_ | refine st_cond_t rfl ?_ | refine st_cond_f rfl ?_ | refine st_cond rfl (fun _ => ?_) (fun _ => ?_) | refine ls_nil ?_ | refine nx_seq ?_ | refine nx_blk ?_ | refine nx_fn ?_ | refine nx_rounds ?_ | refine xt_seq ?_ | refine xt_here ?_ | refine xt_on rfl ?_ | refine xt_rounds ?_ | refine xt_cut ?_ | refine rt_seq ?_ | refine rt_blk ?_ | refine rt_rounds ?_ | refine rt_cut ?_ | refine o1_peql rfl rfl ?_ | refine ox_load_any rfl m1 ?_ | refine ox_load_any rfl m3 ?_ | refine o1_ia (ad := ar) (c := cr) i rfl rfl hM.fr l1.symm rfl hiM ?_ | (refine o1_load_ia (ad := ar) (c := cr) i rfl hM.fr hiM ?_; rw [hMi]) | refine o1_pick_t rfl rfl ?_ | refine o1_pick_f rfl rfl ?_ | refine o1_fieldAddr rfl ?_ | refine ox_load rfl (by rfl) ?_ | refine ox_load_enc rfl (by first | omega | (simp; omega)) ?_ | refine ox_load_any rfl (by assumption) ?_ | refine o1_lss_t rfl rfl (by omega) ?_ | refine o1_lss_f rfl rfl (by omega) ?_ | refine o1_lss rfl rfl (fun _ => ?_) (fun _ => ?_) | refine o1_geq_t rfl rfl (by omega) ?_ | refine o1_geq_f rfl rfl (by omega) ?_ | refine o1_geq rfl rfl (fun _ => ?_) (fun _ => ?_) | refine o1_slice_nil rfl ?_ | refine o1_nilCheck rfl ?_)
  refine rt_tmp3 () rfl rfl rfl rfl rfl trivial ?_
  (try dsimp only [List.cons_append, List.nil_append, List.singleton_append, List.append_nil]); (repeat (first | exact Ent.nil | exact Ent.refl _ | (apply Ent.cons; (repeat (first | exact Sel.here | apply Sel.there)))))
theorem elim_Row (H : List Hl) (bm n z : Nat) (ar : Option Addr) (cr k : Nat) (M : List (Option RD)) (i : Nat) (q : RD) (hM : RdM (stars H) bm n z ar cr k M) (hi : i < n) (hMi : M[i]? = some (some q)) :
    Spec Tryd.prog 39 [.pointer (some ⟨bm, 0, none⟩), I i] H (fun _ : (Nat × Option Addr × Nat) × Option Addr × Nat => True) (fun r => .tuple #[.pointer (some ⟨r.1.1, 0, none⟩), .slice r.2.1 z r.2.2, .bool true]) (fun r => .row 5 1 (.slice r.2.1 z r.2.2) z (q.d.map B) :: vB r.1.1 n r.1.2.1 r.1.2.2 :: vR n r.1.2.1 r.1.2.2 q.v.l :: H) := by
  refine spec_pure (res := fun r : (Nat × Option Addr × Nat) × Option Addr × Nat => [.row 5 1 (.slice r.2.1 z r.2.2) z (q.d.map B), vB r.1.1 n r.1.2.1 r.1.2.2, vR n r.1.2.1 r.1.2.2 q.v.l]) H Tryd.func39 rfl Tryd.ntmps39 (by kernel_rfl) rfl (fun W => ?_)
  obtain ⟨l1, l2, l3, l4, l5, l6⟩ := hM.ok
  have m1 := hM.fn
  have m3 := hM.fs
  have hiM : i < M.length := by omega
  have hMi : M[i] = some q := by rw [List.getElem?_eq_getElem hiM] at hMi; exact Option.some.inj hMi
  have hqm : some q ∈ M := hMi ▸ List.getElem_mem hiM
  have hq := hM.fm q hqm
  obtain ⟨hq1, hq2, hq3⟩ := l6 q hqm
  have hqp := hq.p
  have hqs := hq.s
  have hqd := hq.d
  have hqz := hq.z
  repeat' (first | refine ls_of rfl ?_ | refine ls_of_no ?_ | refine ls_guard_yes rfl rfl ?_ | refine ls_guard_no rfl rfl rfl rfl ?_ | refine ls_guard_un rfl rfl rfl ?_ | refine o1_move rfl ?_ | refine o1_assign rfl ?_ | refine st_seq ?_ | refine st_region ?_ | refine st_block ?_ | refine st_skip ?_ | refine st_ret ?_ | refine st_exit ?_ | refine st_cond_t rfl ?_ | refine st_cond_f rfl ?_ | refine st_cond rfl (fun _ => ?_) (fun _ => ?_) | refine ls_nil ?_ | refine nx_seq ?_ | refine nx_blk ?_ | refine nx_fn ?_ | refine nx_rounds ?_ | refine xt_seq ?_ | refine xt_here ?_ | refine xt_on rfl ?_ | refine xt_rounds ?_ | refine xt_cut ?_ | refine rt_seq ?_ | refine rt_blk ?_ | refine rt_rounds ?_ | refine rt_cut ?_ | refine o1_peql rfl rfl ?_ | refine ox_load_any rfl m1 ?_ | refine ox_load_any rfl m3 ?_ | refine o1_ia (ad := ar) (c := cr) i rfl rfl hM.fr l1.symm rfl hiM ?_ | (refine o1_load_ia (ad := ar) (c := cr) i rfl hM.fr hiM ?_; rw [hMi]) | refine o1_pick_t rfl rfl ?_ | refine o1_pick_f rfl rfl ?_ | refine o1_fieldAddr rfl ?_ | refine ox_load rfl (by rfl) ?_ | refine ox_load_enc rfl (by first | omega | (simp; omega)) ?_ | refine ox_load_any rfl (by assumption) ?_ | refine o1_lss_t rfl rfl (by omega) ?_ | refine o1_lss_f rfl rfl (by omega) ?_ | refine o1_lss rfl rfl (fun _ => ?_) (fun _ => ?_) | refine o1_geq_t rfl rfl (by omega) ?_ | refine o1_geq_f rfl rfl (by omega) ?_ | refine o1_geq rfl rfl (fun _ => ?_) (fun _ => ?_) | refine o1_slice_nil rfl ?_ | refine o1_nilCheck rfl ?_)
  refine st_stages [(0, _), (1, _)] rtY4_2 [10, 21] [⟨[0, 1, 2, 3, 4, 5, 6, 7, 8, 9, 11, 12, 13, 14, 15, 16, 17, 18, 19, 20], [], some 10⟩, ⟨[], [11, 12, 13, 14, 15, 16, 17, 18, 19, 20], some 21⟩, ⟨[22, 23, 24], [], none⟩] mixed (cov_cons rfl rfl (cov_cons rfl rfl cov_nil)) (by kernel_rfl) (by kernel_rfl) ?_
  all_goals refine wk_ch ?_
  all_goals (refine xp1 0 rfl rfl rfl rfl (by refine o1_move rfl fz) ?_)
  all_goals (refine xp1 31 rfl rfl rfl rfl (by refine o1_nilCheck rfl fz) ?_)
  all_goals (refine xp1 32 rfl rfl rfl rfl (by refine o1_fieldAddr rfl fz) ?_)
  all_goals (refine xp1 33 rfl rfl rfl rfl (by first | refine ox_load_any rfl m3 fz | refine ox_load_any rfl hqp fz | refine ox_load_any rfl hqs fz | ((refine o1_load_ia (ad := ar) (c := cr) i rfl hM.fr hiM ?_; rw [hMi]); all_goals exact fz) | refine ox_load rfl (by rfl) fz | refine ox_load_enc rfl (by first | omega | (simp; omega)) fz | refine ox_load_any rfl (by assumption) fz) ?_)
  all_goals (refine xp1 1 rfl rfl rfl rfl (by refine o1_move rfl fz) ?_)
  all_goals (refine xp2 34 35 rfl rfl rfl rfl rfl (by refine o1_ia (ad := ar) (c := cr) i rfl rfl hM.fr l1.symm rfl hiM fz) ?_)
  all_goals (refine xp1 36 rfl rfl rfl rfl (by first | refine ox_load_any rfl m3 fz | refine ox_load_any rfl hqp fz | refine ox_load_any rfl hqs fz | ((refine o1_load_ia (ad := ar) (c := cr) i rfl hM.fr hiM ?_; rw [hMi]); all_goals exact fz) | refine ox_load rfl (by rfl) fz | refine ox_load_enc rfl (by first | omega | (simp; omega)) fz | refine ox_load_any rfl (by assumption) fz) ?_)
  all_goals (refine xp1 37 rfl rfl rfl rfl (by refine o1_nilCheck rfl fz) ?_)
  all_goals (refine xp1 38 rfl rfl rfl rfl (by refine o1_fieldAddr rfl fz) ?_)
  all_goals (refine xp1 39 rfl rfl rfl rfl (by first | refine ox_load_any rfl m3 fz | refine ox_load_any rfl hqp fz | refine ox_load_any rfl hqs fz | ((refine o1_load_ia (ad := ar) (c := cr) i rfl hM.fr hiM ?_; rw [hMi]); all_goals exact fz) | refine ox_load rfl (by rfl) fz | refine ox_load_enc rfl (by first | omega | (simp; omega)) fz | refine ox_load_any rfl (by assumption) fz) ?_)
  all_goals (refine xp1 0 rfl rfl rfl rfl (by refine o1_move rfl fz) ?_)
  all_goals (refine xp1 42 rfl rfl rfl rfl (by refine o1_nilCheck rfl fz) ?_)
  all_goals (refine xp1 43 rfl rfl rfl rfl (by refine o1_fieldAddr rfl fz) ?_)
  all_goals (refine xp1 44 rfl rfl rfl rfl (by first | refine ox_load_any rfl m3 fz | refine ox_load_any rfl hqp fz | refine ox_load_any rfl hqs fz | ((refine o1_load_ia (ad := ar) (c := cr) i rfl hM.fr hiM ?_; rw [hMi]); all_goals exact fz) | refine ox_load rfl (by rfl) fz | refine ox_load_enc rfl (by first | omega | (simp; omega)) fz | refine ox_load_any rfl (by assumption) fz) ?_)
  all_goals (refine xp1 1 rfl rfl rfl rfl (by refine o1_move rfl fz) ?_)
  all_goals (refine xp2 45 46 rfl rfl rfl rfl rfl (by refine o1_ia (ad := ar) (c := cr) i rfl rfl hM.fr l1.symm rfl hiM fz) ?_)
  all_goals (refine xp1 47 rfl rfl rfl rfl (by first | refine ox_load_any rfl m3 fz | refine ox_load_any rfl hqp fz | refine ox_load_any rfl hqs fz | ((refine o1_load_ia (ad := ar) (c := cr) i rfl hM.fr hiM ?_; rw [hMi]); all_goals exact fz) | refine ox_load rfl (by rfl) fz | refine ox_load_enc rfl (by first | omega | (simp; omega)) fz | refine ox_load_any rfl (by assumption) fz) ?_)
  all_goals (refine xp1 48 rfl rfl rfl rfl (by refine o1_nilCheck rfl fz) ?_)
  all_goals (refine xp1 49 rfl rfl rfl rfl (by refine o1_fieldAddr rfl fz) ?_)
  all_goals (refine xp1 50 rfl rfl rfl rfl (by first | refine ox_load_any rfl m3 fz | refine ox_load_any rfl hqp fz | refine ox_load_any rfl hqs fz | ((refine o1_load_ia (ad := ar) (c := cr) i rfl hM.fr hiM ?_; rw [hMi]); all_goals exact fz) | refine ox_load rfl (by rfl) fz | refine ox_load_enc rfl (by first | omega | (simp; omega)) fz | refine ox_load_any rfl (by assumption) fz) ?_)
  all_goals refine op_nil ?_
  all_goals refine re_nil ?_
  all_goals first | (refine ch_run (E' := [(40, _)]) rfl (gd_r0 rfl) rfl (cov_cons rfl rfl cov_nil) ?_; (first | (refine o1_call (fun _ => vec_Copy _ q.v (RdV.up hq.v)) rfl (fun ⟨b41, a41, c41⟩ _ => ?_); dsimp only; rw [hq2])))
  all_goals refine wk_ch ?_
  all_goals refine op_nil ?_
  all_goals (refine xq1 0 rfl rfl rfl rfl rfl (by refine o1_move rfl fz) ?_)
  all_goals (refine xq1 42 rfl rfl rfl rfl rfl (by refine o1_nilCheck rfl fz) ?_)
  all_goals (refine xq1 43 rfl rfl rfl rfl rfl (by refine o1_fieldAddr rfl fz) ?_)
  all_goals (refine xq1 44 rfl rfl rfl rfl rfl (by first | refine ox_load_any rfl m3 fz | refine ox_load_any rfl hqp fz | refine ox_load_any rfl hqs fz | ((refine o1_load_ia (ad := ar) (c := cr) i rfl hM.fr hiM ?_; rw [hMi]); all_goals exact fz) | refine ox_load rfl (by rfl) fz | refine ox_load_enc rfl (by first | omega | (simp; omega)) fz | refine ox_load_any rfl (by assumption) fz) ?_)
  all_goals (refine xq1 1 rfl rfl rfl rfl rfl (by refine o1_move rfl fz) ?_)
  all_goals (refine xq2 45 46 rfl rfl rfl rfl rfl rfl (by refine o1_ia (ad := ar) (c := cr) i rfl rfl hM.fr l1.symm rfl hiM fz) ?_)
  all_goals (refine xq1 47 rfl rfl rfl rfl rfl (by first | refine ox_load_any rfl m3 fz | refine ox_load_any rfl hqp fz | refine ox_load_any rfl hqs fz | ((refine o1_load_ia (ad := ar) (c := cr) i rfl hM.fr hiM ?_; rw [hMi]); all_goals exact fz) | refine ox_load rfl (by rfl) fz | refine ox_load_enc rfl (by first | omega | (simp; omega)) fz | refine ox_load_any rfl (by assumption) fz) ?_)
  all_goals (refine xq1 48 rfl rfl rfl rfl rfl (by refine o1_nilCheck rfl fz) ?_)
  all_goals (refine xq1 49 rfl rfl rfl rfl rfl (by refine o1_fieldAddr rfl fz) ?_)
  all_goals (refine xq1 50 rfl rfl rfl rfl rfl (by first | refine ox_load_any rfl m3 fz | refine ox_load_any rfl hqp fz | refine ox_load_any rfl hqs fz | ((refine o1_load_ia (ad := ar) (c := cr) i rfl hM.fr hiM ?_; rw [hMi]); all_goals exact fz) | refine ox_load rfl (by rfl) fz | refine ox_load_enc rfl (by first | omega | (simp; omega)) fz | refine ox_load_any rfl (by assumption) fz) ?_)
  all_goals refine re_nil ?_
  all_goals first | (refine ch_run (E' := [(51, _)]) rfl (gd_r0 rfl) rfl (cov_cons rfl rfl cov_nil) ?_; (first | (refine o1_call (fun _ => clone_B _ q.ad q.z q.cd q.d (Rs.up hqd) hqz.symm (by omega)) rfl (fun ⟨a52, c52⟩ _ => ?_); dsimp only; rw [hq3])))
  all_goals refine wk_end ?_
  all_goals (refine xp1 41 rfl rfl rfl rfl (by refine o1_assign rfl fz) ?_)
  all_goals (refine xp1 52 rfl rfl rfl rfl (by refine o1_assign rfl fz) ?_)
  all_goals (refine xp0 rfl rfl rfl (by refine o1_assign rfl fz) ?_)
  all_goals refine op_nil ?_
  all_goals refine re_nil ?_
  all_goals dsimp only [List.cons_append, List.nil_append]
  repeat' (first | refine ls_of rfl ?_ | refine ls_of_no ?_ | refine ls_guard_yes rfl rfl ?_ | refine ls_guard_no rfl rfl rfl rfl ?_ | refine ls_guard_un rfl rfl rfl ?_ | refine o1_move rfl ?_ | refine o1_assign rfl ?_ | refine st_seq ?_ | refine st_region ?_ | refine st_block ?_ | refine st_skip ?_ | refine st_ret ?_ | refine st_exit ?_ | refine st_cond_t rfl ?_ | refine st_cond_f rfl ?_ | refine st_cond rfl (fun _ => ?_) (fun _ => ?_) | refine ls_nil ?_ | refine nx_seq ?_ | refine nx_blk ?_ | refine nx_fn ?_ | refine nx_rounds ?_ | refine xt_seq ?_ | refine xt_here ?_ | refine xt_on rfl ?_ | refine xt_rounds ?_ | refine xt_cut ?_ | refine rt_seq ?_ | refine rt_blk ?_ | refine rt_rounds ?_ | refine rt_cut ?_ | refine o1_pick_t rfl rfl ?_ | refine o1_pick_f rfl rfl ?_ | refine o1_fieldAddr rfl ?_ | refine ox_load rfl (by rfl) ?_ | refine ox_load_enc rfl (by first | omega | (simp; omega)) ?_ | refine ox_load_any rfl (by assumption) ?_ | refine o1_lss_t rfl rfl (by omega) ?_ | refine o1_lss_f rfl rfl (by omega) ?_ | refine o1_lss rfl rfl (fun _ => ?_) (fun _ => ?_) | refine o1_geq_t rfl rfl (by omega) ?_ | refine o1_geq_f rfl rfl (by omega) ?_ | refine o1_geq rfl rfl (fun _ => ?_) (fun _ => ?_) | refine o1_slice_nil rfl ?_ | refine o1_nilCheck rfl ?_)
  refine rt_tmp3 ((b41, a41, c41), (a52, c52)) rfl rfl rfl rfl rfl trivial ?_
  (try dsimp only [List.cons_append, List.nil_append, List.singleton_append, List.append_nil]); (repeat (first | exact Ent.nil | exact Ent.refl _ | (apply Ent.cons; (repeat (first | exact Sel.here | apply Sel.there)))))
end Go.Dp

set_option linter.unusedVariables false
set_option linter.unusedSimpArgs false
namespace Go.Dp
theorem xsB_xor (f g : Nat → Bool) : ∀ n, xsB (fun j => f j ^^ g j) n = (xsB f n ^^ xsB g n)
  | 0 => rfl
  | n + 1 => by
    rw [xsB, xsB, xsB, xsB_xor f g n]
    cases xsB f n <;> cases xsB g n <;> cases f n <;> cases g n <;> rfl
theorem xsB_and (f : Nat → Bool) (c : Bool) : ∀ n, xsB (fun j => f j && c) n = (xsB f n && c)
  | 0 => by simp [xsB]
  | n + 1 => by
    rw [xsB, xsB, xsB_and f c n]
    cases xsB f n <;> cases f n <;> cases c <;> rfl
theorem xsB_congr {f g : Nat → Bool} {n : Nat} (h : ∀ j, j < n → f j = g j) : xsB f n = xsB g n := by
  induction n with
  | zero => rfl
  | succ n ih => rw [xsB, xsB, ih (fun j hj => h j (by omega)), h n (by omega)]
/-- A bit of what is left of w. -/
def rd (n : Nat) (M : List (Option LN)) (w : List Bool) (k : Nat) : Bool := at_ w k ^^ xsB (fun j => at_ w j && rowAt M j k) n
theorem red_rd {n z : Nat} {M : List (Option LN)} (h : RR n z M) {x : LN} (hx : x.1.length = n) (hd : x.2.length = z) (k : Nat) : at_ (red M x).1 k = rd n M x.1 k := by
  rw [red, h.lok.len]
  exact redT_at h hx hd n (Nat.le_refl _) k
theorem rd_xor (n : Nat) (M : List (Option LN)) {w v : List Bool} (hl : w.length = v.length) (k : Nat) : rd n M (xorV w v) k = (rd n M w k ^^ rd n M v k) := by
  have ha : ∀ j, at_ (xorV w v) j = (at_ w j ^^ at_ v j) := fun j => xorV_getD hl j
  unfold rd
  rw [ha k, xsB_congr (g := fun j => (at_ w j && rowAt M j k) ^^ (at_ v j && rowAt M j k)) (fun j _ => by
    rw [ha j]
    cases at_ w j <;> cases at_ v j <;> cases rowAt M j k <;> rfl), xsB_xor]
  cases at_ w k <;> cases at_ v k <;> simp
theorem rowAt_none {M : List (Option LN)} {a : Nat} (h : M[a]? = some none) (k : Nat) : rowAt M a k = false := by
  unfold rowAt
  rw [List.getD_eq_getElem?_getD, h]
  rfl
theorem rowAt_addM {n z : Nat} {M : List (Option LN)} (h : LOk n z M) {a : Nat} {x : LN} (ha : a < M.length) (hx : x.1.length = n) (j k : Nat) : rowAt (addM M a x) j k = if j = a then at_ x.1 k else (rowAt M j k ^^ (rowAt M j a && at_ x.1 k)) := by
  unfold rowAt addM
  rw [List.getD_eq_getElem?_getD, List.getElem?_set]
  by_cases e : j = a
  · subst e
    rw [if_pos rfl, if_pos rfl, List.length_map, if_pos ha]
    rfl
  · rw [if_neg (fun q => e q.symm), if_neg e, List.getElem?_map, List.getD_eq_getElem?_getD]
    cases ho : M[j]? with
    | none => rfl
    | some o =>
      cases o with
      | none => rfl
      | some y =>
        obtain ⟨y1, y2⟩ := h.ok y (mem_of_get? ho)
        show at_ (if at_ y.1 a = true then addL y x else y).1 k = (at_ y.1 k ^^ (at_ y.1 a && at_ x.1 k))
        cases at_ y.1 a
        · simp
        · simpa using at_addL (by omega) k
theorem rd_addM {n z : Nat} {M : List (Option LN)} (h : LOk n z M) {a : Nat} {x : LN} (ha : a < n) (hx : x.1.length = n) (hf : M[a]? = some none) (w : List Bool) (k : Nat) : rd n (addM M a x) w k = (rd n M w k ^^ (rd n M w a && at_ x.1 k)) := by
  have haM : a < M.length := by rw [h.len]; exact ha
  unfold rd
  rw [xsB_congr (g := fun j => ((at_ w j && rowAt M j k) ^^ ((at_ w j && rowAt M j a) && at_ x.1 k)) ^^ (decide (j = a) && (at_ w a && at_ x.1 k))) (fun j _ => by
    rw [rowAt_addM h haM hx]
    by_cases e : j = a
    · subst e
      rw [if_pos rfl, rowAt_none hf, rowAt_none hf]
      cases at_ w j <;> simp
    · rw [if_neg e]
      simp only [e, decide_false, Bool.false_and, Bool.xor_false]
      cases at_ w j <;> simp), xsB_xor, xsB_xor, xsB_and, xsB_and, xsB_one (g := fun j => decide (j = a)) (j := a) ha (fun i _ hi => by simp [hi])]
  simp only [decide_true, Bool.true_and]
  cases at_ w k <;> cases at_ w a <;> cases xsB (fun j => at_ w j && rowAt M j k) n <;> cases xsB (fun j => at_ w j && rowAt M j a) n <;> cases at_ x.1 k <;> rfl
/-- w is spanned. -/
def sp (n : Nat) (M : List (Option LN)) (w : List Bool) : Prop := ∀ k, rd n M w k = false
theorem sp_xor {n : Nat} {M : List (Option LN)} {w v : List Bool} (hl : w.length = v.length) (h1 : sp n M w) (h2 : sp n M v) : sp n M (xorV w v) := fun k => by rw [rd_xor n M hl, h1 k, h2 k]; rfl
/-- A matrix, a row added. -/
def addF (M : List (Option LN)) (v : LN) : List (Option LN) := if firstV (red M v).1 = -1 then M else addM M (firstV (red M v).1).toNat (red M v)
theorem addF_old {M : List (Option LN)} {v : LN} (h : firstV (red M v).1 = -1) : addF M v = M := if_pos h
theorem addF_new {M : List (Option LN)} {v : LN} {a : Nat} (h : firstV (red M v).1 = a) : addF M v = addM M a (red M v) := by
  unfold addF
  rw [if_neg (by omega), h]
  rfl
theorem sp_first {n z : Nat} {M : List (Option LN)} (h : RR n z M) {v : LN} (hx : v.1.length = n) (hd : v.2.length = z) : firstV (red M v).1 = -1 ↔ sp n M v.1 := by
  obtain ⟨l1, l2⟩ := redT_len h.lok hx hd M.length
  have l1 : (red M v).1.length = n := l1
  constructor
  · intro e k
    rw [← red_rd h hx hd k]
    by_cases hk : k < n
    · rcases hb : at_ (red M v).1 k with _ | _
      · rfl
      · obtain ⟨m, hm, hmin⟩ := least (p := fun i => at_ (red M v).1 i = true) ⟨k, hb⟩
        have hmn : m < (red M v).1.length := by
          by_cases q : m < (red M v).1.length
          · exact q
          · have : at_ (red M v).1 m = false := getD_out (by omega)
            rw [this] at hm; cases hm
        have := firstV_is (l := (red M v).1) hmn hm (fun j hj => by
          have := hmin j hj
          simpa using this)
        omega
    · exact getD_out (by omega)
  · intro e
    exact firstV_none (fun j _ => by rw [red_rd h hx hd j]; exact e j)
theorem addF_RR {n z : Nat} {M : List (Option LN)} (h : RR n z M) {v : LN} (hx : v.1.length = n) (hd : v.2.length = z) : RR n z (addF M v) := by
  rcases add_cases h hx hd with e | ⟨a, e, _, h1, _⟩
  · rw [addF_old e]; exact h
  · rw [addF_new e]; exact h1
theorem sp_addF {n z : Nat} {M : List (Option LN)} (h : RR n z M) {v : LN} (hx : v.1.length = n) (hd : v.2.length = z) {w : List Bool} (hw : w.length = n) : sp n (addF M v) w ↔ sp n M w ∨ sp n M (xorV w v.1) := by
  obtain ⟨l1, l2⟩ := redT_len h.lok hx hd M.length
  have l1 : (red M v).1.length = n := l1
  have hl : w.length = v.1.length := by omega
  rcases add_cases h hx hd with e | ⟨a, e, hf, _, _⟩
  · rw [addF_old e]
    have hv := (sp_first h hx hd).1 e
    constructor
    · exact .inl
    · rintro (q | q)
      · exact q
      · intro k
        have := q k
        rw [rd_xor n M hl, hv k] at this
        simpa using this
  · rw [addF_new e]
    have ha : a < n := by
      have := (List.getElem?_eq_some_iff.1 hf).1
      rw [h.lok.len] at this
      exact this
    have hxa : at_ (red M v).1 a = true := by
      rcases first_cases (red M v).1 with q | ⟨a', q, _, q2, _⟩
      · omega
      · have : a = a' := by omega
        subst this; exact q2
    have hr : ∀ k, rd n (addM M a (red M v)) w k = (rd n M w k ^^ (rd n M w a && rd n M v.1 k)) := fun k => by rw [rd_addM h.lok ha l1 hf, red_rd h hx hd]
    rw [red_rd h hx hd] at hxa
    constructor
    · intro q
      cases hb : rd n M w a
      · refine .inl (fun k => ?_)
        have := q k
        rw [hr, hb] at this
        simpa using this
      · refine .inr (fun k => ?_)
        have := q k
        rw [hr, hb] at this
        rw [rd_xor n M hl]
        simpa using this
    · rintro (q | q)
      · intro k
        rw [hr, q k, q a]; rfl
      · have hq : ∀ k, rd n M w k = rd n M v.1 k := fun k => by
          have := q k
          rw [rd_xor n M hl] at this
          simpa using this
        intro k
        rw [hr, hq a, hxa, hq k]
        simp
theorem rd_zero (n : Nat) (M : List (Option LN)) {w : List Bool} (h : ∀ k, at_ w k = false) (k : Nat) : rd n M w k = false := by
  unfold rd
  rw [h k, xsB_zero (fun i _ => by rw [h i]; rfl)]; rfl
theorem sp_self {n z : Nat} {M : List (Option LN)} (h : RR n z M) {v : LN} (hx : v.1.length = n) (hd : v.2.length = z) : sp n (addF M v) v.1 := by
  refine (sp_addF h hx hd hx).2 (.inr (fun k => rd_zero n M (fun j => ?_) k))
  rw [show at_ (xorV v.1 v.1) j = (at_ v.1 j ^^ at_ v.1 j) from xorV_getD rfl j]
  simp
/-! Two reduced matrices of the same span are the same. -/
theorem sp_row {n z : Nat} {A : List (Option LN)} (h : RR n z A) {i : Nat} {y : LN} (hy : A[i]? = some (some y)) : sp n A y.1 := fun k => by
  have hi : i < n := by rw [← h.lok.len]; exact (List.getElem?_eq_some_iff.1 hy).1
  unfold rd
  rw [xsB_one hi (fun j hj hne => ?_)]
  · have hr : rowAt A i k = at_ y.1 k := by unfold rowAt; rw [getD_of hy]
    rw [hr, h.fst i y hy]
    simp
  · unfold rowAt
    cases ho : A.getD j none with
    | none => simp
    | some w =>
      show (at_ y.1 j && at_ w.1 k) = false
      rw [h.piv i j y w hy (getD_some ho) (fun q => hne q.symm)]; rfl
theorem sp_pivot {n z : Nat} {A : List (Option LN)} (h : RR n z A) {w : List Bool} (hw : sp n A w) {i : Nat} (hi : i < n) (h1 : at_ w i = true) (h2 : ∀ j, j < i → at_ w j = false) : ∃ y, A[i]? = some (some y) := by
  have := hw i
  unfold rd at this
  rw [xsB_one hi (fun j hj hne => ?_), h1] at this
  · simp only [Bool.true_and, Bool.true_xor, Bool.not_eq_false'] at this
    unfold rowAt at this
    cases ho : A.getD i none with
    | none => rw [ho] at this; simp at this
    | some y => exact ⟨y, getD_some ho⟩
  · by_cases hji : j < i
    · rw [h2 j hji]; rfl
    · unfold rowAt
      cases ho : A.getD j none with
      | none => simp
      | some y =>
        show (at_ w j && at_ y.1 i) = false
        rw [h.lo j y i (getD_some ho) (by omega), Bool.and_false]
theorem sp_is {n z : Nat} {A : List (Option LN)} (h : RR n z A) {w : List Bool} (hw : sp n A w) {i : Nat} (hi : i < n) (h1 : at_ w i = true) {y : LN} (hy : A[i]? = some (some y)) (h2 : ∀ j u, A[j]? = some (some u) → j ≠ i → at_ w j = false) (k : Nat) : at_ w k = at_ y.1 k := by
  have := hw k
  unfold rd at this
  rw [xsB_one hi (fun j hj hne => ?_), h1] at this
  · have hr : rowAt A i k = at_ y.1 k := by unfold rowAt; rw [getD_of hy]
    rw [hr] at this
    simpa using this
  · unfold rowAt
    cases ho : A.getD j none with
    | none => simp
    | some u =>
      show (at_ w j && at_ u.1 k) = false
      rw [h2 j u (getD_some ho) hne]; rfl
theorem at_ext {a b : List Bool} (hl : a.length = b.length) (h : ∀ k, at_ a k = at_ b k) : a = b := by
  apply List.ext_getElem hl
  intro i h1 h2
  have := h i
  unfold at_ at this
  rw [List.getD_eq_getElem?_getD, List.getD_eq_getElem?_getD, List.getElem?_eq_getElem h1, List.getElem?_eq_getElem h2] at this
  exact this
/-- Each row's data is told by its bits. -/
def DOk (D : List Bool → List (BitVec 8)) (M : List (Option LN)) : Prop := ∀ y, some y ∈ M → y.2 = D y.1
theorem row_same {n z : Nat} {A B : List (Option LN)} (hA : RR n z A) (hB : RR n z B) (h : ∀ w, w.length = n → (sp n A w → sp n B w)) (h' : ∀ w, w.length = n → (sp n B w → sp n A w)) {i : Nat} {y : LN} (hy : A[i]? = some (some y)) : ∃ u, B[i]? = some (some u) ∧ y.1 = u.1 := by
  have hi : i < n := by rw [← hA.lok.len]; exact (List.getElem?_eq_some_iff.1 hy).1
  have hyl := (hA.lok.ok y (mem_of_get? hy)).1
  have hs := h y.1 hyl (sp_row hA hy)
  obtain ⟨u, hu⟩ := sp_pivot hB hs hi (hA.fst i y hy) (fun j hj => hA.lo i y j hy hj)
  have hul := (hB.lok.ok u (mem_of_get? hu)).1
  refine ⟨u, hu, at_ext (by omega) (fun k => sp_is hB hs hi (hA.fst i y hy) hu (fun j v hv hne => ?_) k)⟩
  have hvl := (hB.lok.ok v (mem_of_get? hv)).1
  have hj : j < n := by rw [← hB.lok.len]; exact (List.getElem?_eq_some_iff.1 hv).1
  obtain ⟨v', hv'⟩ := sp_pivot hA (h' v.1 hvl (sp_row hB hv)) hj (hB.fst j v hv) (fun k hk => hB.lo j v k hv hk)
  exact hA.piv i j y v' hy hv' (fun q => hne q.symm)
theorem mat_same {n z : Nat} {D : List Bool → List (BitVec 8)} {A B : List (Option LN)} (hA : RR n z A) (hB : RR n z B) (dA : DOk D A) (dB : DOk D B) (h : ∀ w, w.length = n → (sp n A w ↔ sp n B w)) : A = B := by
  apply List.ext_getElem?
  intro i
  have key : ∀ {P Q : List (Option LN)}, RR n z P → RR n z Q → DOk D P → DOk D Q → (∀ w, w.length = n → (sp n P w → sp n Q w)) → (∀ w, w.length = n → (sp n Q w → sp n P w)) → ∀ y, P[i]? = some (some y) → Q[i]? = some (some y) := by
    intro P Q hP hQ dP dQ h1 h2 y hy
    obtain ⟨u, hu, e⟩ := row_same hP hQ h1 h2 hy
    have e2 : y = u := Prod.ext e (by rw [dP y (mem_of_get? hy), dQ u (mem_of_get? hu), e])
    rw [hu, e2]
  by_cases hi : i < n
  · have lA : i < A.length := by rw [hA.lok.len]; exact hi
    have lB : i < B.length := by rw [hB.lok.len]; exact hi
    cases ho : A[i]? with
    | none => rw [List.getElem?_eq_getElem lA] at ho; cases ho
    | some o =>
      cases o with
      | some y => exact (key hA hB dA dB (fun w hw => (h w hw).1) (fun w hw => (h w hw).2) y ho).symm
      | none =>
        cases hq : B[i]? with
        | none => rw [List.getElem?_eq_getElem lB] at hq; cases hq
        | some q =>
          cases q with
          | none => rfl
          | some u =>
            have := key hB hA dB dA (fun w hw => (h w hw).2) (fun w hw => (h w hw).1) u hq
            rw [ho] at this
            cases this
  · rw [List.getElem?_eq_none (by rw [hA.lok.len]; omega), List.getElem?_eq_none (by rw [hB.lok.len]; omega)]
/-! Rows added one by one. -/
def foldA (n : Nat) (D : List Bool → List (BitVec 8)) (rs : List (List Bool)) : List (Option LN) := rs.foldl (fun M v => addF M (v, D v)) (List.replicate n none)
theorem foldA_nil (n : Nat) (D : List Bool → List (BitVec 8)) : foldA n D [] = List.replicate n none := rfl
theorem foldA_snoc (n : Nat) (D : List Bool → List (BitVec 8)) (rs : List (List Bool)) (v : List Bool) : foldA n D (rs ++ [v]) = addF (foldA n D rs) (v, D v) := by simp [foldA]
theorem rev_ind {α : Type} {P : List α → Prop} (h0 : P []) (hs : ∀ l a, P l → P (l ++ [a])) (l : List α) : P l := by
  have : ∀ m : List α, P m.reverse := by
    intro m
    induction m with
    | nil => exact h0
    | cons a m ih => rw [List.reverse_cons]; exact hs _ _ ih
  simpa using this l.reverse
theorem foldA_RR {n z : Nat} {D : List Bool → List (BitVec 8)} (hD : ∀ v, v.length = n → (D v).length = z) : ∀ rs : List (List Bool), (∀ v ∈ rs, v.length = n) → RR n z (foldA n D rs) :=
  rev_ind (fun _ => RR_none) (fun l a ih h => by
    rw [foldA_snoc]
    exact addF_RR (ih (fun v hv => h v (by simp [hv]))) (h a (by simp)) (hD a (h a (by simp))))
theorem foldA_sub {n z : Nat} {D : List Bool → List (BitVec 8)} (hD : ∀ v, v.length = n → (D v).length = z) {T : List Bool → Prop} (h0 : T (List.replicate n false)) (hx : ∀ a b, a.length = n → b.length = n → T a → T b → T (xorV a b)) : ∀ rs : List (List Bool), (∀ v ∈ rs, v.length = n ∧ T v) → ∀ w, w.length = n → sp n (foldA n D rs) w → T w :=
  rev_ind (fun _ w hw hs => by
    have : w = List.replicate n false := at_ext (by simp [hw]) (fun k => by
      have h1 := hs k
      unfold rd at h1
      rw [xsB_zero (fun j hj => ?_), Bool.xor_false] at h1
      · rw [h1]
        unfold at_
        rw [List.getD_eq_getElem?_getD, List.getElem?_replicate]
        split <;> rfl
      · rw [rowAt_none (by rw [foldA_nil, List.getElem?_replicate, if_pos hj]), Bool.and_false])
    rw [this]; exact h0)
  (fun l a ih h w hw hs => by
    rw [foldA_snoc] at hs
    obtain ⟨ha, hTa⟩ := h a (by simp)
    have hl : ∀ v ∈ l, v.length = n ∧ T v := fun v hv => h v (by simp [hv])
    rcases (sp_addF (foldA_RR hD l (fun v hv => (hl v hv).1)) ha (hD a ha) hw).1 hs with q | q
    · exact ih hl w hw q
    · have hwl : (xorV w a).length = n := by rw [xorV_len (by omega)]; exact hw
      have h1 := hx _ _ hwl ha (ih hl _ hwl q) hTa
      have e : xorV (xorV w a) a = w := at_ext (by rw [xorV_len (by omega), hwl, hw]) (fun k => by
        have e1 : at_ (xorV (xorV w a) a) k = (at_ (xorV w a) k ^^ at_ a k) := xorV_getD (by omega) k
        have e2 : at_ (xorV w a) k = (at_ w k ^^ at_ a k) := xorV_getD (by omega) k
        rw [e1, e2]; simp)
      rw [e] at h1
      exact h1)
theorem foldA_has {n z : Nat} {D : List Bool → List (BitVec 8)} (hD : ∀ v, v.length = n → (D v).length = z) : ∀ rs : List (List Bool), (∀ v ∈ rs, v.length = n) → ∀ v ∈ rs, sp n (foldA n D rs) v :=
  rev_ind (fun _ v hv => by cases hv) (fun l a ih h v hv => by
    rw [foldA_snoc]
    have hl : ∀ v ∈ l, v.length = n := fun v hv => h v (by simp [hv])
    have ha := h a (by simp)
    have hR := foldA_RR hD l hl
    rcases List.mem_append.1 hv with q | q
    · exact (sp_addF hR ha (hD a ha) (hl v q)).2 (.inl (ih hl v q))
    · obtain rfl : v = a := by simpa using q
      exact sp_self hR ha (hD v ha))
theorem sp_zero (n : Nat) (M : List (Option LN)) : sp n M (List.replicate n false) := fun k => rd_zero n M (fun j => by
  unfold at_
  rw [List.getD_eq_getElem?_getD, List.getElem?_replicate]
  split <;> rfl) k
/-- Data that adds up as the bits do. -/
def Lin (n z : Nat) (D : List Bool → List (BitVec 8)) : Prop := (∀ v, v.length = n → (D v).length = z) ∧ ∀ a b, a.length = n → b.length = n → D (xorV a b) = xorL (D a) (D b)
theorem redT_D {n z : Nat} {D : List Bool → List (BitVec 8)} (hD : Lin n z D) {M : List (Option LN)} (h : LOk n z M) (hM : DOk D M) {x : LN} (hx : x.1.length = n) (hxd : x.2 = D x.1) : ∀ i, (redT M x i).2 = D (redT M x i).1
  | 0 => hxd
  | i + 1 => by
    have ih := redT_D hD h hM hx hxd i
    have hd : x.2.length = z := by rw [hxd]; exact hD.1 _ hx
    obtain ⟨l1, l2⟩ := redT_len h hx hd i
    rw [redT]
    cases ho : M.getD i none with
    | none => exact ih
    | some y =>
      have hy := mem_of_get? (getD_some ho)
      show (if at_ (redT M x i).1 i = true then addL (redT M x i) y else redT M x i).2 = D (if at_ (redT M x i).1 i = true then addL (redT M x i) y else redT M x i).1
      split
      · show xorL (redT M x i).2 y.2 = D (xorV (redT M x i).1 y.1)
        rw [hD.2 _ _ l1 (h.ok y hy).1, ih, hM y hy]
      · exact ih
theorem addF_D {n z : Nat} {D : List Bool → List (BitVec 8)} (hD : Lin n z D) {M : List (Option LN)} (h : RR n z M) (hM : DOk D M) {v : List Bool} (hv : v.length = n) : DOk D (addF M (v, D v)) := by
  rcases add_cases h (v := (v, D v)) hv (hD.1 v hv) with e | ⟨a, e, hf, _, _⟩
  · rw [addF_old e]; exact hM
  · rw [addF_new e]
    obtain ⟨l1, l2⟩ := redT_len h.lok (x := (v, D v)) hv (hD.1 v hv) M.length
    have l1 : (red M (v, D v)).1.length = n := l1
    have hx : (red M (v, D v)).2 = D (red M (v, D v)).1 := redT_D hD h.lok hM (x := (v, D v)) hv rfl M.length
    intro y hy
    obtain ⟨i, hi⟩ := List.getElem?_of_mem hy
    rcases addM_get (List.getElem?_eq_some_iff.1 hf).1 hi with ⟨_, rfl⟩ | ⟨_, w, hw, rfl⟩
    · exact hx
    · have hwm := mem_of_get? hw
      split
      · show xorL w.2 (red M (v, D v)).2 = D (xorV w.1 (red M (v, D v)).1)
        rw [hD.2 _ _ (h.lok.ok w hwm).1 l1, hM w hwm, hx]
      · exact hM w hwm
theorem foldA_D {n z : Nat} {D : List Bool → List (BitVec 8)} (hD : Lin n z D) : ∀ rs : List (List Bool), (∀ v ∈ rs, v.length = n) → DOk D (foldA n D rs) :=
  rev_ind (fun _ y hy => by cases List.eq_of_mem_replicate hy) (fun l a ih h => by
    rw [foldA_snoc]
    have hl : ∀ v ∈ l, v.length = n := fun v hv => h v (by simp [hv])
    exact addF_D hD (foldA_RR hD.1 l hl) (ih hl) (h a (by simp)))
/-- The order of adding does not matter. -/
theorem foldA_same {n z : Nat} {D : List Bool → List (BitVec 8)} (hD : Lin n z D) {rs ts : List (List Bool)} (hr : ∀ v ∈ rs, v.length = n) (h1 : ∀ v ∈ rs, v ∈ ts) (h2 : ∀ v ∈ ts, v ∈ rs) : foldA n D rs = foldA n D ts := by
  have ht : ∀ v ∈ ts, v.length = n := fun v hv => hr v (h2 v hv)
  refine mat_same (foldA_RR hD.1 rs hr) (foldA_RR hD.1 ts ht) (foldA_D hD rs hr) (foldA_D hD ts ht) (fun w hw => ⟨?_, ?_⟩)
  · exact foldA_sub hD.1 (sp_zero n _) (fun a b ha hb h3 h4 => sp_xor (by omega) h3 h4) rs (fun v hv => ⟨hr v hv, foldA_has hD.1 ts ht v (h1 v hv)⟩) w hw
  · exact foldA_sub hD.1 (sp_zero n _) (fun a b ha hb h3 h4 => sp_xor (by omega) h3 h4) ts (fun v hv => ⟨ht v hv, foldA_has hD.1 rs hr v (h2 v hv)⟩) w hw
/-- A full matrix: each row is its place alone. -/
theorem full_some : ∀ {M : List (Option LN)}, cntS M = M.length → ∀ i, i < M.length → ∃ y, M[i]? = some (some y)
  | [], _, i, hi => by cases hi
  | none :: M, h, i, hi => by
    have := cntS_le M
    simp only [cntS, List.length_cons] at h
    omega
  | some y :: M, h, 0, hi => ⟨y, rfl⟩
  | some y :: M, h, i + 1, hi => by
    simp only [cntS, List.length_cons] at h
    have hi : i + 1 < M.length + 1 := hi
    obtain ⟨u, hu⟩ := full_some (M := M) (by omega) i (by omega)
    exact ⟨u, by simpa using hu⟩
theorem full_unit {n z : Nat} {M : List (Option LN)} (h : RR n z M) (hc : cntS M = n) {i : Nat} {y : LN} (hy : M[i]? = some (some y)) (k : Nat) : at_ y.1 k = decide (k = i) := by
  have hi : i < n := by rw [← h.lok.len]; exact (List.getElem?_eq_some_iff.1 hy).1
  by_cases e : k = i
  · subst e
    rw [h.fst k y hy]; simp
  · by_cases hk : k < n
    · obtain ⟨w, hw⟩ := full_some (M := M) (by rw [hc, h.lok.len]) k (by rw [h.lok.len]; exact hk)
      rw [h.piv i k y w hy hw (fun q => e q.symm)]; simp [e]
    · have : at_ y.1 k = false := getD_out (by have := (h.lok.ok y (mem_of_get? hy)).1; omega)
      rw [this]; simp [e]
end Go.Dp

set_option linter.unusedVariables false
set_option linter.unusedSimpArgs false
namespace Go.Dp
def xsum (g : Nat → BitVec 8) : Nat → BitVec 8
  | 0 => 0#8
  | n + 1 => xsum g n ^^^ g n
def pickB (on : Bool) (x : BitVec 8) : BitVec 8 := if on then x else 0#8
theorem xsum_congr {g h : Nat → BitVec 8} {n : Nat} (e : ∀ i, i < n → g i = h i) : xsum g n = xsum h n := by
  induction n with
  | zero => rfl
  | succ n ih => rw [xsum, xsum, ih (fun i hi => e i (by omega)), e n (by omega)]
theorem xsum_xor (g h : Nat → BitVec 8) (n : Nat) : xsum (fun i => g i ^^^ h i) n = xsum g n ^^^ xsum h n := by
  induction n with
  | zero => simp [xsum]
  | succ n ih =>
    rw [xsum, xsum, xsum, ih]
    rw [BitVec.xor_assoc, BitVec.xor_assoc]
    congr 1
    rw [← BitVec.xor_assoc, ← BitVec.xor_assoc, BitVec.xor_comm (xsum h n)]
theorem xsum_zero {g : Nat → BitVec 8} {n : Nat} (e : ∀ i, i < n → g i = 0#8) : xsum g n = 0#8 := by
  induction n with
  | zero => rfl
  | succ n ih => rw [xsum, ih (fun i hi => e i (by omega)), e n (by omega)]; rfl
theorem pick_xor (b : Bool) (x y : BitVec 8) : pickB b (x ^^^ y) = pickB b x ^^^ pickB b y := by cases b <;> simp [pickB]
theorem xsum_add (g : Nat → BitVec 8) (a b : Nat) : xsum g (a + b) = xsum g a ^^^ xsum (fun i => g (a + i)) b := by
  induction b with
  | zero => simp [xsum]
  | succ b ih => rw [← Nat.add_assoc, xsum, xsum, ih, BitVec.xor_assoc]
theorem xsum_one {g : Nat → BitVec 8} {n j : Nat} (hj : j < n) (e : ∀ i, i < n → i ≠ j → g i = 0#8) : xsum g n = g j := by
  induction n with
  | zero => omega
  | succ n ih =>
    rw [xsum]
    by_cases h : j = n
    · subst h
      rw [xsum_zero (fun i hi => e i (by omega) (by omega))]; simp
    · rw [ih (by omega) (fun i hi hne => e i (by omega) hne), e n (by omega) (fun q => h q.symm)]; simp
/-- Along the places. -/
theorem fold_places (f : Nat → Bool) (g : Nat → BitVec 8) (m : Nat) : (placesN f m).foldl (fun a i => a ^^^ g i) 0#8 = xsum (fun i => pickB (f i) (g i)) m := by
  induction m with
  | zero => rfl
  | succ m ih =>
    rw [places_succ, List.foldl_append, ih, xsum]
    cases h : f m <;> simp [pickB]
/-- A byte of pieces. -/
def at8 (l : List (List (BitVec 8))) (i k : Nat) : BitVec 8 := (l.getD i []).getD k 0#8
/-- The parity of pieces by a row. -/
def parS (f : Nat → Bool) (l : List (List (BitVec 8))) (z : Nat) : List (BitVec 8) := (List.range z).map (fun k => xsum (fun i => pickB (f i) (at8 l i k)) l.length)
theorem parS_len (f : Nat → Bool) (l : List (List (BitVec 8))) (z : Nat) : (parS f l z).length = z := by simp [parS]
theorem parS_at (f : Nat → Bool) (l : List (List (BitVec 8))) (z k : Nat) (h : k < z) : (parS f l z).getD k 0#8 = xsum (fun i => pickB (f i) (at8 l i k)) l.length := by
  simp [parS, List.getD_eq_getElem?_getD, h]
theorem bytes_ext {a b : List (BitVec 8)} (h : a.length = b.length) (e : ∀ k, k < a.length → a.getD k 0#8 = b.getD k 0#8) : a = b := by
  refine List.ext_getElem h (fun j h1 h2 => ?_)
  have := e j h1
  simpa [List.getD_eq_getElem?_getD, h1, h2] using this
theorem parS_zero (f : Nat → Bool) (l : List (List (BitVec 8))) (z : Nat) (h : ∀ i k, i < l.length → k < z → at8 l i k = 0#8) : parS f l z = List.replicate z 0#8 := by
  refine bytes_ext (by simp [parS_len]) (fun k hk => ?_)
  rw [parS_len] at hk
  rw [parS_at _ _ _ _ hk, xsum_zero (fun i hi => by rw [h i k hi hk]; simp [pickB])]
  simp [List.getD_eq_getElem?_getD, hk]
theorem parS_sum (f : Nat → Bool) {l m n : List (List (BitVec 8))} {z : Nat} (h1 : m.length = l.length) (h2 : n.length = l.length) (h : ∀ i k, i < l.length → k < z → at8 n i k = at8 l i k ^^^ at8 m i k) (k : Nat) (hk : k < z) :
    (parS f l z).getD k 0#8 ^^^ (parS f m z).getD k 0#8 = (parS f n z).getD k 0#8 := by
  rw [parS_at _ _ _ _ hk, parS_at _ _ _ _ hk, parS_at _ _ _ _ hk, h1, h2, ← xsum_xor]
  refine xsum_congr (fun i hi => ?_)
  rw [h i k hi hk, pick_xor]
/-- THE SUM OF ALL PIECES OF A ROW IS NOTHING. -/
theorem row_nothing (K P j : Nat) (hj : j < P) (b : Nat → Bool) (g : Nat → BitVec 8) (hp : g (K + j) = xsum (fun i => pickB (b i) (g i)) K) :
    xsum (fun i => pickB ((decide (i < K) && b i) || decide (i = K + j)) (g i)) (K + P) = 0#8 := by
  rw [xsum_add, xsum_one (j := j) hj (fun i hi hne => ?_), xsum_congr (h := fun i => pickB (b i) (g i)) (fun i hi => ?_), ← hp]
  · simp [pickB]
  · have : ¬ i = K + j := by omega
    simp [hi, this]
  · have h1 : ¬ (K + i < K) := by omega
    have h2 : ¬ (K + i = K + j) := by omega
    simp [h1, pickB, hne]
end Go.Dp

set_option linter.unusedVariables false
set_option linter.unusedSimpArgs false
namespace Go.Dp
open Go.RowKit Go.Proofs
set_option maxHeartbeats 2000000 in
theorem elim_Says (H : List Hl) (bm n z : Nat) (ar : Option Addr) (cr k : Nat) (M : List (Option RD)) (v : VD) (ML : List (Option LN)) (b : Bool) (hM : RdM (stars H) bm n z ar cr k M) (hML : M.map vw = ML) (hv : RdV (stars H) v) (hvn : v.n = n) (hb : decide (0 ≤ firstV (red ML (v.l, List.replicate z 0#8)).1) = b) (ht : TabF (stars H)) :
    Spec Tryd.prog 40 [.pointer (some ⟨bm, 0, none⟩), Pv v] H (fun _ : Unit => True) (fun _ => .bool b) (fun _ => H) := by
  refine spec_pure (res := fun _ => []) H Tryd.func40 rfl Tryd.ntmps40 (by kernel_rfl) rfl (fun W => ?_)
  have hLk := hM.ok.vw
  have hvl : v.l.length = n := by rw [hv.ok.len, hvn]
  rw [hML] at hLk
  obtain ⟨x, hx⟩ : ∃ x, red ML (v.l, List.replicate z 0#8) = x := ⟨_, rfl⟩
  obtain ⟨hxl, hxd⟩ : x.1.length = n ∧ x.2.length = z := by rw [← hx]; exact redT_len hLk hvl (by simp) _
  rw [hx] at hb
  have l3 := hM.ok.n2
  have hpn := padD_nil z
  obtain ⟨xl, xd⟩ := x
  dsimp only at hxl hxd hb
  repeat' (first | refine ls_of rfl ?_ | refine ls_of_no ?_ | refine ls_guard_yes rfl rfl ?_ | refine ls_guard_no rfl rfl rfl rfl ?_ | refine ls_guard_un rfl rfl rfl ?_ | refine o1_move rfl ?_ | refine o1_assign rfl ?_ | refine st_seq ?_ | refine st_region ?_ | refine st_block ?_ | refine st_skip ?_ | refine st_ret ?_ | refine st_exit ?_ | refine st_cond_t rfl ?_ | refine st_cond_f rfl ?_ | refine st_cond rfl (fun _ => ?_) (fun _ => ?_) | refine ls_nil ?_ | refine nx_seq ?_ | refine nx_blk ?_ | refine nx_fn ?_ | refine nx_rounds ?_ | refine xt_seq ?_ | refine xt_here ?_ | refine xt_on rfl ?_ | refine xt_rounds ?_ | refine xt_cut ?_ | refine rt_seq ?_ | refine rt_blk ?_ | refine rt_rounds ?_ | refine rt_cut ?_ | refine o1_pneq rfl rfl ?_ | (refine o1_call (fun _ => elim_reduced _ bm n z ar cr k M v none 0 0 [] hM.up hv.up hvn (Rs.nil (by decide)) rfl (Nat.zero_le _)) rfl (fun ⟨b7, ⟨vb, vn, va, vc, vl⟩, ad7, z7, cd7, d7⟩ hr => ?_); dsimp only at hr ⊢; obtain ⟨rfl, rfl, hr3⟩ := hr; rw [hML, hpn, hx] at hr3; obtain ⟨rfl, rfl⟩ := Prod.mk.inj hr3) | refine o1_call (fun hh => vec_First _ ⟨vb, vn, va, vc, vl⟩ (RdV.own hxl l3 hh) ht.up) rfl (fun _ _ => ?_) | refine o1_geq_d rfl rfl ?_ | refine o1_pick_t rfl rfl ?_ | refine o1_pick_f rfl rfl ?_ | refine o1_fieldAddr rfl ?_ | refine ox_load rfl (by rfl) ?_ | refine ox_load_enc rfl (by first | omega | (simp; omega)) ?_ | refine ox_load_any rfl (by assumption) ?_ | refine o1_geq_t rfl rfl (by omega) ?_ | refine o1_geq_f rfl rfl (by omega) ?_ | refine o1_geq rfl rfl (fun _ => ?_) (fun _ => ?_) | refine o1_slice_nil rfl ?_ | refine o1_nilCheck rfl ?_)
  refine rt_tmp () rfl rfl ?_ trivial ?_
  · show Value.bool _ = Value.bool b
    rw [← hb]
  (try dsimp only [List.cons_append, List.nil_append, List.singleton_append, List.append_nil]); (repeat (first | exact Ent.nil | exact Ent.refl _ | (apply Ent.cons; (repeat (first | exact Sel.here | apply Sel.there)))))
/-! The pieces. -/
def p0 (seed : BitVec 8) (i : Nat) : BitVec 8 := BitVec.ofInt 8 (i : Int) * 37#8 + seed
def p1 (seed : BitVec 8) (i : Nat) : BitVec 8 := BitVec.ofInt 8 (i : Int) ^^^ seed
def pL (seed : BitVec 8) (i : Nat) : List (BitVec 8) := twoB (p0 seed i) (p1 seed i)
def fX (p : Nat → BitVec 8) (l : List Nat) : BitVec 8 := l.foldl (fun a i => a ^^^ p i) 0#8
theorem fX_snoc (p : Nat → BitVec 8) (l : List Nat) (i : Nat) : fX p (l ++ [i]) = fX p l ^^^ p i := by simp [fX]
def dP (seed : BitVec 8) (l : List Nat) : List (BitVec 8) := twoB (fX (p0 seed) l) (fX (p1 seed) l)
def dV (n : Nat) (seed : BitVec 8) (v : List Bool) : List (BitVec 8) := dP seed (placesN (at_ v) n)
theorem fX_places (p : Nat → BitVec 8) (f : Nat → Bool) (n : Nat) : fX p (placesN f n) = xsum (fun i => pickB (f i) (p i)) n := fold_places f p n
theorem dV_lin (n : Nat) (seed : BitVec 8) : Lin n 2 (dV n seed) := ⟨fun _ _ => rfl, fun a b ha hb => by
  have key : ∀ p : Nat → BitVec 8, fX p (placesN (at_ (xorV a b)) n) = fX p (placesN (at_ a) n) ^^^ fX p (placesN (at_ b) n) := fun p => by
    rw [fX_places, fX_places, fX_places, ← xsum_xor]
    refine xsum_congr (fun i _ => ?_)
    rw [show at_ (xorV a b) i = (at_ a i ^^ at_ b i) from xorV_getD (by omega) i]
    cases at_ a i <;> cases at_ b i <;> simp [pickB]
  show twoB _ _ = xorL (twoB _ _) (twoB _ _)
  rw [key, key]
  rfl⟩
theorem dV_unit {n : Nat} (seed : BitVec 8) {v : List Bool} {i : Nat} (hi : i < n) (h : ∀ k, at_ v k = decide (k = i)) : dV n seed v = pL seed i := by
  have key : ∀ p : Nat → BitVec 8, fX p (placesN (at_ v) n) = p i := fun p => by
    rw [fX_places, xsum_one hi (fun j _ hj => by rw [h j]; simp [pickB, hj]), h i]
    simp [pickB]
  show twoB _ _ = twoB _ _
  rw [key, key]
theorem dV_len (n : Nat) (seed : BitVec 8) (v : List Bool) : (dV n seed v).length = 2 := rfl
/-- The rows, begun at the k-th. -/
def rotV (k : Nat) (rs : List (List Bool)) : List (List Bool) := (List.range rs.length).map (fun i => rs.getD ((i + k) % rs.length) [])
theorem rotV_len (k : Nat) (rs : List (List Bool)) : (rotV k rs).length = rs.length := by simp [rotV]
theorem rotV_mem {k : Nat} {rs : List (List Bool)} {v : List Bool} (h : v ∈ rotV k rs) : v ∈ rs := by
  obtain ⟨i, hi, rfl⟩ := List.mem_map.1 h
  have hi := List.mem_range.1 hi
  have hm : (i + k) % rs.length < rs.length := Nat.mod_lt _ (by omega)
  rw [List.getD_eq_getElem?_getD, List.getElem?_eq_getElem hm]
  exact List.getElem_mem hm
theorem mem_rotV {k : Nat} {rs : List (List Bool)} {v : List Bool} (h : v ∈ rs) : v ∈ rotV k rs := by
  obtain ⟨j, hj, rfl⟩ := List.getElem_of_mem h
  refine List.mem_map.2 ⟨(j + rs.length * k - k) % rs.length, List.mem_range.2 (Nat.mod_lt _ (by omega)), ?_⟩
  have hk : k ≤ rs.length * k := Nat.le_mul_of_pos_left _ (by omega)
  have e : ((j + rs.length * k - k) % rs.length + k) % rs.length = j := by
    rw [Nat.mod_add_mod, show j + rs.length * k - k + k = j + rs.length * k by omega, Nat.add_mul_mod_self_left, Nat.mod_eq_of_lt hj]
  rw [e, List.getD_eq_getElem?_getD, List.getElem?_eq_getElem hj]
  rfl
theorem rotV_take {k i : Nat} {rs : List (List Bool)} (hi : i < rs.length) : (rotV k rs).take (i + 1) = (rotV k rs).take i ++ [rs.getD ((i + k) % rs.length) []] := by
  rw [List.take_succ_eq_append_getElem (by rw [rotV_len]; exact hi)]
  simp [rotV]
end Go.Dp

set_option linter.unusedVariables false
set_option linter.unusedSimpArgs false
namespace Go.Dp
open Go.RowKit Go.Proofs
def rtY5_0 : List Row := [⟨some 13, [], [], none⟩, ⟨some 14, [0], [0], none⟩, ⟨some 15, [], [], none⟩, ⟨some 16, [2], [2], none⟩, ⟨some 17, [3], [2, 3], none⟩, ⟨some 18, [4], [2, 3, 4], none⟩, ⟨some 19, [5], [2, 3, 4, 5], none⟩, ⟨some 20, [1, 6], [0, 1, 2, 3, 4, 5, 6], none⟩, ⟨some 21, [7, 1], [0, 1, 2, 3, 4, 5, 6, 7], none⟩, ⟨some 22, [8], [0, 1, 2, 3, 4, 5, 6, 7, 8], some (8, false)⟩, ⟨some 23, [9, 8, 8], [0, 1, 2, 3, 4, 5, 6, 7, 8, 9], some (8, false)⟩, ⟨some 24, [8], [0, 1, 2, 3, 4, 5, 6, 7, 8], some (8, false)⟩, ⟨some 25, [11, 8], [0, 1, 2, 3, 4, 5, 6, 7, 8, 11], some (8, false)⟩, ⟨some 26, [12, 8], [0, 1, 2, 3, 4, 5, 6, 7, 8, 11, 12], some (8, false)⟩, ⟨some 27, [13, 8], [0, 1, 2, 3, 4, 5, 6, 7, 8, 11, 12, 13], some (8, false)⟩, ⟨some 28, [14, 8], [0, 1, 2, 3, 4, 5, 6, 7, 8, 11, 12, 13, 14], some (8, false)⟩, ⟨some 29, [8], [0, 1, 2, 3, 4, 5, 6, 7, 8], some (8, false)⟩, ⟨some 30, [16, 8], [0, 1, 2, 3, 4, 5, 6, 7, 8, 16], some (8, false)⟩, ⟨some 31, [17, 8], [0, 1, 2, 3, 4, 5, 6, 7, 8, 16, 17], some (8, false)⟩, ⟨some 32, [18, 8], [0, 1, 2, 3, 4, 5, 6, 7, 8, 16, 17, 18], some (8, false)⟩, ⟨some 33, [15, 19, 8], [0, 1, 2, 3, 4, 5, 6, 7, 8, 11, 12, 13, 14, 15, 16, 17, 18, 19], some (8, false)⟩, ⟨some 34, [10, 20, 8], [0, 1, 2, 3, 4, 5, 6, 7, 8, 9, 10, 11, 12, 13, 14, 15, 16, 17, 18, 19, 20], some (8, false)⟩, ⟨some 35, [8, 21], [0, 1, 2, 3, 4, 5, 6, 7, 8, 9, 10, 11, 12, 13, 14, 15, 16, 17, 18, 19, 20, 21], none⟩, ⟨some 36, [22, 10], [0, 1, 2, 3, 4, 5, 6, 7, 8, 9, 10, 11, 12, 13, 14, 15, 16, 17, 18, 19, 20, 21, 22], none⟩, ⟨some 37, [23], [0, 1, 2, 3, 4, 5, 6, 7, 8, 9, 10, 11, 12, 13, 14, 15, 16, 17, 18, 19, 20, 21, 22, 23], some (23, false)⟩, ⟨some 38, [24, 23, 23], [0, 1, 2, 3, 4, 5, 6, 7, 8, 9, 10, 11, 12, 13, 14, 15, 16, 17, 18, 19, 20, 21, 22, 23, 24], some (23, false)⟩, ⟨some 39, [25, 23], [0, 1, 2, 3, 4, 5, 6, 7, 8, 9, 10, 11, 12, 13, 14, 15, 16, 17, 18, 19, 20, 21, 22, 23, 24, 25], some (23, false)⟩, ⟨some 40, [23], [0, 1, 2, 3, 4, 5, 6, 7, 8, 9, 10, 11, 12, 13, 14, 15, 16, 17, 18, 19, 20, 21, 22, 23], some (23, false)⟩, ⟨some 41, [27, 25, 23], [0, 1, 2, 3, 4, 5, 6, 7, 8, 9, 10, 11, 12, 13, 14, 15, 16, 17, 18, 19, 20, 21, 22, 23, 24, 25, 27], some (23, false)⟩, ⟨some 42, [28, 23], [0, 1, 2, 3, 4, 5, 6, 7, 8, 9, 10, 11, 12, 13, 14, 15, 16, 17, 18, 19, 20, 21, 22, 23, 24, 25, 27, 28], some (23, false)⟩, ⟨some 43, [26, 29, 23], [0, 1, 2, 3, 4, 5, 6, 7, 8, 9, 10, 11, 12, 13, 14, 15, 16, 17, 18, 19, 20, 21, 22, 23, 24, 25, 26, 27, 28, 29], some (23, false)⟩, ⟨some 44, [23, 30], [0, 1, 2, 3, 4, 5, 6, 7, 8, 9, 10, 11, 12, 13, 14, 15, 16, 17, 18, 19, 20, 21, 22, 23, 24, 25, 26, 27, 28, 29, 30], none⟩]
def rtY5_1 : List Row := [⟨some 79, [], [], none⟩, ⟨some 80, [0], [0], none⟩, ⟨some 81, [1], [0, 1], none⟩, ⟨some 82, [2], [0, 1, 2], some (2, false)⟩, ⟨some 83, [2], [0, 1, 2], some (2, false)⟩, ⟨some 84, [4, 2], [0, 1, 2, 4], some (2, false)⟩, ⟨some 85, [5, 2], [0, 1, 2, 4, 5], some (2, false)⟩, ⟨some 86, [6, 2], [0, 1, 2, 4, 5, 6], some (2, false)⟩, ⟨some 87, [2], [0, 1, 2], some (2, false)⟩, ⟨some 88, [7, 8, 2], [0, 1, 2, 4, 5, 6, 7, 8], some (2, false)⟩, ⟨some 89, [9, 2], [0, 1, 2, 4, 5, 6, 7, 8, 9], some (2, false)⟩, ⟨some 90, [10, 2], [0, 1, 2, 4, 5, 6, 7, 8, 9, 10], some (2, false)⟩, ⟨some 91, [3, 11, 2, 2], [0, 1, 2, 3, 4, 5, 6, 7, 8, 9, 10, 11], some (2, false)⟩, ⟨some 92, [12, 2], [0, 1, 2, 3, 4, 5, 6, 7, 8, 9, 10, 11, 12], some (2, false)⟩, ⟨some 93, [2, 13], [0, 1, 2, 3, 4, 5, 6, 7, 8, 9, 10, 11, 12, 13], none⟩, ⟨some 94, [14, 12], [0, 1, 2, 3, 4, 5, 6, 7, 8, 9, 10, 11, 12, 13, 14], none⟩, ⟨some 95, [15], [0, 1, 2, 3, 4, 5, 6, 7, 8, 9, 10, 11, 12, 13, 14, 15], some (15, false)⟩, ⟨some 96, [16, 15], [0, 1, 2, 3, 4, 5, 6, 7, 8, 9, 10, 11, 12, 13, 14, 15, 16], some (15, false)⟩, ⟨some 97, [15], [0, 1, 2, 3, 4, 5, 6, 7, 8, 9, 10, 11, 12, 13, 14, 15], some (15, false)⟩, ⟨some 98, [18, 15], [0, 1, 2, 3, 4, 5, 6, 7, 8, 9, 10, 11, 12, 13, 14, 15, 18], some (15, false)⟩, ⟨some 99, [19, 15], [0, 1, 2, 3, 4, 5, 6, 7, 8, 9, 10, 11, 12, 13, 14, 15, 18, 19], some (15, false)⟩, ⟨some 100, [20, 15], [0, 1, 2, 3, 4, 5, 6, 7, 8, 9, 10, 11, 12, 13, 14, 15, 18, 19, 20], some (15, false)⟩, ⟨some 101, [15], [0, 1, 2, 3, 4, 5, 6, 7, 8, 9, 10, 11, 12, 13, 14, 15], some (15, false)⟩, ⟨some 102, [21, 22, 15], [0, 1, 2, 3, 4, 5, 6, 7, 8, 9, 10, 11, 12, 13, 14, 15, 18, 19, 20, 21, 22], some (15, false)⟩, ⟨some 103, [23, 15], [0, 1, 2, 3, 4, 5, 6, 7, 8, 9, 10, 11, 12, 13, 14, 15, 18, 19, 20, 21, 22, 23], some (15, false)⟩, ⟨some 104, [24, 15], [0, 1, 2, 3, 4, 5, 6, 7, 8, 9, 10, 11, 12, 13, 14, 15, 18, 19, 20, 21, 22, 23, 24], some (15, false)⟩, ⟨some 105, [25, 15], [0, 1, 2, 3, 4, 5, 6, 7, 8, 9, 10, 11, 12, 13, 14, 15, 18, 19, 20, 21, 22, 23, 24, 25], some (15, false)⟩, ⟨some 106, [17, 26, 15], [0, 1, 2, 3, 4, 5, 6, 7, 8, 9, 10, 11, 12, 13, 14, 15, 16, 17, 18, 19, 20, 21, 22, 23, 24, 25, 26], some (15, false)⟩, ⟨some 107, [15, 27], [0, 1, 2, 3, 4, 5, 6, 7, 8, 9, 10, 11, 12, 13, 14, 15, 16, 17, 18, 19, 20, 21, 22, 23, 24, 25, 26, 27], none⟩]
theorem vw_some {o : Option RD} {y : LN} (h : vw o = some y) : ∃ q, o = some q ∧ (q.v.l, q.d) = y := by
  cases o with
  | none => cases h
  | some q => exact ⟨q, rfl, Option.some.inj h⟩
theorem vw_none {o : Option RD} (h : vw o = none) : o = none := by
  cases o with
  | none => rfl
  | some q => cases h
section
variable {P : Program} {n : Nat} {H : List Hl} {e : Ev} {C : Value → List Hl → Prop} {ty : TypeId} {x : Operand} {α : Type} {A : Hp → Prop} {f g : α → Value} {ad : Option Addr} {c : Nat} {xs : List α}
theorem o1_fieldAddr_w {T ft : TypeId} {j off : Nat} [hf : TFld P T j off ft] {p : Addr} (hx : opd e x = some (.pointer (some p)))
    (h : C (.pointer (some (p.add off))) H) : O1 P (.fieldAddr T x j) ty n e H C :=
  o1_val _ (fun a w ho => by
    obtain ⟨fs, f, hu, hj, ho', _, hs⟩ := hf.u
    cases hq : P.info? f.type with
    | none => simp [hq] at hs
    | some q =>
      have hq0 : q.size ≠ 0 := by simpa [hq] using hs
      subst ho'
      simp [execOp, ho.ev.eval hx, Instr.fieldAt, Instr.sureAddr, run_underlying hu, hj, fieldPlace, sizeOf, typeInfo, hq, hq0]) h
theorem R2.at0 (h : R2 A f g ad c xs) {i : Nat} {v : α} (hv : xs[i]? = some v) : Cl A ((idxA ad (i * 2)).add 0) (f v) := ⟨fun w hw => by
  have hl : i < xs.length := (List.getElem?_eq_some_iff.1 hv).1
  obtain ⟨a0, rfl⟩ := h.sm (by omega)
  have := (h.cell w hw a0 rfl i v hv).1
  show w.cell? ((a0.add (i * 2)).add 0) = _
  rw [add_add]
  exact this⟩
theorem R2.at1 (h : R2 A f g ad c xs) {i : Nat} {v : α} (hv : xs[i]? = some v) : Cl A ((idxA ad (i * 2)).add 1) (g v) := ⟨fun w hw => by
  have hl : i < xs.length := (List.getElem?_eq_some_iff.1 hv).1
  obtain ⟨a0, rfl⟩ := h.sm (by omega)
  have := (h.cell w hw a0 rfl i v hv).2
  show w.cell? ((a0.add (i * 2)).add 1) = _
  rw [add_add]
  exact this⟩
end
set_option maxHeartbeats 8000000 in
theorem law6_like (H : List Hl) (bm n z : Nat) (ar : Option Addr) (cr k : Nat) (M : List (Option RD)) (ML : List (Option LN)) (b : Nat) (ad : Option Addr) (c : Nat) (ls : List LnD) (hM : RdM (stars H) bm n z ar cr k M) (hML : M.map vw = ML) (hRR : RR n z ML) (hk : cntS ML = k) (hb0 : Cl (stars H) ⟨b, 0, none⟩ (I n)) (hb1 : Cl (stars H) ⟨b, 1, none⟩ (I z)) (hb2 : Cl (stars H) ⟨b, 2, none⟩ (.slice ad ls.length c)) (hL : RdL (stars H) n z ad c ls) (hls : ls.map lnV = cmp ML) (hn : n ≤ 256) (hz : z ≤ 16) (ht : TabF (stars H)) :
    Spec Tryd.prog 47 [.pointer (some ⟨bm, 0, none⟩), .pointer (some ⟨b, 0, none⟩)] H (fun _ : Unit => True) (fun _ => .bool true) (fun _ => H) := by
  refine spec_pure (res := fun _ => []) H Tryd.func47 rfl Tryd.ntmps47 (by kernel_rfl) rfl (fun W => ?_)
  have hll : ls.length = k := by
    have h1 := congrArg List.length hls
    rw [List.length_map, cmp_len, hk] at h1
    exact h1
  have hMLl : ML.length = n := hRR.lok.len
  have hk2 : k ≤ n := by
    have := cntS_le ML
    omega
  have m1 := hM.fk
  have m0 := hM.fn
  have hr := hL.r
  have b3 := hr.le
  have b4 := hr.big
  have hok : ∀ y ∈ ls.map lnV, LRow n z y := fun y hy => cmp_row hRR (hls ▸ hy)
  obtain ⟨R, hR⟩ : ∃ R, matB n z k ML = R := ⟨_, rfl⟩
  have hkn : decide ((k : Int) = n) = decide ((ls.length : Int) = n) := by rw [hll]
  obtain ⟨fb, hfb⟩ : ∃ fb, decide ((k : Int) = n) = fb := ⟨_, rfl⟩
  repeat' (first | refine ls_of rfl ?_ | refine ls_of_no ?_ | refine ls_guard_yes rfl rfl ?_ | refine ls_guard_no rfl rfl rfl rfl ?_ | refine ls_guard_un rfl rfl rfl ?_ | refine o1_move rfl ?_ | refine o1_assign rfl ?_ | refine st_seq ?_ | refine st_region ?_ | refine st_block ?_ | refine st_skip ?_ | refine st_ret ?_ | refine st_exit ?_ | refine st_cond_t rfl ?_ | refine st_cond_f rfl ?_ | refine st_cond rfl (fun _ => ?_) (fun _ => ?_) | refine ls_nil ?_ | refine nx_seq ?_ | refine nx_blk ?_ | refine nx_fn ?_ | refine nx_rounds ?_ | refine xt_seq ?_ | refine xt_here ?_ | refine xt_on rfl ?_ | refine xt_rounds ?_ | refine xt_cut ?_ | refine rt_seq ?_ | refine rt_blk ?_ | refine rt_rounds ?_ | refine rt_cut ?_ | refine o1_pick_t rfl rfl ?_ | refine o1_pick_f rfl rfl ?_ | refine o1_extract rfl rfl ?_ | refine o1_fieldAddr rfl ?_ | refine ox_load rfl (by rfl) ?_ | refine ox_load_enc rfl (by first | omega | (simp; omega)) ?_ | refine ox_load_any rfl (by assumption) ?_ | refine o1_len rfl ?_ | refine o1_add rfl rfl (by omega) ?_ | refine o1_lss_t rfl rfl (by omega) ?_ | refine o1_lss_f rfl rfl (by omega) ?_ | refine o1_lss rfl rfl (fun _ => ?_) (fun _ => ?_) | refine o1_gtr_t rfl rfl (by omega) ?_ | refine o1_gtr_f rfl rfl (by omega) ?_ | refine o1_gtr rfl rfl (fun _ => ?_) (fun _ => ?_) | refine o1_eql_t rfl rfl (by omega) ?_ | refine o1_eql_f rfl rfl (by omega) ?_ | refine o1_eql rfl rfl (fun _ => ?_) (fun _ => ?_) | refine o1_neq_t rfl rfl (by omega) ?_ | refine o1_neq_f rfl rfl (by omega) ?_ | refine o1_neq rfl rfl (fun _ => ?_) (fun _ => ?_) | refine o1_bnot rfl ?_ | refine o1_unot rfl ?_ | refine o1_neqb rfl rfl ?_ | refine o1_string rfl (by rfl) rx_row ?_ | refine o1_string rfl (by rfl) (rx_any (by assumption)) ?_ | refine o1_slice_nil rfl ?_ | refine o1_nilCheck rfl ?_)
  refine st_stages [(0, _), (1, _)] rtY5_0 [1, 10, 25, 28] [⟨[0, 2, 3, 4, 5, 6], [], some 1⟩, ⟨[7, 8, 9, 11, 12, 13, 14, 15, 16, 17, 18, 19, 20], [2, 3, 4, 5, 6], some 10⟩, ⟨[21, 22, 23, 24, 27], [11, 12, 13, 14, 15, 16, 17, 18, 19, 20], some 25⟩, ⟨[26], [27], some 28⟩, ⟨[29, 30, 31], [26], none⟩] mixed (cov_cons rfl rfl (cov_cons rfl rfl cov_nil)) (by kernel_rfl) (by kernel_rfl) ?_
  all_goals refine wk_ch ?_
  all_goals (refine xp1 0 rfl rfl rfl rfl (by refine o1_move rfl fz) ?_)
  all_goals (refine xp1 1 rfl rfl rfl rfl (by refine o1_move rfl fz) ?_)
  all_goals (refine xp1 15 rfl rfl rfl rfl (by refine o1_nilCheck rfl fz) ?_)
  all_goals (refine xp1 16 rfl rfl rfl rfl (by refine o1_fieldAddr rfl fz) ?_)
  all_goals (refine xp1 17 rfl rfl rfl rfl (by first | refine ox_load_any rfl hb0 fz | refine ox_load_any rfl hb2 fz | refine ox_load rfl (by rfl) fz | refine ox_load_enc rfl (by first | omega | (simp; omega)) fz | refine ox_load_any rfl (by assumption) fz) ?_)
  all_goals (refine xp1 18 rfl rfl rfl rfl (by refine o1_len rfl fz) ?_)
  all_goals refine op_nil ?_
  all_goals refine re_nil ?_
  all_goals first | (refine ch_run (E' := [(13, _)]) rfl (gd_r0 rfl) rfl (cov_cons rfl rfl cov_nil) ?_; (first | (refine o1_call (fun _ => elim_Rank _ bm k (cl_up m1)) rfl (fun _ _ => ?_))))
  all_goals refine wk_ch ?_
  all_goals (refine xp2 14 19 rfl rfl rfl rfl rfl (by first | refine o1_neq_f rfl rfl (by omega) fz | refine o1_neq_t rfl rfl (by omega) fz | refine o1_neq_f rfl rfl (by omega) fz | refine o1_neq_d rfl rfl fz) ?_)
  all_goals (refine xp1 20 rfl rfl rfl rfl (by refine o1_move rfl fz) ?_)
  all_goals first | (refine xpo1 rfl rfl rfl rfl ?_) | (refine xpo2 rfl rfl rfl rfl ?_) | (refine xpg1 0 rfl rfl rfl rfl rfl rfl (by refine o1_move rfl fz) ?_)
  all_goals first | (refine xpo1 rfl rfl rfl rfl ?_) | (refine xpo2 rfl rfl rfl rfl ?_) | (refine xpg1 1 rfl rfl rfl rfl rfl rfl (by refine o1_move rfl fz) ?_)
  all_goals first | (refine xpo1 rfl rfl rfl rfl ?_) | (refine xpo2 rfl rfl rfl rfl ?_) | (refine xpg1 24 rfl rfl rfl rfl rfl rfl (by refine o1_nilCheck rfl fz) ?_)
  all_goals first | (refine xpo1 rfl rfl rfl rfl ?_) | (refine xpo2 rfl rfl rfl rfl ?_) | (refine xpg1 25 rfl rfl rfl rfl rfl rfl (by refine o1_fieldAddr rfl fz) ?_)
  all_goals first | (refine xpo1 rfl rfl rfl rfl ?_) | (refine xpo2 rfl rfl rfl rfl ?_) | (refine xpg1 26 rfl rfl rfl rfl rfl rfl (by first | refine ox_load_any rfl hb0 fz | refine ox_load_any rfl hb2 fz | refine ox_load rfl (by rfl) fz | refine ox_load_enc rfl (by first | omega | (simp; omega)) fz | refine ox_load_any rfl (by assumption) fz) ?_)
  all_goals first | (refine xpo1 rfl rfl rfl rfl ?_) | (refine xpo2 rfl rfl rfl rfl ?_) | (refine xpg1 27 rfl rfl rfl rfl rfl rfl (by refine o1_len rfl fz) ?_)
  all_goals first | (refine xpo1 rfl rfl rfl rfl ?_) | (refine xpo2 rfl rfl rfl rfl ?_) | (refine xpg1 1 rfl rfl rfl rfl rfl rfl (by refine o1_move rfl fz) ?_)
  all_goals first | (refine xpo1 rfl rfl rfl rfl ?_) | (refine xpo2 rfl rfl rfl rfl ?_) | (refine xpg1 29 rfl rfl rfl rfl rfl rfl (by refine o1_nilCheck rfl fz) ?_)
  all_goals first | (refine xpo1 rfl rfl rfl rfl ?_) | (refine xpo2 rfl rfl rfl rfl ?_) | (refine xpg1 30 rfl rfl rfl rfl rfl rfl (by refine o1_fieldAddr rfl fz) ?_)
  all_goals first | (refine xpo1 rfl rfl rfl rfl ?_) | (refine xpo2 rfl rfl rfl rfl ?_) | (refine xpg1 31 rfl rfl rfl rfl rfl rfl (by first | refine ox_load_any rfl hb0 fz | refine ox_load_any rfl hb2 fz | refine ox_load rfl (by rfl) fz | refine ox_load_enc rfl (by first | omega | (simp; omega)) fz | refine ox_load_any rfl (by assumption) fz) ?_)
  all_goals first | (refine xpo1 rfl rfl rfl rfl ?_) | (refine xpo2 rfl rfl rfl rfl ?_) | (refine xpg2 28 32 rfl rfl rfl rfl rfl rfl rfl (by first | ((refine o1_eql_d rfl rfl ?_; rw [← hkn, hfb]); all_goals exact fz) | refine o1_eql_t rfl rfl (by omega) fz | refine o1_eql_f rfl rfl (by omega) fz | refine o1_eql_d rfl rfl fz) ?_)
  all_goals refine op_nil ?_
  all_goals (refine xq1 1 rfl rfl rfl rfl rfl (by refine o1_move rfl fz) ?_)
  all_goals (refine xq1 15 rfl rfl rfl rfl rfl (by refine o1_nilCheck rfl fz) ?_)
  all_goals (refine xq1 16 rfl rfl rfl rfl rfl (by refine o1_fieldAddr rfl fz) ?_)
  all_goals (refine xq1 17 rfl rfl rfl rfl rfl (by first | refine ox_load_any rfl hb0 fz | refine ox_load_any rfl hb2 fz | refine ox_load rfl (by rfl) fz | refine ox_load_enc rfl (by first | omega | (simp; omega)) fz | refine ox_load_any rfl (by assumption) fz) ?_)
  all_goals (refine xq1 18 rfl rfl rfl rfl rfl (by refine o1_len rfl fz) ?_)
  all_goals refine re_nil ?_
  all_goals first | (refine ch_off rfl (by first | exact gd_o1 rfl rfl rfl | exact gd_o2 rfl rfl rfl) ?_) | (refine ch_run (E' := [(22, _)]) rfl (gd_r1 rfl rfl rfl) rfl (cov_cons rfl rfl cov_nil) ?_; (first | (refine o1_call (fun _ => elim_Full _ bm n k (cl_up m1) (cl_up m0)) rfl (fun _ _ => ?_); rw [hfb])))
  all_goals refine wk_ch ?_
  all_goals first | (refine xpo1 rfl rfl rfl rfl ?_) | (refine xpo2 rfl rfl rfl rfl ?_) | (refine xpg2 23 33 rfl rfl rfl rfl rfl rfl rfl (by first | refine o1_neqb_r (r := false) rfl rfl (by simp) fz | refine o1_neqb rfl rfl fz) ?_)
  all_goals (refine xp2 21 34 rfl rfl rfl rfl rfl (by first | refine o1_pick_t rfl rfl fz | refine o1_pick_f rfl rfl fz) ?_)
  all_goals (refine xp1 35 rfl rfl rfl rfl (by refine o1_move rfl fz) ?_)
  all_goals first | (refine xpo1 rfl rfl rfl rfl ?_) | (refine xpo2 rfl rfl rfl rfl ?_) | (refine xpg1 0 rfl rfl rfl rfl rfl rfl (by refine o1_move rfl fz) ?_)
  all_goals first | (refine xpo1 rfl rfl rfl rfl ?_) | (refine xpo2 rfl rfl rfl rfl ?_) | (refine xpg1 1 rfl rfl rfl rfl rfl rfl (by refine o1_move rfl fz) ?_)
  all_goals refine op_nil ?_
  all_goals first | (refine xqo1 rfl rfl rfl rfl rfl ?_) | (refine xqo2 rfl rfl rfl rfl rfl ?_) | (refine xqg1 1 rfl rfl rfl rfl rfl rfl rfl (by refine o1_move rfl fz) ?_)
  all_goals first | (refine xqo1 rfl rfl rfl rfl rfl ?_) | (refine xqo2 rfl rfl rfl rfl rfl ?_) | (refine xqg1 24 rfl rfl rfl rfl rfl rfl rfl (by refine o1_nilCheck rfl fz) ?_)
  all_goals first | (refine xqo1 rfl rfl rfl rfl rfl ?_) | (refine xqo2 rfl rfl rfl rfl rfl ?_) | (refine xqg1 25 rfl rfl rfl rfl rfl rfl rfl (by refine o1_fieldAddr rfl fz) ?_)
  all_goals first | (refine xqo1 rfl rfl rfl rfl rfl ?_) | (refine xqo2 rfl rfl rfl rfl rfl ?_) | (refine xqg1 26 rfl rfl rfl rfl rfl rfl rfl (by first | refine ox_load_any rfl hb0 fz | refine ox_load_any rfl hb2 fz | refine ox_load rfl (by rfl) fz | refine ox_load_enc rfl (by first | omega | (simp; omega)) fz | refine ox_load_any rfl (by assumption) fz) ?_)
  all_goals first | (refine xqo1 rfl rfl rfl rfl rfl ?_) | (refine xqo2 rfl rfl rfl rfl rfl ?_) | (refine xqg1 27 rfl rfl rfl rfl rfl rfl rfl (by refine o1_len rfl fz) ?_)
  all_goals first | (refine xqo1 rfl rfl rfl rfl rfl ?_) | (refine xqo2 rfl rfl rfl rfl rfl ?_) | (refine xqg1 1 rfl rfl rfl rfl rfl rfl rfl (by refine o1_move rfl fz) ?_)
  all_goals first | (refine xqo1 rfl rfl rfl rfl rfl ?_) | (refine xqo2 rfl rfl rfl rfl rfl ?_) | (refine xqg1 29 rfl rfl rfl rfl rfl rfl rfl (by refine o1_nilCheck rfl fz) ?_)
  all_goals first | (refine xqo1 rfl rfl rfl rfl rfl ?_) | (refine xqo2 rfl rfl rfl rfl rfl ?_) | (refine xqg1 30 rfl rfl rfl rfl rfl rfl rfl (by refine o1_fieldAddr rfl fz) ?_)
  all_goals first | (refine xqo1 rfl rfl rfl rfl rfl ?_) | (refine xqo2 rfl rfl rfl rfl rfl ?_) | (refine xqg1 31 rfl rfl rfl rfl rfl rfl rfl (by first | refine ox_load_any rfl hb0 fz | refine ox_load_any rfl hb2 fz | refine ox_load rfl (by rfl) fz | refine ox_load_enc rfl (by first | omega | (simp; omega)) fz | refine ox_load_any rfl (by assumption) fz) ?_)
  all_goals first | (refine xqo1 rfl rfl rfl rfl rfl ?_) | (refine xqo2 rfl rfl rfl rfl rfl ?_) | (refine xqg2 28 32 rfl rfl rfl rfl rfl rfl rfl rfl (by first | ((refine o1_eql_d rfl rfl ?_; rw [← hkn, hfb]); all_goals exact fz) | refine o1_eql_t rfl rfl (by omega) fz | refine o1_eql_f rfl rfl (by omega) fz | refine o1_eql_d rfl rfl fz) ?_)
  all_goals refine re_nil ?_
  all_goals first | (refine ch_off rfl (by first | exact gd_o1 rfl rfl rfl | exact gd_o2 rfl rfl rfl) ?_) | (refine ch_run (E' := [(37, _)]) rfl (gd_r1 rfl rfl rfl) rfl (cov_cons rfl rfl cov_nil) ?_; (first | (refine o1_call (fun _ => elim_Bytes _ bm n z ar cr k M ML R hM.up hML hR (by omega)) rfl (fun ⟨a38, c38⟩ _ => ?_); dsimp only)))
  all_goals refine wk_ch ?_
  all_goals first | (refine xpo1 rfl rfl rfl rfl ?_) | (refine xpo2 rfl rfl rfl rfl ?_) | (refine xpg1 38 rfl rfl rfl rfl rfl rfl (by first | refine o1_string (ad := a38) (c := c38) (xs := R) rfl rfl rx_row fz | refine o1_string (ad := a41) (c := c41) (xs := R) rfl rfl rx_row fz | refine o1_string rfl (by rfl) rx_row fz | refine o1_string rfl (by rfl) (rx_any (by assumption)) fz) ?_)
  all_goals refine op_nil ?_
  all_goals first | (refine xqo1 rfl rfl rfl rfl rfl ?_) | (refine xqo2 rfl rfl rfl rfl rfl ?_) | (refine xqg1 1 rfl rfl rfl rfl rfl rfl rfl (by refine o1_move rfl fz) ?_)
  all_goals refine re_nil ?_
  all_goals first | (refine ch_off rfl (by first | exact gd_o1 rfl rfl rfl | exact gd_o2 rfl rfl rfl) ?_) | (refine ch_run (E' := [(40, _)]) rfl (gd_r1 rfl rfl rfl) rfl (cov_cons rfl rfl cov_nil) ?_; (first | (refine o1_call (fun hh => r1_MBytes _ b n z ad c ls k ML R (cl_up hb0) (cl_up hb1) (cl_up hb2) (hL.mono Gr.of) hls hRR hn hz hll hR) rfl (fun ⟨a41, c41⟩ _ => ?_); dsimp only)))
  all_goals refine wk_end ?_
  all_goals first | (refine xpo1 rfl rfl rfl rfl ?_) | (refine xpo2 rfl rfl rfl rfl ?_) | (refine xpg1 41 rfl rfl rfl rfl rfl rfl (by first | refine o1_string (ad := a38) (c := c38) (xs := R) rfl rfl rx_row fz | refine o1_string (ad := a41) (c := c41) (xs := R) rfl rfl rx_row fz | refine o1_string rfl (by rfl) rx_row fz | refine o1_string rfl (by rfl) (rx_any (by assumption)) fz) ?_)
  all_goals first | (refine xpo1 rfl rfl rfl rfl ?_) | (refine xpo2 rfl rfl rfl rfl ?_) | (refine xpg2 39 42 rfl rfl rfl rfl rfl rfl rfl (by first | refine o1_strneq_r (a := R) (b := R) (r := false) rfl rfl (by simp) fz | refine o1_strneq_d rfl rfl fz) ?_)
  all_goals (refine xp2 36 43 rfl rfl rfl rfl rfl (by first | refine o1_pick_t rfl rfl fz | refine o1_pick_f rfl rfl fz) ?_)
  all_goals refine op_nil ?_
  all_goals first | (refine xqo1 rfl rfl rfl rfl rfl ?_) | (refine xqo2 rfl rfl rfl rfl rfl ?_) | (refine xqg1 38 rfl rfl rfl rfl rfl rfl rfl (by first | refine o1_string (ad := a38) (c := c38) (xs := R) rfl rfl rx_row fz | refine o1_string (ad := a41) (c := c41) (xs := R) rfl rfl rx_row fz | refine o1_string rfl (by rfl) rx_row fz | refine o1_string rfl (by rfl) (rx_any (by assumption)) fz) ?_)
  all_goals refine re_nil ?_
  all_goals dsimp only [List.cons_append, List.nil_append]
  repeat' (first | refine ls_of rfl ?_ | refine ls_of_no ?_ | refine ls_guard_yes rfl rfl ?_ | refine ls_guard_no rfl rfl rfl rfl ?_ | refine ls_guard_un rfl rfl rfl ?_ | refine o1_move rfl ?_ | refine o1_assign rfl ?_ | refine st_seq ?_ | refine st_region ?_ | refine st_block ?_ | refine st_skip ?_ | refine st_ret ?_ | refine st_exit ?_ | refine st_cond_t rfl ?_ | refine st_cond_f rfl ?_ | refine st_cond rfl (fun _ => ?_) (fun _ => ?_) | refine ls_nil ?_ | refine nx_seq ?_ | refine nx_blk ?_ | refine nx_fn ?_ | refine nx_rounds ?_ | refine xt_seq ?_ | refine xt_here ?_ | refine xt_on rfl ?_ | refine xt_rounds ?_ | refine xt_cut ?_ | refine rt_seq ?_ | refine rt_blk ?_ | refine rt_rounds ?_ | refine rt_cut ?_ | refine ox_load_any rfl hb0 ?_ | refine o1_pick_t rfl rfl ?_ | refine o1_pick_f rfl rfl ?_ | refine o1_extract rfl rfl ?_ | refine o1_fieldAddr rfl ?_ | refine ox_load rfl (by rfl) ?_ | refine ox_load_enc rfl (by first | omega | (simp; omega)) ?_ | refine ox_load_any rfl (by assumption) ?_ | refine o1_len rfl ?_ | refine o1_add rfl rfl (by omega) ?_ | refine o1_lss_t rfl rfl (by omega) ?_ | refine o1_lss_f rfl rfl (by omega) ?_ | refine o1_lss rfl rfl (fun _ => ?_) (fun _ => ?_) | refine o1_gtr_t rfl rfl (by omega) ?_ | refine o1_gtr_f rfl rfl (by omega) ?_ | refine o1_gtr rfl rfl (fun _ => ?_) (fun _ => ?_) | refine o1_eql_t rfl rfl (by omega) ?_ | refine o1_eql_f rfl rfl (by omega) ?_ | refine o1_eql rfl rfl (fun _ => ?_) (fun _ => ?_) | refine o1_neq_t rfl rfl (by omega) ?_ | refine o1_neq_f rfl rfl (by omega) ?_ | refine o1_neq rfl rfl (fun _ => ?_) (fun _ => ?_) | refine o1_bnot rfl ?_ | refine o1_unot rfl ?_ | refine o1_neqb rfl rfl ?_ | refine o1_string rfl (by rfl) rx_row ?_ | refine o1_string rfl (by rfl) (rx_any (by assumption)) ?_ | refine o1_slice_nil rfl ?_ | refine o1_nilCheck rfl ?_)
  refine st_loop (S := Nat) (fun i => [(0, .pointer (some ⟨bm, 0, none⟩)), (1, .pointer (some ⟨b, 0, none⟩)), (5, I (cntS (ML.take i))), (48, I n), (49, I i)]) (fun _ => [.any (stars H)]) (fun i => i ≤ n) (fun i => n - i) 0 (Nat.zero_le _)
    (cov_cons rfl rfl (cov_cons rfl rfl (cov_cons rfl rfl (cov_cons rfl rfl (cov_cons rfl rfl cov_nil))))) (by (try dsimp only [List.cons_append, List.nil_append, List.singleton_append, List.append_nil]); (repeat (first | exact Ent.nil | exact Ent.refl _ | (apply Ent.cons; (repeat (first | exact Sel.here | apply Sel.there)))))) ?_
  intro i hi
  by_cases hlt : i < n
  · have hiM : i < M.length := by rw [hM.ok.len]; exact hlt
    have hiL : i < ML.length := by omega
    have hvi : ML[i] = vw M[i] := by subst hML; simp
    have hMg : M[i]? = some M[i] := List.getElem?_eq_getElem hiM
    have hct : cntS (ML.take (i + 1)) = cntS (ML.take i) + (match ML[i] with | none => 0 | some _ => 1) := by
      rw [List.take_succ_eq_append_getElem hiL, cntS_append]
      cases ML[i] <;> rfl
    have hcl : cntS (ML.take i) ≤ k := by
      have h1 : cntS ML = cntS (ML.take i) + cntS (ML.drop i) := by rw [← cntS_append, List.take_append_drop]
      omega
    obtain ⟨p1, p2⟩ := cmp_at hRR hiL
    obtain ⟨a, ha⟩ : ∃ a, cntS (ML.take i) = a := ⟨_, rfl⟩
    rw [ha] at hct hcl p1 p2 ⊢
    have hag : ∀ y : LnD, ls[a]? = some y → (cmp ML)[a]? = some (lnV y) := fun y hy => by rw [← hls, List.getElem?_map, hy]; rfl
    cases ho : M[i] with
    | some q =>
      rw [ho] at hMg hvi
      have hvi : ML[i] = some (q.v.l, q.d) := hvi
      rw [hvi] at hct
      have hct : cntS (ML.take (i + 1)) = a + 1 := hct
      obtain ⟨p3, p4⟩ := p1 _ hvi
      obtain ⟨y, hy, hye⟩ : ∃ y, ls[a]? = some y ∧ lnV y = (q.v.l, q.d) := by
        rw [← hls, List.getElem?_map] at p3
        cases hq : ls[a]? with
        | none => rw [hq] at p3; cases p3
        | some y => rw [hq] at p3; exact ⟨y, rfl, Option.some.inj p3⟩
      have hal : a < ls.length := (List.getElem?_eq_some_iff.1 hy).1
      have hym : y ∈ ls := List.mem_of_getElem? hy
      obtain ⟨hxv, hxd, q1, q2⟩ := hL.x y hym
      obtain ⟨e1, e2⟩ := Prod.mk.inj (show (y.v.l, y.d.l) = (q.v.l, q.d) from hye)
      have hfy : firstV y.v.l = i := by rw [e1]; exact p4
      have hqm : some q ∈ M := List.mem_of_getElem? hMg
      obtain ⟨hq1, hq2, hq3⟩ := hM.ok.ok q hqm
      obtain ⟨D, hD⟩ : ∃ D, y.d.l = D := ⟨_, rfl⟩
      have hDl : D.length = z := hD ▸ q2
      have f0 := hr.at0 hy
      have f1 := hr.at1 hy
      repeat' (first | refine ls_of rfl ?_ | refine ls_of_no ?_ | refine ls_guard_yes rfl rfl ?_ | refine ls_guard_no rfl rfl rfl rfl ?_ | refine ls_guard_un rfl rfl rfl ?_ | refine o1_move rfl ?_ | refine o1_assign rfl ?_ | refine st_seq ?_ | refine st_region ?_ | refine st_block ?_ | refine st_skip ?_ | refine st_ret ?_ | refine st_exit ?_ | refine st_cond_t rfl ?_ | refine st_cond_f rfl ?_ | refine st_cond rfl (fun _ => ?_) (fun _ => ?_) | refine ls_nil ?_ | refine nx_seq ?_ | refine nx_blk ?_ | refine nx_fn ?_ | refine nx_rounds ?_ | refine xt_seq ?_ | refine xt_here ?_ | refine xt_on rfl ?_ | refine xt_rounds ?_ | refine xt_cut ?_ | refine rt_seq ?_ | refine rt_blk ?_ | refine rt_rounds ?_ | refine rt_cut ?_ | (refine o1_call (fun _ => elim_Row _ bm n z ar cr k M i q hM.up hlt hMg) rfl (fun ⟨⟨b55, a55, c55⟩, ⟨a56, c56⟩⟩ _ => ?_); dsimp only; rw [← e2, hD]) | refine ox_load_any rfl hb2 ?_ | refine o1_iaw (f := fV n) (g := fD z) (ad := ad) (c := c) a rfl rfl hr rfl rfl hal ?_ | refine o1_fieldAddr_w (p := idxA ad (a * 2)) rfl ?_ | refine ox_load_any rfl f0 ?_ | refine o1_call (fun _ => (r1_First _ y.v.ad n y.v.cap y.v.l (Rs.up hxv) q1.symm).vv (b := I i) (by rw [hfy])) rfl (fun _ _ => ?_) | refine o1_pick_t rfl rfl ?_ | refine o1_pick_f rfl rfl ?_ | refine o1_extract rfl rfl ?_ | refine o1_fieldAddr rfl ?_ | refine ox_load rfl (by rfl) ?_ | refine ox_load_enc rfl (by first | omega | (simp; omega)) ?_ | refine ox_load_any rfl (by assumption) ?_ | refine o1_len rfl ?_ | refine o1_add rfl rfl (by omega) ?_ | refine o1_lss_t rfl rfl (by omega) ?_ | refine o1_lss_f rfl rfl (by omega) ?_ | refine o1_lss rfl rfl (fun _ => ?_) (fun _ => ?_) | refine o1_gtr_t rfl rfl (by omega) ?_ | refine o1_gtr_f rfl rfl (by omega) ?_ | refine o1_gtr rfl rfl (fun _ => ?_) (fun _ => ?_) | refine o1_eql_t rfl rfl (by omega) ?_ | refine o1_eql_f rfl rfl (by omega) ?_ | refine o1_eql rfl rfl (fun _ => ?_) (fun _ => ?_) | refine o1_neq_t rfl rfl (by omega) ?_ | refine o1_neq_f rfl rfl (by omega) ?_ | refine o1_neq rfl rfl (fun _ => ?_) (fun _ => ?_) | refine o1_bnot rfl ?_ | refine o1_unot rfl ?_ | refine o1_neqb rfl rfl ?_ | refine o1_string rfl (by rfl) rx_row ?_ | refine o1_string rfl (by rfl) (rx_any (by assumption)) ?_ | refine o1_slice_nil rfl ?_ | refine o1_nilCheck rfl ?_)
      refine st_stages [(9, _), (7, _), (1, _), (5, _), (8, _)] rtY5_1 [12] [⟨[0, 1, 2, 3, 4, 5, 6, 7, 8, 9, 10, 11], [], some 12⟩, ⟨[13, 14, 15, 16, 17, 18, 19, 20, 21, 22, 23, 24, 25, 26, 27, 28], [], none⟩] mixed (cov_cons rfl rfl (cov_cons rfl rfl (cov_cons rfl rfl (cov_cons rfl rfl (cov_cons rfl rfl cov_nil))))) (by kernel_rfl) (by kernel_rfl) ?_
      all_goals refine wk_ch ?_
      all_goals (refine xp1 9 rfl rfl rfl rfl (by refine o1_move rfl fz) ?_)
      all_goals (refine xp1 79 rfl rfl rfl rfl (by first | refine o1_bnot rfl fz | refine o1_unot rfl fz) ?_)
      all_goals (refine xp1 80 rfl rfl rfl rfl (by refine o1_move rfl fz) ?_)
      all_goals first | (refine xpo1 rfl rfl rfl rfl ?_) | (refine xpo2 rfl rfl rfl rfl ?_) | (refine xpg1 7 rfl rfl rfl rfl rfl rfl (by refine o1_move rfl fz) ?_)
      all_goals first | (refine xpo1 rfl rfl rfl rfl ?_) | (refine xpo2 rfl rfl rfl rfl ?_) | (refine xpg1 1 rfl rfl rfl rfl rfl rfl (by refine o1_move rfl fz) ?_)
      all_goals first | (refine xpo1 rfl rfl rfl rfl ?_) | (refine xpo2 rfl rfl rfl rfl ?_) | (refine xpg1 83 rfl rfl rfl rfl rfl rfl (by refine o1_nilCheck rfl fz) ?_)
      all_goals first | (refine xpo1 rfl rfl rfl rfl ?_) | (refine xpo2 rfl rfl rfl rfl ?_) | (refine xpg1 84 rfl rfl rfl rfl rfl rfl (by first | refine o1_fieldAddr_w (p := idxA ad (a * 2)) rfl fz | refine o1_fieldAddr rfl fz) ?_)
      all_goals first | (refine xpo1 rfl rfl rfl rfl ?_) | (refine xpo2 rfl rfl rfl rfl ?_) | (refine xpg1 85 rfl rfl rfl rfl rfl rfl (by first | refine ox_load_any rfl hb2 fz | refine ox_load_any rfl f0 fz | refine ox_load_any rfl f1 fz | refine ox_load rfl (by rfl) fz | refine ox_load_enc rfl (by first | omega | (simp; omega)) fz | refine ox_load_any rfl (by assumption) fz) ?_)
      all_goals first | (refine xpo1 rfl rfl rfl rfl ?_) | (refine xpo2 rfl rfl rfl rfl ?_) | (refine xpg1 5 rfl rfl rfl rfl rfl rfl (by refine o1_move rfl fz) ?_)
      all_goals first | (refine xpo1 rfl rfl rfl rfl ?_) | (refine xpo2 rfl rfl rfl rfl ?_) | (refine xpg2 86 87 rfl rfl rfl rfl rfl rfl rfl (by refine o1_iaw (f := fV n) (g := fD z) (ad := ad) (c := c) a rfl rfl hr rfl rfl hal fz) ?_)
      all_goals first | (refine xpo1 rfl rfl rfl rfl ?_) | (refine xpo2 rfl rfl rfl rfl ?_) | (refine xpg1 88 rfl rfl rfl rfl rfl rfl (by first | refine o1_fieldAddr_w (p := idxA ad (a * 2)) rfl fz | refine o1_fieldAddr rfl fz) ?_)
      all_goals first | (refine xpo1 rfl rfl rfl rfl ?_) | (refine xpo2 rfl rfl rfl rfl ?_) | (refine xpg1 89 rfl rfl rfl rfl rfl rfl (by first | refine ox_load_any rfl hb2 fz | refine ox_load_any rfl f0 fz | refine ox_load_any rfl f1 fz | refine ox_load rfl (by rfl) fz | refine ox_load_enc rfl (by first | omega | (simp; omega)) fz | refine ox_load_any rfl (by assumption) fz) ?_)
      all_goals refine op_nil ?_
      all_goals refine re_nil ?_
      all_goals first | (refine ch_off rfl (by first | exact gd_o1 rfl rfl rfl | exact gd_o2 rfl rfl rfl) ?_) | (refine ch_run (E' := [(82, _), (90, _)]) rfl (gd_r1 rfl rfl rfl) rfl (cov_cons rfl rfl (cov_cons rfl rfl cov_nil)) ?_; (first | (refine o1_call (fun hh => law5_Like _ ⟨b55, n, a55, c55, q.v.l⟩ y.v.ad n y.v.cap y.v.l (RdV.own (by rw [← e1]; exact q1) hn hh) (Rs.up hxv) q1.symm e1.symm ht.up) rfl (fun _ _ => ?_))))
      all_goals refine wk_end ?_
      all_goals first | (refine xpo1 rfl rfl rfl rfl ?_) | (refine xpo2 rfl rfl rfl rfl ?_) | (refine xpg1 91 rfl rfl rfl rfl rfl rfl (by first | refine o1_gtr_t rfl rfl (by omega) fz | refine o1_gtr_f rfl rfl (by omega) fz | refine o1_gtr_d rfl rfl fz) ?_)
      all_goals (refine xp2 81 92 rfl rfl rfl rfl rfl (by first | refine o1_pick_t rfl rfl fz | refine o1_pick_f rfl rfl fz) ?_)
      all_goals (refine xp1 93 rfl rfl rfl rfl (by refine o1_move rfl fz) ?_)
      all_goals first | (refine xpo1 rfl rfl rfl rfl ?_) | (refine xpo2 rfl rfl rfl rfl ?_) | (refine xpg1 8 rfl rfl rfl rfl rfl rfl (by refine o1_move rfl fz) ?_)
      all_goals first | (refine xpo1 rfl rfl rfl rfl ?_) | (refine xpo2 rfl rfl rfl rfl ?_) | (refine xpg1 95 rfl rfl rfl rfl rfl rfl (by first | refine o1_string (ad := a56) (c := c56) (xs := D) rfl hDl.symm rx_row fz | refine o1_string (ad := y.d.ad) (c := y.d.cap) (xs := D) rfl hDl.symm (rx_any (hD ▸ hxd)) fz | refine o1_string rfl (by rfl) rx_row fz | refine o1_string rfl (by rfl) (rx_any (by assumption)) fz) ?_)
      all_goals first | (refine xpo1 rfl rfl rfl rfl ?_) | (refine xpo2 rfl rfl rfl rfl ?_) | (refine xpg1 1 rfl rfl rfl rfl rfl rfl (by refine o1_move rfl fz) ?_)
      all_goals first | (refine xpo1 rfl rfl rfl rfl ?_) | (refine xpo2 rfl rfl rfl rfl ?_) | (refine xpg1 97 rfl rfl rfl rfl rfl rfl (by refine o1_nilCheck rfl fz) ?_)
      all_goals first | (refine xpo1 rfl rfl rfl rfl ?_) | (refine xpo2 rfl rfl rfl rfl ?_) | (refine xpg1 98 rfl rfl rfl rfl rfl rfl (by first | refine o1_fieldAddr_w (p := idxA ad (a * 2)) rfl fz | refine o1_fieldAddr rfl fz) ?_)
      all_goals first | (refine xpo1 rfl rfl rfl rfl ?_) | (refine xpo2 rfl rfl rfl rfl ?_) | (refine xpg1 99 rfl rfl rfl rfl rfl rfl (by first | refine ox_load_any rfl hb2 fz | refine ox_load_any rfl f0 fz | refine ox_load_any rfl f1 fz | refine ox_load rfl (by rfl) fz | refine ox_load_enc rfl (by first | omega | (simp; omega)) fz | refine ox_load_any rfl (by assumption) fz) ?_)
      all_goals first | (refine xpo1 rfl rfl rfl rfl ?_) | (refine xpo2 rfl rfl rfl rfl ?_) | (refine xpg1 5 rfl rfl rfl rfl rfl rfl (by refine o1_move rfl fz) ?_)
      all_goals first | (refine xpo1 rfl rfl rfl rfl ?_) | (refine xpo2 rfl rfl rfl rfl ?_) | (refine xpg2 100 101 rfl rfl rfl rfl rfl rfl rfl (by refine o1_iaw (f := fV n) (g := fD z) (ad := ad) (c := c) a rfl rfl hr rfl rfl hal fz) ?_)
      all_goals first | (refine xpo1 rfl rfl rfl rfl ?_) | (refine xpo2 rfl rfl rfl rfl ?_) | (refine xpg1 102 rfl rfl rfl rfl rfl rfl (by first | refine o1_fieldAddr_w (p := idxA ad (a * 2)) rfl fz | refine o1_fieldAddr rfl fz) ?_)
      all_goals first | (refine xpo1 rfl rfl rfl rfl ?_) | (refine xpo2 rfl rfl rfl rfl ?_) | (refine xpg1 103 rfl rfl rfl rfl rfl rfl (by first | refine ox_load_any rfl hb2 fz | refine ox_load_any rfl f0 fz | refine ox_load_any rfl f1 fz | refine ox_load rfl (by rfl) fz | refine ox_load_enc rfl (by first | omega | (simp; omega)) fz | refine ox_load_any rfl (by assumption) fz) ?_)
      all_goals first | (refine xpo1 rfl rfl rfl rfl ?_) | (refine xpo2 rfl rfl rfl rfl ?_) | (refine xpg1 104 rfl rfl rfl rfl rfl rfl (by first | refine o1_string (ad := a56) (c := c56) (xs := D) rfl hDl.symm rx_row fz | refine o1_string (ad := y.d.ad) (c := y.d.cap) (xs := D) rfl hDl.symm (rx_any (hD ▸ hxd)) fz | refine o1_string rfl (by rfl) rx_row fz | refine o1_string rfl (by rfl) (rx_any (by assumption)) fz) ?_)
      all_goals first | (refine xpo1 rfl rfl rfl rfl ?_) | (refine xpo2 rfl rfl rfl rfl ?_) | (refine xpg2 96 105 rfl rfl rfl rfl rfl rfl rfl (by first | refine o1_strneq_r (a := D) (b := D) (r := false) rfl rfl (by simp) fz | refine o1_strneq_d rfl rfl fz) ?_)
      all_goals (refine xp2 94 106 rfl rfl rfl rfl rfl (by first | refine o1_pick_t rfl rfl fz | refine o1_pick_f rfl rfl fz) ?_)
      all_goals refine op_nil ?_
      all_goals refine re_nil ?_
      all_goals dsimp only [List.cons_append, List.nil_append]
      repeat' (first | refine ls_of rfl ?_ | refine ls_of_no ?_ | refine ls_guard_yes rfl rfl ?_ | refine ls_guard_no rfl rfl rfl rfl ?_ | refine ls_guard_un rfl rfl rfl ?_ | refine o1_move rfl ?_ | refine o1_assign rfl ?_ | refine st_seq ?_ | refine st_region ?_ | refine st_block ?_ | refine st_skip ?_ | refine st_ret ?_ | refine st_exit ?_ | refine st_cond_t rfl ?_ | refine st_cond_f rfl ?_ | refine st_cond rfl (fun _ => ?_) (fun _ => ?_) | refine ls_nil ?_ | refine nx_seq ?_ | refine nx_blk ?_ | refine nx_fn ?_ | refine nx_rounds ?_ | refine xt_seq ?_ | refine xt_here ?_ | refine xt_on rfl ?_ | refine xt_rounds ?_ | refine xt_cut ?_ | refine rt_seq ?_ | refine rt_blk ?_ | refine rt_rounds ?_ | refine rt_cut ?_ | refine o1_pick_t rfl rfl ?_ | refine o1_pick_f rfl rfl ?_ | refine o1_extract rfl rfl ?_ | refine o1_fieldAddr rfl ?_ | refine ox_load rfl (by rfl) ?_ | refine ox_load_enc rfl (by first | omega | (simp; omega)) ?_ | refine ox_load_any rfl (by assumption) ?_ | refine o1_len rfl ?_ | refine o1_add rfl rfl (by omega) ?_ | refine o1_lss_t rfl rfl (by omega) ?_ | refine o1_lss_f rfl rfl (by omega) ?_ | refine o1_lss rfl rfl (fun _ => ?_) (fun _ => ?_) | refine o1_gtr_t rfl rfl (by omega) ?_ | refine o1_gtr_f rfl rfl (by omega) ?_ | refine o1_gtr rfl rfl (fun _ => ?_) (fun _ => ?_) | refine o1_eql_t rfl rfl (by omega) ?_ | refine o1_eql_f rfl rfl (by omega) ?_ | refine o1_eql rfl rfl (fun _ => ?_) (fun _ => ?_) | refine o1_neq_t rfl rfl (by omega) ?_ | refine o1_neq_f rfl rfl (by omega) ?_ | refine o1_neq rfl rfl (fun _ => ?_) (fun _ => ?_) | refine o1_bnot rfl ?_ | refine o1_unot rfl ?_ | refine o1_neqb rfl rfl ?_ | refine o1_string rfl (by rfl) rx_row ?_ | refine o1_string rfl (by rfl) (rx_any (by assumption)) ?_ | refine o1_slice_nil rfl ?_ | refine o1_nilCheck rfl ?_)
      refine nx_again (i + 1) (by omega) (by omega) (cov_cons rfl rfl (cov_cons rfl rfl (cov_cons rfl (by rw [hct]; rfl) (cov_cons rfl rfl (cov_cons rfl rfl cov_nil))))) ?_
      (try dsimp only [List.cons_append, List.nil_append, List.singleton_append, List.append_nil]); (repeat (first | exact Ent.nil | exact Ent.refl _ | (apply Ent.cons; (repeat (first | exact Sel.here | apply Sel.there)))))
    | none =>
      rw [ho] at hMg hvi
      have hvi : ML[i] = none := hvi
      rw [hvi] at hct
      have hct : cntS (ML.take (i + 1)) = a := hct
      by_cases hal : a < ls.length
      · obtain ⟨y, hy⟩ : ∃ y, ls[a]? = some y := ⟨_, List.getElem?_eq_getElem hal⟩
        have hym : y ∈ ls := List.mem_of_getElem? hy
        obtain ⟨hxv, hxd, q1, q2⟩ := hL.x y hym
        obtain ⟨_, _, g, hg, hgn⟩ := hok (lnV y) (List.mem_map_of_mem hym)
        have hg : firstV y.v.l = g := hg
        have hgi : g ≠ i := fun e => p2 hvi _ (hag y hy) (by show firstV y.v.l = _; rw [hg, e])
        have f0 := hr.at0 hy
        repeat' (first | refine ls_of rfl ?_ | refine ls_of_no ?_ | refine ls_guard_yes rfl rfl ?_ | refine ls_guard_no rfl rfl rfl rfl ?_ | refine ls_guard_un rfl rfl rfl ?_ | refine o1_move rfl ?_ | refine o1_assign rfl ?_ | refine st_seq ?_ | refine st_region ?_ | refine st_block ?_ | refine st_skip ?_ | refine st_ret ?_ | refine st_exit ?_ | refine st_cond_t rfl ?_ | refine st_cond_f rfl ?_ | refine st_cond rfl (fun _ => ?_) (fun _ => ?_) | refine ls_nil ?_ | refine nx_seq ?_ | refine nx_blk ?_ | refine nx_fn ?_ | refine nx_rounds ?_ | refine xt_seq ?_ | refine xt_here ?_ | refine xt_on rfl ?_ | refine xt_rounds ?_ | refine xt_cut ?_ | refine rt_seq ?_ | refine rt_blk ?_ | refine rt_rounds ?_ | refine rt_cut ?_ | (refine o1_call (fun _ => elim_Row_none _ bm n z ar cr k M i hM.up hlt hMg) rfl (fun _ _ => ?_)) | refine ox_load_any rfl hb2 ?_ | refine o1_iaw (f := fV n) (g := fD z) (ad := ad) (c := c) a rfl rfl hr rfl rfl hal ?_ | refine o1_fieldAddr_w (p := idxA ad (a * 2)) rfl ?_ | refine ox_load_any rfl f0 ?_ | refine o1_call (fun _ => (r1_First _ y.v.ad n y.v.cap y.v.l (Rs.up hxv) q1.symm).vv (b := I g) (by rw [hg])) rfl (fun _ _ => ?_) | refine o1_eql_f rfl rfl (by omega) ?_ | refine o1_pneq rfl rfl ?_ | refine o1_pick_t rfl rfl ?_ | refine o1_pick_f rfl rfl ?_ | refine o1_extract rfl rfl ?_ | refine o1_fieldAddr rfl ?_ | refine ox_load rfl (by rfl) ?_ | refine ox_load_enc rfl (by first | omega | (simp; omega)) ?_ | refine ox_load_any rfl (by assumption) ?_ | refine o1_len rfl ?_ | refine o1_add rfl rfl (by omega) ?_ | refine o1_lss_t rfl rfl (by omega) ?_ | refine o1_lss_f rfl rfl (by omega) ?_ | refine o1_lss rfl rfl (fun _ => ?_) (fun _ => ?_) | refine o1_gtr_t rfl rfl (by omega) ?_ | refine o1_gtr_f rfl rfl (by omega) ?_ | refine o1_gtr rfl rfl (fun _ => ?_) (fun _ => ?_) | refine o1_eql_t rfl rfl (by omega) ?_ | refine o1_eql_f rfl rfl (by omega) ?_ | refine o1_eql rfl rfl (fun _ => ?_) (fun _ => ?_) | refine o1_neq_t rfl rfl (by omega) ?_ | refine o1_neq_f rfl rfl (by omega) ?_ | refine o1_neq rfl rfl (fun _ => ?_) (fun _ => ?_) | refine o1_bnot rfl ?_ | refine o1_unot rfl ?_ | refine o1_neqb rfl rfl ?_ | refine o1_string rfl (by rfl) rx_row ?_ | refine o1_string rfl (by rfl) (rx_any (by assumption)) ?_ | refine o1_slice_nil rfl ?_ | refine o1_nilCheck rfl ?_)
        refine nx_again (i + 1) (by omega) (by omega) (cov_cons rfl rfl (cov_cons rfl rfl (cov_cons rfl (by rw [hct]) (cov_cons rfl rfl (cov_cons rfl rfl cov_nil))))) ?_
        (try dsimp only [List.cons_append, List.nil_append, List.singleton_append, List.append_nil]); (repeat (first | exact Ent.nil | exact Ent.refl _ | (apply Ent.cons; (repeat (first | exact Sel.here | apply Sel.there)))))
      · repeat' (first | refine ls_of rfl ?_ | refine ls_of_no ?_ | refine ls_guard_yes rfl rfl ?_ | refine ls_guard_no rfl rfl rfl rfl ?_ | refine ls_guard_un rfl rfl rfl ?_ | refine o1_move rfl ?_ | refine o1_assign rfl ?_ | refine st_seq ?_ | refine st_region ?_ | refine st_block ?_ | refine st_skip ?_ | refine st_ret ?_ | refine st_exit ?_ | refine st_cond_t rfl ?_ | refine st_cond_f rfl ?_ | refine st_cond rfl (fun _ => ?_) (fun _ => ?_) | refine ls_nil ?_ | refine nx_seq ?_ | refine nx_blk ?_ | refine nx_fn ?_ | refine nx_rounds ?_ | refine xt_seq ?_ | refine xt_here ?_ | refine xt_on rfl ?_ | refine xt_rounds ?_ | refine xt_cut ?_ | refine rt_seq ?_ | refine rt_blk ?_ | refine rt_rounds ?_ | refine rt_cut ?_ | (refine o1_call (fun _ => elim_Row_none _ bm n z ar cr k M i hM.up hlt hMg) rfl (fun _ _ => ?_)) | refine ox_load_any rfl hb2 ?_ | refine o1_pneq rfl rfl ?_ | refine o1_pick_t rfl rfl ?_ | refine o1_pick_f rfl rfl ?_ | refine o1_extract rfl rfl ?_ | refine o1_fieldAddr rfl ?_ | refine ox_load rfl (by rfl) ?_ | refine ox_load_enc rfl (by first | omega | (simp; omega)) ?_ | refine ox_load_any rfl (by assumption) ?_ | refine o1_len rfl ?_ | refine o1_add rfl rfl (by omega) ?_ | refine o1_lss_t rfl rfl (by omega) ?_ | refine o1_lss_f rfl rfl (by omega) ?_ | refine o1_lss rfl rfl (fun _ => ?_) (fun _ => ?_) | refine o1_gtr_t rfl rfl (by omega) ?_ | refine o1_gtr_f rfl rfl (by omega) ?_ | refine o1_gtr rfl rfl (fun _ => ?_) (fun _ => ?_) | refine o1_eql_t rfl rfl (by omega) ?_ | refine o1_eql_f rfl rfl (by omega) ?_ | refine o1_eql rfl rfl (fun _ => ?_) (fun _ => ?_) | refine o1_neq_t rfl rfl (by omega) ?_ | refine o1_neq_f rfl rfl (by omega) ?_ | refine o1_neq rfl rfl (fun _ => ?_) (fun _ => ?_) | refine o1_bnot rfl ?_ | refine o1_unot rfl ?_ | refine o1_neqb rfl rfl ?_ | refine o1_string rfl (by rfl) rx_row ?_ | refine o1_string rfl (by rfl) (rx_any (by assumption)) ?_ | refine o1_slice_nil rfl ?_ | refine o1_nilCheck rfl ?_)
        refine nx_again (i + 1) (by omega) (by omega) (cov_cons rfl rfl (cov_cons rfl rfl (cov_cons rfl (by rw [hct]) (cov_cons rfl rfl (cov_cons rfl rfl cov_nil))))) ?_
        (try dsimp only [List.cons_append, List.nil_append, List.singleton_append, List.append_nil]); (repeat (first | exact Ent.nil | exact Ent.refl _ | (apply Ent.cons; (repeat (first | exact Sel.here | apply Sel.there)))))
  · have : i = n := by omega
    subst this
    repeat' (first | refine ls_of rfl ?_ | refine ls_of_no ?_ | refine ls_guard_yes rfl rfl ?_ | refine ls_guard_no rfl rfl rfl rfl ?_ | refine ls_guard_un rfl rfl rfl ?_ | refine o1_move rfl ?_ | refine o1_assign rfl ?_ | refine st_seq ?_ | refine st_region ?_ | refine st_block ?_ | refine st_skip ?_ | refine st_ret ?_ | refine st_exit ?_ | refine st_cond_t rfl ?_ | refine st_cond_f rfl ?_ | refine st_cond rfl (fun _ => ?_) (fun _ => ?_) | refine ls_nil ?_ | refine nx_seq ?_ | refine nx_blk ?_ | refine nx_fn ?_ | refine nx_rounds ?_ | refine xt_seq ?_ | refine xt_here ?_ | refine xt_on rfl ?_ | refine xt_rounds ?_ | refine xt_cut ?_ | refine rt_seq ?_ | refine rt_blk ?_ | refine rt_rounds ?_ | refine rt_cut ?_ | (refine o1_call (fun _ => elim_Row_out _ bm i (-1) (cl_up m0) (.inl (by omega))) rfl (fun _ _ => ?_)) | refine o1_pick_t rfl rfl ?_ | refine o1_pick_f rfl rfl ?_ | refine o1_extract rfl rfl ?_ | refine o1_fieldAddr rfl ?_ | refine ox_load rfl (by rfl) ?_ | refine ox_load_enc rfl (by first | omega | (simp; omega)) ?_ | refine ox_load_any rfl (by assumption) ?_ | refine o1_len rfl ?_ | refine o1_add rfl rfl (by omega) ?_ | refine o1_lss_t rfl rfl (by omega) ?_ | refine o1_lss_f rfl rfl (by omega) ?_ | refine o1_lss rfl rfl (fun _ => ?_) (fun _ => ?_) | refine o1_gtr_t rfl rfl (by omega) ?_ | refine o1_gtr_f rfl rfl (by omega) ?_ | refine o1_gtr rfl rfl (fun _ => ?_) (fun _ => ?_) | refine o1_eql_t rfl rfl (by omega) ?_ | refine o1_eql_f rfl rfl (by omega) ?_ | refine o1_eql rfl rfl (fun _ => ?_) (fun _ => ?_) | refine o1_neq_t rfl rfl (by omega) ?_ | refine o1_neq_f rfl rfl (by omega) ?_ | refine o1_neq rfl rfl (fun _ => ?_) (fun _ => ?_) | refine o1_bnot rfl ?_ | refine o1_unot rfl ?_ | refine o1_neqb rfl rfl ?_ | refine o1_string rfl (by rfl) rx_row ?_ | refine o1_string rfl (by rfl) (rx_any (by assumption)) ?_ | refine o1_slice_nil rfl ?_ | refine o1_nilCheck rfl ?_)
    refine rt_tmp () rfl rfl rfl trivial ?_
    (try dsimp only [List.cons_append, List.nil_append, List.singleton_append, List.append_nil]); (repeat (first | exact Ent.nil | exact Ent.refl _ | (apply Ent.cons; (repeat (first | exact Sel.here | apply Sel.there)))))
end Go.Dp
