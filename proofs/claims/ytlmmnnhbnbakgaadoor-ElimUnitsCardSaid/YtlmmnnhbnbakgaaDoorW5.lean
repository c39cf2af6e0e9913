/-
  The law ElimUnits: rows of one piece each, plain, and walked.
  Conditions: those that stand in each theorem.
-/
import Derived.Test.YtlmmnnhbnbakgaaDoorW4
import Derived.Test.YtlmmnnhbnbakgaaDoorV9
set_option linter.unusedVariables false
set_option linter.unusedSimpArgs false
namespace Go.Dp
open Go.RowKit Go.Proofs
def rtW5_0 : List Row := [⟨some 38, [], [], none⟩, ⟨some 39, [], [], none⟩, ⟨some 40, [], [], none⟩, ⟨some 41, [2], [2], none⟩, ⟨some 42, [1, 3], [1, 2, 3], none⟩, ⟨some 43, [], [], none⟩, ⟨some 44, [5], [5], none⟩, ⟨some 45, [], [], none⟩, ⟨some 46, [6, 7], [5, 6, 7], none⟩, ⟨some 47, [8], [5, 6, 7, 8], none⟩, ⟨some 48, [0, 4, 9, 4], [0, 1, 2, 3, 4, 5, 6, 7, 8, 9], none⟩, ⟨some 49, [], [], none⟩, ⟨some 50, [], [], none⟩, ⟨some 51, [11, 12], [11, 12], none⟩, ⟨some 52, [13], [11, 12, 13], none⟩, ⟨some 53, [10, 14], [0, 1, 2, 3, 4, 5, 6, 7, 8, 9, 10, 11, 12, 13, 14], none⟩]
def rtW5_1 : List Row := [⟨some 38, [], [], none⟩, ⟨some 39, [], [], none⟩, ⟨some 40, [], [], none⟩, ⟨some 41, [2], [2], none⟩, ⟨some 42, [1, 3], [1, 2, 3], none⟩, ⟨some 43, [], [], none⟩, ⟨some 44, [5], [5], none⟩, ⟨some 45, [], [], none⟩, ⟨some 46, [6, 7], [5, 6, 7], none⟩, ⟨some 47, [8], [5, 6, 7, 8], none⟩, ⟨some 48, [0, 4, 9, 4], [0, 1, 2, 3, 4, 5, 6, 7, 8, 9], none⟩, ⟨some 49, [], [], none⟩, ⟨some 50, [], [], none⟩, ⟨some 51, [11, 12], [11, 12], none⟩, ⟨some 52, [13], [11, 12, 13], none⟩, ⟨some 53, [10, 14], [0, 1, 2, 3, 4, 5, 6, 7, 8, 9, 10, 11, 12, 13, 14], none⟩]
/-- A row of one place. -/
def unitL (N o : Nat) : List Bool := bitsOf N [(o : Int)]
theorem unitL_len (N o : Nat) : (unitL N o).length = N := bitsOf_len _ _
theorem unitL_at {N o i : Nat} (hi : i < N) : at_ (unitL N o) i = decide (i = o) := by
  show (bitsOf N [(o : Int)]).getD i false = _
  rw [bitsOf_at _ _ _ hi]
  by_cases h : i = o
  · subst h; simp
  · have : ¬ ((i : Int) ∈ [(o : Int)]) := by simp; omega
    rw [decide_eq_false this, decide_eq_false h]
def uD (x : BitVec 8) (o : Nat) : List (BitVec 8) := [BitVec.ofInt 8 (o : Int) ^^^ x]
/-- The matrix of these pieces. -/
def unitO (N : Nat) (x : BitVec 8) (seen : List Bool) (i : Nat) : Option LN := if at_ seen i = true then some (unitL N i, uD x i) else none
def unitsM (N : Nat) (x : BitVec 8) (seen : List Bool) : List (Option LN) := (List.range N).map (unitO N x seen)
theorem unitsM_len (N : Nat) (x : BitVec 8) (seen : List Bool) : (unitsM N x seen).length = N := by simp [unitsM]
theorem unitsM_at {N : Nat} {x : BitVec 8} {seen : List Bool} {i : Nat} (hi : i < N) : (unitsM N x seen)[i]? = some (unitO N x seen i) := by simp [unitsM, hi]
theorem xorV_zero (a : List Bool) : xorV a a = List.replicate a.length false := by
  refine bits_ext (by rw [xorV_len rfl, List.length_replicate]) (fun j hj => ?_)
  rw [xorV_getD rfl, rep_at]
  cases a.getD j false <;> rfl
theorem rep_atN (N i : Nat) : at_ (List.replicate N false) i = false := rep_at N i
theorem unit_red {N o : Nat} {x : BitVec 8} {seen : List Bool} (ho : o < N) : ∀ i, i ≤ N → redT (unitsM N x seen) (unitL N o, uD x o) i = if at_ seen o = true ∧ o < i then (List.replicate N false, [0#8]) else (unitL N o, uD x o)
  | 0, _ => by simp [redT]
  | i + 1, hi => by
    have hg : (unitsM N x seen).getD i none = unitO N x seen i := by rw [List.getD_eq_getElem?_getD, unitsM_at (by omega)]; rfl
    rw [redT, unit_red ho i (by omega), hg]
    by_cases hc : at_ seen o = true ∧ o < i
    · rw [if_pos hc, if_pos ⟨hc.1, by omega⟩]
      unfold unitO
      split
      · show (if at_ (List.replicate N false) i = true then _ else _) = _
        rw [rep_atN]; rfl
      · rfl
    · rw [if_neg hc]
      by_cases hio : i = o
      · subst hio
        by_cases hs : at_ seen i = true
        · rw [if_pos ⟨hs, by omega⟩]
          unfold unitO
          rw [if_pos hs]
          show (if at_ (unitL N i) i = true then addL (unitL N i, uD x i) (unitL N i, uD x i) else _) = _
          rw [unitL_at ho, if_pos (by simp)]
          simp only [addL, xorV_zero, unitL_len, xorL, uD, List.zipWith_cons_cons, List.zipWith_nil_right, BitVec.xor_self]
        · rw [if_neg (fun h => hs h.1)]
          unfold unitO
          rw [if_neg hs]
          rfl
      · have hn : ¬ (at_ seen o = true ∧ o < i + 1) := fun h => hc ⟨h.1, by omega⟩
        rw [if_neg hn]
        unfold unitO
        split
        · show (if at_ (unitL N o) i = true then _ else _) = _
          rw [unitL_at (by omega), decide_eq_false hio]
          rfl
        · rfl
theorem unit_red_new {N o : Nat} {x : BitVec 8} {seen : List Bool} (ho : o < N) (h : at_ seen o = false) : red (unitsM N x seen) (unitL N o, uD x o) = (unitL N o, uD x o) := by
  rw [red, unitsM_len, unit_red ho N (Nat.le_refl _), if_neg (by rw [h]; simp)]
theorem unit_red_old {N o : Nat} {x : BitVec 8} {seen : List Bool} (ho : o < N) (h : at_ seen o = true) : red (unitsM N x seen) (unitL N o, uD x o) = (List.replicate N false, [0#8]) := by
  rw [red, unitsM_len, unit_red ho N (Nat.le_refl _), if_pos ⟨h, ho⟩]
theorem unit_first {N o : Nat} (ho : o < N) : firstV (unitL N o) = (o : Int) :=
  firstV_is (by rw [unitL_len]; exact ho) (by rw [unitL_at ho]; simp) (fun j hj => by rw [unitL_at (by omega), decide_eq_false (by omega)])
theorem zero_first (N : Nat) : firstV (List.replicate N false) = -1 := firstV_none (fun j _ => rep_atN N j)
theorem unit_add {N o : Nat} {x : BitVec 8} {seen : List Bool} (ho : o < N) (hs : seen.length = N) (h : at_ seen o = false) : addM (unitsM N x seen) o (unitL N o, uD x o) = unitsM N x (seen.set o true) := by
  apply List.ext_getElem
  · simp [addM, unitsM]
  · intro i h1 h2
    rw [unitsM_len] at h2
    have hsi : at_ (seen.set o true) i = if i = o then true else at_ seen i := by
      show (seen.set o true).getD i false = _
      rw [atD_set]
      by_cases e : o = i
      · subst e; simp; omega
      · rw [if_neg (fun q => e q.1), if_neg (fun q => e q.symm)]
    simp only [addM, unitsM, List.getElem_set, List.getElem_map, List.getElem_range]
    by_cases e : o = i
    · subst e
      rw [if_pos rfl, unitO, hsi, if_pos rfl, if_pos rfl]
    · rw [if_neg e]
      have hs2 : at_ (seen.set o true) i = at_ seen i := by rw [hsi, if_neg (fun q => e q.symm)]
      have hu : unitO N x (seen.set o true) i = unitO N x seen i := by unfold unitO; rw [hs2]
      rw [hu]
      unfold unitO
      split
      · show some (if at_ (unitL N i) o = true then _ else _) = _
        rw [unitL_at ho, decide_eq_false e]
        rfl
      · rfl
theorem cnt_all_true (f : Nat → Bool) : ∀ m, cnt f m = m → ∀ j, j < m → f j = true
  | 0, _, j, hj => by omega
  | m + 1, h, j, hj => by
    have h1 := cnt_le f m
    rw [cnt_succ] at h
    have h2 : cnt f m = m := by cases q : f m <;> simp [q] at h <;> omega
    by_cases e : j = m
    · subst e
      cases q : f j
      · simp [q] at h; omega
      · rfl
    · exact cnt_all_true f m h2 j (by omega)
theorem unit_full {N : Nat} {x : BitVec 8} {seen : List Bool} (hs : seen.length = N) (h : countV seen = N) : unitsM N x seen = ((List.range N).map (fun i => ((unitL N i, uD x i) : LN))).map some := by
  rw [unitsM, List.map_map]
  refine List.map_congr_left (fun i hi => ?_)
  have hi := List.mem_range.1 hi
  have : at_ seen i = true := cnt_all_true (at_ seen) seen.length (h.trans hs.symm) i (by omega)
  rw [unitO, if_pos this]
  rfl
theorem unitsM_none (N : Nat) (x : BitVec 8) : unitsM N x (List.replicate N false) = List.replicate N none := by
  apply List.ext_getElem
  · simp [unitsM]
  · intro i h1 h2
    simp only [unitsM, List.getElem_map, List.getElem_range, List.getElem_replicate, unitO, rep_atN]
    rfl
set_option maxHeartbeats 16000000 in
theorem ElimUnits_law (H : List Hl) (n0 : Int) (ad : Option Addr) (c : Nat) (order : List Int) (x : BitVec 8) (h : Rs (stars H) I ad c order) (ht : TabF (stars H)) (hob : ∀ o ∈ order, -9223372036854775808 ≤ o ∧ o ≤ 9223372036854775807) :
    Spec Tryd.prog 5 [I n0, .slice ad order.length c, B x] H (fun _ : Unit => True) (fun _ => .bool true) (fun _ => H) := by
  refine spec_pure (res := fun _ => []) H Tryd.func5 rfl Tryd.ntmps5 (by kernel_rfl) rfl (fun W => ?_)
  have b3 := h.le
  have b4 := h.big
  obtain ⟨N, hN, hN1, hN2⟩ : ∃ N : Nat, 1 + ((BitVec.ofInt 64 n0).toNat : Int) % 60 = N ∧ 1 ≤ N ∧ N ≤ 60 := ⟨1 + (BitVec.ofInt 64 n0).toNat % 60, by rw [Int.natCast_add, Int.natCast_emod]; rfl, by omega, by omega⟩
  have hk0 : MOk N 1 (List.replicate N none) := MOk.none hN1 (by omega) (by decide) (by decide)
  have hv0 : (List.replicate N none : List (Option RD)).map vw = unitsM N x (List.replicate N false) := by rw [unitsM_none, List.map_replicate]; rfl
  have hc0 : countV (List.replicate N false) = 0 := cnt_none (fun j _ => rep_atN N j)
  repeat' (first | refine ls_of rfl ?_ | refine ls_of_no ?_ | refine ls_guard_yes rfl rfl ?_ | refine ls_guard_no rfl rfl rfl rfl ?_ | refine ls_guard_un rfl rfl rfl ?_ | refine o1_move rfl ?_ | refine o1_assign rfl ?_ | refine st_seq ?_ | refine st_region ?_ | refine st_block ?_ | refine st_skip ?_ | refine st_ret ?_ | refine st_exit ?_ | refine st_cond_t rfl ?_ | refine st_cond_f rfl ?_ | refine st_cond rfl (fun _ => ?_) (fun _ => ?_) | refine ls_nil ?_ | refine nx_seq ?_ | refine nx_blk ?_ | refine nx_fn ?_ | refine nx_rounds ?_ | refine xt_seq ?_ | refine xt_here ?_ | refine xt_on rfl ?_ | refine xt_rounds ?_ | refine xt_cut ?_ | refine rt_seq ?_ | refine rt_blk ?_ | refine rt_rounds ?_ | refine rt_cut ?_ | (refine o1_add rfl rfl (by omega) ?_; rw [hN]) | (refine o1_call (fun _ => elim_New _ N 1 hN1 (by omega) (by decide) (by decide)) rfl (fun ⟨bm, ar, cr⟩ _ => ?_); dsimp only) | refine o1_maker (enc := Bo) false N rfl rfl rfl rfl rfl (by omega) (by omega) (fun b22 => ?_) | refine o1_pick_t rfl rfl ?_ | refine o1_pick_f rfl rfl ?_ | refine ox_load rfl (by rfl) ?_ | refine ox_load_enc rfl (by first | omega | (simp; omega)) ?_ | refine ox_load_any rfl (by assumption) ?_ | refine o1_len rfl ?_ | refine o1_add rfl rfl (by omega) ?_ | refine o1_lss_t rfl rfl (by omega) ?_ | refine o1_lss_f rfl rfl (by omega) ?_ | refine o1_lss rfl rfl (fun _ => ?_) (fun _ => ?_) | refine o1_geq_t rfl rfl (by omega) ?_ | refine o1_geq_f rfl rfl (by omega) ?_ | refine o1_geq rfl rfl (fun _ => ?_) (fun _ => ?_) | refine o1_eql_t rfl rfl (by omega) ?_ | refine o1_eql_f rfl rfl (by omega) ?_ | refine o1_eql rfl rfl (fun _ => ?_) (fun _ => ?_) | refine o1_neq_t rfl rfl (by omega) ?_ | refine o1_neq_f rfl rfl (by omega) ?_ | refine o1_neq rfl rfl (fun _ => ?_) (fun _ => ?_) | refine o1_bnot rfl ?_ | refine o1_uxor rfl rfl ?_ | refine o1_unot rfl ?_ | refine o1_conv_i rfl (by omega) ?_ | refine o1_conv_ui rfl (by exact bv_small (by decide) _) ?_ | refine o1_conv_u64 rfl (by omega) ?_ | refine o1_conv_iu rfl ?_ | refine o1_rem_nn rfl rfl (by omega) ?_ | refine o1_eqb rfl rfl ?_ | refine o1_neqb rfl rfl ?_ | refine o1_maken (enc := B) 0#8 rfl rfl rfl rfl (by omega) (by omega) (by omega) (fun _ => ?_) | refine o1_lit_B rfl rfl rfl rfl rfl (fun _ => ?_) | refine ox_store_enc B rfl rfl (by first | omega | (simp; done) | (simp; omega)) rfl ?_ | refine ox_stores rfl rfl (by first | omega | (simp; done) | (simp; omega)) rfl (by first | (simp only [List.set_cons_zero, List.set_cons_succ, Nat.zero_add, Nat.reduceAdd]; rfl) | rfl) ?_)
  refine st_loop (S := Nat × List Bool × List (Option RD)) (fun q => [(0, I N), (2, B x), (7, .pointer (some ⟨bm, 0, none⟩)), (8, .slice (some ⟨b22, 0, none⟩) N N), (9, I (countV q.2.1 : Nat)), (23, .slice ad order.length c), (24, I order.length), (25, I q.1)])
    (fun q => [.box b22 4 (q.2.1.map Bo), mB bm N 1 ar cr (countV q.2.1), mR N ar cr q.2.2, .any (mrows q.2.2), .any (stars H)])
    (fun q => q.1 ≤ order.length ∧ q.2.1.length = N ∧ q.2.2.map vw = unitsM N x q.2.1 ∧ MOk N 1 q.2.2) (fun q => order.length - q.1) (0, List.replicate N false, List.replicate N none) ⟨Nat.zero_le _, by simp, hv0, hk0⟩
    (cov_cons rfl rfl (cov_cons rfl rfl (cov_cons rfl rfl (cov_cons rfl rfl (cov_cons rfl (by show Value.int _ 0 = I (countV (List.replicate N false) : Nat); rw [hc0]; rfl) (cov_cons rfl rfl (cov_cons rfl rfl (cov_cons rfl rfl cov_nil)))))))) (by show Ent _ [.box b22 4 ((List.replicate N false).map Bo), mB bm N 1 ar cr (countV (List.replicate N false)), mR N ar cr (List.replicate N none), .any (mrows (List.replicate N none)), .any (stars H)]; rw [hc0]; (try dsimp only [List.cons_append, List.nil_append, List.singleton_append, List.append_nil]); (repeat (first | exact Ent.nil | exact Ent.refl _ | (apply Ent.cons; (repeat (first | exact Sel.here | apply Sel.there)))))) ?_
  rintro ⟨i, seen, M⟩ ⟨hi, hsl, hMv, hMk⟩
  dsimp only at hi hsl hMv hMk ⊢
  have hcl : countV seen ≤ seen.length := cnt_le _ _
  by_cases hlt : i < order.length
  · obtain ⟨o, ho⟩ : ∃ o, order[i] = o := ⟨_, rfl⟩
    have hor := hob o (ho ▸ List.getElem_mem hlt)
    by_cases h100 : 100 ≤ i
    · repeat' (first | refine ls_of rfl ?_ | refine ls_of_no ?_ | refine ls_guard_yes rfl rfl ?_ | refine ls_guard_no rfl rfl rfl rfl ?_ | refine ls_guard_un rfl rfl rfl ?_ | refine o1_move rfl ?_ | refine o1_assign rfl ?_ | refine st_seq ?_ | refine st_region ?_ | refine st_block ?_ | refine st_skip ?_ | refine st_ret ?_ | refine st_exit ?_ | refine st_cond_t rfl ?_ | refine st_cond_f rfl ?_ | refine st_cond rfl (fun _ => ?_) (fun _ => ?_) | refine ls_nil ?_ | refine nx_seq ?_ | refine nx_blk ?_ | refine nx_fn ?_ | refine nx_rounds ?_ | refine xt_seq ?_ | refine xt_here ?_ | refine xt_on rfl ?_ | refine xt_rounds ?_ | refine xt_cut ?_ | refine rt_seq ?_ | refine rt_blk ?_ | refine rt_rounds ?_ | refine rt_cut ?_ | refine o1_ia i rfl rfl h rfl rfl hlt ?_ | (refine o1_load_ia i rfl h hlt ?_; rw [ho]) | refine o1_pick_t rfl rfl ?_ | refine o1_pick_f rfl rfl ?_ | refine ox_load rfl (by rfl) ?_ | refine ox_load_enc rfl (by first | omega | (simp; omega)) ?_ | refine ox_load_any rfl (by assumption) ?_ | refine o1_len rfl ?_ | refine o1_add rfl rfl (by omega) ?_ | refine o1_lss_t rfl rfl (by omega) ?_ | refine o1_lss_f rfl rfl (by omega) ?_ | refine o1_lss rfl rfl (fun _ => ?_) (fun _ => ?_) | refine o1_geq_t rfl rfl (by omega) ?_ | refine o1_geq_f rfl rfl (by omega) ?_ | refine o1_geq rfl rfl (fun _ => ?_) (fun _ => ?_) | refine o1_eql_t rfl rfl (by omega) ?_ | refine o1_eql_f rfl rfl (by omega) ?_ | refine o1_eql rfl rfl (fun _ => ?_) (fun _ => ?_) | refine o1_neq_t rfl rfl (by omega) ?_ | refine o1_neq_f rfl rfl (by omega) ?_ | refine o1_neq rfl rfl (fun _ => ?_) (fun _ => ?_) | refine o1_bnot rfl ?_ | refine o1_uxor rfl rfl ?_ | refine o1_unot rfl ?_ | refine o1_conv_i rfl (by omega) ?_ | refine o1_conv_ui rfl (by exact bv_small (by decide) _) ?_ | refine o1_conv_u64 rfl (by omega) ?_ | refine o1_conv_iu rfl ?_ | refine o1_rem_nn rfl rfl (by omega) ?_ | refine o1_eqb rfl rfl ?_ | refine o1_neqb rfl rfl ?_ | refine o1_maken (enc := B) 0#8 rfl rfl rfl rfl (by omega) (by omega) (by omega) (fun _ => ?_) | refine o1_lit_B rfl rfl rfl rfl rfl (fun _ => ?_) | refine ox_store_enc B rfl rfl (by first | omega | (simp; done) | (simp; omega)) rfl ?_ | refine ox_stores rfl rfl (by first | omega | (simp; done) | (simp; omega)) rfl (by first | (simp only [List.set_cons_zero, List.set_cons_succ, Nat.zero_add, Nat.reduceAdd]; rfl) | rfl) ?_)
      by_cases hfull : countV seen = N
      · have hall := unit_full (x := x) hsl hfull
        rw [hall] at hMv
        obtain ⟨R, hR1, hR2⟩ := all_some hMv
        rw [hfull]
        repeat' (first | refine ls_of rfl ?_ | refine ls_of_no ?_ | refine ls_guard_yes rfl rfl ?_ | refine ls_guard_no rfl rfl rfl rfl ?_ | refine ls_guard_un rfl rfl rfl ?_ | refine o1_move rfl ?_ | refine o1_assign rfl ?_ | refine st_seq ?_ | refine st_region ?_ | refine st_block ?_ | refine st_skip ?_ | refine st_ret ?_ | refine st_exit ?_ | refine st_cond_t rfl ?_ | refine st_cond_f rfl ?_ | refine st_cond rfl (fun _ => ?_) (fun _ => ?_) | refine ls_nil ?_ | refine nx_seq ?_ | refine nx_blk ?_ | refine nx_fn ?_ | refine nx_rounds ?_ | refine xt_seq ?_ | refine xt_here ?_ | refine xt_on rfl ?_ | refine xt_rounds ?_ | refine xt_cut ?_ | refine rt_seq ?_ | refine rt_blk ?_ | refine rt_rounds ?_ | refine rt_cut ?_ | (refine o1_call (fun hh => elim_Solve _ bm N 1 ar cr M R (RdM.own hMk hh) hR1) rfl (fun ⟨a4, c4, ps⟩ hps => ?_); dsimp only at hps ⊢) | refine o1_pick_t rfl rfl ?_ | refine o1_pick_f rfl rfl ?_ | refine ox_load rfl (by rfl) ?_ | refine ox_load_enc rfl (by first | omega | (simp; omega)) ?_ | refine ox_load_any rfl (by assumption) ?_ | refine o1_len rfl ?_ | refine o1_add rfl rfl (by omega) ?_ | refine o1_lss_t rfl rfl (by omega) ?_ | refine o1_lss_f rfl rfl (by omega) ?_ | refine o1_lss rfl rfl (fun _ => ?_) (fun _ => ?_) | refine o1_geq_t rfl rfl (by omega) ?_ | refine o1_geq_f rfl rfl (by omega) ?_ | refine o1_geq rfl rfl (fun _ => ?_) (fun _ => ?_) | refine o1_eql_t rfl rfl (by omega) ?_ | refine o1_eql_f rfl rfl (by omega) ?_ | refine o1_eql rfl rfl (fun _ => ?_) (fun _ => ?_) | refine o1_neq_t rfl rfl (by omega) ?_ | refine o1_neq_f rfl rfl (by omega) ?_ | refine o1_neq rfl rfl (fun _ => ?_) (fun _ => ?_) | refine o1_bnot rfl ?_ | refine o1_uxor rfl rfl ?_ | refine o1_unot rfl ?_ | refine o1_conv_i rfl (by omega) ?_ | refine o1_conv_ui rfl (by exact bv_small (by decide) _) ?_ | refine o1_conv_u64 rfl (by omega) ?_ | refine o1_conv_iu rfl ?_ | refine o1_rem_nn rfl rfl (by omega) ?_ | refine o1_eqb rfl rfl ?_ | refine o1_neqb rfl rfl ?_ | refine o1_maken (enc := B) 0#8 rfl rfl rfl rfl (by omega) (by omega) (by omega) (fun _ => ?_) | refine o1_lit_B rfl rfl rfl rfl rfl (fun _ => ?_) | refine ox_store_enc B rfl rfl (by first | omega | (simp; done) | (simp; omega)) rfl ?_ | refine ox_stores rfl rfl (by first | omega | (simp; done) | (simp; omega)) rfl (by first | (simp only [List.set_cons_zero, List.set_cons_succ, Nat.zero_add, Nat.reduceAdd]; rfl) | rfl) ?_)
        have hps2 : ps.map (·.l) = (List.range N).map (uD x) := by
          rw [hps]
          have := congrArg (List.map (·.2)) hR2
          rw [List.map_map, List.map_map] at this
          exact this
        have hpl : ps.length = N := by have := congrArg List.length hps2; simpa using this
        refine st_loop (S := Nat) (fun j => [(0, I N), (2, B x), (78, .slice a4 ps.length c4), (79, I ps.length), (80, I j)]) (fun j => [.row 38 1 (.slice a4 ps.length c4) ps.length (ps.map Bs), .any (pcs 5 ps), .any (stars H)]) (fun j => j ≤ ps.length) (fun j => ps.length - j) 0 (Nat.zero_le _)
          (cov_cons rfl rfl (cov_cons rfl rfl (cov_cons rfl rfl (cov_cons rfl rfl (cov_cons rfl rfl cov_nil))))) (by (try dsimp only [List.cons_append, List.nil_append, List.singleton_append, List.append_nil]); (repeat (first | exact Ent.nil | exact Ent.refl _ | (apply Ent.cons; (repeat (first | exact Sel.here | apply Sel.there)))))) ?_
        intro j hj
        by_cases hjt : j < ps.length
        · obtain ⟨p, hp⟩ : ∃ p, ps[j] = p := ⟨_, rfl⟩
          have hpm : p ∈ ps := hp ▸ List.getElem_mem _
          have hpl1 : p.l = uD x j := by
            have h1 : (ps.map (·.l))[j]? = some (uD x j) := by rw [hps2, List.getElem?_map, List.getElem?_range (by omega)]; rfl
            simpa [List.getElem?_map, hjt, hp] using h1
          have hpln : p.l.length = 1 := by rw [hpl1]; rfl
          have hBp : Bs p = .slice p.ad 1 p.cap := by show Value.slice _ _ _ = _; rw [hpl1]; rfl
          have hp0 : p.l[0]? = some (BitVec.ofInt 8 (j : Int) ^^^ x) := by rw [hpl1]; rfl
          repeat' (first | refine ls_of rfl ?_ | refine ls_of_no ?_ | refine ls_guard_yes rfl rfl ?_ | refine ls_guard_no rfl rfl rfl rfl ?_ | refine ls_guard_un rfl rfl rfl ?_ | refine o1_move rfl ?_ | refine o1_assign rfl ?_ | refine st_seq ?_ | refine st_region ?_ | refine st_block ?_ | refine st_skip ?_ | refine st_ret ?_ | refine st_exit ?_ | refine st_cond_t rfl ?_ | refine st_cond_f rfl ?_ | refine st_cond rfl (fun _ => ?_) (fun _ => ?_) | refine ls_nil ?_ | refine nx_seq ?_ | refine nx_blk ?_ | refine nx_fn ?_ | refine nx_rounds ?_ | refine xt_seq ?_ | refine xt_here ?_ | refine xt_on rfl ?_ | refine xt_rounds ?_ | refine xt_cut ?_ | refine rt_seq ?_ | refine rt_blk ?_ | refine rt_rounds ?_ | refine rt_cut ?_ | refine o1_iah (enc := Bs) (ad := a4) (c := c4) (xs := ps) j rfl rfl rx_row rfl rfl hjt ?_ | (refine o1_load_iah (enc := Bs) (ad := a4) (c := c4) (xs := ps) j rfl rx_row hjt ?_; rw [hp, hBp]) | refine o1_geq_f rfl rfl (by omega) ?_ | refine o1_iah (enc := B) (xs := p.l) 0 rfl rfl (fun hh => pcs_read (T := 5) (ls := ps) hpm hh) hpln.symm rfl (by omega) ?_ | refine o1_load_hv (enc := B) (c := p.cap) 0 _ rfl (fun hh => pcs_read (T := 5) (ls := ps) hpm hh) hp0 ?_ | refine o1_conv_iu rfl ?_ | refine o1_uxor rfl rfl ?_ | refine o1_neq_f rfl rfl rfl ?_ | refine o1_pick_t rfl rfl ?_ | refine o1_pick_f rfl rfl ?_ | refine ox_load rfl (by rfl) ?_ | refine ox_load_enc rfl (by first | omega | (simp; omega)) ?_ | refine ox_load_any rfl (by assumption) ?_ | refine o1_len rfl ?_ | refine o1_add rfl rfl (by omega) ?_ | refine o1_lss_t rfl rfl (by omega) ?_ | refine o1_lss_f rfl rfl (by omega) ?_ | refine o1_lss rfl rfl (fun _ => ?_) (fun _ => ?_) | refine o1_geq_t rfl rfl (by omega) ?_ | refine o1_geq_f rfl rfl (by omega) ?_ | refine o1_geq rfl rfl (fun _ => ?_) (fun _ => ?_) | refine o1_eql_t rfl rfl (by omega) ?_ | refine o1_eql_f rfl rfl (by omega) ?_ | refine o1_eql rfl rfl (fun _ => ?_) (fun _ => ?_) | refine o1_neq_t rfl rfl (by omega) ?_ | refine o1_neq_f rfl rfl (by omega) ?_ | refine o1_neq rfl rfl (fun _ => ?_) (fun _ => ?_) | refine o1_bnot rfl ?_ | refine o1_uxor rfl rfl ?_ | refine o1_unot rfl ?_ | refine o1_conv_i rfl (by omega) ?_ | refine o1_conv_ui rfl (by exact bv_small (by decide) _) ?_ | refine o1_conv_u64 rfl (by omega) ?_ | refine o1_conv_iu rfl ?_ | refine o1_rem_nn rfl rfl (by omega) ?_ | refine o1_eqb rfl rfl ?_ | refine o1_neqb rfl rfl ?_ | refine o1_maken (enc := B) 0#8 rfl rfl rfl rfl (by omega) (by omega) (by omega) (fun _ => ?_) | refine o1_lit_B rfl rfl rfl rfl rfl (fun _ => ?_) | refine ox_store_enc B rfl rfl (by first | omega | (simp; done) | (simp; omega)) rfl ?_ | refine ox_stores rfl rfl (by first | omega | (simp; done) | (simp; omega)) rfl (by first | (simp only [List.set_cons_zero, List.set_cons_succ, Nat.zero_add, Nat.reduceAdd]; rfl) | rfl) ?_)
          refine nx_again (j + 1) (by omega) (by omega) (cov_cons rfl rfl (cov_cons rfl rfl (cov_cons rfl rfl (cov_cons rfl rfl (cov_cons rfl rfl cov_nil))))) ?_
          (try dsimp only [List.cons_append, List.nil_append, List.singleton_append, List.append_nil]); (repeat (first | exact Ent.nil | exact Ent.refl _ | (apply Ent.cons; (repeat (first | exact Sel.here | apply Sel.there)))))
        · have : j = ps.length := by omega
          subst this
          repeat' (first | refine ls_of rfl ?_ | refine ls_of_no ?_ | refine ls_guard_yes rfl rfl ?_ | refine ls_guard_no rfl rfl rfl rfl ?_ | refine ls_guard_un rfl rfl rfl ?_ | refine o1_move rfl ?_ | refine o1_assign rfl ?_ | refine st_seq ?_ | refine st_region ?_ | refine st_block ?_ | refine st_skip ?_ | refine st_ret ?_ | refine st_exit ?_ | refine st_cond_t rfl ?_ | refine st_cond_f rfl ?_ | refine st_cond rfl (fun _ => ?_) (fun _ => ?_) | refine ls_nil ?_ | refine nx_seq ?_ | refine nx_blk ?_ | refine nx_fn ?_ | refine nx_rounds ?_ | refine xt_seq ?_ | refine xt_here ?_ | refine xt_on rfl ?_ | refine xt_rounds ?_ | refine xt_cut ?_ | refine rt_seq ?_ | refine rt_blk ?_ | refine rt_rounds ?_ | refine rt_cut ?_ | refine o1_call (fun _ => awake6 _ ht.up) rfl (fun _ _ => ?_) | refine o1_pick_t rfl rfl ?_ | refine o1_pick_f rfl rfl ?_ | refine ox_load rfl (by rfl) ?_ | refine ox_load_enc rfl (by first | omega | (simp; omega)) ?_ | refine ox_load_any rfl (by assumption) ?_ | refine o1_len rfl ?_ | refine o1_add rfl rfl (by omega) ?_ | refine o1_lss_t rfl rfl (by omega) ?_ | refine o1_lss_f rfl rfl (by omega) ?_ | refine o1_lss rfl rfl (fun _ => ?_) (fun _ => ?_) | refine o1_geq_t rfl rfl (by omega) ?_ | refine o1_geq_f rfl rfl (by omega) ?_ | refine o1_geq rfl rfl (fun _ => ?_) (fun _ => ?_) | refine o1_eql_t rfl rfl (by omega) ?_ | refine o1_eql_f rfl rfl (by omega) ?_ | refine o1_eql rfl rfl (fun _ => ?_) (fun _ => ?_) | refine o1_neq_t rfl rfl (by omega) ?_ | refine o1_neq_f rfl rfl (by omega) ?_ | refine o1_neq rfl rfl (fun _ => ?_) (fun _ => ?_) | refine o1_bnot rfl ?_ | refine o1_uxor rfl rfl ?_ | refine o1_unot rfl ?_ | refine o1_conv_i rfl (by omega) ?_ | refine o1_conv_ui rfl (by exact bv_small (by decide) _) ?_ | refine o1_conv_u64 rfl (by omega) ?_ | refine o1_conv_iu rfl ?_ | refine o1_rem_nn rfl rfl (by omega) ?_ | refine o1_eqb rfl rfl ?_ | refine o1_neqb rfl rfl ?_ | refine o1_maken (enc := B) 0#8 rfl rfl rfl rfl (by omega) (by omega) (by omega) (fun _ => ?_) | refine o1_lit_B rfl rfl rfl rfl rfl (fun _ => ?_) | refine ox_store_enc B rfl rfl (by first | omega | (simp; done) | (simp; omega)) rfl ?_ | refine ox_stores rfl rfl (by first | omega | (simp; done) | (simp; omega)) rfl (by first | (simp only [List.set_cons_zero, List.set_cons_succ, Nat.zero_add, Nat.reduceAdd]; rfl) | rfl) ?_)
          refine rt_tmp () rfl rfl rfl trivial ?_
          (try dsimp only [List.cons_append, List.nil_append, List.singleton_append, List.append_nil]); (repeat (first | exact Ent.nil | exact Ent.refl _ | (apply Ent.cons; (repeat (first | exact Sel.here | apply Sel.there)))))
      · repeat' (first | refine ls_of rfl ?_ | refine ls_of_no ?_ | refine ls_guard_yes rfl rfl ?_ | refine ls_guard_no rfl rfl rfl rfl ?_ | refine ls_guard_un rfl rfl rfl ?_ | refine o1_move rfl ?_ | refine o1_assign rfl ?_ | refine st_seq ?_ | refine st_region ?_ | refine st_block ?_ | refine st_skip ?_ | refine st_ret ?_ | refine st_exit ?_ | refine st_cond_t rfl ?_ | refine st_cond_f rfl ?_ | refine st_cond rfl (fun _ => ?_) (fun _ => ?_) | refine ls_nil ?_ | refine nx_seq ?_ | refine nx_blk ?_ | refine nx_fn ?_ | refine nx_rounds ?_ | refine xt_seq ?_ | refine xt_here ?_ | refine xt_on rfl ?_ | refine xt_rounds ?_ | refine xt_cut ?_ | refine rt_seq ?_ | refine rt_blk ?_ | refine rt_rounds ?_ | refine rt_cut ?_ | refine o1_call (fun hh => elim_Solve_no _ bm N (countV seen) (RdM.own hMk hh).fk (RdM.own hMk hh).fn hfull) rfl (fun _ _ => ?_) | refine o1_pick_t rfl rfl ?_ | refine o1_pick_f rfl rfl ?_ | refine ox_load rfl (by rfl) ?_ | refine ox_load_enc rfl (by first | omega | (simp; omega)) ?_ | refine ox_load_any rfl (by assumption) ?_ | refine o1_len rfl ?_ | refine o1_add rfl rfl (by omega) ?_ | refine o1_lss_t rfl rfl (by omega) ?_ | refine o1_lss_f rfl rfl (by omega) ?_ | refine o1_lss rfl rfl (fun _ => ?_) (fun _ => ?_) | refine o1_geq_t rfl rfl (by omega) ?_ | refine o1_geq_f rfl rfl (by omega) ?_ | refine o1_geq rfl rfl (fun _ => ?_) (fun _ => ?_) | refine o1_eql_t rfl rfl (by omega) ?_ | refine o1_eql_f rfl rfl (by omega) ?_ | refine o1_eql rfl rfl (fun _ => ?_) (fun _ => ?_) | refine o1_neq_t rfl rfl (by omega) ?_ | refine o1_neq_f rfl rfl (by omega) ?_ | refine o1_neq rfl rfl (fun _ => ?_) (fun _ => ?_) | refine o1_bnot rfl ?_ | refine o1_uxor rfl rfl ?_ | refine o1_unot rfl ?_ | refine o1_conv_i rfl (by omega) ?_ | refine o1_conv_ui rfl (by exact bv_small (by decide) _) ?_ | refine o1_conv_u64 rfl (by omega) ?_ | refine o1_conv_iu rfl ?_ | refine o1_rem_nn rfl rfl (by omega) ?_ | refine o1_eqb rfl rfl ?_ | refine o1_neqb rfl rfl ?_ | refine o1_maken (enc := B) 0#8 rfl rfl rfl rfl (by omega) (by omega) (by omega) (fun _ => ?_) | refine o1_lit_B rfl rfl rfl rfl rfl (fun _ => ?_) | refine ox_store_enc B rfl rfl (by first | omega | (simp; done) | (simp; omega)) rfl ?_ | refine ox_stores rfl rfl (by first | omega | (simp; done) | (simp; omega)) rfl (by first | (simp only [List.set_cons_zero, List.set_cons_succ, Nat.zero_add, Nat.reduceAdd]; rfl) | rfl) ?_)
        refine st_rounds 1 ?_
        repeat' (first | refine ls_of rfl ?_ | refine ls_of_no ?_ | refine ls_guard_yes rfl rfl ?_ | refine ls_guard_no rfl rfl rfl rfl ?_ | refine ls_guard_un rfl rfl rfl ?_ | refine o1_move rfl ?_ | refine o1_assign rfl ?_ | refine st_seq ?_ | refine st_region ?_ | refine st_block ?_ | refine st_skip ?_ | refine st_ret ?_ | refine st_exit ?_ | refine st_cond_t rfl ?_ | refine st_cond_f rfl ?_ | refine st_cond rfl (fun _ => ?_) (fun _ => ?_) | refine ls_nil ?_ | refine nx_seq ?_ | refine nx_blk ?_ | refine nx_fn ?_ | refine nx_rounds ?_ | refine xt_seq ?_ | refine xt_here ?_ | refine xt_on rfl ?_ | refine xt_rounds ?_ | refine xt_cut ?_ | refine rt_seq ?_ | refine rt_blk ?_ | refine rt_rounds ?_ | refine rt_cut ?_ | refine o1_call (fun _ => awake6 _ ht.up) rfl (fun _ _ => ?_) | refine o1_pick_t rfl rfl ?_ | refine o1_pick_f rfl rfl ?_ | refine ox_load rfl (by rfl) ?_ | refine ox_load_enc rfl (by first | omega | (simp; omega)) ?_ | refine ox_load_any rfl (by assumption) ?_ | refine o1_len rfl ?_ | refine o1_add rfl rfl (by omega) ?_ | refine o1_lss_t rfl rfl (by omega) ?_ | refine o1_lss_f rfl rfl (by omega) ?_ | refine o1_lss rfl rfl (fun _ => ?_) (fun _ => ?_) | refine o1_geq_t rfl rfl (by omega) ?_ | refine o1_geq_f rfl rfl (by omega) ?_ | refine o1_geq rfl rfl (fun _ => ?_) (fun _ => ?_) | refine o1_eql_t rfl rfl (by omega) ?_ | refine o1_eql_f rfl rfl (by omega) ?_ | refine o1_eql rfl rfl (fun _ => ?_) (fun _ => ?_) | refine o1_neq_t rfl rfl (by omega) ?_ | refine o1_neq_f rfl rfl (by omega) ?_ | refine o1_neq rfl rfl (fun _ => ?_) (fun _ => ?_) | refine o1_bnot rfl ?_ | refine o1_uxor rfl rfl ?_ | refine o1_unot rfl ?_ | refine o1_conv_i rfl (by omega) ?_ | refine o1_conv_ui rfl (by exact bv_small (by decide) _) ?_ | refine o1_conv_u64 rfl (by omega) ?_ | refine o1_conv_iu rfl ?_ | refine o1_rem_nn rfl rfl (by omega) ?_ | refine o1_eqb rfl rfl ?_ | refine o1_neqb rfl rfl ?_ | refine o1_maken (enc := B) 0#8 rfl rfl rfl rfl (by omega) (by omega) (by omega) (fun _ => ?_) | refine o1_lit_B rfl rfl rfl rfl rfl (fun _ => ?_) | refine ox_store_enc B rfl rfl (by first | omega | (simp; done) | (simp; omega)) rfl ?_ | refine ox_stores rfl rfl (by first | omega | (simp; done) | (simp; omega)) rfl (by first | (simp only [List.set_cons_zero, List.set_cons_succ, Nat.zero_add, Nat.reduceAdd]; rfl) | rfl) ?_)
        refine rt_tmp () rfl rfl rfl trivial ?_
        (try dsimp only [List.cons_append, List.nil_append, List.singleton_append, List.append_nil]); (repeat (first | exact Ent.nil | exact Ent.refl _ | (apply Ent.cons; (repeat (first | exact Sel.here | apply Sel.there)))))
    · obtain ⟨m, hm, hmN⟩ : ∃ m : Nat, ((BitVec.ofInt 64 o).toNat : Int) % N = m ∧ m < N := ⟨(BitVec.ofInt 64 o).toNat % N, (Int.natCast_emod _ _).symm, Nat.mod_lt _ (by omega)⟩
      have hml : m < seen.length := by omega
      have hat : at_ seen m = seen[m] := by show seen.getD m false = _; rw [List.getD_eq_getElem?_getD, List.getElem?_eq_getElem hml]; rfl
      have hub : bitsOf N [(m : Int)] = unitL N m := rfl
      repeat' (first | refine ls_of rfl ?_ | refine ls_of_no ?_ | refine ls_guard_yes rfl rfl ?_ | refine ls_guard_no rfl rfl rfl rfl ?_ | refine ls_guard_un rfl rfl rfl ?_ | refine o1_move rfl ?_ | refine o1_assign rfl ?_ | refine st_seq ?_ | refine st_region ?_ | refine st_block ?_ | refine st_skip ?_ | refine st_ret ?_ | refine st_exit ?_ | refine st_cond_t rfl ?_ | refine st_cond_f rfl ?_ | refine st_cond rfl (fun _ => ?_) (fun _ => ?_) | refine ls_nil ?_ | refine nx_seq ?_ | refine nx_blk ?_ | refine nx_fn ?_ | refine nx_rounds ?_ | refine xt_seq ?_ | refine xt_here ?_ | refine xt_on rfl ?_ | refine xt_rounds ?_ | refine xt_cut ?_ | refine rt_seq ?_ | refine rt_blk ?_ | refine rt_rounds ?_ | refine rt_cut ?_ | refine o1_ia i rfl rfl h rfl rfl hlt ?_ | (refine o1_load_ia i rfl h hlt ?_; rw [ho]) | (refine o1_rem_nn rfl rfl (by omega) ?_; rw [hm]) | refine o1_pick_t rfl rfl ?_ | refine o1_pick_f rfl rfl ?_ | refine ox_load rfl (by rfl) ?_ | refine ox_load_enc rfl (by first | omega | (simp; omega)) ?_ | refine ox_load_any rfl (by assumption) ?_ | refine o1_len rfl ?_ | refine o1_add rfl rfl (by omega) ?_ | refine o1_lss_t rfl rfl (by omega) ?_ | refine o1_lss_f rfl rfl (by omega) ?_ | refine o1_lss rfl rfl (fun _ => ?_) (fun _ => ?_) | refine o1_geq_t rfl rfl (by omega) ?_ | refine o1_geq_f rfl rfl (by omega) ?_ | refine o1_geq rfl rfl (fun _ => ?_) (fun _ => ?_) | refine o1_eql_t rfl rfl (by omega) ?_ | refine o1_eql_f rfl rfl (by omega) ?_ | refine o1_eql rfl rfl (fun _ => ?_) (fun _ => ?_) | refine o1_neq_t rfl rfl (by omega) ?_ | refine o1_neq_f rfl rfl (by omega) ?_ | refine o1_neq rfl rfl (fun _ => ?_) (fun _ => ?_) | refine o1_bnot rfl ?_ | refine o1_uxor rfl rfl ?_ | refine o1_unot rfl ?_ | refine o1_conv_i rfl (by omega) ?_ | refine o1_conv_ui rfl (by exact bv_small (by decide) _) ?_ | refine o1_conv_u64 rfl (by omega) ?_ | refine o1_conv_iu rfl ?_ | refine o1_rem_nn rfl rfl (by omega) ?_ | refine o1_eqb rfl rfl ?_ | refine o1_neqb rfl rfl ?_ | refine o1_maken (enc := B) 0#8 rfl rfl rfl rfl (by omega) (by omega) (by omega) (fun _ => ?_) | refine o1_lit_B rfl rfl rfl rfl rfl (fun _ => ?_) | refine ox_store_enc B rfl rfl (by first | omega | (simp; done) | (simp; omega)) rfl ?_ | refine ox_stores rfl rfl (by first | omega | (simp; done) | (simp; omega)) rfl (by first | (simp only [List.set_cons_zero, List.set_cons_succ, Nat.zero_add, Nat.reduceAdd]; rfl) | rfl) ?_)
      cases hsm : seen[m]
      · rw [hsm] at hat
        have hcs : countV (seen.set m true) = countV seen + 1 := by
          have := countV_set seen m true hml
          rw [hat] at this
          simp at this
          omega
        have hred := unit_red_new (x := x) hmN hat
        have hfree : (unitsM N x seen)[m]? = some none := by rw [unitsM_at hmN, unitO, hat]; rfl
        have hadd := unit_add (x := x) hmN hsl hat
        have hc2 : countV (seen.set m true) ≤ (seen.set m true).length := cnt_le _ _
        rw [List.length_set] at hc2
        refine st_via (X := { M' : List (Option RD) // M'.map vw = unitsM N x (seen.set m true) ∧ MOk N 1 M' }) (fun _ => [(0, I N), (2, B x), (7, .pointer (some ⟨bm, 0, none⟩)), (8, .slice (some ⟨b22, 0, none⟩) N N), (9, I (countV seen : Nat)), (11, I m), (23, .slice ad order.length c), (24, I order.length), (25, I i), (53, .bool false)])
          (fun X => [.box b22 4 (seen.map Bo), mB bm N 1 ar cr (countV seen + 1), mR N ar cr X.1, .any (mrows X.1), .any (stars H)]) ?restN ?walkN
        case walkN =>
          intro via
          refine st_tree [(7, _), (0, _), (11, _), (2, _), (8, _)] rtW5_0 [3, 4, 9, 10] (.alt [0, 1, 2, 5, 6, 7, 8, 11, 12, 13, 14] [] 3 (.alt [] [0, 1, 5, 6, 7, 8, 11, 12, 13, 14] 4 (.step [] [0, 5, 6, 7, 8, 11, 12, 13, 14] 9 (.step [] [0, 11, 12, 13, 14] 10 (.fin [15] [11, 12, 13, 14]))) 9 (.step [] [0, 1, 11, 12, 13, 14] 4 (.step [] [0, 11, 12, 13, 14] 10 (.fin [15] [11, 12, 13, 14])))) 9 (.step [] [0, 1, 2, 11, 12, 13, 14] 3 (.step [] [0, 1, 11, 12, 13, 14] 4 (.step [] [0, 11, 12, 13, 14] 10 (.fin [15] [11, 12, 13, 14]))))) mixed (cov_cons rfl rfl (cov_cons rfl rfl (cov_cons rfl rfl (cov_cons rfl rfl (cov_cons rfl rfl cov_nil))))) (by kernel_rfl) (by kernel_rfl) ?_
          all_goals refine wt_alt ?_
          all_goals (refine xp1 7 rfl rfl rfl rfl (by refine o1_move rfl fz) ?_)
          all_goals (refine xp1 0 rfl rfl rfl rfl (by refine o1_move rfl fz) ?_)
          all_goals (refine xp1 11 rfl rfl rfl rfl (by refine o1_move rfl fz) ?_)
          all_goals (refine xp1 11 rfl rfl rfl rfl (by refine o1_move rfl fz) ?_)
          all_goals (refine xp1 43 rfl rfl rfl rfl (by first | refine o1_conv_iu rfl fz | refine o1_conv_iu rfl fz) ?_)
          all_goals (refine xp1 2 rfl rfl rfl rfl (by refine o1_move rfl fz) ?_)
          all_goals (refine xp2 44 45 rfl rfl rfl rfl rfl (by first | refine o1_uxor rfl rfl fz | refine o1_uxor rfl rfl fz) ?_)
          all_goals (refine xp1 8 rfl rfl rfl rfl (by refine o1_move rfl fz) ?_)
          all_goals (refine xp1 11 rfl rfl rfl rfl (by refine o1_move rfl fz) ?_)
          all_goals (refine xp2 49 50 rfl rfl rfl rfl rfl (by refine o1_own m rfl rfl rfl hmN fz) ?_)
          all_goals (refine xp1 51 rfl rfl rfl rfl (by first | ((refine ox_load_enc (enc := Bo) (l := seen) rfl hml ?_; rw [hsm]); all_goals exact fz) | refine ox_load rfl (by rfl) fz | refine ox_load_enc rfl (by first | omega | (simp; omega)) fz | refine ox_load_any rfl (by assumption) fz) ?_)
          all_goals refine op_nil ?_
          all_goals refine re_nil ?_
          refine ⟨?al1_1A, ?al1_1B⟩
          case' al1_1A =>
            all_goals first | (refine ct_run (E' := [(40, _)]) rfl (gd_r0 rfl) rfl (cov_cons rfl rfl cov_nil) ?_; (first | (refine o1_lit_enc (T := 22) I [(m : Int)] rfl rfl rfl (fun _ => rfl) rfl rfl rfl (fun b41 => ?_)) | (refine o1_lit_enc (T := 38) B (uD x m) rfl rfl rfl (fun _ => rfl) rfl rfl rfl (fun b47 => ?_)) | refine o1_lit_B rfl rfl rfl rfl rfl (fun _ => ?_)))
            all_goals refine wt_alt ?_
            all_goals refine op_nil ?_
            all_goals (refine xq1 7 rfl rfl rfl rfl rfl (by refine o1_move rfl fz) ?_)
            all_goals (refine xq1 0 rfl rfl rfl rfl rfl (by refine o1_move rfl fz) ?_)
            all_goals (refine xq1 11 rfl rfl rfl rfl rfl (by refine o1_move rfl fz) ?_)
            all_goals (refine xq1 43 rfl rfl rfl rfl rfl (by first | refine o1_conv_iu rfl fz | refine o1_conv_iu rfl fz) ?_)
            all_goals (refine xq1 2 rfl rfl rfl rfl rfl (by refine o1_move rfl fz) ?_)
            all_goals (refine xq2 44 45 rfl rfl rfl rfl rfl rfl (by first | refine o1_uxor rfl rfl fz | refine o1_uxor rfl rfl fz) ?_)
            all_goals (refine xq1 8 rfl rfl rfl rfl rfl (by refine o1_move rfl fz) ?_)
            all_goals (refine xq1 11 rfl rfl rfl rfl rfl (by refine o1_move rfl fz) ?_)
            all_goals (refine xq2 49 50 rfl rfl rfl rfl rfl rfl (by refine o1_own m rfl rfl rfl hmN fz) ?_)
            all_goals (refine xq1 51 rfl rfl rfl rfl rfl (by first | ((refine ox_load_enc (enc := Bo) (l := seen) rfl hml ?_; rw [hsm]); all_goals exact fz) | refine ox_load rfl (by rfl) fz | refine ox_load_enc rfl (by first | omega | (simp; omega)) fz | refine ox_load_any rfl (by assumption) fz) ?_)
            all_goals refine re_nil ?_
            refine ⟨?al1_2A, ?al1_2B⟩
            case' al1_2A =>
              all_goals first | (refine ct_run (E' := [(39, _), (41, _)]) rfl (gd_r0 rfl) rfl (cov_cons rfl rfl (cov_cons rfl rfl cov_nil)) ?_; (first | (refine o1_call (fun hh => vec_Of _ N (some ⟨b41, 0, none⟩) 1 [(m : Int)] (by omega) (rx_box (T := 3) rfl (by decide) hh)) rfl (fun ⟨b42, a42, c42⟩ _ => ?_); dsimp only; rw [hub])))
              all_goals refine wt_ch ?_
              all_goals refine op_nil ?_
              all_goals (refine xq1 7 rfl rfl rfl rfl rfl (by refine o1_move rfl fz) ?_)
              all_goals (refine xq1 11 rfl rfl rfl rfl rfl (by refine o1_move rfl fz) ?_)
              all_goals (refine xq1 43 rfl rfl rfl rfl rfl (by first | refine o1_conv_iu rfl fz | refine o1_conv_iu rfl fz) ?_)
              all_goals (refine xq1 2 rfl rfl rfl rfl rfl (by refine o1_move rfl fz) ?_)
              all_goals (refine xq2 44 45 rfl rfl rfl rfl rfl rfl (by first | refine o1_uxor rfl rfl fz | refine o1_uxor rfl rfl fz) ?_)
              all_goals (refine xq1 8 rfl rfl rfl rfl rfl (by refine o1_move rfl fz) ?_)
              all_goals (refine xq1 11 rfl rfl rfl rfl rfl (by refine o1_move rfl fz) ?_)
              all_goals (refine xq2 49 50 rfl rfl rfl rfl rfl rfl (by refine o1_own m rfl rfl rfl hmN fz) ?_)
              all_goals (refine xq1 51 rfl rfl rfl rfl rfl (by first | ((refine ox_load_enc (enc := Bo) (l := seen) rfl hml ?_; rw [hsm]); all_goals exact fz) | refine ox_load rfl (by rfl) fz | refine ox_load_enc rfl (by first | omega | (simp; omega)) fz | refine ox_load_any rfl (by assumption) fz) ?_)
              all_goals refine re_nil ?_
              all_goals first | (refine ct_run (E' := [(46, _)]) rfl (gd_r0 rfl) rfl (cov_cons rfl rfl cov_nil) ?_; (first | (refine o1_lit_enc (T := 22) I [(m : Int)] rfl rfl rfl (fun _ => rfl) rfl rfl rfl (fun b41 => ?_)) | (refine o1_lit_enc (T := 38) B (uD x m) rfl rfl rfl (fun _ => rfl) rfl rfl rfl (fun b47 => ?_)) | refine o1_lit_B rfl rfl rfl rfl rfl (fun _ => ?_)))
              all_goals refine wt_ch ?_
              all_goals refine op_nil ?_
              all_goals (refine xq1 7 rfl rfl rfl rfl rfl (by refine o1_move rfl fz) ?_)
              all_goals (refine xq1 8 rfl rfl rfl rfl rfl (by refine o1_move rfl fz) ?_)
              all_goals (refine xq1 11 rfl rfl rfl rfl rfl (by refine o1_move rfl fz) ?_)
              all_goals (refine xq2 49 50 rfl rfl rfl rfl rfl rfl (by refine o1_own m rfl rfl rfl hmN fz) ?_)
              all_goals (refine xq1 51 rfl rfl rfl rfl rfl (by first | ((refine ox_load_enc (enc := Bo) (l := seen) rfl hml ?_; rw [hsm]); all_goals exact fz) | refine ox_load rfl (by rfl) fz | refine ox_load_enc rfl (by first | omega | (simp; omega)) fz | refine ox_load_any rfl (by assumption) fz) ?_)
              all_goals refine re_nil ?_
              all_goals first | (refine ct_run (E' := [(38, _), (42, _), (47, _)]) rfl (gd_r0 rfl) rfl (cov_cons rfl rfl (cov_cons rfl rfl (cov_cons rfl rfl cov_nil))) ?_; (first | (refine o1_call_bra bm ar cr (mrows M) (fun hh => elim_Add _ bm N 1 ar cr (countV seen) M ⟨b42, N, a42, c42, unitL N m⟩ (some ⟨b47, 0, none⟩) 1 1 (uD x m) (unitsM N x seen) (unitL N m, uD x m) m hMk hMv (RdV.own (unitL_len _ _) (by omega) (has_tail (has_tail (has_tail hh)))) rfl (rx_box (T := 5) rfl (by decide) (has_tail (has_tail (has_tail hh)))) rfl rfl hred (unit_first hmN) hfree (by omega) (TabF.up ht)) rfl (fun M1 hM1 => ?_))))
              all_goals refine wt_end ?_
              all_goals (refine xp2 48 52 rfl rfl rfl rfl rfl (by first | refine o1_eqb_r (r := false) rfl rfl rfl fz | refine o1_eqb rfl rfl fz) ?_)
              all_goals refine op_nil ?_
              all_goals (refine xq1 8 rfl rfl rfl rfl rfl (by refine o1_move rfl fz) ?_)
              all_goals (refine xq1 11 rfl rfl rfl rfl rfl (by refine o1_move rfl fz) ?_)
              all_goals (refine xq2 49 50 rfl rfl rfl rfl rfl rfl (by refine o1_own m rfl rfl rfl hmN fz) ?_)
              all_goals (refine xq1 51 rfl rfl rfl rfl rfl (by first | ((refine ox_load_enc (enc := Bo) (l := seen) rfl hml ?_; rw [hsm]); all_goals exact fz) | refine ox_load rfl (by rfl) fz | refine ox_load_enc rfl (by first | omega | (simp; omega)) fz | refine ox_load_any rfl (by assumption) fz) ?_)
              all_goals refine re_nil ?_
            case' al1_2B =>
              all_goals first | (refine ct_run (E' := [(46, _)]) rfl (gd_r0 rfl) rfl (cov_cons rfl rfl cov_nil) ?_; (first | (refine o1_lit_enc (T := 22) I [(m : Int)] rfl rfl rfl (fun _ => rfl) rfl rfl rfl (fun b41 => ?_)) | (refine o1_lit_enc (T := 38) B (uD x m) rfl rfl rfl (fun _ => rfl) rfl rfl rfl (fun b47 => ?_)) | refine o1_lit_B rfl rfl rfl rfl rfl (fun _ => ?_)))
              all_goals refine wt_ch ?_
              all_goals refine op_nil ?_
              all_goals (refine xq1 7 rfl rfl rfl rfl rfl (by refine o1_move rfl fz) ?_)
              all_goals (refine xq1 0 rfl rfl rfl rfl rfl (by refine o1_move rfl fz) ?_)
              all_goals (refine xq1 8 rfl rfl rfl rfl rfl (by refine o1_move rfl fz) ?_)
              all_goals (refine xq1 11 rfl rfl rfl rfl rfl (by refine o1_move rfl fz) ?_)
              all_goals (refine xq2 49 50 rfl rfl rfl rfl rfl rfl (by refine o1_own m rfl rfl rfl hmN fz) ?_)
              all_goals (refine xq1 51 rfl rfl rfl rfl rfl (by first | ((refine ox_load_enc (enc := Bo) (l := seen) rfl hml ?_; rw [hsm]); all_goals exact fz) | refine ox_load rfl (by rfl) fz | refine ox_load_enc rfl (by first | omega | (simp; omega)) fz | refine ox_load_any rfl (by assumption) fz) ?_)
              all_goals refine re_nil ?_
              all_goals first | (refine ct_run (E' := [(39, _), (41, _)]) rfl (gd_r0 rfl) rfl (cov_cons rfl rfl (cov_cons rfl rfl cov_nil)) ?_; (first | (refine o1_call (fun hh => vec_Of _ N (some ⟨b41, 0, none⟩) 1 [(m : Int)] (by omega) (rx_box (T := 3) rfl (by decide) hh)) rfl (fun ⟨b42, a42, c42⟩ _ => ?_); dsimp only; rw [hub])))
              all_goals refine wt_ch ?_
              all_goals refine op_nil ?_
              all_goals (refine xq1 7 rfl rfl rfl rfl rfl (by refine o1_move rfl fz) ?_)
              all_goals (refine xq1 8 rfl rfl rfl rfl rfl (by refine o1_move rfl fz) ?_)
              all_goals (refine xq1 11 rfl rfl rfl rfl rfl (by refine o1_move rfl fz) ?_)
              all_goals (refine xq2 49 50 rfl rfl rfl rfl rfl rfl (by refine o1_own m rfl rfl rfl hmN fz) ?_)
              all_goals (refine xq1 51 rfl rfl rfl rfl rfl (by first | ((refine ox_load_enc (enc := Bo) (l := seen) rfl hml ?_; rw [hsm]); all_goals exact fz) | refine ox_load rfl (by rfl) fz | refine ox_load_enc rfl (by first | omega | (simp; omega)) fz | refine ox_load_any rfl (by assumption) fz) ?_)
              all_goals refine re_nil ?_
              all_goals first | (refine ct_run (E' := [(38, _), (42, _), (47, _)]) rfl (gd_r0 rfl) rfl (cov_cons rfl rfl (cov_cons rfl rfl (cov_cons rfl rfl cov_nil))) ?_; (first | (refine o1_call_bra bm ar cr (mrows M) (fun hh => elim_Add _ bm N 1 ar cr (countV seen) M ⟨b42, N, a42, c42, unitL N m⟩ (some ⟨b47, 0, none⟩) 1 1 (uD x m) (unitsM N x seen) (unitL N m, uD x m) m hMk hMv (RdV.own (unitL_len _ _) (by omega) (has_tail (has_tail (has_tail hh)))) rfl (rx_box (T := 5) rfl (by decide) (has_tail (has_tail (has_tail hh)))) rfl rfl hred (unit_first hmN) hfree (by omega) (TabF.up ht)) rfl (fun M1 hM1 => ?_))))
              all_goals refine wt_end ?_
              all_goals (refine xp2 48 52 rfl rfl rfl rfl rfl (by first | refine o1_eqb_r (r := false) rfl rfl rfl fz | refine o1_eqb rfl rfl fz) ?_)
              all_goals refine op_nil ?_
              all_goals (refine xq1 8 rfl rfl rfl rfl rfl (by refine o1_move rfl fz) ?_)
              all_goals (refine xq1 11 rfl rfl rfl rfl rfl (by refine o1_move rfl fz) ?_)
              all_goals (refine xq2 49 50 rfl rfl rfl rfl rfl rfl (by refine o1_own m rfl rfl rfl hmN fz) ?_)
              all_goals (refine xq1 51 rfl rfl rfl rfl rfl (by first | ((refine ox_load_enc (enc := Bo) (l := seen) rfl hml ?_; rw [hsm]); all_goals exact fz) | refine ox_load rfl (by rfl) fz | refine ox_load_enc rfl (by first | omega | (simp; omega)) fz | refine ox_load_any rfl (by assumption) fz) ?_)
              all_goals refine re_nil ?_
          case' al1_1B =>
            all_goals first | (refine ct_run (E' := [(46, _)]) rfl (gd_r0 rfl) rfl (cov_cons rfl rfl cov_nil) ?_; (first | (refine o1_lit_enc (T := 22) I [(m : Int)] rfl rfl rfl (fun _ => rfl) rfl rfl rfl (fun b41 => ?_)) | (refine o1_lit_enc (T := 38) B (uD x m) rfl rfl rfl (fun _ => rfl) rfl rfl rfl (fun b47 => ?_)) | refine o1_lit_B rfl rfl rfl rfl rfl (fun _ => ?_)))
            all_goals refine wt_ch ?_
            all_goals refine op_nil ?_
            all_goals (refine xq1 7 rfl rfl rfl rfl rfl (by refine o1_move rfl fz) ?_)
            all_goals (refine xq1 0 rfl rfl rfl rfl rfl (by refine o1_move rfl fz) ?_)
            all_goals (refine xq1 11 rfl rfl rfl rfl rfl (by refine o1_move rfl fz) ?_)
            all_goals (refine xq1 8 rfl rfl rfl rfl rfl (by refine o1_move rfl fz) ?_)
            all_goals (refine xq1 11 rfl rfl rfl rfl rfl (by refine o1_move rfl fz) ?_)
            all_goals (refine xq2 49 50 rfl rfl rfl rfl rfl rfl (by refine o1_own m rfl rfl rfl hmN fz) ?_)
            all_goals (refine xq1 51 rfl rfl rfl rfl rfl (by first | ((refine ox_load_enc (enc := Bo) (l := seen) rfl hml ?_; rw [hsm]); all_goals exact fz) | refine ox_load rfl (by rfl) fz | refine ox_load_enc rfl (by first | omega | (simp; omega)) fz | refine ox_load_any rfl (by assumption) fz) ?_)
            all_goals refine re_nil ?_
            all_goals first | (refine ct_run (E' := [(40, _)]) rfl (gd_r0 rfl) rfl (cov_cons rfl rfl cov_nil) ?_; (first | (refine o1_lit_enc (T := 22) I [(m : Int)] rfl rfl rfl (fun _ => rfl) rfl rfl rfl (fun b41 => ?_)) | (refine o1_lit_enc (T := 38) B (uD x m) rfl rfl rfl (fun _ => rfl) rfl rfl rfl (fun b47 => ?_)) | refine o1_lit_B rfl rfl rfl rfl rfl (fun _ => ?_)))
            all_goals refine wt_ch ?_
            all_goals refine op_nil ?_
            all_goals (refine xq1 7 rfl rfl rfl rfl rfl (by refine o1_move rfl fz) ?_)
            all_goals (refine xq1 0 rfl rfl rfl rfl rfl (by refine o1_move rfl fz) ?_)
            all_goals (refine xq1 8 rfl rfl rfl rfl rfl (by refine o1_move rfl fz) ?_)
            all_goals (refine xq1 11 rfl rfl rfl rfl rfl (by refine o1_move rfl fz) ?_)
            all_goals (refine xq2 49 50 rfl rfl rfl rfl rfl rfl (by refine o1_own m rfl rfl rfl hmN fz) ?_)
            all_goals (refine xq1 51 rfl rfl rfl rfl rfl (by first | ((refine ox_load_enc (enc := Bo) (l := seen) rfl hml ?_; rw [hsm]); all_goals exact fz) | refine ox_load rfl (by rfl) fz | refine ox_load_enc rfl (by first | omega | (simp; omega)) fz | refine ox_load_any rfl (by assumption) fz) ?_)
            all_goals refine re_nil ?_
            all_goals first | (refine ct_run (E' := [(39, _), (41, _)]) rfl (gd_r0 rfl) rfl (cov_cons rfl rfl (cov_cons rfl rfl cov_nil)) ?_; (first | (refine o1_call (fun hh => vec_Of _ N (some ⟨b41, 0, none⟩) 1 [(m : Int)] (by omega) (rx_box (T := 3) rfl (by decide) hh)) rfl (fun ⟨b42, a42, c42⟩ _ => ?_); dsimp only; rw [hub])))
            all_goals refine wt_ch ?_
            all_goals refine op_nil ?_
            all_goals (refine xq1 7 rfl rfl rfl rfl rfl (by refine o1_move rfl fz) ?_)
            all_goals (refine xq1 8 rfl rfl rfl rfl rfl (by refine o1_move rfl fz) ?_)
            all_goals (refine xq1 11 rfl rfl rfl rfl rfl (by refine o1_move rfl fz) ?_)
            all_goals (refine xq2 49 50 rfl rfl rfl rfl rfl rfl (by refine o1_own m rfl rfl rfl hmN fz) ?_)
            all_goals (refine xq1 51 rfl rfl rfl rfl rfl (by first | ((refine ox_load_enc (enc := Bo) (l := seen) rfl hml ?_; rw [hsm]); all_goals exact fz) | refine ox_load rfl (by rfl) fz | refine ox_load_enc rfl (by first | omega | (simp; omega)) fz | refine ox_load_any rfl (by assumption) fz) ?_)
            all_goals refine re_nil ?_
            all_goals first | (refine ct_run (E' := [(38, _), (42, _), (47, _)]) rfl (gd_r0 rfl) rfl (cov_cons rfl rfl (cov_cons rfl rfl (cov_cons rfl rfl cov_nil))) ?_; (first | (refine o1_call_bra bm ar cr (mrows M) (fun hh => elim_Add _ bm N 1 ar cr (countV seen) M ⟨b42, N, a42, c42, unitL N m⟩ (some ⟨b47, 0, none⟩) 1 1 (uD x m) (unitsM N x seen) (unitL N m, uD x m) m hMk hMv (RdV.own (unitL_len _ _) (by omega) (has_tail (has_tail (has_tail hh)))) rfl (rx_box (T := 5) rfl (by decide) (has_tail (has_tail (has_tail hh)))) rfl rfl hred (unit_first hmN) hfree (by omega) (TabF.up ht)) rfl (fun M1 hM1 => ?_))))
            all_goals refine wt_end ?_
            all_goals (refine xp2 48 52 rfl rfl rfl rfl rfl (by first | refine o1_eqb_r (r := false) rfl rfl rfl fz | refine o1_eqb rfl rfl fz) ?_)
            all_goals refine op_nil ?_
            all_goals (refine xq1 8 rfl rfl rfl rfl rfl (by refine o1_move rfl fz) ?_)
            all_goals (refine xq1 11 rfl rfl rfl rfl rfl (by refine o1_move rfl fz) ?_)
            all_goals (refine xq2 49 50 rfl rfl rfl rfl rfl rfl (by refine o1_own m rfl rfl rfl hmN fz) ?_)
            all_goals (refine xq1 51 rfl rfl rfl rfl rfl (by first | ((refine ox_load_enc (enc := Bo) (l := seen) rfl hml ?_; rw [hsm]); all_goals exact fz) | refine ox_load rfl (by rfl) fz | refine ox_load_enc rfl (by first | omega | (simp; omega)) fz | refine ox_load_any rfl (by assumption) fz) ?_)
            all_goals refine re_nil ?_
          all_goals dsimp only [List.cons_append, List.nil_append]
          all_goals exact via ⟨_, hadd ▸ hM1.1, hM1.2⟩ _ _ (cov_cons rfl rfl (cov_cons rfl rfl (cov_cons rfl rfl (cov_cons rfl rfl (cov_cons rfl rfl (cov_cons rfl rfl (cov_cons rfl rfl (cov_cons rfl rfl (cov_cons rfl rfl (cov_cons rfl rfl cov_nil)))))))))) (by (try dsimp only [List.cons_append, List.nil_append, List.singleton_append, List.append_nil]); (repeat (first | exact Ent.nil | exact Ent.refl _ | (apply Ent.cons; (repeat (first | exact Sel.here | apply Sel.there))))))
        case restN =>
          rintro ⟨M1, hv1, hk1⟩
          dsimp only
          repeat' (first | refine ls_of rfl ?_ | refine ls_of_no ?_ | refine ls_guard_yes rfl rfl ?_ | refine ls_guard_no rfl rfl rfl rfl ?_ | refine ls_guard_un rfl rfl rfl ?_ | refine o1_move rfl ?_ | refine o1_assign rfl ?_ | refine st_seq ?_ | refine st_region ?_ | refine st_block ?_ | refine st_skip ?_ | refine st_ret ?_ | refine st_exit ?_ | refine st_cond_t rfl ?_ | refine st_cond_f rfl ?_ | refine st_cond rfl (fun _ => ?_) (fun _ => ?_) | refine ls_nil ?_ | refine nx_seq ?_ | refine nx_blk ?_ | refine nx_fn ?_ | refine nx_rounds ?_ | refine xt_seq ?_ | refine xt_here ?_ | refine xt_on rfl ?_ | refine xt_rounds ?_ | refine xt_cut ?_ | refine rt_seq ?_ | refine rt_blk ?_ | refine rt_rounds ?_ | refine rt_cut ?_ | refine o1_own m rfl rfl rfl hmN ?_ | (refine ox_load_enc (enc := Bo) (l := seen) rfl hml ?_; rw [hsm]) | refine ox_store_enc Bo (v := true) (l := seen) rfl rfl hml rfl ?_ | refine o1_call (fun hh => elim_Rank _ bm (countV seen + 1) (RdM.own hk1 hh).fk) rfl (fun _ _ => ?_) | refine o1_neq_f rfl rfl (by push_cast; rfl) ?_ | refine o1_call (fun hh => elim_Full _ bm N (countV seen + 1) (RdM.own hk1 hh).fk (RdM.own hk1 hh).fn) rfl (fun _ _ => ?_) | refine o1_eql_d rfl rfl ?_ | refine o1_neqb_r (r := false) rfl rfl (by simp) ?_ | refine o1_pick_t rfl rfl ?_ | refine o1_pick_f rfl rfl ?_ | refine ox_load rfl (by rfl) ?_ | refine ox_load_enc rfl (by first | omega | (simp; omega)) ?_ | refine ox_load_any rfl (by assumption) ?_ | refine o1_len rfl ?_ | refine o1_add rfl rfl (by omega) ?_ | refine o1_lss_t rfl rfl (by omega) ?_ | refine o1_lss_f rfl rfl (by omega) ?_ | refine o1_lss rfl rfl (fun _ => ?_) (fun _ => ?_) | refine o1_geq_t rfl rfl (by omega) ?_ | refine o1_geq_f rfl rfl (by omega) ?_ | refine o1_geq rfl rfl (fun _ => ?_) (fun _ => ?_) | refine o1_eql_t rfl rfl (by omega) ?_ | refine o1_eql_f rfl rfl (by omega) ?_ | refine o1_eql rfl rfl (fun _ => ?_) (fun _ => ?_) | refine o1_neq_t rfl rfl (by omega) ?_ | refine o1_neq_f rfl rfl (by omega) ?_ | refine o1_neq rfl rfl (fun _ => ?_) (fun _ => ?_) | refine o1_bnot rfl ?_ | refine o1_uxor rfl rfl ?_ | refine o1_unot rfl ?_ | refine o1_conv_i rfl (by omega) ?_ | refine o1_conv_ui rfl (by exact bv_small (by decide) _) ?_ | refine o1_conv_u64 rfl (by omega) ?_ | refine o1_conv_iu rfl ?_ | refine o1_rem_nn rfl rfl (by omega) ?_ | refine o1_eqb rfl rfl ?_ | refine o1_neqb rfl rfl ?_ | refine o1_maken (enc := B) 0#8 rfl rfl rfl rfl (by omega) (by omega) (by omega) (fun _ => ?_) | refine o1_lit_B rfl rfl rfl rfl rfl (fun _ => ?_) | refine ox_store_enc B rfl rfl (by first | omega | (simp; done) | (simp; omega)) rfl ?_ | refine ox_stores rfl rfl (by first | omega | (simp; done) | (simp; omega)) rfl (by first | (simp only [List.set_cons_zero, List.set_cons_succ, Nat.zero_add, Nat.reduceAdd]; rfl) | rfl) ?_)
          refine nx_again (i + 1, seen.set m true, M1) ⟨?_, ?_, hv1, hk1⟩ ?_ (cov_cons rfl rfl (cov_cons rfl rfl (cov_cons rfl rfl (cov_cons rfl rfl (cov_cons rfl ?_ (cov_cons rfl rfl (cov_cons rfl rfl (cov_cons rfl rfl cov_nil)))))))) ?_
          · show i + 1 ≤ order.length; omega
          · show (seen.set m true).length = N
            rw [List.length_set]; exact hsl
          · show order.length - (i + 1) < order.length - i; omega
          · show Value.int _ ((countV seen : Int) + 1) = I (countV (seen.set m true) : Nat)
            rw [hcs]
            rfl
          · show Ent _ [.box b22 4 ((seen.set m true).map Bo), mB bm N 1 ar cr (countV (seen.set m true)), mR N ar cr M1, .any (mrows M1), .any (stars H)]
            rw [hcs]
            (try dsimp only [List.cons_append, List.nil_append, List.singleton_append, List.append_nil]); (repeat (first | exact Ent.nil | exact Ent.refl _ | (apply Ent.cons; (repeat (first | exact Sel.here | apply Sel.there)))))
      · rw [hsm] at hat
        have hred := unit_red_old (x := x) hmN hat
        refine st_via (X := Unit) (fun _ => [(0, I N), (2, B x), (7, .pointer (some ⟨bm, 0, none⟩)), (8, .slice (some ⟨b22, 0, none⟩) N N), (9, I (countV seen : Nat)), (11, I m), (23, .slice ad order.length c), (24, I order.length), (25, I i), (53, .bool false)])
          (fun _ => [.box b22 4 (seen.map Bo), mB bm N 1 ar cr (countV seen), mR N ar cr M, .any (mrows M), .any (stars H)]) ?restO ?walkO
        case walkO =>
          intro via
          refine st_tree [(7, _), (0, _), (11, _), (2, _), (8, _)] rtW5_1 [3, 4, 9, 10] (.alt [0, 1, 2, 5, 6, 7, 8, 11, 12, 13, 14] [] 3 (.alt [] [0, 1, 5, 6, 7, 8, 11, 12, 13, 14] 4 (.step [] [0, 5, 6, 7, 8, 11, 12, 13, 14] 9 (.step [] [0, 11, 12, 13, 14] 10 (.fin [15] [11, 12, 13, 14]))) 9 (.step [] [0, 1, 11, 12, 13, 14] 4 (.step [] [0, 11, 12, 13, 14] 10 (.fin [15] [11, 12, 13, 14])))) 9 (.step [] [0, 1, 2, 11, 12, 13, 14] 3 (.step [] [0, 1, 11, 12, 13, 14] 4 (.step [] [0, 11, 12, 13, 14] 10 (.fin [15] [11, 12, 13, 14]))))) mixed (cov_cons rfl rfl (cov_cons rfl rfl (cov_cons rfl rfl (cov_cons rfl rfl (cov_cons rfl rfl cov_nil))))) (by kernel_rfl) (by kernel_rfl) ?_
          all_goals refine wt_alt ?_
          all_goals (refine xp1 7 rfl rfl rfl rfl (by refine o1_move rfl fz) ?_)
          all_goals (refine xp1 0 rfl rfl rfl rfl (by refine o1_move rfl fz) ?_)
          all_goals (refine xp1 11 rfl rfl rfl rfl (by refine o1_move rfl fz) ?_)
          all_goals (refine xp1 11 rfl rfl rfl rfl (by refine o1_move rfl fz) ?_)
          all_goals (refine xp1 43 rfl rfl rfl rfl (by first | refine o1_conv_iu rfl fz | refine o1_conv_iu rfl fz) ?_)
          all_goals (refine xp1 2 rfl rfl rfl rfl (by refine o1_move rfl fz) ?_)
          all_goals (refine xp2 44 45 rfl rfl rfl rfl rfl (by first | refine o1_uxor rfl rfl fz | refine o1_uxor rfl rfl fz) ?_)
          all_goals (refine xp1 8 rfl rfl rfl rfl (by refine o1_move rfl fz) ?_)
          all_goals (refine xp1 11 rfl rfl rfl rfl (by refine o1_move rfl fz) ?_)
          all_goals (refine xp2 49 50 rfl rfl rfl rfl rfl (by refine o1_own m rfl rfl rfl hmN fz) ?_)
          all_goals (refine xp1 51 rfl rfl rfl rfl (by first | ((refine ox_load_enc (enc := Bo) (l := seen) rfl hml ?_; rw [hsm]); all_goals exact fz) | refine ox_load rfl (by rfl) fz | refine ox_load_enc rfl (by first | omega | (simp; omega)) fz | refine ox_load_any rfl (by assumption) fz) ?_)
          all_goals refine op_nil ?_
          all_goals refine re_nil ?_
          refine ⟨?al2_1A, ?al2_1B⟩
          case' al2_1A =>
            all_goals first | (refine ct_run (E' := [(40, _)]) rfl (gd_r0 rfl) rfl (cov_cons rfl rfl cov_nil) ?_; (first | (refine o1_lit_enc (T := 22) I [(m : Int)] rfl rfl rfl (fun _ => rfl) rfl rfl rfl (fun b41 => ?_)) | (refine o1_lit_enc (T := 38) B (uD x m) rfl rfl rfl (fun _ => rfl) rfl rfl rfl (fun b47 => ?_)) | refine o1_lit_B rfl rfl rfl rfl rfl (fun _ => ?_)))
            all_goals refine wt_alt ?_
            all_goals refine op_nil ?_
            all_goals (refine xq1 7 rfl rfl rfl rfl rfl (by refine o1_move rfl fz) ?_)
            all_goals (refine xq1 0 rfl rfl rfl rfl rfl (by refine o1_move rfl fz) ?_)
            all_goals (refine xq1 11 rfl rfl rfl rfl rfl (by refine o1_move rfl fz) ?_)
            all_goals (refine xq1 43 rfl rfl rfl rfl rfl (by first | refine o1_conv_iu rfl fz | refine o1_conv_iu rfl fz) ?_)
            all_goals (refine xq1 2 rfl rfl rfl rfl rfl (by refine o1_move rfl fz) ?_)
            all_goals (refine xq2 44 45 rfl rfl rfl rfl rfl rfl (by first | refine o1_uxor rfl rfl fz | refine o1_uxor rfl rfl fz) ?_)
            all_goals (refine xq1 8 rfl rfl rfl rfl rfl (by refine o1_move rfl fz) ?_)
            all_goals (refine xq1 11 rfl rfl rfl rfl rfl (by refine o1_move rfl fz) ?_)
            all_goals (refine xq2 49 50 rfl rfl rfl rfl rfl rfl (by refine o1_own m rfl rfl rfl hmN fz) ?_)
            all_goals (refine xq1 51 rfl rfl rfl rfl rfl (by first | ((refine ox_load_enc (enc := Bo) (l := seen) rfl hml ?_; rw [hsm]); all_goals exact fz) | refine ox_load rfl (by rfl) fz | refine ox_load_enc rfl (by first | omega | (simp; omega)) fz | refine ox_load_any rfl (by assumption) fz) ?_)
            all_goals refine re_nil ?_
            refine ⟨?al2_2A, ?al2_2B⟩
            case' al2_2A =>
              all_goals first | (refine ct_run (E' := [(39, _), (41, _)]) rfl (gd_r0 rfl) rfl (cov_cons rfl rfl (cov_cons rfl rfl cov_nil)) ?_; (first | (refine o1_call (fun hh => vec_Of _ N (some ⟨b41, 0, none⟩) 1 [(m : Int)] (by omega) (rx_box (T := 3) rfl (by decide) hh)) rfl (fun ⟨b42, a42, c42⟩ _ => ?_); dsimp only; rw [hub])))
              all_goals refine wt_ch ?_
              all_goals refine op_nil ?_
              all_goals (refine xq1 7 rfl rfl rfl rfl rfl (by refine o1_move rfl fz) ?_)
              all_goals (refine xq1 11 rfl rfl rfl rfl rfl (by refine o1_move rfl fz) ?_)
              all_goals (refine xq1 43 rfl rfl rfl rfl rfl (by first | refine o1_conv_iu rfl fz | refine o1_conv_iu rfl fz) ?_)
              all_goals (refine xq1 2 rfl rfl rfl rfl rfl (by refine o1_move rfl fz) ?_)
              all_goals (refine xq2 44 45 rfl rfl rfl rfl rfl rfl (by first | refine o1_uxor rfl rfl fz | refine o1_uxor rfl rfl fz) ?_)
              all_goals (refine xq1 8 rfl rfl rfl rfl rfl (by refine o1_move rfl fz) ?_)
              all_goals (refine xq1 11 rfl rfl rfl rfl rfl (by refine o1_move rfl fz) ?_)
              all_goals (refine xq2 49 50 rfl rfl rfl rfl rfl rfl (by refine o1_own m rfl rfl rfl hmN fz) ?_)
              all_goals (refine xq1 51 rfl rfl rfl rfl rfl (by first | ((refine ox_load_enc (enc := Bo) (l := seen) rfl hml ?_; rw [hsm]); all_goals exact fz) | refine ox_load rfl (by rfl) fz | refine ox_load_enc rfl (by first | omega | (simp; omega)) fz | refine ox_load_any rfl (by assumption) fz) ?_)
              all_goals refine re_nil ?_
              all_goals first | (refine ct_run (E' := [(46, _)]) rfl (gd_r0 rfl) rfl (cov_cons rfl rfl cov_nil) ?_; (first | (refine o1_lit_enc (T := 22) I [(m : Int)] rfl rfl rfl (fun _ => rfl) rfl rfl rfl (fun b41 => ?_)) | (refine o1_lit_enc (T := 38) B (uD x m) rfl rfl rfl (fun _ => rfl) rfl rfl rfl (fun b47 => ?_)) | refine o1_lit_B rfl rfl rfl rfl rfl (fun _ => ?_)))
              all_goals refine wt_ch ?_
              all_goals refine op_nil ?_
              all_goals (refine xq1 7 rfl rfl rfl rfl rfl (by refine o1_move rfl fz) ?_)
              all_goals (refine xq1 8 rfl rfl rfl rfl rfl (by refine o1_move rfl fz) ?_)
              all_goals (refine xq1 11 rfl rfl rfl rfl rfl (by refine o1_move rfl fz) ?_)
              all_goals (refine xq2 49 50 rfl rfl rfl rfl rfl rfl (by refine o1_own m rfl rfl rfl hmN fz) ?_)
              all_goals (refine xq1 51 rfl rfl rfl rfl rfl (by first | ((refine ox_load_enc (enc := Bo) (l := seen) rfl hml ?_; rw [hsm]); all_goals exact fz) | refine ox_load rfl (by rfl) fz | refine ox_load_enc rfl (by first | omega | (simp; omega)) fz | refine ox_load_any rfl (by assumption) fz) ?_)
              all_goals refine re_nil ?_
              all_goals first | (refine ct_run (E' := [(38, _), (42, _), (47, _)]) rfl (gd_r0 rfl) rfl (cov_cons rfl rfl (cov_cons rfl rfl (cov_cons rfl rfl cov_nil))) ?_; (first | (refine o1_call (fun hh => elim_Add_old _ bm N 1 ar cr (countV seen) M ⟨b42, N, a42, c42, unitL N m⟩ (some ⟨b47, 0, none⟩) 1 1 (uD x m) (unitsM N x seen) (List.replicate N false, [0#8]) (RdM.own hMk hh) hMv (RdV.own (unitL_len _ _) (by omega) hh) rfl (rx_box (T := 5) rfl (by decide) hh) rfl rfl hred (zero_first N) (TabF.up ht)) rfl (fun _ _ => ?_))))
              all_goals refine wt_end ?_
              all_goals (refine xp2 48 52 rfl rfl rfl rfl rfl (by first | refine o1_eqb_r (r := false) rfl rfl rfl fz | refine o1_eqb rfl rfl fz) ?_)
              all_goals refine op_nil ?_
              all_goals (refine xq1 8 rfl rfl rfl rfl rfl (by refine o1_move rfl fz) ?_)
              all_goals (refine xq1 11 rfl rfl rfl rfl rfl (by refine o1_move rfl fz) ?_)
              all_goals (refine xq2 49 50 rfl rfl rfl rfl rfl rfl (by refine o1_own m rfl rfl rfl hmN fz) ?_)
              all_goals (refine xq1 51 rfl rfl rfl rfl rfl (by first | ((refine ox_load_enc (enc := Bo) (l := seen) rfl hml ?_; rw [hsm]); all_goals exact fz) | refine ox_load rfl (by rfl) fz | refine ox_load_enc rfl (by first | omega | (simp; omega)) fz | refine ox_load_any rfl (by assumption) fz) ?_)
              all_goals refine re_nil ?_
            case' al2_2B =>
              all_goals first | (refine ct_run (E' := [(46, _)]) rfl (gd_r0 rfl) rfl (cov_cons rfl rfl cov_nil) ?_; (first | (refine o1_lit_enc (T := 22) I [(m : Int)] rfl rfl rfl (fun _ => rfl) rfl rfl rfl (fun b41 => ?_)) | (refine o1_lit_enc (T := 38) B (uD x m) rfl rfl rfl (fun _ => rfl) rfl rfl rfl (fun b47 => ?_)) | refine o1_lit_B rfl rfl rfl rfl rfl (fun _ => ?_)))
              all_goals refine wt_ch ?_
              all_goals refine op_nil ?_
              all_goals (refine xq1 7 rfl rfl rfl rfl rfl (by refine o1_move rfl fz) ?_)
              all_goals (refine xq1 0 rfl rfl rfl rfl rfl (by refine o1_move rfl fz) ?_)
              all_goals (refine xq1 8 rfl rfl rfl rfl rfl (by refine o1_move rfl fz) ?_)
              all_goals (refine xq1 11 rfl rfl rfl rfl rfl (by refine o1_move rfl fz) ?_)
              all_goals (refine xq2 49 50 rfl rfl rfl rfl rfl rfl (by refine o1_own m rfl rfl rfl hmN fz) ?_)
              all_goals (refine xq1 51 rfl rfl rfl rfl rfl (by first | ((refine ox_load_enc (enc := Bo) (l := seen) rfl hml ?_; rw [hsm]); all_goals exact fz) | refine ox_load rfl (by rfl) fz | refine ox_load_enc rfl (by first | omega | (simp; omega)) fz | refine ox_load_any rfl (by assumption) fz) ?_)
              all_goals refine re_nil ?_
              all_goals first | (refine ct_run (E' := [(39, _), (41, _)]) rfl (gd_r0 rfl) rfl (cov_cons rfl rfl (cov_cons rfl rfl cov_nil)) ?_; (first | (refine o1_call (fun hh => vec_Of _ N (some ⟨b41, 0, none⟩) 1 [(m : Int)] (by omega) (rx_box (T := 3) rfl (by decide) hh)) rfl (fun ⟨b42, a42, c42⟩ _ => ?_); dsimp only; rw [hub])))
              all_goals refine wt_ch ?_
              all_goals refine op_nil ?_
              all_goals (refine xq1 7 rfl rfl rfl rfl rfl (by refine o1_move rfl fz) ?_)
              all_goals (refine xq1 8 rfl rfl rfl rfl rfl (by refine o1_move rfl fz) ?_)
              all_goals (refine xq1 11 rfl rfl rfl rfl rfl (by refine o1_move rfl fz) ?_)
              all_goals (refine xq2 49 50 rfl rfl rfl rfl rfl rfl (by refine o1_own m rfl rfl rfl hmN fz) ?_)
              all_goals (refine xq1 51 rfl rfl rfl rfl rfl (by first | ((refine ox_load_enc (enc := Bo) (l := seen) rfl hml ?_; rw [hsm]); all_goals exact fz) | refine ox_load rfl (by rfl) fz | refine ox_load_enc rfl (by first | omega | (simp; omega)) fz | refine ox_load_any rfl (by assumption) fz) ?_)
              all_goals refine re_nil ?_
              all_goals first | (refine ct_run (E' := [(38, _), (42, _), (47, _)]) rfl (gd_r0 rfl) rfl (cov_cons rfl rfl (cov_cons rfl rfl (cov_cons rfl rfl cov_nil))) ?_; (first | (refine o1_call (fun hh => elim_Add_old _ bm N 1 ar cr (countV seen) M ⟨b42, N, a42, c42, unitL N m⟩ (some ⟨b47, 0, none⟩) 1 1 (uD x m) (unitsM N x seen) (List.replicate N false, [0#8]) (RdM.own hMk hh) hMv (RdV.own (unitL_len _ _) (by omega) hh) rfl (rx_box (T := 5) rfl (by decide) hh) rfl rfl hred (zero_first N) (TabF.up ht)) rfl (fun _ _ => ?_))))
              all_goals refine wt_end ?_
              all_goals (refine xp2 48 52 rfl rfl rfl rfl rfl (by first | refine o1_eqb_r (r := false) rfl rfl rfl fz | refine o1_eqb rfl rfl fz) ?_)
              all_goals refine op_nil ?_
              all_goals (refine xq1 8 rfl rfl rfl rfl rfl (by refine o1_move rfl fz) ?_)
              all_goals (refine xq1 11 rfl rfl rfl rfl rfl (by refine o1_move rfl fz) ?_)
              all_goals (refine xq2 49 50 rfl rfl rfl rfl rfl rfl (by refine o1_own m rfl rfl rfl hmN fz) ?_)
              all_goals (refine xq1 51 rfl rfl rfl rfl rfl (by first | ((refine ox_load_enc (enc := Bo) (l := seen) rfl hml ?_; rw [hsm]); all_goals exact fz) | refine ox_load rfl (by rfl) fz | refine ox_load_enc rfl (by first | omega | (simp; omega)) fz | refine ox_load_any rfl (by assumption) fz) ?_)
              all_goals refine re_nil ?_
          case' al2_1B =>
            all_goals first | (refine ct_run (E' := [(46, _)]) rfl (gd_r0 rfl) rfl (cov_cons rfl rfl cov_nil) ?_; (first | (refine o1_lit_enc (T := 22) I [(m : Int)] rfl rfl rfl (fun _ => rfl) rfl rfl rfl (fun b41 => ?_)) | (refine o1_lit_enc (T := 38) B (uD x m) rfl rfl rfl (fun _ => rfl) rfl rfl rfl (fun b47 => ?_)) | refine o1_lit_B rfl rfl rfl rfl rfl (fun _ => ?_)))
            all_goals refine wt_ch ?_
            all_goals refine op_nil ?_
            all_goals (refine xq1 7 rfl rfl rfl rfl rfl (by refine o1_move rfl fz) ?_)
            all_goals (refine xq1 0 rfl rfl rfl rfl rfl (by refine o1_move rfl fz) ?_)
            all_goals (refine xq1 11 rfl rfl rfl rfl rfl (by refine o1_move rfl fz) ?_)
            all_goals (refine xq1 8 rfl rfl rfl rfl rfl (by refine o1_move rfl fz) ?_)
            all_goals (refine xq1 11 rfl rfl rfl rfl rfl (by refine o1_move rfl fz) ?_)
            all_goals (refine xq2 49 50 rfl rfl rfl rfl rfl rfl (by refine o1_own m rfl rfl rfl hmN fz) ?_)
            all_goals (refine xq1 51 rfl rfl rfl rfl rfl (by first | ((refine ox_load_enc (enc := Bo) (l := seen) rfl hml ?_; rw [hsm]); all_goals exact fz) | refine ox_load rfl (by rfl) fz | refine ox_load_enc rfl (by first | omega | (simp; omega)) fz | refine ox_load_any rfl (by assumption) fz) ?_)
            all_goals refine re_nil ?_
            all_goals first | (refine ct_run (E' := [(40, _)]) rfl (gd_r0 rfl) rfl (cov_cons rfl rfl cov_nil) ?_; (first | (refine o1_lit_enc (T := 22) I [(m : Int)] rfl rfl rfl (fun _ => rfl) rfl rfl rfl (fun b41 => ?_)) | (refine o1_lit_enc (T := 38) B (uD x m) rfl rfl rfl (fun _ => rfl) rfl rfl rfl (fun b47 => ?_)) | refine o1_lit_B rfl rfl rfl rfl rfl (fun _ => ?_)))
            all_goals refine wt_ch ?_
            all_goals refine op_nil ?_
            all_goals (refine xq1 7 rfl rfl rfl rfl rfl (by refine o1_move rfl fz) ?_)
            all_goals (refine xq1 0 rfl rfl rfl rfl rfl (by refine o1_move rfl fz) ?_)
            all_goals (refine xq1 8 rfl rfl rfl rfl rfl (by refine o1_move rfl fz) ?_)
            all_goals (refine xq1 11 rfl rfl rfl rfl rfl (by refine o1_move rfl fz) ?_)
            all_goals (refine xq2 49 50 rfl rfl rfl rfl rfl rfl (by refine o1_own m rfl rfl rfl hmN fz) ?_)
            all_goals (refine xq1 51 rfl rfl rfl rfl rfl (by first | ((refine ox_load_enc (enc := Bo) (l := seen) rfl hml ?_; rw [hsm]); all_goals exact fz) | refine ox_load rfl (by rfl) fz | refine ox_load_enc rfl (by first | omega | (simp; omega)) fz | refine ox_load_any rfl (by assumption) fz) ?_)
            all_goals refine re_nil ?_
            all_goals first | (refine ct_run (E' := [(39, _), (41, _)]) rfl (gd_r0 rfl) rfl (cov_cons rfl rfl (cov_cons rfl rfl cov_nil)) ?_; (first | (refine o1_call (fun hh => vec_Of _ N (some ⟨b41, 0, none⟩) 1 [(m : Int)] (by omega) (rx_box (T := 3) rfl (by decide) hh)) rfl (fun ⟨b42, a42, c42⟩ _ => ?_); dsimp only; rw [hub])))
            all_goals refine wt_ch ?_
            all_goals refine op_nil ?_
            all_goals (refine xq1 7 rfl rfl rfl rfl rfl (by refine o1_move rfl fz) ?_)
            all_goals (refine xq1 8 rfl rfl rfl rfl rfl (by refine o1_move rfl fz) ?_)
            all_goals (refine xq1 11 rfl rfl rfl rfl rfl (by refine o1_move rfl fz) ?_)
            all_goals (refine xq2 49 50 rfl rfl rfl rfl rfl rfl (by refine o1_own m rfl rfl rfl hmN fz) ?_)
            all_goals (refine xq1 51 rfl rfl rfl rfl rfl (by first | ((refine ox_load_enc (enc := Bo) (l := seen) rfl hml ?_; rw [hsm]); all_goals exact fz) | refine ox_load rfl (by rfl) fz | refine ox_load_enc rfl (by first | omega | (simp; omega)) fz | refine ox_load_any rfl (by assumption) fz) ?_)
            all_goals refine re_nil ?_
            all_goals first | (refine ct_run (E' := [(38, _), (42, _), (47, _)]) rfl (gd_r0 rfl) rfl (cov_cons rfl rfl (cov_cons rfl rfl (cov_cons rfl rfl cov_nil))) ?_; (first | (refine o1_call (fun hh => elim_Add_old _ bm N 1 ar cr (countV seen) M ⟨b42, N, a42, c42, unitL N m⟩ (some ⟨b47, 0, none⟩) 1 1 (uD x m) (unitsM N x seen) (List.replicate N false, [0#8]) (RdM.own hMk hh) hMv (RdV.own (unitL_len _ _) (by omega) hh) rfl (rx_box (T := 5) rfl (by decide) hh) rfl rfl hred (zero_first N) (TabF.up ht)) rfl (fun _ _ => ?_))))
            all_goals refine wt_end ?_
            all_goals (refine xp2 48 52 rfl rfl rfl rfl rfl (by first | refine o1_eqb_r (r := false) rfl rfl rfl fz | refine o1_eqb rfl rfl fz) ?_)
            all_goals refine op_nil ?_
            all_goals (refine xq1 8 rfl rfl rfl rfl rfl (by refine o1_move rfl fz) ?_)
            all_goals (refine xq1 11 rfl rfl rfl rfl rfl (by refine o1_move rfl fz) ?_)
            all_goals (refine xq2 49 50 rfl rfl rfl rfl rfl rfl (by refine o1_own m rfl rfl rfl hmN fz) ?_)
            all_goals (refine xq1 51 rfl rfl rfl rfl rfl (by first | ((refine ox_load_enc (enc := Bo) (l := seen) rfl hml ?_; rw [hsm]); all_goals exact fz) | refine ox_load rfl (by rfl) fz | refine ox_load_enc rfl (by first | omega | (simp; omega)) fz | refine ox_load_any rfl (by assumption) fz) ?_)
            all_goals refine re_nil ?_
          all_goals dsimp only [List.cons_append, List.nil_append]
          all_goals exact via () _ _ (cov_cons rfl rfl (cov_cons rfl rfl (cov_cons rfl rfl (cov_cons rfl rfl (cov_cons rfl rfl (cov_cons rfl rfl (cov_cons rfl rfl (cov_cons rfl rfl (cov_cons rfl rfl (cov_cons rfl rfl cov_nil)))))))))) (by (try dsimp only [List.cons_append, List.nil_append, List.singleton_append, List.append_nil]); (repeat (first | exact Ent.nil | exact Ent.refl _ | (apply Ent.cons; (repeat (first | exact Sel.here | apply Sel.there))))))
        case restO =>
          intro _
          repeat' (first | refine ls_of rfl ?_ | refine ls_of_no ?_ | refine ls_guard_yes rfl rfl ?_ | refine ls_guard_no rfl rfl rfl rfl ?_ | refine ls_guard_un rfl rfl rfl ?_ | refine o1_move rfl ?_ | refine o1_assign rfl ?_ | refine st_seq ?_ | refine st_region ?_ | refine st_block ?_ | refine st_skip ?_ | refine st_ret ?_ | refine st_exit ?_ | refine st_cond_t rfl ?_ | refine st_cond_f rfl ?_ | refine st_cond rfl (fun _ => ?_) (fun _ => ?_) | refine ls_nil ?_ | refine nx_seq ?_ | refine nx_blk ?_ | refine nx_fn ?_ | refine nx_rounds ?_ | refine xt_seq ?_ | refine xt_here ?_ | refine xt_on rfl ?_ | refine xt_rounds ?_ | refine xt_cut ?_ | refine rt_seq ?_ | refine rt_blk ?_ | refine rt_rounds ?_ | refine rt_cut ?_ | refine o1_own m rfl rfl rfl hmN ?_ | (refine ox_load_enc (enc := Bo) (l := seen) rfl hml ?_; rw [hsm]) | refine o1_call (fun hh => elim_Rank _ bm (countV seen) (RdM.own hMk hh).fk) rfl (fun _ _ => ?_) | refine o1_neq_f rfl rfl rfl ?_ | refine o1_call (fun hh => elim_Full _ bm N (countV seen) (RdM.own hMk hh).fk (RdM.own hMk hh).fn) rfl (fun _ _ => ?_) | refine o1_eql_d rfl rfl ?_ | refine o1_neqb_r (r := false) rfl rfl (by simp) ?_ | refine o1_pick_t rfl rfl ?_ | refine o1_pick_f rfl rfl ?_ | refine ox_load rfl (by rfl) ?_ | refine ox_load_enc rfl (by first | omega | (simp; omega)) ?_ | refine ox_load_any rfl (by assumption) ?_ | refine o1_len rfl ?_ | refine o1_add rfl rfl (by omega) ?_ | refine o1_lss_t rfl rfl (by omega) ?_ | refine o1_lss_f rfl rfl (by omega) ?_ | refine o1_lss rfl rfl (fun _ => ?_) (fun _ => ?_) | refine o1_geq_t rfl rfl (by omega) ?_ | refine o1_geq_f rfl rfl (by omega) ?_ | refine o1_geq rfl rfl (fun _ => ?_) (fun _ => ?_) | refine o1_eql_t rfl rfl (by omega) ?_ | refine o1_eql_f rfl rfl (by omega) ?_ | refine o1_eql rfl rfl (fun _ => ?_) (fun _ => ?_) | refine o1_neq_t rfl rfl (by omega) ?_ | refine o1_neq_f rfl rfl (by omega) ?_ | refine o1_neq rfl rfl (fun _ => ?_) (fun _ => ?_) | refine o1_bnot rfl ?_ | refine o1_uxor rfl rfl ?_ | refine o1_unot rfl ?_ | refine o1_conv_i rfl (by omega) ?_ | refine o1_conv_ui rfl (by exact bv_small (by decide) _) ?_ | refine o1_conv_u64 rfl (by omega) ?_ | refine o1_conv_iu rfl ?_ | refine o1_rem_nn rfl rfl (by omega) ?_ | refine o1_eqb rfl rfl ?_ | refine o1_neqb rfl rfl ?_ | refine o1_maken (enc := B) 0#8 rfl rfl rfl rfl (by omega) (by omega) (by omega) (fun _ => ?_) | refine o1_lit_B rfl rfl rfl rfl rfl (fun _ => ?_) | refine ox_store_enc B rfl rfl (by first | omega | (simp; done) | (simp; omega)) rfl ?_ | refine ox_stores rfl rfl (by first | omega | (simp; done) | (simp; omega)) rfl (by first | (simp only [List.set_cons_zero, List.set_cons_succ, Nat.zero_add, Nat.reduceAdd]; rfl) | rfl) ?_)
          refine nx_again (i + 1, seen, M) ⟨?_, hsl, hMv, hMk⟩ ?_ (cov_cons rfl rfl (cov_cons rfl rfl (cov_cons rfl rfl (cov_cons rfl rfl (cov_cons rfl rfl (cov_cons rfl rfl (cov_cons rfl rfl (cov_cons rfl rfl cov_nil)))))))) ?_
          · show i + 1 ≤ order.length; omega
          · show order.length - (i + 1) < order.length - i; omega
          (try dsimp only [List.cons_append, List.nil_append, List.singleton_append, List.append_nil]); (repeat (first | exact Ent.nil | exact Ent.refl _ | (apply Ent.cons; (repeat (first | exact Sel.here | apply Sel.there)))))
  · have : i = order.length := by omega
    subst this
    repeat' (first | refine ls_of rfl ?_ | refine ls_of_no ?_ | refine ls_guard_yes rfl rfl ?_ | refine ls_guard_no rfl rfl rfl rfl ?_ | refine ls_guard_un rfl rfl rfl ?_ | refine o1_move rfl ?_ | refine o1_assign rfl ?_ | refine st_seq ?_ | refine st_region ?_ | refine st_block ?_ | refine st_skip ?_ | refine st_ret ?_ | refine st_exit ?_ | refine st_cond_t rfl ?_ | refine st_cond_f rfl ?_ | refine st_cond rfl (fun _ => ?_) (fun _ => ?_) | refine ls_nil ?_ | refine nx_seq ?_ | refine nx_blk ?_ | refine nx_fn ?_ | refine nx_rounds ?_ | refine xt_seq ?_ | refine xt_here ?_ | refine xt_on rfl ?_ | refine xt_rounds ?_ | refine xt_cut ?_ | refine rt_seq ?_ | refine rt_blk ?_ | refine rt_rounds ?_ | refine rt_cut ?_ | refine o1_pick_t rfl rfl ?_ | refine o1_pick_f rfl rfl ?_ | refine ox_load rfl (by rfl) ?_ | refine ox_load_enc rfl (by first | omega | (simp; omega)) ?_ | refine ox_load_any rfl (by assumption) ?_ | refine o1_len rfl ?_ | refine o1_add rfl rfl (by omega) ?_ | refine o1_lss_t rfl rfl (by omega) ?_ | refine o1_lss_f rfl rfl (by omega) ?_ | refine o1_lss rfl rfl (fun _ => ?_) (fun _ => ?_) | refine o1_geq_t rfl rfl (by omega) ?_ | refine o1_geq_f rfl rfl (by omega) ?_ | refine o1_geq rfl rfl (fun _ => ?_) (fun _ => ?_) | refine o1_eql_t rfl rfl (by omega) ?_ | refine o1_eql_f rfl rfl (by omega) ?_ | refine o1_eql rfl rfl (fun _ => ?_) (fun _ => ?_) | refine o1_neq_t rfl rfl (by omega) ?_ | refine o1_neq_f rfl rfl (by omega) ?_ | refine o1_neq rfl rfl (fun _ => ?_) (fun _ => ?_) | refine o1_bnot rfl ?_ | refine o1_uxor rfl rfl ?_ | refine o1_unot rfl ?_ | refine o1_conv_i rfl (by omega) ?_ | refine o1_conv_ui rfl (by exact bv_small (by decide) _) ?_ | refine o1_conv_u64 rfl (by omega) ?_ | refine o1_conv_iu rfl ?_ | refine o1_rem_nn rfl rfl (by omega) ?_ | refine o1_eqb rfl rfl ?_ | refine o1_neqb rfl rfl ?_ | refine o1_maken (enc := B) 0#8 rfl rfl rfl rfl (by omega) (by omega) (by omega) (fun _ => ?_) | refine o1_lit_B rfl rfl rfl rfl rfl (fun _ => ?_) | refine ox_store_enc B rfl rfl (by first | omega | (simp; done) | (simp; omega)) rfl ?_ | refine ox_stores rfl rfl (by first | omega | (simp; done) | (simp; omega)) rfl (by first | (simp only [List.set_cons_zero, List.set_cons_succ, Nat.zero_add, Nat.reduceAdd]; rfl) | rfl) ?_)
    by_cases hfull : countV seen = N
    · have hall := unit_full (x := x) hsl hfull
      rw [hall] at hMv
      obtain ⟨R, hR1, hR2⟩ := all_some hMv
      rw [hfull]
      repeat' (first | refine ls_of rfl ?_ | refine ls_of_no ?_ | refine ls_guard_yes rfl rfl ?_ | refine ls_guard_no rfl rfl rfl rfl ?_ | refine ls_guard_un rfl rfl rfl ?_ | refine o1_move rfl ?_ | refine o1_assign rfl ?_ | refine st_seq ?_ | refine st_region ?_ | refine st_block ?_ | refine st_skip ?_ | refine st_ret ?_ | refine st_exit ?_ | refine st_cond_t rfl ?_ | refine st_cond_f rfl ?_ | refine st_cond rfl (fun _ => ?_) (fun _ => ?_) | refine ls_nil ?_ | refine nx_seq ?_ | refine nx_blk ?_ | refine nx_fn ?_ | refine nx_rounds ?_ | refine xt_seq ?_ | refine xt_here ?_ | refine xt_on rfl ?_ | refine xt_rounds ?_ | refine xt_cut ?_ | refine rt_seq ?_ | refine rt_blk ?_ | refine rt_rounds ?_ | refine rt_cut ?_ | (refine o1_call (fun hh => elim_Solve _ bm N 1 ar cr M R (RdM.own hMk hh) hR1) rfl (fun ⟨a4, c4, ps⟩ hps => ?_); dsimp only at hps ⊢) | refine o1_pick_t rfl rfl ?_ | refine o1_pick_f rfl rfl ?_ | refine ox_load rfl (by rfl) ?_ | refine ox_load_enc rfl (by first | omega | (simp; omega)) ?_ | refine ox_load_any rfl (by assumption) ?_ | refine o1_len rfl ?_ | refine o1_add rfl rfl (by omega) ?_ | refine o1_lss_t rfl rfl (by omega) ?_ | refine o1_lss_f rfl rfl (by omega) ?_ | refine o1_lss rfl rfl (fun _ => ?_) (fun _ => ?_) | refine o1_geq_t rfl rfl (by omega) ?_ | refine o1_geq_f rfl rfl (by omega) ?_ | refine o1_geq rfl rfl (fun _ => ?_) (fun _ => ?_) | refine o1_eql_t rfl rfl (by omega) ?_ | refine o1_eql_f rfl rfl (by omega) ?_ | refine o1_eql rfl rfl (fun _ => ?_) (fun _ => ?_) | refine o1_neq_t rfl rfl (by omega) ?_ | refine o1_neq_f rfl rfl (by omega) ?_ | refine o1_neq rfl rfl (fun _ => ?_) (fun _ => ?_) | refine o1_bnot rfl ?_ | refine o1_uxor rfl rfl ?_ | refine o1_unot rfl ?_ | refine o1_conv_i rfl (by omega) ?_ | refine o1_conv_ui rfl (by exact bv_small (by decide) _) ?_ | refine o1_conv_u64 rfl (by omega) ?_ | refine o1_conv_iu rfl ?_ | refine o1_rem_nn rfl rfl (by omega) ?_ | refine o1_eqb rfl rfl ?_ | refine o1_neqb rfl rfl ?_ | refine o1_maken (enc := B) 0#8 rfl rfl rfl rfl (by omega) (by omega) (by omega) (fun _ => ?_) | refine o1_lit_B rfl rfl rfl rfl rfl (fun _ => ?_) | refine ox_store_enc B rfl rfl (by first | omega | (simp; done) | (simp; omega)) rfl ?_ | refine ox_stores rfl rfl (by first | omega | (simp; done) | (simp; omega)) rfl (by first | (simp only [List.set_cons_zero, List.set_cons_succ, Nat.zero_add, Nat.reduceAdd]; rfl) | rfl) ?_)
      have hps2 : ps.map (·.l) = (List.range N).map (uD x) := by
        rw [hps]
        have := congrArg (List.map (·.2)) hR2
        rw [List.map_map, List.map_map] at this
        exact this
      have hpl : ps.length = N := by have := congrArg List.length hps2; simpa using this
      refine st_loop (S := Nat) (fun j => [(0, I N), (2, B x), (78, .slice a4 ps.length c4), (79, I ps.length), (80, I j)]) (fun j => [.row 38 1 (.slice a4 ps.length c4) ps.length (ps.map Bs), .any (pcs 5 ps), .any (stars H)]) (fun j => j ≤ ps.length) (fun j => ps.length - j) 0 (Nat.zero_le _)
        (cov_cons rfl rfl (cov_cons rfl rfl (cov_cons rfl rfl (cov_cons rfl rfl (cov_cons rfl rfl cov_nil))))) (by (try dsimp only [List.cons_append, List.nil_append, List.singleton_append, List.append_nil]); (repeat (first | exact Ent.nil | exact Ent.refl _ | (apply Ent.cons; (repeat (first | exact Sel.here | apply Sel.there)))))) ?_
      intro j hj
      by_cases hjt : j < ps.length
      · obtain ⟨p, hp⟩ : ∃ p, ps[j] = p := ⟨_, rfl⟩
        have hpm : p ∈ ps := hp ▸ List.getElem_mem _
        have hpl1 : p.l = uD x j := by
          have h1 : (ps.map (·.l))[j]? = some (uD x j) := by rw [hps2, List.getElem?_map, List.getElem?_range (by omega)]; rfl
          simpa [List.getElem?_map, hjt, hp] using h1
        have hpln : p.l.length = 1 := by rw [hpl1]; rfl
        have hBp : Bs p = .slice p.ad 1 p.cap := by show Value.slice _ _ _ = _; rw [hpl1]; rfl
        have hp0 : p.l[0]? = some (BitVec.ofInt 8 (j : Int) ^^^ x) := by rw [hpl1]; rfl
        repeat' (first | refine ls_of rfl ?_ | refine ls_of_no ?_ | refine ls_guard_yes rfl rfl ?_ | refine ls_guard_no rfl rfl rfl rfl ?_ | refine ls_guard_un rfl rfl rfl ?_ | refine o1_move rfl ?_ | refine o1_assign rfl ?_ | refine st_seq ?_ | refine st_region ?_ | refine st_block ?_ | refine st_skip ?_ | refine st_ret ?_ | refine st_exit ?_ | refine st_cond_t rfl ?_ | refine st_cond_f rfl ?_ | refine st_cond rfl (fun _ => ?_) (fun _ => ?_) | refine ls_nil ?_ | refine nx_seq ?_ | refine nx_blk ?_ | refine nx_fn ?_ | refine nx_rounds ?_ | refine xt_seq ?_ | refine xt_here ?_ | refine xt_on rfl ?_ | refine xt_rounds ?_ | refine xt_cut ?_ | refine rt_seq ?_ | refine rt_blk ?_ | refine rt_rounds ?_ | refine rt_cut ?_ | refine o1_iah (enc := Bs) (ad := a4) (c := c4) (xs := ps) j rfl rfl rx_row rfl rfl hjt ?_ | (refine o1_load_iah (enc := Bs) (ad := a4) (c := c4) (xs := ps) j rfl rx_row hjt ?_; rw [hp, hBp]) | refine o1_geq_f rfl rfl (by omega) ?_ | refine o1_iah (enc := B) (xs := p.l) 0 rfl rfl (fun hh => pcs_read (T := 5) (ls := ps) hpm hh) hpln.symm rfl (by omega) ?_ | refine o1_load_hv (enc := B) (c := p.cap) 0 _ rfl (fun hh => pcs_read (T := 5) (ls := ps) hpm hh) hp0 ?_ | refine o1_conv_iu rfl ?_ | refine o1_uxor rfl rfl ?_ | refine o1_neq_f rfl rfl rfl ?_ | refine o1_pick_t rfl rfl ?_ | refine o1_pick_f rfl rfl ?_ | refine ox_load rfl (by rfl) ?_ | refine ox_load_enc rfl (by first | omega | (simp; omega)) ?_ | refine ox_load_any rfl (by assumption) ?_ | refine o1_len rfl ?_ | refine o1_add rfl rfl (by omega) ?_ | refine o1_lss_t rfl rfl (by omega) ?_ | refine o1_lss_f rfl rfl (by omega) ?_ | refine o1_lss rfl rfl (fun _ => ?_) (fun _ => ?_) | refine o1_geq_t rfl rfl (by omega) ?_ | refine o1_geq_f rfl rfl (by omega) ?_ | refine o1_geq rfl rfl (fun _ => ?_) (fun _ => ?_) | refine o1_eql_t rfl rfl (by omega) ?_ | refine o1_eql_f rfl rfl (by omega) ?_ | refine o1_eql rfl rfl (fun _ => ?_) (fun _ => ?_) | refine o1_neq_t rfl rfl (by omega) ?_ | refine o1_neq_f rfl rfl (by omega) ?_ | refine o1_neq rfl rfl (fun _ => ?_) (fun _ => ?_) | refine o1_bnot rfl ?_ | refine o1_uxor rfl rfl ?_ | refine o1_unot rfl ?_ | refine o1_conv_i rfl (by omega) ?_ | refine o1_conv_ui rfl (by exact bv_small (by decide) _) ?_ | refine o1_conv_u64 rfl (by omega) ?_ | refine o1_conv_iu rfl ?_ | refine o1_rem_nn rfl rfl (by omega) ?_ | refine o1_eqb rfl rfl ?_ | refine o1_neqb rfl rfl ?_ | refine o1_maken (enc := B) 0#8 rfl rfl rfl rfl (by omega) (by omega) (by omega) (fun _ => ?_) | refine o1_lit_B rfl rfl rfl rfl rfl (fun _ => ?_) | refine ox_store_enc B rfl rfl (by first | omega | (simp; done) | (simp; omega)) rfl ?_ | refine ox_stores rfl rfl (by first | omega | (simp; done) | (simp; omega)) rfl (by first | (simp only [List.set_cons_zero, List.set_cons_succ, Nat.zero_add, Nat.reduceAdd]; rfl) | rfl) ?_)
        refine nx_again (j + 1) (by omega) (by omega) (cov_cons rfl rfl (cov_cons rfl rfl (cov_cons rfl rfl (cov_cons rfl rfl (cov_cons rfl rfl cov_nil))))) ?_
        (try dsimp only [List.cons_append, List.nil_append, List.singleton_append, List.append_nil]); (repeat (first | exact Ent.nil | exact Ent.refl _ | (apply Ent.cons; (repeat (first | exact Sel.here | apply Sel.there)))))
      · have : j = ps.length := by omega
        subst this
        repeat' (first | refine ls_of rfl ?_ | refine ls_of_no ?_ | refine ls_guard_yes rfl rfl ?_ | refine ls_guard_no rfl rfl rfl rfl ?_ | refine ls_guard_un rfl rfl rfl ?_ | refine o1_move rfl ?_ | refine o1_assign rfl ?_ | refine st_seq ?_ | refine st_region ?_ | refine st_block ?_ | refine st_skip ?_ | refine st_ret ?_ | refine st_exit ?_ | refine st_cond_t rfl ?_ | refine st_cond_f rfl ?_ | refine st_cond rfl (fun _ => ?_) (fun _ => ?_) | refine ls_nil ?_ | refine nx_seq ?_ | refine nx_blk ?_ | refine nx_fn ?_ | refine nx_rounds ?_ | refine xt_seq ?_ | refine xt_here ?_ | refine xt_on rfl ?_ | refine xt_rounds ?_ | refine xt_cut ?_ | refine rt_seq ?_ | refine rt_blk ?_ | refine rt_rounds ?_ | refine rt_cut ?_ | refine o1_call (fun _ => awake6 _ ht.up) rfl (fun _ _ => ?_) | refine o1_pick_t rfl rfl ?_ | refine o1_pick_f rfl rfl ?_ | refine ox_load rfl (by rfl) ?_ | refine ox_load_enc rfl (by first | omega | (simp; omega)) ?_ | refine ox_load_any rfl (by assumption) ?_ | refine o1_len rfl ?_ | refine o1_add rfl rfl (by omega) ?_ | refine o1_lss_t rfl rfl (by omega) ?_ | refine o1_lss_f rfl rfl (by omega) ?_ | refine o1_lss rfl rfl (fun _ => ?_) (fun _ => ?_) | refine o1_geq_t rfl rfl (by omega) ?_ | refine o1_geq_f rfl rfl (by omega) ?_ | refine o1_geq rfl rfl (fun _ => ?_) (fun _ => ?_) | refine o1_eql_t rfl rfl (by omega) ?_ | refine o1_eql_f rfl rfl (by omega) ?_ | refine o1_eql rfl rfl (fun _ => ?_) (fun _ => ?_) | refine o1_neq_t rfl rfl (by omega) ?_ | refine o1_neq_f rfl rfl (by omega) ?_ | refine o1_neq rfl rfl (fun _ => ?_) (fun _ => ?_) | refine o1_bnot rfl ?_ | refine o1_uxor rfl rfl ?_ | refine o1_unot rfl ?_ | refine o1_conv_i rfl (by omega) ?_ | refine o1_conv_ui rfl (by exact bv_small (by decide) _) ?_ | refine o1_conv_u64 rfl (by omega) ?_ | refine o1_conv_iu rfl ?_ | refine o1_rem_nn rfl rfl (by omega) ?_ | refine o1_eqb rfl rfl ?_ | refine o1_neqb rfl rfl ?_ | refine o1_maken (enc := B) 0#8 rfl rfl rfl rfl (by omega) (by omega) (by omega) (fun _ => ?_) | refine o1_lit_B rfl rfl rfl rfl rfl (fun _ => ?_) | refine ox_store_enc B rfl rfl (by first | omega | (simp; done) | (simp; omega)) rfl ?_ | refine ox_stores rfl rfl (by first | omega | (simp; done) | (simp; omega)) rfl (by first | (simp only [List.set_cons_zero, List.set_cons_succ, Nat.zero_add, Nat.reduceAdd]; rfl) | rfl) ?_)
        refine rt_tmp () rfl rfl rfl trivial ?_
        (try dsimp only [List.cons_append, List.nil_append, List.singleton_append, List.append_nil]); (repeat (first | exact Ent.nil | exact Ent.refl _ | (apply Ent.cons; (repeat (first | exact Sel.here | apply Sel.there)))))
    · repeat' (first | refine ls_of rfl ?_ | refine ls_of_no ?_ | refine ls_guard_yes rfl rfl ?_ | refine ls_guard_no rfl rfl rfl rfl ?_ | refine ls_guard_un rfl rfl rfl ?_ | refine o1_move rfl ?_ | refine o1_assign rfl ?_ | refine st_seq ?_ | refine st_region ?_ | refine st_block ?_ | refine st_skip ?_ | refine st_ret ?_ | refine st_exit ?_ | refine st_cond_t rfl ?_ | refine st_cond_f rfl ?_ | refine st_cond rfl (fun _ => ?_) (fun _ => ?_) | refine ls_nil ?_ | refine nx_seq ?_ | refine nx_blk ?_ | refine nx_fn ?_ | refine nx_rounds ?_ | refine xt_seq ?_ | refine xt_here ?_ | refine xt_on rfl ?_ | refine xt_rounds ?_ | refine xt_cut ?_ | refine rt_seq ?_ | refine rt_blk ?_ | refine rt_rounds ?_ | refine rt_cut ?_ | refine o1_call (fun hh => elim_Solve_no _ bm N (countV seen) (RdM.own hMk hh).fk (RdM.own hMk hh).fn hfull) rfl (fun _ _ => ?_) | refine o1_pick_t rfl rfl ?_ | refine o1_pick_f rfl rfl ?_ | refine ox_load rfl (by rfl) ?_ | refine ox_load_enc rfl (by first | omega | (simp; omega)) ?_ | refine ox_load_any rfl (by assumption) ?_ | refine o1_len rfl ?_ | refine o1_add rfl rfl (by omega) ?_ | refine o1_lss_t rfl rfl (by omega) ?_ | refine o1_lss_f rfl rfl (by omega) ?_ | refine o1_lss rfl rfl (fun _ => ?_) (fun _ => ?_) | refine o1_geq_t rfl rfl (by omega) ?_ | refine o1_geq_f rfl rfl (by omega) ?_ | refine o1_geq rfl rfl (fun _ => ?_) (fun _ => ?_) | refine o1_eql_t rfl rfl (by omega) ?_ | refine o1_eql_f rfl rfl (by omega) ?_ | refine o1_eql rfl rfl (fun _ => ?_) (fun _ => ?_) | refine o1_neq_t rfl rfl (by omega) ?_ | refine o1_neq_f rfl rfl (by omega) ?_ | refine o1_neq rfl rfl (fun _ => ?_) (fun _ => ?_) | refine o1_bnot rfl ?_ | refine o1_uxor rfl rfl ?_ | refine o1_unot rfl ?_ | refine o1_conv_i rfl (by omega) ?_ | refine o1_conv_ui rfl (by exact bv_small (by decide) _) ?_ | refine o1_conv_u64 rfl (by omega) ?_ | refine o1_conv_iu rfl ?_ | refine o1_rem_nn rfl rfl (by omega) ?_ | refine o1_eqb rfl rfl ?_ | refine o1_neqb rfl rfl ?_ | refine o1_maken (enc := B) 0#8 rfl rfl rfl rfl (by omega) (by omega) (by omega) (fun _ => ?_) | refine o1_lit_B rfl rfl rfl rfl rfl (fun _ => ?_) | refine ox_store_enc B rfl rfl (by first | omega | (simp; done) | (simp; omega)) rfl ?_ | refine ox_stores rfl rfl (by first | omega | (simp; done) | (simp; omega)) rfl (by first | (simp only [List.set_cons_zero, List.set_cons_succ, Nat.zero_add, Nat.reduceAdd]; rfl) | rfl) ?_)
      refine st_rounds 1 ?_
      repeat' (first | refine ls_of rfl ?_ | refine ls_of_no ?_ | refine ls_guard_yes rfl rfl ?_ | refine ls_guard_no rfl rfl rfl rfl ?_ | refine ls_guard_un rfl rfl rfl ?_ | refine o1_move rfl ?_ | refine o1_assign rfl ?_ | refine st_seq ?_ | refine st_region ?_ | refine st_block ?_ | refine st_skip ?_ | refine st_ret ?_ | refine st_exit ?_ | refine st_cond_t rfl ?_ | refine st_cond_f rfl ?_ | refine st_cond rfl (fun _ => ?_) (fun _ => ?_) | refine ls_nil ?_ | refine nx_seq ?_ | refine nx_blk ?_ | refine nx_fn ?_ | refine nx_rounds ?_ | refine xt_seq ?_ | refine xt_here ?_ | refine xt_on rfl ?_ | refine xt_rounds ?_ | refine xt_cut ?_ | refine rt_seq ?_ | refine rt_blk ?_ | refine rt_rounds ?_ | refine rt_cut ?_ | refine o1_call (fun _ => awake6 _ ht.up) rfl (fun _ _ => ?_) | refine o1_pick_t rfl rfl ?_ | refine o1_pick_f rfl rfl ?_ | refine ox_load rfl (by rfl) ?_ | refine ox_load_enc rfl (by first | omega | (simp; omega)) ?_ | refine ox_load_any rfl (by assumption) ?_ | refine o1_len rfl ?_ | refine o1_add rfl rfl (by omega) ?_ | refine o1_lss_t rfl rfl (by omega) ?_ | refine o1_lss_f rfl rfl (by omega) ?_ | refine o1_lss rfl rfl (fun _ => ?_) (fun _ => ?_) | refine o1_geq_t rfl rfl (by omega) ?_ | refine o1_geq_f rfl rfl (by omega) ?_ | refine o1_geq rfl rfl (fun _ => ?_) (fun _ => ?_) | refine o1_eql_t rfl rfl (by omega) ?_ | refine o1_eql_f rfl rfl (by omega) ?_ | refine o1_eql rfl rfl (fun _ => ?_) (fun _ => ?_) | refine o1_neq_t rfl rfl (by omega) ?_ | refine o1_neq_f rfl rfl (by omega) ?_ | refine o1_neq rfl rfl (fun _ => ?_) (fun _ => ?_) | refine o1_bnot rfl ?_ | refine o1_uxor rfl rfl ?_ | refine o1_unot rfl ?_ | refine o1_conv_i rfl (by omega) ?_ | refine o1_conv_ui rfl (by exact bv_small (by decide) _) ?_ | refine o1_conv_u64 rfl (by omega) ?_ | refine o1_conv_iu rfl ?_ | refine o1_rem_nn rfl rfl (by omega) ?_ | refine o1_eqb rfl rfl ?_ | refine o1_neqb rfl rfl ?_ | refine o1_maken (enc := B) 0#8 rfl rfl rfl rfl (by omega) (by omega) (by omega) (fun _ => ?_) | refine o1_lit_B rfl rfl rfl rfl rfl (fun _ => ?_) | refine ox_store_enc B rfl rfl (by first | omega | (simp; done) | (simp; omega)) rfl ?_ | refine ox_stores rfl rfl (by first | omega | (simp; done) | (simp; omega)) rfl (by first | (simp only [List.set_cons_zero, List.set_cons_succ, Nat.zero_add, Nat.reduceAdd]; rfl) | rfl) ?_)
      refine rt_tmp () rfl rfl rfl trivial ?_
      (try dsimp only [List.cons_append, List.nil_append, List.singleton_append, List.append_nil]); (repeat (first | exact Ent.nil | exact Ent.refl _ | (apply Ent.cons; (repeat (first | exact Sel.here | apply Sel.there)))))
end Go.Dp
