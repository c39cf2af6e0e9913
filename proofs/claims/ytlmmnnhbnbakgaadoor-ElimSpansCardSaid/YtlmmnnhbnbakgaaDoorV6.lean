/-
  vec.Bytes, First, walked; bits.TrailingZeros64 with its table.
  Conditions: those that stand in each theorem.
-/
import Derived.Test.YtlmmnnhbnbakgaaDoorV4
import Derived.Test.YtlmmnnhbnbakgaaDoorV5
import Derived.Test.YtlmmnnhbnbakgaaDoorBw
import Derived.Test.YtlmmnnhbnbakgaaDoorBx
import Derived.Lib.TrailingZeros
set_option linter.unusedVariables false
set_option linter.unusedSimpArgs false
namespace Go.Dp
open Go.RowKit Go.Proofs
/-- The table of the library's, as it was laid. -/
structure TabF (A : Hp → Prop) : Prop where
  c : ∀ j, j < 64 → Cl A ⟨0, j, none⟩ (.int .u8 ((Go.Lib.deBruijn64tab.getD j 0 : Nat) : Int))
theorem TabF.up {A : Hp → Prop} {H H' : List Hl} (h : TabF A) [s : SAny H A H'] : TabF (stars H) := ⟨fun j hj => cl_up (h.c j hj)⟩
section
variable {P : Program} {n : Nat} {H : List Hl} {e : Ev} {C : Value → List Hl → Prop} {ty t : TypeId} {x : Operand} {u : BitVec 64}
theorem o1_neg64 (hx : opd e x = some (.int .u64 u.toNat)) (h : C (.int .u64 (-u).toNat) H) : O1 P (.unOp .neg t x) ty n e H C :=
  o1_val _ (fun a w ho => by
    have hw : IntKind.u64.wrap (-(u.toNat : Int)) = ((-u).toNat : Int) := by
      rw [IntKind.wrap_u64, BitVec.toNat_neg]
      omega
    simp [execOp, ho.ev.eval hx, unary_neg, Op.intArith, hw]) h
end
theorem tz_key (x : BitVec 64) (h0 : x ≠ 0#64) : ∃ k idx : Nat, k < 64 ∧ idx < 64 ∧ k = Go.Lib.ctz 64 x.toNat ∧ (((x &&& -x) * 285870213051353865#64) >>> 58).toNat = idx ∧ Go.Lib.deBruijn64tab.getD idx 0 = k := by
  have hx : x.toNat ≠ 0 := fun e => h0 (BitVec.eq_of_toNat_eq (by simpa using e))
  obtain ⟨hlow, hk⟩ := Go.Lib.lowest_bit 64 x.toNat hx x.isLt
  obtain ⟨hi, htab⟩ := Go.Lib.deBruijn64_at _ hk
  refine ⟨_, _, hk, hi, rfl, ?_, htab⟩
  have e1 : (-x).toNat = 2 ^ 64 - x.toNat := by
    rw [BitVec.toNat_neg]
    have := x.isLt
    omega
  rw [BitVec.toNat_ushiftRight, BitVec.toNat_mul, BitVec.toNat_and, e1, hlow, Nat.shiftRight_eq_div_pow]
  rfl
theorem bits_TZ64 (H : List Hl) (x : BitVec 64) (h0 : x ≠ 0#64) (ht : TabF (stars H)) :
    Spec Tryd.prog 63 [W8 x] H (fun _ : Unit => True) (fun _ => I (Go.Lib.ctz 64 x.toNat)) (fun _ => H) := by
  refine spec_pure (res := fun _ => []) H Tryd.func63 rfl Tryd.ntmps63 (by kernel_rfl) rfl (fun W => ?_)
  have hx : ¬ (x.toNat : Int) = 0 := fun e => h0 (BitVec.eq_of_toNat_eq (by simp; omega))
  obtain ⟨k, idx, h1, h2, h3, h4, h5⟩ := tz_key x h0
  have hc := ht.c idx h2
  rw [h5] at hc
  have h6 : 0 + ((((x &&& -x) * 285870213051353865#64) >>> (58 : Int).toNat).toNat : Int).toNat * 1 = idx := by
    rw [show (58 : Int).toNat = 58 from rfl, h4]; omega
  have h7 : 0 ≤ ((((x &&& -x) * 285870213051353865#64) >>> (58 : Int).toNat).toNat : Int) ∧ ((((x &&& -x) * 285870213051353865#64) >>> (58 : Int).toNat).toNat : Int) < (64 : Nat) := by
    rw [show (58 : Int).toNat = 58 from rfl, h4]; omega
  repeat' (first | refine ls_of rfl ?_ | refine ls_of_no ?_ | refine ls_guard_yes rfl rfl ?_ | refine ls_guard_no rfl rfl rfl rfl ?_ | refine ls_guard_un rfl rfl rfl ?_ | refine o1_move rfl ?_ | refine o1_assign rfl ?_ | refine st_seq ?_ | refine st_region ?_ | refine st_block ?_ | refine st_skip ?_ | refine st_ret ?_ | refine st_exit ?_ | refine st_cond_t rfl ?_ | refine st_cond_f rfl ?_ | refine st_cond rfl (fun _ => ?_) (fun _ => ?_) | refine ls_nil ?_ | refine nx_seq ?_ | refine nx_blk ?_ | refine nx_fn ?_ | refine nx_rounds ?_ | refine xt_seq ?_ | refine xt_here ?_ | refine xt_on rfl ?_ | refine xt_rounds ?_ | refine xt_cut ?_ | refine rt_seq ?_ | refine rt_blk ?_ | refine rt_rounds ?_ | refine rt_cut ?_ | refine o1_eql_f rfl rfl hx ?_ | refine o1_neg64 rfl ?_ | refine o1_umul (v := 285870213051353865#64) rfl rfl ?_ | (refine o1_indexAddr_arr rfl rfl h7 ?_; rw [h6]) | refine ox_load_any rfl hc ?_ | refine ox_load rfl (by rfl) ?_ | refine ox_load_enc rfl (by first | omega | (simp; omega)) ?_ | refine ox_load_any rfl (by assumption) ?_ | refine o1_eql_t rfl rfl (by omega) ?_ | refine o1_eql_f rfl rfl (by omega) ?_ | refine o1_eql rfl rfl (fun _ => ?_) (fun _ => ?_) | refine o1_bnot rfl ?_ | refine o1_uand rfl rfl ?_ | refine o1_umul rfl rfl ?_ | refine o1_ushr rfl rfl (by omega) ?_ | refine o1_unot rfl ?_ | refine o1_conv_i rfl (by omega) ?_ | refine o1_conv_ui rfl (by exact bv_small (by decide) _) ?_)
  refine rt_tmp () rfl rfl ?_ trivial ?_
  · rw [h3]
  (try dsimp only [List.cons_append, List.nil_append, List.singleton_append, List.append_nil]); (repeat (first | exact Ent.nil | exact Ent.refl _ | (apply Ent.cons; (repeat (first | exact Sel.here | apply Sel.there)))))
theorem vec_First (H : List Hl) (v : VD) (h : RdV (stars H) v) (ht : TabF (stars H)) :
    Spec Tryd.prog 36 [Pv v] H (fun _ : Unit => True) (fun _ => I (firstV v.l)) (fun _ => H) := by
  refine spec_pure (res := fun _ => []) H Tryd.func36 rfl Tryd.ntmps36 (by kernel_rfl) rfl (fun W => ?_)
  have h4 := nw_4 h.ok.hi
  have hwl := h.ok.words
  have hle := h.w.le
  have hbg := h.w.big
  repeat' (first | refine ls_of rfl ?_ | refine ls_of_no ?_ | refine ls_guard_yes rfl rfl ?_ | refine ls_guard_no rfl rfl rfl rfl ?_ | refine ls_guard_un rfl rfl rfl ?_ | refine o1_move rfl ?_ | refine o1_assign rfl ?_ | refine st_seq ?_ | refine st_region ?_ | refine st_block ?_ | refine st_skip ?_ | refine st_ret ?_ | refine st_exit ?_ | refine st_cond_t rfl ?_ | refine st_cond_f rfl ?_ | refine st_cond rfl (fun _ => ?_) (fun _ => ?_) | refine ls_nil ?_ | refine nx_seq ?_ | refine nx_blk ?_ | refine nx_fn ?_ | refine nx_rounds ?_ | refine xt_seq ?_ | refine xt_here ?_ | refine xt_on rfl ?_ | refine xt_rounds ?_ | refine xt_cut ?_ | refine rt_seq ?_ | refine rt_blk ?_ | refine rt_rounds ?_ | refine rt_cut ?_ | refine o1_peql rfl rfl ?_ | refine ox_load_any rfl h.s ?_ | refine o1_fieldAddr rfl ?_ | refine ox_load rfl (by rfl) ?_ | refine ox_load_enc rfl (by first | omega | (simp; omega)) ?_ | refine ox_load_any rfl (by assumption) ?_ | refine o1_len rfl ?_ | refine o1_add rfl rfl (by omega) ?_ | refine o1_lss_t rfl rfl (by omega) ?_ | refine o1_lss_f rfl rfl (by omega) ?_ | refine o1_lss rfl rfl (fun _ => ?_) (fun _ => ?_) | refine o1_neq_t rfl rfl (by omega) ?_ | refine o1_neq_f rfl rfl (by omega) ?_ | refine o1_neq rfl rfl (fun _ => ?_) (fun _ => ?_) | refine o1_slice_nil rfl ?_ | refine o1_nilCheck rfl ?_)
  refine st_loop (S := Nat) (fun i => [(10, .slice v.a (nw v.n) v.c), (11, I (nw v.n)), (12, I i)]) (fun i => [.any (stars H)]) (fun i => i ≤ nw v.n ∧ ∀ j, j < 64 * i → at_ v.l j = false) (fun i => nw v.n - i) 0 ⟨Nat.zero_le _, by omega⟩
    (cov_cons rfl rfl (cov_cons rfl rfl (cov_cons rfl rfl cov_nil))) (Ent.refl _) ?_
  rintro i ⟨hi, hno⟩
  by_cases hlt : i < nw v.n
  · have hw : (words v.l)[i]? = some (wordOf v.l i) := words_at? _ _ (by rw [h.ok.len]; exact hlt)
    by_cases hz : wordOf v.l i = 0#64
    · have hz0 : ((wordOf v.l i).toNat : Int) = 0 := by rw [hz]; rfl
      repeat' (first | refine ls_of rfl ?_ | refine ls_of_no ?_ | refine ls_guard_yes rfl rfl ?_ | refine ls_guard_no rfl rfl rfl rfl ?_ | refine ls_guard_un rfl rfl rfl ?_ | refine o1_move rfl ?_ | refine o1_assign rfl ?_ | refine st_seq ?_ | refine st_region ?_ | refine st_block ?_ | refine st_skip ?_ | refine st_ret ?_ | refine st_exit ?_ | refine st_cond_t rfl ?_ | refine st_cond_f rfl ?_ | refine st_cond rfl (fun _ => ?_) (fun _ => ?_) | refine ls_nil ?_ | refine nx_seq ?_ | refine nx_blk ?_ | refine nx_fn ?_ | refine nx_rounds ?_ | refine xt_seq ?_ | refine xt_here ?_ | refine xt_on rfl ?_ | refine xt_rounds ?_ | refine xt_cut ?_ | refine rt_seq ?_ | refine rt_blk ?_ | refine rt_rounds ?_ | refine rt_cut ?_ | refine o1_ia i rfl rfl h.w hwl.symm rfl (by omega) ?_ | refine o1_load_av i _ rfl h.w hw ?_ | refine o1_neq_f rfl rfl hz0 ?_ | refine o1_fieldAddr rfl ?_ | refine ox_load rfl (by rfl) ?_ | refine ox_load_enc rfl (by first | omega | (simp; omega)) ?_ | refine ox_load_any rfl (by assumption) ?_ | refine o1_len rfl ?_ | refine o1_add rfl rfl (by omega) ?_ | refine o1_lss_t rfl rfl (by omega) ?_ | refine o1_lss_f rfl rfl (by omega) ?_ | refine o1_lss rfl rfl (fun _ => ?_) (fun _ => ?_) | refine o1_neq_t rfl rfl (by omega) ?_ | refine o1_neq_f rfl rfl (by omega) ?_ | refine o1_neq rfl rfl (fun _ => ?_) (fun _ => ?_) | refine o1_slice_nil rfl ?_ | refine o1_nilCheck rfl ?_)
      refine nx_again (i + 1) ⟨by omega, ?_⟩ (by omega) (cov_cons rfl rfl (cov_cons rfl rfl (cov_cons rfl rfl cov_nil))) (Ent.refl _)
      intro j hj
      by_cases hj2 : j < 64 * i
      · exact hno j hj2
      · exact word_eq_zero hz j (by omega) hj
    · have hz0 : ((wordOf v.l i).toNat : Int) ≠ 0 := fun e => hz (BitVec.eq_of_toNat_eq (by simp; omega))
      obtain ⟨f1, f2⟩ := first_word hz hno
      repeat' (first | refine ls_of rfl ?_ | refine ls_of_no ?_ | refine ls_guard_yes rfl rfl ?_ | refine ls_guard_no rfl rfl rfl rfl ?_ | refine ls_guard_un rfl rfl rfl ?_ | refine o1_move rfl ?_ | refine o1_assign rfl ?_ | refine st_seq ?_ | refine st_region ?_ | refine st_block ?_ | refine st_skip ?_ | refine st_ret ?_ | refine st_exit ?_ | refine st_cond_t rfl ?_ | refine st_cond_f rfl ?_ | refine st_cond rfl (fun _ => ?_) (fun _ => ?_) | refine ls_nil ?_ | refine nx_seq ?_ | refine nx_blk ?_ | refine nx_fn ?_ | refine nx_rounds ?_ | refine xt_seq ?_ | refine xt_here ?_ | refine xt_on rfl ?_ | refine xt_rounds ?_ | refine xt_cut ?_ | refine rt_seq ?_ | refine rt_blk ?_ | refine rt_rounds ?_ | refine rt_cut ?_ | refine o1_ia i rfl rfl h.w hwl.symm rfl (by omega) ?_ | refine o1_load_av i _ rfl h.w hw ?_ | refine o1_neq_t rfl rfl hz0 ?_ | refine o1_mul rfl rfl (by omega) ?_ | refine o1_call (fun _ => bits_TZ64 _ (wordOf v.l i) hz ht.up) rfl (fun _ _ => ?_) | refine o1_fieldAddr rfl ?_ | refine ox_load rfl (by rfl) ?_ | refine ox_load_enc rfl (by first | omega | (simp; omega)) ?_ | refine ox_load_any rfl (by assumption) ?_ | refine o1_len rfl ?_ | refine o1_add rfl rfl (by omega) ?_ | refine o1_lss_t rfl rfl (by omega) ?_ | refine o1_lss_f rfl rfl (by omega) ?_ | refine o1_lss rfl rfl (fun _ => ?_) (fun _ => ?_) | refine o1_neq_t rfl rfl (by omega) ?_ | refine o1_neq_f rfl rfl (by omega) ?_ | refine o1_neq rfl rfl (fun _ => ?_) (fun _ => ?_) | refine o1_slice_nil rfl ?_ | refine o1_nilCheck rfl ?_)
      refine rt_tmp () rfl rfl ?_ trivial ?_
      · show I _ = I _
        congr 1
        omega
      (try dsimp only [List.cons_append, List.nil_append, List.singleton_append, List.append_nil]); (repeat (first | exact Ent.nil | exact Ent.refl _ | (apply Ent.cons; (repeat (first | exact Sel.here | apply Sel.there)))))
  · have : i = nw v.n := by omega
    subst this
    repeat' (first | refine ls_of rfl ?_ | refine ls_of_no ?_ | refine ls_guard_yes rfl rfl ?_ | refine ls_guard_no rfl rfl rfl rfl ?_ | refine ls_guard_un rfl rfl rfl ?_ | refine o1_move rfl ?_ | refine o1_assign rfl ?_ | refine st_seq ?_ | refine st_region ?_ | refine st_block ?_ | refine st_skip ?_ | refine st_ret ?_ | refine st_exit ?_ | refine st_cond_t rfl ?_ | refine st_cond_f rfl ?_ | refine st_cond rfl (fun _ => ?_) (fun _ => ?_) | refine ls_nil ?_ | refine nx_seq ?_ | refine nx_blk ?_ | refine nx_fn ?_ | refine nx_rounds ?_ | refine xt_seq ?_ | refine xt_here ?_ | refine xt_on rfl ?_ | refine xt_rounds ?_ | refine xt_cut ?_ | refine rt_seq ?_ | refine rt_blk ?_ | refine rt_rounds ?_ | refine rt_cut ?_ | refine o1_fieldAddr rfl ?_ | refine ox_load rfl (by rfl) ?_ | refine ox_load_enc rfl (by first | omega | (simp; omega)) ?_ | refine ox_load_any rfl (by assumption) ?_ | refine o1_len rfl ?_ | refine o1_add rfl rfl (by omega) ?_ | refine o1_lss_t rfl rfl (by omega) ?_ | refine o1_lss_f rfl rfl (by omega) ?_ | refine o1_lss rfl rfl (fun _ => ?_) (fun _ => ?_) | refine o1_neq_t rfl rfl (by omega) ?_ | refine o1_neq_f rfl rfl (by omega) ?_ | refine o1_neq rfl rfl (fun _ => ?_) (fun _ => ?_) | refine o1_slice_nil rfl ?_ | refine o1_nilCheck rfl ?_)
    refine rt_tmp () rfl rfl ?_ trivial ?_
    · rw [firstV_none (l := v.l) (fun j hj => hno j (by rw [h.ok.len] at hj; unfold nw; omega))]
    (try dsimp only [List.cons_append, List.nil_append, List.singleton_append, List.append_nil]); (repeat (first | exact Ent.nil | exact Ent.refl _ | (apply Ent.cons; (repeat (first | exact Sel.here | apply Sel.there)))))
theorem vec_Bytes (H : List Hl) (v : VD) (h : RdV (stars H) v) :
    Spec Tryd.prog 37 [Pv v] H (fun _ : Nat => True) (fun b => .slice (some ⟨b, 0, none⟩) (nb v.n) (nb v.n)) (fun b => .box b 5 ((bytesV v.l).map B) :: H) := by
  refine spec_pure (res := fun b : Nat => [.box b 5 ((bytesV v.l).map B)]) H Tryd.func37 rfl Tryd.ntmps37 (by kernel_rfl) rfl (fun W => ?_)
  have h256 := h.ok.hi
  have hwl := h.ok.words
  have hnb : nb v.n ≤ 32 := by unfold nb; omega
  have hq : ((v.n : Int) + 7) / 8 = (nb v.n : Nat) := by unfold nb; omega
  obtain ⟨R, hR⟩ : ∃ R, bytesV v.l = R := ⟨_, rfl⟩
  have hRl : R.length = nb v.n := by rw [← hR, bytesV_len, h.ok.len]
  have hz : R.length = (List.replicate (nb v.n) 0#8).length := by rw [hRl, List.length_replicate]
  rw [hR]
  repeat' (first | refine ls_of rfl ?_ | refine ls_of_no ?_ | refine ls_guard_yes rfl rfl ?_ | refine ls_guard_no rfl rfl rfl rfl ?_ | refine ls_guard_un rfl rfl rfl ?_ | refine o1_move rfl ?_ | refine o1_assign rfl ?_ | refine st_seq ?_ | refine st_region ?_ | refine st_block ?_ | refine st_skip ?_ | refine st_ret ?_ | refine st_exit ?_ | refine st_cond_t rfl ?_ | refine st_cond_f rfl ?_ | refine st_cond rfl (fun _ => ?_) (fun _ => ?_) | refine ls_nil ?_ | refine nx_seq ?_ | refine nx_blk ?_ | refine nx_fn ?_ | refine nx_rounds ?_ | refine xt_seq ?_ | refine xt_here ?_ | refine xt_on rfl ?_ | refine xt_rounds ?_ | refine xt_cut ?_ | refine rt_seq ?_ | refine rt_blk ?_ | refine rt_rounds ?_ | refine rt_cut ?_ | refine o1_peql rfl rfl ?_ | refine ox_load_any rfl h.n ?_ | (refine o1_quo rfl rfl (by omega) ?_; rw [hq]) | refine o1_maker (enc := B) 0#8 (nb v.n) rfl rfl rfl rfl rfl (by omega) (by omega) (fun b3 => ?_) | refine o1_fieldAddr rfl ?_ | refine ox_load rfl (by rfl) ?_ | refine ox_load_enc rfl (by first | omega | (simp; omega)) ?_ | refine ox_load_any rfl (by assumption) ?_ | refine o1_len rfl ?_ | refine o1_add rfl rfl (by omega) ?_ | refine o1_lss_t rfl rfl (by omega) ?_ | refine o1_lss_f rfl rfl (by omega) ?_ | refine o1_lss rfl rfl (fun _ => ?_) (fun _ => ?_) | refine o1_ushr rfl rfl (by omega) ?_ | refine o1_conv_uu rfl ?_ | refine o1_rem_nn rfl rfl (by omega) ?_ | refine o1_maken (enc := B) 0#8 rfl rfl rfl rfl (by omega) (by omega) (by omega) (fun _ => ?_) | refine o1_slice_nil rfl ?_ | refine ox_store_enc B rfl rfl (by first | omega | (simp; done) | (simp; omega)) rfl ?_ | refine ox_stores rfl rfl (by first | omega | (simp; done) | (simp; omega)) rfl (by first | (simp only [List.set_cons_zero, List.set_cons_succ, Nat.zero_add, Nat.reduceAdd]; rfl) | rfl) ?_ | refine o1_nilCheck rfl ?_)
  refine st_loop (S := Nat) (fun i => [(0, Pv v), (3, .slice (some ⟨b3, 0, none⟩) (nb v.n) (nb v.n)), (15, I (nb v.n)), (16, I i)]) (fun i => [.box b3 5 ((partL R (List.replicate (nb v.n) 0#8) i).map B), .any (stars H)]) (fun i => i ≤ nb v.n) (fun i => nb v.n - i) 0 (Nat.zero_le _)
    (cov_cons rfl rfl (cov_cons rfl rfl (cov_cons rfl rfl (cov_cons rfl rfl cov_nil)))) (by show Ent _ [.box b3 5 ((partL R (List.replicate (nb v.n) 0#8) 0).map B), .any (stars H)]; rw [partL_zero]; (try dsimp only [List.cons_append, List.nil_append, List.singleton_append, List.append_nil]); (repeat (first | exact Ent.nil | exact Ent.refl _ | (apply Ent.cons; (repeat (first | exact Sel.here | apply Sel.there)))))) ?_
  intro i hi
  by_cases hlt : i < nb v.n
  · have hql := partL_len hz i
    rw [List.length_replicate] at hql
    have hka : i < (partL R (List.replicate (nb v.n) 0#8) i).length := by omega
    have hset : (partL R (List.replicate (nb v.n) 0#8) i).set i (R[i]'(by omega)) = partL R (List.replicate (nb v.n) 0#8) (i + 1) := partL_succ hz (by omega)
    have hk : i * 8 / 64 < nw v.n := nw_nb hlt
    have hw : (words v.l)[i * 8 / 64]? = some (wordOf v.l (i * 8 / 64)) := words_at? _ _ (by rw [h.ok.len]; exact hk)
    have hsh : ((i : Int) * 8 % 64).toNat = i * 8 % 64 := by omega
    have hby : (wordOf v.l (i * 8 / 64) >>> (i * 8 % 64)).setWidth 8 = R[i]'(by omega) := by
      rw [byte_word]; subst hR; rw [bytesV_at]
    repeat' (first | refine ls_of rfl ?_ | refine ls_of_no ?_ | refine ls_guard_yes rfl rfl ?_ | refine ls_guard_no rfl rfl rfl rfl ?_ | refine ls_guard_un rfl rfl rfl ?_ | refine o1_move rfl ?_ | refine o1_assign rfl ?_ | refine st_seq ?_ | refine st_region ?_ | refine st_block ?_ | refine st_skip ?_ | refine st_ret ?_ | refine st_exit ?_ | refine st_cond_t rfl ?_ | refine st_cond_f rfl ?_ | refine st_cond rfl (fun _ => ?_) (fun _ => ?_) | refine ls_nil ?_ | refine nx_seq ?_ | refine nx_blk ?_ | refine nx_fn ?_ | refine nx_rounds ?_ | refine xt_seq ?_ | refine xt_here ?_ | refine xt_on rfl ?_ | refine xt_rounds ?_ | refine xt_cut ?_ | refine rt_seq ?_ | refine rt_blk ?_ | refine rt_rounds ?_ | refine rt_cut ?_ | refine ox_load_any rfl h.s ?_ | refine o1_mul rfl rfl (by omega) ?_ | refine o1_quo rfl rfl (by omega) ?_ | refine o1_ia (i * 8 / 64) rfl rfl h.w hwl.symm (by omega) (by omega) ?_ | refine o1_load_av (i * 8 / 64) _ rfl h.w hw ?_ | (refine o1_ushr rfl rfl (by omega) ?_; rw [hsh]) | (refine o1_conv_uu (m' := 8) rfl ?_; rw [hby]) | refine o1_own i rfl rfl rfl hlt ?_ | (refine ox_store_enc B (l := partL R (List.replicate (nb v.n) 0#8) i) rfl rfl hka rfl ?_; rw [hset]) | refine o1_fieldAddr rfl ?_ | refine ox_load rfl (by rfl) ?_ | refine ox_load_enc rfl (by first | omega | (simp; omega)) ?_ | refine ox_load_any rfl (by assumption) ?_ | refine o1_len rfl ?_ | refine o1_add rfl rfl (by omega) ?_ | refine o1_lss_t rfl rfl (by omega) ?_ | refine o1_lss_f rfl rfl (by omega) ?_ | refine o1_lss rfl rfl (fun _ => ?_) (fun _ => ?_) | refine o1_ushr rfl rfl (by omega) ?_ | refine o1_conv_uu rfl ?_ | refine o1_rem_nn rfl rfl (by omega) ?_ | refine o1_maken (enc := B) 0#8 rfl rfl rfl rfl (by omega) (by omega) (by omega) (fun _ => ?_) | refine o1_slice_nil rfl ?_ | refine ox_store_enc B rfl rfl (by first | omega | (simp; done) | (simp; omega)) rfl ?_ | refine ox_stores rfl rfl (by first | omega | (simp; done) | (simp; omega)) rfl (by first | (simp only [List.set_cons_zero, List.set_cons_succ, Nat.zero_add, Nat.reduceAdd]; rfl) | rfl) ?_ | refine o1_nilCheck rfl ?_)
    refine nx_again (i + 1) (by omega) (by omega) (cov_cons rfl rfl (cov_cons rfl rfl (cov_cons rfl rfl (cov_cons rfl rfl cov_nil)))) ?_
    (try dsimp only [List.cons_append, List.nil_append, List.singleton_append, List.append_nil]); (repeat (first | exact Ent.nil | exact Ent.refl _ | (apply Ent.cons; (repeat (first | exact Sel.here | apply Sel.there)))))
  · have : i = nb v.n := by omega
    subst this
    rw [partL_full hz (by rw [List.length_replicate])]
    repeat' (first | refine ls_of rfl ?_ | refine ls_of_no ?_ | refine ls_guard_yes rfl rfl ?_ | refine ls_guard_no rfl rfl rfl rfl ?_ | refine ls_guard_un rfl rfl rfl ?_ | refine o1_move rfl ?_ | refine o1_assign rfl ?_ | refine st_seq ?_ | refine st_region ?_ | refine st_block ?_ | refine st_skip ?_ | refine st_ret ?_ | refine st_exit ?_ | refine st_cond_t rfl ?_ | refine st_cond_f rfl ?_ | refine st_cond rfl (fun _ => ?_) (fun _ => ?_) | refine ls_nil ?_ | refine nx_seq ?_ | refine nx_blk ?_ | refine nx_fn ?_ | refine nx_rounds ?_ | refine xt_seq ?_ | refine xt_here ?_ | refine xt_on rfl ?_ | refine xt_rounds ?_ | refine xt_cut ?_ | refine rt_seq ?_ | refine rt_blk ?_ | refine rt_rounds ?_ | refine rt_cut ?_ | refine o1_fieldAddr rfl ?_ | refine ox_load rfl (by rfl) ?_ | refine ox_load_enc rfl (by first | omega | (simp; omega)) ?_ | refine ox_load_any rfl (by assumption) ?_ | refine o1_len rfl ?_ | refine o1_add rfl rfl (by omega) ?_ | refine o1_lss_t rfl rfl (by omega) ?_ | refine o1_lss_f rfl rfl (by omega) ?_ | refine o1_lss rfl rfl (fun _ => ?_) (fun _ => ?_) | refine o1_ushr rfl rfl (by omega) ?_ | refine o1_conv_uu rfl ?_ | refine o1_rem_nn rfl rfl (by omega) ?_ | refine o1_maken (enc := B) 0#8 rfl rfl rfl rfl (by omega) (by omega) (by omega) (fun _ => ?_) | refine o1_slice_nil rfl ?_ | refine ox_store_enc B rfl rfl (by first | omega | (simp; done) | (simp; omega)) rfl ?_ | refine ox_stores rfl rfl (by first | omega | (simp; done) | (simp; omega)) rfl (by first | (simp only [List.set_cons_zero, List.set_cons_succ, Nat.zero_add, Nat.reduceAdd]; rfl) | rfl) ?_ | refine o1_nilCheck rfl ?_)
    refine rt_tmp b3 rfl rfl rfl trivial ?_
    (try dsimp only [List.cons_append, List.nil_append, List.singleton_append, List.append_nil]); (repeat (first | exact Ent.nil | exact Ent.refl _ | (apply Ent.cons; (repeat (first | exact Sel.here | apply Sel.there)))))
end Go.Dp
