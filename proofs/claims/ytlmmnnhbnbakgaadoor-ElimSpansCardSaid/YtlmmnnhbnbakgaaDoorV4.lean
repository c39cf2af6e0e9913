/-
  vec.List, Count, walked; bits.OnesCount64.
  Conditions: those that stand in each theorem.
-/
import Derived.Test.YtlmmnnhbnbakgaaDoorV3
set_option linter.unusedVariables false
set_option linter.unusedSimpArgs false
namespace Go.Dp
open Go.RowKit Go.Proofs
section
variable {P : Program} {n : Nat} {H : List Hl} {e : Ev} {C : Value → List Hl → Prop} {ty t t' : TypeId} {x y : Operand} {p : Int}
theorem o1_band127 (hx : opd e x = some (.int .i64 p)) (hy : opd e y = some (.int .i64 127)) (hb : 0 ≤ p ∧ p ≤ 9223372036854775807) (h : C (.int .i64 (p % 128)) H) : O1 P (.binOp .and t x y t') ty n e H C :=
  o1_num hx hy (fun w => by
    have e1 : (p % ((2 ^ IntKind.bits .i64 : Nat) : Int)).toNat = p.toNat := by
      rw [show (2 ^ IntKind.bits .i64 : Nat) = 18446744073709551616 from rfl]; omega
    have e2 : ((127 : Int) % ((2 ^ IntKind.bits .i64 : Nat) : Int)).toNat = 127 := by rfl
    have e3 : p.toNat &&& 127 = p.toNat % 128 := Nat.and_two_pow_sub_one_eq_mod p.toNat 7
    have hw : IntKind.i64.wrap ((BitVec.ofInt (IntKind.bits .i64) p &&& BitVec.ofInt (IntKind.bits .i64) 127).toNat : Int) = p % 128 := by
      rw [BitVec.toNat_and, BitVec.toNat_ofInt, BitVec.toNat_ofInt, e1, e2, e3, wrap_in (by omega) (by omega)]
      omega
    rw [binOp_and]
    simp only [Op.intBits, Sem.run_pure]
    rw [hw]) h
end
theorem bits_OnesCount64 (H : List Hl) (x : BitVec 64) :
    Spec Tryd.prog 53 [W8 x] H (fun _ : Unit => True) (fun _ => I (popc x)) (fun _ => H) := by
  refine spec_pure (res := fun _ => []) H Tryd.func53 rfl Tryd.ntmps53 (by kernel_rfl) rfl (fun W => ?_)
  obtain ⟨y, hy⟩ : ∃ y, swar4 (swar2 (swar1 x)) = y := ⟨_, rfl⟩
  obtain ⟨z, hz⟩ : ∃ z, y + (y >>> 8) = z := ⟨_, rfl⟩
  obtain ⟨u, hu⟩ : ∃ u, z + (z >>> 16) = u := ⟨_, rfl⟩
  obtain ⟨v, hv⟩ : ∃ v, u + (u >>> 32) = v := ⟨_, rfl⟩
  obtain ⟨q1, q2⟩ := swar_popc x y z u v hy hz hu hv
  have k1 : ∀ x : BitVec 64, ((x >>> (1 : Int).toNat) &&& 0x5555555555555555#64) + (x &&& 0x5555555555555555#64) = swar1 x := fun _ => rfl
  have k2 : ∀ x : BitVec 64, ((x >>> (2 : Int).toNat) &&& 0x3333333333333333#64) + (x &&& 0x3333333333333333#64) = swar2 x := fun _ => rfl
  have k3 : ∀ x : BitVec 64, ((x >>> (4 : Int).toNat) + x) &&& 0x0f0f0f0f0f0f0f0f#64 = swar4 x := fun _ => rfl
  have k4 : y + (y >>> (8 : Int).toNat) = z := hz
  have k5 : z + (z >>> (16 : Int).toNat) = u := hu
  have k6 : u + (u >>> (32 : Int).toNat) = v := hv
  repeat' (first | refine ls_of rfl ?_ | refine ls_of_no ?_ | refine ls_guard_yes rfl rfl ?_ | refine ls_guard_no rfl rfl rfl rfl ?_ | refine ls_guard_un rfl rfl rfl ?_ | refine o1_move rfl ?_ | refine o1_assign rfl ?_ | refine st_seq ?_ | refine st_region ?_ | refine st_block ?_ | refine st_skip ?_ | refine st_ret ?_ | refine st_exit ?_ | refine st_cond_t rfl ?_ | refine st_cond_f rfl ?_ | refine st_cond rfl (fun _ => ?_) (fun _ => ?_) | refine ls_nil ?_ | refine nx_seq ?_ | refine nx_blk ?_ | refine nx_fn ?_ | refine nx_rounds ?_ | refine xt_seq ?_ | refine xt_here ?_ | refine xt_on rfl ?_ | refine xt_rounds ?_ | refine xt_cut ?_ | refine rt_seq ?_ | refine rt_blk ?_ | refine rt_rounds ?_ | refine rt_cut ?_ | (refine o1_uadd rfl rfl ?_; rw [k1]) | (refine o1_uadd rfl rfl ?_; rw [k2]) | (refine o1_uadd rfl rfl ?_; rw [k4]) | (refine o1_uadd rfl rfl ?_; rw [k5]) | (refine o1_uadd rfl rfl ?_; rw [k6]) | (refine o1_uand (v := 0x0f0f0f0f0f0f0f0f#64) rfl rfl ?_; rw [k3, hy]) | refine o1_uand (v := 0x5555555555555555#64) rfl rfl ?_ | refine o1_uand (v := 0x3333333333333333#64) rfl rfl ?_ | refine o1_band127 rfl rfl (by omega) ?_ | refine o1_uand rfl rfl ?_ | refine o1_uadd rfl rfl ?_ | refine o1_ushr rfl rfl (by omega) ?_ | refine o1_conv_i rfl (by omega) ?_ | refine o1_conv_ui rfl (by exact bv_small (by decide) _) ?_)
  refine rt_tmp () rfl rfl ?_ trivial ?_
  · congr 1; omega
  (try dsimp only [List.cons_append, List.nil_append, List.singleton_append, List.append_nil]); (repeat (first | exact Ent.nil | exact Ent.refl _ | (apply Ent.cons; (repeat (first | exact Sel.here | apply Sel.there)))))
theorem vec_Count (H : List Hl) (v : VD) (h : RdV (stars H) v) :
    Spec Tryd.prog 20 [Pv v] H (fun _ : Unit => True) (fun _ => I (countV v.l)) (fun _ => H) := by
  refine spec_pure (res := fun _ => []) H Tryd.func20 rfl Tryd.ntmps20 (by kernel_rfl) rfl (fun W => ?_)
  have h4 := nw_4 h.ok.hi
  have hwl := h.ok.words
  have hle := h.w.le
  have hbg := h.w.big
  repeat' (first | refine ls_of rfl ?_ | refine ls_of_no ?_ | refine ls_guard_yes rfl rfl ?_ | refine ls_guard_no rfl rfl rfl rfl ?_ | refine ls_guard_un rfl rfl rfl ?_ | refine o1_move rfl ?_ | refine o1_assign rfl ?_ | refine st_seq ?_ | refine st_region ?_ | refine st_block ?_ | refine st_skip ?_ | refine st_ret ?_ | refine st_exit ?_ | refine st_cond_t rfl ?_ | refine st_cond_f rfl ?_ | refine st_cond rfl (fun _ => ?_) (fun _ => ?_) | refine ls_nil ?_ | refine nx_seq ?_ | refine nx_blk ?_ | refine nx_fn ?_ | refine nx_rounds ?_ | refine xt_seq ?_ | refine xt_here ?_ | refine xt_on rfl ?_ | refine xt_rounds ?_ | refine xt_cut ?_ | refine rt_seq ?_ | refine rt_blk ?_ | refine rt_rounds ?_ | refine rt_cut ?_ | refine o1_pneq rfl rfl ?_ | refine ox_load_any rfl h.s ?_ | refine o1_fieldAddr rfl ?_ | refine ox_load rfl (by rfl) ?_ | refine ox_load_enc rfl (by first | omega | (simp; omega)) ?_ | refine ox_load_any rfl (by assumption) ?_ | refine o1_len rfl ?_ | refine o1_add rfl rfl (by omega) ?_ | refine o1_lss_t rfl rfl (by omega) ?_ | refine o1_lss_f rfl rfl (by omega) ?_ | refine o1_lss rfl rfl (fun _ => ?_) (fun _ => ?_) | refine o1_slice_nil rfl ?_ | refine o1_nilCheck rfl ?_)
  refine st_loop (S := Nat) (fun i => [(3, I (cnt (at_ v.l) (64 * i))), (11, .slice v.a (nw v.n) v.c), (12, I (nw v.n)), (13, I i)]) (fun i => [.any (stars H)]) (fun i => i ≤ nw v.n) (fun i => nw v.n - i) 0 (Nat.zero_le _)
    (cov_cons rfl rfl (cov_cons rfl rfl (cov_cons rfl rfl (cov_cons rfl rfl cov_nil)))) (Ent.refl _) ?_
  intro i hi
  by_cases hlt : i < nw v.n
  · have hw : (words v.l)[i]? = some (wordOf v.l i) := words_at? _ _ (by rw [h.ok.len]; exact hlt)
    have hcw := count_words v.l i
    have hc1 := cnt_le (at_ v.l) (64 * (i + 1))
    have e1 : ((cnt (at_ v.l) (64 * i) : Nat) : Int) + (popc (wordOf v.l i) : Nat) = (cnt (at_ v.l) (64 * (i + 1)) : Nat) := by omega
    repeat' (first | refine ls_of rfl ?_ | refine ls_of_no ?_ | refine ls_guard_yes rfl rfl ?_ | refine ls_guard_no rfl rfl rfl rfl ?_ | refine ls_guard_un rfl rfl rfl ?_ | refine o1_move rfl ?_ | refine o1_assign rfl ?_ | refine st_seq ?_ | refine st_region ?_ | refine st_block ?_ | refine st_skip ?_ | refine st_ret ?_ | refine st_exit ?_ | refine st_cond_t rfl ?_ | refine st_cond_f rfl ?_ | refine st_cond rfl (fun _ => ?_) (fun _ => ?_) | refine ls_nil ?_ | refine nx_seq ?_ | refine nx_blk ?_ | refine nx_fn ?_ | refine nx_rounds ?_ | refine xt_seq ?_ | refine xt_here ?_ | refine xt_on rfl ?_ | refine xt_rounds ?_ | refine xt_cut ?_ | refine rt_seq ?_ | refine rt_blk ?_ | refine rt_rounds ?_ | refine rt_cut ?_ | refine o1_ia i rfl rfl h.w hwl.symm rfl (by omega) ?_ | refine o1_load_av i _ rfl h.w hw ?_ | refine o1_call (fun _ => bits_OnesCount64 _ (wordOf v.l i)) rfl (fun _ _ => ?_) | (refine o1_add rfl rfl (by omega) ?_; rw [e1]) | refine o1_fieldAddr rfl ?_ | refine ox_load rfl (by rfl) ?_ | refine ox_load_enc rfl (by first | omega | (simp; omega)) ?_ | refine ox_load_any rfl (by assumption) ?_ | refine o1_len rfl ?_ | refine o1_add rfl rfl (by omega) ?_ | refine o1_lss_t rfl rfl (by omega) ?_ | refine o1_lss_f rfl rfl (by omega) ?_ | refine o1_lss rfl rfl (fun _ => ?_) (fun _ => ?_) | refine o1_slice_nil rfl ?_ | refine o1_nilCheck rfl ?_)
    refine nx_again (i + 1) (by omega) (by omega) (cov_cons rfl rfl (cov_cons rfl rfl (cov_cons rfl rfl (cov_cons rfl rfl cov_nil)))) ?_
    (try dsimp only [List.cons_append, List.nil_append, List.singleton_append, List.append_nil]); (repeat (first | exact Ent.nil | exact Ent.refl _ | (apply Ent.cons; (repeat (first | exact Sel.here | apply Sel.there)))))
  · have : i = nw v.n := by omega
    subst this
    repeat' (first | refine ls_of rfl ?_ | refine ls_of_no ?_ | refine ls_guard_yes rfl rfl ?_ | refine ls_guard_no rfl rfl rfl rfl ?_ | refine ls_guard_un rfl rfl rfl ?_ | refine o1_move rfl ?_ | refine o1_assign rfl ?_ | refine st_seq ?_ | refine st_region ?_ | refine st_block ?_ | refine st_skip ?_ | refine st_ret ?_ | refine st_exit ?_ | refine st_cond_t rfl ?_ | refine st_cond_f rfl ?_ | refine st_cond rfl (fun _ => ?_) (fun _ => ?_) | refine ls_nil ?_ | refine nx_seq ?_ | refine nx_blk ?_ | refine nx_fn ?_ | refine nx_rounds ?_ | refine xt_seq ?_ | refine xt_here ?_ | refine xt_on rfl ?_ | refine xt_rounds ?_ | refine xt_cut ?_ | refine rt_seq ?_ | refine rt_blk ?_ | refine rt_rounds ?_ | refine rt_cut ?_ | refine o1_fieldAddr rfl ?_ | refine ox_load rfl (by rfl) ?_ | refine ox_load_enc rfl (by first | omega | (simp; omega)) ?_ | refine ox_load_any rfl (by assumption) ?_ | refine o1_len rfl ?_ | refine o1_add rfl rfl (by omega) ?_ | refine o1_lss_t rfl rfl (by omega) ?_ | refine o1_lss_f rfl rfl (by omega) ?_ | refine o1_lss rfl rfl (fun _ => ?_) (fun _ => ?_) | refine o1_slice_nil rfl ?_ | refine o1_nilCheck rfl ?_)
    refine rt_tmp () rfl rfl ?_ trivial ?_
    · show I _ = I _
      congr 1
      have := count_all v.l
      rw [h.ok.len] at this
      rw [this]
    (try dsimp only [List.cons_append, List.nil_append, List.singleton_append, List.append_nil]); (repeat (first | exact Ent.nil | exact Ent.refl _ | (apply Ent.cons; (repeat (first | exact Sel.here | apply Sel.there)))))
/-- The places that are set, of the first i. -/
def listT (l : List Bool) (i : Nat) : List Int := (placesN (at_ l) i).map Int.ofNat
theorem listT_on {l : List Bool} {i : Nat} (h : at_ l i = true) : listT l (i + 1) = listT l i ++ [(i : Int)] := by rw [listT, places_succ, h]; simp [listT]
theorem listT_off {l : List Bool} {i : Nat} (h : at_ l i = false) : listT l (i + 1) = listT l i := by rw [listT, places_succ, h]; simp [listT]
theorem listT_len (l : List Bool) (i : Nat) : (listT l i).length ≤ i := by rw [listT, List.length_map, places_len]; exact cnt_le _ _
theorem vec_List (H : List Hl) (v : VD) (h : RdV (stars H) v) :
    Spec Tryd.prog 21 [Pv v] H (fun _ : Option Addr × Nat => True) (fun r => .slice r.1 (listV v.l).length r.2) (fun r => .row 3 1 (.slice r.1 (listV v.l).length r.2) (listV v.l).length ((listV v.l).map I) :: H) := by
  refine spec_pure (res := fun r : Option Addr × Nat => [.row 3 1 (.slice r.1 (listV v.l).length r.2) (listV v.l).length ((listV v.l).map I)]) H Tryd.func21 rfl Tryd.ntmps21 (by kernel_rfl) rfl (fun W => ?_)
  have hn := h.ok.hi
  repeat' (first | refine ls_of rfl ?_ | refine ls_of_no ?_ | refine ls_guard_yes rfl rfl ?_ | refine ls_guard_no rfl rfl rfl rfl ?_ | refine ls_guard_un rfl rfl rfl ?_ | refine o1_move rfl ?_ | refine o1_assign rfl ?_ | refine st_seq ?_ | refine st_region ?_ | refine st_block ?_ | refine st_skip ?_ | refine st_ret ?_ | refine st_exit ?_ | refine st_cond_t rfl ?_ | refine st_cond_f rfl ?_ | refine st_cond rfl (fun _ => ?_) (fun _ => ?_) | refine ls_nil ?_ | refine nx_seq ?_ | refine nx_blk ?_ | refine nx_fn ?_ | refine nx_rounds ?_ | refine xt_seq ?_ | refine xt_here ?_ | refine xt_on rfl ?_ | refine xt_rounds ?_ | refine xt_cut ?_ | refine rt_seq ?_ | refine rt_blk ?_ | refine rt_rounds ?_ | refine rt_cut ?_ | refine o1_call (fun _ => vec_Len _ v (cl_up h.n)) rfl (fun _ _ => ?_) | refine o1_add rfl rfl (by omega) ?_ | refine o1_lss_t rfl rfl (by omega) ?_ | refine o1_lss_f rfl rfl (by omega) ?_ | refine o1_lss rfl rfl (fun _ => ?_) (fun _ => ?_) | refine o1_lit_B rfl rfl rfl rfl rfl (fun _ => ?_) | refine ox_append rfl rfl (rx_box rfl (by first | decide | omega)) rfl rfl (fun _ => rfl) (by omega) (by omega) (fun _ _ => ?_) | refine ox_append rfl rfl (rx_any (by assumption)) rfl rfl (fun _ => rfl) (by omega) (by omega) (fun _ _ => ?_) | refine ox_append rfl rfl rx_row rfl rfl (fun _ => rfl) (by omega) (by omega) (fun _ _ => ?_))
  refine st_ent (ent_nil 3 I) ?_
  refine st_loop (S := Nat × Option Addr × Nat) (fun s => [(0, Pv v), (3, .slice s.2.1 (listT v.l s.1).length s.2.2), (6, I v.n), (7, I s.1)]) (fun s => [.row 3 1 (.slice s.2.1 (listT v.l s.1).length s.2.2) (listT v.l s.1).length ((listT v.l s.1).map I), .any (stars H)]) (fun s => s.1 ≤ v.n) (fun s => v.n - s.1) (0, none, 0) (Nat.zero_le _)
    (cov_cons rfl rfl (cov_cons rfl rfl (cov_cons rfl rfl (cov_cons rfl rfl cov_nil)))) (by show Ent _ [.row 3 1 (.slice none 0 0) 0 [], .any (stars H)]; (try dsimp only [List.cons_append, List.nil_append, List.singleton_append, List.append_nil]); (repeat (first | exact Ent.nil | exact Ent.refl _ | (apply Ent.cons; (repeat (first | exact Sel.here | apply Sel.there)))))) ?_
  rintro ⟨i, a1, c1⟩ hi
  dsimp only at hi ⊢
  have hll := listT_len v.l i
  by_cases hlt : i < v.n
  · cases hb : at_ v.l i
    · repeat' (first | refine ls_of rfl ?_ | refine ls_of_no ?_ | refine ls_guard_yes rfl rfl ?_ | refine ls_guard_no rfl rfl rfl rfl ?_ | refine ls_guard_un rfl rfl rfl ?_ | refine o1_move rfl ?_ | refine o1_assign rfl ?_ | refine st_seq ?_ | refine st_region ?_ | refine st_block ?_ | refine st_skip ?_ | refine st_ret ?_ | refine st_exit ?_ | refine st_cond_t rfl ?_ | refine st_cond_f rfl ?_ | refine st_cond rfl (fun _ => ?_) (fun _ => ?_) | refine ls_nil ?_ | refine nx_seq ?_ | refine nx_blk ?_ | refine nx_fn ?_ | refine nx_rounds ?_ | refine xt_seq ?_ | refine xt_here ?_ | refine xt_on rfl ?_ | refine xt_rounds ?_ | refine xt_cut ?_ | refine rt_seq ?_ | refine rt_blk ?_ | refine rt_rounds ?_ | refine rt_cut ?_ | refine o1_call (fun _ => (vec_Has _ v i h.up).bv (b := false) (by rw [hasV_nat, hb])) rfl (fun _ _ => ?_) | refine o1_add rfl rfl (by omega) ?_ | refine o1_lss_t rfl rfl (by omega) ?_ | refine o1_lss_f rfl rfl (by omega) ?_ | refine o1_lss rfl rfl (fun _ => ?_) (fun _ => ?_) | refine o1_lit_B rfl rfl rfl rfl rfl (fun _ => ?_) | refine ox_append rfl rfl (rx_box rfl (by first | decide | omega)) rfl rfl (fun _ => rfl) (by omega) (by omega) (fun _ _ => ?_) | refine ox_append rfl rfl (rx_any (by assumption)) rfl rfl (fun _ => rfl) (by omega) (by omega) (fun _ _ => ?_) | refine ox_append rfl rfl rx_row rfl rfl (fun _ => rfl) (by omega) (by omega) (fun _ _ => ?_))
      refine nx_again (i + 1, a1, c1) (by show i + 1 ≤ v.n; omega) (by show v.n - (i + 1) < v.n - i; omega) (cov_cons rfl rfl (cov_cons rfl ?_ (cov_cons rfl rfl (cov_cons rfl rfl cov_nil)))) ?_
      · show Value.slice a1 _ c1 = Value.slice a1 (listT v.l (i + 1)).length c1
        rw [listT_off hb]
      · show Ent _ [.row 3 1 (.slice a1 (listT v.l (i + 1)).length c1) (listT v.l (i + 1)).length ((listT v.l (i + 1)).map I), .any (stars H)]
        rw [listT_off hb]
        (try dsimp only [List.cons_append, List.nil_append, List.singleton_append, List.append_nil]); (repeat (first | exact Ent.nil | exact Ent.refl _ | (apply Ent.cons; (repeat (first | exact Sel.here | apply Sel.there)))))
    · repeat' (first | refine ls_of rfl ?_ | refine ls_of_no ?_ | refine ls_guard_yes rfl rfl ?_ | refine ls_guard_no rfl rfl rfl rfl ?_ | refine ls_guard_un rfl rfl rfl ?_ | refine o1_move rfl ?_ | refine o1_assign rfl ?_ | refine st_seq ?_ | refine st_region ?_ | refine st_block ?_ | refine st_skip ?_ | refine st_ret ?_ | refine st_exit ?_ | refine st_cond_t rfl ?_ | refine st_cond_f rfl ?_ | refine st_cond rfl (fun _ => ?_) (fun _ => ?_) | refine ls_nil ?_ | refine nx_seq ?_ | refine nx_blk ?_ | refine nx_fn ?_ | refine nx_rounds ?_ | refine xt_seq ?_ | refine xt_here ?_ | refine xt_on rfl ?_ | refine xt_rounds ?_ | refine xt_cut ?_ | refine rt_seq ?_ | refine rt_blk ?_ | refine rt_rounds ?_ | refine rt_cut ?_ | refine o1_call (fun _ => (vec_Has _ v i h.up).bv (b := true) (by rw [hasV_nat, hb])) rfl (fun _ _ => ?_) | refine o1_lit_enc I [(i : Int)] rfl rfl rfl (fun _ => rfl) rfl rfl rfl (fun b3 => ?_) | refine ox_append (xs := listT v.l i) (ys := [(i : Int)]) rfl rfl (rx_box rfl (by decide)) rfl rfl (fun _ => rfl) (by omega) (by omega) (fun a4 c4 => ?_) | refine o1_add rfl rfl (by omega) ?_ | refine o1_lss_t rfl rfl (by omega) ?_ | refine o1_lss_f rfl rfl (by omega) ?_ | refine o1_lss rfl rfl (fun _ => ?_) (fun _ => ?_) | refine o1_lit_B rfl rfl rfl rfl rfl (fun _ => ?_) | refine ox_append rfl rfl (rx_box rfl (by first | decide | omega)) rfl rfl (fun _ => rfl) (by omega) (by omega) (fun _ _ => ?_) | refine ox_append rfl rfl (rx_any (by assumption)) rfl rfl (fun _ => rfl) (by omega) (by omega) (fun _ _ => ?_) | refine ox_append rfl rfl rx_row rfl rfl (fun _ => rfl) (by omega) (by omega) (fun _ _ => ?_))
      refine nx_again (i + 1, a4, c4) (by show i + 1 ≤ v.n; omega) (by show v.n - (i + 1) < v.n - i; omega) (cov_cons rfl rfl (cov_cons rfl ?_ (cov_cons rfl rfl (cov_cons rfl rfl cov_nil)))) ?_
      · show _ = Value.slice a4 (listT v.l (i + 1)).length c4
        rw [listT_on hb, List.length_append]
        rfl
      · show Ent _ [.row 3 1 (.slice a4 (listT v.l (i + 1)).length c4) (listT v.l (i + 1)).length ((listT v.l (i + 1)).map I), .any (stars H)]
        rw [listT_on hb, List.length_append]
        (try dsimp only [List.cons_append, List.nil_append, List.singleton_append, List.append_nil]); (repeat (first | exact Ent.nil | exact Ent.refl _ | (apply Ent.cons; (repeat (first | exact Sel.here | apply Sel.there)))))
  · have : i = v.n := by omega
    subst this
    have e1 : listT v.l v.n = listV v.l := by rw [listT, listV, h.ok.len]
    rw [e1]
    repeat' (first | refine ls_of rfl ?_ | refine ls_of_no ?_ | refine ls_guard_yes rfl rfl ?_ | refine ls_guard_no rfl rfl rfl rfl ?_ | refine ls_guard_un rfl rfl rfl ?_ | refine o1_move rfl ?_ | refine o1_assign rfl ?_ | refine st_seq ?_ | refine st_region ?_ | refine st_block ?_ | refine st_skip ?_ | refine st_ret ?_ | refine st_exit ?_ | refine st_cond_t rfl ?_ | refine st_cond_f rfl ?_ | refine st_cond rfl (fun _ => ?_) (fun _ => ?_) | refine ls_nil ?_ | refine nx_seq ?_ | refine nx_blk ?_ | refine nx_fn ?_ | refine nx_rounds ?_ | refine xt_seq ?_ | refine xt_here ?_ | refine xt_on rfl ?_ | refine xt_rounds ?_ | refine xt_cut ?_ | refine rt_seq ?_ | refine rt_blk ?_ | refine rt_rounds ?_ | refine rt_cut ?_ | refine o1_add rfl rfl (by omega) ?_ | refine o1_lss_t rfl rfl (by omega) ?_ | refine o1_lss_f rfl rfl (by omega) ?_ | refine o1_lss rfl rfl (fun _ => ?_) (fun _ => ?_) | refine o1_lit_B rfl rfl rfl rfl rfl (fun _ => ?_) | refine ox_append rfl rfl (rx_box rfl (by first | decide | omega)) rfl rfl (fun _ => rfl) (by omega) (by omega) (fun _ _ => ?_) | refine ox_append rfl rfl (rx_any (by assumption)) rfl rfl (fun _ => rfl) (by omega) (by omega) (fun _ _ => ?_) | refine ox_append rfl rfl rx_row rfl rfl (fun _ => rfl) (by omega) (by omega) (fun _ _ => ?_))
    refine rt_tmp (a1, c1) rfl rfl rfl trivial ?_
    (try dsimp only [List.cons_append, List.nil_append, List.singleton_append, List.append_nil]); (repeat (first | exact Ent.nil | exact Ent.refl _ | (apply Ent.cons; (repeat (first | exact Sel.here | apply Sel.there)))))
end Go.Dp
