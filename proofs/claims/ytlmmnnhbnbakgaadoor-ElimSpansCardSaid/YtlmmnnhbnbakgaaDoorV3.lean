/-
  vec.Vec: a row of bits as data; New, within, Len, Has, Set, Of, walked.
  Conditions: those that stand in each theorem.
-/
import Derived.Test.YtlmmnnhbnbakgaaDoorV2
import Derived.Test.YtlmmnnhbnbakgaaDoorCa
import Derived.Test.YtlmmnnhbnbakgaaDoorTy
set_option linter.unusedVariables false
set_option linter.unusedSimpArgs false
namespace Go.Dp
open Go.RowKit Go.Proofs
/-- A row of bits: its box, how many bits, where its words stand, its bits. -/
structure VD where
  b : Nat
  n : Nat
  a : Option Addr
  c : Nat
  l : List Bool
abbrev Pv (v : VD) : Value := .pointer (some ⟨v.b, 0, none⟩)
structure VD.ok (v : VD) : Prop where
  len : v.l.length = v.n
  hi : v.n ≤ 256
structure RdV (A : Hp → Prop) (v : VD) : Prop where
  n : Cl A ⟨v.b, 0, none⟩ (I v.n)
  s : Cl A ⟨v.b, 1, none⟩ (.slice v.a (nw v.n) v.c)
  w : Rs A W8 v.a v.c (words v.l)
  ok : v.ok
theorem RdV.up {A : Hp → Prop} {v : VD} {H H' : List Hl} (h : RdV A v) [s : SAny H A H'] : RdV (stars H) v := ⟨cl_up h.n, cl_up h.s, h.w.up, h.ok⟩
abbrev vB (b n : Nat) (a : Option Addr) (c : Nat) : Hl := .box b 86 [I n, .slice a (nw n) c]
abbrev vR (n : Nat) (a : Option Addr) (c : Nat) (l : List Bool) : Hl := .row 24 1 (.slice a (nw n) c) (nw n) ((words l).map W8)
theorem RdV.own {b n : Nat} {a : Option Addr} {c : Nat} {l : List Bool} {H H1 H2 : List Hl} {m : Nat} [s : SBox H b 86 [I n, .slice a (nw n) c] H1] [s2 : SRow H a c m 24 ((words l).map W8) H2] (hl : l.length = n) (hn : n ≤ 256) (hh : Has H) : RdV (stars H) ⟨b, n, a, c, l⟩ :=
  ⟨cl_box rfl, cl_box rfl, rx_row hh, ⟨hl, hn⟩⟩
theorem VD.ok.words {v : VD} (h : v.ok) : (words v.l).length = nw v.n := by rw [words_len, h.len]
theorem nw_at {n m : Nat} (h : m < n) : m / 64 < nw n := by unfold nw; omega
theorem nw_4 {n : Nat} (h : n ≤ 256) : nw n ≤ 4 := by unfold nw; omega
/-- Is this place set? -/
def hasV (l : List Bool) (i : Int) : Bool := decide (0 ≤ i) && at_ l i.toNat
theorem hasV_nat (l : List Bool) (i : Nat) : hasV l (i : Int) = at_ l i := by simp [hasV]
def inV (n : Nat) (i : Int) : Bool := decide (0 ≤ i ∧ i < n)
theorem inV_of {n : Nat} {i : Int} (h0 : 0 ≤ i) (h1 : i < n) : inV n i = true := by simp [inV]; omega
theorem inV_not {n : Nat} {i : Int} (h : ¬ (0 ≤ i ∧ i < n)) : inV n i = false := by simp [inV]; omega
theorem vec_within (H : List Hl) (v : VD) (i : Int) (h : Cl (stars H) ⟨v.b, 0, none⟩ (I v.n)) :
    Spec Tryd.prog 51 [Pv v, I i] H (fun _ : Unit => True) (fun _ => .bool (inV v.n i)) (fun _ => H) := by
  refine spec_pure (res := fun _ => []) H Tryd.func51 rfl Tryd.ntmps51 (by kernel_rfl) rfl (fun W => ?_)
  by_cases h0 : 0 ≤ i
  · repeat' (first | refine ls_of rfl ?_ | refine ls_of_no ?_ | refine ls_guard_yes rfl rfl ?_ | refine ls_guard_no rfl rfl rfl rfl ?_ | refine ls_guard_un rfl rfl rfl ?_ | refine o1_move rfl ?_ | refine o1_assign rfl ?_ | refine st_seq ?_ | refine st_region ?_ | refine st_block ?_ | refine st_skip ?_ | refine st_ret ?_ | refine st_exit ?_ | refine st_cond_t rfl ?_ | refine st_cond_f rfl ?_ | refine st_cond rfl (fun _ => ?_) (fun _ => ?_) | refine ls_nil ?_ | refine nx_seq ?_ | refine nx_blk ?_ | refine nx_fn ?_ | refine nx_rounds ?_ | refine xt_seq ?_ | refine xt_here ?_ | refine xt_on rfl ?_ | refine xt_rounds ?_ | refine xt_cut ?_ | refine rt_seq ?_ | refine rt_blk ?_ | refine rt_rounds ?_ | refine rt_cut ?_ | refine o1_pneq rfl rfl ?_ | refine ox_load_any rfl h ?_ | refine o1_lss_d rfl rfl ?_ | refine o1_pick_t rfl rfl ?_ | refine o1_pick_f rfl rfl ?_ | refine o1_fieldAddr rfl ?_ | refine ox_load rfl (by rfl) ?_ | refine ox_load_enc rfl (by first | omega | (simp; omega)) ?_ | refine ox_load_any rfl (by assumption) ?_ | refine o1_lss_t rfl rfl (by omega) ?_ | refine o1_lss_f rfl rfl (by omega) ?_ | refine o1_lss rfl rfl (fun _ => ?_) (fun _ => ?_) | refine o1_geq_t rfl rfl (by omega) ?_ | refine o1_geq_f rfl rfl (by omega) ?_ | refine o1_geq rfl rfl (fun _ => ?_) (fun _ => ?_) | refine o1_slice_nil rfl ?_ | refine o1_nilCheck rfl ?_)
    refine rt_tmp () rfl rfl (by simp [inV, h0]) trivial ?_
    (try dsimp only [List.cons_append, List.nil_append, List.singleton_append, List.append_nil]); (repeat (first | exact Ent.nil | exact Ent.refl _ | (apply Ent.cons; (repeat (first | exact Sel.here | apply Sel.there)))))
  · repeat' (first | refine ls_of rfl ?_ | refine ls_of_no ?_ | refine ls_guard_yes rfl rfl ?_ | refine ls_guard_no rfl rfl rfl rfl ?_ | refine ls_guard_un rfl rfl rfl ?_ | refine o1_move rfl ?_ | refine o1_assign rfl ?_ | refine st_seq ?_ | refine st_region ?_ | refine st_block ?_ | refine st_skip ?_ | refine st_ret ?_ | refine st_exit ?_ | refine st_cond_t rfl ?_ | refine st_cond_f rfl ?_ | refine st_cond rfl (fun _ => ?_) (fun _ => ?_) | refine ls_nil ?_ | refine nx_seq ?_ | refine nx_blk ?_ | refine nx_fn ?_ | refine nx_rounds ?_ | refine xt_seq ?_ | refine xt_here ?_ | refine xt_on rfl ?_ | refine xt_rounds ?_ | refine xt_cut ?_ | refine rt_seq ?_ | refine rt_blk ?_ | refine rt_rounds ?_ | refine rt_cut ?_ | refine o1_pneq rfl rfl ?_ | refine ox_load_any rfl h ?_ | refine o1_pick_t rfl rfl ?_ | refine o1_pick_f rfl rfl ?_ | refine o1_fieldAddr rfl ?_ | refine ox_load rfl (by rfl) ?_ | refine ox_load_enc rfl (by first | omega | (simp; omega)) ?_ | refine ox_load_any rfl (by assumption) ?_ | refine o1_lss_t rfl rfl (by omega) ?_ | refine o1_lss_f rfl rfl (by omega) ?_ | refine o1_lss rfl rfl (fun _ => ?_) (fun _ => ?_) | refine o1_geq_t rfl rfl (by omega) ?_ | refine o1_geq_f rfl rfl (by omega) ?_ | refine o1_geq rfl rfl (fun _ => ?_) (fun _ => ?_) | refine o1_slice_nil rfl ?_ | refine o1_nilCheck rfl ?_)
    refine rt_tmp () rfl rfl (by rw [inV_not (by omega)]) trivial ?_
    (try dsimp only [List.cons_append, List.nil_append, List.singleton_append, List.append_nil]); (repeat (first | exact Ent.nil | exact Ent.refl _ | (apply Ent.cons; (repeat (first | exact Sel.here | apply Sel.there)))))
theorem vec_Len (H : List Hl) (v : VD) (h : Cl (stars H) ⟨v.b, 0, none⟩ (I v.n)) :
    Spec Tryd.prog 35 [Pv v] H (fun _ : Unit => True) (fun _ => I v.n) (fun _ => H) := by
  refine spec_pure (res := fun _ => []) H Tryd.func35 rfl Tryd.ntmps35 (by kernel_rfl) rfl (fun W => ?_)
  repeat' (first | refine ls_of rfl ?_ | refine ls_of_no ?_ | refine ls_guard_yes rfl rfl ?_ | refine ls_guard_no rfl rfl rfl rfl ?_ | refine ls_guard_un rfl rfl rfl ?_ | refine o1_move rfl ?_ | refine o1_assign rfl ?_ | refine st_seq ?_ | refine st_region ?_ | refine st_block ?_ | refine st_skip ?_ | refine st_ret ?_ | refine st_exit ?_ | refine st_cond_t rfl ?_ | refine st_cond_f rfl ?_ | refine st_cond rfl (fun _ => ?_) (fun _ => ?_) | refine ls_nil ?_ | refine nx_seq ?_ | refine nx_blk ?_ | refine nx_fn ?_ | refine nx_rounds ?_ | refine xt_seq ?_ | refine xt_here ?_ | refine xt_on rfl ?_ | refine xt_rounds ?_ | refine xt_cut ?_ | refine rt_seq ?_ | refine rt_blk ?_ | refine rt_rounds ?_ | refine rt_cut ?_ | refine o1_peql rfl rfl ?_ | refine ox_load_any rfl h ?_ | refine o1_fieldAddr rfl ?_ | refine ox_load rfl (by rfl) ?_ | refine ox_load_enc rfl (by first | omega | (simp; omega)) ?_ | refine ox_load_any rfl (by assumption) ?_ | refine o1_slice_nil rfl ?_ | refine o1_nilCheck rfl ?_)
  refine rt_tmp () rfl rfl rfl trivial ?_
  (try dsimp only [List.cons_append, List.nil_append, List.singleton_append, List.append_nil]); (repeat (first | exact Ent.nil | exact Ent.refl _ | (apply Ent.cons; (repeat (first | exact Sel.here | apply Sel.there)))))
theorem bit_of (b : Bool) : decide (((b.toNat : Nat) : Int) = 1) = b := by cases b <;> rfl
theorem vec_Has (H : List Hl) (v : VD) (i : Int) (h : RdV (stars H) v) :
    Spec Tryd.prog 17 [Pv v, I i] H (fun _ : Unit => True) (fun _ => .bool (hasV v.l i)) (fun _ => H) := by
  refine spec_pure (res := fun _ => []) H Tryd.func17 rfl Tryd.ntmps17 (by kernel_rfl) rfl (fun W => ?_)
  by_cases hi : 0 ≤ i ∧ i < v.n
  · obtain ⟨m, rfl⟩ : ∃ m : Nat, i = m := ⟨i.toNat, by omega⟩
    have hm : m < v.n := by omega
    have h256 := h.ok.hi
    have hwl := h.ok.words
    have hlt : m / 64 < (words v.l).length := by rw [hwl]; exact nw_at hm
    have hw : (words v.l)[m / 64]? = some (wordOf v.l (m / 64)) := words_at? _ _ (by rw [h.ok.len]; exact nw_at hm)
    have hsh : ((m : Int) % 64).toNat = m % 64 := by omega
    repeat' (first | refine ls_of rfl ?_ | refine ls_of_no ?_ | refine ls_guard_yes rfl rfl ?_ | refine ls_guard_no rfl rfl rfl rfl ?_ | refine ls_guard_un rfl rfl rfl ?_ | refine o1_move rfl ?_ | refine o1_assign rfl ?_ | refine st_seq ?_ | refine st_region ?_ | refine st_block ?_ | refine st_skip ?_ | refine st_ret ?_ | refine st_exit ?_ | refine st_cond_t rfl ?_ | refine st_cond_f rfl ?_ | refine st_cond rfl (fun _ => ?_) (fun _ => ?_) | refine ls_nil ?_ | refine nx_seq ?_ | refine nx_blk ?_ | refine nx_fn ?_ | refine nx_rounds ?_ | refine xt_seq ?_ | refine xt_here ?_ | refine xt_on rfl ?_ | refine xt_rounds ?_ | refine xt_cut ?_ | refine rt_seq ?_ | refine rt_blk ?_ | refine rt_rounds ?_ | refine rt_cut ?_ | refine o1_call (fun _ => (vec_within _ v m (cl_up h.n)).bv (b := true) (inV_of hi.1 hi.2)) rfl (fun _ _ => ?_) | refine ox_load_any rfl h.s ?_ | refine o1_quo rfl rfl (by omega) ?_ | refine o1_ia (m / 64) rfl rfl h.w hwl.symm (by omega) hlt ?_ | refine o1_load_av (m / 64) _ rfl h.w hw ?_ | (refine o1_ushr rfl rfl (by omega) ?_; rw [hsh]) | refine o1_uand (v := 1#64) rfl rfl ?_ | refine o1_eql_d rfl rfl ?_ | refine o1_pick_t rfl rfl ?_ | refine o1_pick_f rfl rfl ?_ | refine o1_fieldAddr rfl ?_ | refine ox_load rfl (by rfl) ?_ | refine ox_load_enc rfl (by first | omega | (simp; omega)) ?_ | refine ox_load_any rfl (by assumption) ?_ | refine o1_eql_t rfl rfl (by omega) ?_ | refine o1_eql_f rfl rfl (by omega) ?_ | refine o1_eql rfl rfl (fun _ => ?_) (fun _ => ?_) | refine o1_uand rfl rfl ?_ | refine o1_ushr rfl rfl (by omega) ?_ | refine o1_rem_nn rfl rfl (by omega) ?_ | refine o1_nilCheck rfl ?_)
    refine rt_tmp () rfl rfl ?_ trivial ?_
    · rw [hasV_nat, word_has, bit_of]
    (try dsimp only [List.cons_append, List.nil_append, List.singleton_append, List.append_nil]); (repeat (first | exact Ent.nil | exact Ent.refl _ | (apply Ent.cons; (repeat (first | exact Sel.here | apply Sel.there)))))
  · repeat' (first | refine ls_of rfl ?_ | refine ls_of_no ?_ | refine ls_guard_yes rfl rfl ?_ | refine ls_guard_no rfl rfl rfl rfl ?_ | refine ls_guard_un rfl rfl rfl ?_ | refine o1_move rfl ?_ | refine o1_assign rfl ?_ | refine st_seq ?_ | refine st_region ?_ | refine st_block ?_ | refine st_skip ?_ | refine st_ret ?_ | refine st_exit ?_ | refine st_cond_t rfl ?_ | refine st_cond_f rfl ?_ | refine st_cond rfl (fun _ => ?_) (fun _ => ?_) | refine ls_nil ?_ | refine nx_seq ?_ | refine nx_blk ?_ | refine nx_fn ?_ | refine nx_rounds ?_ | refine xt_seq ?_ | refine xt_here ?_ | refine xt_on rfl ?_ | refine xt_rounds ?_ | refine xt_cut ?_ | refine rt_seq ?_ | refine rt_blk ?_ | refine rt_rounds ?_ | refine rt_cut ?_ | refine o1_call (fun _ => (vec_within _ v i (cl_up h.n)).bv (b := false) (inV_not hi)) rfl (fun _ _ => ?_) | refine o1_pick_t rfl rfl ?_ | refine o1_pick_f rfl rfl ?_ | refine o1_fieldAddr rfl ?_ | refine ox_load rfl (by rfl) ?_ | refine ox_load_enc rfl (by first | omega | (simp; omega)) ?_ | refine ox_load_any rfl (by assumption) ?_ | refine o1_eql_t rfl rfl (by omega) ?_ | refine o1_eql_f rfl rfl (by omega) ?_ | refine o1_eql rfl rfl (fun _ => ?_) (fun _ => ?_) | refine o1_uand rfl rfl ?_ | refine o1_ushr rfl rfl (by omega) ?_ | refine o1_rem_nn rfl rfl (by omega) ?_ | refine o1_nilCheck rfl ?_)
    refine rt_tmp () rfl rfl ?_ trivial ?_
    · congr 1
      simp only [hasV]
      by_cases h0 : 0 ≤ i
      · have : v.l.length ≤ i.toNat := by rw [h.ok.len]; omega
        have h3 : at_ v.l i.toNat = false := getD_out this
        rw [h3, Bool.and_false]
      · simp [h0]
    (try dsimp only [List.cons_append, List.nil_append, List.singleton_append, List.append_nil]); (repeat (first | exact Ent.nil | exact Ent.refl _ | (apply Ent.cons; (repeat (first | exact Sel.here | apply Sel.there)))))
/-- A place set, or let go, if there is one. -/
def setB (l : List Bool) (i : Int) (on : Bool) : List Bool := if 0 ≤ i ∧ i < l.length then l.set i.toNat on else l
theorem setB_true (l : List Bool) (i : Int) : setB l i true = setI l i := rfl
theorem setB_len (l : List Bool) (i : Int) (on : Bool) : (setB l i on).length = l.length := by unfold setB; split <;> simp
theorem setB_nat (l : List Bool) (i : Nat) (on : Bool) (h : i < l.length) : setB l i on = l.set i on := by
  rw [setB, if_pos (by omega)]; rfl
theorem setB_out (l : List Bool) (i : Int) (on : Bool) (h : ¬ (0 ≤ i ∧ i < l.length)) : setB l i on = l := by rw [setB, if_neg h]
theorem vec_Set (H : List Hl) (b n : Nat) (a : Option Addr) (c : Nat) (l : List Bool) (i : Int) (on : Bool) (hl : l.length = n) (hn : n ≤ 256) :
    Spec Tryd.prog 18 [.pointer (some ⟨b, 0, none⟩), I i, .bool on] (vB b n a c :: vR n a c l :: H) (fun _ : Unit => True) (fun _ => .bool (inV n i)) (fun _ => vB b n a c :: vR n a c (setB l i on) :: H) := by
  refine spec_fn (res := fun _ : Unit => [vB b n a c, vR n a c (setB l i on)]) [vB b n a c, vR n a c l] H Tryd.func18 rfl Tryd.ntmps18 (by kernel_rfl) rfl (fun W => ?_)
  dsimp only [List.cons_append, List.nil_append]
  by_cases hi : 0 ≤ i ∧ i < n
  · obtain ⟨m, rfl⟩ : ∃ m : Nat, i = m := ⟨i.toNat, by omega⟩
    have hm : m < n := by omega
    have hml : m < l.length := by omega
    have hsh : ((m : Int) % 64).toNat = m % 64 := by omega
    have hk : m / 64 < nw n := nw_at hm
    have k1 : ∀ l' : List Bool, l'.length = n → (words l').length = nw n := fun l' h => by rw [words_len, h]
    have hl2 : (l.set m false).length = n := by rw [List.length_set]; exact hl
    have w1 : (words l)[m / 64]? = some (wordOf l (m / 64)) := words_at? _ _ (by rw [hl]; exact hk)
    have w2 : (words (l.set m false))[m / 64]? = some (wordOf (l.set m false) (m / 64)) := words_at? _ _ (by rw [hl2]; exact hk)
    have hon := words_on (l.set m false) m (by omega)
    rw [List.set_set] at hon
    rw [setB_nat _ _ _ hml]
    cases on
    all_goals
      repeat' (first | refine ls_of rfl ?_ | refine ls_of_no ?_ | refine ls_guard_yes rfl rfl ?_ | refine ls_guard_no rfl rfl rfl rfl ?_ | refine ls_guard_un rfl rfl rfl ?_ | refine o1_move rfl ?_ | refine o1_assign rfl ?_ | refine st_seq ?_ | refine st_region ?_ | refine st_block ?_ | refine st_skip ?_ | refine st_ret ?_ | refine st_exit ?_ | refine st_cond_t rfl ?_ | refine st_cond_f rfl ?_ | refine st_cond rfl (fun _ => ?_) (fun _ => ?_) | refine ls_nil ?_ | refine nx_seq ?_ | refine nx_blk ?_ | refine nx_fn ?_ | refine nx_rounds ?_ | refine xt_seq ?_ | refine xt_here ?_ | refine xt_on rfl ?_ | refine xt_rounds ?_ | refine xt_cut ?_ | refine rt_seq ?_ | refine rt_blk ?_ | refine rt_rounds ?_ | refine rt_cut ?_ | refine o1_call (fun _ => (vec_within _ ⟨b, n, a, c, l⟩ m (cl_box rfl)).bv (b := true) (inV_of hi.1 hi.2)) rfl (fun _ _ => ?_) | refine o1_quo rfl rfl (by omega) ?_ | (refine o1_ushl (u := 1#64) rfl rfl (by omega) ?_; rw [hsh]) | refine o1_iah (enc := W8) (xs := words l) (m / 64) rfl rfl rx_row (k1 _ hl).symm (by omega) (by rw [k1 _ hl]; exact hk) ?_ | refine o1_load_hv (enc := W8) (c := c) (m / 64) _ rfl rx_row w1 ?_ | (refine ox_store_rowenc (c := c) W8 (m / 64) rfl rfl hk rfl ?_; rw [← words_off]) | refine o1_iah (enc := W8) (xs := words (l.set m false)) (m / 64) rfl rfl rx_row (k1 _ hl2).symm (by omega) (by rw [k1 _ hl2]; exact hk) ?_ | refine o1_load_hv (enc := W8) (c := c) (m / 64) _ rfl rx_row w2 ?_ | (refine ox_store_rowenc (c := c) W8 (m / 64) rfl rfl hk rfl ?_; rw [← hon]) | refine o1_fieldAddr rfl ?_ | refine ox_load rfl (by rfl) ?_ | refine ox_load_enc rfl (by first | omega | (simp; omega)) ?_ | refine ox_load_any rfl (by assumption) ?_ | refine o1_bnot rfl ?_ | refine o1_uor rfl rfl ?_ | refine o1_uandNot rfl rfl ?_ | refine o1_ushl rfl rfl (by omega) ?_ | refine o1_unot rfl ?_ | refine o1_rem_nn rfl rfl (by omega) ?_ | refine ox_store_enc B rfl rfl (by first | omega | (simp; done) | (simp; omega)) rfl ?_ | refine ox_stores rfl rfl (by first | omega | (simp; done) | (simp; omega)) rfl (by first | (simp only [List.set_cons_zero, List.set_cons_succ, Nat.zero_add, Nat.reduceAdd]; rfl) | rfl) ?_ | refine o1_nilCheck rfl ?_)
      refine rt_tmp () rfl rfl (by rw [inV_of hi.1 hi.2]) trivial ?_
      (try dsimp only [List.cons_append, List.nil_append, List.singleton_append, List.append_nil]); (repeat (first | exact Ent.nil | exact Ent.refl _ | (apply Ent.cons; (repeat (first | exact Sel.here | apply Sel.there)))))
  · rw [setB_out _ _ _ (by rw [hl]; exact hi)]
    repeat' (first | refine ls_of rfl ?_ | refine ls_of_no ?_ | refine ls_guard_yes rfl rfl ?_ | refine ls_guard_no rfl rfl rfl rfl ?_ | refine ls_guard_un rfl rfl rfl ?_ | refine o1_move rfl ?_ | refine o1_assign rfl ?_ | refine st_seq ?_ | refine st_region ?_ | refine st_block ?_ | refine st_skip ?_ | refine st_ret ?_ | refine st_exit ?_ | refine st_cond_t rfl ?_ | refine st_cond_f rfl ?_ | refine st_cond rfl (fun _ => ?_) (fun _ => ?_) | refine ls_nil ?_ | refine nx_seq ?_ | refine nx_blk ?_ | refine nx_fn ?_ | refine nx_rounds ?_ | refine xt_seq ?_ | refine xt_here ?_ | refine xt_on rfl ?_ | refine xt_rounds ?_ | refine xt_cut ?_ | refine rt_seq ?_ | refine rt_blk ?_ | refine rt_rounds ?_ | refine rt_cut ?_ | refine o1_call (fun _ => (vec_within _ ⟨b, n, a, c, l⟩ i (cl_box rfl)).bv (b := false) (inV_not hi)) rfl (fun _ _ => ?_) | refine o1_fieldAddr rfl ?_ | refine ox_load rfl (by rfl) ?_ | refine ox_load_enc rfl (by first | omega | (simp; omega)) ?_ | refine ox_load_any rfl (by assumption) ?_ | refine o1_bnot rfl ?_ | refine o1_uor rfl rfl ?_ | refine o1_uandNot rfl rfl ?_ | refine o1_ushl rfl rfl (by omega) ?_ | refine o1_unot rfl ?_ | refine o1_rem_nn rfl rfl (by omega) ?_ | refine ox_store_enc B rfl rfl (by first | omega | (simp; done) | (simp; omega)) rfl ?_ | refine ox_stores rfl rfl (by first | omega | (simp; done) | (simp; omega)) rfl (by first | (simp only [List.set_cons_zero, List.set_cons_succ, Nat.zero_add, Nat.reduceAdd]; rfl) | rfl) ?_ | refine o1_nilCheck rfl ?_)
    refine rt_tmp () rfl rfl (by rw [inV_not hi]) trivial ?_
    (try dsimp only [List.cons_append, List.nil_append, List.singleton_append, List.append_nil]); (repeat (first | exact Ent.nil | exact Ent.refl _ | (apply Ent.cons; (repeat (first | exact Sel.here | apply Sel.there)))))
theorem vec_New_no (H : List Hl) (n : Int) (h : ¬ (0 ≤ n ∧ n ≤ 256)) :
    Spec Tryd.prog 31 [I n] H (fun _ : Unit => True) (fun _ => .pointer none) (fun _ => H) := by
  refine spec_pure (res := fun _ => []) H Tryd.func31 rfl Tryd.ntmps31 (by kernel_rfl) rfl (fun W => ?_)
  by_cases h0 : n < 0
  all_goals
    repeat' (first | refine ls_of rfl ?_ | refine ls_of_no ?_ | refine ls_guard_yes rfl rfl ?_ | refine ls_guard_no rfl rfl rfl rfl ?_ | refine ls_guard_un rfl rfl rfl ?_ | refine o1_move rfl ?_ | refine o1_assign rfl ?_ | refine st_seq ?_ | refine st_region ?_ | refine st_block ?_ | refine st_skip ?_ | refine st_ret ?_ | refine st_exit ?_ | refine st_cond_t rfl ?_ | refine st_cond_f rfl ?_ | refine st_cond rfl (fun _ => ?_) (fun _ => ?_) | refine ls_nil ?_ | refine nx_seq ?_ | refine nx_blk ?_ | refine nx_fn ?_ | refine nx_rounds ?_ | refine xt_seq ?_ | refine xt_here ?_ | refine xt_on rfl ?_ | refine xt_rounds ?_ | refine xt_cut ?_ | refine rt_seq ?_ | refine rt_blk ?_ | refine rt_rounds ?_ | refine rt_cut ?_ | refine o1_pick_t rfl rfl ?_ | refine o1_pick_f rfl rfl ?_ | refine o1_box rfl rfl (fun _ => ?_) | refine o1_add rfl rfl (by omega) ?_ | refine o1_sub rfl rfl (by omega) ?_ | refine o1_lss_t rfl rfl (by omega) ?_ | refine o1_lss_f rfl rfl (by omega) ?_ | refine o1_lss rfl rfl (fun _ => ?_) (fun _ => ?_) | refine o1_gtr_t rfl rfl (by omega) ?_ | refine o1_gtr_f rfl rfl (by omega) ?_ | refine o1_gtr rfl rfl (fun _ => ?_) (fun _ => ?_) | refine o1_maken (enc := B) 0#8 rfl rfl rfl rfl (by omega) (by omega) (by omega) (fun _ => ?_) | refine o1_buildx rfl (by simp only [buildL, putL, List.set_cons_zero, List.set_cons_succ, List.getElem?_cons_zero, List.getElem?_cons_succ, Option.getD_some, Value.cells, Nat.zero_add, Nat.reduceAdd]; rfl) (fun _ => by kernel_rfl) ?_)
    refine rt_tmp () rfl rfl rfl trivial ?_
    (try dsimp only [List.cons_append, List.nil_append, List.singleton_append, List.append_nil]); (repeat (first | exact Ent.nil | exact Ent.refl _ | (apply Ent.cons; (repeat (first | exact Sel.here | apply Sel.there)))))
theorem vec_New (H : List Hl) (n : Nat) (hn : n ≤ 256) :
    Spec Tryd.prog 31 [I n] H (fun _ : Nat × Option Addr × Nat => True) (fun r => .pointer (some ⟨r.1, 0, none⟩)) (fun r => vB r.1 n r.2.1 r.2.2 :: vR n r.2.1 r.2.2 (List.replicate n false) :: H) := by
  refine spec_pure (res := fun r : Nat × Option Addr × Nat => [vB r.1 n r.2.1 r.2.2, vR n r.2.1 r.2.2 (List.replicate n false)]) H Tryd.func31 rfl Tryd.ntmps31 (by kernel_rfl) rfl (fun W => ?_)
  have h4 := nw_4 hn
  have hq : ((n : Int) + 64 - 1) / 64 = (nw n : Nat) := by unfold nw; omega
  repeat' (first | refine ls_of rfl ?_ | refine ls_of_no ?_ | refine ls_guard_yes rfl rfl ?_ | refine ls_guard_no rfl rfl rfl rfl ?_ | refine ls_guard_un rfl rfl rfl ?_ | refine o1_move rfl ?_ | refine o1_assign rfl ?_ | refine st_seq ?_ | refine st_region ?_ | refine st_block ?_ | refine st_skip ?_ | refine st_ret ?_ | refine st_exit ?_ | refine st_cond_t rfl ?_ | refine st_cond_f rfl ?_ | refine st_cond rfl (fun _ => ?_) (fun _ => ?_) | refine ls_nil ?_ | refine nx_seq ?_ | refine nx_blk ?_ | refine nx_fn ?_ | refine nx_rounds ?_ | refine xt_seq ?_ | refine xt_here ?_ | refine xt_on rfl ?_ | refine xt_rounds ?_ | refine xt_cut ?_ | refine rt_seq ?_ | refine rt_blk ?_ | refine rt_rounds ?_ | refine rt_cut ?_ | (refine o1_quo rfl rfl (by omega) ?_; rw [hq]) | refine o1_maker (enc := W8) 0#64 (nw n) rfl rfl rfl rfl rfl (by omega) (by omega) (fun b2 => ?_) | refine o1_box rfl rfl (fun b1 => ?_) | refine o1_pick_t rfl rfl ?_ | refine o1_pick_f rfl rfl ?_ | refine o1_box rfl rfl (fun _ => ?_) | refine o1_add rfl rfl (by omega) ?_ | refine o1_sub rfl rfl (by omega) ?_ | refine o1_lss_t rfl rfl (by omega) ?_ | refine o1_lss_f rfl rfl (by omega) ?_ | refine o1_lss rfl rfl (fun _ => ?_) (fun _ => ?_) | refine o1_gtr_t rfl rfl (by omega) ?_ | refine o1_gtr_f rfl rfl (by omega) ?_ | refine o1_gtr rfl rfl (fun _ => ?_) (fun _ => ?_) | refine o1_maken (enc := B) 0#8 rfl rfl rfl rfl (by omega) (by omega) (by omega) (fun _ => ?_) | refine o1_buildx rfl (by simp only [buildL, putL, List.set_cons_zero, List.set_cons_succ, List.getElem?_cons_zero, List.getElem?_cons_succ, Option.getD_some, Value.cells, Nat.zero_add, Nat.reduceAdd]; rfl) (fun _ => by kernel_rfl) ?_)
  rw [← words_zero]
  refine rt_row (T := 24) (b := b2) (m := nw n) (cp := nw n) (cs := (words (List.replicate n false)).map W8) (by rw [List.length_map, words_len, List.length_replicate]) rfl (by omega) ?_
  refine rt_tmp (b1, some ⟨b2, 0, none⟩, nw n) rfl rfl rfl trivial ?_
  (try dsimp only [List.cons_append, List.nil_append, List.singleton_append, List.append_nil]); (repeat (first | exact Ent.nil | exact Ent.refl _ | (apply Ent.cons; (repeat (first | exact Sel.here | apply Sel.there)))))
theorem vec_Of (H : List Hl) (n : Nat) (ad : Option Addr) (c : Nat) (l : List Int) (hn : n ≤ 256) (h : Rs (stars H) I ad c l) :
    Spec Tryd.prog 15 [I n, .slice ad l.length c] H (fun _ : Nat × Option Addr × Nat => True) (fun r => .pointer (some ⟨r.1, 0, none⟩)) (fun r => vB r.1 n r.2.1 r.2.2 :: vR n r.2.1 r.2.2 (bitsOf n l) :: H) := by
  refine spec_pure (res := fun r : Nat × Option Addr × Nat => [vB r.1 n r.2.1 r.2.2, vR n r.2.1 r.2.2 (bitsOf n l)]) H Tryd.func15 rfl Tryd.ntmps15 (by kernel_rfl) rfl (fun W => ?_)
  have hle := h.le
  have hbg := h.big
  repeat' (first | refine ls_of rfl ?_ | refine ls_of_no ?_ | refine ls_guard_yes rfl rfl ?_ | refine ls_guard_no rfl rfl rfl rfl ?_ | refine ls_guard_un rfl rfl rfl ?_ | refine o1_move rfl ?_ | refine o1_assign rfl ?_ | refine st_seq ?_ | refine st_region ?_ | refine st_block ?_ | refine st_skip ?_ | refine st_ret ?_ | refine st_exit ?_ | refine st_cond_t rfl ?_ | refine st_cond_f rfl ?_ | refine st_cond rfl (fun _ => ?_) (fun _ => ?_) | refine ls_nil ?_ | refine nx_seq ?_ | refine nx_blk ?_ | refine nx_fn ?_ | refine nx_rounds ?_ | refine xt_seq ?_ | refine xt_here ?_ | refine xt_on rfl ?_ | refine xt_rounds ?_ | refine xt_cut ?_ | refine rt_seq ?_ | refine rt_blk ?_ | refine rt_rounds ?_ | refine rt_cut ?_ | (refine o1_call (fun _ => vec_New _ n hn) rfl (fun ⟨b1, a1, c1⟩ _ => ?_); dsimp only) | refine ox_load rfl (by rfl) ?_ | refine ox_load_enc rfl (by first | omega | (simp; omega)) ?_ | refine ox_load_any rfl (by assumption) ?_ | refine o1_len rfl ?_ | refine o1_add rfl rfl (by omega) ?_ | refine o1_lss_t rfl rfl (by omega) ?_ | refine o1_lss_f rfl rfl (by omega) ?_ | refine o1_lss rfl rfl (fun _ => ?_) (fun _ => ?_))
  refine st_loop (S := Nat) (fun i => [(5, .pointer (some ⟨b1, 0, none⟩)), (10, .slice ad l.length c), (11, I l.length), (12, I i)]) (fun i => [vB b1 n a1 c1, vR n a1 c1 (bitsOf n (l.take i)), .any (stars H)]) (fun i => i ≤ l.length) (fun i => l.length - i) 0 (Nat.zero_le _)
    (cov_cons rfl rfl (cov_cons rfl rfl (cov_cons rfl rfl (cov_cons rfl rfl cov_nil)))) (by show Ent _ [vB b1 n a1 c1, vR n a1 c1 (bitsOf n (l.take 0)), .any (stars H)]; rw [List.take_zero]; show Ent _ [vB b1 n a1 c1, vR n a1 c1 (List.replicate n false), .any (stars H)]; (try dsimp only [List.cons_append, List.nil_append, List.singleton_append, List.append_nil]); (repeat (first | exact Ent.nil | exact Ent.refl _ | (apply Ent.cons; (repeat (first | exact Sel.here | apply Sel.there)))))) ?_
  intro i hi
  by_cases hlt : i < l.length
  · have e1 : setB (bitsOf n (l.take i)) l[i] true = bitsOf n (l.take (i + 1)) := by
      rw [setB_true, ← bitsOf_snoc, List.take_succ_eq_append_getElem hlt]
    repeat' (first | refine ls_of rfl ?_ | refine ls_of_no ?_ | refine ls_guard_yes rfl rfl ?_ | refine ls_guard_no rfl rfl rfl rfl ?_ | refine ls_guard_un rfl rfl rfl ?_ | refine o1_move rfl ?_ | refine o1_assign rfl ?_ | refine st_seq ?_ | refine st_region ?_ | refine st_block ?_ | refine st_skip ?_ | refine st_ret ?_ | refine st_exit ?_ | refine st_cond_t rfl ?_ | refine st_cond_f rfl ?_ | refine st_cond rfl (fun _ => ?_) (fun _ => ?_) | refine ls_nil ?_ | refine nx_seq ?_ | refine nx_blk ?_ | refine nx_fn ?_ | refine nx_rounds ?_ | refine xt_seq ?_ | refine xt_here ?_ | refine xt_on rfl ?_ | refine xt_rounds ?_ | refine xt_cut ?_ | refine rt_seq ?_ | refine rt_blk ?_ | refine rt_rounds ?_ | refine rt_cut ?_ | refine o1_ia i rfl rfl h rfl rfl hlt ?_ | refine o1_load_ia i rfl h hlt ?_ | (refine o1_call_br b1 a1 c1 (fun _ => vec_Set _ b1 n a1 c1 (bitsOf n (l.take i)) l[i] true (bitsOf_len _ _) hn) rfl (fun _ _ => ?_); rw [e1]) | refine ox_load rfl (by rfl) ?_ | refine ox_load_enc rfl (by first | omega | (simp; omega)) ?_ | refine ox_load_any rfl (by assumption) ?_ | refine o1_len rfl ?_ | refine o1_add rfl rfl (by omega) ?_ | refine o1_lss_t rfl rfl (by omega) ?_ | refine o1_lss_f rfl rfl (by omega) ?_ | refine o1_lss rfl rfl (fun _ => ?_) (fun _ => ?_))
    refine nx_again (i + 1) (by omega) (by omega) (cov_cons rfl rfl (cov_cons rfl rfl (cov_cons rfl rfl (cov_cons rfl rfl cov_nil)))) ?_
    (try dsimp only [List.cons_append, List.nil_append, List.singleton_append, List.append_nil]); (repeat (first | exact Ent.nil | exact Ent.refl _ | (apply Ent.cons; (repeat (first | exact Sel.here | apply Sel.there)))))
  · have : i = l.length := by omega
    subst this
    repeat' (first | refine ls_of rfl ?_ | refine ls_of_no ?_ | refine ls_guard_yes rfl rfl ?_ | refine ls_guard_no rfl rfl rfl rfl ?_ | refine ls_guard_un rfl rfl rfl ?_ | refine o1_move rfl ?_ | refine o1_assign rfl ?_ | refine st_seq ?_ | refine st_region ?_ | refine st_block ?_ | refine st_skip ?_ | refine st_ret ?_ | refine st_exit ?_ | refine st_cond_t rfl ?_ | refine st_cond_f rfl ?_ | refine st_cond rfl (fun _ => ?_) (fun _ => ?_) | refine ls_nil ?_ | refine nx_seq ?_ | refine nx_blk ?_ | refine nx_fn ?_ | refine nx_rounds ?_ | refine xt_seq ?_ | refine xt_here ?_ | refine xt_on rfl ?_ | refine xt_rounds ?_ | refine xt_cut ?_ | refine rt_seq ?_ | refine rt_blk ?_ | refine rt_rounds ?_ | refine rt_cut ?_ | refine ox_load rfl (by rfl) ?_ | refine ox_load_enc rfl (by first | omega | (simp; omega)) ?_ | refine ox_load_any rfl (by assumption) ?_ | refine o1_len rfl ?_ | refine o1_add rfl rfl (by omega) ?_ | refine o1_lss_t rfl rfl (by omega) ?_ | refine o1_lss_f rfl rfl (by omega) ?_ | refine o1_lss rfl rfl (fun _ => ?_) (fun _ => ?_))
    refine rt_tmp (b1, a1, c1) rfl rfl rfl trivial ?_
    rw [List.take_length]
    (try dsimp only [List.cons_append, List.nil_append, List.singleton_append, List.append_nil]); (repeat (first | exact Ent.nil | exact Ent.refl _ | (apply Ent.cons; (repeat (first | exact Sel.here | apply Sel.there)))))
end Go.Dp
