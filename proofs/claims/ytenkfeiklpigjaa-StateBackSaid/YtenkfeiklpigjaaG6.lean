/-
  The reader of state, walked.
  Conditions: those that stand in each theorem.
-/
import Derived.Test.YtenkfeiklpigjaaG4
set_option linter.unusedVariables false
set_option linter.unusedSimpArgs false
namespace Go.Dp
open Go.RowKit Go.Proofs
/-- What a reader holds: the bytes ahead, its error. -/
structure RD where
  l : List (BitVec 8)
  e : Int
def RD.nx (r : RD) (n : Nat) : RD := if r.e = 0 then (if r.l.length < n then ⟨[], 2⟩ else ⟨r.l.drop n, 0⟩) else r
def RD.tk (r : RD) (n : Nat) : List (BitVec 8) := if r.e = 0 ∧ n ≤ r.l.length then r.l.take n else List.replicate n 0#8
def RD.fl (r : RD) : RD := if 1 < (num32 (r.tk 1)).toNat ∧ (r.nx 1).e = 0 then ⟨[], 3⟩ else r.nx 1
def RD.is (r : RD) : Bool := decide (r.fl.e = 0) && decide ((num32 (r.tk 1)).toNat = 1)
theorem tk_len (r : RD) (n : Nat) : (r.tk n).length = n := by
  unfold RD.tk
  split
  · rw [List.length_take]; omega
  · simp
theorem nx_bad {r : RD} (h : r.e ≠ 0) (n : Nat) : r.nx n = r ∧ r.tk n = List.replicate n 0#8 := ⟨if_neg h, if_neg (by omega)⟩
theorem nx_short {r : RD} (h : r.e = 0) {n : Nat} (hn : r.l.length < n) : r.nx n = ⟨[], 2⟩ ∧ r.tk n = List.replicate n 0#8 := ⟨by rw [RD.nx, if_pos h, if_pos hn], if_neg (by omega)⟩
theorem nx_ok {r : RD} (h : r.e = 0) {n : Nat} (hn : n ≤ r.l.length) : r.nx n = ⟨r.l.drop n, 0⟩ ∧ r.tk n = r.l.take n := ⟨by rw [RD.nx, if_pos h, if_neg (by omega)], if_pos ⟨h, hn⟩⟩
/-- What stands in the reader's box. -/
structure RdOk (A : Hp → Prop) (s : SlD (BitVec 8)) (r : RD) : Prop where
  rd : RdS A s
  eq : r.e = 0 → s.l = r.l
abbrev rdBox (b : Nat) (s : SlD (BitVec 8)) (r : RD) : Hl := .box b 71 [Bs s, I r.e]
set_option maxHeartbeats 2000000 in
theorem rd_some (H : List Hl) (A : Hp → Prop) (hA : ∀ w, sat w (stars H) → sat w A) (b n : Nat) (s : SlD (BitVec 8)) (r r' : RD) (t : List (BitVec 8)) (hs : RdOk A s r) (hn : n ≤ 100) (h1 : r.nx n = r') (h2 : r.tk n = t) :
    Spec Try.prog 53 [.pointer (some ⟨b, 0, none⟩), I n] (rdBox b s r :: H) (fun y : PA × SlD (BitVec 8) => RdOk A y.2 r') (fun y => .slice y.1.1 t.length y.1.2) (fun y => rdBox b y.2 r' :: rowB y.1 t :: H) := by
  refine spec_fn (res := fun y : PA × SlD (BitVec 8) => [rdBox b y.2 r', rowB y.1 t]) [rdBox b s r] H Try.func53 rfl Try.ntmps53 (by kernel_rfl) rfl (fun W => ?_)
  dsimp only [rdBox, List.cons_append, List.nil_append]
  have hr : RdS (stars H) s := hs.rd.mono hA
  by_cases he : r.e = 0
  · have hsl := hs.eq he
    by_cases hlt : r.l.length < n
    · obtain ⟨k1, k2⟩ := nx_short he hlt
      rw [k1] at h1
      rw [k2] at h2
      subst h1
      rw [← hsl] at hlt
      have htl : t.length = n := by rw [← h2]; simp
      subst htl
      repeat' (first | refine ls_of rfl ?_ | refine ls_of_no ?_ | refine ls_guard_yes rfl rfl ?_ | refine ls_guard_no rfl rfl rfl rfl ?_ | refine ls_guard_un rfl rfl rfl ?_ | refine o1_move rfl ?_ | refine o1_assign rfl ?_ | refine st_seq ?_ | refine st_region ?_ | refine st_block ?_ | refine st_skip ?_ | refine st_ret ?_ | refine st_exit ?_ | refine st_cond_t rfl ?_ | refine st_cond_f rfl ?_ | refine st_cond rfl (fun _ => ?_) (fun _ => ?_) | refine ls_nil ?_ | refine nx_seq ?_ | refine nx_blk ?_ | refine nx_fn ?_ | refine nx_rounds ?_ | refine xt_seq ?_ | refine xt_here ?_ | refine xt_on rfl ?_ | refine xt_rounds ?_ | refine xt_cut ?_ | refine rt_seq ?_ | refine rt_blk ?_ | refine rt_rounds ?_ | refine rt_cut ?_ | (refine o1_maker (enc := B) 0#8 t.length rfl rfl rfl rfl rfl (by omega) (by omega) (fun b9 => ?_); rw [h2]) | refine o1_pick_t rfl rfl ?_ | refine o1_pick_f rfl rfl ?_ | refine o1_fieldAddr rfl ?_ | refine ox_load rfl (by rfl) ?_ | refine ox_load_enc rfl (by first | omega | (simp; omega)) ?_ | refine ox_load_any rfl (by assumption) ?_ | refine o1_len rfl ?_ | refine o1_lss_t rfl rfl (by omega) ?_ | refine o1_lss_f rfl rfl (by omega) ?_ | refine o1_lss rfl rfl (fun _ => ?_) (fun _ => ?_) | refine o1_eql_t rfl rfl (by omega) ?_ | refine o1_eql_f rfl rfl (by omega) ?_ | refine o1_eql rfl rfl (fun _ => ?_) (fun _ => ?_) | refine o1_neq_t rfl rfl (by omega) ?_ | refine o1_neq_f rfl rfl (by omega) ?_ | refine o1_neq rfl rfl (fun _ => ?_) (fun _ => ?_) | refine o1_maken (enc := B) 0#8 rfl rfl rfl rfl (by omega) (by omega) (by omega) (fun _ => ?_) | refine ox_store_enc B rfl rfl (by first | omega | (simp; done) | (simp; omega)) rfl ?_ | refine ox_stores rfl rfl (by first | omega | (simp; done) | (simp; omega)) rfl (by first | (simp only [List.set_cons_zero, List.set_cons_succ, Nat.zero_add, Nat.reduceAdd]; rfl) | rfl) ?_ | refine o1_nilCheck rfl ?_)
      refine rt_row (T := 5) (b := b9) (m := t.length) (cp := t.length) (cs := t.map B) (by simp) rfl (by omega) ?_
      refine rt_tmp ((some ⟨b9, 0, none⟩, t.length), s) rfl rfl rfl ⟨hs.rd, fun h => by cases h⟩ ?_
      (try dsimp only [List.cons_append, List.nil_append, List.singleton_append, List.append_nil]); (repeat (first | exact Ent.nil | exact Ent.refl _ | (apply Ent.cons; (repeat (first | exact Sel.here | apply Sel.there)))))
    · obtain ⟨k1, k2⟩ := nx_ok he (n := n) (by omega)
      rw [k1] at h1
      rw [k2] at h2
      subst h1 h2
      rw [← hsl] at hlt
      have hle := hs.rd.le
      rw [he]
      repeat' (first | refine ls_of rfl ?_ | refine ls_of_no ?_ | refine ls_guard_yes rfl rfl ?_ | refine ls_guard_no rfl rfl rfl rfl ?_ | refine ls_guard_un rfl rfl rfl ?_ | refine o1_move rfl ?_ | refine o1_assign rfl ?_ | refine st_seq ?_ | refine st_region ?_ | refine st_block ?_ | refine st_skip ?_ | refine st_ret ?_ | refine st_exit ?_ | refine st_cond_t rfl ?_ | refine st_cond_f rfl ?_ | refine st_cond rfl (fun _ => ?_) (fun _ => ?_) | refine ls_nil ?_ | refine nx_seq ?_ | refine nx_blk ?_ | refine nx_fn ?_ | refine nx_rounds ?_ | refine xt_seq ?_ | refine xt_here ?_ | refine xt_on rfl ?_ | refine xt_rounds ?_ | refine xt_cut ?_ | refine rt_seq ?_ | refine rt_blk ?_ | refine rt_rounds ?_ | refine rt_cut ?_ | refine o1_cs_h (xs := s.l) n rfl rfl rfl rfl hle (by omega) ?_ | refine o1_cs_l (xs := s.l) n rfl rfl rfl rfl (by omega) ?_ | (refine o1_call (fun _ => slices_Clone _ _ _ (s.l.take n) (Rs.up (hr.cuth n (by omega))) (by simp; omega)) rfl (fun ⟨a5, c5⟩ _ => ?_); dsimp only) | refine o1_pick_t rfl rfl ?_ | refine o1_pick_f rfl rfl ?_ | refine o1_fieldAddr rfl ?_ | refine ox_load rfl (by rfl) ?_ | refine ox_load_enc rfl (by first | omega | (simp; omega)) ?_ | refine ox_load_any rfl (by assumption) ?_ | refine o1_len rfl ?_ | refine o1_lss_t rfl rfl (by omega) ?_ | refine o1_lss_f rfl rfl (by omega) ?_ | refine o1_lss rfl rfl (fun _ => ?_) (fun _ => ?_) | refine o1_eql_t rfl rfl (by omega) ?_ | refine o1_eql_f rfl rfl (by omega) ?_ | refine o1_eql rfl rfl (fun _ => ?_) (fun _ => ?_) | refine o1_neq_t rfl rfl (by omega) ?_ | refine o1_neq_f rfl rfl (by omega) ?_ | refine o1_neq rfl rfl (fun _ => ?_) (fun _ => ?_) | refine o1_maken (enc := B) 0#8 rfl rfl rfl rfl (by omega) (by omega) (by omega) (fun _ => ?_) | refine ox_store_enc B rfl rfl (by first | omega | (simp; done) | (simp; omega)) rfl ?_ | refine ox_stores rfl rfl (by first | omega | (simp; done) | (simp; omega)) rfl (by first | (simp only [List.set_cons_zero, List.set_cons_succ, Nat.zero_add, Nat.reduceAdd]; rfl) | rfl) ?_ | refine o1_nilCheck rfl ?_)
      rw [← hsl]
      refine rt_tmp ((a5, c5), ⟨cutA s.ad s.cap n, s.cap - n, s.l.drop n⟩) rfl rfl rfl ⟨hs.rd.cutl n (by omega), fun _ => rfl⟩ ?_
      (try dsimp only [List.cons_append, List.nil_append, List.singleton_append, List.append_nil]); (repeat (first | exact Ent.nil | exact Ent.refl _ | (apply Ent.cons; (repeat (first | exact Sel.here | apply Sel.there)))))
  · obtain ⟨k1, k2⟩ := nx_bad he n
    rw [k1] at h1
    rw [k2] at h2
    subst h1
    have htl : t.length = n := by rw [← h2]; simp
    subst htl
    repeat' (first | refine ls_of rfl ?_ | refine ls_of_no ?_ | refine ls_guard_yes rfl rfl ?_ | refine ls_guard_no rfl rfl rfl rfl ?_ | refine ls_guard_un rfl rfl rfl ?_ | refine o1_move rfl ?_ | refine o1_assign rfl ?_ | refine st_seq ?_ | refine st_region ?_ | refine st_block ?_ | refine st_skip ?_ | refine st_ret ?_ | refine st_exit ?_ | refine st_cond_t rfl ?_ | refine st_cond_f rfl ?_ | refine st_cond rfl (fun _ => ?_) (fun _ => ?_) | refine ls_nil ?_ | refine nx_seq ?_ | refine nx_blk ?_ | refine nx_fn ?_ | refine nx_rounds ?_ | refine xt_seq ?_ | refine xt_here ?_ | refine xt_on rfl ?_ | refine xt_rounds ?_ | refine xt_cut ?_ | refine rt_seq ?_ | refine rt_blk ?_ | refine rt_rounds ?_ | refine rt_cut ?_ | (refine o1_maker (enc := B) 0#8 t.length rfl rfl rfl rfl rfl (by omega) (by omega) (fun b9 => ?_); rw [h2]) | refine o1_pick_t rfl rfl ?_ | refine o1_pick_f rfl rfl ?_ | refine o1_fieldAddr rfl ?_ | refine ox_load rfl (by rfl) ?_ | refine ox_load_enc rfl (by first | omega | (simp; omega)) ?_ | refine ox_load_any rfl (by assumption) ?_ | refine o1_len rfl ?_ | refine o1_lss_t rfl rfl (by omega) ?_ | refine o1_lss_f rfl rfl (by omega) ?_ | refine o1_lss rfl rfl (fun _ => ?_) (fun _ => ?_) | refine o1_eql_t rfl rfl (by omega) ?_ | refine o1_eql_f rfl rfl (by omega) ?_ | refine o1_eql rfl rfl (fun _ => ?_) (fun _ => ?_) | refine o1_neq_t rfl rfl (by omega) ?_ | refine o1_neq_f rfl rfl (by omega) ?_ | refine o1_neq rfl rfl (fun _ => ?_) (fun _ => ?_) | refine o1_maken (enc := B) 0#8 rfl rfl rfl rfl (by omega) (by omega) (by omega) (fun _ => ?_) | refine ox_store_enc B rfl rfl (by first | omega | (simp; done) | (simp; omega)) rfl ?_ | refine ox_stores rfl rfl (by first | omega | (simp; done) | (simp; omega)) rfl (by first | (simp only [List.set_cons_zero, List.set_cons_succ, Nat.zero_add, Nat.reduceAdd]; rfl) | rfl) ?_ | refine o1_nilCheck rfl ?_)
    refine rt_row (T := 5) (b := b9) (m := t.length) (cp := t.length) (cs := t.map B) (by simp) rfl (by omega) ?_
    refine rt_tmp ((some ⟨b9, 0, none⟩, t.length), s) rfl rfl rfl ⟨hs.rd, fun h => absurd h he⟩ ?_
    (try dsimp only [List.cons_append, List.nil_append, List.singleton_append, List.append_nil]); (repeat (first | exact Ent.nil | exact Ent.refl _ | (apply Ent.cons; (repeat (first | exact Sel.here | apply Sel.there)))))
set_option maxHeartbeats 2000000 in
theorem rd_number (H : List Hl) (A : Hp → Prop) (hA : ∀ w, sat w (stars H) → sat w A) (b n : Nat) (s : SlD (BitVec 8)) (r r' : RD) (v : BitVec 32) (hs : RdOk A s r) (hn : n ≤ 100) (h1 : r.nx n = r') (h2 : num32 (r.tk n) = v) :
    Spec Try.prog 51 [.pointer (some ⟨b, 0, none⟩), I n] (rdBox b s r :: H) (fun y : SlD (BitVec 8) => RdOk A y r') (fun y => W4 v) (fun y => rdBox b y r' :: H) := by
  refine spec_fn (res := fun y : SlD (BitVec 8) => [rdBox b y r']) [rdBox b s r] H Try.func51 rfl Try.ntmps51 (by kernel_rfl) rfl (fun W => ?_)
  dsimp only [rdBox, List.cons_append, List.nil_append]
  have hA' : ∀ w, sat w (stars [.any (stars H)]) → sat w A := fun w hw => hA w (sel_sat .here w hw)
  obtain ⟨t, ht⟩ : ∃ t, r.tk n = t := ⟨_, rfl⟩
  have htl : t.length = n := by rw [← ht]; exact tk_len r n
  rw [ht] at h2
  subst h2
  repeat' (first | refine ls_of rfl ?_ | refine ls_of_no ?_ | refine ls_guard_yes rfl rfl ?_ | refine ls_guard_no rfl rfl rfl rfl ?_ | refine ls_guard_un rfl rfl rfl ?_ | refine o1_move rfl ?_ | refine o1_assign rfl ?_ | refine st_seq ?_ | refine st_region ?_ | refine st_block ?_ | refine st_skip ?_ | refine st_ret ?_ | refine st_exit ?_ | refine st_cond_t rfl ?_ | refine st_cond_f rfl ?_ | refine st_cond rfl (fun _ => ?_) (fun _ => ?_) | refine ls_nil ?_ | refine nx_seq ?_ | refine nx_blk ?_ | refine nx_fn ?_ | refine nx_rounds ?_ | refine xt_seq ?_ | refine xt_here ?_ | refine xt_on rfl ?_ | refine xt_rounds ?_ | refine xt_cut ?_ | refine rt_seq ?_ | refine rt_blk ?_ | refine rt_rounds ?_ | refine rt_cut ?_ | (refine o1_call (fun _ => rd_some [.any (stars H)] A hA' b n s r r' t hs hn h1 ht) rfl (fun ⟨⟨a5, c5⟩, s'⟩ hok => ?_); try dsimp only at hok ⊢) | refine ox_load rfl (by rfl) ?_ | refine ox_load_enc rfl (by first | omega | (simp; omega)) ?_ | refine ox_load_any rfl (by assumption) ?_ | refine o1_len rfl ?_ | refine o1_add rfl rfl (by omega) ?_ | refine o1_lss_t rfl rfl (by omega) ?_ | refine o1_lss_f rfl rfl (by omega) ?_ | refine o1_lss rfl rfl (fun _ => ?_) (fun _ => ?_) | refine o1_uor rfl rfl ?_ | refine o1_ushl rfl rfl (by omega) ?_ | refine o1_conv_uu rfl ?_)
  refine st_loop (S := Nat) (fun i => [(5, W4 (num32 (t.take i))), (10, .slice a5 t.length c5), (11, I t.length), (12, I i)]) (fun _ => [rdBox b s' r', rowB (a5, c5) t, .any (stars H)]) (fun i => i ≤ t.length) (fun i => t.length - i) 0 (by omega)
    (cov_cons rfl rfl (cov_cons rfl rfl (cov_cons rfl rfl (cov_cons rfl rfl cov_nil)))) (Ent.refl _) ?_
  intro i hi
  by_cases hlt : i < t.length
  · repeat' (first | refine ls_of rfl ?_ | refine ls_of_no ?_ | refine ls_guard_yes rfl rfl ?_ | refine ls_guard_no rfl rfl rfl rfl ?_ | refine ls_guard_un rfl rfl rfl ?_ | refine o1_move rfl ?_ | refine o1_assign rfl ?_ | refine st_seq ?_ | refine st_region ?_ | refine st_block ?_ | refine st_skip ?_ | refine st_ret ?_ | refine st_exit ?_ | refine st_cond_t rfl ?_ | refine st_cond_f rfl ?_ | refine st_cond rfl (fun _ => ?_) (fun _ => ?_) | refine ls_nil ?_ | refine nx_seq ?_ | refine nx_blk ?_ | refine nx_fn ?_ | refine nx_rounds ?_ | refine xt_seq ?_ | refine xt_here ?_ | refine xt_on rfl ?_ | refine xt_rounds ?_ | refine xt_cut ?_ | refine rt_seq ?_ | refine rt_blk ?_ | refine rt_rounds ?_ | refine rt_cut ?_ | refine o1_iah (enc := B) (c := c5) (xs := t) i rfl rfl rx_row rfl rfl hlt ?_ | refine o1_load_iah (enc := B) (c := c5) (xs := t) i rfl rx_row hlt ?_ | refine ox_load rfl (by rfl) ?_ | refine ox_load_enc rfl (by first | omega | (simp; omega)) ?_ | refine ox_load_any rfl (by assumption) ?_ | refine o1_len rfl ?_ | refine o1_add rfl rfl (by omega) ?_ | refine o1_lss_t rfl rfl (by omega) ?_ | refine o1_lss_f rfl rfl (by omega) ?_ | refine o1_lss rfl rfl (fun _ => ?_) (fun _ => ?_) | refine o1_uor rfl rfl ?_ | refine o1_ushl rfl rfl (by omega) ?_ | refine o1_conv_uu rfl ?_)
    refine nx_again (i + 1) (by omega) (by omega) (cov_cons rfl ?_ (cov_cons rfl rfl (cov_cons rfl rfl (cov_cons rfl rfl cov_nil)))) (Ent.refl _)
    rw [num32_succ _ _ (by omega)]; rfl
  · have : i = t.length := by omega
    subst this
    repeat' (first | refine ls_of rfl ?_ | refine ls_of_no ?_ | refine ls_guard_yes rfl rfl ?_ | refine ls_guard_no rfl rfl rfl rfl ?_ | refine ls_guard_un rfl rfl rfl ?_ | refine o1_move rfl ?_ | refine o1_assign rfl ?_ | refine st_seq ?_ | refine st_region ?_ | refine st_block ?_ | refine st_skip ?_ | refine st_ret ?_ | refine st_exit ?_ | refine st_cond_t rfl ?_ | refine st_cond_f rfl ?_ | refine st_cond rfl (fun _ => ?_) (fun _ => ?_) | refine ls_nil ?_ | refine nx_seq ?_ | refine nx_blk ?_ | refine nx_fn ?_ | refine nx_rounds ?_ | refine xt_seq ?_ | refine xt_here ?_ | refine xt_on rfl ?_ | refine xt_rounds ?_ | refine xt_cut ?_ | refine rt_seq ?_ | refine rt_blk ?_ | refine rt_rounds ?_ | refine rt_cut ?_ | refine ox_load rfl (by rfl) ?_ | refine ox_load_enc rfl (by first | omega | (simp; omega)) ?_ | refine ox_load_any rfl (by assumption) ?_ | refine o1_len rfl ?_ | refine o1_add rfl rfl (by omega) ?_ | refine o1_lss_t rfl rfl (by omega) ?_ | refine o1_lss_f rfl rfl (by omega) ?_ | refine o1_lss rfl rfl (fun _ => ?_) (fun _ => ?_) | refine o1_uor rfl rfl ?_ | refine o1_ushl rfl rfl (by omega) ?_ | refine o1_conv_uu rfl ?_)
    refine rt_tmp s' rfl rfl ?_ hok ?_
    · rw [List.take_length]
    · (try dsimp only [List.cons_append, List.nil_append, List.singleton_append, List.append_nil]); (repeat (first | exact Ent.nil | exact Ent.refl _ | (apply Ent.cons; (repeat (first | exact Sel.here | apply Sel.there)))))
theorem tk1_bad {r : RD} (h : (r.nx 1).e ≠ 0) : (num32 (r.tk 1)).toNat = 0 := by
  by_cases he : r.e = 0
  · by_cases hl : r.l.length < 1
    · rw [(nx_short he hl).2]; rfl
    · rw [(nx_ok he (n := 1) (by omega)).1] at h; exact absurd rfl h
  · rw [(nx_bad he 1).2]; rfl
set_option maxHeartbeats 2000000 in
theorem rd_is (H : List Hl) (A : Hp → Prop) (hA : ∀ w, sat w (stars H) → sat w A) (b : Nat) (s : SlD (BitVec 8)) (r r' : RD) (v : Bool) (hs : RdOk A s r) (h1 : r.fl = r') (h2 : r.is = v) :
    Spec Try.prog 52 [.pointer (some ⟨b, 0, none⟩)] (rdBox b s r :: H) (fun y : SlD (BitVec 8) => RdOk A y r') (fun y => .bool v) (fun y => rdBox b y r' :: H) := by
  refine spec_fn (res := fun y : SlD (BitVec 8) => [rdBox b y r']) [rdBox b s r] H Try.func52 rfl Try.ntmps52 (by kernel_rfl) rfl (fun W => ?_)
  dsimp only [rdBox, List.cons_append, List.nil_append]
  have hA' : ∀ w, sat w (stars [.any (stars H)]) → sat w A := fun w hw => hA w (sel_sat .here w hw)
  obtain ⟨r1, hr1⟩ : ∃ t, r.nx 1 = t := ⟨_, rfl⟩
  obtain ⟨u, hu⟩ : ∃ t, num32 (r.tk 1) = t := ⟨_, rfl⟩
  have hbad : r1.e ≠ 0 → u.toNat = 0 := fun h => by rw [← hu]; exact tk1_bad (by rw [hr1]; exact h)
  unfold RD.is RD.fl at h2
  unfold RD.fl at h1
  rw [hr1, hu] at h1 h2
  by_cases hc : 1 < u.toNat ∧ r1.e = 0
  · rw [if_pos hc] at h1 h2
    subst h1
    have hv : v = false := by rw [← h2]; rfl
    subst hv
    obtain ⟨hc1, hc2⟩ := hc
    repeat' (first | refine ls_of rfl ?_ | refine ls_of_no ?_ | refine ls_guard_yes rfl rfl ?_ | refine ls_guard_no rfl rfl rfl rfl ?_ | refine ls_guard_un rfl rfl rfl ?_ | refine o1_move rfl ?_ | refine o1_assign rfl ?_ | refine st_seq ?_ | refine st_region ?_ | refine st_block ?_ | refine st_skip ?_ | refine st_ret ?_ | refine st_exit ?_ | refine st_cond_t rfl ?_ | refine st_cond_f rfl ?_ | refine st_cond rfl (fun _ => ?_) (fun _ => ?_) | refine ls_nil ?_ | refine nx_seq ?_ | refine nx_blk ?_ | refine nx_fn ?_ | refine nx_rounds ?_ | refine xt_seq ?_ | refine xt_here ?_ | refine xt_on rfl ?_ | refine xt_rounds ?_ | refine xt_cut ?_ | refine rt_seq ?_ | refine rt_blk ?_ | refine rt_rounds ?_ | refine rt_cut ?_ | (refine o1_call (fun _ => rd_number [.any (stars H)] A hA' b 1 s r r1 u hs (by omega) hr1 hu) rfl (fun s' hok => ?_); try dsimp only at hok ⊢) | refine o1_eql_f rfl rfl (by decide) ?_ | refine o1_pick_t rfl rfl ?_ | refine o1_pick_f rfl rfl ?_ | refine o1_fieldAddr rfl ?_ | refine ox_load rfl (by rfl) ?_ | refine ox_load_enc rfl (by first | omega | (simp; omega)) ?_ | refine ox_load_any rfl (by assumption) ?_ | refine o1_gtr_t rfl rfl (by omega) ?_ | refine o1_gtr_f rfl rfl (by omega) ?_ | refine o1_gtr rfl rfl (fun _ => ?_) (fun _ => ?_) | refine o1_eql_t rfl rfl (by omega) ?_ | refine o1_eql_f rfl rfl (by omega) ?_ | refine o1_eql rfl rfl (fun _ => ?_) (fun _ => ?_) | refine ox_store_enc B rfl rfl (by first | omega | (simp; done) | (simp; omega)) rfl ?_ | refine ox_stores rfl rfl (by first | omega | (simp; done) | (simp; omega)) rfl (by first | (simp only [List.set_cons_zero, List.set_cons_succ, Nat.zero_add, Nat.reduceAdd]; rfl) | rfl) ?_ | refine o1_nilCheck rfl ?_)
    all_goals (refine rt_tmp s' rfl rfl rfl ⟨hok.rd, fun h => by cases h⟩ ?_; (try dsimp only [List.cons_append, List.nil_append, List.singleton_append, List.append_nil]); (repeat (first | exact Ent.nil | exact Ent.refl _ | (apply Ent.cons; (repeat (first | exact Sel.here | apply Sel.there))))))
  · rw [if_neg hc] at h1 h2
    subst h1
    by_cases hr1e : r1.e = 0
    · have hv : v = decide (u.toNat = 1) := by rw [← h2, decide_eq_true hr1e]; rfl
      have hu1 : u.toNat ≤ 1 := by omega
      subst hv
      by_cases hu2 : u.toNat = 1
      · rw [decide_eq_true hu2]
        repeat' (first | refine ls_of rfl ?_ | refine ls_of_no ?_ | refine ls_guard_yes rfl rfl ?_ | refine ls_guard_no rfl rfl rfl rfl ?_ | refine ls_guard_un rfl rfl rfl ?_ | refine o1_move rfl ?_ | refine o1_assign rfl ?_ | refine st_seq ?_ | refine st_region ?_ | refine st_block ?_ | refine st_skip ?_ | refine st_ret ?_ | refine st_exit ?_ | refine st_cond_t rfl ?_ | refine st_cond_f rfl ?_ | refine st_cond rfl (fun _ => ?_) (fun _ => ?_) | refine ls_nil ?_ | refine nx_seq ?_ | refine nx_blk ?_ | refine nx_fn ?_ | refine nx_rounds ?_ | refine xt_seq ?_ | refine xt_here ?_ | refine xt_on rfl ?_ | refine xt_rounds ?_ | refine xt_cut ?_ | refine rt_seq ?_ | refine rt_blk ?_ | refine rt_rounds ?_ | refine rt_cut ?_ | (refine o1_call (fun _ => rd_number [.any (stars H)] A hA' b 1 s r r1 u hs (by omega) hr1 hu) rfl (fun s' hok => ?_); try dsimp only at hok ⊢) | refine o1_pick_t rfl rfl ?_ | refine o1_pick_f rfl rfl ?_ | refine o1_fieldAddr rfl ?_ | refine ox_load rfl (by rfl) ?_ | refine ox_load_enc rfl (by first | omega | (simp; omega)) ?_ | refine ox_load_any rfl (by assumption) ?_ | refine o1_gtr_t rfl rfl (by omega) ?_ | refine o1_gtr_f rfl rfl (by omega) ?_ | refine o1_gtr rfl rfl (fun _ => ?_) (fun _ => ?_) | refine o1_eql_t rfl rfl (by omega) ?_ | refine o1_eql_f rfl rfl (by omega) ?_ | refine o1_eql rfl rfl (fun _ => ?_) (fun _ => ?_) | refine ox_store_enc B rfl rfl (by first | omega | (simp; done) | (simp; omega)) rfl ?_ | refine ox_stores rfl rfl (by first | omega | (simp; done) | (simp; omega)) rfl (by first | (simp only [List.set_cons_zero, List.set_cons_succ, Nat.zero_add, Nat.reduceAdd]; rfl) | rfl) ?_ | refine o1_nilCheck rfl ?_)
        all_goals (refine rt_tmp s' rfl rfl rfl hok ?_; (try dsimp only [List.cons_append, List.nil_append, List.singleton_append, List.append_nil]); (repeat (first | exact Ent.nil | exact Ent.refl _ | (apply Ent.cons; (repeat (first | exact Sel.here | apply Sel.there))))))
      · rw [decide_eq_false hu2]
        repeat' (first | refine ls_of rfl ?_ | refine ls_of_no ?_ | refine ls_guard_yes rfl rfl ?_ | refine ls_guard_no rfl rfl rfl rfl ?_ | refine ls_guard_un rfl rfl rfl ?_ | refine o1_move rfl ?_ | refine o1_assign rfl ?_ | refine st_seq ?_ | refine st_region ?_ | refine st_block ?_ | refine st_skip ?_ | refine st_ret ?_ | refine st_exit ?_ | refine st_cond_t rfl ?_ | refine st_cond_f rfl ?_ | refine st_cond rfl (fun _ => ?_) (fun _ => ?_) | refine ls_nil ?_ | refine nx_seq ?_ | refine nx_blk ?_ | refine nx_fn ?_ | refine nx_rounds ?_ | refine xt_seq ?_ | refine xt_here ?_ | refine xt_on rfl ?_ | refine xt_rounds ?_ | refine xt_cut ?_ | refine rt_seq ?_ | refine rt_blk ?_ | refine rt_rounds ?_ | refine rt_cut ?_ | (refine o1_call (fun _ => rd_number [.any (stars H)] A hA' b 1 s r r1 u hs (by omega) hr1 hu) rfl (fun s' hok => ?_); try dsimp only at hok ⊢) | refine o1_pick_t rfl rfl ?_ | refine o1_pick_f rfl rfl ?_ | refine o1_fieldAddr rfl ?_ | refine ox_load rfl (by rfl) ?_ | refine ox_load_enc rfl (by first | omega | (simp; omega)) ?_ | refine ox_load_any rfl (by assumption) ?_ | refine o1_gtr_t rfl rfl (by omega) ?_ | refine o1_gtr_f rfl rfl (by omega) ?_ | refine o1_gtr rfl rfl (fun _ => ?_) (fun _ => ?_) | refine o1_eql_t rfl rfl (by omega) ?_ | refine o1_eql_f rfl rfl (by omega) ?_ | refine o1_eql rfl rfl (fun _ => ?_) (fun _ => ?_) | refine ox_store_enc B rfl rfl (by first | omega | (simp; done) | (simp; omega)) rfl ?_ | refine ox_stores rfl rfl (by first | omega | (simp; done) | (simp; omega)) rfl (by first | (simp only [List.set_cons_zero, List.set_cons_succ, Nat.zero_add, Nat.reduceAdd]; rfl) | rfl) ?_ | refine o1_nilCheck rfl ?_)
        all_goals (refine rt_tmp s' rfl rfl rfl hok ?_; (try dsimp only [List.cons_append, List.nil_append, List.singleton_append, List.append_nil]); (repeat (first | exact Ent.nil | exact Ent.refl _ | (apply Ent.cons; (repeat (first | exact Sel.here | apply Sel.there))))))
    · have hv : v = false := by rw [← h2, decide_eq_false hr1e]; rfl
      have hu0 := hbad hr1e
      subst hv
      repeat' (first | refine ls_of rfl ?_ | refine ls_of_no ?_ | refine ls_guard_yes rfl rfl ?_ | refine ls_guard_no rfl rfl rfl rfl ?_ | refine ls_guard_un rfl rfl rfl ?_ | refine o1_move rfl ?_ | refine o1_assign rfl ?_ | refine st_seq ?_ | refine st_region ?_ | refine st_block ?_ | refine st_skip ?_ | refine st_ret ?_ | refine st_exit ?_ | refine st_cond_t rfl ?_ | refine st_cond_f rfl ?_ | refine st_cond rfl (fun _ => ?_) (fun _ => ?_) | refine ls_nil ?_ | refine nx_seq ?_ | refine nx_blk ?_ | refine nx_fn ?_ | refine nx_rounds ?_ | refine xt_seq ?_ | refine xt_here ?_ | refine xt_on rfl ?_ | refine xt_rounds ?_ | refine xt_cut ?_ | refine rt_seq ?_ | refine rt_blk ?_ | refine rt_rounds ?_ | refine rt_cut ?_ | (refine o1_call (fun _ => rd_number [.any (stars H)] A hA' b 1 s r r1 u hs (by omega) hr1 hu) rfl (fun s' hok => ?_); try dsimp only at hok ⊢) | refine o1_pick_t rfl rfl ?_ | refine o1_pick_f rfl rfl ?_ | refine o1_fieldAddr rfl ?_ | refine ox_load rfl (by rfl) ?_ | refine ox_load_enc rfl (by first | omega | (simp; omega)) ?_ | refine ox_load_any rfl (by assumption) ?_ | refine o1_gtr_t rfl rfl (by omega) ?_ | refine o1_gtr_f rfl rfl (by omega) ?_ | refine o1_gtr rfl rfl (fun _ => ?_) (fun _ => ?_) | refine o1_eql_t rfl rfl (by omega) ?_ | refine o1_eql_f rfl rfl (by omega) ?_ | refine o1_eql rfl rfl (fun _ => ?_) (fun _ => ?_) | refine ox_store_enc B rfl rfl (by first | omega | (simp; done) | (simp; omega)) rfl ?_ | refine ox_stores rfl rfl (by first | omega | (simp; done) | (simp; omega)) rfl (by first | (simp only [List.set_cons_zero, List.set_cons_succ, Nat.zero_add, Nat.reduceAdd]; rfl) | rfl) ?_ | refine o1_nilCheck rfl ?_)
      all_goals (refine rt_tmp s' rfl rfl rfl hok ?_; (try dsimp only [List.cons_append, List.nil_append, List.singleton_append, List.append_nil]); (repeat (first | exact Ent.nil | exact Ent.refl _ | (apply Ent.cons; (repeat (first | exact Sel.here | apply Sel.there))))))
end Go.Dp
