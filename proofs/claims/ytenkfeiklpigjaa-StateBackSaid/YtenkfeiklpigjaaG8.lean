/-
  The reader of the reference, walked; readings one behind the other.
  Conditions: those that stand in each theorem.
-/
import Derived.Test.YtenkfeiklpigjaaG6
set_option linter.unusedVariables false
set_option linter.unusedSimpArgs false
namespace Go.Dp
open Go.RowKit Go.Proofs
theorem nx_nx (r : RD) (a b : Nat) : (r.nx a).nx b = r.nx (a + b) := by
  by_cases he : r.e = 0
  · by_cases h1 : r.l.length < a
    · rw [(nx_short he h1).1, (nx_short he (n := a + b) (by omega)).1]
      exact (nx_bad (by decide) b).1
    · rw [(nx_ok he (n := a) (by omega)).1]
      by_cases h2 : r.l.length < a + b
      · rw [(nx_short he h2).1]
        exact (nx_short rfl (by simp; omega)).1
      · rw [(nx_ok he (n := a + b) (by omega)).1, (nx_ok (r := ⟨r.l.drop a, 0⟩) rfl (n := b) (by simp; omega)).1]
        simp
  · rw [(nx_bad he a).1, (nx_bad he b).1, (nx_bad he (a + b)).1]
theorem nx_e {r : RD} {n : Nat} (h : (r.nx n).e = 0) : r.e = 0 ∧ n ≤ r.l.length := by
  by_cases he : r.e = 0
  · by_cases h1 : r.l.length < n
    · rw [(nx_short he h1).1] at h; cases h
    · exact ⟨he, by omega⟩
  · rw [(nx_bad he n).1] at h; exact absurd h he
theorem up2 {Z A : Hp → Prop} {H H1 H2 : List Hl} [s1 : SAny H Z H1] [s2 : SAny H1 A H2] : ∀ w, sat w (stars H) → sat w (stars [.any Z, .any A]) := fun w h => h.mono (Ent.out (.cons s1.s (.cons s2.s .nil)))
theorem stars_tl {x : Hl} {L : List Hl} : ∀ h, stars (x :: L) h → stars L h := fun h ⟨_, _, _, _, s2, _, b⟩ => stars_up (L := L) b s2
theorem any_mono {A : Hp → Prop} {H : List Hl} (hA : ∀ h, stars H h → A h) : ∀ h, stars [.any (stars H)] h → stars [.any A] h := fun h x => by
  obtain ⟨h1, h2, hd, s1, s2, a, _⟩ := x
  exact ⟨h, fun _ => none, fun _ => .inr rfl, .refl _, (fun _ _ e => by cases e), hA h (stars_up (L := H) a s1), trivial⟩
theorem any_hp {A : Hp → Prop} {H : List Hl} (hA : ∀ h, stars H h → A h) : ∀ h, stars [.any (stars H)] h → A h := fun h x => by
  obtain ⟨h1, h2, hd, s1, s2, a, _⟩ := x
  exact hA h (stars_up (L := H) a s1)
theorem up_hp {H0 H H' : List Hl} [s : SAny H (stars H0) H'] : ∀ h, stars H h → stars H0 h := fun h x => by
  obtain ⟨h1, h2, hd, s1, s2, a, _⟩ := s.s.out h x
  exact stars_up (L := H0) a s1
abbrev rdBoxR (b : Nat) (s : SlD (BitVec 8)) (r : RD) : Hl := .box b 78 [Bs s, I r.e]
set_option maxHeartbeats 2000000 in
theorem rdr_take (H : List Hl) (A : Hp → Prop) (hA : ∀ h, stars H h → A h) (b n : Nat) (s : SlD (BitVec 8)) (r r' : RD) (t : List (BitVec 8)) (hs : RdOk A s r) (hn : n ≤ 100) (h1 : r.nx n = r') (h2 : r.tk n = t) :
    Spec Try.prog 55 [.pointer (some ⟨b, 0, none⟩), I n] (rdBoxR b s r :: H) (fun y : PA × (Hp → Prop) × SlD (BitVec 8) => RdOk A y.2.2 r' ∧ Rs (stars [.any y.2.1, .any A]) B y.1.1 y.1.2 t) (fun y => .slice y.1.1 t.length y.1.2) (fun y => rdBoxR b y.2.2 r' :: .any y.2.1 :: H) := by
  refine spec_fn (res := fun y : PA × (Hp → Prop) × SlD (BitVec 8) => [rdBoxR b y.2.2 r', .any y.2.1]) [rdBoxR b s r] H Try.func55 rfl Try.ntmps55 (by kernel_rfl) rfl (fun W => ?_)
  dsimp only [rdBoxR, List.cons_append, List.nil_append]
  have hr : RdS (stars H) s := hs.rd.mono fun w hw => hw.mono hA
  have zer : ∀ b9 : Nat, Rs (stars [.any (Hl.den (.box b9 5 (t.map B))), .any A]) B (some ⟨b9, 0, none⟩) t.length t := fun b9 => by
    have := Rs.of_box (H := [.box b9 5 (t.map B), .any A]) (by simp [← h2, tk_len]; omega) .here
    rw [List.length_map] at this
    exact this.unvals
  by_cases he : r.e = 0
  · have hsl := hs.eq he
    by_cases hlt : r.l.length < n
    · obtain ⟨k1, k2⟩ := nx_short he hlt
      rw [k1] at h1
      rw [k2] at h2
      subst h1
      rw [← hsl] at hlt
      have htl : t.length = n := by rw [← h2]; simp
      subst htl
      repeat' (first | refine ls_of rfl ?_ | refine ls_of_no ?_ | refine ls_guard_yes rfl rfl ?_ | refine ls_guard_no rfl rfl rfl rfl ?_ | refine ls_guard_un rfl rfl rfl ?_ | refine o1_move rfl ?_ | refine o1_assign rfl ?_ | refine st_seq ?_ | refine st_region ?_ | refine st_block ?_ | refine st_skip ?_ | refine st_ret ?_ | refine st_exit ?_ | refine st_cond_t rfl ?_ | refine st_cond_f rfl ?_ | refine st_cond rfl (fun _ => ?_) (fun _ => ?_) | refine ls_nil ?_ | refine nx_seq ?_ | refine nx_blk ?_ | refine nx_fn ?_ | refine nx_rounds ?_ | refine xt_seq ?_ | refine xt_here ?_ | refine xt_on rfl ?_ | refine xt_rounds ?_ | refine xt_cut ?_ | refine rt_seq ?_ | refine rt_blk ?_ | refine rt_rounds ?_ | refine rt_cut ?_ | (refine o1_maker (enc := B) 0#8 t.length rfl rfl rfl rfl rfl (by omega) (by omega) (fun b9 => ?_); rw [h2]) | refine o1_pick_t rfl rfl ?_ | refine o1_pick_f rfl rfl ?_ | refine o1_fieldAddr rfl ?_ | refine ox_load rfl (by rfl) ?_ | refine ox_load_enc rfl (by first | omega | (simp; omega)) ?_ | refine ox_load_any rfl (by assumption) ?_ | refine o1_len rfl ?_ | refine o1_lss_t rfl rfl (by omega) ?_ | refine o1_lss_f rfl rfl (by omega) ?_ | refine o1_lss rfl rfl (fun _ => ?_) (fun _ => ?_) | refine o1_eql_t rfl rfl (by omega) ?_ | refine o1_eql_f rfl rfl (by omega) ?_ | refine o1_eql rfl rfl (fun _ => ?_) (fun _ => ?_) | refine o1_neq_t rfl rfl (by omega) ?_ | refine o1_neq_f rfl rfl (by omega) ?_ | refine o1_neq rfl rfl (fun _ => ?_) (fun _ => ?_) | refine o1_maken (enc := B) 0#8 rfl rfl rfl rfl (by omega) (by omega) (by omega) (fun _ => ?_) | refine ox_store_enc B rfl rfl (by first | omega | (simp; done) | (simp; omega)) rfl ?_ | refine ox_stores rfl rfl (by first | omega | (simp; done) | (simp; omega)) rfl (by first | (simp only [List.set_cons_zero, List.set_cons_succ, Nat.zero_add, Nat.reduceAdd]; rfl) | rfl) ?_ | refine o1_nilCheck rfl ?_)
      refine rt_ent (H2 := .any (Hl.den (.box b9 5 (t.map B))) :: _) (fun h x => x) ?_
      refine rt_tmp ((some ⟨b9, 0, none⟩, t.length), Hl.den (.box b9 5 (t.map B)), s) rfl rfl rfl ⟨⟨hs.rd, fun h => by cases h⟩, zer b9⟩ ?_
      (try dsimp only [List.cons_append, List.nil_append, List.singleton_append, List.append_nil]); (repeat (first | exact Ent.nil | exact Ent.refl _ | (apply Ent.cons; (repeat (first | exact Sel.here | apply Sel.there)))))
    · obtain ⟨k1, k2⟩ := nx_ok he (n := n) (by omega)
      rw [k1] at h1
      rw [k2] at h2
      subst h1 h2
      rw [← hsl] at hlt
      have hle := hs.rd.le
      rw [he]
      repeat' (first | refine ls_of rfl ?_ | refine ls_of_no ?_ | refine ls_guard_yes rfl rfl ?_ | refine ls_guard_no rfl rfl rfl rfl ?_ | refine ls_guard_un rfl rfl rfl ?_ | refine o1_move rfl ?_ | refine o1_assign rfl ?_ | refine st_seq ?_ | refine st_region ?_ | refine st_block ?_ | refine st_skip ?_ | refine st_ret ?_ | refine st_exit ?_ | refine st_cond_t rfl ?_ | refine st_cond_f rfl ?_ | refine st_cond rfl (fun _ => ?_) (fun _ => ?_) | refine ls_nil ?_ | refine nx_seq ?_ | refine nx_blk ?_ | refine nx_fn ?_ | refine nx_rounds ?_ | refine xt_seq ?_ | refine xt_here ?_ | refine xt_on rfl ?_ | refine xt_rounds ?_ | refine xt_cut ?_ | refine rt_seq ?_ | refine rt_blk ?_ | refine rt_rounds ?_ | refine rt_cut ?_ | refine o1_cs_h (xs := s.l) n rfl rfl rfl rfl hle (by omega) ?_ | refine o1_cs_l (xs := s.l) n rfl rfl rfl rfl (by omega) ?_ | refine o1_pick_t rfl rfl ?_ | refine o1_pick_f rfl rfl ?_ | refine o1_fieldAddr rfl ?_ | refine ox_load rfl (by rfl) ?_ | refine ox_load_enc rfl (by first | omega | (simp; omega)) ?_ | refine ox_load_any rfl (by assumption) ?_ | refine o1_len rfl ?_ | refine o1_lss_t rfl rfl (by omega) ?_ | refine o1_lss_f rfl rfl (by omega) ?_ | refine o1_lss rfl rfl (fun _ => ?_) (fun _ => ?_) | refine o1_eql_t rfl rfl (by omega) ?_ | refine o1_eql_f rfl rfl (by omega) ?_ | refine o1_eql rfl rfl (fun _ => ?_) (fun _ => ?_) | refine o1_neq_t rfl rfl (by omega) ?_ | refine o1_neq_f rfl rfl (by omega) ?_ | refine o1_neq rfl rfl (fun _ => ?_) (fun _ => ?_) | refine o1_maken (enc := B) 0#8 rfl rfl rfl rfl (by omega) (by omega) (by omega) (fun _ => ?_) | refine ox_store_enc B rfl rfl (by first | omega | (simp; done) | (simp; omega)) rfl ?_ | refine ox_stores rfl rfl (by first | omega | (simp; done) | (simp; omega)) rfl (by first | (simp only [List.set_cons_zero, List.set_cons_succ, Nat.zero_add, Nat.reduceAdd]; rfl) | rfl) ?_ | refine o1_nilCheck rfl ?_)
      rw [← hsl]
      refine rt_ent (H2 := .any (fun _ => True) :: _) (fun h x => ⟨fun _ => none, h, fun _ => .inl rfl, fun _ _ e => (by cases e), .refl _, trivial, x⟩) ?_
      refine rt_tmp ((cutA s.ad s.cap 0, s.cap - 0), (fun _ => True), ⟨cutA s.ad s.cap n, s.cap - n, s.l.drop n⟩) rfl rfl rfl ⟨⟨hs.rd.cutl n (by omega), fun _ => rfl⟩, (hs.rd.cuth n (by omega)).mono (fun w hw => sel_sat (.there .here) w hw)⟩ ?_
      (try dsimp only [List.cons_append, List.nil_append, List.singleton_append, List.append_nil]); (repeat (first | exact Ent.nil | exact Ent.refl _ | (apply Ent.cons; (repeat (first | exact Sel.here | apply Sel.there)))))
  · obtain ⟨k1, k2⟩ := nx_bad he n
    rw [k1] at h1
    rw [k2] at h2
    subst h1
    have htl : t.length = n := by rw [← h2]; simp
    subst htl
    repeat' (first | refine ls_of rfl ?_ | refine ls_of_no ?_ | refine ls_guard_yes rfl rfl ?_ | refine ls_guard_no rfl rfl rfl rfl ?_ | refine ls_guard_un rfl rfl rfl ?_ | refine o1_move rfl ?_ | refine o1_assign rfl ?_ | refine st_seq ?_ | refine st_region ?_ | refine st_block ?_ | refine st_skip ?_ | refine st_ret ?_ | refine st_exit ?_ | refine st_cond_t rfl ?_ | refine st_cond_f rfl ?_ | refine st_cond rfl (fun _ => ?_) (fun _ => ?_) | refine ls_nil ?_ | refine nx_seq ?_ | refine nx_blk ?_ | refine nx_fn ?_ | refine nx_rounds ?_ | refine xt_seq ?_ | refine xt_here ?_ | refine xt_on rfl ?_ | refine xt_rounds ?_ | refine xt_cut ?_ | refine rt_seq ?_ | refine rt_blk ?_ | refine rt_rounds ?_ | refine rt_cut ?_ | (refine o1_maker (enc := B) 0#8 t.length rfl rfl rfl rfl rfl (by omega) (by omega) (fun b9 => ?_); rw [h2]) | refine o1_pick_t rfl rfl ?_ | refine o1_pick_f rfl rfl ?_ | refine o1_fieldAddr rfl ?_ | refine ox_load rfl (by rfl) ?_ | refine ox_load_enc rfl (by first | omega | (simp; omega)) ?_ | refine ox_load_any rfl (by assumption) ?_ | refine o1_len rfl ?_ | refine o1_lss_t rfl rfl (by omega) ?_ | refine o1_lss_f rfl rfl (by omega) ?_ | refine o1_lss rfl rfl (fun _ => ?_) (fun _ => ?_) | refine o1_eql_t rfl rfl (by omega) ?_ | refine o1_eql_f rfl rfl (by omega) ?_ | refine o1_eql rfl rfl (fun _ => ?_) (fun _ => ?_) | refine o1_neq_t rfl rfl (by omega) ?_ | refine o1_neq_f rfl rfl (by omega) ?_ | refine o1_neq rfl rfl (fun _ => ?_) (fun _ => ?_) | refine o1_maken (enc := B) 0#8 rfl rfl rfl rfl (by omega) (by omega) (by omega) (fun _ => ?_) | refine ox_store_enc B rfl rfl (by first | omega | (simp; done) | (simp; omega)) rfl ?_ | refine ox_stores rfl rfl (by first | omega | (simp; done) | (simp; omega)) rfl (by first | (simp only [List.set_cons_zero, List.set_cons_succ, Nat.zero_add, Nat.reduceAdd]; rfl) | rfl) ?_ | refine o1_nilCheck rfl ?_)
    refine rt_ent (H2 := .any (Hl.den (.box b9 5 (t.map B))) :: _) (fun h x => x) ?_
    refine rt_tmp ((some ⟨b9, 0, none⟩, t.length), Hl.den (.box b9 5 (t.map B)), s) rfl rfl rfl ⟨⟨hs.rd, fun h => absurd h he⟩, zer b9⟩ ?_
    (try dsimp only [List.cons_append, List.nil_append, List.singleton_append, List.append_nil]); (repeat (first | exact Ent.nil | exact Ent.refl _ | (apply Ent.cons; (repeat (first | exact Sel.here | apply Sel.there)))))
set_option maxHeartbeats 2000000 in
theorem rdr_flag (H : List Hl) (A : Hp → Prop) (hA : ∀ h, stars H h → A h) (b : Nat) (s : SlD (BitVec 8)) (r r' : RD) (v : Bool) (hs : RdOk A s r) (h1 : r.fl = r') (h2 : r.is = v) :
    Spec Try.prog 57 [.pointer (some ⟨b, 0, none⟩)] (rdBoxR b s r :: H) (fun y : SlD (BitVec 8) => RdOk A y r') (fun y => .bool v) (fun y => rdBoxR b y r' :: H) := by
  refine spec_fn (res := fun y : SlD (BitVec 8) => [rdBoxR b y r']) [rdBoxR b s r] H Try.func57 rfl Try.ntmps57 (by kernel_rfl) rfl (fun W => ?_)
  dsimp only [rdBoxR, List.cons_append, List.nil_append]
  have hA' := any_hp hA
  have hA2 : ∀ (Z : Hp → Prop) (x : Hl) (w : World), sat w (stars [x, .any Z, .any (stars H)]) → sat w (stars [.any Z, .any A]) := fun Z x w hw => hw.mono fun h hh => sep_mono (stars_tl h hh) (fun _ a => a) (any_mono hA)
  obtain ⟨r1, hr1⟩ : ∃ t, r.nx 1 = t := ⟨_, rfl⟩
  obtain ⟨t, ht⟩ : ∃ t, r.tk 1 = t := ⟨_, rfl⟩
  obtain ⟨u, hu⟩ := list1 (l := t) (by rw [← ht]; exact tk_len r 1)
  have hun : (num32 t).toNat = u.toNat := by rw [hu]; exact num32_one u
  have hbad : r1.e ≠ 0 → u.toNat = 0 := fun h => by rw [← hun, ← ht]; exact tk1_bad (by rw [hr1]; exact h)
  unfold RD.is RD.fl at h2
  unfold RD.fl at h1
  rw [hr1, ht, hun] at h1 h2
  clear hun
  subst hu
  by_cases hc : 1 < u.toNat ∧ r1.e = 0
  · rw [if_pos hc] at h1 h2
    subst h1
    have hv : v = false := by rw [← h2]; rfl
    subst hv
    obtain ⟨hc1, hc2⟩ := hc
    repeat' (first | refine ls_of rfl ?_ | refine ls_of_no ?_ | refine ls_guard_yes rfl rfl ?_ | refine ls_guard_no rfl rfl rfl rfl ?_ | refine ls_guard_un rfl rfl rfl ?_ | refine o1_move rfl ?_ | refine o1_assign rfl ?_ | refine st_seq ?_ | refine st_region ?_ | refine st_block ?_ | refine st_skip ?_ | refine st_ret ?_ | refine st_exit ?_ | refine st_cond_t rfl ?_ | refine st_cond_f rfl ?_ | refine st_cond rfl (fun _ => ?_) (fun _ => ?_) | refine ls_nil ?_ | refine nx_seq ?_ | refine nx_blk ?_ | refine nx_fn ?_ | refine nx_rounds ?_ | refine xt_seq ?_ | refine xt_here ?_ | refine xt_on rfl ?_ | refine xt_rounds ?_ | refine xt_cut ?_ | refine rt_seq ?_ | refine rt_blk ?_ | refine rt_rounds ?_ | refine rt_cut ?_ | (refine o1_call (fun _ => rdr_take [.any (stars H)] A hA' b 1 s r r1 [u] hs (by omega) hr1 ht) rfl (fun ⟨⟨a5, c5⟩, Z, s'⟩ hok => ?_); dsimp only at hok ⊢) | refine o1_iah (enc := B) (c := c5) (xs := [u]) 0 rfl rfl (fun _ => hok.2.mono (hA2 Z _)) rfl rfl (by simp) ?_ | (refine o1_load_iah (enc := B) (c := c5) (xs := [u]) 0 rfl (fun _ => hok.2.mono (hA2 Z _)) (by simp) ?_; dsimp only [List.getElem_cons_zero]) | refine o1_pick_t rfl rfl ?_ | refine o1_pick_f rfl rfl ?_ | refine o1_fieldAddr rfl ?_ | refine ox_load rfl (by rfl) ?_ | refine ox_load_enc rfl (by first | omega | (simp; omega)) ?_ | refine ox_load_any rfl (by assumption) ?_ | refine o1_gtr_t rfl rfl (by omega) ?_ | refine o1_gtr_f rfl rfl (by omega) ?_ | refine o1_gtr rfl rfl (fun _ => ?_) (fun _ => ?_) | refine o1_eql_t rfl rfl (by omega) ?_ | refine o1_eql_f rfl rfl (by omega) ?_ | refine o1_eql rfl rfl (fun _ => ?_) (fun _ => ?_) | refine ox_store_enc B rfl rfl (by first | omega | (simp; done) | (simp; omega)) rfl ?_ | refine ox_stores rfl rfl (by first | omega | (simp; done) | (simp; omega)) rfl (by first | (simp only [List.set_cons_zero, List.set_cons_succ, Nat.zero_add, Nat.reduceAdd]; rfl) | rfl) ?_ | refine o1_nilCheck rfl ?_)
    all_goals (refine rt_tmp s' rfl rfl rfl ⟨hok.1.rd, fun h => by cases h⟩ ?_; (try dsimp only [List.cons_append, List.nil_append, List.singleton_append, List.append_nil]); (repeat (first | exact Ent.nil | exact Ent.refl _ | (apply Ent.cons; (repeat (first | exact Sel.here | apply Sel.there))))))
  · rw [if_neg hc] at h1 h2
    subst h1
    by_cases hr1e : r1.e = 0
    · have hv : v = decide (u.toNat = 1) := by rw [← h2, decide_eq_true hr1e]; rfl
      have hu1 : u.toNat ≤ 1 := by omega
      subst hv
      by_cases hu2 : u.toNat = 1
      · rw [decide_eq_true hu2]
        repeat' (first | refine ls_of rfl ?_ | refine ls_of_no ?_ | refine ls_guard_yes rfl rfl ?_ | refine ls_guard_no rfl rfl rfl rfl ?_ | refine ls_guard_un rfl rfl rfl ?_ | refine o1_move rfl ?_ | refine o1_assign rfl ?_ | refine st_seq ?_ | refine st_region ?_ | refine st_block ?_ | refine st_skip ?_ | refine st_ret ?_ | refine st_exit ?_ | refine st_cond_t rfl ?_ | refine st_cond_f rfl ?_ | refine st_cond rfl (fun _ => ?_) (fun _ => ?_) | refine ls_nil ?_ | refine nx_seq ?_ | refine nx_blk ?_ | refine nx_fn ?_ | refine nx_rounds ?_ | refine xt_seq ?_ | refine xt_here ?_ | refine xt_on rfl ?_ | refine xt_rounds ?_ | refine xt_cut ?_ | refine rt_seq ?_ | refine rt_blk ?_ | refine rt_rounds ?_ | refine rt_cut ?_ | (refine o1_call (fun _ => rdr_take [.any (stars H)] A hA' b 1 s r r1 [u] hs (by omega) hr1 ht) rfl (fun ⟨⟨a5, c5⟩, Z, s'⟩ hok => ?_); dsimp only at hok ⊢) | refine o1_iah (enc := B) (c := c5) (xs := [u]) 0 rfl rfl (fun _ => hok.2.mono (hA2 Z _)) rfl rfl (by simp) ?_ | (refine o1_load_iah (enc := B) (c := c5) (xs := [u]) 0 rfl (fun _ => hok.2.mono (hA2 Z _)) (by simp) ?_; dsimp only [List.getElem_cons_zero]) | refine o1_pick_t rfl rfl ?_ | refine o1_pick_f rfl rfl ?_ | refine o1_fieldAddr rfl ?_ | refine ox_load rfl (by rfl) ?_ | refine ox_load_enc rfl (by first | omega | (simp; omega)) ?_ | refine ox_load_any rfl (by assumption) ?_ | refine o1_gtr_t rfl rfl (by omega) ?_ | refine o1_gtr_f rfl rfl (by omega) ?_ | refine o1_gtr rfl rfl (fun _ => ?_) (fun _ => ?_) | refine o1_eql_t rfl rfl (by omega) ?_ | refine o1_eql_f rfl rfl (by omega) ?_ | refine o1_eql rfl rfl (fun _ => ?_) (fun _ => ?_) | refine ox_store_enc B rfl rfl (by first | omega | (simp; done) | (simp; omega)) rfl ?_ | refine ox_stores rfl rfl (by first | omega | (simp; done) | (simp; omega)) rfl (by first | (simp only [List.set_cons_zero, List.set_cons_succ, Nat.zero_add, Nat.reduceAdd]; rfl) | rfl) ?_ | refine o1_nilCheck rfl ?_)
        all_goals (refine rt_tmp s' rfl rfl rfl hok.1 ?_; (try dsimp only [List.cons_append, List.nil_append, List.singleton_append, List.append_nil]); (repeat (first | exact Ent.nil | exact Ent.refl _ | (apply Ent.cons; (repeat (first | exact Sel.here | apply Sel.there))))))
      · rw [decide_eq_false hu2]
        repeat' (first | refine ls_of rfl ?_ | refine ls_of_no ?_ | refine ls_guard_yes rfl rfl ?_ | refine ls_guard_no rfl rfl rfl rfl ?_ | refine ls_guard_un rfl rfl rfl ?_ | refine o1_move rfl ?_ | refine o1_assign rfl ?_ | refine st_seq ?_ | refine st_region ?_ | refine st_block ?_ | refine st_skip ?_ | refine st_ret ?_ | refine st_exit ?_ | refine st_cond_t rfl ?_ | refine st_cond_f rfl ?_ | refine st_cond rfl (fun _ => ?_) (fun _ => ?_) | refine ls_nil ?_ | refine nx_seq ?_ | refine nx_blk ?_ | refine nx_fn ?_ | refine nx_rounds ?_ | refine xt_seq ?_ | refine xt_here ?_ | refine xt_on rfl ?_ | refine xt_rounds ?_ | refine xt_cut ?_ | refine rt_seq ?_ | refine rt_blk ?_ | refine rt_rounds ?_ | refine rt_cut ?_ | (refine o1_call (fun _ => rdr_take [.any (stars H)] A hA' b 1 s r r1 [u] hs (by omega) hr1 ht) rfl (fun ⟨⟨a5, c5⟩, Z, s'⟩ hok => ?_); dsimp only at hok ⊢) | refine o1_iah (enc := B) (c := c5) (xs := [u]) 0 rfl rfl (fun _ => hok.2.mono (hA2 Z _)) rfl rfl (by simp) ?_ | (refine o1_load_iah (enc := B) (c := c5) (xs := [u]) 0 rfl (fun _ => hok.2.mono (hA2 Z _)) (by simp) ?_; dsimp only [List.getElem_cons_zero]) | refine o1_pick_t rfl rfl ?_ | refine o1_pick_f rfl rfl ?_ | refine o1_fieldAddr rfl ?_ | refine ox_load rfl (by rfl) ?_ | refine ox_load_enc rfl (by first | omega | (simp; omega)) ?_ | refine ox_load_any rfl (by assumption) ?_ | refine o1_gtr_t rfl rfl (by omega) ?_ | refine o1_gtr_f rfl rfl (by omega) ?_ | refine o1_gtr rfl rfl (fun _ => ?_) (fun _ => ?_) | refine o1_eql_t rfl rfl (by omega) ?_ | refine o1_eql_f rfl rfl (by omega) ?_ | refine o1_eql rfl rfl (fun _ => ?_) (fun _ => ?_) | refine ox_store_enc B rfl rfl (by first | omega | (simp; done) | (simp; omega)) rfl ?_ | refine ox_stores rfl rfl (by first | omega | (simp; done) | (simp; omega)) rfl (by first | (simp only [List.set_cons_zero, List.set_cons_succ, Nat.zero_add, Nat.reduceAdd]; rfl) | rfl) ?_ | refine o1_nilCheck rfl ?_)
        all_goals (refine rt_tmp s' rfl rfl rfl hok.1 ?_; (try dsimp only [List.cons_append, List.nil_append, List.singleton_append, List.append_nil]); (repeat (first | exact Ent.nil | exact Ent.refl _ | (apply Ent.cons; (repeat (first | exact Sel.here | apply Sel.there))))))
    · have hv : v = false := by rw [← h2, decide_eq_false hr1e]; rfl
      have hu0 := hbad hr1e
      subst hv
      repeat' (first | refine ls_of rfl ?_ | refine ls_of_no ?_ | refine ls_guard_yes rfl rfl ?_ | refine ls_guard_no rfl rfl rfl rfl ?_ | refine ls_guard_un rfl rfl rfl ?_ | refine o1_move rfl ?_ | refine o1_assign rfl ?_ | refine st_seq ?_ | refine st_region ?_ | refine st_block ?_ | refine st_skip ?_ | refine st_ret ?_ | refine st_exit ?_ | refine st_cond_t rfl ?_ | refine st_cond_f rfl ?_ | refine st_cond rfl (fun _ => ?_) (fun _ => ?_) | refine ls_nil ?_ | refine nx_seq ?_ | refine nx_blk ?_ | refine nx_fn ?_ | refine nx_rounds ?_ | refine xt_seq ?_ | refine xt_here ?_ | refine xt_on rfl ?_ | refine xt_rounds ?_ | refine xt_cut ?_ | refine rt_seq ?_ | refine rt_blk ?_ | refine rt_rounds ?_ | refine rt_cut ?_ | (refine o1_call (fun _ => rdr_take [.any (stars H)] A hA' b 1 s r r1 [u] hs (by omega) hr1 ht) rfl (fun ⟨⟨a5, c5⟩, Z, s'⟩ hok => ?_); dsimp only at hok ⊢) | refine o1_iah (enc := B) (c := c5) (xs := [u]) 0 rfl rfl (fun _ => hok.2.mono (hA2 Z _)) rfl rfl (by simp) ?_ | (refine o1_load_iah (enc := B) (c := c5) (xs := [u]) 0 rfl (fun _ => hok.2.mono (hA2 Z _)) (by simp) ?_; dsimp only [List.getElem_cons_zero]) | refine o1_pick_t rfl rfl ?_ | refine o1_pick_f rfl rfl ?_ | refine o1_fieldAddr rfl ?_ | refine ox_load rfl (by rfl) ?_ | refine ox_load_enc rfl (by first | omega | (simp; omega)) ?_ | refine ox_load_any rfl (by assumption) ?_ | refine o1_gtr_t rfl rfl (by omega) ?_ | refine o1_gtr_f rfl rfl (by omega) ?_ | refine o1_gtr rfl rfl (fun _ => ?_) (fun _ => ?_) | refine o1_eql_t rfl rfl (by omega) ?_ | refine o1_eql_f rfl rfl (by omega) ?_ | refine o1_eql rfl rfl (fun _ => ?_) (fun _ => ?_) | refine ox_store_enc B rfl rfl (by first | omega | (simp; done) | (simp; omega)) rfl ?_ | refine ox_stores rfl rfl (by first | omega | (simp; done) | (simp; omega)) rfl (by first | (simp only [List.set_cons_zero, List.set_cons_succ, Nat.zero_add, Nat.reduceAdd]; rfl) | rfl) ?_ | refine o1_nilCheck rfl ?_)
      all_goals (refine rt_tmp s' rfl rfl rfl hok.1 ?_; (try dsimp only [List.cons_append, List.nil_append, List.singleton_append, List.append_nil]); (repeat (first | exact Ent.nil | exact Ent.refl _ | (apply Ent.cons; (repeat (first | exact Sel.here | apply Sel.there))))))
end Go.Dp
