/-
  Tags, told on lists; mac.masked, mac.Tag, mac.Right, and the reference's Tag, walked.
  Conditions: those that stand in each theorem.
-/
import Derived.Test.YtajlpalgcdiplaaS9
import Derived.Test.YtajlpalgcdiplaaT2
import Derived.Test.YtajlpalgcdiplaaBv
set_option linter.unusedVariables false
set_option linter.unusedSimpArgs false
namespace Go.Dp
open Go.RowKit Go.Proofs
open Sha
/-- A key of at most 64 bytes. -/
def keyL (key : List (BitVec 8)) : List (BitVec 8) := if 64 < key.length then sha key else key
/-- A key's block. -/
def padK (k : List (BitVec 8)) : List (BitVec 8) := k.take 64 ++ (List.replicate 64 0#8).drop k.length
def masked (key : List (BitVec 8)) (y : BitVec 8) : List (BitVec 8) := (padK (keyL key)).map (· ^^^ y)
def tag (key b : List (BitVec 8)) : List (BitVec 8) := sha (masked key 0x5c#8 ++ sha (masked key 0x36#8 ++ b))
theorem padK_len (k : List (BitVec 8)) : (padK k).length = 64 := by simp [padK]; omega
theorem masked_len (key : List (BitVec 8)) (y : BitVec 8) : (masked key y).length = 64 := by simp [masked, padK_len]
theorem tag_len (key b : List (BitVec 8)) : (tag key b).length = 32 := sha_len _
theorem keyL_len (key : List (BitVec 8)) : (keyL key).length ≤ 64 := by
  unfold keyL
  split
  · rw [sha_len]; omega
  · omega
theorem keyL_long {key : List (BitVec 8)} (h : 64 < key.length) : keyL key = sha key := if_pos h
theorem keyL_short {key : List (BitVec 8)} (h : key.length ≤ 64) : keyL key = key := if_neg (by omega)
theorem padK_get (k : List (BitVec 8)) (i : Nat) (h : i < 64) : (padK k)[i]'(by rw [padK_len]; exact h) = if h : i < k.length then k[i] else 0#8 := by
  simp only [padK]
  split
  · rename_i hi
    rw [List.getElem_append_left (by simp; omega), List.getElem_take]
  · rename_i hi
    rw [List.getElem_append_right (by simp; omega), List.getElem_drop, List.getElem_replicate]
theorem padK_app (k : List (BitVec 8)) (m : Nat) (h : k.length + m ≤ 64) : padK (k ++ List.replicate m 0#8) = padK k := by
  apply List.ext_getElem
  · rw [padK_len, padK_len]
  intro i h1 h2
  rw [padK_len] at h1
  rw [padK_get _ i h1, padK_get _ i h1]
  by_cases hi : i < k.length
  · rw [dif_pos (by simp; omega), dif_pos hi, List.getElem_append_left hi]
  · rw [dif_neg hi]
    split
    · rw [List.getElem_append_right (by omega), List.getElem_replicate]
    · rfl
set_option maxHeartbeats 1000000 in
theorem mac_masked (H : List Hl) (ad : Option Addr) (c : Nat) (key m : List (BitVec 8)) (y : BitVec 8) (h : Rs (stars H) B ad c key) (hb : key.length ≤ 70368744177664) (hm : masked key y = m) :
    Spec Try.prog 69 [.slice ad key.length c, B y] H (fun _ : Nat => True) (fun b => .slice (some ⟨b, 0, none⟩) m.length m.length) (fun b => .box b 5 (m.map B) :: H) := by
  refine spec_pure (res := fun b : Nat => [.box b 5 (m.map B)]) H Try.func69 rfl Try.ntmps69 (by kernel_rfl) rfl (fun W => ?_)
  have hml : m.length = 64 := by rw [← hm]; exact masked_len key y
  by_cases hk : 64 < key.length
  · obtain ⟨kk, hkk⟩ : ∃ d, sha key = d := ⟨_, rfl⟩
    have hpk : m = (padK kk).map (· ^^^ y) := by rw [← hm, masked, keyL_long hk, hkk]
    obtain ⟨p, hp⟩ : ∃ p, padK kk = p := ⟨_, rfl⟩
    have hpl : p.length = 64 := by rw [← hp]; exact padK_len kk
    rw [hp] at hpk
    have hcp : kk.take (List.replicate 64 0#8).length ++ (List.replicate 64 0#8).drop kk.length = p := hp
    have hz : m.length = p.length := by rw [hml, hpl]
    repeat' (first | refine ls_of rfl ?_ | refine ls_of_no ?_ | refine ls_guard_yes rfl rfl ?_ | refine ls_guard_no rfl rfl rfl rfl ?_ | refine ls_guard_un rfl rfl rfl ?_ | refine o1_move rfl ?_ | refine o1_assign rfl ?_ | refine st_seq ?_ | refine st_region ?_ | refine st_block ?_ | refine st_skip ?_ | refine st_ret ?_ | refine st_exit ?_ | refine st_cond_t rfl ?_ | refine st_cond_f rfl ?_ | refine st_cond rfl (fun _ => ?_) (fun _ => ?_) | refine ls_nil ?_ | refine nx_seq ?_ | refine nx_blk ?_ | refine nx_fn ?_ | refine nx_rounds ?_ | refine xt_seq ?_ | refine xt_here ?_ | refine xt_on rfl ?_ | refine xt_rounds ?_ | refine xt_cut ?_ | refine rt_seq ?_ | refine rt_blk ?_ | refine rt_rounds ?_ | refine rt_cut ?_ | (refine o1_call (fun hh => dg_Sum _ _ _ key kk h.up hb hkk) rfl (fun ⟨_, _⟩ _ => ?_); dsimp only) | refine o1_maker (enc := B) 0#8 64 rfl rfl rfl rfl rfl (by decide) (by decide) (fun b => ?_) | (refine ox_copy (xs := List.replicate 64 0#8) (ys := kk) rfl rfl (by simp) rx_row rfl (fun _ => rfl) ?_; rw [hcp]) | refine ox_load rfl (by rfl) ?_ | refine ox_load_enc rfl (by first | omega | (simp; omega)) ?_ | refine ox_load_any rfl (by assumption) ?_ | refine o1_len rfl ?_ | refine o1_add rfl rfl (by omega) ?_ | refine o1_lss_t rfl rfl (by omega) ?_ | refine o1_lss_f rfl rfl (by omega) ?_ | refine o1_lss rfl rfl (fun _ => ?_) (fun _ => ?_) | refine o1_gtr_t rfl rfl (by omega) ?_ | refine o1_gtr_f rfl rfl (by omega) ?_ | refine o1_gtr rfl rfl (fun _ => ?_) (fun _ => ?_) | refine o1_uxor rfl rfl ?_ | refine o1_maken (enc := B) 0#8 rfl rfl rfl rfl (by omega) (by omega) (by omega) (fun _ => ?_) | refine ox_store_enc B rfl rfl (by first | omega | (simp; done) | (simp; omega)) rfl ?_ | refine ox_stores rfl rfl (by first | omega | (simp; done) | (simp; omega)) rfl (by first | (simp only [List.set_cons_zero, List.set_cons_succ, Nat.zero_add, Nat.reduceAdd]; rfl) | rfl) ?_)
    refine st_loop (S := Nat) (fun i => [(1, B y), (5, .slice (some ⟨b, 0, none⟩) 64 64), (17, I 64), (18, I i)]) (fun i => [.box b 5 ((partL m p i).map B), .any (stars H)]) (fun i => i ≤ 64) (fun i => 64 - i) 0 (Nat.zero_le _)
      (cov_cons rfl rfl (cov_cons rfl rfl (cov_cons rfl rfl (cov_cons rfl rfl cov_nil)))) (by rw [partL_zero]; (try dsimp only [List.cons_append, List.nil_append, List.singleton_append, List.append_nil]); (repeat (first | exact Ent.nil | exact Ent.refl _ | (apply Ent.cons; (repeat (first | exact Sel.here | apply Sel.there)))))) ?_
    intro i hi
    by_cases hlt : i < 64
    · have hql : (partL m p i).length = 64 := by rw [partL_len hz, hpl]
      repeat' (first | refine ls_of rfl ?_ | refine ls_of_no ?_ | refine ls_guard_yes rfl rfl ?_ | refine ls_guard_no rfl rfl rfl rfl ?_ | refine ls_guard_un rfl rfl rfl ?_ | refine o1_move rfl ?_ | refine o1_assign rfl ?_ | refine st_seq ?_ | refine st_region ?_ | refine st_block ?_ | refine st_skip ?_ | refine st_ret ?_ | refine st_exit ?_ | refine st_cond_t rfl ?_ | refine st_cond_f rfl ?_ | refine st_cond rfl (fun _ => ?_) (fun _ => ?_) | refine ls_nil ?_ | refine nx_seq ?_ | refine nx_blk ?_ | refine nx_fn ?_ | refine nx_rounds ?_ | refine xt_seq ?_ | refine xt_here ?_ | refine xt_on rfl ?_ | refine xt_rounds ?_ | refine xt_cut ?_ | refine rt_seq ?_ | refine rt_blk ?_ | refine rt_rounds ?_ | refine rt_cut ?_ | refine o1_own i rfl rfl rfl hlt ?_ | refine ox_load_enc (l := partL m p i) rfl (by omega) ?_ | refine ox_store_enc B (l := partL m p i) rfl rfl (by omega) rfl ?_ | refine ox_load rfl (by rfl) ?_ | refine ox_load_enc rfl (by first | omega | (simp; omega)) ?_ | refine ox_load_any rfl (by assumption) ?_ | refine o1_len rfl ?_ | refine o1_add rfl rfl (by omega) ?_ | refine o1_lss_t rfl rfl (by omega) ?_ | refine o1_lss_f rfl rfl (by omega) ?_ | refine o1_lss rfl rfl (fun _ => ?_) (fun _ => ?_) | refine o1_gtr_t rfl rfl (by omega) ?_ | refine o1_gtr_f rfl rfl (by omega) ?_ | refine o1_gtr rfl rfl (fun _ => ?_) (fun _ => ?_) | refine o1_uxor rfl rfl ?_ | refine o1_maken (enc := B) 0#8 rfl rfl rfl rfl (by omega) (by omega) (by omega) (fun _ => ?_) | refine ox_store_enc B rfl rfl (by first | omega | (simp; done) | (simp; omega)) rfl ?_ | refine ox_stores rfl rfl (by first | omega | (simp; done) | (simp; omega)) rfl (by first | (simp only [List.set_cons_zero, List.set_cons_succ, Nat.zero_add, Nat.reduceAdd]; rfl) | rfl) ?_)
      refine nx_again (i + 1) (by omega) (by omega) (cov_cons rfl rfl (cov_cons rfl rfl (cov_cons rfl rfl (cov_cons rfl rfl cov_nil)))) ?_
      have e : p[i]'(by omega) ^^^ y = m[i]'(by omega) := by simp [hpk]
      rw [partL_at hz (Nat.le_refl i), e, partL_succ hz]
      (try dsimp only [List.cons_append, List.nil_append, List.singleton_append, List.append_nil]); (repeat (first | exact Ent.nil | exact Ent.refl _ | (apply Ent.cons; (repeat (first | exact Sel.here | apply Sel.there)))))
    · have : i = 64 := by omega
      subst this
      rw [partL_full hz hpl.symm]
      repeat' (first | refine ls_of rfl ?_ | refine ls_of_no ?_ | refine ls_guard_yes rfl rfl ?_ | refine ls_guard_no rfl rfl rfl rfl ?_ | refine ls_guard_un rfl rfl rfl ?_ | refine o1_move rfl ?_ | refine o1_assign rfl ?_ | refine st_seq ?_ | refine st_region ?_ | refine st_block ?_ | refine st_skip ?_ | refine st_ret ?_ | refine st_exit ?_ | refine st_cond_t rfl ?_ | refine st_cond_f rfl ?_ | refine st_cond rfl (fun _ => ?_) (fun _ => ?_) | refine ls_nil ?_ | refine nx_seq ?_ | refine nx_blk ?_ | refine nx_fn ?_ | refine nx_rounds ?_ | refine xt_seq ?_ | refine xt_here ?_ | refine xt_on rfl ?_ | refine xt_rounds ?_ | refine xt_cut ?_ | refine rt_seq ?_ | refine rt_blk ?_ | refine rt_rounds ?_ | refine rt_cut ?_ | refine ox_load rfl (by rfl) ?_ | refine ox_load_enc rfl (by first | omega | (simp; omega)) ?_ | refine ox_load_any rfl (by assumption) ?_ | refine o1_len rfl ?_ | refine o1_add rfl rfl (by omega) ?_ | refine o1_lss_t rfl rfl (by omega) ?_ | refine o1_lss_f rfl rfl (by omega) ?_ | refine o1_lss rfl rfl (fun _ => ?_) (fun _ => ?_) | refine o1_gtr_t rfl rfl (by omega) ?_ | refine o1_gtr_f rfl rfl (by omega) ?_ | refine o1_gtr rfl rfl (fun _ => ?_) (fun _ => ?_) | refine o1_uxor rfl rfl ?_ | refine o1_maken (enc := B) 0#8 rfl rfl rfl rfl (by omega) (by omega) (by omega) (fun _ => ?_) | refine ox_store_enc B rfl rfl (by first | omega | (simp; done) | (simp; omega)) rfl ?_ | refine ox_stores rfl rfl (by first | omega | (simp; done) | (simp; omega)) rfl (by first | (simp only [List.set_cons_zero, List.set_cons_succ, Nat.zero_add, Nat.reduceAdd]; rfl) | rfl) ?_)
      refine rt_tmp b rfl rfl (by rw [hml]) trivial ?_
      (try dsimp only [List.cons_append, List.nil_append, List.singleton_append, List.append_nil]); (repeat (first | exact Ent.nil | exact Ent.refl _ | (apply Ent.cons; (repeat (first | exact Sel.here | apply Sel.there)))))
  · obtain ⟨kk, hkk⟩ : ∃ d, key = d := ⟨_, rfl⟩
    have hpk : m = (padK kk).map (· ^^^ y) := by rw [← hm, masked, keyL_short (by omega), hkk]
    obtain ⟨p, hp⟩ : ∃ p, padK kk = p := ⟨_, rfl⟩
    have hpl : p.length = 64 := by rw [← hp]; exact padK_len kk
    rw [hp] at hpk
    have hcp : kk.take (List.replicate 64 0#8).length ++ (List.replicate 64 0#8).drop kk.length = p := hp
    have hz : m.length = p.length := by rw [hml, hpl]
    subst hkk
    repeat' (first | refine ls_of rfl ?_ | refine ls_of_no ?_ | refine ls_guard_yes rfl rfl ?_ | refine ls_guard_no rfl rfl rfl rfl ?_ | refine ls_guard_un rfl rfl rfl ?_ | refine o1_move rfl ?_ | refine o1_assign rfl ?_ | refine st_seq ?_ | refine st_region ?_ | refine st_block ?_ | refine st_skip ?_ | refine st_ret ?_ | refine st_exit ?_ | refine st_cond_t rfl ?_ | refine st_cond_f rfl ?_ | refine st_cond rfl (fun _ => ?_) (fun _ => ?_) | refine ls_nil ?_ | refine nx_seq ?_ | refine nx_blk ?_ | refine nx_fn ?_ | refine nx_rounds ?_ | refine xt_seq ?_ | refine xt_here ?_ | refine xt_on rfl ?_ | refine xt_rounds ?_ | refine xt_cut ?_ | refine rt_seq ?_ | refine rt_blk ?_ | refine rt_rounds ?_ | refine rt_cut ?_ | refine o1_maker (enc := B) 0#8 64 rfl rfl rfl rfl rfl (by decide) (by decide) (fun b => ?_) | (refine ox_copy (xs := List.replicate 64 0#8) (ys := key) rfl rfl (by simp) (rx_any h) rfl (fun _ => rfl) ?_; rw [hcp]) | refine ox_load rfl (by rfl) ?_ | refine ox_load_enc rfl (by first | omega | (simp; omega)) ?_ | refine ox_load_any rfl (by assumption) ?_ | refine o1_len rfl ?_ | refine o1_add rfl rfl (by omega) ?_ | refine o1_lss_t rfl rfl (by omega) ?_ | refine o1_lss_f rfl rfl (by omega) ?_ | refine o1_lss rfl rfl (fun _ => ?_) (fun _ => ?_) | refine o1_gtr_t rfl rfl (by omega) ?_ | refine o1_gtr_f rfl rfl (by omega) ?_ | refine o1_gtr rfl rfl (fun _ => ?_) (fun _ => ?_) | refine o1_uxor rfl rfl ?_ | refine o1_maken (enc := B) 0#8 rfl rfl rfl rfl (by omega) (by omega) (by omega) (fun _ => ?_) | refine ox_store_enc B rfl rfl (by first | omega | (simp; done) | (simp; omega)) rfl ?_ | refine ox_stores rfl rfl (by first | omega | (simp; done) | (simp; omega)) rfl (by first | (simp only [List.set_cons_zero, List.set_cons_succ, Nat.zero_add, Nat.reduceAdd]; rfl) | rfl) ?_)
    refine st_loop (S := Nat) (fun i => [(1, B y), (5, .slice (some ⟨b, 0, none⟩) 64 64), (17, I 64), (18, I i)]) (fun i => [.box b 5 ((partL m p i).map B), .any (stars H)]) (fun i => i ≤ 64) (fun i => 64 - i) 0 (Nat.zero_le _)
      (cov_cons rfl rfl (cov_cons rfl rfl (cov_cons rfl rfl (cov_cons rfl rfl cov_nil)))) (by rw [partL_zero]; (try dsimp only [List.cons_append, List.nil_append, List.singleton_append, List.append_nil]); (repeat (first | exact Ent.nil | exact Ent.refl _ | (apply Ent.cons; (repeat (first | exact Sel.here | apply Sel.there)))))) ?_
    intro i hi
    by_cases hlt : i < 64
    · have hql : (partL m p i).length = 64 := by rw [partL_len hz, hpl]
      repeat' (first | refine ls_of rfl ?_ | refine ls_of_no ?_ | refine ls_guard_yes rfl rfl ?_ | refine ls_guard_no rfl rfl rfl rfl ?_ | refine ls_guard_un rfl rfl rfl ?_ | refine o1_move rfl ?_ | refine o1_assign rfl ?_ | refine st_seq ?_ | refine st_region ?_ | refine st_block ?_ | refine st_skip ?_ | refine st_ret ?_ | refine st_exit ?_ | refine st_cond_t rfl ?_ | refine st_cond_f rfl ?_ | refine st_cond rfl (fun _ => ?_) (fun _ => ?_) | refine ls_nil ?_ | refine nx_seq ?_ | refine nx_blk ?_ | refine nx_fn ?_ | refine nx_rounds ?_ | refine xt_seq ?_ | refine xt_here ?_ | refine xt_on rfl ?_ | refine xt_rounds ?_ | refine xt_cut ?_ | refine rt_seq ?_ | refine rt_blk ?_ | refine rt_rounds ?_ | refine rt_cut ?_ | refine o1_own i rfl rfl rfl hlt ?_ | refine ox_load_enc (l := partL m p i) rfl (by omega) ?_ | refine ox_store_enc B (l := partL m p i) rfl rfl (by omega) rfl ?_ | refine ox_load rfl (by rfl) ?_ | refine ox_load_enc rfl (by first | omega | (simp; omega)) ?_ | refine ox_load_any rfl (by assumption) ?_ | refine o1_len rfl ?_ | refine o1_add rfl rfl (by omega) ?_ | refine o1_lss_t rfl rfl (by omega) ?_ | refine o1_lss_f rfl rfl (by omega) ?_ | refine o1_lss rfl rfl (fun _ => ?_) (fun _ => ?_) | refine o1_gtr_t rfl rfl (by omega) ?_ | refine o1_gtr_f rfl rfl (by omega) ?_ | refine o1_gtr rfl rfl (fun _ => ?_) (fun _ => ?_) | refine o1_uxor rfl rfl ?_ | refine o1_maken (enc := B) 0#8 rfl rfl rfl rfl (by omega) (by omega) (by omega) (fun _ => ?_) | refine ox_store_enc B rfl rfl (by first | omega | (simp; done) | (simp; omega)) rfl ?_ | refine ox_stores rfl rfl (by first | omega | (simp; done) | (simp; omega)) rfl (by first | (simp only [List.set_cons_zero, List.set_cons_succ, Nat.zero_add, Nat.reduceAdd]; rfl) | rfl) ?_)
      refine nx_again (i + 1) (by omega) (by omega) (cov_cons rfl rfl (cov_cons rfl rfl (cov_cons rfl rfl (cov_cons rfl rfl cov_nil)))) ?_
      have e : p[i]'(by omega) ^^^ y = m[i]'(by omega) := by simp [hpk]
      rw [partL_at hz (Nat.le_refl i), e, partL_succ hz]
      (try dsimp only [List.cons_append, List.nil_append, List.singleton_append, List.append_nil]); (repeat (first | exact Ent.nil | exact Ent.refl _ | (apply Ent.cons; (repeat (first | exact Sel.here | apply Sel.there)))))
    · have : i = 64 := by omega
      subst this
      rw [partL_full hz hpl.symm]
      repeat' (first | refine ls_of rfl ?_ | refine ls_of_no ?_ | refine ls_guard_yes rfl rfl ?_ | refine ls_guard_no rfl rfl rfl rfl ?_ | refine ls_guard_un rfl rfl rfl ?_ | refine o1_move rfl ?_ | refine o1_assign rfl ?_ | refine st_seq ?_ | refine st_region ?_ | refine st_block ?_ | refine st_skip ?_ | refine st_ret ?_ | refine st_exit ?_ | refine st_cond_t rfl ?_ | refine st_cond_f rfl ?_ | refine st_cond rfl (fun _ => ?_) (fun _ => ?_) | refine ls_nil ?_ | refine nx_seq ?_ | refine nx_blk ?_ | refine nx_fn ?_ | refine nx_rounds ?_ | refine xt_seq ?_ | refine xt_here ?_ | refine xt_on rfl ?_ | refine xt_rounds ?_ | refine xt_cut ?_ | refine rt_seq ?_ | refine rt_blk ?_ | refine rt_rounds ?_ | refine rt_cut ?_ | refine ox_load rfl (by rfl) ?_ | refine ox_load_enc rfl (by first | omega | (simp; omega)) ?_ | refine ox_load_any rfl (by assumption) ?_ | refine o1_len rfl ?_ | refine o1_add rfl rfl (by omega) ?_ | refine o1_lss_t rfl rfl (by omega) ?_ | refine o1_lss_f rfl rfl (by omega) ?_ | refine o1_lss rfl rfl (fun _ => ?_) (fun _ => ?_) | refine o1_gtr_t rfl rfl (by omega) ?_ | refine o1_gtr_f rfl rfl (by omega) ?_ | refine o1_gtr rfl rfl (fun _ => ?_) (fun _ => ?_) | refine o1_uxor rfl rfl ?_ | refine o1_maken (enc := B) 0#8 rfl rfl rfl rfl (by omega) (by omega) (by omega) (fun _ => ?_) | refine ox_store_enc B rfl rfl (by first | omega | (simp; done) | (simp; omega)) rfl ?_ | refine ox_stores rfl rfl (by first | omega | (simp; done) | (simp; omega)) rfl (by first | (simp only [List.set_cons_zero, List.set_cons_succ, Nat.zero_add, Nat.reduceAdd]; rfl) | rfl) ?_)
      refine rt_tmp b rfl rfl (by rw [hml]) trivial ?_
      (try dsimp only [List.cons_append, List.nil_append, List.singleton_append, List.append_nil]); (repeat (first | exact Ent.nil | exact Ent.refl _ | (apply Ent.cons; (repeat (first | exact Sel.here | apply Sel.there)))))
theorem mac_Tag (H : List Hl) (ad ad2 : Option Addr) (c c2 : Nat) (key b d : List (BitVec 8)) (h : Rs (stars H) B ad c key) (h2 : Rs (stars H) B ad2 c2 b) (hb : key.length ≤ 70368744177664) (hb2 : b.length ≤ 70368744177000) (hd : tag key b = d) :
    Spec Try.prog 50 [.slice ad key.length c, .slice ad2 b.length c2] H (fun _ : Option Addr × Nat => True) (fun r => .slice r.1 d.length r.2) (fun r => .row 5 1 (.slice r.1 d.length r.2) d.length (d.map B) :: H) := by
  refine spec_pure (res := fun r : Option Addr × Nat => [.row 5 1 (.slice r.1 d.length r.2) d.length (d.map B)]) H Try.func50 rfl Try.ntmps50 (by kernel_rfl) rfl (fun W => ?_)
  obtain ⟨o, ho⟩ : ∃ m, masked key 0x5c#8 = m := ⟨_, rfl⟩
  obtain ⟨i, hi⟩ : ∃ m, masked key 0x36#8 = m := ⟨_, rfl⟩
  have hol : o.length = 64 := by rw [← ho]; exact masked_len _ _
  have hil : i.length = 64 := by rw [← hi]; exact masked_len _ _
  obtain ⟨d1, hd1⟩ : ∃ d, sha (i ++ b) = d := ⟨_, rfl⟩
  have hdl : d1.length = 32 := by rw [← hd1]; exact sha_len _
  have hd2 : sha (o ++ d1) = d := by rw [← hd, tag, ho, hi, hd1]
  repeat' (first | refine ls_of rfl ?_ | refine ls_of_no ?_ | refine ls_guard_yes rfl rfl ?_ | refine ls_guard_no rfl rfl rfl rfl ?_ | refine ls_guard_un rfl rfl rfl ?_ | refine o1_move rfl ?_ | refine o1_assign rfl ?_ | refine st_seq ?_ | refine st_region ?_ | refine st_block ?_ | refine st_skip ?_ | refine st_ret ?_ | refine st_exit ?_ | refine st_cond_t rfl ?_ | refine st_cond_f rfl ?_ | refine st_cond rfl (fun _ => ?_) (fun _ => ?_) | refine ls_nil ?_ | refine nx_seq ?_ | refine nx_blk ?_ | refine nx_fn ?_ | refine nx_rounds ?_ | refine xt_seq ?_ | refine xt_here ?_ | refine xt_on rfl ?_ | refine xt_rounds ?_ | refine xt_cut ?_ | refine rt_seq ?_ | refine rt_blk ?_ | refine rt_rounds ?_ | refine rt_cut ?_ | refine o1_call (fun _ => mac_masked _ _ _ key o 0x5c#8 h.up hb ho) rfl (fun _ _ => ?_) | refine o1_call (fun _ => mac_masked _ _ _ key i 0x36#8 h.up hb hi) rfl (fun _ _ => ?_) | refine o1_lit_enc Bs [⟨_, _, i⟩, ⟨_, _, b⟩] rfl rfl rfl (fun _ => rfl) rfl rfl rfl (fun _ => ?_) | (refine o1_call (fun hh => dg_Rows _ _ _ [⟨_, _, i⟩, ⟨_, _, b⟩] d1 (rx_lit rfl rfl hh) (fa_cons (rx_box rfl (by dsimp only; omega) hh) (fa_cons h2.up fa_nil)) (by simp only [cat, List.flatMap_cons, List.flatMap_nil, List.append_nil, List.length_append]; omega) (by simp only [cat, List.flatMap_cons, List.flatMap_nil, List.append_nil]; exact hd1)) rfl (fun ⟨_, _⟩ _ => ?_); dsimp only) | refine o1_lit_enc Bs [⟨_, _, o⟩, ⟨_, _, d1⟩] rfl rfl rfl (fun _ => rfl) rfl rfl rfl (fun _ => ?_) | (refine o1_call (fun hh => dg_Rows _ _ _ [⟨_, _, o⟩, ⟨_, _, d1⟩] d (rx_lit rfl rfl hh) (fa_cons (rx_box rfl (by dsimp only; omega) hh) (fa_cons (rx_row hh) fa_nil)) (by simp only [cat, List.flatMap_cons, List.flatMap_nil, List.append_nil, List.length_append]; omega) (by simp only [cat, List.flatMap_cons, List.flatMap_nil, List.append_nil]; exact hd2)) rfl (fun ⟨_, _⟩ _ => ?_); dsimp only) | refine o1_lit_B rfl rfl rfl rfl rfl (fun _ => ?_))
  refine rt_tmp (_, _) rfl rfl rfl trivial ?_
  (try dsimp only [List.cons_append, List.nil_append, List.singleton_append, List.append_nil]); (repeat (first | exact Ent.nil | exact Ent.refl _ | (apply Ent.cons; (repeat (first | exact Sel.here | apply Sel.there)))))
theorem mac_Right (H : List Hl) (ad ad2 ad3 : Option Addr) (c c2 c3 : Nat) (key b d t : List (BitVec 8)) (h : Rs (stars H) B ad c key) (h2 : Rs (stars H) B ad2 c2 b) (h3 : Rs (stars H) B ad3 c3 t) (hb : key.length ≤ 70368744177664) (hb2 : b.length ≤ 70368744177000) (hd : tag key b = d) :
    Spec Try.prog 51 [.slice ad key.length c, .slice ad2 b.length c2, .slice ad3 t.length c3] H (fun _ : Unit => True) (fun _ => .bool (decide (d = t))) (fun _ => H) := by
  refine spec_pure (res := fun _ => []) H Try.func51 rfl Try.ntmps51 (by kernel_rfl) rfl (fun W => ?_)
  repeat' (first | refine ls_of rfl ?_ | refine ls_of_no ?_ | refine ls_guard_yes rfl rfl ?_ | refine ls_guard_no rfl rfl rfl rfl ?_ | refine ls_guard_un rfl rfl rfl ?_ | refine o1_move rfl ?_ | refine o1_assign rfl ?_ | refine st_seq ?_ | refine st_region ?_ | refine st_block ?_ | refine st_skip ?_ | refine st_ret ?_ | refine st_exit ?_ | refine st_cond_t rfl ?_ | refine st_cond_f rfl ?_ | refine st_cond rfl (fun _ => ?_) (fun _ => ?_) | refine ls_nil ?_ | refine nx_seq ?_ | refine nx_blk ?_ | refine nx_fn ?_ | refine nx_rounds ?_ | refine xt_seq ?_ | refine xt_here ?_ | refine xt_on rfl ?_ | refine xt_rounds ?_ | refine xt_cut ?_ | refine rt_seq ?_ | refine rt_blk ?_ | refine rt_rounds ?_ | refine rt_cut ?_ | (refine o1_call (fun hh => mac_Tag _ _ _ _ _ key b d h.up h2.up hb hb2 hd) rfl (fun ⟨_, _⟩ _ => ?_); dsimp only) | refine o1_call (fun hh => slices_Equal _ _ _ _ _ d t (rx_row hh) h3.up) rfl (fun _ _ => ?_))
  refine rt_tmp () rfl rfl rfl trivial ?_
  (try dsimp only [List.cons_append, List.nil_append, List.singleton_append, List.append_nil]); (repeat (first | exact Ent.nil | exact Ent.refl _ | (apply Ent.cons; (repeat (first | exact Sel.here | apply Sel.there)))))
end Go.Dp
