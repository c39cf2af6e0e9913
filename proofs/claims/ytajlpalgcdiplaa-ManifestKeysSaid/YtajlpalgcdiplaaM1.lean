/-
  manifest.Bytes and Parse, the reference's, and awake of the laws of manifest, walked.
  Conditions: those that stand in each theorem.
-/
import Derived.Test.YtajlpalgcdiplaaG3
import Derived.Test.YtajlpalgcdiplaaS12
import Derived.Test.YtajlpalgcdiplaaBy
set_option linter.unusedVariables false
set_option linter.unusedSimpArgs false
namespace Go.Dp
open Go.RowKit Go.Proofs
def rtM1_0 : List Row := [⟨some 12, [], [], none⟩, ⟨some 13, [], [], none⟩, ⟨some 14, [1], [1], none⟩, ⟨some 15, [], [], none⟩, ⟨some 16, [3], [3], none⟩, ⟨some 17, [0, 2, 4], [0, 1, 2, 3, 4], none⟩, ⟨some 18, [5], [0, 1, 2, 3, 4, 5], none⟩, ⟨some 11, [6, 5], [0, 1, 2, 3, 4, 5, 6], none⟩]
def rtM1_1 : List Row := [⟨some 12, [], [], none⟩, ⟨some 13, [], [], none⟩, ⟨some 14, [1], [1], none⟩, ⟨some 15, [], [], none⟩, ⟨some 16, [3], [3], none⟩, ⟨some 17, [0, 2, 4], [0, 1, 2, 3, 4], none⟩, ⟨some 18, [5], [0, 1, 2, 3, 4, 5], none⟩, ⟨some 11, [6, 5], [0, 1, 2, 3, 4, 5, 6], none⟩]
def rtM1_2 : List Row := [⟨some 10, [], [], none⟩, ⟨some 11, [], [], none⟩, ⟨some 12, [1], [1], none⟩, ⟨some 13, [0, 2], [0, 1, 2], none⟩, ⟨some 14, [3], [0, 1, 2, 3], none⟩, ⟨some 15, [], [], none⟩, ⟨some 16, [5], [5], none⟩, ⟨some 17, [6], [5, 6], none⟩, ⟨some 18, [4, 7], [0, 1, 2, 3, 4, 5, 6, 7], none⟩]
def rtM1_3 : List Row := [⟨some 10, [], [], none⟩, ⟨some 11, [], [], none⟩, ⟨some 12, [1], [1], none⟩, ⟨some 13, [0, 2], [0, 1, 2], none⟩, ⟨some 14, [3], [0, 1, 2, 3], none⟩, ⟨some 15, [], [], none⟩, ⟨some 16, [5], [5], none⟩, ⟨some 17, [6], [5, 6], none⟩, ⟨some 18, [4, 7], [0, 1, 2, 3, 4, 5, 6, 7], none⟩]
open Sha
theorem mf_Bytes_no (H : List Hl) (ad : Option Addr) (c n : Nat) (x : ManD) (h : x.may = false) : Spec Try.prog 22 [.slice ad n c, x.V] H (fun _ : Unit => True) (fun _ => .tuple #[.slice none 0 0, I 1]) (fun _ => H) := by
  refine spec_pure (res := fun _ => []) H Try.func22 rfl Try.ntmps22 (by kernel_rfl) rfl (fun W => ?_)
  repeat' (first | refine ls_of rfl ?_ | refine ls_of_no ?_ | refine ls_guard_yes rfl rfl ?_ | refine ls_guard_no rfl rfl rfl rfl ?_ | refine ls_guard_un rfl rfl rfl ?_ | refine o1_move rfl ?_ | refine o1_assign rfl ?_ | refine st_seq ?_ | refine st_region ?_ | refine st_block ?_ | refine st_skip ?_ | refine st_ret ?_ | refine st_exit ?_ | refine st_cond_t rfl ?_ | refine st_cond_f rfl ?_ | refine st_cond rfl (fun _ => ?_) (fun _ => ?_) | refine ls_nil ?_ | refine nx_seq ?_ | refine nx_blk ?_ | refine nx_fn ?_ | refine nx_rounds ?_ | refine xt_seq ?_ | refine xt_here ?_ | refine xt_on rfl ?_ | refine xt_rounds ?_ | refine xt_cut ?_ | refine rt_seq ?_ | refine rt_blk ?_ | refine rt_rounds ?_ | refine rt_cut ?_ | refine o1_call (fun _ => mf_Plain_no _ x h) rfl (fun _ _ => ?_) | refine o1_extract rfl rfl ?_ | refine o1_box rfl rfl (fun _ => ?_) | refine o1_neq_t rfl rfl (by omega) ?_ | refine o1_neq_f rfl rfl (by omega) ?_ | refine o1_neq rfl rfl (fun _ => ?_) (fun _ => ?_) | refine ox_append rfl rfl (rx_box rfl (by first | decide | omega)) rfl rfl (fun _ => rfl) (by omega) (by omega) (fun _ _ => ?_) | refine ox_append rfl rfl (rx_any (by assumption)) rfl rfl (fun _ => rfl) (by omega) (by omega) (fun _ _ => ?_) | refine ox_append rfl rfl rx_row rfl rfl (fun _ => rfl) (by omega) (by omega) (fun _ _ => ?_) | refine ox_load_agg rfl (by simp only [Nat.zero_add, Nat.reduceAdd, List.drop_zero, List.drop_succ_cons, List.take_succ_cons, List.take_zero]; rfl) (by rfl) ?_)
  refine rt_tmp2 () rfl rfl rfl rfl trivial ?_
  (try dsimp only [List.cons_append, List.nil_append, List.singleton_append, List.append_nil]); (repeat (first | exact Ent.nil | exact Ent.refl _ | (apply Ent.cons; (repeat (first | exact Sel.here | apply Sel.there)))))
theorem r7_ManBytes_no (H : List Hl) (ad : Option Addr) (c n : Nat) (x : ManD) (h : x.may = false) : Spec Try.prog 26 [.slice ad n c, x.V] H (fun _ : Unit => True) (fun _ => .tuple #[.slice none 0 0, I 1]) (fun _ => H) := by
  refine spec_pure (res := fun _ => []) H Try.func26 rfl Try.ntmps26 (by kernel_rfl) rfl (fun W => ?_)
  repeat' (first | refine ls_of rfl ?_ | refine ls_of_no ?_ | refine ls_guard_yes rfl rfl ?_ | refine ls_guard_no rfl rfl rfl rfl ?_ | refine ls_guard_un rfl rfl rfl ?_ | refine o1_move rfl ?_ | refine o1_assign rfl ?_ | refine st_seq ?_ | refine st_region ?_ | refine st_block ?_ | refine st_skip ?_ | refine st_ret ?_ | refine st_exit ?_ | refine st_cond_t rfl ?_ | refine st_cond_f rfl ?_ | refine st_cond rfl (fun _ => ?_) (fun _ => ?_) | refine ls_nil ?_ | refine nx_seq ?_ | refine nx_blk ?_ | refine nx_fn ?_ | refine nx_rounds ?_ | refine xt_seq ?_ | refine xt_here ?_ | refine xt_on rfl ?_ | refine xt_rounds ?_ | refine xt_cut ?_ | refine rt_seq ?_ | refine rt_blk ?_ | refine rt_rounds ?_ | refine rt_cut ?_ | refine o1_call (fun _ => r7_Plain_no _ x h) rfl (fun _ _ => ?_) | refine o1_extract rfl rfl ?_ | refine o1_box rfl rfl (fun _ => ?_) | refine o1_neq_t rfl rfl (by omega) ?_ | refine o1_neq_f rfl rfl (by omega) ?_ | refine o1_neq rfl rfl (fun _ => ?_) (fun _ => ?_) | refine o1_lit_B rfl rfl rfl rfl rfl (fun _ => ?_) | refine ox_load_agg rfl (by simp only [Nat.zero_add, Nat.reduceAdd, List.drop_zero, List.drop_succ_cons, List.take_succ_cons, List.take_zero]; rfl) (by rfl) ?_)
  refine rt_tmp2 () rfl rfl rfl rfl trivial ?_
  (try dsimp only [List.cons_append, List.nil_append, List.singleton_append, List.append_nil]); (repeat (first | exact Ent.nil | exact Ent.refl _ | (apply Ent.cons; (repeat (first | exact Sel.here | apply Sel.there)))))
set_option maxHeartbeats 1000000 in
theorem mf_Bytes (H : List Hl) (ad : Option Addr) (c : Nat) (key d q : List (BitVec 8)) (x : ManD) (h : x.may = true) (hr : RdS (stars H) x.h) (hk : Rs (stars H) B ad c key) (hb : key.length ≤ 300) (hq : x.by = q) (hd : tag key q = d) :
    Spec Try.prog 22 [.slice ad key.length c, x.V] H (fun _ : PA => True) (fun r => .tuple #[.slice r.1 (q ++ d).length r.2, I 0]) (fun r => rowB r (q ++ d) :: H) := by
  refine spec_pure (res := fun r : PA => [rowB r (q ++ d)]) H Try.func22 rfl Try.ntmps22 (by kernel_rfl) rfl (fun W => ?_)
  have hql : q.length = 44 := by rw [← hq, by_len, may_len h]
  have hdl : d.length = 32 := by rw [← hd]; exact tag_len _ _
  repeat' (first | refine ls_of rfl ?_ | refine ls_of_no ?_ | refine ls_guard_yes rfl rfl ?_ | refine ls_guard_no rfl rfl rfl rfl ?_ | refine ls_guard_un rfl rfl rfl ?_ | refine o1_move rfl ?_ | refine o1_assign rfl ?_ | refine st_seq ?_ | refine st_region ?_ | refine st_block ?_ | refine st_skip ?_ | refine st_ret ?_ | refine st_exit ?_ | refine st_cond_t rfl ?_ | refine st_cond_f rfl ?_ | refine st_cond rfl (fun _ => ?_) (fun _ => ?_) | refine ls_nil ?_ | refine nx_seq ?_ | refine nx_blk ?_ | refine nx_fn ?_ | refine nx_rounds ?_ | refine xt_seq ?_ | refine xt_here ?_ | refine xt_on rfl ?_ | refine xt_rounds ?_ | refine xt_cut ?_ | refine rt_seq ?_ | refine rt_blk ?_ | refine rt_rounds ?_ | refine rt_cut ?_ | (refine o1_call (fun _ => mf_Plain _ x h (Rs.up hr)) rfl (fun ⟨a1, c1⟩ _ => ?_); dsimp only; rw [hq]) | (refine o1_call (fun hh => mac_Tag _ _ _ _ _ key q d hk.up (rx_row (ad := a1) (c := c1) hh) (by omega) (by omega) hd) rfl (fun ⟨a2, c2⟩ _ => ?_); dsimp only) | refine ox_appendL (xs := q) (ys := d) rfl rfl (rx_row (ad := a2) (c := c2)) rfl (fun _ => rfl) (by omega) (by omega) (fun a3 c3 => ?_) | refine o1_extract rfl rfl ?_ | refine o1_box rfl rfl (fun _ => ?_) | refine o1_neq_t rfl rfl (by omega) ?_ | refine o1_neq_f rfl rfl (by omega) ?_ | refine o1_neq rfl rfl (fun _ => ?_) (fun _ => ?_) | refine ox_append rfl rfl (rx_box rfl (by first | decide | omega)) rfl rfl (fun _ => rfl) (by omega) (by omega) (fun _ _ => ?_) | refine ox_append rfl rfl (rx_any (by assumption)) rfl rfl (fun _ => rfl) (by omega) (by omega) (fun _ _ => ?_) | refine ox_append rfl rfl rx_row rfl rfl (fun _ => rfl) (by omega) (by omega) (fun _ _ => ?_) | refine ox_load_agg rfl (by simp only [Nat.zero_add, Nat.reduceAdd, List.drop_zero, List.drop_succ_cons, List.take_succ_cons, List.take_zero]; rfl) (by rfl) ?_)
  refine rt_tmp2 (a3, c3) rfl rfl rfl rfl trivial ?_
  (try dsimp only [List.cons_append, List.nil_append, List.singleton_append, List.append_nil]); (repeat (first | exact Ent.nil | exact Ent.refl _ | (apply Ent.cons; (repeat (first | exact Sel.here | apply Sel.there)))))
theorem cat_2 (p q : List (BitVec 8)) (a a' : Option Addr) (c c' : Nat) : cat [⟨a, c, p⟩, ⟨a', c', q⟩] = p ++ q := by simp [cat]
set_option maxHeartbeats 1000000 in
theorem r7_ManBytes (H : List Hl) (ad : Option Addr) (c : Nat) (key d q : List (BitVec 8)) (x : ManD) (h : x.may = true) (hr : RdS (stars H) x.h) (hk : Rs (stars H) B ad c key) (hb : key.length ≤ 300) (hq : x.by = q) (hd : tag key q = d) :
    Spec Try.prog 26 [.slice ad key.length c, x.V] H (fun _ : PA => True) (fun r => .tuple #[.slice r.1 (q ++ d).length r.2, I 0]) (fun r => rowB r (q ++ d) :: H) := by
  refine spec_pure (res := fun r : PA => [rowB r (q ++ d)]) H Try.func26 rfl Try.ntmps26 (by kernel_rfl) rfl (fun W => ?_)
  have hql : q.length = 44 := by rw [← hq, by_len, may_len h]
  have hdl : d.length = 32 := by rw [← hd]; exact tag_len _ _
  repeat' (first | refine ls_of rfl ?_ | refine ls_of_no ?_ | refine ls_guard_yes rfl rfl ?_ | refine ls_guard_no rfl rfl rfl rfl ?_ | refine ls_guard_un rfl rfl rfl ?_ | refine o1_move rfl ?_ | refine o1_assign rfl ?_ | refine st_seq ?_ | refine st_region ?_ | refine st_block ?_ | refine st_skip ?_ | refine st_ret ?_ | refine st_exit ?_ | refine st_cond_t rfl ?_ | refine st_cond_f rfl ?_ | refine st_cond rfl (fun _ => ?_) (fun _ => ?_) | refine ls_nil ?_ | refine nx_seq ?_ | refine nx_blk ?_ | refine nx_fn ?_ | refine nx_rounds ?_ | refine xt_seq ?_ | refine xt_here ?_ | refine xt_on rfl ?_ | refine xt_rounds ?_ | refine xt_cut ?_ | refine rt_seq ?_ | refine rt_blk ?_ | refine rt_rounds ?_ | refine rt_cut ?_ | (refine o1_call (fun _ => r7_Plain _ x h (Rs.up hr)) rfl (fun ⟨a1, c1⟩ _ => ?_); dsimp only; rw [hq]) | (refine o1_call (fun hh => r1_Tag _ _ _ _ _ key q d hk.up (rx_row (ad := a1) (c := c1) hh) (by omega) (by omega) hd) rfl (fun ⟨a2, c2⟩ _ => ?_); dsimp only) | refine o1_lit_enc Bs [⟨a1, c1, q⟩, ⟨a2, c2, d⟩] rfl rfl rfl (fun _ => rfl) rfl rfl rfl (fun _ => ?_) | (refine o1_call (fun hh => r1_Join _ _ _ [⟨a1, c1, q⟩, ⟨a2, c2, d⟩] (rx_lit rfl rfl hh) (fa_cons (rx_row (ad := a1) (c := c1) hh) (fa_cons (rx_row (ad := a2) (c := c2) hh) fa_nil)) (by rw [cat_2, List.length_append]; omega)) rfl (fun ⟨a3, c3⟩ _ => ?_); dsimp only; rw [cat_2]) | refine o1_extract rfl rfl ?_ | refine o1_box rfl rfl (fun _ => ?_) | refine o1_neq_t rfl rfl (by omega) ?_ | refine o1_neq_f rfl rfl (by omega) ?_ | refine o1_neq rfl rfl (fun _ => ?_) (fun _ => ?_) | refine o1_lit_B rfl rfl rfl rfl rfl (fun _ => ?_) | refine ox_load_agg rfl (by simp only [Nat.zero_add, Nat.reduceAdd, List.drop_zero, List.drop_succ_cons, List.take_succ_cons, List.take_zero]; rfl) (by rfl) ?_)
  refine rt_tmp2 (a3, c3) rfl rfl rfl rfl trivial ?_
  (try dsimp only [List.cons_append, List.nil_append, List.singleton_append, List.append_nil]); (repeat (first | exact Ent.nil | exact Ent.refl _ | (apply Ent.cons; (repeat (first | exact Sel.here | apply Sel.there)))))
def setM (m : ManD) (r : PA) : ManD := ⟨m.s, m.v, m.n, m.z, m.p, ⟨r.1, r.2, m.h.l⟩⟩
/-- What bytes say of a manifest, by a key. -/
def rdM (l : List (BitVec 8)) : ManD × Int := if l.length = 44 then (if (manO l (none, 0)).may then (manO l (none, 0), 0) else (zM, 3)) else (zM, 3)
def prM (key l : List (BitVec 8)) : ManD × Int := if l.length = 76 then (if tag key (l.take 44) = l.drop 44 then rdM (l.take 44) else (zM, 5)) else (zM, 3)
/-- Read, in one. -/
theorem mf_ReadA (H : List Hl) (ad : Option Addr) (c : Nat) (l : List (BitVec 8)) (h : Rs (stars H) B ad c l) (p : ManD × Int) (hp : rdM l = p) :
    Spec Try.prog 33 [.slice ad l.length c] H (fun _ : PA => True) (fun r => .tuple #[(setM p.1 r).V, I p.2]) (fun r => rowB r p.1.h.l :: H) := by
  unfold rdM at hp
  have nilr : ∀ h', stars H h' → stars (rowB (none, 0) [] :: H) h' := ent_nil 5 B
  by_cases hl : l.length = 44
  · rw [if_pos hl] at hp
    cases hm : (manO l (none, 0)).may
    · rw [if_neg (by simp [hm])] at hp
      subst hp
      have k := mf_Read_no H ad c l h hl hm
      exact ⟨k.enters, fun w hs => (k.calls w hs).mono fun x w' ⟨r, hg, he, hx, hsat⟩ => ⟨(none, 0), trivial, he, hx, hsat.mono nilr⟩⟩
    · rw [if_pos hm] at hp
      subst hp
      exact mf_Read H ad c l h hl hm
  · rw [if_neg hl] at hp
    subst hp
    have k := mf_Read_len H ad c l hl
    exact ⟨k.enters, fun w hs => (k.calls w hs).mono fun x w' ⟨r, hg, he, hx, hsat⟩ => ⟨(none, 0), trivial, he, hx, hsat.mono nilr⟩⟩
theorem r7_ReadA (H : List Hl) (ad : Option Addr) (c : Nat) (l : List (BitVec 8)) (h : Rs (stars H) B ad c l) (p : ManD × Int) (hp : rdM l = p) :
    Spec Try.prog 34 [.slice ad l.length c] H (fun _ : PA => True) (fun r => .tuple #[(setM p.1 r).V, I p.2]) (fun r => rowB r p.1.h.l :: H) := by
  unfold rdM at hp
  have nilr : ∀ h', stars H h' → stars (rowB (none, 0) [] :: H) h' := ent_nil 5 B
  by_cases hl : l.length = 44
  · rw [if_pos hl] at hp
    cases hm : (manO l (none, 0)).may
    · rw [if_neg (by simp [hm])] at hp
      subst hp
      have k := r7_Read_no H ad c l h hl hm
      exact ⟨k.enters, fun w hs => (k.calls w hs).mono fun x w' ⟨r, hg, he, hx, hsat⟩ => ⟨(none, 0), trivial, he, hx, hsat.mono nilr⟩⟩
    · rw [if_pos hm] at hp
      subst hp
      exact r7_Read H ad c l h hl hm
  · rw [if_neg hl] at hp
    subst hp
    have k := r7_Read_len H ad c l hl
    exact ⟨k.enters, fun w hs => (k.calls w hs).mono fun x w' ⟨r, hg, he, hx, hsat⟩ => ⟨(none, 0), trivial, he, hx, hsat.mono nilr⟩⟩
set_option maxHeartbeats 1000000 in
theorem mf_Parse (H : List Hl) (ad ad2 : Option Addr) (c c2 : Nat) (key l : List (BitVec 8)) (hk : Rs (stars H) B ad c key) (h : Rs (stars H) B ad2 c2 l) (hb : key.length ≤ 300) (p : ManD × Int) (hp : prM key l = p) :
    Spec Try.prog 23 [.slice ad key.length c, .slice ad2 l.length c2] H (fun _ : PA => True) (fun r => .tuple #[(setM p.1 r).V, I p.2]) (fun r => rowB r p.1.h.l :: H) := by
  refine spec_pure (res := fun r : PA => [rowB r p.1.h.l]) H Try.func23 rfl Try.ntmps23 (by kernel_rfl) rfl (fun W => ?_)
  unfold prM at hp
  by_cases hl : l.length = 76
  · rw [if_pos hl] at hp
    obtain ⟨d, hd⟩ : ∃ d, tag key (l.take 44) = d := ⟨_, rfl⟩
    rw [hd] at hp
    by_cases ht : d = l.drop 44
    · rw [if_pos ht] at hp
      repeat' (first | refine ls_of rfl ?_ | refine ls_of_no ?_ | refine ls_guard_yes rfl rfl ?_ | refine ls_guard_no rfl rfl rfl rfl ?_ | refine ls_guard_un rfl rfl rfl ?_ | refine o1_move rfl ?_ | refine o1_assign rfl ?_ | refine st_seq ?_ | refine st_region ?_ | refine st_block ?_ | refine st_skip ?_ | refine st_ret ?_ | refine st_exit ?_ | refine st_cond_t rfl ?_ | refine st_cond_f rfl ?_ | refine st_cond rfl (fun _ => ?_) (fun _ => ?_) | refine ls_nil ?_ | refine nx_seq ?_ | refine nx_blk ?_ | refine nx_fn ?_ | refine nx_rounds ?_ | refine xt_seq ?_ | refine xt_here ?_ | refine xt_on rfl ?_ | refine xt_rounds ?_ | refine xt_cut ?_ | refine rt_seq ?_ | refine rt_blk ?_ | refine rt_rounds ?_ | refine rt_cut ?_ | refine o1_extract rfl rfl ?_ | refine o1_len rfl ?_ | refine o1_neq_t rfl rfl (by omega) ?_ | refine o1_neq_f rfl rfl (by omega) ?_ | refine o1_neq rfl rfl (fun _ => ?_) (fun _ => ?_) | refine o1_bnot rfl ?_ | refine o1_unot rfl ?_ | refine o1_buildx rfl (by simp only [buildL, putL, List.set_cons_zero, List.set_cons_succ, List.getElem?_cons_zero, List.getElem?_cons_succ, Option.getD_some, Value.cells, Nat.zero_add, Nat.reduceAdd]; rfl) (fun _ => by kernel_rfl) ?_ | refine o1_alloc rfl (fun _ => ?_) | refine ox_store_agg rfl rfl (by rfl) (by simp) (by simp [Value.oneCell']) (by simp only [putL, List.set_cons_zero, List.set_cons_succ, Nat.zero_add, Nat.reduceAdd]; rfl) ?_)
      refine st_stages [(0, _), (1, _)] rtM1_0 [] [⟨[0, 1, 2, 3, 4, 5, 6, 7], [], none⟩] mixed (cov_cons rfl rfl (cov_cons rfl rfl cov_nil)) (by kernel_rfl) (by kernel_rfl) ?_
      all_goals refine wk_end ?_
      all_goals (refine xp1 0 rfl rfl rfl rfl (by refine o1_move rfl fz) ?_)
      all_goals (refine xp1 1 rfl rfl rfl rfl (by refine o1_move rfl fz) ?_)
      all_goals (refine xp1 13 rfl rfl rfl rfl (by first | refine o1_cv_h rfl rfl h rfl (by omega) (by omega) fz | refine o1_cv_l rfl rfl h rfl (by omega) (by omega) fz) ?_)
      all_goals (refine xp1 1 rfl rfl rfl rfl (by refine o1_move rfl fz) ?_)
      all_goals (refine xp1 15 rfl rfl rfl rfl (by first | refine o1_cv_h rfl rfl h rfl (by omega) (by omega) fz | refine o1_cv_l rfl rfl h rfl (by omega) (by omega) fz) ?_)
      all_goals (refine xp3 12 14 16 rfl rfl rfl rfl rfl rfl (by refine o1_call (fun _ => (mac_Right _ _ _ _ _ _ _ key _ d _ hk.up (Rs.up (h.cutv 0 44 (by omega) (by omega))) (Rs.up (h.cutl 44 (by omega))) (by omega) (by simp; omega) hd).bv (b := true) (decide_eq_true ht)) rfl (fun _ _ => fz)) ?_)
      all_goals (refine xp1 17 rfl rfl rfl rfl (by first | refine o1_bnot rfl fz | refine o1_unot rfl fz) ?_)
      all_goals (refine xp1 18 rfl rfl rfl rfl (by refine o1_assign rfl fz) ?_)
      all_goals refine op_nil ?_
      all_goals refine re_nil ?_
      all_goals dsimp only [List.cons_append, List.nil_append]
      repeat' (first | refine ls_of rfl ?_ | refine ls_of_no ?_ | refine ls_guard_yes rfl rfl ?_ | refine ls_guard_no rfl rfl rfl rfl ?_ | refine ls_guard_un rfl rfl rfl ?_ | refine o1_move rfl ?_ | refine o1_assign rfl ?_ | refine st_seq ?_ | refine st_region ?_ | refine st_block ?_ | refine st_skip ?_ | refine st_ret ?_ | refine st_exit ?_ | refine st_cond_t rfl ?_ | refine st_cond_f rfl ?_ | refine st_cond rfl (fun _ => ?_) (fun _ => ?_) | refine ls_nil ?_ | refine nx_seq ?_ | refine nx_blk ?_ | refine nx_fn ?_ | refine nx_rounds ?_ | refine xt_seq ?_ | refine xt_here ?_ | refine xt_on rfl ?_ | refine xt_rounds ?_ | refine xt_cut ?_ | refine rt_seq ?_ | refine rt_blk ?_ | refine rt_rounds ?_ | refine rt_cut ?_ | refine o1_cs_h (xs := l) 44 rfl rfl rfl rfl h.le (by omega) ?_ | (refine o1_call (fun _ => mf_ReadA _ _ _ (l.take 44) (Rs.up (h.cuth 44 (by omega))) p hp) rfl (fun r _ => ?_); dsimp only [ManD.V, ManD.c, setM]) | refine o1_extract rfl rfl ?_ | refine o1_len rfl ?_ | refine o1_neq_t rfl rfl (by omega) ?_ | refine o1_neq_f rfl rfl (by omega) ?_ | refine o1_neq rfl rfl (fun _ => ?_) (fun _ => ?_) | refine o1_bnot rfl ?_ | refine o1_unot rfl ?_ | refine o1_buildx rfl (by simp only [buildL, putL, List.set_cons_zero, List.set_cons_succ, List.getElem?_cons_zero, List.getElem?_cons_succ, Option.getD_some, Value.cells, Nat.zero_add, Nat.reduceAdd]; rfl) (fun _ => by kernel_rfl) ?_ | refine o1_alloc rfl (fun _ => ?_) | refine ox_store_agg rfl rfl (by rfl) (by simp) (by simp [Value.oneCell']) (by simp only [putL, List.set_cons_zero, List.set_cons_succ, Nat.zero_add, Nat.reduceAdd]; rfl) ?_)
      refine rt_cell_tmp r rfl rfl rfl rfl rfl trivial ?_
      (try dsimp only [List.cons_append, List.nil_append, List.singleton_append, List.append_nil]); (repeat (first | exact Ent.nil | exact Ent.refl _ | (apply Ent.cons; (repeat (first | exact Sel.here | apply Sel.there)))))
    · rw [if_neg ht] at hp
      subst hp
      repeat' (first | refine ls_of rfl ?_ | refine ls_of_no ?_ | refine ls_guard_yes rfl rfl ?_ | refine ls_guard_no rfl rfl rfl rfl ?_ | refine ls_guard_un rfl rfl rfl ?_ | refine o1_move rfl ?_ | refine o1_assign rfl ?_ | refine st_seq ?_ | refine st_region ?_ | refine st_block ?_ | refine st_skip ?_ | refine st_ret ?_ | refine st_exit ?_ | refine st_cond_t rfl ?_ | refine st_cond_f rfl ?_ | refine st_cond rfl (fun _ => ?_) (fun _ => ?_) | refine ls_nil ?_ | refine nx_seq ?_ | refine nx_blk ?_ | refine nx_fn ?_ | refine nx_rounds ?_ | refine xt_seq ?_ | refine xt_here ?_ | refine xt_on rfl ?_ | refine xt_rounds ?_ | refine xt_cut ?_ | refine rt_seq ?_ | refine rt_blk ?_ | refine rt_rounds ?_ | refine rt_cut ?_ | refine o1_extract rfl rfl ?_ | refine o1_len rfl ?_ | refine o1_neq_t rfl rfl (by omega) ?_ | refine o1_neq_f rfl rfl (by omega) ?_ | refine o1_neq rfl rfl (fun _ => ?_) (fun _ => ?_) | refine o1_bnot rfl ?_ | refine o1_unot rfl ?_ | refine o1_buildx rfl (by simp only [buildL, putL, List.set_cons_zero, List.set_cons_succ, List.getElem?_cons_zero, List.getElem?_cons_succ, Option.getD_some, Value.cells, Nat.zero_add, Nat.reduceAdd]; rfl) (fun _ => by kernel_rfl) ?_ | refine o1_alloc rfl (fun _ => ?_) | refine ox_store_agg rfl rfl (by rfl) (by simp) (by simp [Value.oneCell']) (by simp only [putL, List.set_cons_zero, List.set_cons_succ, Nat.zero_add, Nat.reduceAdd]; rfl) ?_)
      refine st_stages [(0, _), (1, _)] rtM1_1 [] [⟨[0, 1, 2, 3, 4, 5, 6, 7], [], none⟩] mixed (cov_cons rfl rfl (cov_cons rfl rfl cov_nil)) (by kernel_rfl) (by kernel_rfl) ?_
      all_goals refine wk_end ?_
      all_goals (refine xp1 0 rfl rfl rfl rfl (by refine o1_move rfl fz) ?_)
      all_goals (refine xp1 1 rfl rfl rfl rfl (by refine o1_move rfl fz) ?_)
      all_goals (refine xp1 13 rfl rfl rfl rfl (by first | refine o1_cv_h rfl rfl h rfl (by omega) (by omega) fz | refine o1_cv_l rfl rfl h rfl (by omega) (by omega) fz) ?_)
      all_goals (refine xp1 1 rfl rfl rfl rfl (by refine o1_move rfl fz) ?_)
      all_goals (refine xp1 15 rfl rfl rfl rfl (by first | refine o1_cv_h rfl rfl h rfl (by omega) (by omega) fz | refine o1_cv_l rfl rfl h rfl (by omega) (by omega) fz) ?_)
      all_goals (refine xp3 12 14 16 rfl rfl rfl rfl rfl rfl (by refine o1_call (fun _ => (mac_Right _ _ _ _ _ _ _ key _ d _ hk.up (Rs.up (h.cutv 0 44 (by omega) (by omega))) (Rs.up (h.cutl 44 (by omega))) (by omega) (by simp; omega) hd).bv (b := false) (decide_eq_false ht)) rfl (fun _ _ => fz)) ?_)
      all_goals (refine xp1 17 rfl rfl rfl rfl (by first | refine o1_bnot rfl fz | refine o1_unot rfl fz) ?_)
      all_goals (refine xp1 18 rfl rfl rfl rfl (by refine o1_assign rfl fz) ?_)
      all_goals refine op_nil ?_
      all_goals refine re_nil ?_
      all_goals dsimp only [List.cons_append, List.nil_append]
      repeat' (first | refine ls_of rfl ?_ | refine ls_of_no ?_ | refine ls_guard_yes rfl rfl ?_ | refine ls_guard_no rfl rfl rfl rfl ?_ | refine ls_guard_un rfl rfl rfl ?_ | refine o1_move rfl ?_ | refine o1_assign rfl ?_ | refine st_seq ?_ | refine st_region ?_ | refine st_block ?_ | refine st_skip ?_ | refine st_ret ?_ | refine st_exit ?_ | refine st_cond_t rfl ?_ | refine st_cond_f rfl ?_ | refine st_cond rfl (fun _ => ?_) (fun _ => ?_) | refine ls_nil ?_ | refine nx_seq ?_ | refine nx_blk ?_ | refine nx_fn ?_ | refine nx_rounds ?_ | refine xt_seq ?_ | refine xt_here ?_ | refine xt_on rfl ?_ | refine xt_rounds ?_ | refine xt_cut ?_ | refine rt_seq ?_ | refine rt_blk ?_ | refine rt_rounds ?_ | refine rt_cut ?_ | refine o1_extract rfl rfl ?_ | refine o1_len rfl ?_ | refine o1_neq_t rfl rfl (by omega) ?_ | refine o1_neq_f rfl rfl (by omega) ?_ | refine o1_neq rfl rfl (fun _ => ?_) (fun _ => ?_) | refine o1_bnot rfl ?_ | refine o1_unot rfl ?_ | refine o1_buildx rfl (by simp only [buildL, putL, List.set_cons_zero, List.set_cons_succ, List.getElem?_cons_zero, List.getElem?_cons_succ, Option.getD_some, Value.cells, Nat.zero_add, Nat.reduceAdd]; rfl) (fun _ => by kernel_rfl) ?_ | refine o1_alloc rfl (fun _ => ?_) | refine ox_store_agg rfl rfl (by rfl) (by simp) (by simp [Value.oneCell']) (by simp only [putL, List.set_cons_zero, List.set_cons_succ, Nat.zero_add, Nat.reduceAdd]; rfl) ?_)
      refine rt_ent (ent_nil 5 B) ?_
      refine rt_cell_tmp (none, 0) rfl rfl rfl rfl rfl trivial ?_
      (try dsimp only [List.cons_append, List.nil_append, List.singleton_append, List.append_nil]); (repeat (first | exact Ent.nil | exact Ent.refl _ | (apply Ent.cons; (repeat (first | exact Sel.here | apply Sel.there)))))
  · rw [if_neg hl] at hp
    subst hp
    repeat' (first | refine ls_of rfl ?_ | refine ls_of_no ?_ | refine ls_guard_yes rfl rfl ?_ | refine ls_guard_no rfl rfl rfl rfl ?_ | refine ls_guard_un rfl rfl rfl ?_ | refine o1_move rfl ?_ | refine o1_assign rfl ?_ | refine st_seq ?_ | refine st_region ?_ | refine st_block ?_ | refine st_skip ?_ | refine st_ret ?_ | refine st_exit ?_ | refine st_cond_t rfl ?_ | refine st_cond_f rfl ?_ | refine st_cond rfl (fun _ => ?_) (fun _ => ?_) | refine ls_nil ?_ | refine nx_seq ?_ | refine nx_blk ?_ | refine nx_fn ?_ | refine nx_rounds ?_ | refine xt_seq ?_ | refine xt_here ?_ | refine xt_on rfl ?_ | refine xt_rounds ?_ | refine xt_cut ?_ | refine rt_seq ?_ | refine rt_blk ?_ | refine rt_rounds ?_ | refine rt_cut ?_ | refine o1_extract rfl rfl ?_ | refine o1_len rfl ?_ | refine o1_neq_t rfl rfl (by omega) ?_ | refine o1_neq_f rfl rfl (by omega) ?_ | refine o1_neq rfl rfl (fun _ => ?_) (fun _ => ?_) | refine o1_bnot rfl ?_ | refine o1_unot rfl ?_ | refine o1_buildx rfl (by simp only [buildL, putL, List.set_cons_zero, List.set_cons_succ, List.getElem?_cons_zero, List.getElem?_cons_succ, Option.getD_some, Value.cells, Nat.zero_add, Nat.reduceAdd]; rfl) (fun _ => by kernel_rfl) ?_ | refine o1_alloc rfl (fun _ => ?_) | refine ox_store_agg rfl rfl (by rfl) (by simp) (by simp [Value.oneCell']) (by simp only [putL, List.set_cons_zero, List.set_cons_succ, Nat.zero_add, Nat.reduceAdd]; rfl) ?_)
    refine rt_ent (ent_nil 5 B) ?_
    refine rt_cell_tmp (none, 0) rfl rfl rfl rfl rfl trivial ?_
    (try dsimp only [List.cons_append, List.nil_append, List.singleton_append, List.append_nil]); (repeat (first | exact Ent.nil | exact Ent.refl _ | (apply Ent.cons; (repeat (first | exact Sel.here | apply Sel.there)))))
set_option maxHeartbeats 1000000 in
theorem r7_ParseM (H : List Hl) (ad ad2 : Option Addr) (c c2 : Nat) (key l : List (BitVec 8)) (hk : Rs (stars H) B ad c key) (h : Rs (stars H) B ad2 c2 l) (hb : key.length ≤ 300) (p : ManD × Int) (hp : prM key l = p) :
    Spec Try.prog 32 [.slice ad key.length c, .slice ad2 l.length c2] H (fun _ : PA => True) (fun r => .tuple #[(setM p.1 r).V, I p.2]) (fun r => rowB r p.1.h.l :: H) := by
  refine spec_pure (res := fun r : PA => [rowB r p.1.h.l]) H Try.func32 rfl Try.ntmps32 (by kernel_rfl) rfl (fun W => ?_)
  unfold prM at hp
  by_cases hl : l.length = 76
  · rw [if_pos hl] at hp
    obtain ⟨d, hd⟩ : ∃ d, tag key (l.take 44) = d := ⟨_, rfl⟩
    rw [hd] at hp
    have hd' : tag key ((l.take 44).drop 0) = d := hd
    by_cases ht : d = l.drop 44
    · rw [if_pos ht] at hp
      repeat' (first | refine ls_of rfl ?_ | refine ls_of_no ?_ | refine ls_guard_yes rfl rfl ?_ | refine ls_guard_no rfl rfl rfl rfl ?_ | refine ls_guard_un rfl rfl rfl ?_ | refine o1_move rfl ?_ | refine o1_assign rfl ?_ | refine st_seq ?_ | refine st_region ?_ | refine st_block ?_ | refine st_skip ?_ | refine st_ret ?_ | refine st_exit ?_ | refine st_cond_t rfl ?_ | refine st_cond_f rfl ?_ | refine st_cond rfl (fun _ => ?_) (fun _ => ?_) | refine ls_nil ?_ | refine nx_seq ?_ | refine nx_blk ?_ | refine nx_fn ?_ | refine nx_rounds ?_ | refine xt_seq ?_ | refine xt_here ?_ | refine xt_on rfl ?_ | refine xt_rounds ?_ | refine xt_cut ?_ | refine rt_seq ?_ | refine rt_blk ?_ | refine rt_rounds ?_ | refine rt_cut ?_ | refine o1_extract rfl rfl ?_ | refine o1_len rfl ?_ | refine o1_neq_t rfl rfl (by omega) ?_ | refine o1_neq_f rfl rfl (by omega) ?_ | refine o1_neq rfl rfl (fun _ => ?_) (fun _ => ?_) | refine o1_string rfl (by rfl) rx_row ?_ | refine o1_string rfl (by rfl) (rx_any (by assumption)) ?_ | refine o1_buildx rfl (by simp only [buildL, putL, List.set_cons_zero, List.set_cons_succ, List.getElem?_cons_zero, List.getElem?_cons_succ, Option.getD_some, Value.cells, Nat.zero_add, Nat.reduceAdd]; rfl) (fun _ => by kernel_rfl) ?_ | refine o1_alloc rfl (fun _ => ?_) | refine ox_store_agg rfl rfl (by rfl) (by simp) (by simp [Value.oneCell']) (by simp only [putL, List.set_cons_zero, List.set_cons_succ, Nat.zero_add, Nat.reduceAdd]; rfl) ?_)
      refine st_stages [(0, _), (1, _)] rtM1_2 [3] [⟨[0, 1, 2, 5, 6, 7], [], some 3⟩, ⟨[4, 8], [5, 6, 7], none⟩] mixed (cov_cons rfl rfl (cov_cons rfl rfl cov_nil)) (by kernel_rfl) (by kernel_rfl) ?_
      all_goals refine wk_ch ?_
      all_goals (refine xp1 0 rfl rfl rfl rfl (by refine o1_move rfl fz) ?_)
      all_goals (refine xp1 1 rfl rfl rfl rfl (by refine o1_move rfl fz) ?_)
      all_goals (refine xp1 11 rfl rfl rfl rfl (by first | refine o1_cv_h rfl rfl h rfl (by omega) (by omega) fz | refine o1_cv_l rfl rfl h rfl (by omega) (by omega) fz) ?_)
      all_goals (refine xp1 1 rfl rfl rfl rfl (by refine o1_move rfl fz) ?_)
      all_goals (refine xp1 15 rfl rfl rfl rfl (by first | refine o1_cv_h rfl rfl h rfl (by omega) (by omega) fz | refine o1_cv_l rfl rfl h rfl (by omega) (by omega) fz) ?_)
      all_goals (refine xp1 16 rfl rfl rfl rfl (by first | refine o1_string (xs := d) rfl rfl (rx_row (ad := a9) (c := c9)) fz | refine o1_string (xs := l.drop 44) rfl rfl (fun _ => Rs.up (h.cutl 44 (by omega))) fz | refine o1_string rfl (by rfl) rx_row fz | refine o1_string rfl (by rfl) (rx_any (by assumption)) fz) ?_)
      all_goals refine op_nil ?_
      all_goals refine re_nil ?_
      all_goals first | (refine ch_run (E' := [(10, _), (12, _)]) rfl (gd_r0 rfl) rfl (cov_cons rfl rfl (cov_cons rfl rfl cov_nil)) ?_; (first | (refine o1_call (fun _ => r1_Tag _ _ _ _ _ key _ d hk.up (Rs.up (h.cutv 0 44 (by omega) (by omega))) (by omega) (by simp; omega) hd') rfl (fun ⟨a9, c9⟩ _ => ?_); dsimp only)))
      all_goals refine wk_end ?_
      all_goals (refine xp1 13 rfl rfl rfl rfl (by first | refine o1_string (xs := d) rfl rfl (rx_row (ad := a9) (c := c9)) fz | refine o1_string (xs := l.drop 44) rfl rfl (fun _ => Rs.up (h.cutl 44 (by omega))) fz | refine o1_string rfl (by rfl) rx_row fz | refine o1_string rfl (by rfl) (rx_any (by assumption)) fz) ?_)
      all_goals (refine xp2 14 17 rfl rfl rfl rfl rfl (by first | refine o1_strneq_r (r := false) rfl rfl (by simp [ht]) fz | refine o1_strneq_d rfl rfl fz) ?_)
      all_goals refine op_nil ?_
      all_goals (refine xq1 1 rfl rfl rfl rfl rfl (by refine o1_move rfl fz) ?_)
      all_goals (refine xq1 15 rfl rfl rfl rfl rfl (by first | refine o1_cv_h rfl rfl h rfl (by omega) (by omega) fz | refine o1_cv_l rfl rfl h rfl (by omega) (by omega) fz) ?_)
      all_goals (refine xq1 16 rfl rfl rfl rfl rfl (by first | refine o1_string (xs := d) rfl rfl (rx_row (ad := a9) (c := c9)) fz | refine o1_string (xs := l.drop 44) rfl rfl (fun _ => Rs.up (h.cutl 44 (by omega))) fz | refine o1_string rfl (by rfl) rx_row fz | refine o1_string rfl (by rfl) (rx_any (by assumption)) fz) ?_)
      all_goals refine re_nil ?_
      all_goals dsimp only [List.cons_append, List.nil_append]
      repeat' (first | refine ls_of rfl ?_ | refine ls_of_no ?_ | refine ls_guard_yes rfl rfl ?_ | refine ls_guard_no rfl rfl rfl rfl ?_ | refine ls_guard_un rfl rfl rfl ?_ | refine o1_move rfl ?_ | refine o1_assign rfl ?_ | refine st_seq ?_ | refine st_region ?_ | refine st_block ?_ | refine st_skip ?_ | refine st_ret ?_ | refine st_exit ?_ | refine st_cond_t rfl ?_ | refine st_cond_f rfl ?_ | refine st_cond rfl (fun _ => ?_) (fun _ => ?_) | refine ls_nil ?_ | refine nx_seq ?_ | refine nx_blk ?_ | refine nx_fn ?_ | refine nx_rounds ?_ | refine xt_seq ?_ | refine xt_here ?_ | refine xt_on rfl ?_ | refine xt_rounds ?_ | refine xt_cut ?_ | refine rt_seq ?_ | refine rt_blk ?_ | refine rt_rounds ?_ | refine rt_cut ?_ | refine o1_cs_h (xs := l) 44 rfl rfl rfl rfl h.le (by omega) ?_ | (refine o1_call (fun _ => r7_ReadA _ _ _ (l.take 44) (Rs.up (h.cuth 44 (by omega))) p hp) rfl (fun r _ => ?_); dsimp only [ManD.V, ManD.c, setM]) | refine o1_extract rfl rfl ?_ | refine o1_len rfl ?_ | refine o1_neq_t rfl rfl (by omega) ?_ | refine o1_neq_f rfl rfl (by omega) ?_ | refine o1_neq rfl rfl (fun _ => ?_) (fun _ => ?_) | refine o1_string rfl (by rfl) rx_row ?_ | refine o1_string rfl (by rfl) (rx_any (by assumption)) ?_ | refine o1_buildx rfl (by simp only [buildL, putL, List.set_cons_zero, List.set_cons_succ, List.getElem?_cons_zero, List.getElem?_cons_succ, Option.getD_some, Value.cells, Nat.zero_add, Nat.reduceAdd]; rfl) (fun _ => by kernel_rfl) ?_ | refine o1_alloc rfl (fun _ => ?_) | refine ox_store_agg rfl rfl (by rfl) (by simp) (by simp [Value.oneCell']) (by simp only [putL, List.set_cons_zero, List.set_cons_succ, Nat.zero_add, Nat.reduceAdd]; rfl) ?_)
      refine rt_cell_tmp r rfl rfl rfl rfl rfl trivial ?_
      (try dsimp only [List.cons_append, List.nil_append, List.singleton_append, List.append_nil]); (repeat (first | exact Ent.nil | exact Ent.refl _ | (apply Ent.cons; (repeat (first | exact Sel.here | apply Sel.there)))))
    · rw [if_neg ht] at hp
      subst hp
      repeat' (first | refine ls_of rfl ?_ | refine ls_of_no ?_ | refine ls_guard_yes rfl rfl ?_ | refine ls_guard_no rfl rfl rfl rfl ?_ | refine ls_guard_un rfl rfl rfl ?_ | refine o1_move rfl ?_ | refine o1_assign rfl ?_ | refine st_seq ?_ | refine st_region ?_ | refine st_block ?_ | refine st_skip ?_ | refine st_ret ?_ | refine st_exit ?_ | refine st_cond_t rfl ?_ | refine st_cond_f rfl ?_ | refine st_cond rfl (fun _ => ?_) (fun _ => ?_) | refine ls_nil ?_ | refine nx_seq ?_ | refine nx_blk ?_ | refine nx_fn ?_ | refine nx_rounds ?_ | refine xt_seq ?_ | refine xt_here ?_ | refine xt_on rfl ?_ | refine xt_rounds ?_ | refine xt_cut ?_ | refine rt_seq ?_ | refine rt_blk ?_ | refine rt_rounds ?_ | refine rt_cut ?_ | refine o1_extract rfl rfl ?_ | refine o1_len rfl ?_ | refine o1_neq_t rfl rfl (by omega) ?_ | refine o1_neq_f rfl rfl (by omega) ?_ | refine o1_neq rfl rfl (fun _ => ?_) (fun _ => ?_) | refine o1_string rfl (by rfl) rx_row ?_ | refine o1_string rfl (by rfl) (rx_any (by assumption)) ?_ | refine o1_buildx rfl (by simp only [buildL, putL, List.set_cons_zero, List.set_cons_succ, List.getElem?_cons_zero, List.getElem?_cons_succ, Option.getD_some, Value.cells, Nat.zero_add, Nat.reduceAdd]; rfl) (fun _ => by kernel_rfl) ?_ | refine o1_alloc rfl (fun _ => ?_) | refine ox_store_agg rfl rfl (by rfl) (by simp) (by simp [Value.oneCell']) (by simp only [putL, List.set_cons_zero, List.set_cons_succ, Nat.zero_add, Nat.reduceAdd]; rfl) ?_)
      refine st_stages [(0, _), (1, _)] rtM1_3 [3] [⟨[0, 1, 2, 5, 6, 7], [], some 3⟩, ⟨[4, 8], [5, 6, 7], none⟩] mixed (cov_cons rfl rfl (cov_cons rfl rfl cov_nil)) (by kernel_rfl) (by kernel_rfl) ?_
      all_goals refine wk_ch ?_
      all_goals (refine xp1 0 rfl rfl rfl rfl (by refine o1_move rfl fz) ?_)
      all_goals (refine xp1 1 rfl rfl rfl rfl (by refine o1_move rfl fz) ?_)
      all_goals (refine xp1 11 rfl rfl rfl rfl (by first | refine o1_cv_h rfl rfl h rfl (by omega) (by omega) fz | refine o1_cv_l rfl rfl h rfl (by omega) (by omega) fz) ?_)
      all_goals (refine xp1 1 rfl rfl rfl rfl (by refine o1_move rfl fz) ?_)
      all_goals (refine xp1 15 rfl rfl rfl rfl (by first | refine o1_cv_h rfl rfl h rfl (by omega) (by omega) fz | refine o1_cv_l rfl rfl h rfl (by omega) (by omega) fz) ?_)
      all_goals (refine xp1 16 rfl rfl rfl rfl (by first | refine o1_string (xs := d) rfl rfl (rx_row (ad := a9) (c := c9)) fz | refine o1_string (xs := l.drop 44) rfl rfl (fun _ => Rs.up (h.cutl 44 (by omega))) fz | refine o1_string rfl (by rfl) rx_row fz | refine o1_string rfl (by rfl) (rx_any (by assumption)) fz) ?_)
      all_goals refine op_nil ?_
      all_goals refine re_nil ?_
      all_goals first | (refine ch_run (E' := [(10, _), (12, _)]) rfl (gd_r0 rfl) rfl (cov_cons rfl rfl (cov_cons rfl rfl cov_nil)) ?_; (first | (refine o1_call (fun _ => r1_Tag _ _ _ _ _ key _ d hk.up (Rs.up (h.cutv 0 44 (by omega) (by omega))) (by omega) (by simp; omega) hd') rfl (fun ⟨a9, c9⟩ _ => ?_); dsimp only)))
      all_goals refine wk_end ?_
      all_goals (refine xp1 13 rfl rfl rfl rfl (by first | refine o1_string (xs := d) rfl rfl (rx_row (ad := a9) (c := c9)) fz | refine o1_string (xs := l.drop 44) rfl rfl (fun _ => Rs.up (h.cutl 44 (by omega))) fz | refine o1_string rfl (by rfl) rx_row fz | refine o1_string rfl (by rfl) (rx_any (by assumption)) fz) ?_)
      all_goals (refine xp2 14 17 rfl rfl rfl rfl rfl (by first | refine o1_strneq_r (r := true) rfl rfl (by simp [ht]) fz | refine o1_strneq_d rfl rfl fz) ?_)
      all_goals refine op_nil ?_
      all_goals (refine xq1 1 rfl rfl rfl rfl rfl (by refine o1_move rfl fz) ?_)
      all_goals (refine xq1 15 rfl rfl rfl rfl rfl (by first | refine o1_cv_h rfl rfl h rfl (by omega) (by omega) fz | refine o1_cv_l rfl rfl h rfl (by omega) (by omega) fz) ?_)
      all_goals (refine xq1 16 rfl rfl rfl rfl rfl (by first | refine o1_string (xs := d) rfl rfl (rx_row (ad := a9) (c := c9)) fz | refine o1_string (xs := l.drop 44) rfl rfl (fun _ => Rs.up (h.cutl 44 (by omega))) fz | refine o1_string rfl (by rfl) rx_row fz | refine o1_string rfl (by rfl) (rx_any (by assumption)) fz) ?_)
      all_goals refine re_nil ?_
      all_goals dsimp only [List.cons_append, List.nil_append]
      repeat' (first | refine ls_of rfl ?_ | refine ls_of_no ?_ | refine ls_guard_yes rfl rfl ?_ | refine ls_guard_no rfl rfl rfl rfl ?_ | refine ls_guard_un rfl rfl rfl ?_ | refine o1_move rfl ?_ | refine o1_assign rfl ?_ | refine st_seq ?_ | refine st_region ?_ | refine st_block ?_ | refine st_skip ?_ | refine st_ret ?_ | refine st_exit ?_ | refine st_cond_t rfl ?_ | refine st_cond_f rfl ?_ | refine st_cond rfl (fun _ => ?_) (fun _ => ?_) | refine ls_nil ?_ | refine nx_seq ?_ | refine nx_blk ?_ | refine nx_fn ?_ | refine nx_rounds ?_ | refine xt_seq ?_ | refine xt_here ?_ | refine xt_on rfl ?_ | refine xt_rounds ?_ | refine xt_cut ?_ | refine rt_seq ?_ | refine rt_blk ?_ | refine rt_rounds ?_ | refine rt_cut ?_ | refine o1_extract rfl rfl ?_ | refine o1_len rfl ?_ | refine o1_neq_t rfl rfl (by omega) ?_ | refine o1_neq_f rfl rfl (by omega) ?_ | refine o1_neq rfl rfl (fun _ => ?_) (fun _ => ?_) | refine o1_string rfl (by rfl) rx_row ?_ | refine o1_string rfl (by rfl) (rx_any (by assumption)) ?_ | refine o1_buildx rfl (by simp only [buildL, putL, List.set_cons_zero, List.set_cons_succ, List.getElem?_cons_zero, List.getElem?_cons_succ, Option.getD_some, Value.cells, Nat.zero_add, Nat.reduceAdd]; rfl) (fun _ => by kernel_rfl) ?_ | refine o1_alloc rfl (fun _ => ?_) | refine ox_store_agg rfl rfl (by rfl) (by simp) (by simp [Value.oneCell']) (by simp only [putL, List.set_cons_zero, List.set_cons_succ, Nat.zero_add, Nat.reduceAdd]; rfl) ?_)
      refine rt_ent (ent_nil 5 B) ?_
      refine rt_cell_tmp (none, 0) rfl rfl rfl rfl rfl trivial ?_
      (try dsimp only [List.cons_append, List.nil_append, List.singleton_append, List.append_nil]); (repeat (first | exact Ent.nil | exact Ent.refl _ | (apply Ent.cons; (repeat (first | exact Sel.here | apply Sel.there)))))
  · rw [if_neg hl] at hp
    subst hp
    repeat' (first | refine ls_of rfl ?_ | refine ls_of_no ?_ | refine ls_guard_yes rfl rfl ?_ | refine ls_guard_no rfl rfl rfl rfl ?_ | refine ls_guard_un rfl rfl rfl ?_ | refine o1_move rfl ?_ | refine o1_assign rfl ?_ | refine st_seq ?_ | refine st_region ?_ | refine st_block ?_ | refine st_skip ?_ | refine st_ret ?_ | refine st_exit ?_ | refine st_cond_t rfl ?_ | refine st_cond_f rfl ?_ | refine st_cond rfl (fun _ => ?_) (fun _ => ?_) | refine ls_nil ?_ | refine nx_seq ?_ | refine nx_blk ?_ | refine nx_fn ?_ | refine nx_rounds ?_ | refine xt_seq ?_ | refine xt_here ?_ | refine xt_on rfl ?_ | refine xt_rounds ?_ | refine xt_cut ?_ | refine rt_seq ?_ | refine rt_blk ?_ | refine rt_rounds ?_ | refine rt_cut ?_ | refine o1_extract rfl rfl ?_ | refine o1_len rfl ?_ | refine o1_neq_t rfl rfl (by omega) ?_ | refine o1_neq_f rfl rfl (by omega) ?_ | refine o1_neq rfl rfl (fun _ => ?_) (fun _ => ?_) | refine o1_string rfl (by rfl) rx_row ?_ | refine o1_string rfl (by rfl) (rx_any (by assumption)) ?_ | refine o1_buildx rfl (by simp only [buildL, putL, List.set_cons_zero, List.set_cons_succ, List.getElem?_cons_zero, List.getElem?_cons_succ, Option.getD_some, Value.cells, Nat.zero_add, Nat.reduceAdd]; rfl) (fun _ => by kernel_rfl) ?_ | refine o1_alloc rfl (fun _ => ?_) | refine ox_store_agg rfl rfl (by rfl) (by simp) (by simp [Value.oneCell']) (by simp only [putL, List.set_cons_zero, List.set_cons_succ, Nat.zero_add, Nat.reduceAdd]; rfl) ?_)
    refine rt_ent (ent_nil 5 B) ?_
    refine rt_cell_tmp (none, 0) rfl rfl rfl rfl rfl trivial ?_
    (try dsimp only [List.cons_append, List.nil_append, List.singleton_append, List.append_nil]); (repeat (first | exact Ent.nil | exact Ent.refl _ | (apply Ent.cons; (repeat (first | exact Sel.here | apply Sel.there)))))
def good14 (b : Nat) : ManD := ⟨1#32, 2#32, 3, 2, 1, ⟨some ⟨b, 0, none⟩, 32, List.replicate 32 0#8⟩⟩
theorem l14_good (H : List Hl) : Spec Try.prog 49 [] H (fun _ : Nat => True) (fun b => (good14 b).V) (fun b => .box b 5 ((List.replicate 32 0#8).map B) :: H) := by
  refine spec_pure (res := fun b : Nat => [.box b 5 ((List.replicate 32 0#8).map B)]) H Try.func49 rfl Try.ntmps49 (by kernel_rfl) rfl (fun W => ?_)
  repeat' (first | refine ls_of rfl ?_ | refine ls_of_no ?_ | refine ls_guard_yes rfl rfl ?_ | refine ls_guard_no rfl rfl rfl rfl ?_ | refine ls_guard_un rfl rfl rfl ?_ | refine o1_move rfl ?_ | refine o1_assign rfl ?_ | refine st_seq ?_ | refine st_region ?_ | refine st_block ?_ | refine st_skip ?_ | refine st_ret ?_ | refine st_exit ?_ | refine st_cond_t rfl ?_ | refine st_cond_f rfl ?_ | refine st_cond rfl (fun _ => ?_) (fun _ => ?_) | refine ls_nil ?_ | refine nx_seq ?_ | refine nx_blk ?_ | refine nx_fn ?_ | refine nx_rounds ?_ | refine xt_seq ?_ | refine xt_here ?_ | refine xt_on rfl ?_ | refine xt_rounds ?_ | refine xt_cut ?_ | refine rt_seq ?_ | refine rt_blk ?_ | refine rt_rounds ?_ | refine rt_cut ?_ | refine o1_maker (enc := B) 0#8 32 rfl rfl rfl rfl rfl (by decide) (by decide) (fun _ => ?_) | refine o1_maken (enc := B) 0#8 rfl rfl rfl rfl (by omega) (by omega) (by omega) (fun _ => ?_) | refine o1_buildx rfl (by simp only [buildL, putL, List.set_cons_zero, List.set_cons_succ, List.getElem?_cons_zero, List.getElem?_cons_succ, Option.getD_some, Value.cells, Nat.zero_add, Nat.reduceAdd]; rfl) (fun _ => by kernel_rfl) ?_ | refine o1_alloc rfl (fun _ => ?_) | refine ox_store_agg rfl rfl (by rfl) (by simp) (by simp [Value.oneCell']) (by simp only [putL, List.set_cons_zero, List.set_cons_succ, Nat.zero_add, Nat.reduceAdd]; rfl) ?_)
  rename_i b
  refine rt_cell b rfl rfl rfl rfl trivial ?_
  (try dsimp only [List.cons_append, List.nil_append, List.singleton_append, List.append_nil]); (repeat (first | exact Ent.nil | exact Ent.refl _ | (apply Ent.cons; (repeat (first | exact Sel.here | apply Sel.there)))))
abbrev kK : List (BitVec 8) := [107#8]
abbrev kL : List (BitVec 8) := [108#8]
theorem tags_differ : tag kL (good14 0).by ≠ tag kK (good14 0).by := by decide +kernel
theorem man_mayM {m : ManD} (h : m.may = true) : 1 ≤ m.n ∧ m.n ≤ 512 ∧ m.h.l.length = 32 := by
  simp only [ManD.may, mayP, Bool.and_eq_true, decide_eq_true_eq] at h
  refine ⟨?_, ?_, h.2⟩
  · have h1 := h.1.1
    unfold count at h1
    split at h1
    · omega
    · omega
  · have h1 := h.1.1
    unfold count at h1
    split at h1
    · omega
    · omega
theorem may_nums {m : ManD} (h : m.may = true) : 1 ≤ m.n ∧ m.n ≤ 512 ∧ 1 ≤ m.z ∧ m.z ≤ 16 ∧ 0 ≤ m.p ∧ m.p ≤ 16 ∧ m.h.l.length = 32 := by
  have hn := man_mayM h
  simp only [ManD.may, mayP, Bool.and_eq_true, decide_eq_true_eq] at h
  omega
theorem manO_byM {m : ManD} (h : m.may = true) : m.by.length = 44 ∧ manO m.by (none, 0) = ⟨m.s, m.v, m.n, m.z, m.p, ⟨none, 0, m.h.l⟩⟩ := by
  obtain ⟨q1, q2, q3, q4, q5, q6, q7⟩ := may_nums h
  refine ⟨by rw [by_len, q7], ?_⟩
  have e : m.by = be4 m.s ++ (be4 m.v ++ (be2 m.n ++ ([BitVec.ofInt 8 m.z, BitVec.ofInt 8 m.p] ++ m.h.l))) := by simp [ManD.by, mid4, be2]
  have t4 : (m.by.take 4).drop 0 = be4 m.s := by rw [e]; rfl
  have t8 : (m.by.take 8).drop 4 = be4 m.v := by rw [e]; rfl
  have t10 : (m.by.take 10).drop 8 = be2 m.n := by rw [e]; rfl
  have g10 : m.by.getD 10 0#8 = BitVec.ofInt 8 m.z := by rw [e]; rfl
  have g11 : m.by.getD 11 0#8 = BitVec.ofInt 8 m.p := by rw [e]; rfl
  have d12 : m.by.drop 12 = m.h.l := by rw [e]; rfl
  rw [manO, t4, t8, t10, g10, g11, d12, num32_be4, num32_be4, num32_be2 m.n (by omega) (by omega), byte_N m.z (by omega) (by omega), byte_N m.p (by omega) (by omega)]
/-- What is written and tagged is read as it was. -/
theorem prM_by {m : ManD} {key d q : List (BitVec 8)} (h : m.may = true) (hq : m.by = q) (hd : tag key q = d) : prM key (q ++ d) = (manO q (none, 0), 0) ∧ (manO q (none, 0)).may = true ∧ rdM q = (manO q (none, 0), 0) := by
  have hql : q.length = 44 := by rw [← hq, by_len, may_len h]
  have hdl : d.length = 32 := by rw [← hd]; exact tag_len _ _
  have hmm : (manO q (none, 0)).may = true := by
    rw [← hq, (manO_byM h).2]; exact h
  have hrd : rdM q = (manO q (none, 0), 0) := by rw [rdM, if_pos hql, if_pos hmm]
  have e1 : (q ++ d).take 44 = q := by rw [← hql]; simp
  have e2 : (q ++ d).drop 44 = d := by rw [← hql]; simp
  refine ⟨?_, hmm, hrd⟩
  rw [prM, if_pos (by rw [List.length_append]; omega), e1, e2, if_pos hd, hrd]
end Go.Dp
