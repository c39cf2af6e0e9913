/-
  elim: Add, Solve, walked; a matrix that there isn't.
  Conditions: those that stand in each theorem.
-/
import Derived.Test.YtlmmnnhbnbakgaaDoorW2
import Derived.Test.YtlmmnnhbnbakgaaDoorS0
set_option linter.unusedVariables false
set_option linter.unusedSimpArgs false
namespace Go.Dp
open Go.RowKit Go.Proofs
def rtW3_0 : List Row := [⟨some 3, [], [], none⟩, ⟨some 4, [0], [0], none⟩, ⟨some 5, [1], [0, 1], none⟩, ⟨some 6, [2], [0, 1, 2], some (2, true)⟩, ⟨some 7, [3, 2, 2], [0, 1, 2, 3], some (2, true)⟩, ⟨some 8, [2], [0, 1, 2], some (2, true)⟩, ⟨some 9, [5, 2], [0, 1, 2, 5], some (2, true)⟩, ⟨some 10, [6, 2], [0, 1, 2, 5, 6], some (2, true)⟩, ⟨some 11, [7, 2], [0, 1, 2, 5, 6, 7], some (2, true)⟩, ⟨some 12, [4, 8, 2], [0, 1, 2, 3, 4, 5, 6, 7, 8], some (2, true)⟩, ⟨some 13, [2, 9], [0, 1, 2, 3, 4, 5, 6, 7, 8, 9], none⟩, ⟨some 2, [10, 4, 0, 1, 2, 3, 4, 5, 6, 7, 8, 9, 10], [0, 1, 2, 3, 4, 5, 6, 7, 8, 9, 10], none⟩]
theorem o1_load_hc {P : Program} {n : Nat} {H : List Hl} {e : Ev} {C : Value → List Hl → Prop} {ty T : TypeId} {x : Operand} [TOne P T] {a : Addr} {v : Value} (hx : opd e x = some (.pointer (some a))) (hc : Has H → Cl (stars H) a v) (h : C v H) : O1 P (.load T x) ty n e H C :=
  ⟨fun a w ho o h1 h2 K Q hK => (o1_load_h hx (hc ho.has) h).out a w ho o h1 h2 K Q hK⟩
/-- A row, cleared by another one where it has its first place. -/
def clrL (a : Nat) (x : LN) (o : Option LN) : Option LN := o.map (fun y => if at_ y.1 a then addL y x else y)
def addM (M : List (Option LN)) (a : Nat) (x : LN) : List (Option LN) := (M.map (clrL a x)).set a (some x)
theorem map_get {α β : Type} {f : α → β} {A B : List α} (h : A.map f = B.map f) {i : Nat} (h1 : i < A.length) (h2 : i < B.length) : f A[i] = f B[i] := by
  have := congrArg (·[i]?) h
  simpa [h1, h2] using this
theorem map_set_same {α β : Type} {f : α → β} {A : List α} {B : List β} {i : Nat} {y : α} (h : A.map f = B) (h1 : i < A.length) (hy : f y = f A[i]) : (A.set i y).map f = B := by
  subst h
  rw [List.map_set, hy]
  apply List.ext_getElem
  · simp
  · intro j h2 h3
    rw [List.getElem_set]
    split
    · rename_i e
      subst e
      simp
    · rfl
set_option maxHeartbeats 8000000 in
theorem elim_Add (H : List Hl) (bm n z : Nat) (ar : Option Addr) (cr k : Nat) (M : List (Option RD)) (v : VD) (ad0 : Option Addr) (m0 c0 : Nat) (dd : List (BitVec 8)) (ML : List (Option LN)) (x : LN) (a : Nat) (hk : MOk n z M) (hML : M.map vw = ML) (hv : RdV (stars H) v) (hvn : v.n = n) (hd : Rs (stars H) B ad0 c0 dd) (hm0 : m0 = dd.length) (hdl : dd.length = z) (hx : red ML (v.l, dd) = x) (hfa : firstV x.1 = a) (hfree : ML[a]? = some none) (hk1 : k ≤ 1000) (ht : TabF (stars H)) :
    Spec Tryd.prog 23 [.pointer (some ⟨bm, 0, none⟩), Pv v, .slice ad0 m0 c0] (mB bm n z ar cr k :: mR n ar cr M :: .any (mrows M) :: H) (fun M' : List (Option RD) => M'.map vw = addM ML a x ∧ MOk n z M') (fun _ => .bool true) (fun M' => mB bm n z ar cr (k + 1) :: mR n ar cr M' :: .any (mrows M') :: H) := by
  refine spec_fn (res := fun M' : List (Option RD) => [mB bm n z ar cr (k + 1), mR n ar cr M', .any (mrows M')]) [mB bm n z ar cr k, mR n ar cr M, .any (mrows M)] H Tryd.func23 rfl Tryd.ntmps23 (by kernel_rfl) rfl (fun W => ?_)
  dsimp only [List.cons_append, List.nil_append]
  obtain ⟨l1, l2, l3, l4, l5, l6⟩ := hk
  have hk : MOk n z M := ⟨l1, l2, l3, l4, l5, l6⟩
  have hLk := hk.vw
  have hvl : v.l.length = n := by rw [hv.ok.len, hvn]
  rw [hML] at hLk
  obtain ⟨hxl, hxd⟩ : x.1.length = n ∧ x.2.length = z := by rw [← hx]; exact redT_len hLk hvl hdl _
  have hax : a < x.1.length := by
    unfold firstV at hfa
    split at hfa <;> omega
  have han : a < n := by omega
  have haM : a < M.length := by omega
  have hMLl : ML.length = n := hLk.len
  have hMa : M[a] = none := by
    have h1 := hfree
    rw [← hML, List.getElem?_map, List.getElem?_eq_getElem haM] at h1
    cases hq : M[a] with
    | none => rfl
    | some q => rw [hq] at h1; cases h1
  have hpadf := padD_full hdl
  obtain ⟨xl, xd⟩ := x
  dsimp only at hxl hxd hfa hax
  repeat' (first | refine ls_of rfl ?_ | refine ls_of_no ?_ | refine ls_guard_yes rfl rfl ?_ | refine ls_guard_no rfl rfl rfl rfl ?_ | refine ls_guard_un rfl rfl rfl ?_ | refine o1_move rfl ?_ | refine o1_assign rfl ?_ | refine st_seq ?_ | refine st_region ?_ | refine st_block ?_ | refine st_skip ?_ | refine st_ret ?_ | refine st_exit ?_ | refine st_cond_t rfl ?_ | refine st_cond_f rfl ?_ | refine st_cond rfl (fun _ => ?_) (fun _ => ?_) | refine ls_nil ?_ | refine nx_seq ?_ | refine nx_blk ?_ | refine nx_fn ?_ | refine nx_rounds ?_ | refine xt_seq ?_ | refine xt_here ?_ | refine xt_on rfl ?_ | refine xt_rounds ?_ | refine xt_cut ?_ | refine rt_seq ?_ | refine rt_blk ?_ | refine rt_rounds ?_ | refine rt_cut ?_ | refine o1_peql rfl rfl ?_ | refine o1_neq_f rfl rfl (by omega) ?_ | (refine o1_call (fun hh => elim_reduced _ bm n z ar cr k M v ad0 m0 c0 dd (RdM.own hk hh) hv.up hvn hd.up hm0 (by omega)) rfl (fun ⟨b7, ⟨vb, vn, va, vc, vl⟩, ad7, z7, cd7, d7⟩ hr => ?_); dsimp only at hr ⊢; obtain ⟨rfl, rfl, hr3⟩ := hr; rw [hML, hpadf, hx] at hr3; obtain ⟨rfl, rfl⟩ := Prod.mk.inj hr3) | refine o1_call (fun hh => (vec_First _ ⟨vb, vn, va, vc, vl⟩ (RdV.own hxl l3 hh) ht.up).vv (b := I a) (by rw [hfa])) rfl (fun _ _ => ?_) | refine o1_pick_t rfl rfl ?_ | refine o1_pick_f rfl rfl ?_ | refine o1_fieldAddr rfl ?_ | refine ox_load rfl (by rfl) ?_ | refine ox_load_enc rfl (by first | omega | (simp; omega)) ?_ | refine ox_load_any rfl (by assumption) ?_ | refine o1_len rfl ?_ | refine o1_add rfl rfl (by omega) ?_ | refine o1_lss_t rfl rfl (by omega) ?_ | refine o1_lss_f rfl rfl (by omega) ?_ | refine o1_lss rfl rfl (fun _ => ?_) (fun _ => ?_) | refine o1_neq_t rfl rfl (by omega) ?_ | refine o1_neq_f rfl rfl (by omega) ?_ | refine o1_neq rfl rfl (fun _ => ?_) (fun _ => ?_) | refine o1_slice_nil rfl ?_ | refine ox_store_enc B rfl rfl (by first | omega | (simp; done) | (simp; omega)) rfl ?_ | refine ox_stores rfl rfl (by first | omega | (simp; done) | (simp; omega)) rfl (by first | (simp only [List.set_cons_zero, List.set_cons_succ, Nat.zero_add, Nat.reduceAdd]; rfl) | rfl) ?_ | refine o1_nilCheck rfl ?_)
  refine st_loop (S := Nat × List (Option RD)) (fun q => [(0, .pointer (some ⟨bm, 0, none⟩)), (7, .pointer (some ⟨b7, 0, none⟩)), (8, I a), (44, .slice ar vn cr), (45, I vn), (46, I q.1)])
    (fun q => [mB bm vn z7 ar cr k, mR vn ar cr M, .any (mrows q.2), rX b7 (.pointer (some ⟨vb, 0, none⟩)) ad7 z7 cd7, vB vb vn va vc, vR vn va vc vl, rD ad7 z7 cd7 d7, .any (stars H)])
    (fun q => q.1 ≤ vn ∧ q.2.map PO = M.map PO ∧ q.2.map vw = partL (ML.map (clrL a (vl, d7))) ML q.1 ∧ MOk vn z7 q.2) (fun q => vn - q.1) (0, M) ⟨Nat.zero_le _, rfl, by rw [partL_zero, hML], hk⟩
    (cov_cons rfl rfl (cov_cons rfl rfl (cov_cons rfl rfl (cov_cons rfl rfl (cov_cons rfl rfl (cov_cons rfl rfl cov_nil)))))) (by (try dsimp only [List.cons_append, List.nil_append, List.singleton_append, List.append_nil]); (repeat (first | exact Ent.nil | exact Ent.refl _ | (apply Ent.cons; (repeat (first | exact Sel.here | apply Sel.there)))))) ?_
  rintro ⟨j, Q⟩ ⟨hj, hQp, hQv, hQk⟩
  dsimp only at hj hQp hQv hQk ⊢
  have hQl := hQk.len
  have hcl : (ML.map (clrL a (vl, d7))).length = ML.length := by rw [List.length_map]
  by_cases hjt : j < vn
  · have hjM : j < M.length := by omega
    have hjQ : j < Q.length := by omega
    have hjL : j < ML.length := by omega
    have hPO : PO M[j] = PO Q[j] := (map_get hQp hjQ hjM).symm
    have hvj : vw Q[j] = ML[j] := by
      have h1 := congrArg (·[j]?) hQv
      simp only [List.getElem?_map, List.getElem?_eq_getElem hjQ, Option.map_some] at h1
      rw [List.getElem?_eq_getElem (by rw [partL_len hcl]; exact hjL), partL_at hcl (Nat.le_refl j)] at h1
      exact Option.some.inj h1
    have hnext : partL (ML.map (clrL a (vl, d7))) ML (j + 1) = (partL (ML.map (clrL a (vl, d7))) ML j).set j (clrL a (vl, d7) (vw Q[j])) := by
      rw [← partL_succ hcl (by omega), hvj]
      simp
    cases hq0 : Q[j] with
    | none =>
      rw [hq0] at hPO hnext hvj
      have hn2 : partL (ML.map (clrL a (vl, d7))) ML (j + 1) = Q.map vw := by
        rw [hnext, ← hQv]
        show (Q.map vw).set j none = _
        have e : (Q.map vw)[j]'(by simpa using hjQ) = none := by simp [hq0, vw]
        rw [← e, List.set_getElem_self]
      repeat' (first | refine ls_of rfl ?_ | refine ls_of_no ?_ | refine ls_guard_yes rfl rfl ?_ | refine ls_guard_no rfl rfl rfl rfl ?_ | refine ls_guard_un rfl rfl rfl ?_ | refine o1_move rfl ?_ | refine o1_assign rfl ?_ | refine st_seq ?_ | refine st_region ?_ | refine st_block ?_ | refine st_skip ?_ | refine st_ret ?_ | refine st_exit ?_ | refine st_cond_t rfl ?_ | refine st_cond_f rfl ?_ | refine st_cond rfl (fun _ => ?_) (fun _ => ?_) | refine ls_nil ?_ | refine nx_seq ?_ | refine nx_blk ?_ | refine nx_fn ?_ | refine nx_rounds ?_ | refine xt_seq ?_ | refine xt_here ?_ | refine xt_on rfl ?_ | refine xt_rounds ?_ | refine xt_cut ?_ | refine rt_seq ?_ | refine rt_blk ?_ | refine rt_rounds ?_ | refine rt_cut ?_ | refine o1_iah (enc := PO) (ad := ar) (c := cr) (xs := M) j rfl rfl rx_row l1.symm rfl hjM ?_ | (refine o1_load_iah (enc := PO) (ad := ar) (c := cr) (xs := M) j rfl rx_row hjM ?_; rw [hPO]) | refine o1_pneq rfl rfl ?_ | refine o1_pick_t rfl rfl ?_ | refine o1_pick_f rfl rfl ?_ | refine o1_fieldAddr rfl ?_ | refine ox_load rfl (by rfl) ?_ | refine ox_load_enc rfl (by first | omega | (simp; omega)) ?_ | refine ox_load_any rfl (by assumption) ?_ | refine o1_len rfl ?_ | refine o1_add rfl rfl (by omega) ?_ | refine o1_lss_t rfl rfl (by omega) ?_ | refine o1_lss_f rfl rfl (by omega) ?_ | refine o1_lss rfl rfl (fun _ => ?_) (fun _ => ?_) | refine o1_neq_t rfl rfl (by omega) ?_ | refine o1_neq_f rfl rfl (by omega) ?_ | refine o1_neq rfl rfl (fun _ => ?_) (fun _ => ?_) | refine o1_slice_nil rfl ?_ | refine ox_store_enc B rfl rfl (by first | omega | (simp; done) | (simp; omega)) rfl ?_ | refine ox_stores rfl rfl (by first | omega | (simp; done) | (simp; omega)) rfl (by first | (simp only [List.set_cons_zero, List.set_cons_succ, Nat.zero_add, Nat.reduceAdd]; rfl) | rfl) ?_ | refine o1_nilCheck rfl ?_)
      refine nx_again (j + 1, Q) ⟨?_, hQp, hn2.symm, hQk⟩ ?_ (cov_cons rfl rfl (cov_cons rfl rfl (cov_cons rfl rfl (cov_cons rfl rfl (cov_cons rfl rfl (cov_cons rfl rfl cov_nil)))))) ?_
      · show j + 1 ≤ vn; omega
      · show vn - (j + 1) < vn - j; omega
      (try dsimp only [List.cons_append, List.nil_append, List.singleton_append, List.append_nil]); (repeat (first | exact Ent.nil | exact Ent.refl _ | (apply Ent.cons; (repeat (first | exact Sel.here | apply Sel.there)))))
    | some q =>
      rw [hq0] at hPO hnext hvj
      have hqm : some q ∈ Q := hq0 ▸ List.getElem_mem hjQ
      obtain ⟨hq1, hq2, hq3⟩ := hQk.ok q hqm
      obtain ⟨qb, ⟨qvb, qvn, qva, qvc, ql⟩, qad, qz, qcd, qd⟩ := q
      dsimp only at hq2 hq3
      subst hq2 hq3
      have hqll : ql.length = qvn := hq1.v.len
      have hqdl : qd.length = qz := hq1.d
      cases hat : at_ ql a
      · have hn2 : partL (ML.map (clrL a (vl, d7))) ML (j + 1) = Q.map vw := by
          rw [hnext, ← hQv]
          have e : clrL a (vl, d7) (vw (some ⟨qb, ⟨qvb, qvn, qva, qvc, ql⟩, qad, qz, qcd, qd⟩)) = (Q.map vw)[j]'(by simpa using hjQ) := by
            simp only [List.getElem_map, hq0, vw, clrL, Option.map_some]
            rw [hat]
            rfl
          rw [e, List.set_getElem_self]
        repeat' (first | refine ls_of rfl ?_ | refine ls_of_no ?_ | refine ls_guard_yes rfl rfl ?_ | refine ls_guard_no rfl rfl rfl rfl ?_ | refine ls_guard_un rfl rfl rfl ?_ | refine o1_move rfl ?_ | refine o1_assign rfl ?_ | refine st_seq ?_ | refine st_region ?_ | refine st_block ?_ | refine st_skip ?_ | refine st_ret ?_ | refine st_exit ?_ | refine st_cond_t rfl ?_ | refine st_cond_f rfl ?_ | refine st_cond rfl (fun _ => ?_) (fun _ => ?_) | refine ls_nil ?_ | refine nx_seq ?_ | refine nx_blk ?_ | refine nx_fn ?_ | refine nx_rounds ?_ | refine xt_seq ?_ | refine xt_here ?_ | refine xt_on rfl ?_ | refine xt_rounds ?_ | refine xt_cut ?_ | refine rt_seq ?_ | refine rt_blk ?_ | refine rt_rounds ?_ | refine rt_cut ?_ | refine o1_iah (enc := PO) (ad := ar) (c := cr) (xs := M) j rfl rfl rx_row l1.symm rfl hjM ?_ | (refine o1_load_iah (enc := PO) (ad := ar) (c := cr) (xs := M) j rfl rx_row hjM ?_; rw [hPO]) | refine o1_pneq rfl rfl ?_ | refine o1_load_hc rfl (fun hh => (mrows_read (M := Q) hqm hq1 hh).p) ?_ | refine o1_call (fun hh => (vec_Has _ ⟨qvb, qvn, qva, qvc, ql⟩ a (mrows_read (M := Q) hqm hq1 hh).v).bv (b := false) (by rw [hasV_nat, hat])) rfl (fun _ _ => ?_) | refine o1_pick_t rfl rfl ?_ | refine o1_pick_f rfl rfl ?_ | refine o1_fieldAddr rfl ?_ | refine ox_load rfl (by rfl) ?_ | refine ox_load_enc rfl (by first | omega | (simp; omega)) ?_ | refine ox_load_any rfl (by assumption) ?_ | refine o1_len rfl ?_ | refine o1_add rfl rfl (by omega) ?_ | refine o1_lss_t rfl rfl (by omega) ?_ | refine o1_lss_f rfl rfl (by omega) ?_ | refine o1_lss rfl rfl (fun _ => ?_) (fun _ => ?_) | refine o1_neq_t rfl rfl (by omega) ?_ | refine o1_neq_f rfl rfl (by omega) ?_ | refine o1_neq rfl rfl (fun _ => ?_) (fun _ => ?_) | refine o1_slice_nil rfl ?_ | refine ox_store_enc B rfl rfl (by first | omega | (simp; done) | (simp; omega)) rfl ?_ | refine ox_stores rfl rfl (by first | omega | (simp; done) | (simp; omega)) rfl (by first | (simp only [List.set_cons_zero, List.set_cons_succ, Nat.zero_add, Nat.reduceAdd]; rfl) | rfl) ?_ | refine o1_nilCheck rfl ?_)
        refine nx_again (j + 1, Q) ⟨?_, hQp, hn2.symm, hQk⟩ ?_ (cov_cons rfl rfl (cov_cons rfl rfl (cov_cons rfl rfl (cov_cons rfl rfl (cov_cons rfl rfl (cov_cons rfl rfl cov_nil)))))) ?_
        · show j + 1 ≤ qvn; omega
        · show qvn - (j + 1) < qvn - j; omega
        (try dsimp only [List.cons_append, List.nil_append, List.singleton_append, List.append_nil]); (repeat (first | exact Ent.nil | exact Ent.refl _ | (apply Ent.cons; (repeat (first | exact Sel.here | apply Sel.there)))))
      · obtain ⟨q', hq'⟩ : ∃ q' : RD, q' = ⟨qb, ⟨qvb, qvn, qva, qvc, xorV ql vl⟩, qad, qz, qcd, xorL qd d7⟩ := ⟨_, rfl⟩
        have hn2 : partL (ML.map (clrL a (vl, d7))) ML (j + 1) = (Q.set j (some q')).map vw := by
          rw [hnext, List.map_set, ← hQv, hq']
          simp only [vw, clrL, Option.map_some]
          rw [hat]
          rfl
        have hPs : (Q.set j (some q')).map PO = M.map PO := map_set_same hQp hjQ (by rw [hq0, hq'])
        have hQk' : MOk qvn qz (Q.set j (some q')) := ⟨by rw [List.length_set]; exact hQl, l2, l3, l4, l5, fun r hr => by
          rcases List.mem_or_eq_of_mem_set hr with h | h
          · exact hQk.ok r h
          · injection h with h
            subst h
            rw [hq']
            exact ⟨⟨⟨by show (xorV ql vl).length = qvn; rw [xorV_len (by omega)]; exact hqll, l3⟩, by show (xorL qd d7).length = qz; rw [xorL_len _ _ (by omega)]; exact hqdl⟩, rfl, rfl⟩⟩
        repeat' (first | refine ls_of rfl ?_ | refine ls_of_no ?_ | refine ls_guard_yes rfl rfl ?_ | refine ls_guard_no rfl rfl rfl rfl ?_ | refine ls_guard_un rfl rfl rfl ?_ | refine o1_move rfl ?_ | refine o1_assign rfl ?_ | refine st_seq ?_ | refine st_region ?_ | refine st_block ?_ | refine st_skip ?_ | refine st_ret ?_ | refine st_exit ?_ | refine st_cond_t rfl ?_ | refine st_cond_f rfl ?_ | refine st_cond rfl (fun _ => ?_) (fun _ => ?_) | refine ls_nil ?_ | refine nx_seq ?_ | refine nx_blk ?_ | refine nx_fn ?_ | refine nx_rounds ?_ | refine xt_seq ?_ | refine xt_here ?_ | refine xt_on rfl ?_ | refine xt_rounds ?_ | refine xt_cut ?_ | refine rt_seq ?_ | refine rt_blk ?_ | refine rt_rounds ?_ | refine rt_cut ?_ | refine o1_iah (enc := PO) (ad := ar) (c := cr) (xs := M) j rfl rfl rx_row l1.symm rfl hjM ?_ | (refine o1_load_iah (enc := PO) (ad := ar) (c := cr) (xs := M) j rfl rx_row hjM ?_; rw [hPO]) | refine o1_pneq rfl rfl ?_ | refine o1_load_hc rfl (fun hh => (mrows_read (M := Q) hqm hq1 hh).p) ?_ | refine o1_call (fun hh => (vec_Has _ ⟨qvb, qvn, qva, qvc, ql⟩ a (mrows_read (M := Q) hqm hq1 hh).v).bv (b := true) (by rw [hasV_nat, hat])) rfl (fun _ _ => ?_) | refine o1_call_to (rX qb (.pointer (some ⟨qvb, 0, none⟩)) qad qz qcd :: vB qvb qvn qva qvc :: vR qvn qva qvc ql :: rD qad qz qcd qd :: [.any (mrows (Q.set j none)), mB bm qvn qz ar cr k, mR qvn ar cr M, rX b7 (.pointer (some ⟨vb, 0, none⟩)) ad7 qz cd7, vB vb qvn va vc, vR qvn va vc vl, rD ad7 qz cd7 d7, .any (stars H)]) (fun h hh => mrows_take (R := [mB bm qvn qz ar cr k, mR qvn ar cr M, rX b7 (.pointer (some ⟨vb, 0, none⟩)) ad7 qz cd7, vB vb qvn va vc, vR qvn va vc vl, rD ad7 qz cd7 d7, .any (stars H)]) hjQ hq0 h (Ent.out (by (try dsimp only [List.cons_append, List.nil_append, List.singleton_append, List.append_nil]); (repeat (first | exact Ent.nil | exact Ent.refl _ | (apply Ent.cons; (repeat (first | exact Sel.here | apply Sel.there)))))) h hh)) (fun hh => row_xor _ qb qvb qvn qva qvc ql qad qz qcd qd ⟨b7, ⟨vb, qvn, va, vc, vl⟩, ad7, qz, cd7, d7⟩ hqll l3 hqdl l5 (RdR.own hxl l3 hxd (has_tail (has_tail (has_tail (has_tail hh))))) rfl rfl) rfl (fun _ _ => ?_) | refine o1_pick_t rfl rfl ?_ | refine o1_pick_f rfl rfl ?_ | refine o1_fieldAddr rfl ?_ | refine ox_load rfl (by rfl) ?_ | refine ox_load_enc rfl (by first | omega | (simp; omega)) ?_ | refine ox_load_any rfl (by assumption) ?_ | refine o1_len rfl ?_ | refine o1_add rfl rfl (by omega) ?_ | refine o1_lss_t rfl rfl (by omega) ?_ | refine o1_lss_f rfl rfl (by omega) ?_ | refine o1_lss rfl rfl (fun _ => ?_) (fun _ => ?_) | refine o1_neq_t rfl rfl (by omega) ?_ | refine o1_neq_f rfl rfl (by omega) ?_ | refine o1_neq rfl rfl (fun _ => ?_) (fun _ => ?_) | refine o1_slice_nil rfl ?_ | refine ox_store_enc B rfl rfl (by first | omega | (simp; done) | (simp; omega)) rfl ?_ | refine ox_stores rfl rfl (by first | omega | (simp; done) | (simp; omega)) rfl (by first | (simp only [List.set_cons_zero, List.set_cons_succ, Nat.zero_add, Nat.reduceAdd]; rfl) | rfl) ?_ | refine o1_nilCheck rfl ?_)
        have hsn : (Q.set j none).set j (some q') = Q.set j (some q') := List.set_set ..
        have hput := mrows_put (M := Q.set j none) (r := q') (i := j) (R := [mB bm qvn qz ar cr k, mR qvn ar cr M, rX b7 (.pointer (some ⟨vb, 0, none⟩)) ad7 qz cd7, vB vb qvn va vc, vR qvn va vc vl, rD ad7 qz cd7 d7, .any (stars H)]) (by rw [List.length_set]; exact hjQ) (by simp)
        rw [hsn] at hput
        refine nx_ent (H2 := .any (mrows (Q.set j (some q'))) :: [mB bm qvn qz ar cr k, mR qvn ar cr M, rX b7 (.pointer (some ⟨vb, 0, none⟩)) ad7 qz cd7, vB vb qvn va vc, vR qvn va vc vl, rD ad7 qz cd7 d7, .any (stars H)]) (fun h hh => hput h (by rw [hq']; exact Ent.out (by show Ent _ (rX qb (.pointer (some ⟨qvb, 0, none⟩)) qad qz qcd :: vB qvb qvn qva qvc :: vR qvn qva qvc (xorV ql vl) :: rD qad qz qcd (xorL qd d7) :: [.any (mrows (Q.set j none)), mB bm qvn qz ar cr k, mR qvn ar cr M, rX b7 (.pointer (some ⟨vb, 0, none⟩)) ad7 qz cd7, vB vb qvn va vc, vR qvn va vc vl, rD ad7 qz cd7 d7, .any (stars H)]); (try dsimp only [List.cons_append, List.nil_append, List.singleton_append, List.append_nil]); (repeat (first | exact Ent.nil | exact Ent.refl _ | (apply Ent.cons; (repeat (first | exact Sel.here | apply Sel.there)))))) h hh)) ?_
        refine nx_again (j + 1, Q.set j (some q')) ⟨?_, hPs, hn2.symm, hQk'⟩ ?_ (cov_cons rfl rfl (cov_cons rfl rfl (cov_cons rfl rfl (cov_cons rfl rfl (cov_cons rfl rfl (cov_cons rfl rfl cov_nil)))))) ?_
        · show j + 1 ≤ qvn; omega
        · show qvn - (j + 1) < qvn - j; omega
        (try dsimp only [List.cons_append, List.nil_append, List.singleton_append, List.append_nil]); (repeat (first | exact Ent.nil | exact Ent.refl _ | (apply Ent.cons; (repeat (first | exact Sel.here | apply Sel.there)))))
  · obtain rfl : j = vn := by omega
    have haQ : a < Q.length := by omega
    rw [partL_full hcl (by omega)] at hQv
    obtain ⟨r, hr⟩ : ∃ r : RD, r = ⟨b7, ⟨vb, j, va, vc, vl⟩, ad7, z7, cd7, d7⟩ := ⟨_, rfl⟩
    have hQa : Q[a] = none := by
      have h1 := map_get hQp haQ haM
      rw [hMa] at h1
      cases hq : Q[a] with
      | none => rfl
      | some q => rw [hq] at h1; cases h1
    have hPs : (M.set a (some r)).map PO = (Q.set a (some r)).map PO := by rw [List.map_set, List.map_set, hQp]
    have hQk' : MOk j z7 (Q.set a (some r)) := ⟨by rw [List.length_set]; exact hQl, l2, l3, l4, l5, fun r0 hr0 => by
      rcases List.mem_or_eq_of_mem_set hr0 with h | h
      · exact hQk.ok r0 h
      · injection h with h
        subst h
        rw [hr]
        exact ⟨⟨⟨hxl, l3⟩, hxd⟩, rfl, rfl⟩⟩
    repeat' (first | refine ls_of rfl ?_ | refine ls_of_no ?_ | refine ls_guard_yes rfl rfl ?_ | refine ls_guard_no rfl rfl rfl rfl ?_ | refine ls_guard_un rfl rfl rfl ?_ | refine o1_move rfl ?_ | refine o1_assign rfl ?_ | refine st_seq ?_ | refine st_region ?_ | refine st_block ?_ | refine st_skip ?_ | refine st_ret ?_ | refine st_exit ?_ | refine st_cond_t rfl ?_ | refine st_cond_f rfl ?_ | refine st_cond rfl (fun _ => ?_) (fun _ => ?_) | refine ls_nil ?_ | refine nx_seq ?_ | refine nx_blk ?_ | refine nx_fn ?_ | refine nx_rounds ?_ | refine xt_seq ?_ | refine xt_here ?_ | refine xt_on rfl ?_ | refine xt_rounds ?_ | refine xt_cut ?_ | refine rt_seq ?_ | refine rt_blk ?_ | refine rt_rounds ?_ | refine rt_cut ?_ | refine o1_iah (enc := PO) (ad := ar) (c := cr) (xs := M) a rfl rfl rx_row l1.symm rfl haM ?_ | (refine ox_store_rowenc (ad := ar) (c := cr) (v := some r) PO a rfl (by rw [hr]; rfl) han rfl ?_; rw [hPs]) | refine o1_call_box (b := bm) (fun _ => at_Add64 _ bm j z7 ar cr k hk1) rfl (fun _ _ => ?_) | refine o1_pick_t rfl rfl ?_ | refine o1_pick_f rfl rfl ?_ | refine o1_fieldAddr rfl ?_ | refine ox_load rfl (by rfl) ?_ | refine ox_load_enc rfl (by first | omega | (simp; omega)) ?_ | refine ox_load_any rfl (by assumption) ?_ | refine o1_len rfl ?_ | refine o1_add rfl rfl (by omega) ?_ | refine o1_lss_t rfl rfl (by omega) ?_ | refine o1_lss_f rfl rfl (by omega) ?_ | refine o1_lss rfl rfl (fun _ => ?_) (fun _ => ?_) | refine o1_neq_t rfl rfl (by omega) ?_ | refine o1_neq_f rfl rfl (by omega) ?_ | refine o1_neq rfl rfl (fun _ => ?_) (fun _ => ?_) | refine o1_slice_nil rfl ?_ | refine ox_store_enc B rfl rfl (by first | omega | (simp; done) | (simp; omega)) rfl ?_ | refine ox_stores rfl rfl (by first | omega | (simp; done) | (simp; omega)) rfl (by first | (simp only [List.set_cons_zero, List.set_cons_succ, Nat.zero_add, Nat.reduceAdd]; rfl) | rfl) ?_ | refine o1_nilCheck rfl ?_)
    have hput := mrows_put (M := Q) (r := r) (i := a) (R := [mB bm j z7 ar cr (k + 1), .row 98 1 (.slice ar j cr) j ((Q.set a (some r)).map PO), .any (stars H)]) haQ hQa
    refine rt_ent (H2 := .any (mrows (Q.set a (some r))) :: [mB bm j z7 ar cr (k + 1), .row 98 1 (.slice ar j cr) j ((Q.set a (some r)).map PO), .any (stars H)]) (fun h hh => hput h (by rw [hr]; exact Ent.out (by show Ent _ (rX b7 (.pointer (some ⟨vb, 0, none⟩)) ad7 z7 cd7 :: vB vb j va vc :: vR j va vc vl :: rD ad7 z7 cd7 d7 :: [.any (mrows Q), mB bm j z7 ar cr (k + 1), .row 98 1 (.slice ar j cr) j ((Q.set a (some ⟨b7, ⟨vb, j, va, vc, vl⟩, ad7, z7, cd7, d7⟩)).map PO), .any (stars H)]); rw [← hr]; (try dsimp only [List.cons_append, List.nil_append, List.singleton_append, List.append_nil]); (repeat (first | exact Ent.nil | exact Ent.refl _ | (apply Ent.cons; (repeat (first | exact Sel.here | apply Sel.there)))))) h hh)) ?_
    refine rt_tmp (Q.set a (some r)) rfl rfl rfl ⟨?_, hQk'⟩ ?_
    · rw [List.map_set, hQv, addM, hr]
      rfl
    (try dsimp only [List.cons_append, List.nil_append, List.singleton_append, List.append_nil]); (repeat (first | exact Ent.nil | exact Ent.refl _ | (apply Ent.cons; (repeat (first | exact Sel.here | apply Sel.there)))))
set_option maxHeartbeats 2000000 in
theorem elim_Add_old (H : List Hl) (bm n z : Nat) (ar : Option Addr) (cr k : Nat) (M : List (Option RD)) (v : VD) (ad0 : Option Addr) (m0 c0 : Nat) (dd : List (BitVec 8)) (ML : List (Option LN)) (x : LN) (hM : RdM (stars H) bm n z ar cr k M) (hML : M.map vw = ML) (hv : RdV (stars H) v) (hvn : v.n = n) (hd : Rs (stars H) B ad0 c0 dd) (hm0 : m0 = dd.length) (hdl : dd.length = z) (hx : red ML (v.l, dd) = x) (hfa : firstV x.1 = -1) (ht : TabF (stars H)) :
    Spec Tryd.prog 23 [.pointer (some ⟨bm, 0, none⟩), Pv v, .slice ad0 m0 c0] H (fun _ : Unit => True) (fun _ => .bool false) (fun _ => H) := by
  refine spec_pure (res := fun _ => []) H Tryd.func23 rfl Tryd.ntmps23 (by kernel_rfl) rfl (fun W => ?_)
  have hLk := hM.ok.vw
  have hvl : v.l.length = n := by rw [hv.ok.len, hvn]
  rw [hML] at hLk
  obtain ⟨hxl, hxd⟩ : x.1.length = n ∧ x.2.length = z := by rw [← hx]; exact redT_len hLk hvl hdl _
  have hpadf := padD_full hdl
  have l3 := hM.ok.n2
  have m2 := hM.fz
  obtain ⟨xl, xd⟩ := x
  dsimp only at hxl hxd hfa
  repeat' (first | refine ls_of rfl ?_ | refine ls_of_no ?_ | refine ls_guard_yes rfl rfl ?_ | refine ls_guard_no rfl rfl rfl rfl ?_ | refine ls_guard_un rfl rfl rfl ?_ | refine o1_move rfl ?_ | refine o1_assign rfl ?_ | refine st_seq ?_ | refine st_region ?_ | refine st_block ?_ | refine st_skip ?_ | refine st_ret ?_ | refine st_exit ?_ | refine st_cond_t rfl ?_ | refine st_cond_f rfl ?_ | refine st_cond rfl (fun _ => ?_) (fun _ => ?_) | refine ls_nil ?_ | refine nx_seq ?_ | refine nx_blk ?_ | refine nx_fn ?_ | refine nx_rounds ?_ | refine xt_seq ?_ | refine xt_here ?_ | refine xt_on rfl ?_ | refine xt_rounds ?_ | refine xt_cut ?_ | refine rt_seq ?_ | refine rt_blk ?_ | refine rt_rounds ?_ | refine rt_cut ?_ | refine o1_peql rfl rfl ?_ | refine ox_load_any rfl m2 ?_ | refine o1_neq_f rfl rfl (by omega) ?_ | (refine o1_call (fun _ => elim_reduced _ bm n z ar cr k M v ad0 m0 c0 dd hM.up hv.up hvn hd.up hm0 (by omega)) rfl (fun ⟨b7, ⟨vb, vn, va, vc, vl⟩, ad7, z7, cd7, d7⟩ hr => ?_); dsimp only at hr ⊢; obtain ⟨rfl, rfl, hr3⟩ := hr; rw [hML, hpadf, hx] at hr3; obtain ⟨rfl, rfl⟩ := Prod.mk.inj hr3) | refine o1_call (fun hh => (vec_First _ ⟨vb, vn, va, vc, vl⟩ (RdV.own hxl l3 hh) ht.up).vv (b := I (-1)) (by rw [hfa])) rfl (fun _ _ => ?_) | refine o1_pick_t rfl rfl ?_ | refine o1_pick_f rfl rfl ?_ | refine o1_fieldAddr rfl ?_ | refine ox_load rfl (by rfl) ?_ | refine ox_load_enc rfl (by first | omega | (simp; omega)) ?_ | refine ox_load_any rfl (by assumption) ?_ | refine o1_len rfl ?_ | refine o1_add rfl rfl (by omega) ?_ | refine o1_lss_t rfl rfl (by omega) ?_ | refine o1_lss_f rfl rfl (by omega) ?_ | refine o1_lss rfl rfl (fun _ => ?_) (fun _ => ?_) | refine o1_neq_t rfl rfl (by omega) ?_ | refine o1_neq_f rfl rfl (by omega) ?_ | refine o1_neq rfl rfl (fun _ => ?_) (fun _ => ?_) | refine o1_slice_nil rfl ?_ | refine ox_store_enc B rfl rfl (by first | omega | (simp; done) | (simp; omega)) rfl ?_ | refine ox_stores rfl rfl (by first | omega | (simp; done) | (simp; omega)) rfl (by first | (simp only [List.set_cons_zero, List.set_cons_succ, Nat.zero_add, Nat.reduceAdd]; rfl) | rfl) ?_ | refine o1_nilCheck rfl ?_)
  refine rt_tmp () rfl rfl rfl trivial ?_
  (try dsimp only [List.cons_append, List.nil_append, List.singleton_append, List.append_nil]); (repeat (first | exact Ent.nil | exact Ent.refl _ | (apply Ent.cons; (repeat (first | exact Sel.here | apply Sel.there)))))
theorem elim_Add_nil (H : List Hl) (p ad : Option Addr) (m c : Nat) :
    Spec Tryd.prog 23 [.pointer none, .pointer p, .slice ad m c] H (fun _ : Unit => True) (fun _ => .bool false) (fun _ => H) := by
  refine spec_pure (res := fun _ => []) H Tryd.func23 rfl Tryd.ntmps23 (by kernel_rfl) rfl (fun W => ?_)
  repeat' (first | refine ls_of rfl ?_ | refine ls_of_no ?_ | refine ls_guard_yes rfl rfl ?_ | refine ls_guard_no rfl rfl rfl rfl ?_ | refine ls_guard_un rfl rfl rfl ?_ | refine o1_move rfl ?_ | refine o1_assign rfl ?_ | refine st_seq ?_ | refine st_region ?_ | refine st_block ?_ | refine st_skip ?_ | refine st_ret ?_ | refine st_exit ?_ | refine st_cond_t rfl ?_ | refine st_cond_f rfl ?_ | refine st_cond rfl (fun _ => ?_) (fun _ => ?_) | refine ls_nil ?_ | refine nx_seq ?_ | refine nx_blk ?_ | refine nx_fn ?_ | refine nx_rounds ?_ | refine xt_seq ?_ | refine xt_here ?_ | refine xt_on rfl ?_ | refine xt_rounds ?_ | refine xt_cut ?_ | refine rt_seq ?_ | refine rt_blk ?_ | refine rt_rounds ?_ | refine rt_cut ?_ | refine o1_peql rfl rfl ?_ | refine o1_pneq rfl rfl ?_ | refine o1_pick_t rfl rfl ?_ | refine o1_pick_f rfl rfl ?_ | refine o1_fieldAddr rfl ?_ | refine ox_load rfl (by rfl) ?_ | refine ox_load_enc rfl (by first | omega | (simp; omega)) ?_ | refine ox_load_any rfl (by assumption) ?_ | refine o1_len rfl ?_ | refine o1_add rfl rfl (by omega) ?_ | refine o1_lss_t rfl rfl (by omega) ?_ | refine o1_lss_f rfl rfl (by omega) ?_ | refine o1_lss rfl rfl (fun _ => ?_) (fun _ => ?_) | refine o1_neq_t rfl rfl (by omega) ?_ | refine o1_neq_f rfl rfl (by omega) ?_ | refine o1_neq rfl rfl (fun _ => ?_) (fun _ => ?_) | refine o1_slice_nil rfl ?_ | refine ox_store_enc B rfl rfl (by first | omega | (simp; done) | (simp; omega)) rfl ?_ | refine ox_stores rfl rfl (by first | omega | (simp; done) | (simp; omega)) rfl (by first | (simp only [List.set_cons_zero, List.set_cons_succ, Nat.zero_add, Nat.reduceAdd]; rfl) | rfl) ?_ | refine o1_nilCheck rfl ?_)
  refine rt_tmp () rfl rfl rfl trivial ?_
  (try dsimp only [List.cons_append, List.nil_append, List.singleton_append, List.append_nil]); (repeat (first | exact Ent.nil | exact Ent.refl _ | (apply Ent.cons; (repeat (first | exact Sel.here | apply Sel.there)))))
theorem elim_Rank_nil (H : List Hl) :
    Spec Tryd.prog 24 [.pointer none] H (fun _ : Unit => True) (fun _ => I 0) (fun _ => H) := by
  refine spec_pure (res := fun _ => []) H Tryd.func24 rfl Tryd.ntmps24 (by kernel_rfl) rfl (fun W => ?_)
  repeat' (first | refine ls_of rfl ?_ | refine ls_of_no ?_ | refine ls_guard_yes rfl rfl ?_ | refine ls_guard_no rfl rfl rfl rfl ?_ | refine ls_guard_un rfl rfl rfl ?_ | refine o1_move rfl ?_ | refine o1_assign rfl ?_ | refine st_seq ?_ | refine st_region ?_ | refine st_block ?_ | refine st_skip ?_ | refine st_ret ?_ | refine st_exit ?_ | refine st_cond_t rfl ?_ | refine st_cond_f rfl ?_ | refine st_cond rfl (fun _ => ?_) (fun _ => ?_) | refine ls_nil ?_ | refine nx_seq ?_ | refine nx_blk ?_ | refine nx_fn ?_ | refine nx_rounds ?_ | refine xt_seq ?_ | refine xt_here ?_ | refine xt_on rfl ?_ | refine xt_rounds ?_ | refine xt_cut ?_ | refine rt_seq ?_ | refine rt_blk ?_ | refine rt_rounds ?_ | refine rt_cut ?_ | refine o1_peql rfl rfl ?_ | refine o1_pneq rfl rfl ?_ | refine o1_fieldAddr rfl ?_ | refine o1_slice_nil rfl ?_ | refine o1_nilCheck rfl ?_)
  refine rt_tmp () rfl rfl rfl trivial ?_
  (try dsimp only [List.cons_append, List.nil_append, List.singleton_append, List.append_nil]); (repeat (first | exact Ent.nil | exact Ent.refl _ | (apply Ent.cons; (repeat (first | exact Sel.here | apply Sel.there)))))
theorem elim_Add_len (H : List Hl) (bm z : Nat) (p ad : Option Addr) (m c : Nat) (hM : Cl (stars H) ⟨bm, 1, none⟩ (I z)) (h : m ≠ z) :
    Spec Tryd.prog 23 [.pointer (some ⟨bm, 0, none⟩), .pointer p, .slice ad m c] H (fun _ : Unit => True) (fun _ => .bool false) (fun _ => H) := by
  refine spec_pure (res := fun _ => []) H Tryd.func23 rfl Tryd.ntmps23 (by kernel_rfl) rfl (fun W => ?_)
  repeat' (first | refine ls_of rfl ?_ | refine ls_of_no ?_ | refine ls_guard_yes rfl rfl ?_ | refine ls_guard_no rfl rfl rfl rfl ?_ | refine ls_guard_un rfl rfl rfl ?_ | refine o1_move rfl ?_ | refine o1_assign rfl ?_ | refine st_seq ?_ | refine st_region ?_ | refine st_block ?_ | refine st_skip ?_ | refine st_ret ?_ | refine st_exit ?_ | refine st_cond_t rfl ?_ | refine st_cond_f rfl ?_ | refine st_cond rfl (fun _ => ?_) (fun _ => ?_) | refine ls_nil ?_ | refine nx_seq ?_ | refine nx_blk ?_ | refine nx_fn ?_ | refine nx_rounds ?_ | refine xt_seq ?_ | refine xt_here ?_ | refine xt_on rfl ?_ | refine xt_rounds ?_ | refine xt_cut ?_ | refine rt_seq ?_ | refine rt_blk ?_ | refine rt_rounds ?_ | refine rt_cut ?_ | refine o1_peql rfl rfl ?_ | refine ox_load_any rfl hM ?_ | refine o1_neq_t rfl rfl (by omega) ?_ | refine o1_pick_t rfl rfl ?_ | refine o1_pick_f rfl rfl ?_ | refine o1_fieldAddr rfl ?_ | refine ox_load rfl (by rfl) ?_ | refine ox_load_enc rfl (by first | omega | (simp; omega)) ?_ | refine ox_load_any rfl (by assumption) ?_ | refine o1_len rfl ?_ | refine o1_add rfl rfl (by omega) ?_ | refine o1_lss_t rfl rfl (by omega) ?_ | refine o1_lss_f rfl rfl (by omega) ?_ | refine o1_lss rfl rfl (fun _ => ?_) (fun _ => ?_) | refine o1_neq_t rfl rfl (by omega) ?_ | refine o1_neq_f rfl rfl (by omega) ?_ | refine o1_neq rfl rfl (fun _ => ?_) (fun _ => ?_) | refine o1_slice_nil rfl ?_ | refine ox_store_enc B rfl rfl (by first | omega | (simp; done) | (simp; omega)) rfl ?_ | refine ox_stores rfl rfl (by first | omega | (simp; done) | (simp; omega)) rfl (by first | (simp only [List.set_cons_zero, List.set_cons_succ, Nat.zero_add, Nat.reduceAdd]; rfl) | rfl) ?_ | refine o1_nilCheck rfl ?_)
  refine rt_tmp () rfl rfl rfl trivial ?_
  (try dsimp only [List.cons_append, List.nil_append, List.singleton_append, List.append_nil]); (repeat (first | exact Ent.nil | exact Ent.refl _ | (apply Ent.cons; (repeat (first | exact Sel.here | apply Sel.there)))))
theorem elim_Add_vnil (H : List Hl) (bm n z : Nat) (ad : Option Addr) (m c : Nat) (hM : Cl (stars H) ⟨bm, 1, none⟩ (I z)) (hM0 : Cl (stars H) ⟨bm, 0, none⟩ (I n)) (hn : 1 ≤ n) (hm : m ≤ 1000) (hz : z ≤ 16) :
    Spec Tryd.prog 23 [.pointer (some ⟨bm, 0, none⟩), .pointer none, .slice ad m c] H (fun _ : Unit => True) (fun _ => .bool false) (fun _ => H) := by
  refine spec_pure (res := fun _ => []) H Tryd.func23 rfl Tryd.ntmps23 (by kernel_rfl) rfl (fun W => ?_)
  by_cases h : m = z
  · repeat' (first | refine ls_of rfl ?_ | refine ls_of_no ?_ | refine ls_guard_yes rfl rfl ?_ | refine ls_guard_no rfl rfl rfl rfl ?_ | refine ls_guard_un rfl rfl rfl ?_ | refine o1_move rfl ?_ | refine o1_assign rfl ?_ | refine st_seq ?_ | refine st_region ?_ | refine st_block ?_ | refine st_skip ?_ | refine st_ret ?_ | refine st_exit ?_ | refine st_cond_t rfl ?_ | refine st_cond_f rfl ?_ | refine st_cond rfl (fun _ => ?_) (fun _ => ?_) | refine ls_nil ?_ | refine nx_seq ?_ | refine nx_blk ?_ | refine nx_fn ?_ | refine nx_rounds ?_ | refine xt_seq ?_ | refine xt_here ?_ | refine xt_on rfl ?_ | refine xt_rounds ?_ | refine xt_cut ?_ | refine rt_seq ?_ | refine rt_blk ?_ | refine rt_rounds ?_ | refine rt_cut ?_ | refine o1_peql rfl rfl ?_ | refine ox_load_any rfl hM ?_ | refine o1_neq_f rfl rfl (by omega) ?_ | refine o1_call (fun _ => elim_reduced_vnil _ bm n ad m c (cl_up hM0) hn) rfl (fun _ _ => ?_) | refine o1_pick_t rfl rfl ?_ | refine o1_pick_f rfl rfl ?_ | refine o1_fieldAddr rfl ?_ | refine ox_load rfl (by rfl) ?_ | refine ox_load_enc rfl (by first | omega | (simp; omega)) ?_ | refine ox_load_any rfl (by assumption) ?_ | refine o1_len rfl ?_ | refine o1_add rfl rfl (by omega) ?_ | refine o1_lss_t rfl rfl (by omega) ?_ | refine o1_lss_f rfl rfl (by omega) ?_ | refine o1_lss rfl rfl (fun _ => ?_) (fun _ => ?_) | refine o1_neq_t rfl rfl (by omega) ?_ | refine o1_neq_f rfl rfl (by omega) ?_ | refine o1_neq rfl rfl (fun _ => ?_) (fun _ => ?_) | refine o1_slice_nil rfl ?_ | refine ox_store_enc B rfl rfl (by first | omega | (simp; done) | (simp; omega)) rfl ?_ | refine ox_stores rfl rfl (by first | omega | (simp; done) | (simp; omega)) rfl (by first | (simp only [List.set_cons_zero, List.set_cons_succ, Nat.zero_add, Nat.reduceAdd]; rfl) | rfl) ?_ | refine o1_nilCheck rfl ?_)
    refine rt_tmp () rfl rfl rfl trivial ?_
    (try dsimp only [List.cons_append, List.nil_append, List.singleton_append, List.append_nil]); (repeat (first | exact Ent.nil | exact Ent.refl _ | (apply Ent.cons; (repeat (first | exact Sel.here | apply Sel.there)))))
  · repeat' (first | refine ls_of rfl ?_ | refine ls_of_no ?_ | refine ls_guard_yes rfl rfl ?_ | refine ls_guard_no rfl rfl rfl rfl ?_ | refine ls_guard_un rfl rfl rfl ?_ | refine o1_move rfl ?_ | refine o1_assign rfl ?_ | refine st_seq ?_ | refine st_region ?_ | refine st_block ?_ | refine st_skip ?_ | refine st_ret ?_ | refine st_exit ?_ | refine st_cond_t rfl ?_ | refine st_cond_f rfl ?_ | refine st_cond rfl (fun _ => ?_) (fun _ => ?_) | refine ls_nil ?_ | refine nx_seq ?_ | refine nx_blk ?_ | refine nx_fn ?_ | refine nx_rounds ?_ | refine xt_seq ?_ | refine xt_here ?_ | refine xt_on rfl ?_ | refine xt_rounds ?_ | refine xt_cut ?_ | refine rt_seq ?_ | refine rt_blk ?_ | refine rt_rounds ?_ | refine rt_cut ?_ | refine o1_peql rfl rfl ?_ | refine ox_load_any rfl hM ?_ | refine o1_neq_t rfl rfl (by omega) ?_ | refine o1_pick_t rfl rfl ?_ | refine o1_pick_f rfl rfl ?_ | refine o1_fieldAddr rfl ?_ | refine ox_load rfl (by rfl) ?_ | refine ox_load_enc rfl (by first | omega | (simp; omega)) ?_ | refine ox_load_any rfl (by assumption) ?_ | refine o1_len rfl ?_ | refine o1_add rfl rfl (by omega) ?_ | refine o1_lss_t rfl rfl (by omega) ?_ | refine o1_lss_f rfl rfl (by omega) ?_ | refine o1_lss rfl rfl (fun _ => ?_) (fun _ => ?_) | refine o1_neq_t rfl rfl (by omega) ?_ | refine o1_neq_f rfl rfl (by omega) ?_ | refine o1_neq rfl rfl (fun _ => ?_) (fun _ => ?_) | refine o1_slice_nil rfl ?_ | refine ox_store_enc B rfl rfl (by first | omega | (simp; done) | (simp; omega)) rfl ?_ | refine ox_stores rfl rfl (by first | omega | (simp; done) | (simp; omega)) rfl (by first | (simp only [List.set_cons_zero, List.set_cons_succ, Nat.zero_add, Nat.reduceAdd]; rfl) | rfl) ?_ | refine o1_nilCheck rfl ?_)
    refine rt_tmp () rfl rfl rfl trivial ?_
    (try dsimp only [List.cons_append, List.nil_append, List.singleton_append, List.append_nil]); (repeat (first | exact Ent.nil | exact Ent.refl _ | (apply Ent.cons; (repeat (first | exact Sel.here | apply Sel.there)))))
theorem elim_Full_nil (H : List Hl) :
    Spec Tryd.prog 25 [.pointer none] H (fun _ : Unit => True) (fun _ => .bool false) (fun _ => H) := by
  refine spec_pure (res := fun _ => []) H Tryd.func25 rfl Tryd.ntmps25 (by kernel_rfl) rfl (fun W => ?_)
  repeat' (first | refine ls_of rfl ?_ | refine ls_of_no ?_ | refine ls_guard_yes rfl rfl ?_ | refine ls_guard_no rfl rfl rfl rfl ?_ | refine ls_guard_un rfl rfl rfl ?_ | refine o1_move rfl ?_ | refine o1_assign rfl ?_ | refine st_seq ?_ | refine st_region ?_ | refine st_block ?_ | refine st_skip ?_ | refine st_ret ?_ | refine st_exit ?_ | refine st_cond_t rfl ?_ | refine st_cond_f rfl ?_ | refine st_cond rfl (fun _ => ?_) (fun _ => ?_) | refine ls_nil ?_ | refine nx_seq ?_ | refine nx_blk ?_ | refine nx_fn ?_ | refine nx_rounds ?_ | refine xt_seq ?_ | refine xt_here ?_ | refine xt_on rfl ?_ | refine xt_rounds ?_ | refine xt_cut ?_ | refine rt_seq ?_ | refine rt_blk ?_ | refine rt_rounds ?_ | refine rt_cut ?_ | refine o1_pick_t rfl rfl ?_ | refine o1_pick_f rfl rfl ?_ | refine o1_fieldAddr rfl ?_ | refine ox_load rfl (by rfl) ?_ | refine ox_load_enc rfl (by first | omega | (simp; omega)) ?_ | refine ox_load_any rfl (by assumption) ?_ | refine o1_eql_t rfl rfl (by omega) ?_ | refine o1_eql_f rfl rfl (by omega) ?_ | refine o1_eql rfl rfl (fun _ => ?_) (fun _ => ?_) | refine o1_slice_nil rfl ?_ | refine o1_nilCheck rfl ?_)
  refine st_stages [(0, _)] rtW3_0 [4] [⟨[0, 1, 2, 3, 5, 6, 7, 8], [], some 4⟩, ⟨[9, 10, 11], [5, 6, 7, 8], none⟩] mixed (cov_cons rfl rfl cov_nil) (by kernel_rfl) (by kernel_rfl) ?_
  all_goals refine wk_ch ?_
  all_goals (refine xp1 0 rfl rfl rfl rfl (by first | refine o1_pneq rfl rfl fz | refine o1_move rfl fz) ?_)
  all_goals (refine xp1 3 rfl rfl rfl rfl (by first | refine o1_pneq rfl rfl fz | refine o1_slice_nil rfl fz) ?_)
  all_goals (refine xp1 4 rfl rfl rfl rfl (by first | refine o1_pneq rfl rfl fz | refine o1_move rfl fz) ?_)
  all_goals first | (refine xpo1 rfl rfl rfl rfl ?_) | (refine xpo2 rfl rfl rfl rfl ?_) | (refine xpg1 0 rfl rfl rfl rfl rfl rfl (by first | refine o1_pneq rfl rfl fz | refine o1_move rfl fz) ?_)
  all_goals first | (refine xpo1 rfl rfl rfl rfl ?_) | (refine xpo2 rfl rfl rfl rfl ?_) | (refine xpg1 0 rfl rfl rfl rfl rfl rfl (by first | refine o1_pneq rfl rfl fz | refine o1_move rfl fz) ?_)
  all_goals first | (refine xpo1 rfl rfl rfl rfl ?_) | (refine xpo2 rfl rfl rfl rfl ?_) | (refine xpg1 8 rfl rfl rfl rfl rfl rfl (by first | refine o1_pneq rfl rfl fz | refine o1_nilCheck rfl fz) ?_)
  all_goals first | (refine xpo1 rfl rfl rfl rfl ?_) | (refine xpo2 rfl rfl rfl rfl ?_) | (refine xpg1 9 rfl rfl rfl rfl rfl rfl (by first | refine o1_pneq rfl rfl fz | refine o1_fieldAddr rfl fz) ?_)
  all_goals first | (refine xpo1 rfl rfl rfl rfl ?_) | (refine xpo2 rfl rfl rfl rfl ?_) | (refine xpg1 10 rfl rfl rfl rfl rfl rfl (by first | refine o1_pneq rfl rfl fz | refine ox_load rfl (by rfl) fz | refine ox_load_enc rfl (by first | omega | (simp; omega)) fz | refine ox_load_any rfl (by assumption) fz) ?_)
  all_goals refine op_nil ?_
  all_goals refine re_nil ?_
  all_goals first | (refine ch_off rfl (by first | exact gd_o1 rfl rfl rfl | exact gd_o2 rfl rfl rfl) ?_) | (refine ch_run (E' := [(6, _)]) rfl (gd_r1 rfl rfl rfl) rfl (cov_cons rfl rfl cov_nil) ?_; (first | (refine o1_pneq rfl rfl ?_)))
  all_goals refine wk_end ?_
  all_goals first | (refine xpo1 rfl rfl rfl rfl ?_) | (refine xpo2 rfl rfl rfl rfl ?_) | (refine xpg2 7 11 rfl rfl rfl rfl rfl rfl rfl (by first | refine o1_pneq rfl rfl fz | refine o1_eql_t rfl rfl (by omega) fz | refine o1_eql_f rfl rfl (by omega) fz | refine o1_eql_d rfl rfl fz) ?_)
  all_goals (refine xp2 5 12 rfl rfl rfl rfl rfl (by first | refine o1_pneq rfl rfl fz | refine o1_pick_t rfl rfl fz | refine o1_pick_f rfl rfl fz) ?_)
  all_goals (refine xp1 13 rfl rfl rfl rfl (by first | refine o1_pneq rfl rfl fz | refine o1_assign rfl fz) ?_)
  all_goals refine op_nil ?_
  all_goals first | (refine xqo1 rfl rfl rfl rfl rfl ?_) | (refine xqo2 rfl rfl rfl rfl rfl ?_) | (refine xqg1 0 rfl rfl rfl rfl rfl rfl rfl (by first | refine o1_pneq rfl rfl fz | refine o1_move rfl fz) ?_)
  all_goals first | (refine xqo1 rfl rfl rfl rfl rfl ?_) | (refine xqo2 rfl rfl rfl rfl rfl ?_) | (refine xqg1 8 rfl rfl rfl rfl rfl rfl rfl (by first | refine o1_pneq rfl rfl fz | refine o1_nilCheck rfl fz) ?_)
  all_goals first | (refine xqo1 rfl rfl rfl rfl rfl ?_) | (refine xqo2 rfl rfl rfl rfl rfl ?_) | (refine xqg1 9 rfl rfl rfl rfl rfl rfl rfl (by first | refine o1_pneq rfl rfl fz | refine o1_fieldAddr rfl fz) ?_)
  all_goals first | (refine xqo1 rfl rfl rfl rfl rfl ?_) | (refine xqo2 rfl rfl rfl rfl rfl ?_) | (refine xqg1 10 rfl rfl rfl rfl rfl rfl rfl (by first | refine o1_pneq rfl rfl fz | refine ox_load rfl (by rfl) fz | refine ox_load_enc rfl (by first | omega | (simp; omega)) fz | refine ox_load_any rfl (by assumption) fz) ?_)
  all_goals refine re_nil ?_
  all_goals dsimp only [List.cons_append, List.nil_append]
  repeat' (first | refine ls_of rfl ?_ | refine ls_of_no ?_ | refine ls_guard_yes rfl rfl ?_ | refine ls_guard_no rfl rfl rfl rfl ?_ | refine ls_guard_un rfl rfl rfl ?_ | refine o1_move rfl ?_ | refine o1_assign rfl ?_ | refine st_seq ?_ | refine st_region ?_ | refine st_block ?_ | refine st_skip ?_ | refine st_ret ?_ | refine st_exit ?_ | refine st_cond_t rfl ?_ | refine st_cond_f rfl ?_ | refine st_cond rfl (fun _ => ?_) (fun _ => ?_) | refine ls_nil ?_ | refine nx_seq ?_ | refine nx_blk ?_ | refine nx_fn ?_ | refine nx_rounds ?_ | refine xt_seq ?_ | refine xt_here ?_ | refine xt_on rfl ?_ | refine xt_rounds ?_ | refine xt_cut ?_ | refine rt_seq ?_ | refine rt_blk ?_ | refine rt_rounds ?_ | refine rt_cut ?_ | refine o1_pick_t rfl rfl ?_ | refine o1_pick_f rfl rfl ?_ | refine o1_fieldAddr rfl ?_ | refine ox_load rfl (by rfl) ?_ | refine ox_load_enc rfl (by first | omega | (simp; omega)) ?_ | refine ox_load_any rfl (by assumption) ?_ | refine o1_eql_t rfl rfl (by omega) ?_ | refine o1_eql_f rfl rfl (by omega) ?_ | refine o1_eql rfl rfl (fun _ => ?_) (fun _ => ?_) | refine o1_slice_nil rfl ?_ | refine o1_nilCheck rfl ?_)
  refine rt_tmp () rfl rfl rfl trivial ?_
  (try dsimp only [List.cons_append, List.nil_append, List.singleton_append, List.append_nil]); (repeat (first | exact Ent.nil | exact Ent.refl _ | (apply Ent.cons; (repeat (first | exact Sel.here | apply Sel.there)))))
theorem elim_Solve_nil (H : List Hl) :
    Spec Tryd.prog 26 [.pointer none] H (fun _ : Unit => True) (fun _ => .slice none 0 0) (fun _ => H) := by
  refine spec_pure (res := fun _ => []) H Tryd.func26 rfl Tryd.ntmps26 (by kernel_rfl) rfl (fun W => ?_)
  repeat' (first | refine ls_of rfl ?_ | refine ls_of_no ?_ | refine ls_guard_yes rfl rfl ?_ | refine ls_guard_no rfl rfl rfl rfl ?_ | refine ls_guard_un rfl rfl rfl ?_ | refine o1_move rfl ?_ | refine o1_assign rfl ?_ | refine st_seq ?_ | refine st_region ?_ | refine st_block ?_ | refine st_skip ?_ | refine st_ret ?_ | refine st_exit ?_ | refine st_cond_t rfl ?_ | refine st_cond_f rfl ?_ | refine st_cond rfl (fun _ => ?_) (fun _ => ?_) | refine ls_nil ?_ | refine nx_seq ?_ | refine nx_blk ?_ | refine nx_fn ?_ | refine nx_rounds ?_ | refine xt_seq ?_ | refine xt_here ?_ | refine xt_on rfl ?_ | refine xt_rounds ?_ | refine xt_cut ?_ | refine rt_seq ?_ | refine rt_blk ?_ | refine rt_rounds ?_ | refine rt_cut ?_ | refine o1_call (fun _ => elim_Full_nil _) rfl (fun _ _ => ?_) | refine o1_fieldAddr rfl ?_ | refine ox_load rfl (by rfl) ?_ | refine ox_load_enc rfl (by first | omega | (simp; omega)) ?_ | refine ox_load_any rfl (by assumption) ?_ | refine o1_len rfl ?_ | refine o1_add rfl rfl (by omega) ?_ | refine o1_lss_t rfl rfl (by omega) ?_ | refine o1_lss_f rfl rfl (by omega) ?_ | refine o1_lss rfl rfl (fun _ => ?_) (fun _ => ?_) | refine o1_bnot rfl ?_ | refine o1_unot rfl ?_ | refine o1_lit_B rfl rfl rfl rfl rfl (fun _ => ?_) | refine ox_append rfl rfl (rx_box rfl (by first | decide | omega)) rfl rfl (fun _ => rfl) (by omega) (by omega) (fun _ _ => ?_) | refine ox_append rfl rfl (rx_any (by assumption)) rfl rfl (fun _ => rfl) (by omega) (by omega) (fun _ _ => ?_) | refine ox_append rfl rfl rx_row rfl rfl (fun _ => rfl) (by omega) (by omega) (fun _ _ => ?_) | refine o1_nilCheck rfl ?_)
  refine rt_tmp () rfl rfl rfl trivial ?_
  (try dsimp only [List.cons_append, List.nil_append, List.singleton_append, List.append_nil]); (repeat (first | exact Ent.nil | exact Ent.refl _ | (apply Ent.cons; (repeat (first | exact Sel.here | apply Sel.there)))))
theorem elim_Solve_no (H : List Hl) (bm n k : Nat) (h : Cl (stars H) ⟨bm, 3, none⟩ (I k)) (h0 : Cl (stars H) ⟨bm, 0, none⟩ (I n)) (hk : k ≠ n) :
    Spec Tryd.prog 26 [.pointer (some ⟨bm, 0, none⟩)] H (fun _ : Unit => True) (fun _ => .slice none 0 0) (fun _ => H) := by
  refine spec_pure (res := fun _ => []) H Tryd.func26 rfl Tryd.ntmps26 (by kernel_rfl) rfl (fun W => ?_)
  repeat' (first | refine ls_of rfl ?_ | refine ls_of_no ?_ | refine ls_guard_yes rfl rfl ?_ | refine ls_guard_no rfl rfl rfl rfl ?_ | refine ls_guard_un rfl rfl rfl ?_ | refine o1_move rfl ?_ | refine o1_assign rfl ?_ | refine st_seq ?_ | refine st_region ?_ | refine st_block ?_ | refine st_skip ?_ | refine st_ret ?_ | refine st_exit ?_ | refine st_cond_t rfl ?_ | refine st_cond_f rfl ?_ | refine st_cond rfl (fun _ => ?_) (fun _ => ?_) | refine ls_nil ?_ | refine nx_seq ?_ | refine nx_blk ?_ | refine nx_fn ?_ | refine nx_rounds ?_ | refine xt_seq ?_ | refine xt_here ?_ | refine xt_on rfl ?_ | refine xt_rounds ?_ | refine xt_cut ?_ | refine rt_seq ?_ | refine rt_blk ?_ | refine rt_rounds ?_ | refine rt_cut ?_ | refine o1_call (fun _ => (elim_Full _ bm n k (cl_up h) (cl_up h0)).bv (b := false) (by simp; omega)) rfl (fun _ _ => ?_) | refine o1_fieldAddr rfl ?_ | refine ox_load rfl (by rfl) ?_ | refine ox_load_enc rfl (by first | omega | (simp; omega)) ?_ | refine ox_load_any rfl (by assumption) ?_ | refine o1_len rfl ?_ | refine o1_add rfl rfl (by omega) ?_ | refine o1_lss_t rfl rfl (by omega) ?_ | refine o1_lss_f rfl rfl (by omega) ?_ | refine o1_lss rfl rfl (fun _ => ?_) (fun _ => ?_) | refine o1_bnot rfl ?_ | refine o1_unot rfl ?_ | refine o1_lit_B rfl rfl rfl rfl rfl (fun _ => ?_) | refine ox_append rfl rfl (rx_box rfl (by first | decide | omega)) rfl rfl (fun _ => rfl) (by omega) (by omega) (fun _ _ => ?_) | refine ox_append rfl rfl (rx_any (by assumption)) rfl rfl (fun _ => rfl) (by omega) (by omega) (fun _ _ => ?_) | refine ox_append rfl rfl rx_row rfl rfl (fun _ => rfl) (by omega) (by omega) (fun _ _ => ?_) | refine o1_nilCheck rfl ?_)
  refine rt_tmp () rfl rfl rfl trivial ?_
  (try dsimp only [List.cons_append, List.nil_append, List.singleton_append, List.append_nil]); (repeat (first | exact Ent.nil | exact Ent.refl _ | (apply Ent.cons; (repeat (first | exact Sel.here | apply Sel.there)))))
theorem clone_C (H : List Hl) (ad : Option Addr) (c m : Nat) (l : List (BitVec 8)) (h : Rs (stars H) B ad c l) (hm : m = l.length) (hb : m ≤ 1000) :
    Spec Tryd.prog 58 [.slice ad m c] H (fun _ : Option Addr × Nat => True) (fun r => .slice r.1 m r.2) (fun r => .row 5 1 (.slice r.1 m r.2) m (l.map B) :: H) := by
  refine spec_pure (res := fun r : Option Addr × Nat => [.row 5 1 (.slice r.1 m r.2) m (l.map B)]) H Tryd.func58 rfl Tryd.ntmps58 (by kernel_rfl) rfl (fun W => ?_)
  cases ad with
  | none =>
    have hl : l = [] := by
      cases l with
      | nil => rfl
      | cons a l => obtain ⟨x, hx⟩ := h.sm (by simp); cases hx
    subst hl
    subst hm
    repeat' (first | refine ls_of rfl ?_ | refine ls_of_no ?_ | refine ls_guard_yes rfl rfl ?_ | refine ls_guard_no rfl rfl rfl rfl ?_ | refine ls_guard_un rfl rfl rfl ?_ | refine o1_move rfl ?_ | refine o1_assign rfl ?_ | refine st_seq ?_ | refine st_region ?_ | refine st_block ?_ | refine st_skip ?_ | refine st_ret ?_ | refine st_exit ?_ | refine st_cond_t rfl ?_ | refine st_cond_f rfl ?_ | refine st_cond rfl (fun _ => ?_) (fun _ => ?_) | refine ls_nil ?_ | refine nx_seq ?_ | refine nx_blk ?_ | refine nx_fn ?_ | refine nx_rounds ?_ | refine xt_seq ?_ | refine xt_here ?_ | refine xt_on rfl ?_ | refine xt_rounds ?_ | refine xt_cut ?_ | refine rt_seq ?_ | refine rt_blk ?_ | refine rt_rounds ?_ | refine rt_cut ?_ | refine o1_slice_nil rfl ?_ | refine o1_lit_B rfl rfl rfl rfl rfl (fun _ => ?_) | refine ox_append rfl rfl (rx_box rfl (by first | decide | omega)) rfl rfl (fun _ => rfl) (by omega) (by omega) (fun _ _ => ?_) | refine ox_append rfl rfl (rx_any (by assumption)) rfl rfl (fun _ => rfl) (by omega) (by omega) (fun _ _ => ?_) | refine ox_append rfl rfl rx_row rfl rfl (fun _ => rfl) (by omega) (by omega) (fun _ _ => ?_))
    refine (rt_ent (ent_nil 5 B) ?_)
    refine rt_tmp (none, 0) rfl rfl rfl trivial ?_
    (try dsimp only [List.cons_append, List.nil_append, List.singleton_append, List.append_nil]); (repeat (first | exact Ent.nil | exact Ent.refl _ | (apply Ent.cons; (repeat (first | exact Sel.here | apply Sel.there)))))
  | some a =>
    repeat' (first | refine ls_of rfl ?_ | refine ls_of_no ?_ | refine ls_guard_yes rfl rfl ?_ | refine ls_guard_no rfl rfl rfl rfl ?_ | refine ls_guard_un rfl rfl rfl ?_ | refine o1_move rfl ?_ | refine o1_assign rfl ?_ | refine st_seq ?_ | refine st_region ?_ | refine st_block ?_ | refine st_skip ?_ | refine st_ret ?_ | refine st_exit ?_ | refine st_cond_t rfl ?_ | refine st_cond_f rfl ?_ | refine st_cond rfl (fun _ => ?_) (fun _ => ?_) | refine ls_nil ?_ | refine nx_seq ?_ | refine nx_blk ?_ | refine nx_fn ?_ | refine nx_rounds ?_ | refine xt_seq ?_ | refine xt_here ?_ | refine xt_on rfl ?_ | refine xt_rounds ?_ | refine xt_cut ?_ | refine rt_seq ?_ | refine rt_blk ?_ | refine rt_rounds ?_ | refine rt_cut ?_ | refine o1_lit_enc B ([] : List (BitVec 8)) rfl rfl rfl (fun _ => rfl) rfl rfl rfl (fun _ => ?_) | refine ox_append_box (enc := B) (xs := ([] : List (BitVec 8))) rfl rfl rfl rfl (rx_any h) hm rfl (fun _ => rfl) (by omega) (by omega) (fun _ _ => ?_) | refine o1_slice_nil rfl ?_ | refine o1_lit_B rfl rfl rfl rfl rfl (fun _ => ?_) | refine ox_append rfl rfl (rx_box rfl (by first | decide | omega)) rfl rfl (fun _ => rfl) (by omega) (by omega) (fun _ _ => ?_) | refine ox_append rfl rfl (rx_any (by assumption)) rfl rfl (fun _ => rfl) (by omega) (by omega) (fun _ _ => ?_) | refine ox_append rfl rfl rx_row rfl rfl (fun _ => rfl) (by omega) (by omega) (fun _ _ => ?_))
    refine rt_tmp (_, _) rfl rfl (by simp only [Nat.zero_add]; rfl) trivial ?_
    simp only [Nat.zero_add, List.nil_append]
    (try dsimp only [List.cons_append, List.nil_append, List.singleton_append, List.append_nil]); (repeat (first | exact Ent.nil | exact Ent.refl _ | (apply Ent.cons; (repeat (first | exact Sel.here | apply Sel.there)))))
set_option maxHeartbeats 2000000 in
theorem elim_Solve (H : List Hl) (bm n z : Nat) (ar : Option Addr) (cr : Nat) (M : List (Option RD)) (R : List RD) (hM : RdM (stars H) bm n z ar cr n M) (hR : M = R.map some) :
    Spec Tryd.prog 26 [.pointer (some ⟨bm, 0, none⟩)] H (fun r : Option Addr × Nat × List (SlD (BitVec 8)) => r.2.2.map (·.l) = R.map (·.d)) (fun r => .slice r.1 r.2.2.length r.2.1)
      (fun r => .row 38 1 (.slice r.1 r.2.2.length r.2.1) r.2.2.length (r.2.2.map Bs) :: .any (pcs 5 r.2.2) :: H) := by
  refine spec_pure (res := fun r : Option Addr × Nat × List (SlD (BitVec 8)) => [.row 38 1 (.slice r.1 r.2.2.length r.2.1) r.2.2.length (r.2.2.map Bs), .any (pcs 5 r.2.2)]) H Tryd.func26 rfl Tryd.ntmps26 (by kernel_rfl) rfl (fun W => ?_)
  obtain ⟨l1, l2, l3, l4, l5, l6⟩ := hM.ok
  have m3 := hM.fs
  have hRl : R.length = n := by rw [← l1, hR, List.length_map]
  repeat' (first | refine ls_of rfl ?_ | refine ls_of_no ?_ | refine ls_guard_yes rfl rfl ?_ | refine ls_guard_no rfl rfl rfl rfl ?_ | refine ls_guard_un rfl rfl rfl ?_ | refine o1_move rfl ?_ | refine o1_assign rfl ?_ | refine st_seq ?_ | refine st_region ?_ | refine st_block ?_ | refine st_skip ?_ | refine st_ret ?_ | refine st_exit ?_ | refine st_cond_t rfl ?_ | refine st_cond_f rfl ?_ | refine st_cond rfl (fun _ => ?_) (fun _ => ?_) | refine ls_nil ?_ | refine nx_seq ?_ | refine nx_blk ?_ | refine nx_fn ?_ | refine nx_rounds ?_ | refine xt_seq ?_ | refine xt_here ?_ | refine xt_on rfl ?_ | refine xt_rounds ?_ | refine xt_cut ?_ | refine rt_seq ?_ | refine rt_blk ?_ | refine rt_rounds ?_ | refine rt_cut ?_ | refine o1_call (fun _ => (elim_Full _ bm n n (cl_up hM.fk) (cl_up hM.fn)).bv (b := true) (by simp)) rfl (fun _ _ => ?_) | refine ox_load_any rfl m3 ?_ | refine o1_fieldAddr rfl ?_ | refine ox_load rfl (by rfl) ?_ | refine ox_load_enc rfl (by first | omega | (simp; omega)) ?_ | refine ox_load_any rfl (by assumption) ?_ | refine o1_len rfl ?_ | refine o1_add rfl rfl (by omega) ?_ | refine o1_lss_t rfl rfl (by omega) ?_ | refine o1_lss_f rfl rfl (by omega) ?_ | refine o1_lss rfl rfl (fun _ => ?_) (fun _ => ?_) | refine o1_bnot rfl ?_ | refine o1_unot rfl ?_ | refine o1_lit_B rfl rfl rfl rfl rfl (fun _ => ?_) | refine ox_append rfl rfl (rx_box rfl (by first | decide | omega)) rfl rfl (fun _ => rfl) (by omega) (by omega) (fun _ _ => ?_) | refine ox_append rfl rfl (rx_any (by assumption)) rfl rfl (fun _ => rfl) (by omega) (by omega) (fun _ _ => ?_) | refine ox_append rfl rfl rx_row rfl rfl (fun _ => rfl) (by omega) (by omega) (fun _ _ => ?_) | refine o1_nilCheck rfl ?_)
  refine st_ent (ent_nil 38 Bs) (st_ent (fun h hh => sel_swap h (pcs_nil (T := 5) h hh)) ?_)
  refine st_loop (S := Nat × Option Addr × Nat × List (SlD (BitVec 8))) (fun q => [(3, .slice q.2.1 q.2.2.2.length q.2.2.1), (12, .slice ar n cr), (13, I n), (14, I q.1)])
    (fun q => [.row 38 1 (.slice q.2.1 q.2.2.2.length q.2.2.1) q.2.2.2.length (q.2.2.2.map Bs), .any (pcs 5 q.2.2.2), .any (stars H)])
    (fun q => q.1 ≤ n ∧ q.2.2.2.map (·.l) = (R.map (·.d)).take q.1) (fun q => n - q.1) (0, none, 0, []) ⟨by omega, rfl⟩
    (cov_cons rfl rfl (cov_cons rfl rfl (cov_cons rfl rfl (cov_cons rfl rfl cov_nil)))) (by (try dsimp only [List.cons_append, List.nil_append, List.singleton_append, List.append_nil]); (repeat (first | exact Ent.nil | exact Ent.refl _ | (apply Ent.cons; (repeat (first | exact Sel.here | apply Sel.there)))))) ?_
  rintro ⟨i, a1, c1, out⟩ ⟨hi, hout⟩
  dsimp only at hi hout ⊢
  have hol : out.length = i := by have := congrArg List.length hout; simp at this; omega
  by_cases hlt : i < n
  · have hiM : i < M.length := by omega
    have hiR : i < R.length := by omega
    obtain ⟨r, hr⟩ : ∃ r, R[i] = r := ⟨_, rfl⟩
    have hMi : M[i] = some r := by subst hR; simp [hr]
    have hrm : some r ∈ M := hMi ▸ List.getElem_mem hiM
    have hrr := hM.fm r hrm
    obtain ⟨hr1, hr2, hr3⟩ := l6 r hrm
    have hrs := hrr.s
    have hrd := hrr.d
    have hrz : r.z = r.d.length := hrr.z.symm
    have hrz2 : r.z ≤ 16 := by omega
    repeat' (first | refine ls_of rfl ?_ | refine ls_of_no ?_ | refine ls_guard_yes rfl rfl ?_ | refine ls_guard_no rfl rfl rfl rfl ?_ | refine ls_guard_un rfl rfl rfl ?_ | refine o1_move rfl ?_ | refine o1_assign rfl ?_ | refine st_seq ?_ | refine st_region ?_ | refine st_block ?_ | refine st_skip ?_ | refine st_ret ?_ | refine st_exit ?_ | refine st_cond_t rfl ?_ | refine st_cond_f rfl ?_ | refine st_cond rfl (fun _ => ?_) (fun _ => ?_) | refine ls_nil ?_ | refine nx_seq ?_ | refine nx_blk ?_ | refine nx_fn ?_ | refine nx_rounds ?_ | refine xt_seq ?_ | refine xt_here ?_ | refine xt_on rfl ?_ | refine xt_rounds ?_ | refine xt_cut ?_ | refine rt_seq ?_ | refine rt_blk ?_ | refine rt_rounds ?_ | refine rt_cut ?_ | refine o1_ia (ad := ar) (c := cr) i rfl rfl hM.fr l1.symm rfl hiM ?_ | (refine o1_load_ia (ad := ar) (c := cr) i rfl hM.fr hiM ?_; rw [hMi]) | refine ox_load_any rfl hrs ?_ | (refine o1_call (fun _ => clone_C _ r.ad r.cd r.z r.d (Rs.up hrd) hrz (by omega)) rfl (fun ⟨a5, c5⟩ _ => ?_); dsimp only; rw [hrz]) | refine o1_lit_enc Bs [(⟨a5, c5, r.d⟩ : SlD (BitVec 8))] rfl rfl rfl (fun _ => rfl) rfl rfl rfl (fun _ => ?_) | refine ox_append (xs := out) (ys := [(⟨a5, c5, r.d⟩ : SlD (BitVec 8))]) rfl rfl (rx_box rfl (by decide)) rfl rfl (fun _ => rfl) (by omega) (by omega) (fun a9 c9 => ?_) | refine o1_fieldAddr rfl ?_ | refine ox_load rfl (by rfl) ?_ | refine ox_load_enc rfl (by first | omega | (simp; omega)) ?_ | refine ox_load_any rfl (by assumption) ?_ | refine o1_len rfl ?_ | refine o1_add rfl rfl (by omega) ?_ | refine o1_lss_t rfl rfl (by omega) ?_ | refine o1_lss_f rfl rfl (by omega) ?_ | refine o1_lss rfl rfl (fun _ => ?_) (fun _ => ?_) | refine o1_bnot rfl ?_ | refine o1_unot rfl ?_ | refine o1_lit_B rfl rfl rfl rfl rfl (fun _ => ?_) | refine ox_append rfl rfl (rx_box rfl (by first | decide | omega)) rfl rfl (fun _ => rfl) (by omega) (by omega) (fun _ _ => ?_) | refine ox_append rfl rfl (rx_any (by assumption)) rfl rfl (fun _ => rfl) (by omega) (by omega) (fun _ _ => ?_) | refine ox_append rfl rfl rx_row rfl rfl (fun _ => rfl) (by omega) (by omega) (fun _ _ => ?_) | refine o1_nilCheck rfl ?_)
    obtain ⟨u, hu⟩ : ∃ u : SlD (BitVec 8), u = ⟨a5, c5, r.d⟩ := ⟨_, rfl⟩
    refine nx_push (T := 5) (ls := out) (s := u) (R := [.row 38 1 (.slice a9 (out.length + 1) c9) (out.length + 1) ((out ++ [u]).map Bs), .any (stars H)]) (by rw [hu]; (try dsimp only [List.cons_append, List.nil_append, List.singleton_append, List.append_nil]); (repeat (first | exact Ent.nil | exact Ent.refl _ | (apply Ent.cons; (repeat (first | exact Sel.here | apply Sel.there)))))) ?_
    refine nx_again (i + 1, a9, c9, out ++ [u]) ⟨?_, ?_⟩ ?_ (cov_cons rfl ?_ (cov_cons rfl rfl (cov_cons rfl rfl (cov_cons rfl rfl cov_nil)))) ?_
    · show i + 1 ≤ n; omega
    · show (out ++ [u]).map (·.l) = _
      rw [List.map_append, hout, List.take_succ_eq_append_getElem (by rw [List.length_map]; exact hiR), hu]
      simp [hr]
    · show n - (i + 1) < n - i; omega
    · show Value.slice a9 _ c9 = Value.slice a9 (out ++ [u]).length c9
      rw [List.length_append]; rfl
    · show Ent _ [.row 38 1 (.slice a9 (out ++ [u]).length c9) (out ++ [u]).length ((out ++ [u]).map Bs), .any (pcs 5 (out ++ [u])), .any (stars H)]
      rw [List.length_append, List.length_singleton]
      (try dsimp only [List.cons_append, List.nil_append, List.singleton_append, List.append_nil]); (repeat (first | exact Ent.nil | exact Ent.refl _ | (apply Ent.cons; (repeat (first | exact Sel.here | apply Sel.there)))))
  · have : i = n := by omega
    subst this
    repeat' (first | refine ls_of rfl ?_ | refine ls_of_no ?_ | refine ls_guard_yes rfl rfl ?_ | refine ls_guard_no rfl rfl rfl rfl ?_ | refine ls_guard_un rfl rfl rfl ?_ | refine o1_move rfl ?_ | refine o1_assign rfl ?_ | refine st_seq ?_ | refine st_region ?_ | refine st_block ?_ | refine st_skip ?_ | refine st_ret ?_ | refine st_exit ?_ | refine st_cond_t rfl ?_ | refine st_cond_f rfl ?_ | refine st_cond rfl (fun _ => ?_) (fun _ => ?_) | refine ls_nil ?_ | refine nx_seq ?_ | refine nx_blk ?_ | refine nx_fn ?_ | refine nx_rounds ?_ | refine xt_seq ?_ | refine xt_here ?_ | refine xt_on rfl ?_ | refine xt_rounds ?_ | refine xt_cut ?_ | refine rt_seq ?_ | refine rt_blk ?_ | refine rt_rounds ?_ | refine rt_cut ?_ | refine o1_fieldAddr rfl ?_ | refine ox_load rfl (by rfl) ?_ | refine ox_load_enc rfl (by first | omega | (simp; omega)) ?_ | refine ox_load_any rfl (by assumption) ?_ | refine o1_len rfl ?_ | refine o1_add rfl rfl (by omega) ?_ | refine o1_lss_t rfl rfl (by omega) ?_ | refine o1_lss_f rfl rfl (by omega) ?_ | refine o1_lss rfl rfl (fun _ => ?_) (fun _ => ?_) | refine o1_bnot rfl ?_ | refine o1_unot rfl ?_ | refine o1_lit_B rfl rfl rfl rfl rfl (fun _ => ?_) | refine ox_append rfl rfl (rx_box rfl (by first | decide | omega)) rfl rfl (fun _ => rfl) (by omega) (by omega) (fun _ _ => ?_) | refine ox_append rfl rfl (rx_any (by assumption)) rfl rfl (fun _ => rfl) (by omega) (by omega) (fun _ _ => ?_) | refine ox_append rfl rfl rx_row rfl rfl (fun _ => rfl) (by omega) (by omega) (fun _ _ => ?_) | refine o1_nilCheck rfl ?_)
    refine rt_tmp (a1, c1, out) rfl rfl rfl ?_ ?_
    · show out.map (·.l) = _
      rw [hout, List.take_of_length_le (by rw [List.length_map]; omega)]
    (try dsimp only [List.cons_append, List.nil_append, List.singleton_append, List.append_nil]); (repeat (first | exact Ent.nil | exact Ent.refl _ | (apply Ent.cons; (repeat (first | exact Sel.here | apply Sel.there)))))
end Go.Dp
