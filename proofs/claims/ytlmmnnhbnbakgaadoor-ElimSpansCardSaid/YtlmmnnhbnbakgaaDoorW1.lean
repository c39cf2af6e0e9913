/-
  elim: rows and matrices as data; row.xor, New, walked.
  Conditions: those that stand in each theorem.
-/
import Derived.Test.YtlmmnnhbnbakgaaDoorV8
set_option linter.unusedVariables false
set_option linter.unusedSimpArgs false
namespace Go.Dp
open Go.RowKit Go.Proofs
def rtW1_0 : List Row := [⟨some 6, [], [], none⟩, ⟨some 7, [0], [0], none⟩, ⟨some 8, [1], [0, 1], none⟩, ⟨some 9, [2], [0, 1, 2], none⟩, ⟨some 10, [], [], none⟩, ⟨some 11, [4], [4], none⟩, ⟨some 12, [5], [4, 5], none⟩, ⟨some 13, [6], [4, 5, 6], none⟩, ⟨some 14, [3, 7], [0, 1, 2, 3, 4, 5, 6, 7], none⟩]
/-- A row of a matrix: its box, its bits, its data. -/
structure RD where
  b : Nat
  v : VD
  ad : Option Addr
  z : Nat
  cd : Nat
  d : List (BitVec 8)
abbrev rX (b : Nat) (p : Value) (ad : Option Addr) (z cd : Nat) : Hl := .box b 101 [p, .slice ad z cd]
abbrev rD (ad : Option Addr) (z cd : Nat) (d : List (BitVec 8)) : Hl := .row 5 1 (.slice ad z cd) z (d.map B)
structure RD.ok (r : RD) : Prop where
  v : r.v.ok
  d : r.d.length = r.z
structure RdR (A : Hp → Prop) (r : RD) : Prop where
  p : Cl A ⟨r.b, 0, none⟩ (Pv r.v)
  s : Cl A ⟨r.b, 1, none⟩ (.slice r.ad r.z r.cd)
  v : RdV A r.v
  d : Rs A B r.ad r.cd r.d
  z : r.d.length = r.z
theorem RdR.up {A : Hp → Prop} {r : RD} {H H' : List Hl} (h : RdR A r) [s : SAny H A H'] : RdR (stars H) r := ⟨cl_up h.p, cl_up h.s, h.v.up, h.d.up, h.z⟩
theorem RdR.own {b vb n : Nat} {va : Option Addr} {vc : Nat} {l : List Bool} {ad : Option Addr} {z cd : Nat} {d : List (BitVec 8)} {H H0 H1 H2 H3 : List Hl} {m m2 : Nat} [s0 : SBox H b 101 [.pointer (some ⟨vb, 0, none⟩), .slice ad z cd] H0] [s : SBox H vb 86 [I n, .slice va (nw n) vc] H1] [s2 : SRow H va vc m 24 ((words l).map W8) H2] [s3 : SRow H ad cd m2 5 (d.map B) H3]
    (hl : l.length = n) (hn : n ≤ 256) (hd : d.length = z) (hh : Has H) : RdR (stars H) ⟨b, ⟨vb, n, va, vc, l⟩, ad, z, cd, d⟩ := ⟨cl_box rfl, cl_box rfl, RdV.own hl hn hh, rx_row hh, hd⟩
section
variable {P : Program} {n : Nat} {H : List Hl} {e : Ev} {C : Value → List Hl → Prop} {ty : TypeId}
/-- A call of what changes a box, a row and what is beside them. -/
theorem o1_call_bra (b : Nat) (ad : Option Addr) (c : Nat) (A : Hp → Prop) {f : FuncId} {xs : List Operand} {args : List Value} {ats : Array TypeId} {X : Type} {good : X → Prop} {val : X → Value} {res : X → List Hl} {m : Nat} {T T2 : TypeId} {cs ys : List Value} {H' H2 H3 : List Hl} [s : SBox H b T cs H'] [s2 : SRow H' ad c m T2 ys H2] [s3 : SAny H2 A H3]
    (hs : Has (.box b T cs :: .row T2 1 (.slice ad m c) m ys :: .any A :: H3) → Spec P f args (.box b T cs :: .row T2 1 (.slice ad m c) m ys :: .any A :: H3) good val res) (hxs : opds e xs = some args) (h : ∀ r, good r → C (val r) (res r)) : O1 P (.call ⟨.value (.func f), xs.toArray, ats⟩) ty n e H C :=
  O1.ent (H2 := .box b T cs :: .row T2 1 (.slice ad m c) m ys :: .any A :: H3) (fun h hh => sep_mono (s.s.out h hh) (fun _ a => a) (fun h' hh' => sep_mono (s2.s.out h' hh') (fun _ a => a) s3.s.out)) (o1_call hs hxs h)
/-- A call, memory laid out anew ahead of it. -/
theorem o1_call_to (H2 : List Hl) {f : FuncId} {xs : List Operand} {args : List Value} {ats : Array TypeId} {X : Type} {good : X → Prop} {val : X → Value} {res : X → List Hl} (hE : ∀ h, stars H h → stars H2 h) (hs : Has H2 → Spec P f args H2 good val res) (hxs : opds e xs = some args) (h : ∀ r, good r → C (val r) (res r)) : O1 P (.call ⟨.value (.func f), xs.toArray, ats⟩) ty n e H C :=
  O1.ent hE (o1_call hs hxs h)
end
set_option maxHeartbeats 2000000 in
theorem row_xor (H : List Hl) (b vb n : Nat) (va : Option Addr) (vc : Nat) (l : List Bool) (ad : Option Addr) (z cd : Nat) (d : List (BitVec 8)) (q : RD) (hl : l.length = n) (hn : n ≤ 256) (hd : d.length = z) (hz16 : z ≤ 16) (hq : RdR (stars H) q) (hqn : q.v.n = n) (hqz : q.z = z) :
    Spec Tryd.prog 55 [.pointer (some ⟨b, 0, none⟩), .pointer (some ⟨q.b, 0, none⟩)] (rX b (.pointer (some ⟨vb, 0, none⟩)) ad z cd :: vB vb n va vc :: vR n va vc l :: rD ad z cd d :: H) (fun _ : Unit => True) (fun _ => .tuple #[]) (fun _ => rX b (.pointer (some ⟨vb, 0, none⟩)) ad z cd :: vB vb n va vc :: vR n va vc (xorV l q.v.l) :: rD ad z cd (xorL d q.d) :: H) := by
  refine spec_fn (res := fun _ : Unit => [rX b (.pointer (some ⟨vb, 0, none⟩)) ad z cd, vB vb n va vc, vR n va vc (xorV l q.v.l), rD ad z cd (xorL d q.d)]) [rX b (.pointer (some ⟨vb, 0, none⟩)) ad z cd, vB vb n va vc, vR n va vc l, rD ad z cd d] H Tryd.func55 rfl Tryd.ntmps55 (by kernel_rfl) rfl (fun W => ?_)
  dsimp only [List.cons_append, List.nil_append]
  have e1 := hq.p
  have e2 := hq.s
  have e3 := hq.d
  have hqd := hq.z
  rw [hqz] at e2 hqd
  obtain ⟨Q, hQ⟩ : ∃ Q, q.d = Q := ⟨_, rfl⟩
  rw [hQ] at e3 hqd
  have hxl := xorL_len d Q (by omega)
  obtain ⟨X, hX⟩ : ∃ X, xorL d Q = X := ⟨_, rfl⟩
  rw [hX] at hxl
  have hz : X.length = d.length := hxl
  obtain ⟨L1, hL1⟩ : ∃ L1, xorV l q.v.l = L1 := ⟨_, rfl⟩
  rw [hQ, hX, hL1]
  repeat' (first | refine ls_of rfl ?_ | refine ls_of_no ?_ | refine ls_guard_yes rfl rfl ?_ | refine ls_guard_no rfl rfl rfl rfl ?_ | refine ls_guard_un rfl rfl rfl ?_ | refine o1_move rfl ?_ | refine o1_assign rfl ?_ | refine st_seq ?_ | refine st_region ?_ | refine st_block ?_ | refine st_skip ?_ | refine st_ret ?_ | refine st_exit ?_ | refine st_cond_t rfl ?_ | refine st_cond_f rfl ?_ | refine st_cond rfl (fun _ => ?_) (fun _ => ?_) | refine ls_nil ?_ | refine nx_seq ?_ | refine nx_blk ?_ | refine nx_fn ?_ | refine nx_rounds ?_ | refine xt_seq ?_ | refine xt_here ?_ | refine xt_on rfl ?_ | refine xt_rounds ?_ | refine xt_cut ?_ | refine rt_seq ?_ | refine rt_blk ?_ | refine rt_rounds ?_ | refine rt_cut ?_ | refine o1_fieldAddr rfl ?_ | refine ox_load rfl (by rfl) ?_ | refine ox_load_enc rfl (by first | omega | (simp; omega)) ?_ | refine ox_load_any rfl (by assumption) ?_ | refine o1_len rfl ?_ | refine o1_add rfl rfl (by omega) ?_ | refine o1_lss_t rfl rfl (by omega) ?_ | refine o1_lss_f rfl rfl (by omega) ?_ | refine o1_lss rfl rfl (fun _ => ?_) (fun _ => ?_) | refine o1_uxor rfl rfl ?_ | refine ox_store_enc B rfl rfl (by first | omega | (simp; done) | (simp; omega)) rfl ?_ | refine ox_stores rfl rfl (by first | omega | (simp; done) | (simp; omega)) rfl (by first | (simp only [List.set_cons_zero, List.set_cons_succ, Nat.zero_add, Nat.reduceAdd]; rfl) | rfl) ?_ | refine o1_nilCheck rfl ?_)
  refine st_stages [(0, _), (1, _)] rtW1_0 [8] [⟨[0, 1, 2, 3, 4, 5, 6, 7], [], some 8⟩, ⟨[], [], none⟩] mixed (cov_cons rfl rfl (cov_cons rfl rfl cov_nil)) (by kernel_rfl) (by kernel_rfl) ?_
  all_goals refine wk_ch ?_
  all_goals (refine xp1 0 rfl rfl rfl rfl (by refine o1_move rfl fz) ?_)
  all_goals (refine xp1 6 rfl rfl rfl rfl (by refine o1_nilCheck rfl fz) ?_)
  all_goals (refine xp1 7 rfl rfl rfl rfl (by refine o1_fieldAddr rfl fz) ?_)
  all_goals (refine xp1 8 rfl rfl rfl rfl (by first | refine ox_load_any rfl e1 fz | refine ox_load rfl (by rfl) fz | refine ox_load_enc rfl (by first | omega | (simp; omega)) fz | refine ox_load_any rfl (by assumption) fz) ?_)
  all_goals (refine xp1 1 rfl rfl rfl rfl (by refine o1_move rfl fz) ?_)
  all_goals (refine xp1 10 rfl rfl rfl rfl (by refine o1_nilCheck rfl fz) ?_)
  all_goals (refine xp1 11 rfl rfl rfl rfl (by refine o1_fieldAddr rfl fz) ?_)
  all_goals (refine xp1 12 rfl rfl rfl rfl (by first | refine ox_load_any rfl e1 fz | refine ox_load rfl (by rfl) fz | refine ox_load_enc rfl (by first | omega | (simp; omega)) fz | refine ox_load_any rfl (by assumption) fz) ?_)
  all_goals refine op_nil ?_
  all_goals refine re_nil ?_
  all_goals first | (refine ch_run (E' := [(9, _), (13, _)]) rfl (gd_r0 rfl) rfl (cov_cons rfl rfl (cov_cons rfl rfl cov_nil)) ?_; (first | (refine o1_call_br vb va vc (fun _ => vec_Xor _ vb n va vc l q.v hl hn (RdV.up hq.v) hqn) rfl (fun _ _ => ?_); rw [hL1])))
  all_goals refine wk_end ?_
  all_goals refine op_nil ?_
  all_goals refine re_nil ?_
  all_goals dsimp only [List.cons_append, List.nil_append]
  repeat' (first | refine ls_of rfl ?_ | refine ls_of_no ?_ | refine ls_guard_yes rfl rfl ?_ | refine ls_guard_no rfl rfl rfl rfl ?_ | refine ls_guard_un rfl rfl rfl ?_ | refine o1_move rfl ?_ | refine o1_assign rfl ?_ | refine st_seq ?_ | refine st_region ?_ | refine st_block ?_ | refine st_skip ?_ | refine st_ret ?_ | refine st_exit ?_ | refine st_cond_t rfl ?_ | refine st_cond_f rfl ?_ | refine st_cond rfl (fun _ => ?_) (fun _ => ?_) | refine ls_nil ?_ | refine nx_seq ?_ | refine nx_blk ?_ | refine nx_fn ?_ | refine nx_rounds ?_ | refine xt_seq ?_ | refine xt_here ?_ | refine xt_on rfl ?_ | refine xt_rounds ?_ | refine xt_cut ?_ | refine rt_seq ?_ | refine rt_blk ?_ | refine rt_rounds ?_ | refine rt_cut ?_ | refine ox_load_any rfl e2 ?_ | refine o1_fieldAddr rfl ?_ | refine ox_load rfl (by rfl) ?_ | refine ox_load_enc rfl (by first | omega | (simp; omega)) ?_ | refine ox_load_any rfl (by assumption) ?_ | refine o1_len rfl ?_ | refine o1_add rfl rfl (by omega) ?_ | refine o1_lss_t rfl rfl (by omega) ?_ | refine o1_lss_f rfl rfl (by omega) ?_ | refine o1_lss rfl rfl (fun _ => ?_) (fun _ => ?_) | refine o1_uxor rfl rfl ?_ | refine ox_store_enc B rfl rfl (by first | omega | (simp; done) | (simp; omega)) rfl ?_ | refine ox_stores rfl rfl (by first | omega | (simp; done) | (simp; omega)) rfl (by first | (simp only [List.set_cons_zero, List.set_cons_succ, Nat.zero_add, Nat.reduceAdd]; rfl) | rfl) ?_ | refine o1_nilCheck rfl ?_)
  refine st_loop (S := Nat) (fun i => [(0, .pointer (some ⟨b, 0, none⟩)), (1, .pointer (some ⟨q.b, 0, none⟩)), (18, .slice q.ad z q.cd), (19, I z), (20, I i)])
    (fun i => [rX b (.pointer (some ⟨vb, 0, none⟩)) ad z cd, vB vb n va vc, vR n va vc L1, rD ad z cd (partL X d i), .any (stars H)]) (fun i => i ≤ z) (fun i => z - i) 0 (Nat.zero_le _)
    (cov_cons rfl rfl (cov_cons rfl rfl (cov_cons rfl rfl (cov_cons rfl rfl (cov_cons rfl rfl cov_nil))))) (by show Ent _ [rX b (.pointer (some ⟨vb, 0, none⟩)) ad z cd, vB vb n va vc, vR n va vc L1, rD ad z cd (partL X d 0), .any (stars H)]; rw [partL_zero]; (try dsimp only [List.cons_append, List.nil_append, List.singleton_append, List.append_nil]); (repeat (first | exact Ent.nil | exact Ent.refl _ | (apply Ent.cons; (repeat (first | exact Sel.here | apply Sel.there)))))) ?_
  intro i hi
  by_cases hlt : i < z
  · have hql := partL_len hz i
    have hka : i < (partL X d i).length := by omega
    have hpk : (partL X d i)[i] = d[i]'(by omega) := partL_at hz (Nat.le_refl i) _
    have hset : (partL X d i).set i (X[i]'(by omega)) = partL X d (i + 1) := partL_succ hz (by omega)
    have hqi : i < Q.length := by omega
    have hxi : d[i]'(by omega) ^^^ Q[i] = X[i]'(by omega) := by subst hX; simp [xorL]
    repeat' (first | refine ls_of rfl ?_ | refine ls_of_no ?_ | refine ls_guard_yes rfl rfl ?_ | refine ls_guard_no rfl rfl rfl rfl ?_ | refine ls_guard_un rfl rfl rfl ?_ | refine o1_move rfl ?_ | refine o1_assign rfl ?_ | refine st_seq ?_ | refine st_region ?_ | refine st_block ?_ | refine st_skip ?_ | refine st_ret ?_ | refine st_exit ?_ | refine st_cond_t rfl ?_ | refine st_cond_f rfl ?_ | refine st_cond rfl (fun _ => ?_) (fun _ => ?_) | refine ls_nil ?_ | refine nx_seq ?_ | refine nx_blk ?_ | refine nx_fn ?_ | refine nx_rounds ?_ | refine xt_seq ?_ | refine xt_here ?_ | refine xt_on rfl ?_ | refine xt_rounds ?_ | refine xt_cut ?_ | refine rt_seq ?_ | refine rt_blk ?_ | refine rt_rounds ?_ | refine rt_cut ?_ | refine o1_ia (ad := q.ad) (c := q.cd) i rfl rfl e3 hqd.symm rfl hqi ?_ | refine o1_load_ia (ad := q.ad) (c := q.cd) i rfl e3 hqi ?_ | refine o1_iah (enc := B) (ad := ad) (c := cd) (xs := partL X d i) i rfl rfl rx_row (by omega) rfl hka ?_ | (refine o1_load_iah (enc := B) (ad := ad) (c := cd) (xs := partL X d i) i rfl rx_row hka ?_; rw [hpk]) | (refine o1_uxor rfl rfl ?_; rw [hxi]) | (refine ox_store_rowenc (ad := ad) (c := cd) B i rfl rfl hlt rfl ?_; rw [hset]) | refine o1_fieldAddr rfl ?_ | refine ox_load rfl (by rfl) ?_ | refine ox_load_enc rfl (by first | omega | (simp; omega)) ?_ | refine ox_load_any rfl (by assumption) ?_ | refine o1_len rfl ?_ | refine o1_add rfl rfl (by omega) ?_ | refine o1_lss_t rfl rfl (by omega) ?_ | refine o1_lss_f rfl rfl (by omega) ?_ | refine o1_lss rfl rfl (fun _ => ?_) (fun _ => ?_) | refine o1_uxor rfl rfl ?_ | refine ox_store_enc B rfl rfl (by first | omega | (simp; done) | (simp; omega)) rfl ?_ | refine ox_stores rfl rfl (by first | omega | (simp; done) | (simp; omega)) rfl (by first | (simp only [List.set_cons_zero, List.set_cons_succ, Nat.zero_add, Nat.reduceAdd]; rfl) | rfl) ?_ | refine o1_nilCheck rfl ?_)
    refine nx_again (i + 1) (by omega) (by omega) (cov_cons rfl rfl (cov_cons rfl rfl (cov_cons rfl rfl (cov_cons rfl rfl (cov_cons rfl rfl cov_nil))))) ?_
    (try dsimp only [List.cons_append, List.nil_append, List.singleton_append, List.append_nil]); (repeat (first | exact Ent.nil | exact Ent.refl _ | (apply Ent.cons; (repeat (first | exact Sel.here | apply Sel.there)))))
  · have : i = z := by omega
    subst this
    rw [partL_full hz hd.symm]
    repeat' (first | refine ls_of rfl ?_ | refine ls_of_no ?_ | refine ls_guard_yes rfl rfl ?_ | refine ls_guard_no rfl rfl rfl rfl ?_ | refine ls_guard_un rfl rfl rfl ?_ | refine o1_move rfl ?_ | refine o1_assign rfl ?_ | refine st_seq ?_ | refine st_region ?_ | refine st_block ?_ | refine st_skip ?_ | refine st_ret ?_ | refine st_exit ?_ | refine st_cond_t rfl ?_ | refine st_cond_f rfl ?_ | refine st_cond rfl (fun _ => ?_) (fun _ => ?_) | refine ls_nil ?_ | refine nx_seq ?_ | refine nx_blk ?_ | refine nx_fn ?_ | refine nx_rounds ?_ | refine xt_seq ?_ | refine xt_here ?_ | refine xt_on rfl ?_ | refine xt_rounds ?_ | refine xt_cut ?_ | refine rt_seq ?_ | refine rt_blk ?_ | refine rt_rounds ?_ | refine rt_cut ?_ | refine o1_fieldAddr rfl ?_ | refine ox_load rfl (by rfl) ?_ | refine ox_load_enc rfl (by first | omega | (simp; omega)) ?_ | refine ox_load_any rfl (by assumption) ?_ | refine o1_len rfl ?_ | refine o1_add rfl rfl (by omega) ?_ | refine o1_lss_t rfl rfl (by omega) ?_ | refine o1_lss_f rfl rfl (by omega) ?_ | refine o1_lss rfl rfl (fun _ => ?_) (fun _ => ?_) | refine o1_uxor rfl rfl ?_ | refine ox_store_enc B rfl rfl (by first | omega | (simp; done) | (simp; omega)) rfl ?_ | refine ox_stores rfl rfl (by first | omega | (simp; done) | (simp; omega)) rfl (by first | (simp only [List.set_cons_zero, List.set_cons_succ, Nat.zero_add, Nat.reduceAdd]; rfl) | rfl) ?_ | refine o1_nilCheck rfl ?_)
    refine rt_none () rfl rfl trivial ?_
    (try dsimp only [List.cons_append, List.nil_append, List.singleton_append, List.append_nil]); (repeat (first | exact Ent.nil | exact Ent.refl _ | (apply Ent.cons; (repeat (first | exact Sel.here | apply Sel.there)))))
/-! The matrix. -/
abbrev PO (o : Option RD) : Value := match o with
  | none => .pointer none
  | some r => .pointer (some ⟨r.b, 0, none⟩)
def rowP (r : RD) : List Hl := [rX r.b (Pv r.v) r.ad r.z r.cd, vB r.v.b r.v.n r.v.a r.v.c, vR r.v.n r.v.a r.v.c r.v.l, rD r.ad r.z r.cd r.d]
def oP (o : Option RD) : List Hl := match o with
  | none => []
  | some r => rowP r
def mrows (M : List (Option RD)) : Hp → Prop := stars (M.flatMap oP)
abbrev mB (b n z : Nat) (ar : Option Addr) (cr k : Nat) : Hl := .box b 97 [I n, I z, .slice ar n cr, I k]
abbrev mR (n : Nat) (ar : Option Addr) (cr : Nat) (M : List (Option RD)) : Hl := .row 98 1 (.slice ar n cr) n (M.map PO)
structure MOk (n z : Nat) (M : List (Option RD)) : Prop where
  len : M.length = n
  n1 : 1 ≤ n
  n2 : n ≤ 256
  z1 : 1 ≤ z
  z2 : z ≤ 16
  ok : ∀ r, some r ∈ M → r.ok ∧ r.v.n = n ∧ r.z = z
theorem mrows_none (n : Nat) {R : List Hl} : ∀ h, stars R h → stars (.any (mrows (List.replicate n none)) :: R) h := fun h hh => ⟨fun _ => none, h, fun _ => .inl rfl, fun _ _ e => (by cases e), .refl _, by
  have : (List.replicate n none : List (Option RD)).flatMap oP = [] := by
    rw [List.flatMap_eq_nil_iff]
    intro x hx
    rw [List.eq_of_mem_replicate hx]
    rfl
  show stars ((List.replicate n none : List (Option RD)).flatMap oP) _
  rw [this]
  trivial, hh⟩
theorem mrows_read {M : List (Option RD)} {r : RD} {H H' : List Hl} [sa : SAny H (mrows M) H'] (hm : some r ∈ M) (hk : r.ok) (hh : Has H) : RdR (stars H) r := by
  have key : ∀ w, sat w (stars H) → sat w (stars (M.flatMap oP)) := fun w hw => sel_sat sa.s w hw
  have mem : ∀ x ∈ rowP r, x ∈ M.flatMap oP := fun x hx => List.mem_flatMap.2 ⟨some r, hm, hx⟩
  obtain ⟨L0, s0⟩ := sel_mem (mem (rX r.b (Pv r.v) r.ad r.z r.cd) (by simp [rowP]))
  obtain ⟨L1, s1⟩ := sel_mem (mem (vB r.v.b r.v.n r.v.a r.v.c) (by simp [rowP]))
  obtain ⟨L2, s2⟩ := sel_mem (mem (vR r.v.n r.v.a r.v.c r.v.l) (by simp [rowP]))
  obtain ⟨L3, s3⟩ := sel_mem (mem (rD r.ad r.z r.cd r.d) (by simp [rowP]))
  obtain ⟨w, hw⟩ := hh
  exact ⟨⟨fun w hw => by rw [(key w hw).cell s0 0]; rfl⟩, ⟨fun w hw => by rw [(key w hw).cell s0 1]; rfl⟩, ⟨⟨fun w hw => by rw [(key w hw).cell s1 0]; rfl⟩, ⟨fun w hw => by rw [(key w hw).cell s1 1]; rfl⟩, (Rs.of_row s2 w (key w hw)).unvals.mono key, hk.v⟩, (Rs.of_row s3 w (key w hw)).unvals.mono key, hk.d⟩
theorem mrows_take {M : List (Option RD)} {r : RD} {i : Nat} {R : List Hl} (hi : i < M.length) (hr : M[i] = some r) : ∀ h, stars (.any (mrows M) :: R) h → stars (rowP r ++ (.any (mrows (M.set i none)) :: R)) h := fun h hh => by
  have e1 : M.flatMap oP = (M.take i).flatMap oP ++ (rowP r ++ (M.drop (i + 1)).flatMap oP) := by
    conv => lhs; rw [← List.take_append_drop i M, List.drop_eq_getElem_cons hi, hr]
    rw [List.flatMap_append, List.flatMap_cons]
    rfl
  have e2 : (M.set i none).flatMap oP = (M.take i).flatMap oP ++ (M.drop (i + 1)).flatMap oP := by
    rw [List.set_eq_take_append_cons_drop, if_pos hi, List.flatMap_append, List.flatMap_cons]
    rfl
  have h1 : sep (sep (stars (rowP r)) (mrows (M.set i none))) (stars R) h := sep_mono hh (fun h' hx => by
    have hx : stars (M.flatMap oP) h' := hx
    rw [e1] at hx
    have := stars_append _ _ _ (stars_swap hx)
    refine sep_mono this (fun _ a => a) (fun h2 a => ?_)
    show stars ((M.set i none).flatMap oP) h2
    rw [e2]
    exact a) (fun _ a => a)
  exact stars_append' _ _ _ (sep_assoc h1)
theorem mrows_put {M : List (Option RD)} {r : RD} {i : Nat} {R : List Hl} (hi : i < M.length) (hr : M[i] = none) : ∀ h, stars (rowP r ++ (.any (mrows M) :: R)) h → stars (.any (mrows (M.set i (some r))) :: R) h := fun h hh => by
  have e1 : (M.set i (some r)).flatMap oP = (M.take i).flatMap oP ++ (rowP r ++ (M.drop (i + 1)).flatMap oP) := by
    rw [List.set_eq_take_append_cons_drop, if_pos hi, List.flatMap_append, List.flatMap_cons]
    rfl
  have e2 : M.flatMap oP = (M.take i).flatMap oP ++ (M.drop (i + 1)).flatMap oP := by
    conv => lhs; rw [← List.take_append_drop i M, List.drop_eq_getElem_cons hi, hr]
    rw [List.flatMap_append, List.flatMap_cons]
    rfl
  have h1 := sep_assoc' (stars_append _ _ _ hh)
  refine sep_mono h1 (fun h' hx => ?_) (fun _ a => a)
  show stars ((M.set i (some r)).flatMap oP) h'
  rw [e1]
  have h2 : stars (rowP r ++ ((M.take i).flatMap oP ++ (M.drop (i + 1)).flatMap oP)) h' := stars_append' _ _ _ (sep_mono hx (fun _ a => a) (fun h3 a => by
    have a : stars (M.flatMap oP) h3 := a
    rw [e2] at a
    exact a))
  exact stars_swap h2
structure RdM (A : Hp → Prop) (b n z : Nat) (ar : Option Addr) (cr k : Nat) (M : List (Option RD)) : Prop where
  fn : Cl A ⟨b, 0, none⟩ (I n)
  fz : Cl A ⟨b, 1, none⟩ (I z)
  fs : Cl A ⟨b, 2, none⟩ (.slice ar n cr)
  fk : Cl A ⟨b, 3, none⟩ (I k)
  fr : Rs A PO ar cr M
  fm : ∀ r, some r ∈ M → RdR A r
  ok : MOk n z M
theorem RdM.up {A : Hp → Prop} {b n z : Nat} {ar : Option Addr} {cr k : Nat} {M : List (Option RD)} {H H' : List Hl} (h : RdM A b n z ar cr k M) [s : SAny H A H'] : RdM (stars H) b n z ar cr k M := ⟨cl_up h.fn, cl_up h.fz, cl_up h.fs, cl_up h.fk, h.fr.up, fun r hr => (h.fm r hr).up, h.ok⟩
theorem RdM.own {b n z : Nat} {ar : Option Addr} {cr k : Nat} {M : List (Option RD)} {H H1 H2 H3 : List Hl} {m : Nat} [s : SBox H b 97 [I n, I z, .slice ar n cr, I k] H1] [s2 : SRow H ar cr m 98 (M.map PO) H2] [s3 : SAny H (mrows M) H3] (hk : MOk n z M) (hh : Has H) : RdM (stars H) b n z ar cr k M :=
  ⟨cl_box rfl, cl_box rfl, cl_box rfl, cl_box rfl, rx_row hh, fun r hr => mrows_read (M := M) hr (hk.ok r hr).1 hh, hk⟩
theorem elim_New_no (H : List Hl) (n z : Int) (h : ¬ (1 ≤ n ∧ n ≤ 256 ∧ 1 ≤ z ∧ z ≤ 16)) :
    Spec Tryd.prog 22 [I n, I z] H (fun _ : Unit => True) (fun _ => .pointer none) (fun _ => H) := by
  refine spec_pure (res := fun _ => []) H Tryd.func22 rfl Tryd.ntmps22 (by kernel_rfl) rfl (fun W => ?_)
  rcases (by omega : n < 1 ∨ (1 ≤ n ∧ 256 < n) ∨ (1 ≤ n ∧ n ≤ 256 ∧ z < 1) ∨ (1 ≤ n ∧ n ≤ 256 ∧ 1 ≤ z ∧ 16 < z)) with q | ⟨q1, q2⟩ | ⟨q1, q2, q3⟩ | ⟨q1, q2, q3, q4⟩
  all_goals
    repeat' (first | refine ls_of rfl ?_ | refine ls_of_no ?_ | refine ls_guard_yes rfl rfl ?_ | refine ls_guard_no rfl rfl rfl rfl ?_ | refine ls_guard_un rfl rfl rfl ?_ | refine o1_move rfl ?_ | refine o1_assign rfl ?_ | refine st_seq ?_ | refine st_region ?_ | refine st_block ?_ | refine st_skip ?_ | refine st_ret ?_ | refine st_exit ?_ | refine st_cond_t rfl ?_ | refine st_cond_f rfl ?_ | refine st_cond rfl (fun _ => ?_) (fun _ => ?_) | refine ls_nil ?_ | refine nx_seq ?_ | refine nx_blk ?_ | refine nx_fn ?_ | refine nx_rounds ?_ | refine xt_seq ?_ | refine xt_here ?_ | refine xt_on rfl ?_ | refine xt_rounds ?_ | refine xt_cut ?_ | refine rt_seq ?_ | refine rt_blk ?_ | refine rt_rounds ?_ | refine rt_cut ?_ | refine o1_pick_t rfl rfl ?_ | refine o1_pick_f rfl rfl ?_ | refine o1_box rfl rfl (fun _ => ?_) | refine o1_lss_t rfl rfl (by omega) ?_ | refine o1_lss_f rfl rfl (by omega) ?_ | refine o1_lss rfl rfl (fun _ => ?_) (fun _ => ?_) | refine o1_gtr_t rfl rfl (by omega) ?_ | refine o1_gtr_f rfl rfl (by omega) ?_ | refine o1_gtr rfl rfl (fun _ => ?_) (fun _ => ?_) | refine o1_maken (enc := B) 0#8 rfl rfl rfl rfl (by omega) (by omega) (by omega) (fun _ => ?_) | refine o1_buildx rfl (by simp only [buildL, putL, List.set_cons_zero, List.set_cons_succ, List.getElem?_cons_zero, List.getElem?_cons_succ, Option.getD_some, Value.cells, Nat.zero_add, Nat.reduceAdd]; rfl) (fun _ => by kernel_rfl) ?_)
    refine rt_tmp () rfl rfl rfl trivial ?_
    (try dsimp only [List.cons_append, List.nil_append, List.singleton_append, List.append_nil]); (repeat (first | exact Ent.nil | exact Ent.refl _ | (apply Ent.cons; (repeat (first | exact Sel.here | apply Sel.there)))))
theorem elim_New (H : List Hl) (n z : Nat) (h1 : 1 ≤ n) (h2 : n ≤ 256) (h3 : 1 ≤ z) (h4 : z ≤ 16) :
    Spec Tryd.prog 22 [I n, I z] H (fun _ : Nat × Option Addr × Nat => True) (fun r => .pointer (some ⟨r.1, 0, none⟩)) (fun r => mB r.1 n z r.2.1 r.2.2 0 :: mR n r.2.1 r.2.2 (List.replicate n none) :: .any (mrows (List.replicate n none)) :: H) := by
  refine spec_pure (res := fun r : Nat × Option Addr × Nat => [mB r.1 n z r.2.1 r.2.2 0, mR n r.2.1 r.2.2 (List.replicate n none), .any (mrows (List.replicate n none))]) H Tryd.func22 rfl Tryd.ntmps22 (by kernel_rfl) rfl (fun W => ?_)
  repeat' (first | refine ls_of rfl ?_ | refine ls_of_no ?_ | refine ls_guard_yes rfl rfl ?_ | refine ls_guard_no rfl rfl rfl rfl ?_ | refine ls_guard_un rfl rfl rfl ?_ | refine o1_move rfl ?_ | refine o1_assign rfl ?_ | refine st_seq ?_ | refine st_region ?_ | refine st_block ?_ | refine st_skip ?_ | refine st_ret ?_ | refine st_exit ?_ | refine st_cond_t rfl ?_ | refine st_cond_f rfl ?_ | refine st_cond rfl (fun _ => ?_) (fun _ => ?_) | refine ls_nil ?_ | refine nx_seq ?_ | refine nx_blk ?_ | refine nx_fn ?_ | refine nx_rounds ?_ | refine xt_seq ?_ | refine xt_here ?_ | refine xt_on rfl ?_ | refine xt_rounds ?_ | refine xt_cut ?_ | refine rt_seq ?_ | refine rt_blk ?_ | refine rt_rounds ?_ | refine rt_cut ?_ | refine o1_maker (enc := PO) none n rfl rfl rfl rfl rfl (by omega) (by omega) (fun b2 => ?_) | refine o1_box rfl rfl (fun b1 => ?_) | refine o1_pick_t rfl rfl ?_ | refine o1_pick_f rfl rfl ?_ | refine o1_box rfl rfl (fun _ => ?_) | refine o1_lss_t rfl rfl (by omega) ?_ | refine o1_lss_f rfl rfl (by omega) ?_ | refine o1_lss rfl rfl (fun _ => ?_) (fun _ => ?_) | refine o1_gtr_t rfl rfl (by omega) ?_ | refine o1_gtr_f rfl rfl (by omega) ?_ | refine o1_gtr rfl rfl (fun _ => ?_) (fun _ => ?_) | refine o1_maken (enc := B) 0#8 rfl rfl rfl rfl (by omega) (by omega) (by omega) (fun _ => ?_) | refine o1_buildx rfl (by simp only [buildL, putL, List.set_cons_zero, List.set_cons_succ, List.getElem?_cons_zero, List.getElem?_cons_succ, Option.getD_some, Value.cells, Nat.zero_add, Nat.reduceAdd]; rfl) (fun _ => by kernel_rfl) ?_)
  refine rt_row (T := 98) (b := b2) (m := n) (cp := n) (cs := (List.replicate n none).map PO) (by simp) rfl (by omega) ?_
  refine rt_ent (mrows_none n) ?_
  refine rt_tmp (b1, some ⟨b2, 0, none⟩, n) rfl rfl rfl trivial ?_
  (try dsimp only [List.cons_append, List.nil_append, List.singleton_append, List.append_nil]); (repeat (first | exact Ent.nil | exact Ent.refl _ | (apply Ent.cons; (repeat (first | exact Sel.here | apply Sel.there)))))
end Go.Dp
