/-
  States as bytes, cut and spoilt, plain.
  Conditions: those that stand in each theorem.
-/
import Derived.Test.YtenkfeiklpigjaaG10
import Derived.Test.YtenkfeiklpigjaaG5
set_option linter.unusedVariables false
set_option linter.unusedSimpArgs false
namespace Go.Dp
open Go.RowKit Go.Proofs
theorem slot_len_yes {x : SlotD} (h : x.nothing = false) (hl : x.h.l.length = 32) : x.by.length = 39 := by
  rw [slot_by_yes h]; simp [be4, be2, hl]
theorem slot_len_no {x : SlotD} (h : x.nothing = true) : x.by.length = 1 := by rw [slot_by_no h]; rfl
theorem tail_len_on {x : StD} (h : x.may = true) (ho : x.on = true) : x.tail.length = 45 := by
  have hm := (may_iff.1 h).m
  rw [if_pos ho] at hm
  rw [StD.tail, if_pos ho, List.length_cons, by_len, may_len hm]
theorem tail_len_off {x : StD} (ho : x.on = false) : x.tail.length = 1 := by rw [StD.tail, if_neg (by simp [ho])]; rfl
theorem by_len4 (x : StD) : x.by.length = 10 + x.s0.by.length + x.s1.by.length + x.tail.length := by
  rw [StD.by, List.length_append, List.length_append, List.length_append, head_len]
/-- A reader that has less. -/
def Pre (z : List (BitVec 8)) (r r' : RD) : Prop := (r.e = 0 ∧ r'.e = 0 ∧ r'.l = r.l ++ z) ∨ r.e = 2
theorem pre_nx {z : List (BitVec 8)} {r r' : RD} (h : Pre z r r') {n : Nat} (he : (r'.nx n).e = 0) : Pre z (r.nx n) (r'.nx n) := by
  rcases h with ⟨h1, h2, h3⟩ | h
  · by_cases hl : r.l.length < n
    · right; rw [(nx_short h1 hl).1]
    · left
      obtain ⟨_, h5⟩ := nx_e he
      rw [(nx_ok h1 (n := n) (by omega)).1, (nx_ok h2 h5).1]
      refine ⟨rfl, rfl, ?_⟩
      show r'.l.drop n = r.l.drop n ++ z
      rw [h3, List.drop_append_of_le_length (by omega)]
  · right; rw [(nx_bad (by omega) n).1]; exact h
theorem bad_fl {r : RD} (h : r.e ≠ 0) : r.fl = r ∧ r.is = false := by
  have hf : r.fl = r := by
    unfold RD.fl
    rw [(nx_bad h 1).1, if_neg (fun hc => h hc.2)]
  refine ⟨hf, ?_⟩
  unfold RD.is
  rw [hf, decide_eq_false h]; rfl
theorem pre_fl {z : List (BitVec 8)} {r r' : RD} (h : Pre z r r') (he : r'.fl.e = 0) : Pre z r.fl r'.fl ∧ (r.fl.e = 0 → r.is = r'.is) := by
  rcases h with ⟨h1, h2, h3⟩ | h
  · obtain ⟨rl, re⟩ := r
    obtain ⟨rl', re'⟩ := r'
    dsimp only at h1 h2 h3
    subst h1 h2 h3
    cases rl with
    | nil =>
      have : (RD.mk [] 0).fl = ⟨[], 2⟩ := by
        unfold RD.fl
        rw [(nx_short (r := RD.mk [] 0) rfl (n := 1) (by simp)).1, (nx_short (r := RD.mk [] 0) rfl (n := 1) (by simp)).2]
        rfl
      rw [this]
      exact ⟨.inr rfl, fun h => by cases h⟩
    | cons b t =>
      obtain ⟨a1, a2⟩ := fl_cons b t
      obtain ⟨b1, b2⟩ := fl_cons b (t ++ z)
      simp only [List.cons_append] at he ⊢
      rw [b1] at he
      have hb : ¬ 1 < b.toNat := fun hc => by rw [if_pos hc] at he; cases he
      rw [if_neg hb] at a1 b1
      rw [a1, b1, a2, b2]
      exact ⟨.inl ⟨rfl, rfl, rfl⟩, fun _ => rfl⟩
  · obtain ⟨f1, _⟩ := bad_fl (r := r) (by omega)
    rw [f1]
    exact ⟨.inr h, fun h0 => by omega⟩
theorem pre_ns {z : List (BitVec 8)} {r r' : RD} (h : Pre z r r') (he : r'.ns.e = 0) : Pre z r.ns r'.ns := by
  have hfl : r'.fl.e = 0 := by
    cases hi : r'.is
    · rw [RD.ns, if_neg (by simp [hi])] at he; exact he
    · rw [ns_38 hi] at he; exact (nx_e he).1
  obtain ⟨p1, p2⟩ := pre_fl h hfl
  by_cases h0 : r.fl.e = 0
  · have hi := p2 h0
    cases hi' : r'.is
    · rw [RD.ns, RD.ns, if_neg (by simp [hi, hi']), if_neg (by simp [hi'])]; exact p1
    · rw [ns_38 hi'] at he
      rw [ns_38 (hi.trans hi'), ns_38 hi']
      exact pre_nx p1 he
  · have h2 : r.fl.e = 2 := by
      rcases p1 with h | h
      · exact absurd h.1 h0
      · exact h
    have hi : r.is = false := by unfold RD.is; rw [decide_eq_false h0]; rfl
    right
    rw [RD.ns, if_neg (by simp [hi])]; exact h2
theorem pre_nm {z : List (BitVec 8)} {r r' : RD} (h : Pre z r r') (he : r'.nm.e = 0) : Pre z r.nm r'.nm := by
  have hfl : r'.fl.e = 0 := by
    cases hi : r'.is
    · rw [RD.nm, if_neg (by simp [hi])] at he; exact he
    · rw [RD.nm, if_pos hi] at he; exact (nx_e he).1
  obtain ⟨p1, p2⟩ := pre_fl h hfl
  by_cases h0 : r.fl.e = 0
  · have hi := p2 h0
    cases hi' : r'.is
    · rw [RD.nm, RD.nm, if_neg (by simp [hi, hi']), if_neg (by simp [hi'])]; exact p1
    · rw [RD.nm, if_pos hi'] at he
      rw [RD.nm, RD.nm, if_pos (hi.trans hi'), if_pos hi']
      exact pre_nx p1 he
  · have h2 : r.fl.e = 2 := by
      rcases p1 with h | h
      · exact absurd h.1 h0
      · exact h
    have hi : r.is = false := by unfold RD.is; rw [decide_eq_false h0]; rfl
    right
    rw [RD.nm, if_neg (by simp [hi])]; exact h2
theorem prs_short {x : StD} (h : x.may = true) {k : Nat} (hk : k < x.by.length) : prs (x.by.take k) = (zS, 2) := by
  obtain ⟨_, e2⟩ := by_parts h []
  rw [List.append_nil] at e2
  have hz : x.by.drop k ≠ [] := fun hc => by have := congrArg List.length hc; simp at this; omega
  obtain ⟨b, hb⟩ : ∃ b, x.by = b := ⟨_, rfl⟩
  rw [hb] at e2 hz ⊢
  have he : (endO b).e = 0 := by rw [e2]
  have h7 : (rd5 b).ns.ns.e = 0 := nm_e he
  have h6 : (rd5 b).ns.e = 0 := ns_e h7
  have h5 : (rd5 b).e = 0 := ns_e h6
  have h4 : (rd4 b).e = 0 := (nx_e (n := 4) h5).1
  have h3 : (rd3 b).e = 0 := (nx_e (n := 4) h4).1
  have h2 : (rd2 b).e = 0 := (nx_e (n := 1) h3).1
  have p1 : Pre (b.drop k) (RD.mk (b.take k) 0) (RD.mk b 0) := .inl ⟨rfl, rfl, (List.take_append_drop k b).symm⟩
  have pe := pre_nm (pre_ns (pre_ns (pre_nx (n := 4) (pre_nx (n := 4) (pre_nx (n := 1) (pre_nx (n := 1) p1 h2) h3) h4) h5) h6) h7) he
  have h0 : (endO (b.take k)).e = 2 := by
    rcases pe with ⟨_, _, h3⟩ | h
    · exfalso
      have : (endO b).l = (endO (b.take k)).l ++ b.drop k := h3
      rw [e2] at this
      simp only [List.nil_eq, List.append_eq_nil_iff] at this
      exact hz this.2
    · exact h
  rw [prs, if_pos (by omega), h0]
theorem prs_flag {x : StD} (h : x.may = true) {b : BitVec 8} (hb : 1 < b.toNat) : prs (x.by.set 10 b) = (zS, 3) := by
  obtain ⟨r, c, hr⟩ : ∃ c r, x.by = x.head ++ (c :: r) := by
    have e : x.by = x.head ++ (x.s0.by ++ (x.s1.by ++ x.tail)) := by simp [StD.by]
    obtain ⟨c, r, hcr⟩ : ∃ c r, x.s0.by = c :: r := by
      unfold SlotD.by; split
      · exact ⟨_, _, rfl⟩
      · exact ⟨_, _, rfl⟩
    exact ⟨c, r ++ (x.s1.by ++ x.tail), by rw [e, hcr]; simp⟩
  have hs : x.by.set 10 b = x.head ++ (b :: c) := by
    rw [hr]
    rw [List.set_append_right _ _ (by rw [head_len]; omega), head_len]
    rfl
  rw [hs]
  have e : x.head ++ (b :: c) = [BitVec.ofInt 8 x.a] ++ ([BitVec.ofInt 8 x.t] ++ (be4 x.f ++ (be4 x.g ++ (b :: c)))) := by simp [StD.head]
  obtain ⟨a1, _⟩ := nx_app' (p := [BitVec.ofInt 8 x.a]) (n := 1) rfl ([BitVec.ofInt 8 x.t] ++ (be4 x.f ++ (be4 x.g ++ (b :: c))))
  obtain ⟨b1, _⟩ := nx_app' (p := [BitVec.ofInt 8 x.t]) (n := 1) rfl (be4 x.f ++ (be4 x.g ++ (b :: c)))
  obtain ⟨c1, _⟩ := nx_app' (p := be4 x.f) (n := 4) rfl (be4 x.g ++ (b :: c))
  obtain ⟨d1, _⟩ := nx_app' (p := be4 x.g) (n := 4) rfl (b :: c)
  rw [← e] at a1
  have r2 : rd2 (x.head ++ (b :: c)) = _ := a1
  have r3 : rd3 (x.head ++ (b :: c)) = _ := (congrArg (fun r => RD.nx r 1) r2).trans b1
  have r4 : rd4 (x.head ++ (b :: c)) = _ := (congrArg (fun r => RD.nx r 4) r3).trans c1
  have r5 : rd5 (x.head ++ (b :: c)) = _ := (congrArg (fun r => RD.nx r 4) r4).trans d1
  obtain ⟨f1, f2⟩ := fl_cons b c
  rw [if_pos hb] at f1
  rw [decide_eq_false (by omega)] at f2
  have n1 : (RD.mk (b :: c) 0).ns = ⟨[], 3⟩ := by rw [RD.ns, if_neg (by simp [f2]), f1]
  obtain ⟨g1, g2⟩ := bad_fl (r := ⟨[], 3⟩) (by decide)
  have n2 : (RD.mk [] 3).ns = ⟨[], 3⟩ := by rw [RD.ns, if_neg (by simp [g2]), g1]
  have n3 : (RD.mk [] 3).nm = ⟨[], 3⟩ := by rw [RD.nm, if_neg (by simp [g2]), g1]
  have he : endO (x.head ++ (b :: c)) = ⟨[], 3⟩ := by rw [endO, r5, n1, n2, n3]
  rw [prs, he, if_pos (by decide)]
/-- Two that may be are written alike just if they are the same. -/
theorem plain_by (x : StD) : x.plain.by = x.by := rfl
theorem same_plain {x y : StD} (h : x.same y = true) : x.plain = y.plain := by
  obtain ⟨a, t, f, g, ⟨v0, n0, h0⟩, ⟨v1, n1, h1⟩, on, ⟨s, v, n, z, p, hm⟩⟩ := x
  obtain ⟨a', t', f', g', ⟨v0', n0', h0'⟩, ⟨v1', n1', h1'⟩, on', ⟨s', v', n', z', p', hm'⟩⟩ := y
  simp only [StD.same, SlotD.same, ManD.same, Bool.and_eq_true, decide_eq_true_eq, beq_iff_eq] at h
  obtain ⟨k1, k2, k3, k4, k5, ⟨k6, k7, k8⟩, ⟨k9, k10, k11⟩, k12, k13, k14, k15, k16, k17⟩ := h
  have w : ∀ {p q : BitVec 32}, (p.toNat : Int) = (q.toNat : Int) → p = q := fun h => BitVec.eq_of_toNat_eq (by omega)
  simp only [StD.plain, copyS, k1, k2, w k3, w k4, k5, w k6, k7, k8, w k9, k10, k11, w k12, w k13, k14, k15, k16, k17]
theorem by_same {x y : StD} (hx : x.may = true) (hy : y.may = true) : decide (x.by = y.by) = x.same y := by
  cases hs : x.same y
  · rw [decide_eq_false_iff_not]
    intro he
    have h1 := prs_by hx
    rw [he, prs_by hy] at h1
    injection h1 with h1 _
    have h2 : x.same y = true := by
      have e : x.same y = x.plain.same y.plain := rfl
      rw [e, h1]; exact StD.same_self _
    rw [hs] at h2; cases h2
  · rw [decide_eq_true_eq, ← plain_by x, same_plain hs, plain_by]
theorem by_245 {x : StD} (h : x.may = true) : x.by.length ≤ 245 := by
  obtain ⟨k0, k1⟩ := slots_len h
  rw [by_len4]
  have t : x.tail.length ≤ 45 := by
    cases ho : x.on
    · rw [tail_len_off ho]; omega
    · rw [tail_len_on h ho]; omega
  have w0 : x.s0.by.length ≤ 39 := by
    rcases k0 with ⟨a, b⟩ | ⟨a, b⟩
    · rw [slot_len_yes a b]; omega
    · rw [slot_len_no a]; omega
  have w1 : x.s1.by.length ≤ 39 := by
    rcases k1 with ⟨a, b⟩ | ⟨a, b⟩
    · rw [slot_len_yes a b]; omega
    · rw [slot_len_no a]; omega
  omega
end Go.Dp
