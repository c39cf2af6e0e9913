/-
  What is written of a state is read as it was, plain.
  Conditions: those that stand in each theorem.
-/
import Derived.Test.YtenkfeiklpigjaaG9
set_option linter.unusedVariables false
set_option linter.unusedSimpArgs false
namespace Go.Dp
open Go.RowKit Go.Proofs
theorem nx_app (p q : List (BitVec 8)) : (RD.mk (p ++ q) 0).nx p.length = ⟨q, 0⟩ ∧ (RD.mk (p ++ q) 0).tk p.length = p := by
  obtain ⟨h1, h2⟩ := nx_ok (r := ⟨p ++ q, 0⟩) rfl (n := p.length) (by simp)
  rw [h1, h2]
  simp
theorem nx_app' {p : List (BitVec 8)} {n : Nat} (h : p.length = n) (q : List (BitVec 8)) : (RD.mk (p ++ q) 0).nx n = ⟨q, 0⟩ ∧ (RD.mk (p ++ q) 0).tk n = p := by
  subst h; exact nx_app p q
/-- A flag's byte. -/
theorem fl_cons (b : BitVec 8) (q : List (BitVec 8)) : (RD.mk (b :: q) 0).fl = (if 1 < b.toNat then ⟨[], 3⟩ else ⟨q, 0⟩) ∧ (RD.mk (b :: q) 0).is = decide (b.toNat = 1) := by
  obtain ⟨h1, h2⟩ := nx_app' (p := [b]) (n := 1) rfl q
  simp only [List.singleton_append] at h1 h2
  have hf : (RD.mk (b :: q) 0).fl = (if 1 < b.toNat then ⟨[], 3⟩ else ⟨q, 0⟩) := by
    unfold RD.fl
    rw [h1, h2, num32_one]
    by_cases hb : 1 < b.toNat
    · rw [if_pos ⟨hb, rfl⟩, if_pos hb]
    · rw [if_neg (fun h => hb h.1), if_neg hb]
  refine ⟨hf, ?_⟩
  unfold RD.is
  rw [hf, h2, num32_one]
  by_cases hb : 1 < b.toNat
  · rw [if_pos hb, decide_eq_false (by decide), decide_eq_false (by omega)]; rfl
  · rw [if_neg hb, decide_eq_true (by rfl)]; rfl
def SlotD.plain (x : SlotD) : SlotD := ⟨x.v, x.n, ⟨none, 0, x.h.l⟩⟩
theorem toNat_0 {v : BitVec 32} (h : v.toNat = 0) : v = 0#32 := BitVec.eq_of_toNat_eq (by simpa using h)
theorem sl_by {x : SlotD} (hx : x.something = true ∨ x.nothing = true) (q : List (BitVec 8)) : (RD.mk (x.by ++ q) 0).sl = x.plain ∧ (RD.mk (x.by ++ q) 0).ns = ⟨q, 0⟩ := by
  cases hn : x.nothing
  · have hs : x.something = true := by
      rcases hx with h | h
      · exact h
      · rw [hn] at h; cases h
    simp only [SlotD.something, decide_eq_true_eq] at hs
    have e : x.by ++ q = 1#8 :: (be4 x.v ++ (be2 x.n ++ (x.h.l ++ q))) := by rw [slot_by_yes hn]; simp
    rw [e]
    obtain ⟨f1, f2⟩ := fl_cons 1#8 (be4 x.v ++ (be2 x.n ++ (x.h.l ++ q)))
    have f1 : (RD.mk (1#8 :: (be4 x.v ++ (be2 x.n ++ (x.h.l ++ q)))) 0).fl = ⟨be4 x.v ++ (be2 x.n ++ (x.h.l ++ q)), 0⟩ := by rw [f1]; rfl
    have f2 : (RD.mk (1#8 :: (be4 x.v ++ (be2 x.n ++ (x.h.l ++ q)))) 0).is = true := by rw [f2]; rfl
    obtain ⟨a1, a2⟩ := nx_app' (p := be4 x.v) (n := 4) rfl (be2 x.n ++ (x.h.l ++ q))
    obtain ⟨b1, b2⟩ := nx_app' (p := be2 x.n) (n := 2) rfl (x.h.l ++ q)
    obtain ⟨c1, c2⟩ := nx_app' (p := x.h.l) (n := 32) hs.1 q
    rw [RD.sl, RD.ns, if_pos f2, if_pos f2, f1, a1, a2, b1, b2, c1, c2, num32_be4, num32_be2 x.n (by omega) (by omega)]
    exact ⟨rfl, rfl⟩
  · have e : x.by ++ q = 0#8 :: q := by rw [slot_by_no hn]; rfl
    rw [e]
    obtain ⟨f1, f2⟩ := fl_cons 0#8 q
    have f1 : (RD.mk (0#8 :: q) 0).fl = ⟨q, 0⟩ := by rw [f1]; rfl
    have f2 : (RD.mk (0#8 :: q) 0).is = false := by rw [f2]; rfl
    rw [RD.sl, RD.ns, if_neg (by simp [f2]), if_neg (by simp [f2]), f1]
    simp only [SlotD.nothing, decide_eq_true_eq] at hn
    refine ⟨?_, rfl⟩
    rw [SlotD.plain, toNat_0 hn.1, hn.2.1, List.length_eq_zero_iff.1 hn.2.2]
theorem may_nums {m : ManD} (h : m.may = true) : 1 ≤ m.n ∧ m.n ≤ 512 ∧ 1 ≤ m.z ∧ m.z ≤ 16 ∧ 0 ≤ m.p ∧ m.p ≤ 16 ∧ m.h.l.length = 32 := by
  have hn := man_may h
  simp only [ManD.may, mayP, Bool.and_eq_true, decide_eq_true_eq] at h
  omega
theorem manO_by' {m : ManD} (h : m.may = true) : m.by.length = 44 ∧ manO m.by (none, 0) = ⟨m.s, m.v, m.n, m.z, m.p, ⟨none, 0, m.h.l⟩⟩ := by
  obtain ⟨q1, q2, q3, q4, q5, q6, q7⟩ := may_nums h
  refine ⟨by rw [by_len, q7], ?_⟩
  have e : m.by = be4 m.s ++ (be4 m.v ++ (be2 m.n ++ ([BitVec.ofInt 8 m.z, BitVec.ofInt 8 m.p] ++ m.h.l))) := by simp [ManD.by, mid4, be2]
  have t4 : (m.by.take 4).drop 0 = be4 m.s := by rw [e]; rfl
  have t8 : (m.by.take 8).drop 4 = be4 m.v := by rw [e]; rfl
  have t10 : (m.by.take 10).drop 8 = be2 m.n := by rw [e]; rfl
  have g10 : m.by.getD 10 0#8 = BitVec.ofInt 8 m.z := by rw [e]; rfl
  have g11 : m.by.getD 11 0#8 = BitVec.ofInt 8 m.p := by rw [e]; rfl
  have d12 : m.by.drop 12 = m.h.l := by rw [e]; rfl
  rw [manO, t4, t8, t10, g10, g11, d12, num32_be4, num32_be4, num32_be2 m.n (by omega) (by omega), byte_N m.z (by omega) (by omega), byte_N m.p (by omega) (by omega)]
def ManD.plain (m : ManD) : ManD := ⟨m.s, m.v, m.n, m.z, m.p, ⟨Option.none, 0, m.h.l⟩⟩
def StD.plain (x : StD) : StD := copyS x (none, 0) (none, 0) (none, 0)
theorem tail_nm {x : StD} (h : (if x.on then x.m.may else x.m.none) = true) (q : List (BitVec 8)) : (RD.mk (x.tail ++ q) 0).is = x.on ∧ (RD.mk (x.tail ++ q) 0).mn = x.m.plain ∧ (RD.mk (x.tail ++ q) 0).nm = ⟨q, 0⟩ := by
  cases hon : x.on
  · rw [if_neg (by simp [hon])] at h
    have ht : x.tail ++ q = 0#8 :: q := by rw [StD.tail, if_neg (by simp [hon])]; rfl
    rw [ht]
    obtain ⟨f1, f2⟩ := fl_cons 0#8 q
    have f1 : (RD.mk (0#8 :: q) 0).fl = ⟨q, 0⟩ := by rw [f1]; rfl
    have f2 : (RD.mk (0#8 :: q) 0).is = false := by rw [f2]; rfl
    rw [RD.mn, RD.nm, f2]
    refine ⟨rfl, ?_, by rw [if_neg (by simp)]; exact f1⟩
    rw [if_neg (by simp)]
    simp only [ManD.none, decide_eq_true_eq] at h
    rw [ManD.plain, toNat_0 h.1, toNat_0 h.2.1, h.2.2.1, h.2.2.2.1, h.2.2.2.2.1, List.length_eq_zero_iff.1 h.2.2.2.2.2]
    rfl
  · rw [if_pos hon] at h
    obtain ⟨k1, k2⟩ := manO_by' h
    have ht : x.tail ++ q = 1#8 :: (x.m.by ++ q) := by rw [StD.tail, if_pos hon]; rfl
    rw [ht]
    obtain ⟨f1, f2⟩ := fl_cons 1#8 (x.m.by ++ q)
    have f1 : (RD.mk (1#8 :: (x.m.by ++ q)) 0).fl = ⟨x.m.by ++ q, 0⟩ := by rw [f1]; rfl
    have f2 : (RD.mk (1#8 :: (x.m.by ++ q)) 0).is = true := by rw [f2]; rfl
    obtain ⟨a1, a2⟩ := nx_app' (p := x.m.by) (n := 44) k1 q
    have hmm : (ManD.mk x.m.s x.m.v x.m.n x.m.z x.m.p ⟨none, 0, x.m.h.l⟩).may = true := h
    rw [RD.mn, RD.nm, f2, f1, a1, a2, k2, if_pos rfl, if_pos hmm, if_pos rfl]
    exact ⟨rfl, rfl, rfl⟩
theorem slots_ok {x : StD} (h : x.may = true) : (x.s0.something = true ∨ x.s0.nothing = true) ∧ (x.s1.something = true ∨ x.s1.nothing = true) := by
  obtain ⟨h1, h2, h3, h4, h5⟩ := may_iff.1 h
  unfold StD.cur at h3
  unfold StD.oth at h4
  have h4 : (if x.a = 0 then x.s1 else x.s0).something = true ∨ (if x.a = 0 then x.s1 else x.s0).nothing = true := by
    rcases h4 with h4 | h4
    · exact .inl h4
    · exact .inr h4.1
  by_cases ha : x.a = 0
  · rw [if_pos ha] at h3 h4; exact ⟨.inl h3, h4⟩
  · rw [if_neg ha] at h3 h4; exact ⟨h4, .inl h3⟩
/-- What is written, and something behind it. -/
theorem by_parts {x : StD} (h : x.may = true) (q : List (BitVec 8)) : stO (x.by ++ q) = x.plain ∧ endO (x.by ++ q) = ⟨q, 0⟩ := by
  obtain ⟨h1, h2, h3, h4, h5⟩ := may_iff.1 h
  obtain ⟨k0, k1⟩ := slots_ok h
  have e : x.by ++ q = [BitVec.ofInt 8 x.a] ++ ([BitVec.ofInt 8 x.t] ++ (be4 x.f ++ (be4 x.g ++ (x.s0.by ++ (x.s1.by ++ (x.tail ++ q)))))) := by simp [StD.by, StD.head]
  obtain ⟨a1, a2⟩ := nx_app' (p := [BitVec.ofInt 8 x.a]) (n := 1) rfl ([BitVec.ofInt 8 x.t] ++ (be4 x.f ++ (be4 x.g ++ (x.s0.by ++ (x.s1.by ++ (x.tail ++ q))))))
  obtain ⟨b1, b2⟩ := nx_app' (p := [BitVec.ofInt 8 x.t]) (n := 1) rfl (be4 x.f ++ (be4 x.g ++ (x.s0.by ++ (x.s1.by ++ (x.tail ++ q)))))
  obtain ⟨c1, c2⟩ := nx_app' (p := be4 x.f) (n := 4) rfl (be4 x.g ++ (x.s0.by ++ (x.s1.by ++ (x.tail ++ q))))
  obtain ⟨d1, d2⟩ := nx_app' (p := be4 x.g) (n := 4) rfl (x.s0.by ++ (x.s1.by ++ (x.tail ++ q)))
  obtain ⟨s1, s2⟩ := sl_by k0 (x.s1.by ++ (x.tail ++ q))
  obtain ⟨u1, u2⟩ := sl_by k1 (x.tail ++ q)
  obtain ⟨w1, w2, w3⟩ := tail_nm h5 q
  rw [← e] at a1 a2
  have r2 : rd2 (x.by ++ q) = _ := a1
  have r3 : rd3 (x.by ++ q) = _ := (congrArg (fun r => RD.nx r 1) r2).trans b1
  have r4 : rd4 (x.by ++ q) = _ := (congrArg (fun r => RD.nx r 4) r3).trans c1
  have r5 : rd5 (x.by ++ q) = _ := (congrArg (fun r => RD.nx r 4) r4).trans d1
  refine ⟨?_, by rw [endO, r5, s2, u2, w3]⟩
  rw [stO, a2, r2, b2, r3, c2, r4, d2, r5, s1, s2, u1, u2, w1, w2, num32_one, num32_one, num32_be4, num32_be4, byte_N x.a (by omega) (by omega), byte_N x.t (by omega) (by omega)]
  rfl
theorem prs_by {x : StD} (h : x.may = true) : prs x.by = (x.plain, 0) := by
  obtain ⟨e1, e2⟩ := by_parts h []
  rw [List.append_nil] at e1 e2
  rw [prs, e1, e2, if_neg (by simp), if_neg (fun hc => by
    rcases hc with hc | hc
    · cases hc
    · rw [StD.plain, copy_may, h] at hc; cases hc)]
theorem prs_more {x : StD} (h : x.may = true) (b : BitVec 8) (q : List (BitVec 8)) : prs (x.by ++ (b :: q)) = (zS, 3) := by
  obtain ⟨e1, e2⟩ := by_parts h (b :: q)
  rw [prs, e1, e2, if_neg (by simp), if_pos (.inl (by simp))]
/-- What is read is written as it was. -/
theorem read_l {r : RD} {n : Nat} (h : (r.nx n).e = 0) : r.l = r.tk n ++ (r.nx n).l ∧ r.e = 0 := by
  obtain ⟨h1, h2⟩ := nx_e h
  rw [(nx_ok h1 h2).1, (nx_ok h1 h2).2]
  exact ⟨(List.take_append_drop n r.l).symm, h1⟩
theorem flag_l {r : RD} (h : r.fl.e = 0) : r.e = 0 ∧ r.fl = r.nx 1 ∧ ((r.is = true ∧ r.l = 1#8 :: r.fl.l) ∨ (r.is = false ∧ r.l = 0#8 :: r.fl.l)) := by
  have h0 := fl_e h
  have hf : r.fl = r.nx 1 := by
    unfold RD.fl at h ⊢
    split
    · rename_i hc; rw [if_pos hc] at h; cases h
    · rfl
  rw [hf] at h
  obtain ⟨h1, h2⟩ := nx_e h
  obtain ⟨hl, _⟩ := read_l h
  obtain ⟨b, hb⟩ := list1 (tk_len r 1)
  refine ⟨h0, hf, ?_⟩
  rw [hf]
  have hfl := fl_cons b (r.nx 1).l
  have hr : r = ⟨b :: (r.nx 1).l, 0⟩ := by
    obtain ⟨rl, re⟩ := r
    rw [hb] at hl
    simp only [List.singleton_append] at hl
    dsimp only at h1
    rw [h1] at hl ⊢
    rw [← hl]
  have hle : ¬ 1 < b.toNat := by
    intro hc
    have : r.fl.e = 3 := by
      have e : r.fl = (RD.mk (b :: (r.nx 1).l) 0).fl := congrArg RD.fl hr
      rw [e, hfl.1, if_pos hc]
    rw [hf, h] at this
    cases this
  have his : r.is = decide (b.toNat = 1) := by
    have e : r.is = (RD.mk (b :: (r.nx 1).l) 0).is := congrArg RD.is hr
    rw [e, hfl.2]
  rw [hb] at hl
  simp only [List.singleton_append] at hl
  by_cases hb1 : b.toNat = 1
  · left
    have : b = 1#8 := BitVec.eq_of_toNat_eq hb1
    rw [his, decide_eq_true hb1, ← this]
    exact ⟨rfl, hl⟩
  · right
    have : b = 0#8 := BitVec.eq_of_toNat_eq (by show b.toNat = 0; omega)
    rw [his, decide_eq_false hb1, ← this]
    exact ⟨rfl, hl⟩
theorem slot_l {r : RD} (h : r.ns.e = 0) : r.l = r.sl.by ++ r.ns.l := by
  cases hi : r.is
  · rw [RD.ns, if_neg (by simp [hi])] at h ⊢
    rw [RD.sl, if_neg (by simp [hi])]
    obtain ⟨_, _, h1 | h1⟩ := flag_l h
    · rw [hi] at h1; cases h1.1
    · rw [h1.2]; rfl
  · rw [RD.ns, if_pos hi] at h ⊢
    rw [RD.sl, if_pos hi]
    obtain ⟨c1, c2⟩ := read_l h
    obtain ⟨b1, b2⟩ := read_l c2
    obtain ⟨a1, a2⟩ := read_l b2
    obtain ⟨_, _, h1 | h1⟩ := flag_l a2
    · have hn : (SlotD.mk (num32 (r.fl.tk 4)) ((num32 ((r.fl.nx 4).tk 2)).toNat : Int) ⟨none, 0, ((r.fl.nx 4).nx 2).tk 32⟩).nothing = false := decide_eq_false (by rintro ⟨_, _, h⟩; dsimp only at h; rw [tk_len] at h; cases h)
      rw [slot_by_yes hn, h1.2]
      dsimp only
      rw [be4_num32 (tk_len _ _), be2_num32 (tk_len _ _)]
      simp only [List.cons_append, List.append_assoc]
      rw [← c1, ← b1, ← a1]
    · rw [hi] at h1; cases h1.1
theorem manO_by {l : List (BitVec 8)} (h : l.length = 44) (r : PA) : (manO l r).by = l := by
  have k10 : l.getD 10 0#8 = l[10] := getD_at (by omega)
  have k11 : l.getD 11 0#8 = l[11] := getD_at (by omega)
  have e1 : ((l.take 4).drop 0).length = 4 := by simp; omega
  have e2 : ((l.take 8).drop 4).length = 4 := by simp; omega
  have e3 : ((l.take 10).drop 8).length = 2 := by simp; omega
  have hm : mid4 (manO l r) = (l.take 10).drop 8 ++ [l[10], l[11]] := by
    have := be2_num32 e3
    show be2 _ ++ [BitVec.ofInt 8 _, BitVec.ofInt 8 _] = _
    rw [show (manO l r).n = ((num32 ((l.take 10).drop 8)).toNat : Int) from rfl, this, show (manO l r).z = ((l.getD 10 0#8).toNat : Int) from rfl, show (manO l r).p = ((l.getD 11 0#8).toNat : Int) from rfl, byte_back, byte_back, k10, k11]
  rw [ManD.by, hm, show (manO l r).s = num32 ((l.take 4).drop 0) from rfl, show (manO l r).v = num32 ((l.take 8).drop 4) from rfl, show (manO l r).h.l = l.drop 12 from rfl, be4_num32 e1, be4_num32 e2]
  apply List.ext_getElem?
  intro i
  simp only [List.getElem?_append, List.getElem?_drop, List.getElem?_take, List.length_drop, List.length_take, List.length_append, List.length_cons, List.length_nil, List.drop_zero, h]
  repeat' split
  all_goals first | rfl | (exfalso; omega) | skip
  all_goals first
    | (congr 1; omega)
    | (have h10 : i = 10 ∨ i = 11 := by omega
       rcases h10 with rfl | rfl <;> simp [h])
    | omega
theorem prs_ok {l : List (BitVec 8)} {y : StD} (h : prs l = (y, 0)) : y = stO l ∧ y.may = true ∧ y.by = l := by
  unfold prs at h
  split at h
  · rename_i he
    injection h with h1 h2
    exact absurd h2 he
  · rename_i he
    have he : (endO l).e = 0 := by omega
    split at h
    · injection h with h1 h2; cases h2
    · rename_i hc
      injection h with h1 h2
      subst h1
      have hmay : (stO l).may = true := by
        cases hq : (stO l).may
        · exact absurd (.inr hq) hc
        · rfl
      have hnil : (endO l).l = [] := List.eq_nil_of_length_eq_zero (by
        rcases Nat.eq_zero_or_pos (endO l).l.length with h | h
        · exact h
        · exact absurd (.inl h) hc)
      refine ⟨rfl, hmay, ?_⟩
      have h7 : (rd5 l).ns.ns.e = 0 := nm_e he
      have h6 : (rd5 l).ns.e = 0 := ns_e h7
      obtain ⟨d1, d2⟩ := read_l (r := rd4 l) (n := 4) (ns_e h6)
      obtain ⟨c1, c2⟩ := read_l (r := rd3 l) (n := 4) d2
      obtain ⟨b1, b2⟩ := read_l (r := rd2 l) (n := 1) c2
      obtain ⟨a1, _⟩ := read_l (r := RD.mk l 0) (n := 1) b2
      have s0 := slot_l h6
      have s1 := slot_l h7
      have ht : (stO l).tail = (rd5 l).ns.ns.l := by
        have hfl : (rd5 l).ns.ns.fl.e = 0 := by
          cases hi : (rd5 l).ns.ns.is
          · rw [endO, RD.nm, if_neg (by simp [hi])] at he; exact he
          · rw [endO, RD.nm, if_pos hi] at he; exact (nx_e he).1
        have hon : (stO l).on = (rd5 l).ns.ns.is := rfl
        have hm : (stO l).m = (rd5 l).ns.ns.mn := rfl
        cases hi : (rd5 l).ns.ns.is
        · obtain ⟨_, _, h1 | h1⟩ := flag_l hfl
          · rw [hi] at h1; cases h1.1
          · rw [endO, RD.nm, if_neg (by simp [hi])] at hnil
            rw [StD.tail, hon, hi, if_neg (by simp), h1.2, hnil]
        · obtain ⟨_, _, h1 | h1⟩ := flag_l hfl
          · rw [endO, RD.nm, if_pos hi] at hnil he
            obtain ⟨g1, _⟩ := read_l he
            have hmm := (may_iff.1 hmay).m
            rw [hon, hi, if_pos rfl, hm, RD.mn, if_pos hi] at hmm
            rw [StD.tail, hon, hi, if_pos rfl, hm, RD.mn, if_pos hi, h1.2]
            split
            · rw [manO_by (tk_len _ _)]
              rw [hnil, List.append_nil] at g1
              rw [← g1]
            · rename_i hq; rw [if_neg hq] at hmm; cases hmm
          · rw [hi] at h1; cases h1.1
      have e0 : (stO l).s0 = (rd5 l).sl := rfl
      have e1 : (stO l).s1 = (rd5 l).ns.sl := rfl
      obtain ⟨x, hx⟩ := list1 (tk_len (RD.mk l 0) 1)
      obtain ⟨z, hz⟩ := list1 (tk_len (rd2 l) 1)
      have ea : BitVec.ofInt 8 (stO l).a = x := by rw [show (stO l).a = ((num32 ((RD.mk l 0).tk 1)).toNat : Int) from rfl, hx, num32_one, byte_back]
      have et : BitVec.ofInt 8 (stO l).t = z := by rw [show (stO l).t = ((num32 ((rd2 l).tk 1)).toNat : Int) from rfl, hz, num32_one, byte_back]
      have ef : be4 (stO l).f = (rd3 l).tk 4 := be4_num32 (tk_len _ _)
      have eg : be4 (stO l).g = (rd4 l).tk 4 := be4_num32 (tk_len _ _)
      rw [StD.by, StD.head, ea, et, ef, eg, ht, e0, e1]
      have q5 : (rd5 l).l = _ := s0
      have q4 : (rd4 l).l = _ := d1
      have q3 : (rd3 l).l = _ := c1
      have q2 : (rd2 l).l = _ := b1
      have q1 : l = _ := a1
      conv => rhs; rw [q1, hx]
      show _ = [x] ++ (rd2 l).l
      rw [q2, hz]
      show _ = [x] ++ ([z] ++ (rd3 l).l)
      rw [q3]
      show _ = [x] ++ ([z] ++ ((rd3 l).tk 4 ++ (rd4 l).l))
      rw [q4]
      show _ = [x] ++ ([z] ++ ((rd3 l).tk 4 ++ ((rd4 l).tk 4 ++ (rd5 l).l)))
      rw [q5, s1]
      simp
theorem prs_e (l : List (BitVec 8)) : (prs l).2 = 0 ∨ (prs l = (zS, 2) ∨ prs l = (zS, 3)) := by
  have nx23 : ∀ (r : RD) (n : Nat), (r.e = 0 ∨ r.e = 2 ∨ r.e = 3) → ((r.nx n).e = 0 ∨ (r.nx n).e = 2 ∨ (r.nx n).e = 3) := fun r n h => by
    unfold RD.nx
    split
    · split
      · exact .inr (.inl rfl)
      · exact .inl rfl
    · exact h
  have fl23 : ∀ r : RD, (r.e = 0 ∨ r.e = 2 ∨ r.e = 3) → (r.fl.e = 0 ∨ r.fl.e = 2 ∨ r.fl.e = 3) := fun r h => by
    unfold RD.fl
    split
    · exact .inr (.inr rfl)
    · exact nx23 _ _ h
  have ns23 : ∀ r : RD, (r.e = 0 ∨ r.e = 2 ∨ r.e = 3) → (r.ns.e = 0 ∨ r.ns.e = 2 ∨ r.ns.e = 3) := fun r h => by
    unfold RD.ns
    split
    · exact nx23 _ _ (nx23 _ _ (nx23 _ _ (fl23 _ h)))
    · exact fl23 _ h
  have nm23 : ∀ r : RD, (r.e = 0 ∨ r.e = 2 ∨ r.e = 3) → (r.nm.e = 0 ∨ r.nm.e = 2 ∨ r.nm.e = 3) := fun r h => by
    unfold RD.nm
    split
    · exact nx23 _ _ (fl23 _ h)
    · exact fl23 _ h
  have he : (endO l).e = 0 ∨ (endO l).e = 2 ∨ (endO l).e = 3 := nm23 _ (ns23 _ (ns23 _ (nx23 (rd4 l) 4 (nx23 (rd3 l) 4 (nx23 (rd2 l) 1 (nx23 (RD.mk l 0) 1 (.inl rfl)))))))
  unfold prs
  rcases he with he | he | he
  · rw [if_neg (by omega)]
    split
    · exact .inr (.inr rfl)
    · exact .inl rfl
  · rw [if_pos (by omega), he]; exact .inr (.inl rfl)
  · rw [if_pos (by omega), he]; exact .inr (.inr rfl)
end Go.Dp
