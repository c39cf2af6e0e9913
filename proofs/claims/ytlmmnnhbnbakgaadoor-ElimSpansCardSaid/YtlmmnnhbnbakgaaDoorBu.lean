/-
  A row of one's own, written into; one of many rows taken out and put back.
  Conditions: none; it holds over whatever program.
-/
import Derived.Test.YtlmmnnhbnbakgaaDoorBt
set_option linter.unusedVariables false
namespace Go.Dp
open Go.RowKit
theorem row_box {T : TypeId} {ad : Option Addr} {n c : Nat} {xs : List Value} {h : Hp} (hn : 0 < n) (hr : Hl.den (.row T 1 (.slice ad n c) n xs) h) : ∃ g cs, ad = some ⟨g, 0, none⟩ ∧ Hl.den (.box g T cs) h ∧ cs.length = c ∧ n ≤ c ∧ c ≤ 9223372036854775807 ∧ cs.take n = xs := by
  obtain ⟨hl, ⟨hv, h0, _⟩ | ⟨g, cap, cur, hv, hh, h1, h2, h3, h4⟩⟩ := hr
  · omega
  · injection hv with e1 e2 e3
    subst e1 e3
    refine ⟨g, cur.toList, rfl, ?_, by simp [h3], h1, h2, by rw [← h4, Nat.mul_one]⟩
    show h = _
    rw [hh]
section
variable {P : Program} {n : Nat} {H : List Hl} {e : Ev} {C : Value → List Hl → Prop} {ty : TypeId} {x y : Operand}
/-- An element of a row stored. -/
theorem ox_store_row (k : Nat) {T2 T : TypeId} {z : Value} {by_ : Nat} [TInf P T2 z 1 by_] {ad : Option Addr} {m c : Nat} {xs : List Value} {v : Value} {H' : List Hl} (hx : opd e x = some (.pointer (some (idxA ad k)))) (hy : opd e y = some v)
    [s : SRow H ad c m T xs H'] (hk : k < m) (h1 : v.oneCell' = true) (h : C undef (.row T 1 (.slice ad m c) m (xs.set k v) :: H')) : O1 P (.store T2 x y) ty n e H C :=
  ⟨fun a w ho o ho1 ho2 K Q hK => by
    have hs := sat_front ho.sat s.s
    obtain ⟨h0, hw, r1, r2, hd, s1, s2, hr, hrest⟩ := hs
    obtain ⟨g, cs, had, hbox, hcl, hmc, hcb, htk⟩ := row_box (by omega) hr
    subst had
    have hsat : sat w (stars (.box g T cs :: H')) := ⟨h0, hw, r1, r2, hd, s1, s2, hbox, hrest⟩
    have e1 : idxA (some ⟨g, 0, none⟩) k = ⟨g, k, none⟩ := by
      simp only [idxA, Option.getD_some]
      by_cases hk0 : k = 0
      · subst hk0; simp [Addr.add]
      · simp [Addr.add, hk0]
    rw [e1] at hx
    refine (o1_store (P := P) (T := T2) (ty := ty) (n := n) (e := e) (H := .box g T cs :: H') (C := fun v' K => v' = undef ∧ K = .box g T (cs.set k v) :: H') hx hy .here (by omega) h1 ⟨rfl, rfl⟩).out a w ⟨ho.ev, hsat⟩ o ho1 ho2 K Q ?_
    rintro v' w' H2 ⟨rfl, rfl⟩ hx2 hs2
    refine hK _ _ _ h hx2 (hs2.mono fun hh h3 => ?_)
    have := ent_row_of_box (m := m) (cp := c) (.here : Sel (.box g T (cs.set k v) :: H') _ _) (by simpa using hcl) hmc hcb hh h3
    rw [List.take_set, htk] at this
    exact this⟩
theorem ox_store_rowenc {α : Type} (enc : α → Value) (k : Nat) {T2 T : TypeId} {z : Value} {by_ : Nat} [TInf P T2 z 1 by_] {ad : Option Addr} {m c : Nat} {l : List α} {v : α} {H' : List Hl} (hx : opd e x = some (.pointer (some (idxA ad k)))) (hy : opd e y = some (enc v))
    [s : SRow H ad c m T (l.map enc) H'] (hk : k < m) (h1 : (enc v).oneCell' = true) (h : C undef (.row T 1 (.slice ad m c) m ((l.set k v).map enc) :: H')) : O1 P (.store T2 x y) ty n e H C :=
  ox_store_row k hx hy hk h1 (by rw [← List.map_set]; exact h)
end
/-- All of these rows but the i-th. -/
def pcsBut (T : TypeId) (ls : List (SlD (BitVec 8))) (i : Nat) : Hp → Prop := stars ((ls.take i ++ ls.drop (i + 1)).map (rowOf T))
theorem stars_mid (A B : List Hl) (x : Hl) : ∀ h, stars (A ++ x :: B) h → stars (x :: (A ++ B)) h := by
  induction A with
  | nil => exact fun _ h => h
  | cons y A ih => exact fun h hh => sep_assoc (sep_mono (sep_assoc' (sep_mono hh (fun _ a => a) ih)) (fun _ => sep_comm) (fun _ a => a))
theorem stars_mid' (A B : List Hl) (x : Hl) : ∀ h, stars (x :: (A ++ B)) h → stars (A ++ x :: B) h := by
  induction A with
  | nil => exact fun _ h => h
  | cons y A ih => exact fun h hh => sep_mono (sep_assoc (sep_mono (sep_assoc' hh) (fun _ => sep_comm) (fun _ a => a))) (fun _ a => a) ih
theorem pcs_take {T : TypeId} {ls : List (SlD (BitVec 8))} {R : List Hl} (i : Nat) (hi : i < ls.length) : ∀ h, stars (.any (pcs T ls) :: R) h → stars (rowOf T ls[i] :: .any (pcsBut T ls i) :: R) h := fun h hh => by
  refine sep_assoc (sep_mono hh (fun h' x => ?_) (fun _ a => a))
  have e : ls = ls.take i ++ ls[i] :: ls.drop (i + 1) := by rw [List.getElem_cons_drop, List.take_append_drop]
  have x' : stars (ls.map (rowOf T)) h' := x
  rw [e, List.map_append, List.map_cons] at x'
  have y := stars_mid _ _ _ h' x'
  rw [← List.map_append] at y
  exact y
theorem pcs_put {T : TypeId} {ls : List (SlD (BitVec 8))} {R : List Hl} (i : Nat) (hi : i < ls.length) (s : SlD (BitVec 8)) : ∀ h, stars (rowOf T s :: .any (pcsBut T ls i) :: R) h → stars (.any (pcs T (ls.set i s)) :: R) h := fun h hh => by
  refine sep_mono (sep_assoc' hh) (fun h' x => ?_) (fun _ a => a)
  show stars ((ls.set i s).map (rowOf T)) h'
  have e : ls.set i s = ls.take i ++ s :: ls.drop (i + 1) := by rw [List.set_eq_take_append_cons_drop, if_pos hi]
  rw [e, List.map_append, List.map_cons]
  refine stars_mid' _ _ _ h' ?_
  rw [← List.map_append]
  exact x
end Go.Dp
