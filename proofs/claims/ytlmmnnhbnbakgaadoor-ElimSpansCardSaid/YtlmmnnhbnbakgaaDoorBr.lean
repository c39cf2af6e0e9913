/-
  Arrays that stand in a box of their own, loaded and stored whole.
  Conditions: none; it holds over whatever program, the types' rows given as instances.
-/
import Derived.Test.YtlmmnnhbnbakgaaDoorBq
set_option linter.unusedVariables false
namespace Go.Dp
open Go.RowKit
theorem putL_all : ∀ (vs cs pre : List Value), vs.length = cs.length → putL (pre ++ cs) pre.length vs = pre ++ vs
  | [], [], pre, _ => by simp [putL]
  | v :: vs, c :: cs, pre, h => by
    simp only [putL]
    have e : (pre ++ c :: cs).set pre.length v = (pre ++ [v]) ++ cs := by simp
    rw [e, show pre.length + 1 = (pre ++ [v]).length from by simp, putL_all vs cs (pre ++ [v]) (by simpa using h)]
    simp
section
variable {P : Program} {ops : Array Oper} {k : Kon} {rest : List Oper} {n : Nat} {e : Ev} {W : World} {H : List Hl}
variable {C : Value → List Hl → Prop} {ty : TypeId} {x y : Operand} {α : Type} {enc : α → Value} {T E : TypeId} {z : Value} {by_ : Nat} {p q : Int} {kd kd' : IntKind}
theorem ox_load_full {T T' : TypeId} {z : Value} {s by_ : Nat} [TAgg P T] [TInf P T z s by_] {b : Nat} {l : List α} {H' : List Hl} (hx : opd e x = some (.pointer (some ⟨b, 0, none⟩)))
    [sl : SBox H b T' (l.map enc) H'] (hs : l.length = s) (h : C (.agg (l.map enc).toArray) H) : O1 P (.load T x) ty n e H C := ox_load_agg hx (by rw [List.drop_zero, List.take_of_length_le (by simp; omega)]) (by simpa using hs) h
theorem ox_store_full {T T' : TypeId} {z : Value} {s by_ : Nat} [TInf P T z s by_] {b : Nat} {l : List α} {cs : List Value} {H' : List Hl} (hx : opd e x = some (.pointer (some ⟨b, 0, none⟩))) (hy : opd e y = some (.agg (l.map enc).toArray))
    [sb : SBox H b T' cs H'] (hs : l.length = s) (hc : cs.length = s) (h1 : ∀ v, (enc v).oneCell' = true) (h : C undef (.box b T' (l.map enc) :: H')) : O1 P (.store T x y) ty n e H C :=
  ox_store_agg hx hy (by simpa using hs) (by simp; omega) (fun v hv => by
    obtain ⟨u, _, rfl⟩ := List.mem_map.1 hv
    exact h1 u) (by have := putL_all (l.map enc) cs [] (by simp; omega); simpa using this) h
/-- An element of an array in a box. -/
theorem ox_index_arr {m b : Nat} [ht : TArr P T m E] [hi : TInf P E z 1 by_] (i : Nat) (hx : opd e x = some (.pointer (some ⟨b, 0, none⟩))) (hy : opd e y = some (.int kd p)) (hp : p = i) (hlt : i < m)
    (h : C (.pointer (some ⟨b, i, none⟩)) H) : O1 P (.indexAddr T x y) ty n e H C :=
  o1_indexAddr_arr hx hy (by omega) (by
    have : (0 : Nat) + p.toNat * 1 = i := by omega
    rw [this]
    exact h)
/-- An element of an array that is a value. -/
theorem o1_index_enc {m : Nat} {l : List α} [ht : TArr P T m E] [TOne P E] [hi : TInf P E z 1 by_] (i : Nat) (hx : opd e x = some (.agg (l.map enc).toArray)) (hy : opd e y = some (.int kd p)) (hp : p = i) (hlt : i < m) (hl : i < l.length)
    (h : C (enc l[i]) H) : O1 P (.index T x y) ty n e H C :=
  o1_index_arr hx hy (by omega) (by
    have : p.toNat = i := by omega
    rw [this]; simp [hl]) h
theorem Rs.cuth {A : Hp → Prop} {ad : Option Addr} {c : Nat} {l : List α} (h : Rs A enc ad c l) (hi : Nat) (h2 : hi ≤ l.length) : Rs A enc (cutA ad c 0) (c - 0) (l.take hi) := by
  have := h.cutv 0 hi (Nat.zero_le _) h2
  rwa [List.drop_zero] at this
theorem o1_cs_h {ad : Option Addr} {c l0 : Nat} {xs : List α} {oh : Operand} (hi : Nat) [ht : TSl P T E] [hi' : TInf P E z 1 by_] (hx : opd e x = some (.slice ad l0 c)) (hh : opd e oh = some (.int kd' q)) (hq : q = hi) (h0 : l0 = xs.length) (hc : xs.length ≤ c) (h2 : hi ≤ xs.length)
    (h : C (.slice (cutA ad c 0) (xs.take hi).length (c - 0)) H) : O1 P (.slice T x none (some oh) none) ty n e H C := by
  subst hq
  have hlen : (xs.take hi).length = hi := by simp; omega
  rw [hlen] at h
  exact o1_slice_h (hi := hi) hx hh (by omega) (by simpa [cutA] using h)
/-- An element of a slice that is read, wherever it stands now. -/
theorem o1_idx_h {ad : Option Addr} {c l0 : Nat} {xs : List α} (i : Nat) [ht : TSl P T E] [hi : TInf P E z 1 by_] (hx : opd e x = some (.slice ad l0 c)) (hy : opd e y = some (.int kd p)) (hr : RsH H enc ad c xs) (h0 : l0 = xs.length) (hp : p = i) (hl : i < xs.length)
    (h : ∀ a, Cl (stars H) a (enc xs[i]) → C (.pointer (some a)) H) : O1 P (.indexAddr T x y) ty n e H C := by
  subst h0
  exact ⟨fun a w ho o h1 h2 K Q hK => (o1_indexAddr_rd hx hy (hr ho.has) i hp hl h).out a w ho o h1 h2 K Q hK⟩
theorem o1_load_h {T : TypeId} [TOne P T] {a : Addr} {v : Value} (hx : opd e x = some (.pointer (some a))) (hv : Cl (stars H) a v) (h : C v H) : O1 P (.load T x) ty n e H C :=
  o1_val v (fun f w ho => by
    have hc := hv.cell w ho.sat
    simp [execOp, ho.ev.eval hx, Instr.loadAt, Instr.sureAddr, loadVar, run_isAgg_one, hc]) h
theorem two_of {ls : List (SlD (BitVec 8))} {x y : List (BitVec 8)} (h : ls.map (·.l) = [x, y]) : ∃ s0 s1 : SlD (BitVec 8), ls = [s0, s1] ∧ s0.l = x ∧ s1.l = y := by
  match ls, h with
  | [a, b], h => simp at h; exact ⟨a, b, rfl, h.1, h.2⟩
theorem row_prefix {T : TypeId} {ad : Option Addr} {N c m : Nat} {vs : List Value} (hm : m ≤ N) : ∀ h, Hl.den (.row T 1 (.slice ad N c) N vs) h → Hl.den (.row T 1 (.slice ad m c) m (vs.take m)) h := by
  rintro h ⟨hl, h1 | ⟨g, cap, cur, hv, hh, a1, a2, a3, a4⟩⟩
  · obtain ⟨hv, hn, he⟩ := h1
    injection hv with e1 e2 e3
    subst e1 e3
    have : m = 0 := by omega
    subst this
    exact ⟨by simp, .inl ⟨rfl, rfl, he⟩⟩
  · injection hv with e1 e2 e3
    subst e1 e3
    refine ⟨by simp; omega, .inr ⟨g, _, cur, rfl, hh, by omega, a2, a3, ?_⟩⟩
    rw [← a4, List.take_take, Nat.mul_one, Nat.mul_one, Nat.min_eq_left hm]
/-- The first elements of a row, as a row. -/
theorem o1_prefix {ad : Option Addr} {N c : Nat} {xs : List α} {oh : Operand} {H' : List Hl} (m : Nat) [ht : TSl P T E] [hi' : TInf P E z 1 by_] (hx : opd e x = some (.slice ad N c)) (hh : opd e oh = some (.int kd' q)) (hq : q = m) [s : SRow H ad c N E (xs.map enc) H'] (hm : m ≤ N) (hN : N = xs.length)
    (h : C (.slice ad m c) (.row E 1 (.slice ad m c) m ((xs.take m).map enc) :: H')) : O1 P (.slice T x none (some oh) none) ty n e H C := by
  subst hq
  refine ⟨fun a w ho o h1 h2 K Q hK => O1.out ?_ a w ho o h1 h2 K Q hK⟩
  have hc : N ≤ c := by
    subst hN
    exact (rx_row (α := α) (H := H) (H' := H') (T := E) (n := xs.length) (ad := ad) (c := c) (enc := enc) (l := xs) ho.has).le
  refine O1.ent (H2 := .row E 1 (.slice ad m c) m ((xs.map enc).take m) :: H') (fun h hh => sep_mono (s.s.out h hh) (fun h' hr => row_prefix hm h' hr) (fun _ a => a)) ?_
  rw [← List.map_take]
  refine o1_slice_h (hi := m) hx hh (by omega) ?_
  have e1 : (if c = 0 then ad else ad.map (·.add (0 * 1))) = ad := by
    split
    · rfl
    · cases ad <;> simp [Addr.add]
  rw [e1]
  exact h
end
end Go.Dp
