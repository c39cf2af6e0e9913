/-
  Small helpers: rows at the end of a piece of code, slices from somewhere on, lists of bytes combined.
  Conditions: none; it holds over whatever program.
-/
import Derived.Test.YtlmmnnhbnbakgaaDoorBr
set_option linter.unusedVariables false
namespace Go.Dp
open Go.RowKit
theorem nx_row {P : Program} {k : Kon} {n : Nat} {e : Ev} {W : World} {H : List Hl} {b m cp : Nat} {T : TypeId} {cs : List Value} {H' : List Hl} [s : SBox H b T cs H'] (hcp : cs.length = cp) (hm : m = cp) (hb : cp ≤ 9223372036854775807)
    (h : Nx P k n e W (.row T 1 (.slice (some ⟨b, 0, none⟩) m cp) m cs :: H')) : Nx P k n e W H := by
  subst hm
  have hE := ent_row_of_box (m := m) (cp := m) s.s hcp (Nat.le_refl _) hb
  rw [List.take_of_length_le (by omega)] at hE
  exact nx_ent hE h
theorem rt_row {P : Program} {k : Kon} {n : Nat} {e : Ev} {W : World} {H : List Hl} {b m cp : Nat} {T : TypeId} {cs : List Value} {H' : List Hl} [s : SBox H b T cs H'] (hcp : cs.length = cp) (hm : m = cp) (hb : cp ≤ 9223372036854775807)
    (h : Rt P k n e W (.row T 1 (.slice (some ⟨b, 0, none⟩) m cp) m cs :: H')) : Rt P k n e W H := by
  subst hm
  have hE := ent_row_of_box (m := m) (cp := m) s.s hcp (Nat.le_refl _) hb
  rw [List.take_of_length_le (by omega)] at hE
  exact rt_ent hE h
theorem o1_cs_l {P : Program} {n : Nat} {H : List Hl} {e : Ev} {C : Value → List Hl → Prop} {ty : TypeId} {x ol : Operand} {α : Type} {T E : TypeId} {z : Value} {by_ : Nat} {p : Int} {kd : IntKind} {ad : Option Addr} {c l0 : Nat} {xs : List α} (lo : Nat) [ht : TSl P T E] [hi' : TInf P E z 1 by_] (hx : opd e x = some (.slice ad l0 c)) (hl : opd e ol = some (.int kd p)) (hp : p = lo) (h0 : l0 = xs.length) (h2 : lo ≤ xs.length)
    (h : C (.slice (cutA ad c lo) (xs.drop lo).length (c - lo)) H) : O1 P (.slice T x (some ol) none none) ty n e H C := by
  subst hp h0
  have hlen : (xs.drop lo).length = xs.length - lo := by simp
  rw [hlen] at h
  exact o1_slice_l (lo := lo) hx hl (by omega) (by simpa [cutA] using h)
/-- The address of an element. -/
def idxA (ad : Option Addr) (i : Nat) : Addr := (ad.getD ⟨0, 0, none⟩).add i
section
variable {P : Program} {n : Nat} {H : List Hl} {e : Ev} {C : Value → List Hl → Prop} {ty : TypeId} {x y : Operand} {α : Type} {A : Hp → Prop} {enc : α → Value} {T E : TypeId} {z : Value} {by_ : Nat} {p : Int} {kd : IntKind} {ad : Option Addr} {c l0 : Nat} {xs : List α}
theorem o1_ia (i : Nat) [ht : TSl P T E] [hi : TInf P E z 1 by_] (hx : opd e x = some (.slice ad l0 c)) (hy : opd e y = some (.int kd p)) (hr : Rs A enc ad c xs) (h0 : l0 = xs.length) (hp : p = i) (hl : i < xs.length)
    (h : C (.pointer (some (idxA ad i))) H) : O1 P (.indexAddr T x y) ty n e H C := by
  obtain ⟨a0, rfl⟩ := hr.sm (by omega)
  subst hp h0
  refine o1_val _ (fun a w ho => ?_) h
  simp [execOp, ho.ev.eval hx, ho.ev.eval hy, Instr.indexAt, asIntOf, run_underlying ht.u, hl, run_sizeOf, idxA]
theorem Rs.at {i : Nat} (hr : Rs A enc ad c xs) (hl : i < xs.length) : Cl A (idxA ad i) (enc xs[i]) := by
  obtain ⟨a0, rfl⟩ := hr.sm (by omega)
  exact ⟨fun w hs => hr.cell w hs a0 rfl i _ (by simp [hl])⟩
theorem o1_load_ia (i : Nat) {T : TypeId} [TOne P T] {H' : List Hl} (hx : opd e x = some (.pointer (some (idxA ad i)))) (hr : Rs A enc ad c xs) (hl : i < xs.length) [s : SAny H A H'] (h : C (enc xs[i]) H) : O1 P (.load T x) ty n e H C := ox_load_any hx (hr.at hl) h
/-- The same, of what stands now. -/
theorem o1_iah (i : Nat) [ht : TSl P T E] [hi : TInf P E z 1 by_] (hx : opd e x = some (.slice ad l0 c)) (hy : opd e y = some (.int kd p)) (hr : RsH H enc ad c xs) (h0 : l0 = xs.length) (hp : p = i) (hl : i < xs.length)
    (h : C (.pointer (some (idxA ad i))) H) : O1 P (.indexAddr T x y) ty n e H C :=
  ⟨fun a w ho o h1 h2 K Q hK => (o1_ia i hx hy (hr ho.has) h0 hp hl h).out a w ho o h1 h2 K Q hK⟩
theorem o1_load_iah (i : Nat) {T : TypeId} [TOne P T] (hx : opd e x = some (.pointer (some (idxA ad i)))) (hr : RsH H enc ad c xs) (hl : i < xs.length) (h : C (enc xs[i]) H) : O1 P (.load T x) ty n e H C :=
  ⟨fun a w ho o h1 h2 K Q hK => (o1_load_h hx ((hr ho.has).at hl) h).out a w ho o h1 h2 K Q hK⟩
end
theorem o1_neg {P : Program} {n : Nat} {H : List Hl} {e : Ev} {C : Value → List Hl → Prop} {ty t : TypeId} {x : Operand} {p : Int} (hx : opd e x = some (.int .i64 p)) (hb : -9223372036854775808 ≤ -p ∧ -p ≤ 9223372036854775807) (h : C (.int .i64 (-p)) H) : O1 P (.unOp .neg t x) ty n e H C :=
  o1_val _ (fun a w ho => by
    have hw := wrap_in hb.1 hb.2
    simp [execOp, ho.ev.eval hx, unary_neg, Op.intArith, hw]) h
/-- An element of a row of one's own, in a box. -/
theorem o1_own {P : Program} {n : Nat} {H : List Hl} {e : Ev} {C : Value → List Hl → Prop} {ty : TypeId} {x y : Operand} {T E : TypeId} {z : Value} {by_ : Nat} {p : Int} {kd : IntKind} {b c l : Nat} (i : Nat) [ht : TSl P T E] [hi : TInf P E z 1 by_] (hx : opd e x = some (.slice (some ⟨b, 0, none⟩) l c)) (hy : opd e y = some (.int kd p)) (hp : p = i) (hl : i < l)
    (h : C (.pointer (some ⟨b, i, none⟩)) H) : O1 P (.indexAddr T x y) ty n e H C := by
  subst hp
  refine o1_indexAddr_own hx hy (by omega) ?_
  have : 0 + (i : Int).toNat * 1 = i := by omega
  rw [this]
  exact h
theorem bs_len {ad : Option Addr} {c z : Nat} {l : List (BitVec 8)} (h : l.length = z) : [Value.slice ad z c] = [(⟨ad, c, l⟩ : SlD (BitVec 8))].map Bs := by simp [Bs, h]
/-- Bytes against bytes. -/
def xorL (a b : List (BitVec 8)) : List (BitVec 8) := List.zipWith (· ^^^ ·) a b
theorem xorL_len (a b : List (BitVec 8)) (h : a.length = b.length) : (xorL a b).length = a.length := by simp [xorL]; omega
/-- The first i done, the rest as it was. -/
def partL {α : Type} (a b : List α) (i : Nat) : List α := a.take i ++ b.drop i
theorem partL_len {α : Type} {a b : List α} (h : a.length = b.length) (i : Nat) : (partL a b i).length = b.length := by simp [partL]; omega
theorem partL_zero {α : Type} (a b : List α) : partL a b 0 = b := rfl
theorem partL_full {α : Type} {a b : List α} {i : Nat} (h : a.length = b.length) (hi : i = b.length) : partL a b i = a := by
  subst hi; simp [partL, ← h]
theorem partL_succ {α : Type} {a b : List α} {i : Nat} (h : a.length = b.length) (hi : i < a.length) : (partL a b i).set i a[i] = partL a b (i + 1) := by
  apply List.ext_getElem?
  intro j
  simp only [partL, List.getElem?_set, List.getElem?_append, List.length_append, List.length_take, List.length_drop, List.getElem?_take, List.getElem?_drop]
  repeat' split
  all_goals first | rfl | (exfalso; omega) | skip
  all_goals simp_all
  all_goals (congr 1; omega)
theorem partL_at {α : Type} {a b : List α} {i j : Nat} (h : a.length = b.length) (hij : i ≤ j) (hj : j < (partL a b i).length) : (partL a b i)[j] = b[j]'(by rw [partL_len h] at hj; exact hj) := by
  have hl := partL_len h i
  simp only [partL] at hj ⊢
  rw [List.getElem_append_right (by simp; omega)]
  simp only [List.getElem_drop, List.length_take]
  congr 1
  simp at hj
  omega
theorem partL_lo {α : Type} {a b : List α} {i j : Nat} (h : a.length = b.length) (hij : j < i) (hj : j < (partL a b i).length) : (partL a b i)[j] = a[j]'(by rw [partL_len h] at hj; omega) := by
  have hl := partL_len h i
  simp only [partL] at hj ⊢
  rw [List.getElem_append_left (by rw [partL_len h] at hl; simp at hj ⊢; omega)]
  simp
end Go.Dp
