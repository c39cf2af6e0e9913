/-
  Pieces shut into one that is read, and opened again.
  Conditions: none; it holds over whatever program.
-/
import Derived.Test.YtbmackigabhkmaaBs
import Derived.Laws.Concat
set_option linter.unusedVariables false
namespace Go.Dp
open Go.RowKit
theorem ent_shut (R : List Hl) : ∀ (K : List Hl) (h : Hp), stars (K ++ R) h → stars (K ++ [.any (stars R)]) h
  | [], h, hh => ⟨h, fun _ => none, fun _ => .inr rfl, .refl _, fun _ _ e => (by cases e), hh, trivial⟩
  | x :: K, h, hh => sep_mono hh (fun _ a => a) (ent_shut R K)
theorem ent_open (R : List Hl) : ∀ (K : List Hl) (h : Hp), stars (K ++ [.any (stars R)]) h → stars (K ++ R) h
  | [], h, ⟨h1, h2, hd, s1, s2, ha, _⟩ => stars_up (L := R) ha s1
  | x :: K, h, hh => sep_mono hh (fun _ a => a) (ent_open R K)
theorem has_tail {x : Hl} {R : List Hl} (h : Has (x :: R)) : Has R := let ⟨w, hw⟩ := h; ⟨w, sep_right hw⟩
section
variable {P : Program} {k : Kon} {n : Nat} {e : Ev} {W : World} {H : List Hl} {co : Code}
theorem st_has (h : Has H → St P co k n e W H) : St P co k n e W H := ⟨fun a w ho => (h ⟨w, ho.sat⟩).out a w ho⟩
theorem nx_has (h : Has H → Nx P k n e W H) : Nx P k n e W H := ⟨fun a w ho => (h ⟨w, ho.sat⟩).out a w ho⟩
/-- What stands behind K is read from here on. -/
theorem st_shut (K R : List Hl) (h : St P co k n e W (K ++ [.any (stars R)])) : St P co k n e W (K ++ R) := st_ent (ent_shut R K) h
theorem st_open (K R : List Hl) (h : St P co k n e W (K ++ R)) : St P co k n e W (K ++ [.any (stars R)]) := st_ent (ent_open R K) h
theorem nx_open (K R : List Hl) (h : Nx P k n e W (K ++ R)) : Nx P k n e W (K ++ [.any (stars R)]) := nx_ent (ent_open R K) h
theorem rt_open (K R : List Hl) (h : Rt P k n e W (K ++ R)) : Rt P k n e W (K ++ [.any (stars R)]) := rt_ent (ent_open R K) h
theorem str_append (a b : List (BitVec 8)) : str a ++ str b = str (a ++ b) := by
  apply ByteArray.ext
  simp [str]
theorem str_size (a : List (BitVec 8)) : (str a).size = a.length := by simp [str, ByteArray.size]
theorem o1_stradd {C : Value → List Hl → Prop} {ty t t' : TypeId} {x y : Operand} {a b : List (BitVec 8)} (hx : opd e x = some (.string (str a))) (hy : opd e y = some (.string (str b))) (hb : a.length + b.length ≤ 9223372036854775807) (h : C (.string (str (a ++ b))) H) : O1 P (.binOp .add t x y t') ty n e H C :=
  o1_val _ (fun w w2 ho => by
    have h1 := run_string_add_sum (P := P) (w := w2) (str a) (str b) (by rw [str_size, str_size]; exact hb)
    rw [str_append] at h1
    simp [execOp, ho.ev.eval hx, ho.ev.eval hy, eqGuard_at_string, binOp_string_add, h1]) h
end
end Go.Dp
