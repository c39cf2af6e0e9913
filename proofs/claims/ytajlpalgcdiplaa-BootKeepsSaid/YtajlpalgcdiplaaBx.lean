/-
  An operation whose guard's own operation was passed over; elements of an array in a box at a place that is told.
  Conditions: none; it holds over whatever program.
-/
import Derived.Test.YtajlpalgcdiplaaBw
set_option linter.unusedVariables false
namespace Go.Dp
open Go.RowKit
theorem ls_guard_un {P : Program} {ops : Array Oper} {k : Kon} {rest : List Oper} {n : Nat} {e : Ev} {W : World} {H : List Hl} {d : Nat} {ty : TypeId} {pos : String} {af : Array Edge} {op : Op} {j : Nat} {b : Bool} {t : Nat} (hd : Nat.blt d n = true) (hj : (ops[j]?).bind (·.dst) = some t) (hl : look e t = some undef) (h : Ls P ops k rest n ((d, undef) :: e) W H) :
    Ls P ops k (⟨some d, op, ty, pos, af, some (j, b)⟩ :: rest) n e W H :=
  ⟨fun a w ho => by
    have hy : yielded ops a.tmps j = none := by simp [yielded, hj, ho.ev.get t _ hl, undef]
    have : ((none : Option Bool) == some b) = false := rfl
    unfold wpList
    simp only [Region.wanted, hy, this]
    exact h.out _ _ ⟨ho.ev.put hd undef, ho.ext, ho.sat⟩⟩
theorem ox_idx_arr {P : Program} {n : Nat} {H : List Hl} {e : Ev} {C : Value → List Hl → Prop} {ty : TypeId} {x y : Operand} {T E : TypeId} {z : Value} {by_ : Nat} {p : Int} {kd : IntKind} {b o m s : Nat} (i o' : Nat) [ht : TArr P T m E] [hi : TInf P E z s by_] (hx : opd e x = some (.pointer (some ⟨b, o, none⟩))) (hy : opd e y = some (.int kd p)) (hp : p = i) (hlt : i < m) (ho : o' = o + i * s)
    (h : C (.pointer (some ⟨b, o', none⟩)) H) : O1 P (.indexAddr T x y) ty n e H C :=
  o1_indexAddr_arr hx hy (by omega) (by
    subst hp ho
    simpa using h)
end Go.Dp
