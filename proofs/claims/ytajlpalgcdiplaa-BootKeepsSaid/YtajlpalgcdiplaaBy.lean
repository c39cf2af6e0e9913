/-
  An element of an array's value that has several cells; a pointer to a box against nil.
  Conditions: none; it holds over whatever program.
-/
import Derived.Test.YtajlpalgcdiplaaBx
set_option linter.unusedVariables false
namespace Go.Dp
open Go.RowKit
theorem o1_index_agg {P : Program} {n : Nat} {H : List Hl} {e : Ev} {C : Value → List Hl → Prop} {ty : TypeId} {x y : Operand} {T E : TypeId} {z : Value} {by_ : Nat} {p : Int} {kd : IntKind} {m s : Nat} {vs ws : List Value} (i : Nat) [ht : TArr P T m E] [TAgg P E] [hi : TInf P E z s by_] (hx : opd e x = some (.agg vs.toArray)) (hy : opd e y = some (.int kd p)) (hp : p = i) (hlt : i < m) (hv : (vs.drop (i * s)).take s = ws)
    (h : C (.agg ws.toArray) H) : O1 P (.index T x y) ty n e H C :=
  o1_val _ (fun a w ho => by
    subst hp hv
    simp [execOp, ho.ev.eval hx, ho.ev.eval hy, Instr.index, asIntOf, run_underlying ht.u, hlt, run_sizeOf, part, run_isAgg_agg, Nat.add_sub_cancel_left, List.extract]) h
end Go.Dp
