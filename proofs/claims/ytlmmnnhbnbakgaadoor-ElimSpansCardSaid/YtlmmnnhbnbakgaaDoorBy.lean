/-
  An element of an array's value that has several cells; a pointer to a box against nil.
  Conditions: none; it holds over whatever program.
-/
import Derived.Test.YtlmmnnhbnbakgaaDoorBx
set_option linter.unusedVariables false
namespace Go.Dp
open Go.RowKit
theorem o1_index_agg {P : Program} {n : Nat} {H : List Hl} {e : Ev} {C : Value → List Hl → Prop} {ty : TypeId} {x y : Operand} {T E : TypeId} {z : Value} {by_ : Nat} {p : Int} {kd : IntKind} {m s : Nat} {vs ws : List Value} (i : Nat) [ht : TArr P T m E] [TAgg P E] [hi : TInf P E z s by_] (hx : opd e x = some (.agg vs.toArray)) (hy : opd e y = some (.int kd p)) (hp : p = i) (hlt : i < m) (hv : (vs.drop (i * s)).take s = ws)
    (h : C (.agg ws.toArray) H) : O1 P (.index T x y) ty n e H C :=
  o1_val _ (fun a w ho => by
    subst hp hv
    simp [execOp, ho.ev.eval hx, ho.ev.eval hy, Instr.index, asIntOf, run_underlying ht.u, hlt, run_sizeOf, part, run_isAgg_agg, Nat.add_sub_cancel_left, List.extract]) h
/-- A piece of code told by what holds behind it, whatever comes behind. -/
theorem st_viaK {P : Program} {k : Kon} {n : Nat} {e : Ev} {W : World} {H : List Hl} {co : Code} {X : Type} (e0 : X → Ev) (H0 : X → List Hl) (h : ∀ x, Nx P k n (e0 x) W (H0 x)) (r : ∀ k', (∀ x e' H', Covers e' (e0 x) → Ent H' (H0 x) → Nx P k' n e' W H') → St P co k' n e W H) : St P co k n e W H :=
  r k fun x _ _ hc hE => ⟨fun a w ho => (h x).out a w ⟨ho.ev.covers hc, ho.ext, ho.sat.mono hE.out⟩⟩
/-- append, its length told as that of the list. -/
theorem ox_appendL {P : Program} {n : Nat} {H : List Hl} {e : Ev} {C : Value → List Hl → Prop} {ty : TypeId} {x y : Operand} {α : Type} {enc : α → Value} {T E : TypeId} {z : Value} {by_ : Nat} {ad ad' : Option Addr} {c c' : Nat} {xs ys : List α} {H' : List Hl} [TSl P T E] [TInf P E z 1 by_] (hx : opd e x = some (.slice ad xs.length c)) (hy : opd e y = some (.slice ad' ys.length c'))
    [s : SRow H ad c xs.length E (xs.map enc) H'] (hr : RsH H enc ad' c' ys) (hz : z.oneCell' = true) (henc : ∀ x, (enc x).oneCell' = true) (hb : (xs.length + ys.length) * by_ ≤ 140737488355328) (hb2 : xs.length + ys.length ≤ 9223372036854775807)
    (h : ∀ ad2 c2, C (.slice ad2 (xs ++ ys).length c2) (.row E 1 (.slice ad2 (xs ++ ys).length c2) (xs ++ ys).length ((xs ++ ys).map enc) :: H')) :
    O1 P (.call ⟨.builtin .append, #[x, y], #[T, T]⟩) ty n e H C := ox_append hx hy hr rfl hz henc hb hb2 (fun ad2 c2 => by
  have := h ad2 c2
  rwa [List.length_append] at this)
end Go.Dp
