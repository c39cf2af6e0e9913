/-
  The builtin copy into a box.
  Conditions: none; it holds over whatever program, the types' rows given as instances.
-/
import Derived.Test.YtlmmnnhbnbakgaaDoorBo
set_option linter.unusedVariables false
namespace Go.Dp
open Go.RowKit
theorem putL_map {α : Type} (enc : α → Value) : ∀ (ys xs pre : List α), ys.length ≤ xs.length → putL ((pre ++ xs).map enc) pre.length (ys.map enc) = (pre ++ (ys ++ xs.drop ys.length)).map enc
  | [], xs, pre, _ => by simp [putL]
  | y :: ys, [], pre, h => by simp at h
  | y :: ys, x :: xs, pre, h => by
    simp only [List.length_cons] at h
    have ih := putL_map enc ys xs (pre ++ [y]) (by omega)
    simp only [List.map_cons, putL]
    have e1 : ((pre ++ x :: xs).map enc).set pre.length (enc y) = ((pre ++ [y]) ++ xs).map enc := by simp
    rw [e1, show pre.length + 1 = (pre ++ [y]).length from by simp, ih]
    simp
section
variable {P : Program} {ops : Array Oper} {k : Kon} {rest : List Oper} {n : Nat} {e : Ev} {W : World} {H : List Hl}
variable {C : Value → List Hl → Prop} {ty : TypeId} {x y : Operand} {α : Type} {enc : α → Value} {T T2 E : TypeId} {z : Value} {by_ : Nat}
theorem ox_copy {b m0 l0 c0 c : Nat} {ad : Option Addr} {xs ys : List α} {H' : List Hl} [ht : TSl P T E] [hi : TInf P E z 1 by_] (hx : opd e x = some (.slice (some ⟨b, 0, none⟩) m0 c0)) (hy : opd e y = some (.slice ad l0 c))
    [s : SBox H b E (xs.map enc) H'] (hm : m0 = xs.length) (hr : RsH H enc ad c ys) (hl : l0 = ys.length) (henc : ∀ x, (enc x).oneCell' = true)
    (h : C (.int .i64 (min ys.length xs.length : Nat)) (.box b E ((ys.take xs.length ++ xs.drop ys.length).map enc) :: H')) : O1 P (.call ⟨.builtin .copy, #[x, y], #[T, T2]⟩) ty n e H C :=
  o1_step fun a w ho => by
    subst hm hl
    obtain ⟨i, hi0, hiz, his, hib⟩ := hi.info
    have hr := hr ho.has
    cases ad with
    | none =>
      have hn : ys = [] := by
        rcases ys with _ | ⟨q, ys⟩
        · rfl
        · obtain ⟨a, ha⟩ := hr.sm (by simp); cases ha
      subst hn
      refine ⟨_, w, ?_, _, h, .refl w, ?_⟩
      · simp [execOp, resolve, invoke, builtin, ho.ev.eval hx, ho.ev.eval hy, Builtin.copy_, run_underlying ht.u, Builtin.lenOf, Builtin.firstCells, sizeOf, typeInfo, hi0, storeCells, goInt]
      · simpa using sat_front ho.sat s.s
    | some p =>
      have hl := run_loadCells_list (P := P) w p ((ys.take xs.length).map enc) (fun j v hj => by
        simp only [List.getElem?_map, Option.map_eq_some_iff] at hj
        obtain ⟨u, hu, rfl⟩ := hj
        rw [List.getElem?_take] at hu
        split at hu
        · exact hr.cell w ho.sat p rfl j u hu
        · cases hu)
      obtain ⟨w', hst, hx', hsat⟩ := run_storeCells_sat (P := P) (i0 := 0) ((ys.take xs.length).map enc) 0 (xs.map enc) w (sat_front ho.sat s.s) (by simp; omega) (by
        intro v hv
        obtain ⟨u, _, rfl⟩ := List.mem_map.1 hv
        exact henc u)
      have hp := putL_map enc (ys.take xs.length) xs [] (by simp; omega)
      simp only [List.nil_append, List.length_nil] at hp
      rw [hp] at hsat
      have hd : xs.drop (ys.take xs.length).length = xs.drop ys.length := by
        simp only [List.length_take]
        rcases Nat.le_total xs.length ys.length with hle | hle
        · rw [Nat.min_eq_left hle, List.drop_eq_nil_of_le (Nat.le_refl _), List.drop_eq_nil_of_le hle]
        · rw [Nat.min_eq_right hle]
      rw [hd] at hsat
      have hlen : ((ys.take xs.length).map enc).length = min ys.length xs.length := by simp [Nat.min_comm]
      rw [hlen] at hl
      rw [List.map_take] at hst
      refine ⟨_, w', ?_, _, h, hx', hsat⟩
      simp [execOp, resolve, invoke, builtin, ho.ev.eval hx, ho.ev.eval hy, Builtin.copy_, run_underlying ht.u, Builtin.lenOf, Builtin.firstCells, sizeOf, typeInfo, hi0, his, hl, hst, goInt]

end
end Go.Dp
