/-
  append onto a slice without room.
  Conditions: none; it holds over whatever program.
-/
import Derived.Test.YtibopcmgjmhcjaaCa
import Derived.Test.YtibopcmgjmhcjaaBv
set_option linter.unusedVariables false
namespace Go.Dp
open Go.RowKit
theorem own_grown (w : World) (z : Value) (E : TypeId) (xs : List Value) (m : Nat) (hm : xs.length = m) (hz : z.oneCell' = true) (h63 : m ≤ maxLen) (row : Option Nat) :
    (w.drew.alloc (.cells (xs.toArray ++ Builtin.zeroCells z.cells (grownCap w m 0 E - m)) E)).ownsRow 0 E 1 (.slice (some ⟨w.heap.size, 0, none⟩) m (grownCap w m 0 E)) m xs ∧
      w.grownBy (w.drew.alloc (.cells (xs.toArray ++ Builtin.zeroCells z.cells (grownCap w m 0 E - m)) E)) row := by
  have hzc : z.cells.size = 1 := by rw [oneCell_cells hz]; rfl
  have hge := grownCap_ge w m 0 E
  have hcm : grownCap w m 0 E ≤ maxLen := grownCap_le_maxLen w m 0 E h63
  refine ⟨⟨by omega, .inr ⟨w.heap.size, _, _, rfl, Nat.zero_le _, _root_.Go.heap_alloc_new w.drew _, hge, hcm, ?_, ?_⟩⟩, ⟨rfl, rfl, rfl, by simp, fun k hk _ => _root_.Go.heap_alloc_old w.drew _ hk⟩⟩
  · simp only [Array.size_append, List.size_toArray, size_zeroCells, hzc, hm]
    omega
  · simp only [Array.toList_append, Nat.mul_one, ← hm]
    exact List.take_left
section
variable {P : Program} {n : Nat} {H : List Hl} {e : Ev} {C : Value → List Hl → Prop} {ty : TypeId} {x y : Operand}
theorem ox_append_0 {α : Type} {enc : α → Value} {T E : TypeId} {z : Value} {by_ : Nat} {ad ad' : Option Addr} {m c' : Nat} {ys : List α} [ht : TSl P T E] [hi : TInf P E z 1 by_] (hx : opd e x = some (.slice ad 0 0)) (hy : opd e y = some (.slice ad' m c')) (hr : RsH H enc ad' c' ys) (hm : m = ys.length) (hne : 0 < m) (hz : z.oneCell' = true)
    (hb : m * by_ ≤ 140737488355328) (hb2 : m ≤ 9223372036854775807) (h : ∀ ad2 c2, C (.slice ad2 m c2) (.row E 1 (.slice ad2 m c2) m (ys.map enc) :: H)) : O1 P (.call ⟨.builtin .append, #[x, y], #[T, T]⟩) ty n e H C :=
  o1_step fun a w ho => by
    subst hm
    obtain ⟨i, hi0, hiz, his, hib⟩ := hi.info
    have hr := hr ho.has
    obtain ⟨b, rfl⟩ := hr.sm hne
    subst hib
    have hnews : ∀ j v, (ys.map enc)[j]? = some v → w.cell? (b.add j) = some v := fun j u hj => by
      simp only [List.getElem?_map, Option.map_eq_some_iff] at hj
      obtain ⟨x, hx, rfl⟩ := hj
      exact hr.cell w ho.sat b rfl j x hx
    have hrun : (Builtin.append_ #[T, T] ty #[.slice ad 0 0, .slice (some b) ys.length c']).run P w = .ok (.slice (some ⟨w.heap.size, 0, none⟩) ys.length (grownCap w ys.length 0 E)) (w.drew.alloc (.cells ((ys.map enc).toArray ++ Builtin.zeroCells z.cells (grownCap w ys.length 0 E - ys.length)) E)) := by
      have hfit : Builtin.nextslicecap ys.length 0 * i.bytes ≤ 281474976710656 := growslice_fits (by omega) hb
      cases ad with
      | none =>
        exact run_append_nil (P := P) w T ty E i z ht.u hi0 hiz b ys.length c' (ys.map enc) (by rw [his]; simp) hnews hne (by omega) (by omega)
      | some b0 =>
        have := run_append_grow (P := P) w T ty E i z ht.u hi0 hiz b0 0 0 [] (by simp) (by simp) b ys.length c' (ys.map enc) (by rw [his]; simp) hnews (by omega) (by omega) (by rw [Nat.zero_add]; exact hfit)
        simpa using this
    have hg := own_grown w z E (ys.map enc) ys.length (by simp) hz (by simp only [maxLen]; omega) (Value.ownBlock (.slice none 0 0))
    refine ⟨_, _, ?_, _, h _ _, ⟨hg.2.os, hg.2.tape, hg.2.output, hg.2.size⟩, (ho.sat.mono (ent_nil_row E 1)).grown .here hg.1 hg.2 (.inr rfl)⟩
    simp [execOp, resolve, invoke, builtin, ho.ev.eval hx, ho.ev.eval hy, hrun]
theorem o1_cs_00 {T E : TypeId} {z : Value} {by_ l c : Nat} {ad : Option Addr} {kd kd' : IntKind} {oh om : Operand} [ht : TSl P T E] [hi' : TInf P E z 1 by_] (hx : opd e x = some (.slice ad l c)) (hh : opd e oh = some (.int kd 0)) (hm : opd e om = some (.int kd' 0)) (h : C (.slice ad 0 0) H) : O1 P (.slice T x none (some oh) (some om)) ty n e H C := by
  have := o1_slice_hm (P := P) (n := n) (ty := ty) (e := e) (H := H) (C := C) (T := T) (x := x) (ad := ad) (l := l) (c := c) (hi := 0) (mx := 0) (oh := oh) (om := om) (kd := kd) (kd' := kd') hx hh hm (Nat.le_refl _) (Nat.zero_le _)
  exact this (by simpa using h)
end
end Go.Dp
