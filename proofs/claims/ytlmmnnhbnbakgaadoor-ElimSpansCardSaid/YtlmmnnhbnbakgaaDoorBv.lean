/-
  Noughts appended to a row of one's own.
  Conditions: none; it holds over whatever program, the types' rows given as instances.
-/
import Derived.Test.YtlmmnnhbnbakgaaDoorBu
import Derived.Lib.AppendZerosOnto
import Derived.Maps.AppendAt
set_option linter.unusedVariables false
namespace Go.Dp
open Go.RowKit
theorem zeroCells_one (z : Value) (k : Nat) (hz : z.oneCell' = true) : Builtin.zeroCells z.cells k = (List.replicate k z).toArray := by
  apply Array.ext'
  rw [oneCell_cells hz]
  have := toList_madeCells_one z k
  unfold madeCells at this
  simpa [Builtin.zeroCells] using this
theorem run_append_own_zeros {P : Program} (w : World) (t tn ty e : TypeId) (i : TypeInfo) (z : Value) (kn kq : IntKind) (ht : P.underlying t = some (.slice e)) (htn : P.underlying tn = some (.int kn)) (hi : P.info? e = some i) (hz : i.zero = some z)
    (hsize : i.size = 1) (hzs : z.oneCell' = true) (v : Value) (n : Nat) (xs : List Value) (hown : w.ownsRow 0 e 1 v n xs) (k : Nat) (h63 : n + k ≤ maxLen) (hbytes : (n + k) * i.bytes ≤ 140737488355328) :
    ∃ v' w', (Builtin.append_ #[t, tn] ty #[v, .int kq k]).run P w = .ok v' w' ∧ w'.ownsRow 0 e 1 v' (n + k) (xs ++ List.replicate k z) ∧ w.grownBy w' v.ownBlock ∧
      (v'.ownBlock = v.ownBlock ∨ v'.ownBlock = some w.heap.size) := by
  have hsmall : n + k ≤ 9223372036854775807 := by simp only [maxLen] at h63; omega
  have hzc : z.cells.size = 1 := by rw [oneCell_cells hzs]; rfl
  have hlen : (xs ++ List.replicate k z).length = (n + k) * 1 := by rw [List.length_append, hown.1, List.length_replicate]; omega
  have hw : IntKind.i64.wrap (k : Int) = k := by rw [IntKind.wrap_i64]; omega
  have hneg : ¬ ((k : Int) < 0) := by omega
  have hkb : k * i.bytes ≤ 140737488355328 := Nat.le_trans (Nat.mul_le_mul_right _ (by omega)) hbytes
  have h48i : ¬ (281474976710656 < (k : Int) * (i.bytes : Int)) := by
    rw [← Int.natCast_mul]
    omega
  by_cases hk : k = 0
  · subst hk
    have hw0 : IntKind.i64.wrap 0 = 0 := by rw [IntKind.wrap_i64]; rfl
    refine ⟨v, w, ?_, by simpa using hown, World.grownBy.refl w _, .inl rfl⟩
    rcases hown.2 with ⟨rfl, rfl⟩ | ⟨g, cap, cur, rfl, _, _, hnc, _⟩
    · simp [Builtin.append_, run_underlying ht, run_underlying htn, sizeOf, typeInfo, hi, asInt, asIntOf, hw0]
    · simp [Builtin.append_, run_underlying ht, run_underlying htn, sizeOf, typeInfo, hi, asInt, asIntOf, hw0, hnc, storeCells]
  have grown : ∀ (old : Nat), old < n + k → ∀ (row : Option Nat),
      (w.drew.alloc (.cells (xs.toArray ++ Builtin.zeroCells z.cells k ++ Builtin.zeroCells z.cells (grownCap w (n + k) old e - (n + k))) e)).ownsRow 0 e 1
        (.slice (some ⟨w.heap.size, 0, none⟩) (n + k) (grownCap w (n + k) old e)) (n + k) (xs ++ List.replicate k z) ∧
      w.grownBy (w.drew.alloc (.cells (xs.toArray ++ Builtin.zeroCells z.cells k ++ Builtin.zeroCells z.cells (grownCap w (n + k) old e - (n + k))) e)) row := by
    intro old ho row
    have hge := grownCap_ge w (n + k) old e
    have hcm : grownCap w (n + k) old e ≤ maxLen := grownCap_le_maxLen w (n + k) old e h63
    refine ⟨⟨hlen, .inr ⟨w.heap.size, _, _, rfl, Nat.zero_le _, _root_.Go.heap_alloc_new w.drew _, hge, hcm, ?_, ?_⟩⟩, ⟨rfl, rfl, rfl, by simp, fun k hk _ => _root_.Go.heap_alloc_old w.drew _ hk⟩⟩
    · simp only [Array.size_append, List.size_toArray, size_zeroCells, hzc, hown.1]
      omega
    · rw [zeroCells_one z k hzs]
      simp only [Array.toList_append, List.append_assoc]
      rw [← List.append_assoc, ← hlen]
      exact List.take_left
  rcases hown.2 with ⟨rfl, rfl⟩ | ⟨g, cap, cur, rfl, hbg, hg, hnc, hcm, hcs, htake⟩
  · have hx : xs = [] := List.eq_nil_of_length_eq_zero (by simpa using hown.1)
    subst hx
    have hr := Lib.run_append_grow_zeros (P := P) w t tn ty e i z kq kn ht htn hi hz none 0 0 [] (run_firstCells_none w.drew i.size 0 0 0) k (by omega) (by omega) (by omega) (by omega) (by omega) (growslice_fits (by omega) (by simpa using hbytes))
    have hgr := grown 0 (by omega) (Value.ownBlock (.slice none 0 0))
    exact ⟨_, _, hr, hgr.1, hgr.2, Or.inr rfl⟩
  · by_cases hroom : n + k ≤ cap
    · have hst := run_storeCells_at P g (n * 1) e (List.replicate k z) 0 cur w hg (by rw [List.length_replicate, hcs]; omega) (fun u hu => by rw [List.eq_of_mem_replicate hu]; exact hzs)
      simp only [Nat.add_zero] at hst
      have hzcl : (Builtin.zeroCells z.cells k).toList = List.replicate k z := by rw [zeroCells_one z k hzs]
      have hr : (Builtin.append_ #[t, tn] ty #[.slice (some ⟨g, 0, none⟩) n cap, .int kq k]).run P w = .ok (.slice (some ⟨g, 0, none⟩) (n + k) cap) (w.setRow g (cur.toList.take (n * 1) ++ List.replicate k z ++ cur.toList.drop (n * 1 + (List.replicate k z).length)).toArray) := by
        rw [Nat.mul_one] at hst
        simp [Builtin.append_, run_underlying ht, run_underlying htn, sizeOf, typeInfo, zeroValue, hi, hz, asInt, asIntOf, hw, hneg, h48i, hroom, hsize, hk, Addr.add_lit, hzcl, hst]
      refine ⟨_, _, hr, ⟨hlen, .inr ⟨g, cap, _, rfl, hbg, setRow_heap w g cur _ e _ hg, hroom, hcm, ?_, ?_⟩⟩, ⟨rfl, rfl, rfl, by simp, fun j _ hj => setRow_other w g j _ (fun e => hj (by simp [Value.ownBlock, e]))⟩, Or.inl rfl⟩
      · simp only [List.size_toArray, List.length_append, List.length_take, List.length_drop, Array.length_toList, List.length_replicate]
        omega
      · rw [htake, ← hlen]
        exact List.take_left
    · have holds : ∀ j u, xs[j]? = some u → w.drew.cell? ((⟨g, 0, none⟩ : Addr).add j) = some u := hown.cells (g := g) rfl
      have hr := Lib.run_append_grow_zeros (P := P) w t tn ty e i z kq kn ht htn hi hz (some ⟨g, 0, none⟩) n cap xs (run_firstCells_some w.drew i.size n ⟨g, 0, none⟩ n cap xs (by rw [hsize]; exact hown.1) holds) k (by omega) (by omega) (by omega) (by omega) (by omega) (growslice_fits (by omega) hbytes)
      have hgr := grown cap (by omega) (Value.ownBlock (.slice (some ⟨g, 0, none⟩) n cap))
      exact ⟨_, _, hr, hgr.1, hgr.2, Or.inr rfl⟩
section
variable {P : Program} {n : Nat} {H : List Hl} {e : Ev} {C : Value → List Hl → Prop} {ty : TypeId} {x y : Operand}
theorem ox_append_zeros {α : Type} {enc : α → Value} {T Tn E : TypeId} {z : Value} {by_ : Nat} {kd kn : IntKind} (z0 : α) {ad : Option Addr} {c a0 k : Nat} {p : Int} {xs : List α} {H' : List Hl} [ht : TSl P T E] [htn : TInt P Tn kn] [hi : TInf P E z 1 by_] (hx : opd e x = some (.slice ad a0 c)) (hy : opd e y = some (.int kd p)) (hp : p = k)
    [s : SRow H ad c a0 E (xs.map enc) H'] (hz : z.oneCell' = true) (hz0 : z = enc z0) (hb : (a0 + k) * by_ ≤ 140737488355328) (hb2 : a0 + k ≤ 9223372036854775807)
    (h : ∀ ad2 c2, C (.slice ad2 (a0 + k) c2) (.row E 1 (.slice ad2 (a0 + k) c2) (a0 + k) ((xs ++ List.replicate k z0).map enc) :: H')) :
    O1 P (.call ⟨.builtin .append, #[x, y], #[T, Tn]⟩) ty n e H C :=
  o1_step fun a w ho => by
    subst hp
    obtain ⟨i, hi0, hiz, his, hib⟩ := hi.info
    have hown := ho.sat.own s.s
    subst hib
    obtain ⟨v', w', hrun, h2, h3, h4⟩ := run_append_own_zeros (P := P) w T Tn ty E i z kn kd ht.u htn.u hi0 hiz his hz _ _ _ hown k (by simp only [maxLen]; omega) hb
    have hv : ∃ ad2 c2, v' = .slice ad2 (a0 + k) c2 := by
      rcases h2.2 with ⟨rfl, hn⟩ | ⟨g, cap, cur, rfl, _⟩
      · exact ⟨none, 0, by rw [hn]⟩
      · exact ⟨_, _, rfl⟩
    obtain ⟨ad2, c2, rfl⟩ := hv
    have e1 : xs.map enc ++ List.replicate k z = (xs ++ List.replicate k z0).map enc := by rw [List.map_append, List.map_replicate, hz0]
    rw [e1] at h2
    refine ⟨_, w', ?_, _, h ad2 c2, ⟨h3.os, h3.tape, h3.output, h3.size⟩, ho.sat.grown s.s h2 h3 h4⟩
    simp [execOp, resolve, invoke, builtin, ho.ev.eval hx, ho.ev.eval hy, hrun]
theorem ox_cs_hr {α : Type} {enc : α → Value} {T E : TypeId} {z : Value} {by_ : Nat} {q : Int} {kd' : IntKind} {ad : Option Addr} {c l0 : Nat} {xs : List α} {oh : Operand} {H' : List Hl} (hi : Nat) [ht : TSl P T E] [hi' : TInf P E z 1 by_] (hx : opd e x = some (.slice ad l0 c)) (hh : opd e oh = some (.int kd' q)) [s : SRow H ad c l0 E (xs.map enc) H'] (hq : q = hi) (h0 : l0 = xs.length) (h2 : hi ≤ xs.length)
    (h : C (.slice (cutA ad c 0) (xs.take hi).length (c - 0)) H) : O1 P (.slice T x none (some oh) none) ty n e H C :=
  ⟨fun a w ho o h3 h4 K Q hK => (o1_cs_h (xs := xs) hi hx hh hq h0 (rx_row (α := α) (H := H) (H' := H') (T := E) (n := l0) (ad := ad) (c := c) (enc := enc) (l := xs) ho.has).le h2 h).out a w ho o h3 h4 K Q hK⟩
end
end Go.Dp
