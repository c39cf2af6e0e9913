/-
  More operations: several cells stored at once, numbers of either kind by bounds, tests on bools, nil slices.
  Conditions: none; it holds over whatever program, the types' rows given as instances.
-/
import Derived.Test.YtlmmnnhbnbakgaaDoorBj
import Derived.WalkSpells
set_option linter.unusedVariables false
namespace Go.Dp
open Go.RowKit

theorem length_putL : ∀ (vs cs : List Value) (i : Nat), (putL cs i vs).length = cs.length
  | [], cs, i => rfl
  | v :: vs, cs, i => by simp only [putL]; rw [length_putL]; simp
theorem sat_front {w : World} {H H' : List Hl} {x : Hl} (h : sat w (stars H)) (s : Sel H x H') : sat w (stars (x :: H')) := h.mono s.out
theorem run_storeCells_sat {P : Program} {b : Nat} {T : TypeId} {i0 : Nat} {H' : List Hl} : ∀ (vs : List Value) (j : Nat) (cs : List Value) (w : World), sat w (stars (.box b T cs :: H')) → i0 + j + vs.length ≤ cs.length → (∀ v ∈ vs, v.oneCell' = true) →
    ∃ w', (storeCells ⟨b, i0, none⟩ vs j).run P w = .ok () w' ∧ Ext w w' ∧ sat w' (stars (.box b T (putL cs (i0 + j) vs) :: H'))
  | [], j, cs, w, h, _, _ => ⟨w, by simp [storeCells], .refl w, h⟩
  | v :: vs, j, cs, w, h, hl, h1 => by
    simp only [List.length_cons] at hl
    have hc : w.cell? ⟨b, i0 + j, none⟩ = some (cs[i0 + j]'(by omega)) := by rw [h.cell .here (i0 + j)]; simp [show i0 + j < cs.length from by omega]
    have hst := run_store_one (P := P) hc (h.free .here (i0 + j)) (h1 v (by simp))
    have h2 := h.set_ (i0 + j) v .here
    obtain ⟨w', hr, hx, hs⟩ := run_storeCells_sat (P := P) (i0 := i0) vs (j + 1) (cs.set (i0 + j) v) _ h2 (by simp; omega) (fun u hu => h1 u (by simp [hu]))
    refine ⟨w', ?_, ((Ext.refl w).setCell _ _).trans hx, hs⟩
    have ha : (⟨b, i0, none⟩ : Addr).add j = ⟨b, i0 + j, none⟩ := by
      by_cases hj : j = 0
      · subst hj; simp [Addr.add]
      · simp [Addr.add, hj]
    simp only [storeCells, Sem.run_bind, ha, hst, Result.andThen_ok]
    exact hr
section
variable {P : Program} {ops : Array Oper} {k : Kon} {rest : List Oper} {n : Nat} {e : Ev} {W : World} {H : List Hl}
variable {C : Value → List Hl → Prop} {ty : TypeId} {t t' : TypeId} {x y : Operand} {kd kd' : IntKind} {p q : Int} {m m' : Nat} {u v : BitVec m}
theorem ox_store_agg {T T' : TypeId} {z : Value} {s by_ : Nat} [TInf P T z s by_] {b i : Nat} {cs vs cs' : List Value} {H' : List Hl} (hx : opd e x = some (.pointer (some ⟨b, i, none⟩))) (hy : opd e y = some (.agg vs.toArray))
    [sb : SBox H b T' cs H'] (hs : vs.length = s) (hi : i + vs.length ≤ cs.length) (h1 : ∀ v ∈ vs, v.oneCell' = true) (hcs : putL cs i vs = cs') (h : C undef (.box b T' cs' :: H')) : O1 P (.store T x y) ty n e H C :=
  o1_step_skip fun a w ho => by
    subst hcs
    obtain ⟨w', hr, hx', hsat⟩ := run_storeCells_sat (P := P) (i0 := i) vs 0 cs w (sat_front ho.sat sb.s) (by omega) h1
    refine ⟨w', ?_, _, h, hx', by simpa using hsat⟩
    simp [execOp, ho.ev.eval hx, ho.ev.eval hy, Instr.storeAt, Instr.sureAddr, storeVar, run_sizeOf, Value.cells, hs, hr]
theorem ox_stores {T T' : TypeId} {z : Value} {by_ : Nat} [TInf P T z 1 by_] {b i : Nat} {cs cs' : List Value} {v : Value} {H' : List Hl} (hx : opd e x = some (.pointer (some ⟨b, i, none⟩))) (hy : opd e y = some v)
    [s : SBox H b T' cs H'] (hi : i < cs.length) (h1 : v.oneCell' = true) (hcs : cs.set i v = cs') (h : C undef (.box b T' cs' :: H')) : O1 P (.store T x y) ty n e H C := ox_store hx hy hi h1 (hcs ▸ h)
/-- An element stored. -/
theorem ox_store_enc {α : Type} (enc : α → Value) {T T' : TypeId} {z : Value} {by_ : Nat} [TInf P T z 1 by_] {b i : Nat} {l : List α} {v : α} {H' : List Hl} (hx : opd e x = some (.pointer (some ⟨b, i, none⟩))) (hy : opd e y = some (enc v))
    [s : SBox H b T' (l.map enc) H'] (hi : i < l.length) (h1 : (enc v).oneCell' = true) (h : C undef (.box b T' ((l.set i v).map enc) :: H')) : O1 P (.store T x y) ty n e H C := ox_stores hx hy (by simpa using hi) h1 (by rw [List.map_set]) h
/-- An element of a box that a slice begins. -/
theorem ox_load_enc {α : Type} {enc : α → Value} {T T' : TypeId} [TOne P T] {b i : Nat} {l : List α} {H' : List Hl} (hx : opd e x = some (.pointer (some ⟨b, i, none⟩))) [s : SBox H b T' (l.map enc) H'] (hi : i < l.length) (h : C (enc l[i]) H) : O1 P (.load T x) ty n e H C :=
  ox_load hx (by simp [hi]) h
theorem o1_conv_i [h1 : TInt P t kd] [h2 : TInt P t' .i64] (hx : opd e x = some (.int kd p)) (hb : -9223372036854775808 ≤ p ∧ p ≤ 9223372036854775807) (h : C (.int .i64 p) H) : O1 P (.convert t t' x) ty n e H C :=
  o1_conv hx (wrap_in hb.1 hb.2) h
theorem o1_conv_u64 [h1 : TInt P t kd] [h2 : TInt P t' .u64] (hx : opd e x = some (.int kd p)) (hb : 0 ≤ p ∧ p ≤ 18446744073709551615) (h : C (.int .u64 p) H) : O1 P (.convert t t' x) ty n e H C :=
  o1_conv hx (by rw [IntKind.wrap_u64]; omega) h
theorem o1_rem_nn (hx : opd e x = some (.int kd p)) (hy : opd e y = some (.int kd q)) (hb : 0 ≤ p ∧ 0 < q) (h : C (.int kd (p % q)) H) : O1 P (.binOp .rem t x y t') ty n e H C :=
  o1_num hx hy (fun w => by
    rw [binOp_rem]
    simp [Op.intDiv, show q ≠ 0 from by omega, Int.tmod_eq_emod_of_nonneg hb.1]) h
theorem o1_eqb {a b : Bool} [TBool P t] (hx : opd e x = some (.bool a)) (hy : opd e y = some (.bool b)) (h : C (.bool (a == b)) H) : O1 P (.binOp .eql t x y t') ty n e H C :=
  o1_val _ (fun a' w ho => by simp [execOp, ho.ev.eval hx, ho.ev.eval hy, eqGuard_at_bool, run_eql_bool w t a b (TBool.u)]) h
theorem o1_neqb {a b : Bool} [TBool P t] (hx : opd e x = some (.bool a)) (hy : opd e y = some (.bool b)) (h : C (.bool (!(a == b))) H) : O1 P (.binOp .neq t x y t') ty n e H C :=
  o1_val _ (fun a' w ho => by simp [execOp, ho.ev.eval hx, ho.ev.eval hy, eqGuard_at_bool, run_neq_bool w t a b (TBool.u)]) h
theorem Spec.vv {f : FuncId} {args : List Value} {good : Unit → Prop} {a b : Value} {res : Unit → List Hl} (h : Spec P f args H good (fun _ => a) res) (hx : a = b) : Spec P f args H good (fun _ => b) res := hx ▸ h
/-- make([]T, n): a row of noughts. -/
theorem o1_maken {α : Type} {enc : α → Value} {T E : TypeId} {z : Value} {by_ : Nat} (z0 : α) [TSl P T E] [TInf P E z 1 by_] (hx : opd e x = some (.int kd p)) (hy : opd e y = some (.int kd' p)) (hz : z.oneCell' = true) (hz0 : z = enc z0) (hp : 0 ≤ p) (h2 : by_ * p.toNat ≤ 281474976710656) (h3 : p ≤ 9223372036854775807)
    (h : ∀ b, C (.slice (some ⟨b, 0, none⟩) p.toNat p.toNat) (.box b E ((List.replicate p.toNat z0).map enc) :: H)) : O1 P (.makeSlice T x y) ty n e H C :=
  o1_make (lo := p.toNat) (cp := p.toNat) hz hx hy (by omega) (by omega) (Nat.le_refl _) h2 (by omega) (fun b => by
    have := h b
    rw [List.map_replicate, ← hz0] at this
    exact this)
theorem o1_slice_nil {A : Option Addr} {l c : Nat} {T E : TypeId} [ht : TSl P T E] (hx : opd e x = some (.slice A l c)) (h : C (.bool (A.isNone)) H) : O1 P (.binOp .eql T x (.const (.slice none 0 0)) t') ty n e H C :=
  o1_val _ (fun a w ho => by
    have h1 := Lib.run_eql_slice_nil (P := P) w T E A l c 0 0 ht.u
    have h2 : a.eval (.const (.slice none 0 0)) = .slice none 0 0 := rfl
    simp only [execOp, ho.ev.eval hx, eqGuard_at_slice, h2, Sem.run_bind, Sem.run_pure, Result.andThen_ok, h1]) h
end
end Go.Dp
