/-
  Calls of the atomic operations on a cell of a box.
  Conditions: none; it holds over whatever program.
-/
import Derived.Test.YtlmmnnhbnbakgaaDoorBy
import Derived.Laws.LoneSync
set_option linter.unusedVariables false
namespace Go.Dp
open Go.RowKit
/-- A function without a body, whose answer the model gives. -/
structure XFn (P : Program) (f : FuncId) (g : Array Value → Sem Value) : Prop where
  h : (P.funcs[f]?).map (fun fn => (fn.name == "runtime.NumGoroutine", fn.body.isNone, (Extern.findNext fn).isNone)) = some (false, true, true)
  e : (P.funcs[f]?).bind (fun fn => Extern.find fn) = some g
theorem XFn.of {P : Program} {f : FuncId} {g : Array Value → Sem Value} (x : XFn P f g) : ∃ fn, P.funcs[f]? = some fn ∧ (fn.name == "runtime.NumGoroutine") = false ∧ fn.body.isNone = true ∧ Extern.findNext fn = none ∧ Extern.find fn = some g := by
  have h := x.h
  have he := x.e
  cases hf : P.funcs[f]? with
  | none => simp [hf] at h
  | some fn =>
    simp only [hf, Option.map_some, Option.some.injEq, Prod.mk.injEq] at h
    simp only [hf, Option.bind_some] at he
    exact ⟨fn, rfl, h.1, h.2.1, by simpa using h.2.2, he⟩
section
variable {P : Program} {n : Nat} {H : List Hl} {e : Ev} {C : Value → List Hl → Prop} {ty : TypeId}
variable {f : FuncId} {xs : List Operand} {ats : Array TypeId} {b i : Nat} {T : TypeId} {cs : List Value} {H' : List Hl} {k : IntKind} {p q : Int}
theorem o1_xval {args : List Value} (v : Value) (hxs : opds e xs = some args) (hr : ∀ a w, Ok1 n e H a w → (callFunc f args.toArray).run P w = .ok (.value v) w) (h : C v H) : O1 P (.call ⟨.value (.func f), xs.toArray, ats⟩) ty n e H C :=
  o1_val v (fun a w ho => by
    have hargs := ho.ev.evals hxs
    simp [execOp, resolve, invoke, Deferred.ofValue, Act.eval, hargs, hr a w ho]) h
/-- The cell is read. -/
theorem o1_xload (x : XFn P f (Extern.Atomic.loadT (.int k))) (hxs : opds e xs = some [.pointer (some ⟨b, i, none⟩)]) [s : SBox H b T cs H'] (hv : cs[i]? = some (.int k p)) (h : C (.int k p) H) : O1 P (.call ⟨.value (.func f), xs.toArray, ats⟩) ty n e H C :=
  o1_xval _ hxs (fun a w ho => by
    obtain ⟨fn, h1, h2, h3, h4, h5⟩ := x.of
    have hc := ho.sat.cell s.s i
    rw [hv] at hc
    exact run_call_load h1 h2 h3 h4 k h5 hc) h
theorem o1_xput {args : List Value} {v r : Value} (hxs : opds e xs = some args) (hi : i < cs.length) [s : SBox H b T cs H'] (hr : ∀ a w, Ok1 n e H a w → w.cell? ⟨b, i, none⟩ = some cs[i] → w.frozen? ⟨b, i, none⟩ = false → (callFunc f args.toArray).run P w = .ok (.value r) (w.setCell ⟨b, i, none⟩ v))
    (h : C r (.box b T (cs.set i v) :: H')) : O1 P (.call ⟨.value (.func f), xs.toArray, ats⟩) ty n e H C := by
  obtain ⟨H2, u1, u2⟩ := s.s.upd (.box b T (cs.set i v))
  have k0 : O1 P (.call ⟨.value (.func f), xs.toArray, ats⟩) ty n e H (fun v' K => v' = r ∧ K = H2) := o1_step fun a w ho => by
    have hargs := ho.ev.evals hxs
    have hc : w.cell? ⟨b, i, none⟩ = some cs[i] := by rw [ho.sat.cell s.s i]; simp [hi]
    refine ⟨r, w.setCell ⟨b, i, none⟩ v, ?_, H2, ⟨rfl, rfl⟩, (Ext.refl w).setCell _ _, ho.sat.set_ i v u1⟩
    simp [execOp, resolve, invoke, Deferred.ofValue, Act.eval, hargs, hr a w ho hc (ho.sat.free s.s i)]
  exact k0.post fun v' K hK => ⟨_, hK.1 ▸ h, hK.2 ▸ u2⟩
/-- The cell is written. -/
theorem o1_xstore (x : XFn P f Extern.Atomic.storeT) (hxs : opds e xs = some [.pointer (some ⟨b, i, none⟩), .int k q]) [s : SBox H b T cs H'] (hi : i < cs.length) (h : C (.tuple #[]) (.box b T (cs.set i (.int k q)) :: H')) : O1 P (.call ⟨.value (.func f), xs.toArray, ats⟩) ty n e H C :=
  o1_xput hxs hi (fun a w ho hc hz => by
    obtain ⟨fn, h1, h2, h3, h4, h5⟩ := x.of
    exact run_call_store h1 h2 h3 h4 h5 hc hz) h
/-- The cell holds what was asked: it is written. -/
theorem o1_xcas_t (x : XFn P f (Extern.Atomic.casT (.int k))) (hxs : opds e xs = some [.pointer (some ⟨b, i, none⟩), .int k p, .int k q]) [s : SBox H b T cs H'] (hv : cs[i]? = some (.int k p)) (h : C (.bool true) (.box b T (cs.set i (.int k q)) :: H')) : O1 P (.call ⟨.value (.func f), xs.toArray, ats⟩) ty n e H C := by
  obtain ⟨hi, hv⟩ := List.getElem?_eq_some_iff.mp hv
  exact o1_xput hxs hi (fun a w ho hc hz => by
    obtain ⟨fn, h1, h2, h3, h4, h5⟩ := x.of
    rw [hv] at hc
    exact run_call_cas_hit h1 h2 h3 h4 k h5 hc hz) h
/-- The cell holds another number. -/
theorem o1_xcas_f {o : Int} (x : XFn P f (Extern.Atomic.casT (.int k))) (hxs : opds e xs = some [.pointer (some ⟨b, i, none⟩), .int k o, .int k q]) [s : SBox H b T cs H'] (hv : cs[i]? = some (.int k p)) (hne : ¬ p = o) (h : C (.bool false) H) : O1 P (.call ⟨.value (.func f), xs.toArray, ats⟩) ty n e H C :=
  o1_xval _ hxs (fun a w ho => by
    obtain ⟨fn, h1, h2, h3, h4, h5⟩ := x.of
    have hc := ho.sat.cell s.s i
    rw [hv] at hc
    exact run_call_cas_miss h1 h2 h3 h4 k h5 hc (ho.sat.free s.s i) hne) h
/-- The cell is added to. -/
theorem o1_xadd {r : Int} (x : XFn P f (Extern.Atomic.update (Op.intArith .add) k true)) (hxs : opds e xs = some [.pointer (some ⟨b, i, none⟩), .int k q]) [s : SBox H b T cs H'] (hv : cs[i]? = some (.int k p)) (hr : k.wrap (p + q) = r) (h : C (.int k r) (.box b T (cs.set i (.int k r)) :: H')) : O1 P (.call ⟨.value (.func f), xs.toArray, ats⟩) ty n e H C := by
  obtain ⟨hi, hv⟩ := List.getElem?_eq_some_iff.mp hv
  exact o1_xput hxs hi (fun a w ho hc hz => by
    obtain ⟨fn, h1, h2, h3, h4, h5⟩ := x.of
    rw [hv] at hc
    exact run_call_add h1 h2 h3 h4 k h5 hc hz (by simp [Op.intArith, hr])) h
end
end Go.Dp
