/-
  Pointers against nil, closures, calls of what changes a box and its row.
  Conditions: none; it holds over whatever program.
-/
import Derived.Test.YtlmmnnhbnbakgaaDoorBz
set_option linter.unusedVariables false
namespace Go.Dp
open Go.RowKit
theorem sat.cl {w : World} {H H' : List Hl} {b i : Nat} {T : TypeId} {cs : List Value} {v : Value} [s : SBox H b T cs H'] (h : sat w (stars H)) (hv : cs[i]? = some v) : w.cell? ⟨b, i, none⟩ = some v := by
  rw [h.cell s.s i]; exact hv
theorem cl_box {H H' : List Hl} {b i : Nat} {T : TypeId} {cs : List Value} {v : Value} [s : SBox H b T cs H'] (hv : cs[i]? = some v) : Cl (stars H) ⟨b, i, none⟩ v := ⟨fun w hw => sat.cl hw hv⟩
theorem cl_up {A : Hp → Prop} {H H' : List Hl} {p : Addr} {v : Value} [s : SAny H A H'] (h : Cl A p v) : Cl (stars H) p v := ⟨fun w hw => h.cell w (sel_sat s.s w hw)⟩
section
variable {P : Program} {n : Nat} {H : List Hl} {e : Ev} {C : Value → List Hl → Prop} {ty t T : TypeId} {x y : Operand} {p q : Option Addr}
theorem pointee_of {E : TypeId} (h : TPtr P T E) : P.underlying T = some (.pointer (P.pointee T)) := by
  have hu := h.u
  simp [Program.pointee, hu]
theorem o1_peql {E : TypeId} [ht : TPtr P T E] (hx : opd e x = some (.pointer p)) (hy : opd e y = some (.pointer none)) (h : C (.bool p.isNone) H) : O1 P (.binOp .eql T x y t) ty n e H C :=
  o1_val _ (fun a w ho => by
    have h1 := run_eql_pointer_nil (P := P) w T p (pointee_of ht)
    simp only [execOp, ho.ev.eval hx, ho.ev.eval hy, eqGuard_at_pointer, Sem.run_bind, Sem.run_pure, Result.andThen_ok, h1]) h
theorem o1_pneq {E : TypeId} [ht : TPtr P T E] (hx : opd e x = some (.pointer p)) (hy : opd e y = some (.pointer none)) (h : C (.bool (!p.isNone)) H) : O1 P (.binOp .neq T x y t) ty n e H C :=
  o1_val _ (fun a w ho => by
    have h1 := run_neq_pointer_nil (P := P) w T p (pointee_of ht)
    simp only [execOp, ho.ev.eval hx, ho.ev.eval hy, eqGuard_at_pointer, Sem.run_bind, Sem.run_pure, Result.andThen_ok, h1]) h
theorem equalIn_nil {E : TypeId} (w : World) (d : Nat) (T : TypeId) (q : Option Addr) (hu : P.underlying T = some (.pointer E)) : (Op.equalIn (d + 1) T (.pointer none) (.pointer q)).run P w = .ok q.isNone w := by
  cases q <;> simp [Op.equalIn, run_underlying hu]
theorem o1_peql_n {E : TypeId} [ht : TPtr P T E] (hx : opd e x = some (.pointer none)) (hy : opd e y = some (.pointer q)) (h : C (.bool q.isNone) H) : O1 P (.binOp .eql T x y t) ty n e H C :=
  o1_val _ (fun a w ho => by
    have h2 : (Op.equal T (.pointer none) (.pointer q)).run P w = .ok q.isNone w := by
      exact equalIn_nil w 9999 T q ht.u
    have h1 : (binOp .eql T (.pointer none) (.pointer q)).run P w = .ok (.bool q.isNone) w := by
      simp only [binOp]
      simp [h2]
    simp only [execOp, ho.ev.eval hx, ho.ev.eval hy, eqGuard_at_pointer, Sem.run_bind, Sem.run_pure, Result.andThen_ok, h1]) h
theorem rt_none {X : Type} {fn : Func} {W : World} {good : X → Prop} {val : X → Value} {res : X → List Hl} (r : X) (hres : fn.results = #[]) (hv : .tuple #[] = val r) (hg : good r) (hE : Ent H (res r)) :
    Rt P (.fn fn fun x w' => ∃ r, good r ∧ x = .returned (val r) ∧ Ext W w' ∧ sat w' (stars (res r))) n e W H :=
  rt_fn (v := .tuple #[]) (fun a w ho => by simp [results, hres]) r hg hv hE
/-- A closure. -/
theorem o1_func {f : FuncId} {xs : List Operand} {vs : List Value} (hxs : opds e xs = some vs) (h : C (.func (.func f) #[] vs.toArray) H) : O1 P (.makeFunc (.func f) #[] xs.toArray) ty n e H C :=
  o1_val _ (fun a w ho => by
    have hargs := ho.ev.evals hxs
    simp [execOp, Instr.makeFunc, hargs]) h
/-- A closure is called. -/
theorem o1_kall {f : FuncId} {xs : List Operand} {args caps : List Value} {ats : Array TypeId} {X : Type} {good : X → Prop} {val : X → Value} {res : X → List Hl} (hx : opd e x = some (.func (.func f) #[] caps.toArray)) (hs : Has H → Spec P f (args ++ caps) H good val res) (hxs : opds e xs = some args)
    (h : ∀ r, good r → C (val r) (res r)) : O1 P (.call ⟨.value x, xs.toArray, ats⟩) ty n e H C :=
  ⟨fun a w ho o h1 h2 K Q hK => by
    have hs := hs ho.has
    have hc := hs.calls w ho.sat
    have hargs := ho.ev.evals hxs
    have hr : (execOp a.eval ⟨none, .call ⟨.value x, xs.toArray, ats⟩, ty, "", #[], none⟩).run P w = .ok (.enter f (args ++ caps).toArray) w := by
      have h3 : (callFunc f (args.toArray ++ caps.toArray)).run P w = .ok (.enter f (args ++ caps).toArray) w := by
        rw [List.append_toArray]; exact run_enter hs.enters
      simp [execOp, resolve, invoke, Deferred.ofValue, ho.ev.eval hx, hargs]
      simpa using h3
    subst h2
    unfold Oper.wp
    rw [execOp_eq, h1, hr]
    refine hc.mono ?_
    rintro x w' ⟨r, hg, rfl, hx, hsat⟩
    exact hK _ _ _ (h r hg) hx hsat⟩
/-- A call of what changes a box and a row. -/
theorem o1_call_br (b : Nat) (ad : Option Addr) (c : Nat) {f : FuncId} {xs : List Operand} {args : List Value} {ats : Array TypeId} {X : Type} {good : X → Prop} {val : X → Value} {res : X → List Hl} {m : Nat} {T T2 : TypeId} {cs ys : List Value} {H' H2 : List Hl} [s : SBox H b T cs H'] [s2 : SRow H' ad c m T2 ys H2]
    (hs : Has (.box b T cs :: .row T2 1 (.slice ad m c) m ys :: H2) → Spec P f args (.box b T cs :: .row T2 1 (.slice ad m c) m ys :: H2) good val res) (hxs : opds e xs = some args) (h : ∀ r, good r → C (val r) (res r)) : O1 P (.call ⟨.value (.func f), xs.toArray, ats⟩) ty n e H C :=
  O1.ent (H2 := .box b T cs :: .row T2 1 (.slice ad m c) m ys :: H2) (fun h hh => sep_mono (s.s.out h hh) (fun _ a => a) (s2.s.out)) (o1_call hs hxs h)
/-- An element of what is read, its value told. -/
theorem o1_load_av {α : Type} {A : Hp → Prop} {enc : α → Value} {ad : Option Addr} {c : Nat} {xs : List α} (i : Nat) (v : α) {T : TypeId} [TOne P T] {H' : List Hl} (hx : opd e x = some (.pointer (some (idxA ad i)))) (hr : Rs A enc ad c xs) (hv : xs[i]? = some v) [s : SAny H A H'] (h : C (enc v) H) : O1 P (.load T x) ty n e H C := by
  obtain ⟨hl, hv⟩ := List.getElem?_eq_some_iff.mp hv
  exact o1_load_ia i hx hr hl (by rw [hv]; exact h)
theorem o1_load_hv {α : Type} {enc : α → Value} {ad : Option Addr} {c : Nat} {xs : List α} (i : Nat) (v : α) {T : TypeId} [TOne P T] (hx : opd e x = some (.pointer (some (idxA ad i)))) (hr : RsH H enc ad c xs) (hv : xs[i]? = some v) (h : C (enc v) H) : O1 P (.load T x) ty n e H C := by
  obtain ⟨hl, hv⟩ := List.getElem?_eq_some_iff.mp hv
  exact o1_load_iah i hx hr hl (by rw [hv]; exact h)
end
end Go.Dp
