/-
  The row of the law PrecodeNothing: for every input it answers true, and its input reads as it did.
  Conditions: none.
-/
import Derived.Test.YtibopcmgjmhcjaaRows
import Derived.Test.YtibopcmgjmhcjaaP6
import Derived.Test.YtibopcmgjmhcjaaTz
namespace Go.Proofs.Ytibopcmgjmhcjaa.precodeNothing
open Go.Dp Go.ChangeShapes Go.WideShapes Go.ChangeAt Go.RowKit
set_option linter.unusedVariables false
theorem own : ownKnob Try.prog.godebug = none := by kernel_rfl
theorem laidOut : laidOutB Try.prog = true := by kernel_rfl
set_option maxRecDepth 100000 in
theorem lifted (os : Os) (started : os.Started) (H : Type) (enc : TypeId × Value → H) :
    ReturnsInHanded {} Try.checked os 5 .any (Rows.precodeNothingSpec.pre6 enc Try.prog Try.f5 Rows.precodeNothingRow.domain false) (Rows.precodeNothingSpec.post enc Try.prog Try.f5 false true false false) := by
  refine returnsInHanded_of_change_sized (C := Try.checked) own started (by kernel_rfl) Try.func5
    (ChangeSpec.witness6 (enc := enc) (C := Try.checked) false ⟨#[], #[.agg #[.int .u32 (0), .int .i64 (0), .int .i64 (0), .int .i64 (0)], .int .u8 (0)], []⟩ 8 (by kernel_rfl) (by kernel_rfl) (by kernel_rfl) (by kernel_rfl)) ?_
  intro W base0 args ds gs before hval0 hW hcnd hsz0 _
  have hsz : (DataW.weightsEach Try.prog (Try.f5.params.toList ++ Rows.precodeNothingSpec.plain.varTypes Try.prog) (ds ++ gs)).all (· ≤ reachBytes) = true := hsz0
  have hval : ∀ (j : Nat) t v, Try.f5.params[j]? = some t → args[j]? = some v → Value.okWide Try.prog W .any base0 t v := hval0
  have hW' := hW
  obtain ⟨p, q, hA0, hV, rfl, hfz, hnd⟩ := hW
  have hA : DataW.TrodAll enc Try.prog W 0 (fun _ => true) true Try.f5.params.toList args.toList ds p := hA0
  rw [Try.params5] at hA hval hsz
  obtain ⟨v0, vs0, d0, ds0, p0, q0, hargs, rfl, rfl, h0, r0⟩ := trodAll_cons hA
  obtain ⟨v1, vs1, d1, ds1, p1, q1, rfl, rfl, rfl, h1, r1⟩ := trodAll_cons r0
  obtain ⟨rfl, rfl, rfl⟩ := trodAll_nil r1
  obtain rfl : args = #[v0, v1] := by cases args; simp_all
  obtain ⟨rfl, rfl⟩ := trodVars_none hV
  have lt0 : ∀ x ∈ p0, x.block < W.heap.size := by obtain ⟨m, hm⟩ := h0; exact DataW.trod_lt m _ _ _ hm
  obtain ⟨x0, hx0, f0⟩ := Par.o h0 (hval 0 24 v0 rfl rfl) (weigh hsz (j := 0) rfl rfl)
  subst hx0
  have lt1 : ∀ x ∈ p1, x.block < W.heap.size := by obtain ⟨m, hm⟩ := h1; exact DataW.trod_lt m _ _ _ hm
  obtain ⟨x1, hx1, f1⟩ := Par.o h1 (hval 1 5 v1 rfl rfl) (weigh hsz (j := 1) rfl rfl)
  subst hx1
  clear hA0 hval0 hsz0 hsz
  refine (Calls.mono ((PrecodeNothing_law (base W) x0.1 x0.2.1 x0.2.2.1 x0.2.2.2.1 x1).calls W (base_sat W)) fun e W' ⟨_, _, he, hx, hs⟩ => ?_)
  subst he
  have bel := base_below hs hx
  exact ⟨_, rfl, _, _, _, [], _, [], hW', trodAll_mk1 (shut_bool (TBool.u (P := Try.prog) (t := 4)) _), (trodAll_cons_mk (Below.trod laidOut (by kernel_rfl) (of_decide_eq_true (by kernel_rfl)) h0 bel lt0) (trodAll_cons_mk (Below.trod laidOut (by kernel_rfl) (of_decide_eq_true (by kernel_rfl)) h1 bel lt1) trodAll_mk0)), rfl, bel.frame _, fun h => by cases h⟩
theorem over : Rows.precodeNothingRow.holds Try.pinned (OpenSpec.ofChange Rows.precodeNothingSpec) :=
  OpenClaim.holds_of_wide 5 Try.f5 rfl rfl rfl rfl rfl rfl rfl ⟨rfl, rfl, rfl, rfl, rfl⟩ rfl rfl rfl rfl rfl (by kernel_rfl) Try.func5 (by kernel_rfl)
    (of_decide_eq_true (by kernel_rfl)) (by unfold Func.isWrapper; first | (rw [if_pos (by decide +kernel)]; kernel_rfl) | (rw [if_neg (by decide +kernel)]; exact ⟨rfl, rfl⟩))
    (fun os started H enc _ => lifted os started H enc)
theorem proved : Rows.PrecodeNothingSaid := over
end Go.Proofs.Ytibopcmgjmhcjaa.precodeNothing
namespace Go.Proofs.Ytibopcmgjmhcjaa
/-- The row, under a short name, for the claim. -/
theorem precodeNothing_holds : Rows.PrecodeNothingSaid := precodeNothing.proved
end Go.Proofs.Ytibopcmgjmhcjaa
