/-
  What the listed table holds when the call begins, cell by cell.
  Conditions: those that stand in each theorem.
-/
import Derived.Test.YtlmmnnhbnbakgaaDoorV6
import Derived.Test.YtlmmnnhbnbakgaaDoorBl
import Derived.Test.YtlmmnnhbnbakgaaDoorRows
import Derived.LaidMore
import Derived.LaidHandle
import Derived.MakeChecks
set_option linter.unusedVariables false
namespace Go.Dp
open Go.RowKit Go.Proofs Go.Proofs.YtlmmnnhbnbakgaaDoor
/-- What the row lists. -/
def laidC : List (String × DataW Unit) := [("math/bits.deBruijn64tab", Rows.laid_math_bits_deBruijn64tab)]
theorem laid_tab {H : Type} : (Rows.laid_math_bits_deBruijn64tab : DataW H) = .agg (Go.Lib.deBruijn64tab.map (fun k : Nat => DataW.lit (.int .u8 (k : Int)))) := rfl
theorem gTab : Tryd.prog.globalNamed "math/bits.deBruijn64tab" = some 0 := by kernel_rfl
theorem tTab : (Tryd.prog.globals[0]?).map (·.type) = some 122 := by kernel_rfl
theorem of_laid {W : World} (h : laidMetH Tryd.prog laidC W) (j : Nat) (hj : j < 64) : W.cell? ⟨0, j, none⟩ = some (.int .u8 ((Go.Lib.deBruijn64tab.getD j 0 : Nat) : Int)) := by
  rw [MakeChecks.laidMetH_plain _ _ _ (by kernel_rfl)] at h
  obtain ⟨ps, ⟨g0, t0, cs0, f0, p0, q0, hg0, ht0, hv0, hd0, _⟩, _⟩ := h
  obtain rfl := Option.some.inj (gTab.symm.trans hg0)
  obtain rfl := Option.some.inj (tTab.symm.trans ht0)
  obtain ⟨xs, m1, rfl, hx1, hlen, hn, hel⟩ := DataW.trod_array (TArr.u (P := Tryd.prog) (t := 122)) hd0
  rw [laid_tab] at hx1
  simp only [Prod.mk.injEq, DataW.agg.injEq] at hx1
  obtain ⟨x, hx⟩ : ∃ x, xs[j]? = some x := ⟨xs[j]'(by omega), List.getElem?_eq_getElem (by omega)⟩
  have h0 := hel j hj
  rw [hx] at h0
  obtain ⟨k, e1, e2, _⟩ := DataW.trod_int (TInt.u (P := Tryd.prog) (t := 5)) h0
  have h1 := congrArg (·[j]?) hx1.1
  simp only [List.getElem?_map, hx, Option.map_some, e2] at h1
  have hl : j < Go.Lib.deBruijn64tab.length := hj
  rw [List.getElem?_eq_getElem hl] at h1
  simp only [Option.map_some, Option.some.injEq, DataW.lit.injEq, Lit.int.injEq, true_and] at h1
  have hc := World.var?_cell hg0 hv0 j
  rw [hc]
  have c1 : Tryd.prog.cellsOf 5 = 1 := by kernel_rfl
  rw [c1, Nat.mul_one] at e1
  have e3 : cs0.toList[j]? = some (.int .u8 k) := by
    have := congrArg (·[0]?) e1
    simpa using this
  rw [List.getD_eq_getElem?_getD, List.getElem?_eq_getElem hl, Option.getD_some, h1]
  simpa using e3
theorem tab_base {W : World} (h : laidMetH Tryd.prog laidC W) : TabF (stars (base W)) := ⟨fun j hj => ⟨fun w hw => base_cell hw (of_laid h j hj)⟩⟩
/-- The door's own heap meets the condition. -/
theorem door_met (os : Os) (args : Array Value) : laidMetH Tryd.prog laidC ((World.doorLaid Tryd.prog 400 os).forCall (fun _ _ => 0) ⟨#[], args, []⟩).memory :=
  laidMetH_of_parts3 (fuel := 8) (laidMet_of_run' 8 (by kernel_rfl) (by kernel_rfl)) (by kernel_rfl) (by kernel_rfl)
end Go.Dp
