/-
  Rows of bits in any number.
  Conditions: none.
-/
import Derived.Test.YtlmmnnhbnbakgaaDoorV3
set_option linter.unusedVariables false
set_option linter.unusedSimpArgs false
namespace Go.Dp
open Go.RowKit Go.Proofs
def vP (v : VD) : List Hl := [vB v.b v.n v.a v.c, vR v.n v.a v.c v.l]
/-- Each of these rows stands by itself. -/
def vecs (vs : List VD) : Hp → Prop := stars (vs.flatMap vP)
theorem vecs_nil {R : List Hl} : ∀ h, stars R h → stars (.any (vecs []) :: R) h := fun h hh => ⟨fun _ => none, h, fun _ => .inl rfl, fun _ _ e => (by cases e), .refl _, trivial, hh⟩
theorem vecs_push {vs : List VD} {v : VD} {R : List Hl} : ∀ h, stars (vB v.b v.n v.a v.c :: vR v.n v.a v.c v.l :: .any (vecs vs) :: R) h → stars (.any (vecs (vs ++ [v])) :: R) h := fun h hh => by
  have h1 := sep_assoc' (sep_mono hh (fun _ a => a) (fun _ a => sep_assoc' a))
  refine sep_mono h1 (fun h' x => ?_) (fun _ a => a)
  show stars ((vs ++ [v]).flatMap vP) h'
  rw [List.flatMap_append]
  refine stars_append' _ _ _ (sep_mono (sep_comm (sep_assoc' x)) (fun _ a => a) fun h2 y => ?_)
  show stars [vB v.b v.n v.a v.c, vR v.n v.a v.c v.l] h2
  exact sep_mono y (fun _ a => a) (fun h3 z => ⟨h3, fun _ => none, fun _ => .inr rfl, .refl _, fun _ _ e => (by cases e), z, trivial⟩)
theorem vecs_read {vs : List VD} {v : VD} {H H' : List Hl} [sa : SAny H (vecs vs) H'] (hm : v ∈ vs) (hk : v.ok) (hh : Has H) : RdV (stars H) v := by
  have key : ∀ w, sat w (stars H) → sat w (stars (vs.flatMap vP)) := fun w hw => sel_sat sa.s w hw
  have m1 : vB v.b v.n v.a v.c ∈ vs.flatMap vP := List.mem_flatMap.2 ⟨v, hm, by simp [vP]⟩
  have m2 : vR v.n v.a v.c v.l ∈ vs.flatMap vP := List.mem_flatMap.2 ⟨v, hm, by simp [vP]⟩
  obtain ⟨L1, s1⟩ := sel_mem m1
  obtain ⟨L2, s2⟩ := sel_mem m2
  refine ⟨⟨fun w hw => ?_⟩, ⟨fun w hw => ?_⟩, ?_, hk⟩
  · rw [(key w hw).cell s1 0]; rfl
  · rw [(key w hw).cell s1 1]; rfl
  · obtain ⟨w, hw⟩ := hh
    exact (Rs.of_row s2 w (key w hw)).unvals.mono key
theorem vecs_all {vs : List VD} {H H' : List Hl} [sa : SAny H (vecs vs) H'] (hk : ∀ v ∈ vs, v.ok) (hh : Has H) : ∀ v ∈ vs, RdV (stars H) v := fun v hm => vecs_read hm (hk v hm) hh
theorem nx_vec {P : Program} {k : Kon} {n : Nat} {e : Ev} {W : World} {H : List Hl} {vs : List VD} (v : VD) {R : List Hl} (hE : Ent H (vB v.b v.n v.a v.c :: vR v.n v.a v.c v.l :: .any (vecs vs) :: R)) (h : Nx P k n e W (.any (vecs (vs ++ [v])) :: R)) : Nx P k n e W H := nx_ent (fun h hh => vecs_push h (hE.out h hh)) h
end Go.Dp
