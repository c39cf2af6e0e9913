/-
  elim.Says, walked; sums of the pieces of ElimSpans, plain.
  Conditions: those that stand in each theorem.
-/
import Derived.Test.YtlmmnnhbnbakgaaDoorX2
import Derived.Test.YtlmmnnhbnbakgaaDoorX4
import Derived.Test.YtlmmnnhbnbakgaaDoorP0
set_option linter.unusedVariables false
set_option linter.unusedSimpArgs false
namespace Go.Dp
open Go.RowKit Go.Proofs
set_option maxHeartbeats 2000000 in
theorem elim_Says (H : List Hl) (bm n z : Nat) (ar : Option Addr) (cr k : Nat) (M : List (Option RD)) (v : VD) (ML : List (Option LN)) (b : Bool) (hM : RdM (stars H) bm n z ar cr k M) (hML : M.map vw = ML) (hv : RdV (stars H) v) (hvn : v.n = n) (hb : decide (0 ≤ firstV (red ML (v.l, List.replicate z 0#8)).1) = b) (ht : TabF (stars H)) :
    Spec Tryd.prog 40 [.pointer (some ⟨bm, 0, none⟩), Pv v] H (fun _ : Unit => True) (fun _ => .bool b) (fun _ => H) := by
  refine spec_pure (res := fun _ => []) H Tryd.func40 rfl Tryd.ntmps40 (by kernel_rfl) rfl (fun W => ?_)
  have hLk := hM.ok.vw
  have hvl : v.l.length = n := by rw [hv.ok.len, hvn]
  rw [hML] at hLk
  obtain ⟨x, hx⟩ : ∃ x, red ML (v.l, List.replicate z 0#8) = x := ⟨_, rfl⟩
  obtain ⟨hxl, hxd⟩ : x.1.length = n ∧ x.2.length = z := by rw [← hx]; exact redT_len hLk hvl (by simp) _
  rw [hx] at hb
  have l3 := hM.ok.n2
  have hpn := padD_nil z
  obtain ⟨xl, xd⟩ := x
  dsimp only at hxl hxd hb
  repeat' (first | refine ls_of rfl ?_ | refine ls_of_no ?_ | refine ls_guard_yes rfl rfl ?_ | refine ls_guard_no rfl rfl rfl rfl ?_ | refine ls_guard_un rfl rfl rfl ?_ | refine o1_move rfl ?_ | refine o1_assign rfl ?_ | refine st_seq ?_ | refine st_region ?_ | refine st_block ?_ | refine st_skip ?_ | refine st_ret ?_ | refine st_exit ?_ | refine st_cond_t rfl ?_ | refine st_cond_f rfl ?_ | refine st_cond rfl (fun _ => ?_) (fun _ => ?_) | refine ls_nil ?_ | refine nx_seq ?_ | refine nx_blk ?_ | refine nx_fn ?_ | refine nx_rounds ?_ | refine xt_seq ?_ | refine xt_here ?_ | refine xt_on rfl ?_ | refine xt_rounds ?_ | refine xt_cut ?_ | refine rt_seq ?_ | refine rt_blk ?_ | refine rt_rounds ?_ | refine rt_cut ?_ | refine o1_pneq rfl rfl ?_ | (refine o1_call (fun _ => elim_reduced _ bm n z ar cr k M v none 0 0 [] hM.up hv.up hvn (Rs.nil (by decide)) rfl (Nat.zero_le _)) rfl (fun ⟨b7, ⟨vb, vn, va, vc, vl⟩, ad7, z7, cd7, d7⟩ hr => ?_); dsimp only at hr ⊢; obtain ⟨rfl, rfl, hr3⟩ := hr; rw [hML, hpn, hx] at hr3; obtain ⟨rfl, rfl⟩ := Prod.mk.inj hr3) | refine o1_call (fun hh => vec_First _ ⟨vb, vn, va, vc, vl⟩ (RdV.own hxl l3 hh) ht.up) rfl (fun _ _ => ?_) | refine o1_geq_d rfl rfl ?_ | refine o1_pick_t rfl rfl ?_ | refine o1_pick_f rfl rfl ?_ | refine o1_fieldAddr rfl ?_ | refine ox_load rfl (by rfl) ?_ | refine ox_load_enc rfl (by first | omega | (simp; omega)) ?_ | refine ox_load_any rfl (by assumption) ?_ | refine o1_geq_t rfl rfl (by omega) ?_ | refine o1_geq_f rfl rfl (by omega) ?_ | refine o1_geq rfl rfl (fun _ => ?_) (fun _ => ?_) | refine o1_slice_nil rfl ?_ | refine o1_nilCheck rfl ?_)
  refine rt_tmp () rfl rfl ?_ trivial ?_
  · show Value.bool _ = Value.bool b
    rw [← hb]
  (try dsimp only [List.cons_append, List.nil_append, List.singleton_append, List.append_nil]); (repeat (first | exact Ent.nil | exact Ent.refl _ | (apply Ent.cons; (repeat (first | exact Sel.here | apply Sel.there)))))
/-! The pieces. -/
def p0 (seed : BitVec 8) (i : Nat) : BitVec 8 := BitVec.ofInt 8 (i : Int) * 37#8 + seed
def p1 (seed : BitVec 8) (i : Nat) : BitVec 8 := BitVec.ofInt 8 (i : Int) ^^^ seed
def pL (seed : BitVec 8) (i : Nat) : List (BitVec 8) := twoB (p0 seed i) (p1 seed i)
def fX (p : Nat → BitVec 8) (l : List Nat) : BitVec 8 := l.foldl (fun a i => a ^^^ p i) 0#8
theorem fX_snoc (p : Nat → BitVec 8) (l : List Nat) (i : Nat) : fX p (l ++ [i]) = fX p l ^^^ p i := by simp [fX]
def dP (seed : BitVec 8) (l : List Nat) : List (BitVec 8) := twoB (fX (p0 seed) l) (fX (p1 seed) l)
def dV (n : Nat) (seed : BitVec 8) (v : List Bool) : List (BitVec 8) := dP seed (placesN (at_ v) n)
theorem fX_places (p : Nat → BitVec 8) (f : Nat → Bool) (n : Nat) : fX p (placesN f n) = xsum (fun i => pickB (f i) (p i)) n := fold_places f p n
theorem dV_lin (n : Nat) (seed : BitVec 8) : Lin n 2 (dV n seed) := ⟨fun _ _ => rfl, fun a b ha hb => by
  have key : ∀ p : Nat → BitVec 8, fX p (placesN (at_ (xorV a b)) n) = fX p (placesN (at_ a) n) ^^^ fX p (placesN (at_ b) n) := fun p => by
    rw [fX_places, fX_places, fX_places, ← xsum_xor]
    refine xsum_congr (fun i _ => ?_)
    rw [show at_ (xorV a b) i = (at_ a i ^^ at_ b i) from xorV_getD (by omega) i]
    cases at_ a i <;> cases at_ b i <;> simp [pickB]
  show twoB _ _ = xorL (twoB _ _) (twoB _ _)
  rw [key, key]
  rfl⟩
theorem dV_unit {n : Nat} (seed : BitVec 8) {v : List Bool} {i : Nat} (hi : i < n) (h : ∀ k, at_ v k = decide (k = i)) : dV n seed v = pL seed i := by
  have key : ∀ p : Nat → BitVec 8, fX p (placesN (at_ v) n) = p i := fun p => by
    rw [fX_places, xsum_one hi (fun j _ hj => by rw [h j]; simp [pickB, hj]), h i]
    simp [pickB]
  show twoB _ _ = twoB _ _
  rw [key, key]
theorem dV_len (n : Nat) (seed : BitVec 8) (v : List Bool) : (dV n seed v).length = 2 := rfl
/-- The rows, begun at the k-th. -/
def rotV (k : Nat) (rs : List (List Bool)) : List (List Bool) := (List.range rs.length).map (fun i => rs.getD ((i + k) % rs.length) [])
theorem rotV_len (k : Nat) (rs : List (List Bool)) : (rotV k rs).length = rs.length := by simp [rotV]
theorem rotV_mem {k : Nat} {rs : List (List Bool)} {v : List Bool} (h : v ∈ rotV k rs) : v ∈ rs := by
  obtain ⟨i, hi, rfl⟩ := List.mem_map.1 h
  have hi := List.mem_range.1 hi
  have hm : (i + k) % rs.length < rs.length := Nat.mod_lt _ (by omega)
  rw [List.getD_eq_getElem?_getD, List.getElem?_eq_getElem hm]
  exact List.getElem_mem hm
theorem mem_rotV {k : Nat} {rs : List (List Bool)} {v : List Bool} (h : v ∈ rs) : v ∈ rotV k rs := by
  obtain ⟨j, hj, rfl⟩ := List.getElem_of_mem h
  refine List.mem_map.2 ⟨(j + rs.length * k - k) % rs.length, List.mem_range.2 (Nat.mod_lt _ (by omega)), ?_⟩
  have hk : k ≤ rs.length * k := Nat.le_mul_of_pos_left _ (by omega)
  have e : ((j + rs.length * k - k) % rs.length + k) % rs.length = j := by
    rw [Nat.mod_add_mod, show j + rs.length * k - k + k = j + rs.length * k by omega, Nat.add_mul_mod_self_left, Nat.mod_eq_of_lt hj]
  rw [e, List.getD_eq_getElem?_getD, List.getElem?_eq_getElem hj]
  rfl
theorem rotV_take {k i : Nat} {rs : List (List Bool)} (hi : i < rs.length) : (rotV k rs).take (i + 1) = (rotV k rs).take i ++ [rs.getD ((i + k) % rs.length) []] := by
  rw [List.take_succ_eq_append_getElem (by rw [rotV_len]; exact hi)]
  simp [rotV]
end Go.Dp
