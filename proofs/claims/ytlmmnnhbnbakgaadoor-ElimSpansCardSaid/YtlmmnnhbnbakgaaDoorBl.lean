/-
  A row's input, opened: what each parameter's data say of its value and of memory; and the way back: memory of before stands behind the call.
  Conditions: none; it holds over whatever program, the types' rows given as instances.
-/
import Derived.Test.YtlmmnnhbnbakgaaDoorBk
import Derived.WalkKit
import Derived.ProofKit
import Derived.OpenShut
import Derived.ShutString
import Derived.ChangeOld
import Derived.Below
import Derived.SizedLaws
set_option linter.unusedVariables false
namespace Go.Dp
open Go.RowKit Go.ChangeShapes Go.WideShapes

theorem Rs.up {α : Type} {A : Hp → Prop} {H H' : List Hl} {enc : α → Value} {ad : Option Addr} {c : Nat} {l : List α} (h : Rs A enc ad c l) [s : SAny H A H'] : Rs (stars H) enc ad c l := h.lift s.s
/-- All that stood in W. -/
def baseH (W : World) : Hp → Prop := fun h => ∀ i, h i = W.heap[i]?
abbrev base (W : World) : List Hl := [.any (baseH W)]
theorem base_sat (W : World) : sat W (stars (base W)) :=
  ⟨fun i => W.heap[i]?, fun _ _ e => e, fun i => W.heap[i]?, fun _ => none, fun _ => .inr rfl, .refl _, fun _ _ e => (by cases e), fun _ => rfl, trivial⟩
theorem base_block {W w : World} (h : sat w (stars (base W))) {i : Nat} {o : Obj} (ho : W.heap[i]? = some o) : w.heap[i]? = some o := by
  obtain ⟨x, hw, h1, h2, hd, s1, s2, hb, _⟩ := h
  exact hw i o (s1 i o ((hb i).trans ho))
theorem base_cell {W w : World} (h : sat w (stars (base W))) {a : Addr} {v : Value} (ho : W.cell? a = some v) : w.cell? a = some v := by
  unfold World.cell? at ho ⊢
  cases hb : W.heap[a.block]? with
  | none => rw [hb] at ho; simp at ho
  | some o => rw [base_block h hb]; rw [hb] at ho; exact ho
theorem base_below {W w : World} (h : sat w (stars (base W))) (hx : Ext W w) : Below W.heap.size W w :=
  ⟨hx.os, hx.tape, hx.output, hx.size, fun k hk => by
    have : W.heap[k]? = some W.heap[k] := by simp [hk]
    rw [this, base_block h this]⟩

abbrev most : Nat := reachBytes
/-- What the data of type t are, cell by cell (c), and what holds of them (F). -/
class Rd (P : Program) (t : TypeId) (X : outParam Type) (c : outParam (X → List Value)) (F : outParam (World → X → Prop)) : Prop where
  o : ∀ {H : Type} {enc : TypeId × Value → H} {W : World} {fuel : Nat} {cs : List Value} {x : DataW H × List MemPlace}, DataW.trod enc P W 0 (fun _ => true) true fuel t cs = some x → (∀ n ∈ x.1.weights P t, n ≤ most) → ∃ y, cs = c y ∧ F W y
structure SlD (Y : Type) where
  ad : Option Addr
  cap : Nat
  l : List Y
/-- A slice that is read, each element of m cells. -/
structure Rm {α : Type} (A : Hp → Prop) (m : Nat) (c : α → List Value) (ad : Option Addr) (cap : Nat) (l : List α) : Prop where
  le : l.length ≤ cap
  big : cap ≤ 9223372036854775807
  sm : 0 < l.length → ∃ a, ad = some a
  cell : ∀ w, sat w A → ∀ a, ad = some a → ∀ i x, l[i]? = some x → ∀ j v, (c x)[j]? = some v → w.cell? (a.add (i * m + j)) = some v

theorem cellsOf_inf {P : Program} {t : TypeId} {z : Value} {s b : Nat} (h : TInf P t z s b) : P.cellsOf t = s := by
  obtain ⟨i, hi, _, hs, _⟩ := h.info
  simp [Program.cellsOf, hi, hs]
theorem bytesOf_inf {P : Program} {t : TypeId} {z : Value} {s b : Nat} (h : TInf P t z s b) : P.bytesOf t = b := by
  obtain ⟨i, hi, _, _, hb⟩ := h.info
  simp [Program.bytesOf, hi, hb]

instance rd_i64 {P : Program} {t : TypeId} [h : TInt P t .i64] : Rd P t Int (fun n => [I n]) (fun _ n => -9223372036854775808 ≤ n ∧ n ≤ 9223372036854775807) where
  o hd _ := by
    obtain ⟨n, rfl, _, hw⟩ := DataW.trod_int h.u hd
    refine ⟨n, rfl, ?_⟩
    simp only [Lit.wf, Bool.and_eq_true, decide_eq_true_eq] at hw
    exact hw
theorem bv_of {m : Nat} {n : Int} (h0 : 0 ≤ n) (h1 : n < 2 ^ m) : ((BitVec.ofInt m n).toNat : Int) = n := by
  rw [BitVec.toNat_ofInt]
  have : n % ((2 ^ m : Nat) : Int) = n := Int.emod_eq_of_lt h0 (by exact_mod_cast h1)
  omega
instance rd_u8 {P : Program} {t : TypeId} [h : TInt P t .u8] : Rd P t (BitVec 8) (fun n => [B n]) (fun _ _ => True) where
  o hd _ := by
    obtain ⟨n, rfl, _, hw⟩ := DataW.trod_int h.u hd
    simp only [Lit.wf, Bool.and_eq_true, decide_eq_true_eq] at hw
    have h0 : (0 : Int) ≤ n := hw.1
    have h1 : n ≤ 255 := hw.2
    exact ⟨BitVec.ofInt 8 n, by rw [B, bv_of h0 (by omega)], trivial⟩
instance rd_u32 {P : Program} {t : TypeId} [h : TInt P t .u32] : Rd P t (BitVec 32) (fun n => [W4 n]) (fun _ _ => True) where
  o hd _ := by
    obtain ⟨n, rfl, _, hw⟩ := DataW.trod_int h.u hd
    simp only [Lit.wf, Bool.and_eq_true, decide_eq_true_eq] at hw
    have h0 : (0 : Int) ≤ n := hw.1
    have h1 : n ≤ 4294967295 := hw.2
    exact ⟨BitVec.ofInt 32 n, by rw [W4, bv_of h0 (by omega)], trivial⟩
instance rd_bool {P : Program} {t : TypeId} [h : TBool P t] : Rd P t Bool (fun b => [.bool b]) (fun _ _ => True) where
  o := by
    intro H enc W fuel cs x hd _
    cases fuel with
    | zero => simp [DataW.trod] at hd
    | succ m =>
      unfold DataW.trod at hd
      rw [h.u] at hd
      split at hd <;> simp_all
theorem rd_elems {P : Program} {t e : TypeId} {Y : Type} {c : Y → List Value} {G : World → Y → Prop} {z : Value} {m b : Nat} (hs : TSl P t e) (hr : Rd P e Y c G) (hi : TInf P e z m b)
    {H : Type} {enc : TypeId × Value → H} {W : World} {fuel : Nat} {cs : List Value} {x : DataW H × List MemPlace} (hd : DataW.trod enc P W 0 (fun _ => true) true fuel t cs = some x) (hw : ∀ n ∈ x.1.weights P t, n ≤ most) :
    ∃ y : SlD Y, cs = [.slice y.ad y.l.length y.cap] ∧ y.l.length * b ≤ most ∧ (∀ u ∈ y.l, G W u) ∧ y.l.length ≤ y.cap ∧ y.cap ≤ 9223372036854775807 ∧ (0 < y.l.length → ∃ a, y.ad = some a) ∧
      ∀ a, y.ad = some a → ∀ i u, y.l[i]? = some u → ∀ j v, (c u)[j]? = some v → W.cell? (a.add (i * m + j)) = some v := by
  rcases DataW.trod_slice hs.u hd with ⟨rfl, _⟩ | ⟨a, len, cap, elems, rest, k, rfl, rfl, rfl, hb, hl, hm, hlen, hel, hsp, _⟩
  · exact ⟨⟨none, 0, []⟩, rfl, by simp, by simp, by simp, by simp, by simp, by simp⟩
  · rw [cellsOf_inf hi] at hel
    have hwt : ∀ n ∈ DataW.weights P t (.slice (elems.map (·.1)) (rest.map (·.1)) : DataW H), n ≤ most := hw
    simp only [DataW.weights, hs.u, bytesOf_inf hi, List.length_map] at hwt
    have hsz : (elems.length + rest.length) * b ≤ most := hwt _ (by simp)
    have hall : ∀ (l : List (DataW H)) (d : DataW H), d ∈ l → ∀ n ∈ d.weights P e, n ∈ DataW.weightsAll P e l := by
      intro l
      induction l with
      | nil => intro d hd; simp at hd
      | cons q r ih =>
        intro d hd n hn
        simp only [DataW.weightsAll, List.mem_append]
        rcases List.mem_cons.1 hd with rfl | hd
        · exact .inl hn
        · exact .inr (ih d hd n hn)
    have each : ∀ i, i < len → ∃ (y : Y) (vs : List Value), W.cells? 0 (a.add (i * m)) m = some vs ∧ vs = c y ∧ G W y := by
      intro i hi'
      have h1 := hel i hi'
      have h2 : elems[i]? = some elems[i] := by simp [hlen, hi']
      rw [h2] at h1
      cases hc : W.cells? 0 (a.add (i * m)) m with
      | none => rw [hc] at h1; simp at h1
      | some vs =>
        rw [hc] at h1
        simp only [Option.bind_some] at h1
        obtain ⟨y, hy, hG⟩ := hr.o h1 (fun n hn => hwt n (by
          simp only [List.mem_cons, List.mem_append]
          exact .inr (.inl (hall _ _ (List.mem_map.2 ⟨elems[i], List.getElem_mem _, rfl⟩) n hn))))
        exact ⟨y, vs, rfl, hy, hG⟩
    have pick : ∃ l : List Y, l.length = len ∧ ∀ i u, l[i]? = some u → ∃ vs, W.cells? 0 (a.add (i * m)) m = some vs ∧ vs = c u ∧ G W u := by
      clear hwt hw hsz hsp hel hd hlen hl
      induction len with
      | zero => exact ⟨[], rfl, by simp⟩
      | succ q ih =>
        obtain ⟨l, hl, hf⟩ := ih (fun i hi => each i (by omega))
        obtain ⟨y, vs, h1, h2, h3⟩ := each q (by omega)
        refine ⟨l ++ [y], by simp [hl], fun i u hu => ?_⟩
        rw [List.getElem?_append] at hu
        split at hu
        · exact hf i u hu
        · rename_i hge
          have : i = q := by
            have := (List.getElem?_eq_some_iff.1 hu).1
            simp at this; omega
          subst this
          simp [hl] at hu
          subst hu
          exact ⟨vs, h1, h2, h3⟩
    obtain ⟨l, hl', hf⟩ := pick
    refine ⟨⟨some a, cap, l⟩, by simp [hl'], ?_, ?_, by simp [hl']; omega, hm, fun _ => ⟨a, rfl⟩, ?_⟩
    · simp only [hl', ← hlen]
      exact Nat.le_trans (Nat.mul_le_mul_right _ (Nat.le_add_right _ _)) hsz
    · intro u hu
      obtain ⟨i, hi, rfl⟩ := List.mem_iff_getElem.1 hu
      obtain ⟨_, _, _, h3⟩ := hf i l[i] (by simp [hi])
      exact h3
    · intro a' ha i u hu j v hv
      injection ha with ha
      subst ha
      obtain ⟨vs, h1, rfl, _⟩ := hf i u hu
      obtain ⟨_, hlv, hc⟩ := World.cells?_some h1
      have hj : j < m := by rw [← hlv]; exact (List.getElem?_eq_some_iff.1 hv).1
      rw [← add_add, hc j hj, hv]
/-- A slice whose elements are one cell each. -/
instance rd_slice {P : Program} {t e : TypeId} {Y : Type} {g : Y → Value} {G : World → Y → Prop} {z : Value} {b : Nat} [hs : TSl P t e] [hr : Rd P e Y (fun y => [g y]) G] [hi : TInf P e z 1 b] :
    Rd P t (SlD Y) (fun s => [.slice s.ad s.l.length s.cap]) (fun W s => Rs (stars (base W)) g s.ad s.cap s.l ∧ s.l.length * b ≤ 140737488351232 ∧ ∀ y ∈ s.l, G W y) where
  o hd hw := by
    obtain ⟨y, h1, h2, h3, h4, h5, h6, h7⟩ := rd_elems hs hr hi hd hw
    refine ⟨y, h1, ⟨h4, h5, h6, fun w hsat a ha i u hu => ?_⟩, h2, h3⟩
    have := h7 a ha i u hu 0 (g u) rfl
    simp only [Nat.mul_one, Nat.add_zero] at this
    exact base_cell hsat this
/-- A slice of elements of some cells each. -/
instance (priority := low) rd_slicem {P : Program} {t e : TypeId} {Y : Type} {c : Y → List Value} {G : World → Y → Prop} {z : Value} {m b : Nat} [hs : TSl P t e] [hr : Rd P e Y c G] [hi : TInf P e z m b] :
    Rd P t (SlD Y) (fun s => [.slice s.ad s.l.length s.cap]) (fun W s => Rm (stars (base W)) m c s.ad s.cap s.l ∧ s.l.length * b ≤ 140737488351232 ∧ ∀ y ∈ s.l, G W y) where
  o hd hw := by
    obtain ⟨y, h1, h2, h3, h4, h5, h6, h7⟩ := rd_elems hs hr hi hd hw
    exact ⟨y, h1, ⟨h4, h5, h6, fun w hsat a ha i u hu j v hv => base_cell hsat (h7 a ha i u hu j v hv)⟩, h2, h3⟩

/-! Structs and arrays: the fields one behind the other. -/
class RdF (P : Program) (off : Nat) (L : List (Nat × TypeId)) (X : outParam Type) (c : outParam (X → List Value)) (F : outParam (World → X → Prop)) : Prop where
  o : ∀ {H : Type} {enc : TypeId × Value → H} {W : World} {cs : List Value}, (∀ f ∈ L, ∃ fuel x, DataW.trod enc P W 0 (fun _ => true) true fuel f.2 ((cs.drop f.1).take (P.cellsOf f.2)) = some x ∧ ∀ n ∈ x.1.weights P f.2, n ≤ most) →
    (∀ M, cs.length = M → (L.map fun f => P.cellsOf f.2).sum + off = M → ∃ y, cs.drop off = c y ∧ F W y)
instance rdf_nil {P : Program} {off : Nat} : RdF P off [] Unit (fun _ => []) (fun _ _ => True) where
  o := by
    intro H enc W cs _ M h1 h2
    simp at h2
    exact ⟨(), by simp; omega, trivial⟩
instance rdf_cons {P : Program} {off : Nat} {t : TypeId} {z : Value} {m b : Nat} {L : List (Nat × TypeId)} {X Y : Type} {c : X → List Value} {d : Y → List Value} {F : World → X → Prop} {G : World → Y → Prop}
    [hi : TInf P t z m b] [hr : Rd P t X c F] [hl : RdF P (off + m) L Y d G] : RdF P off ((off, t) :: L) (X × Y) (fun u => c u.1 ++ d u.2) (fun W u => F W u.1 ∧ G W u.2) where
  o := by
    intro H enc W cs h M h1 h2
    obtain ⟨fuel, x, hx, hw⟩ := h (off, t) (by simp)
    obtain ⟨y, hy, hF⟩ := hr.o hx hw
    simp only [List.map_cons, List.sum_cons, cellsOf_inf hi] at h2
    obtain ⟨y', hy', hG⟩ := hl.o (fun f hf => h f (by simp [hf])) M h1 (by omega)
    refine ⟨(y, y'), ?_, hF, hG⟩
    rw [cellsOf_inf hi] at hy
    rw [← hy, ← hy', ← List.drop_drop, List.take_append_drop]
/-- The fields of a struct: offset and type; the parts of an array. -/
class TSt (P : Program) (t : TypeId) (L : outParam (List (Nat × TypeId))) : Prop where
  c : (match P.underlying t with | some (.struct fs) => some (fs.toList.map fun f => (f.offset, f.type)) | some (.array m e) => some ((List.range m).map fun i => (i * P.cellsOf e, e)) | _ => none) = some L
  s : (L.map fun f => P.cellsOf f.2).sum = P.cellsOf t
theorem weightsEach_mem {H : Type} {P : Program} : ∀ (ts : List TypeId) (ds : List (DataW H)) (i : Nat) (t : TypeId) (d : DataW H), ts[i]? = some t → ds[i]? = some d → ∀ n ∈ d.weights P t, n ∈ DataW.weightsEach P ts ds
  | [], _, _, _, _, h, _ => by simp at h
  | _ :: _, [], _, _, _, _, h => by simp at h
  | t :: ts, d :: ds, 0, _, _, h, h' => by
    simp at h h'
    subst h h'
    intro n hn
    simp [DataW.weightsEach, hn]
  | t :: ts, d :: ds, i + 1, _, _, h, h' => by
    simp at h h'
    intro n hn
    simp only [DataW.weightsEach, List.mem_append]
    exact .inr (weightsEach_mem ts ds i _ _ h h' n hn)
theorem weightsAll_mem {H : Type} {P : Program} {e : TypeId} : ∀ (l : List (DataW H)) (i : Nat) (d : DataW H), l[i]? = some d → ∀ n ∈ d.weights P e, n ∈ DataW.weightsAll P e l
  | [], _, _, h => by simp at h
  | q :: r, 0, d, h => by
    simp at h
    subst h
    intro n hn
    simp [DataW.weightsAll, hn]
  | q :: r, i + 1, d, h => by
    simp at h
    intro n hn
    simp only [DataW.weightsAll, List.mem_append]
    exact .inr (weightsAll_mem r i d h n hn)
instance rd_struct {P : Program} {t : TypeId} {L : List (Nat × TypeId)} {X : Type} {c : X → List Value} {F : World → X → Prop} [hs : TSt P t L] [hr : RdF P 0 L X c F] : Rd P t X c F where
  o := by
    intro H enc W fuel cs x hd hw
    have hc := hs.c
    cases hu : P.underlying t with
    | none => rw [hu] at hc; cases hc
    | some k =>
      rw [hu] at hc
      cases k <;> simp only [reduceCtorEq] at hc
      case struct fs =>
        injection hc with hc
        obtain ⟨xs, n, rfl, rfl, h1, h2, h3⟩ := DataW.trod_struct hu hd
        obtain ⟨y, hy, hF⟩ := hr.o (cs := cs) (W := W) (enc := enc) (fun f hf => by
          subst hc
          obtain ⟨q, hq, rfl⟩ := List.mem_map.1 hf
          obtain ⟨i, hi, hqi⟩ := List.mem_iff_getElem.1 hq
          have hgi : fs[i]? = some q := by
            have : i < fs.size := by simpa using hi
            simp [this, ← hqi]
          have hx := h3 i q hgi
          have hlt : i < xs.length := by rw [h2]; simpa using hi
          refine ⟨n, xs[i], by rw [hx]; simp [hlt], fun m hm => hw m ?_⟩
          simp only [DataW.weights, hu]
          exact weightsEach_mem _ _ i q.type xs[i].1 (by simp [hgi]) (by simp [hlt]) m hm) cs.length rfl (by rw [hs.s, h1]; rfl)
        exact ⟨y, by simpa using hy, hF⟩
      case array m e =>
        injection hc with hc
        obtain ⟨xs, n, rfl, rfl, h1, h2, h3⟩ := DataW.trod_array hu hd
        obtain ⟨y, hy, hF⟩ := hr.o (cs := cs) (W := W) (enc := enc) (fun f hf => by
          subst hc
          obtain ⟨i, hi, rfl⟩ := List.mem_map.1 hf
          have hi' : i < m := by simpa using hi
          have hlt : i < xs.length := by omega
          refine ⟨n, xs[i], by rw [h3 i hi']; simp [hlt], fun q hq => hw q ?_⟩
          simp only [DataW.weights, hu]
          exact weightsAll_mem _ i xs[i].1 (by simp [hlt]) q hq) cs.length rfl (by rw [hs.s, h1]; rfl)
        exact ⟨y, by simpa using hy, hF⟩

/-! A parameter. -/
class Par (P : Program) (t : TypeId) (X : outParam Type) (g : outParam (X → Value)) (F : outParam (World → X → Prop)) : Prop where
  o : ∀ {H : Type} {enc : TypeId × Value → H} {W : World} {r : Reach} {b0 : Nat} {v : Value} {d : DataW H} {ps : List MemPlace}, DataW.Trod enc P W 0 (fun _ => true) true t v d ps → Value.okWide P W r b0 t v → (∀ n ∈ d.weights P t, n ≤ most) → ∃ y, v = g y ∧ F W y
theorem par_one {P : Program} {t : TypeId} {X : Type} {g : X → Value} {F : World → X → Prop} (hr : Rd P t X (fun y => [g y]) F) (h1 : ∀ {W : World} {r : Reach} {b0 : Nat} {v : Value}, Value.okWide P W r b0 t v → v.cells = #[v]) : Par P t X g F where
  o := by
    intro H enc W r b0 v d ps ⟨fuel, hd⟩ hok hw
    obtain ⟨y, hy, hF⟩ := hr.o hd hw
    rw [h1 hok] at hy
    exact ⟨y, by simpa using hy, hF⟩
instance par_int {P : Program} {t : TypeId} {k : IntKind} {X : Type} {g : X → Value} {F : World → X → Prop} [h : TInt P t k] [hr : Rd P t X (fun y => [g y]) F] : Par P t X g F := par_one hr fun hok => by
  obtain ⟨n, rfl⟩ := okWide_int h.u hok; rfl
instance par_bool {P : Program} {t : TypeId} {X : Type} {g : X → Value} {F : World → X → Prop} [h : TBool P t] [hr : Rd P t X (fun y => [g y]) F] : Par P t X g F := par_one hr fun hok => by
  obtain ⟨n, rfl⟩ := okWide_bool h.u hok; rfl
instance par_slice {P : Program} {t e : TypeId} {X : Type} {g : X → Value} {F : World → X → Prop} [h : TSl P t e] [hr : Rd P t X (fun y => [g y]) F] : Par P t X g F := par_one hr fun hok => by
  obtain ⟨a, n, c, rfl⟩ := okWide_slice h.u hok; rfl
instance par_struct {P : Program} {t : TypeId} {L : List (Nat × TypeId)} {X : Type} {c : X → List Value} {F : World → X → Prop} [h : TSt P t L] [ha : TAgg P t] [hr : Rd P t X c F] : Par P t X (fun y => .agg (c y).toArray) F where
  o := by
    intro H enc W r b0 v d ps ⟨fuel, hd⟩ hok hw
    obtain ⟨y, hy, hF⟩ := hr.o hd hw
    refine ⟨y, ?_, hF⟩
    have hu := ha.u
    cases hk : P.underlying t with
    | none => rw [hk] at hu; simp at hu
    | some q =>
      rw [hk] at hu
      simp only [Value.okWide, hk] at hok
      cases q <;> simp at hu
      all_goals
        obtain ⟨cs, rfl, _, _⟩ := hok
        rw [← hy]
        rfl
theorem weigh {H : Type} {P : Program} {ts : List TypeId} {ds : List (DataW H)} (h : (DataW.weightsEach P ts ds).all (· ≤ reachBytes) = true) {j : Nat} {t : TypeId} {d : DataW H} (ht : ts[j]? = some t) (hd : ds[j]? = some d) : ∀ n ∈ d.weights P t, n ≤ most := by
  intro n hn
  have := List.all_eq_true.1 h n (weightsEach_mem ts ds j t d ht hd n hn)
  simpa using this
end Go.Dp
