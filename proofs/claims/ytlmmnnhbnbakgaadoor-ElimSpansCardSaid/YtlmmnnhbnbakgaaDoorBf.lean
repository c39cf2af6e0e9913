/-
  The operations on slices, arrays and strings, one lemma each; calls by their contracts.
  Conditions: none; it holds over whatever program, the types' rows given as instances.
-/
import Derived.Test.YtlmmnnhbnbakgaaDoorBe
import Derived.Laws.BytesString
import Derived.Laws.Strings
set_option linter.unusedVariables false
namespace Go.Dp
open Go.RowKit

def Has (H : List Hl) : Prop := ∃ w, sat w (stars H)
def RsH {α : Type} (H : List Hl) (enc : α → Value) (ad : Option Addr) (c : Nat) (l : List α) : Prop := Has H → Rs (stars H) enc ad c l
theorem rs_any {α : Type} {A : Hp → Prop} {H H' : List Hl} {enc : α → Value} {ad : Option Addr} {c : Nat} {l : List α} (s : Sel H (.any A) H') (h : Rs A enc ad c l) : RsH H enc ad c l := fun _ => h.lift s
theorem rs_row {α : Type} {H H' : List Hl} {T : TypeId} {enc : α → Value} {ad : Option Addr} {n c : Nat} {l : List α} (s : Sel H (.row T 1 (.slice ad n c) n (l.map enc)) H') : RsH H enc ad c l := fun ⟨w, hw⟩ => (Rs.of_row s w hw).unvals
theorem rs_box {α : Type} {H H' : List Hl} {T : TypeId} {enc : α → Value} {b c : Nat} {l : List α} (hc : l.length = c) (hb : c ≤ 9223372036854775807) (s : Sel H (.box b T (l.map enc)) H') : RsH H enc (some ⟨b, 0, none⟩) c l := fun _ => by
  subst hc
  have := Rs.of_box (by simpa using hb) s
  rw [List.length_map] at this
  exact this.unvals
theorem rs_nil {α : Type} {H : List Hl} {enc : α → Value} {ad : Option Addr} {c : Nat} (hb : c ≤ 9223372036854775807) : RsH H enc ad c ([] : List α) := fun _ => .nil hb
theorem rs_cut {α : Type} {H : List Hl} {enc : α → Value} {ad : Option Addr} {c : Nat} {l : List α} (h : RsH H enc ad c l) (lo hi mx : Nat) (h1 : lo ≤ hi) (h2 : hi ≤ l.length) (h3 : hi ≤ mx) (h4 : mx ≤ c) :
    RsH H enc (if mx = lo then ad else ad.map (·.add lo)) (mx - lo) ((l.take hi).drop lo) := fun hh => (h hh).cut lo hi mx h1 h2 h3 h4
theorem rs_of {α : Type} {A : Hp → Prop} {H H' : List Hl} {enc : α → Value} {ad : Option Addr} {c : Nat} {l : List α} (h : Rs (stars H) enc ad c l) : RsH H enc ad c l := fun _ => h

/-- The bytes of a text. -/
def str (l : List (BitVec 8)) : ByteArray := ⟨(l.map UInt8.ofBitVec).toArray⟩
theorem toList_str (l : List (BitVec 8)) : (str l).toList = l.map UInt8.ofBitVec := by simp [str]
theorem map_ub_inj : ∀ l m : List (BitVec 8), l.map UInt8.ofBitVec = m.map UInt8.ofBitVec → l = m
  | [], [], _ => rfl
  | [], _ :: _, h => by simp at h
  | _ :: _, [], h => by simp at h
  | a :: l, b :: m, h => by
    simp only [List.map_cons, List.cons.injEq] at h
    rw [map_ub_inj l m h.2, show a = b from by simpa using congrArg UInt8.toBitVec h.1]
theorem str_inj {l m : List (BitVec 8)} (h : str l = str m) : l = m := by
  have := congrArg ByteArray.toList h
  rw [toList_str, toList_str] at this
  exact map_ub_inj l m this
theorem str_beq (l m : List (BitVec 8)) : ((str l).toList == (str m).toList) = decide (l = m) := by
  rw [toList_str, toList_str]
  by_cases h : l = m
  · simp [h]
  · have : l.map UInt8.ofBitVec ≠ m.map UInt8.ofBitVec := fun e => h (map_ub_inj l m e)
    simp [h, this]
theorem foldl_push (l : List (BitVec 8)) : ∀ r : ByteArray, (l.map (fun x => (x.toNat : Int))).foldl (fun r n => r.push (UInt8.ofNat n.toNat)) r = ⟨r.data ++ (l.map UInt8.ofBitVec).toArray⟩ := by
  induction l with
  | nil => intro r; simp
  | cons x l ih =>
    intro r
    simp only [List.map_cons, List.foldl_cons, ih]
    simp [ByteArray.push, UInt8.ofNat]
abbrev B (x : BitVec 8) : Value := .int .u8 (x.toNat : Int)
theorem run_string {P : Program} {w : World} {A : Hp → Prop} (hs : sat w A) {ad : Option Addr} {c : Nat} {l : List (BitVec 8)} (h : Rs A B ad c l) : (Conv.bytesToString (.slice ad l.length c)).run P w = .ok (.string (str l)) w := by
  cases ad with
  | none =>
    have : l = [] := by
      rcases l with _ | ⟨x, l⟩
      · rfl
      · obtain ⟨a, ha⟩ := h.sm (by simp); cases ha
    subst this
    simp [Conv.bytesToString, str, ByteArray.empty, ByteArray.emptyWithCapacity]
    rfl
  | some a =>
    have hl := run_loadCells_list (P := P) w a (l.map B) (fun j v hj => by
      simp only [List.getElem?_map, Option.map_eq_some_iff] at hj
      obtain ⟨x, hx, rfl⟩ := hj
      exact h.cell w hs a rfl j x hx)
    rw [List.length_map] at hl
    have := run_bytesToString (P := P) w a l.length c (l.map fun x => (x.toNat : Int)) (by rw [hl]; simp [B])
    rw [this, foldl_push]
    simp [str, ByteArray.empty, ByteArray.emptyWithCapacity]
    rfl

section
variable {P : Program} {ops : Array Oper} {k : Kon} {rest : List Oper} {n : Nat} {e : Ev} {W : World} {H : List Hl}
variable {C : Value → List Hl → Prop} {ty : TypeId} {t t' : TypeId} {x y : Operand} {kd kd' : IntKind} {p q : Int}
variable {T E : TypeId} {z : Value} {by_ : Nat} {ad ad' : Option Addr} {l c c' : Nat}

theorem Ok1.has {a : Act} {w : World} (h : Ok1 n e H a w) : Has H := ⟨w, h.sat⟩
theorem o1_len [ht : TSl P T E] (hx : opd e x = some (.slice ad l c)) (h : C (.int .i64 (l : Int)) H) :
    O1 P (.call ⟨.builtin .len, #[x], #[T]⟩) ty n e H C :=
  o1_val _ (fun a w ho => by
    simp [execOp, resolve, invoke, builtin, ho.ev.eval hx, Builtin.len_, run_underlying ht.u, goInt]) h
theorem o1_cap [ht : TSl P T E] (hx : opd e x = some (.slice ad l c)) (h : C (.int .i64 (c : Int)) H) :
    O1 P (.call ⟨.builtin .cap, #[x], #[T]⟩) ty n e H C :=
  o1_val _ (fun a w ho => by
    simp [execOp, resolve, invoke, builtin, ho.ev.eval hx, Builtin.cap_, run_underlying ht.u, goInt]) h
theorem o1_max {ats : Array TypeId} {r : Int} (hx : opd e x = some (.int kd p)) (hy : opd e y = some (.int kd q)) (hr : (p ≤ q ∧ r = q) ∨ (q ≤ p ∧ r = p)) (h : C (.int kd r) H) :
    O1 P (.call ⟨.builtin .max, #[x, y], ats⟩) ty n e H C :=
  o1_val _ (fun a w ho => by
    have : (if q > p then q else p) = r := by split <;> omega
    simp [execOp, resolve, invoke, builtin, ho.ev.eval hx, ho.ev.eval hy, run_max_int2, this]) h
theorem o1_min {ats : Array TypeId} {r : Int} (hx : opd e x = some (.int kd p)) (hy : opd e y = some (.int kd q)) (hr : (p ≤ q ∧ r = p) ∨ (q ≤ p ∧ r = q)) (h : C (.int kd r) H) :
    O1 P (.call ⟨.builtin .min, #[x, y], ats⟩) ty n e H C :=
  o1_val _ (fun a w ho => by
    have : (if q < p then q else p) = r := by split <;> omega
    simp [execOp, resolve, invoke, builtin, ho.ev.eval hx, ho.ev.eval hy, run_min_int2, this]) h
/-! ### places of elements -/
theorem o1_indexAddr_own {b o : Nat} {s : Nat} [ht : TSl P T E] [hi : TInf P E z s by_] (hx : opd e x = some (.slice (some ⟨b, o, none⟩) l c)) (hy : opd e y = some (.int kd p)) (hp : 0 ≤ p ∧ p < l)
    (h : C (.pointer (some ⟨b, o + p.toNat * s, none⟩)) H) : O1 P (.indexAddr T x y) ty n e H C :=
  o1_val _ (fun a w ho => by
    by_cases h0 : p.toNat * s = 0
    · simp [execOp, ho.ev.eval hx, ho.ev.eval hy, Instr.indexAt, asIntOf, run_underlying ht.u, hp, run_sizeOf, Addr.add, h0]
    · simp [execOp, ho.ev.eval hx, ho.ev.eval hy, Instr.indexAt, asIntOf, run_underlying ht.u, hp, run_sizeOf, Addr.add, h0]) h
theorem o1_indexAddr_arr {b o m s : Nat} [ht : TArr P T m E] [hi : TInf P E z s by_] (hx : opd e x = some (.pointer (some ⟨b, o, none⟩))) (hy : opd e y = some (.int kd p)) (hp : 0 ≤ p ∧ p < m)
    (h : C (.pointer (some ⟨b, o + p.toNat * s, none⟩)) H) : O1 P (.indexAddr T x y) ty n e H C :=
  o1_val _ (fun a w ho => by
    by_cases h0 : p.toNat * s = 0
    · simp [execOp, ho.ev.eval hx, ho.ev.eval hy, Instr.indexAt, Instr.sureAddr, asIntOf, run_underlying ht.u, hp, run_sizeOf, Addr.add, h0]
    · simp [execOp, ho.ev.eval hx, ho.ev.eval hy, Instr.indexAt, Instr.sureAddr, asIntOf, run_underlying ht.u, hp, run_sizeOf, Addr.add, h0]) h
/-- An element of a slice that is read. -/
theorem o1_indexAddr_rd {α : Type} {A : Hp → Prop} {enc : α → Value} {xs : List α} [ht : TSl P T E] [hi : TInf P E z 1 by_] (hx : opd e x = some (.slice ad xs.length c)) (hy : opd e y = some (.int kd p)) (hr : Rs A enc ad c xs) (i : Nat) (hp : p = i) (hl : i < xs.length)
    (h : ∀ a, Cl A a (enc xs[i]) → C (.pointer (some a)) H) : O1 P (.indexAddr T x y) ty n e H C := by
  obtain ⟨a0, rfl⟩ := hr.sm (by omega)
  subst hp
  refine o1_val _ (fun a w ho => ?_) (h (a0.add i) ⟨fun w hs => hr.cell w hs a0 rfl i _ (by simp [hl])⟩)
  simp [execOp, ho.ev.eval hx, ho.ev.eval hy, Instr.indexAt, asIntOf, run_underlying ht.u, hl, run_sizeOf]
theorem o1_index_arr {m : Nat} {vs : List Value} {v : Value} [ht : TArr P T m E] [TOne P E] [hi : TInf P E z 1 by_] (hx : opd e x = some (.agg vs.toArray)) (hy : opd e y = some (.int kd p)) (hp : 0 ≤ p ∧ p < m) (hv : vs[p.toNat]? = some v)
    (h : C v H) : O1 P (.index T x y) ty n e H C :=
  o1_val _ (fun a w ho => by
    simp [execOp, ho.ev.eval hx, ho.ev.eval hy, Instr.index, asIntOf, run_underlying ht.u, hp, run_sizeOf, part, run_isAgg_one, hv]) h
theorem o1_field {j off : Nat} {vs : List Value} {v : Value} {ft : TypeId} [hf : TFld P T j off ft] [TOne P ft] (hx : opd e x = some (.agg vs.toArray)) (hv : vs[off]? = some v)
    (h : C v H) : O1 P (.field T x j) ty n e H C :=
  o1_val _ (fun a w ho => by
    obtain ⟨fs, f, h1, h2, rfl, rfl, _⟩ := hf.u
    simp [execOp, ho.ev.eval hx, Instr.field, run_underlying h1, h2, asAgg, part, run_isAgg_one, hv]) h
theorem o1_field_agg {j off s : Nat} {vs us : List Value} {ft : TypeId} [hf : TFld P T j off ft] [TAgg P ft] [hi : TInf P ft z s by_] (hx : opd e x = some (.agg vs.toArray)) (hv : (vs.drop off).take s = us)
    (h : C (.agg us.toArray) H) : O1 P (.field T x j) ty n e H C :=
  o1_val _ (fun a w ho => by
    obtain ⟨fs, f, h1, h2, rfl, rfl, _⟩ := hf.u
    simp [execOp, ho.ev.eval hx, Instr.field, run_underlying h1, h2, asAgg, part, run_isAgg_agg, run_sizeOf, hv]) h
/-! ### cuts -/
theorem o1_slice_lh {s lo hi : Nat} {ol oh : Operand} [ht : TSl P T E] [hi' : TInf P E z s by_] (hx : opd e x = some (.slice ad l c)) (hl : opd e ol = some (.int kd (lo : Int))) (hh : opd e oh = some (.int kd' (hi : Int))) (h1 : lo ≤ hi) (h2 : hi ≤ c)
    (h : C (.slice (if c = lo then ad else ad.map (·.add (lo * s))) (hi - lo) (c - lo)) H) : O1 P (.slice T x (some ol) (some oh) none) ty n e H C :=
  o1_val _ (fun a w ho => by
    simp [execOp, ho.ev.eval hx, ho.ev.eval hl, ho.ev.eval hh, Instr.sliceAt, run_underlying ht.u, Instr.slice, Instr.sliceBounds, Instr.sliceBound, asIntOf, run_sizeOf, h1, h2]) h
theorem o1_slice_h {s hi : Nat} {oh : Operand} [ht : TSl P T E] [hi' : TInf P E z s by_] (hx : opd e x = some (.slice ad l c)) (hh : opd e oh = some (.int kd' (hi : Int))) (h2 : hi ≤ c)
    (h : C (.slice (if c = 0 then ad else ad.map (·.add (0 * s))) hi c) H) : O1 P (.slice T x none (some oh) none) ty n e H C :=
  o1_val _ (fun a w ho => by
    simp [execOp, ho.ev.eval hx, ho.ev.eval hh, Instr.sliceAt, run_underlying ht.u, Instr.slice, Instr.sliceBounds, Instr.sliceBound, asIntOf, run_sizeOf, h2]) h
theorem o1_slice_l {s lo : Nat} {ol : Operand} [ht : TSl P T E] [hi' : TInf P E z s by_] (hx : opd e x = some (.slice ad l c)) (hl : opd e ol = some (.int kd (lo : Int))) (h1 : lo ≤ l)
    (h : C (.slice (if c = lo then ad else ad.map (·.add (lo * s))) (l - lo) (c - lo)) H) : O1 P (.slice T x (some ol) none none) ty n e H C :=
  o1_val _ (fun a w ho => by
    simp [execOp, ho.ev.eval hx, ho.ev.eval hl, Instr.sliceAt, run_underlying ht.u, Instr.slice, Instr.sliceBounds, Instr.sliceBound, asIntOf, run_sizeOf, h1]) h
theorem o1_slice_hm {s hi mx : Nat} {oh om : Operand} [ht : TSl P T E] [hi' : TInf P E z s by_] (hx : opd e x = some (.slice ad l c)) (hh : opd e oh = some (.int kd (hi : Int))) (hm : opd e om = some (.int kd' (mx : Int))) (h1 : hi ≤ mx) (h2 : mx ≤ c)
    (h : C (.slice (if mx = 0 then ad else ad.map (·.add (0 * s))) hi mx) H) : O1 P (.slice T x none (some oh) (some om)) ty n e H C :=
  o1_val _ (fun a w ho => by
    simp [execOp, ho.ev.eval hx, ho.ev.eval hh, ho.ev.eval hm, Instr.sliceAt, run_underlying ht.u, Instr.slice, Instr.sliceBounds, Instr.sliceBound, asIntOf, run_sizeOf, h1, h2]) h
/-! ### make, literals -/
theorem o1_mk {lo cp : Nat} [ht : TSl P T E] [hi : TInf P E z 1 by_] (hz : z.oneCell' = true) (hx : opd e x = some (.int kd (lo : Int))) (hy : opd e y = some (.int kd' (cp : Int))) (h1 : lo ≤ cp) (h2 : by_ * cp ≤ 281474976710656) (h3 : cp ≤ 9223372036854775807)
    (h : ∀ b, C (.slice (some ⟨b, 0, none⟩) lo cp) (.box b E (List.replicate cp z) :: H)) : O1 P (.makeSlice T x y) ty n e H C :=
  o1_step fun a w ho => by
    obtain ⟨i, hi0, hiz, his, hib⟩ := hi.info
    have h5 : (i.bytes : Int) * (cp : Int) ≤ 281474976710656 := by
      rw [hib]
      have h6 : ((by_ * cp : Nat) : Int) ≤ 281474976710656 := by omega
      rwa [Int.natCast_mul] at h6
    have hr := run_make (P := P) w T E i z ht.u hi0 hiz kd kd' lo cp (by omega) (by omega) h5 (by omega)
    simp only [Int.toNat_natCast, his, Nat.mul_one] at hr
    have hm : madeCells z.cells cp = (List.replicate cp z).toArray := by
      rw [oneCell_cells hz]
      apply Array.ext'
      rw [toList_madeCells_one]
    rw [hm] at hr
    refine ⟨_, _, ?_, _, h _, (Ext.refl w).alloc _, ho.sat.alloc E _⟩
    simp [execOp, ho.ev.eval hx, ho.ev.eval hy, hr]
def opds (e : Ev) : List Operand → Option (List Value)
  | [] => some []
  | x :: l => match opd e x, opds e l with
    | some v, some vs => some (v :: vs)
    | _, _ => none
theorem EvOk.evals {a : Act} (h : EvOk a n e) : ∀ {l : List Operand} {vs : List Value}, opds e l = some vs → l.map a.eval = vs
  | [], vs, hl => by simp [opds] at hl; simp [hl]
  | x :: l, vs, hl => by
    simp only [opds] at hl
    split at hl
    · rename_i v us hv hus
      simp only [Option.some.injEq] at hl
      subst hl
      simp [h.eval hv, EvOk.evals h hus]
    · cases hl
def opdi (e : Ev) : List (Nat × Operand) → Option (List (Nat × Value))
  | [] => some []
  | (i, x) :: l => match opd e x, opdi e l with
    | some v, some vs => some ((i, v) :: vs)
    | _, _ => none
theorem EvOk.evali {a : Act} (h : EvOk a n e) : ∀ {l : List (Nat × Operand)} {vs : List (Nat × Value)}, opdi e l = some vs → l.map (fun x => (x.1, a.eval x.2)) = vs
  | [], vs, hl => by simp [opdi] at hl; simp [hl]
  | (i, x) :: l, vs, hl => by
    simp only [opdi] at hl
    split at hl
    · rename_i v us hv hus
      simp only [Option.some.injEq] at hl
      subst hl
      simp [h.eval hv, EvOk.evali h hus]
    · cases hl
theorem o1_build {ps : List (Nat × Operand)} {us : List (Nat × Value)} {vs : List Value} (hps : opdi e ps = some us) (hr : ∀ w, (Instr.build T us.toArray).run P w = .ok (.agg vs.toArray) w) (h : C (.agg vs.toArray) H) :
    O1 P (.build T ps.toArray) ty n e H C :=
  o1_val _ (fun a w ho => by
    have := ho.ev.evali hps
    simp only [execOp, List.map_toArray, this, Sem.run_bind, hr, Result.andThen_ok, Sem.run_pure]) h
theorem o1_buildSlice {ps : List (Nat × Operand)} {us : List (Nat × Value)} {vs : List Value} {m : Nat} (hps : opdi e ps = some us) (hr : ∀ w, (Instr.buildSlice T m us.toArray).run P w = .ok (.slice (some ⟨w.heap.size, 0, none⟩) m m) (w.alloc (.cells vs.toArray E)))
    (h : ∀ b, C (.slice (some ⟨b, 0, none⟩) m m) (.box b E vs :: H)) : O1 P (.buildSlice T m ps.toArray) ty n e H C :=
  o1_step fun a w ho => by
    have := ho.ev.evali hps
    refine ⟨_, _, ?_, _, h _, (Ext.refl w).alloc _, ho.sat.alloc E _⟩
    simp only [execOp, List.map_toArray, this, Sem.run_bind, hr, Result.andThen_ok, Sem.run_pure]
/-! ### append -/
theorem o1_append {α : Type} {enc : α → Value} {xs ys : List α} {H' : List Hl} {m a0 : Nat} [ht : TSl P T E] [hi : TInf P E z 1 by_] (hz : z.oneCell' = true) (henc : ∀ x, (enc x).oneCell' = true) (hx : opd e x = some (.slice ad a0 c)) (hy : opd e y = some (.slice ad' m c'))
    (s : Sel H (.row E 1 (.slice ad a0 c) a0 (xs.map enc)) H') (hm : m = ys.length) (hr : RsH H enc ad' c' ys) (hb : (a0 + m) * by_ ≤ 140737488355328) (hb2 : a0 + m ≤ 9223372036854775807)
    (h : ∀ ad2 c2, C (.slice ad2 (a0 + m) c2) (.row E 1 (.slice ad2 (a0 + m) c2) (a0 + m) ((xs ++ ys).map enc) :: H')) :
    O1 P (.call ⟨.builtin .append, #[x, y], #[T, T]⟩) ty n e H C :=
  o1_step fun a w ho => by
    subst hm
    obtain ⟨i, hi0, hiz, his, hib⟩ := hi.info
    have hown := ho.sat.own s
    have hr := hr ho.has
    have hzs : z.cells.size = 1 := by rw [oneCell_cells hz]; rfl
    have key : ∃ v' w', (Builtin.append_ #[T, T] ty #[.slice ad a0 c, .slice ad' ys.length c']).run P w = .ok v' w' ∧ w'.ownsRow 0 E 1 v' (a0 + ys.length) (xs.map enc ++ ys.map enc) ∧ w.grownBy w' (Value.slice ad a0 c).ownBlock ∧
        (v'.ownBlock = (Value.slice ad a0 c).ownBlock ∨ v'.ownBlock = some w.heap.size) := by
      cases ad' with
      | none =>
        have hn : ys = [] := by
          rcases ys with _ | ⟨x, ys⟩
          · rfl
          · obtain ⟨a, ha⟩ := hr.sm (by simp); cases ha
        subst hn
        refine ⟨_, w, ?_, by simpa using hown, World.grownBy.refl w _, .inl rfl⟩
        rcases hown.2 with ⟨hv, rfl⟩ | ⟨g, cap, cur, hv, _, _, hnc, _⟩
        · injection hv with h1 h2 h3
          subst h1 h3
          simp [Builtin.append_, run_underlying ht.u, sizeOf, typeInfo, hi0, Builtin.lenOf, Builtin.firstCells]
        · injection hv with h1 h2 h3
          subst h1 h3
          simp [Builtin.append_, run_underlying ht.u, sizeOf, typeInfo, hi0, Builtin.lenOf, Builtin.firstCells, hnc, storeCells]
      | some b =>
        obtain ⟨v', w', h1, h2, h3, _, h5⟩ := run_append_own_at (P := P) w 0 T ty E i z 1 by_ ht.u hi0 hiz his hib hzs (by omega) _ _ _ hown b ys.length c' (ys.map enc) (by simp)
          (fun j u hj => by
            simp only [List.getElem?_map, Option.map_eq_some_iff] at hj
            obtain ⟨x, hx, rfl⟩ := hj
            exact hr.cell w ho.sat b rfl j x hx)
          (fun u hu => by
            simp only [List.mem_map] at hu
            obtain ⟨x, _, rfl⟩ := hu
            exact henc x) (by simp only [maxLen]; omega) hb (by omega)
        exact ⟨v', w', h1, h2, h3, h5⟩
    obtain ⟨v', w', hrun, h2, h3, h4⟩ := key
    have hv : ∃ ad2 c2, v' = .slice ad2 (a0 + ys.length) c2 := by
      rcases h2.2 with ⟨rfl, hn⟩ | ⟨g, cap, cur, rfl, _⟩
      · exact ⟨none, 0, by rw [hn]⟩
      · exact ⟨_, _, rfl⟩
    obtain ⟨ad2, c2, rfl⟩ := hv
    rw [← List.map_append] at h2
    refine ⟨_, w', ?_, _, h ad2 c2, ⟨h3.os, h3.tape, h3.output, h3.size⟩, ho.sat.grown s h2 h3 h4⟩
    simp [execOp, resolve, invoke, builtin, ho.ev.eval hx, ho.ev.eval hy, hrun]
/-! ### strings -/
theorem o1_string {xs : List (BitVec 8)} {m : Nat} [ht : TSl P t E] [he : TInt P E .u8] [hs : TStr P t'] (hx : opd e x = some (.slice ad m c)) (hm : m = xs.length) (hr : RsH H B ad c xs) (h : C (.string (str xs)) H) :
    O1 P (.convert t t' x) ty n e H C :=
  o1_val _ (fun a w ho => by
    subst hm
    have h1 := run_convert_bytes_string (P := P) w t t' E ad xs.length c ht.u he.u hs.u
    rw [run_string ho.sat (hr ho.has)] at h1
    simp [execOp, ho.ev.eval hx, h1]) h
theorem o1_str {op : BinOp} {a b : ByteArray} {r : Bool} (hx : opd e x = some (.string a)) (hy : opd e y = some (.string b)) (hr : binOp op t (.string a) (.string b) = pure (.bool r)) (h : C (.bool r) H) :
    O1 P (.binOp op t x y t') ty n e H C :=
  o1_val _ (fun a w ho => by simp [execOp, ho.ev.eval hx, ho.ev.eval hy, eqGuard_at_string, hr]) h
theorem o1_streq_t {a b : List (BitVec 8)} (hx : opd e x = some (.string (str a))) (hy : opd e y = some (.string (str b))) (hc : a = b) (h : C (.bool true) H) :
    O1 P (.binOp .eql t x y t') ty n e H C := o1_str hx hy (by rw [binOp_string_eql, str_beq]; simp [hc]) h
theorem o1_streq_f {a b : List (BitVec 8)} (hx : opd e x = some (.string (str a))) (hy : opd e y = some (.string (str b))) (hc : a ≠ b) (h : C (.bool false) H) :
    O1 P (.binOp .eql t x y t') ty n e H C := o1_str hx hy (by rw [binOp_string_eql, str_beq]; simp [hc]) h
theorem o1_streq {a b : List (BitVec 8)} (hx : opd e x = some (.string (str a))) (hy : opd e y = some (.string (str b))) (h1 : a = b → C (.bool true) H) (h2 : a ≠ b → C (.bool false) H) :
    O1 P (.binOp .eql t x y t') ty n e H C := by
  by_cases hc : a = b
  · exact o1_streq_t hx hy hc (h1 hc)
  · exact o1_streq_f hx hy hc (h2 hc)
/-! ### calls -/
theorem run_enter {f : FuncId} {args : Array Value} {w : World} (h : (P.funcs[f]?).map (fun fn => (fn.name == "runtime.NumGoroutine", fn.body.isNone)) = some (false, false)) : (callFunc f args).run P w = .ok (.enter f args) w := by
  cases hf : P.funcs[f]? with
  | none => simp [hf] at h
  | some fn =>
    simp only [hf, Option.map_some, Option.some.injEq, Prod.mk.injEq] at h
    have hb : ¬ fn.body = none := fun hn => by rw [hn] at h; simp at h
    have hn : ¬ fn.name = "runtime.NumGoroutine" := by simpa using h.1
    simp [callFunc, hf, hn, hb]
theorem o1_call {f : FuncId} {xs : List Operand} {args : List Value} {ats : Array TypeId} {X : Type} {good : X → Prop} {val : X → Value} {res : X → List Hl} (hs : Has H → Spec P f args H good val res) (hxs : opds e xs = some args)
    (h : ∀ r, good r → C (val r) (res r)) : O1 P (.call ⟨.value (.func f), xs.toArray, ats⟩) ty n e H C :=
  ⟨fun a w ho o h1 h2 K Q hK => by
    have hs := hs ho.has
    have hc := hs.calls w ho.sat
    have hargs := ho.ev.evals hxs
    have hr : (execOp a.eval ⟨none, .call ⟨.value (.func f), xs.toArray, ats⟩, ty, "", #[], none⟩).run P w = .ok (.enter f args.toArray) w := by
      simp [execOp, resolve, invoke, Deferred.ofValue, Act.eval, hargs, run_enter hs.enters]
    subst h2
    unfold Oper.wp
    rw [execOp_eq, h1, hr]
    refine hc.mono ?_
    rintro x w' ⟨r, hg, rfl, hx, hsat⟩
    exact hK _ _ _ (h r hg) hx hsat⟩
/-! ### other readings of memory -/
theorem ls_ent {H2 : List Hl} (hE : ∀ h, stars H h → stars H2 h) (h : Ls P ops k rest n e W H2) : Ls P ops k rest n e W H := ⟨fun a w ho => h.out a w ⟨ho.ev, ho.ext, ho.sat.mono hE⟩⟩
theorem st_ent {co : Code} {H2 : List Hl} (hE : ∀ h, stars H h → stars H2 h) (h : St P co k n e W H2) : St P co k n e W H := ⟨fun a w ho => h.out a w ⟨ho.ev, ho.ext, ho.sat.mono hE⟩⟩
theorem ent_nil_row (T : TypeId) (s : Nat) : ∀ h, stars H h → stars (.row T s (.slice none 0 0) 0 [] :: H) h := fun h hh => ⟨fun _ => none, h, fun _ => .inl rfl, fun _ _ e => (by cases e), .refl _, ⟨by simp, .inl ⟨rfl, rfl, fun _ => rfl⟩⟩, hh⟩
theorem ent_row_of_box {b m cp : Nat} {cs : List Value} {H' : List Hl} (s : Sel H (.box b T cs) H') (hcp : cs.length = cp) (hm : m ≤ cp) (hb : cp ≤ 9223372036854775807) : ∀ h, stars H h → stars (.row T 1 (.slice (some ⟨b, 0, none⟩) m cp) m (cs.take m) :: H') h := by
  subst hcp
  exact fun h hh => sep_mono (s.out h hh) (fun h hb' => ent_box_row hm hb hb') (fun _ a => a)
end
end Go.Dp
