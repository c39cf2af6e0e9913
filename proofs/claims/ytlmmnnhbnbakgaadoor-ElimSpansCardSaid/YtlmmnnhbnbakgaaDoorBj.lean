/-
  Numbers from kind to kind, literals of slices, rows that begin as nil, texts against a constant.
  Conditions: none; it holds over whatever program, the types' rows given as instances.
-/
import Derived.Test.YtlmmnnhbnbakgaaDoorBi
set_option linter.unusedVariables false
namespace Go.Dp
open Go.RowKit

abbrev W4 (x : BitVec 32) : Value := .int .u32 (x.toNat : Int)
abbrev W8 (x : BitVec 64) : Value := .int .u64 (x.toNat : Int)
abbrev I (n : Int) : Value := .int .i64 n
abbrev V (v : Value) : Value := v
theorem bv_small {m : Nat} (hm : m ≤ 63) (u : BitVec m) : (u.toNat : Int) ≤ 9223372036854775807 := by
  have h1 := u.isLt
  have h2 : 2 ^ m ≤ 2 ^ 63 := Nat.pow_le_pow_right (by omega) hm
  omega
/-- The bytes of a literal. -/
class BsOf (us : List (Nat × Value)) (ys : outParam (List (BitVec 8))) : Prop where eq : us.map (·.2) = ys.map B
instance bsof_nil : BsOf [] [] := ⟨rfl⟩
instance bsof_cons {i : Nat} {x : BitVec 8} {us : List (Nat × Value)} {ys : List (BitVec 8)} [h : BsOf us ys] : BsOf ((i, .int .u8 (x.toNat : Int)) :: us) (x :: ys) := ⟨by simp [h.eq]⟩
class LitB (c : Int) : Prop where ok : ((BitVec.ofInt 8 c).toNat : Int) = c
instance (priority := low) bsof_lit {i : Nat} {c : Int} {us : List (Nat × Value)} {ys : List (BitVec 8)} [hc : LitB c] [h : BsOf us ys] : BsOf ((i, .int .u8 c) :: us) (BitVec.ofInt 8 c :: ys) := ⟨by simp only [List.map_cons, h.eq]; rw [B, hc.ok]⟩
instance : LitB 0 := ⟨by decide⟩
instance : LitB 1 := ⟨by decide⟩
instance : LitB 2 := ⟨by decide⟩
instance : LitB 3 := ⟨by decide⟩
instance : LitB 5 := ⟨by decide⟩
instance : LitB 7 := ⟨by decide⟩
instance : LitB 9 := ⟨by decide⟩

theorem getD_set (cs : List Value) (i : Nat) (v : Value) : cs.toArray.setIfInBounds i v = (cs.set i v).toArray := by simp
theorem fill_lit {P : Program} : ∀ (us : List (Nat × Value)) (j m : Nat) (pre : List Value) (z : Value), us.map (·.1) = List.range' j us.length → (∀ u ∈ us, u.2.oneCell' = true) → pre.length = j → m = j + us.length →
    Instr.fill (fun i => some (i * 1, 1)) (pre ++ List.replicate us.length z).toArray us = some (pre ++ us.map (·.2)).toArray
  | [], j, m, pre, z, _, _, _, _ => by simp [Instr.fill]
  | (i, v) :: us, j, m, pre, z, hi, h1, hp, hm => by
    simp only [List.map_cons, List.length_cons, List.range'_succ, List.cons.injEq] at hi
    obtain ⟨rfl, hi⟩ := hi
    have hv := h1 (i, v) (by simp)
    have hc := oneCell_cells hv
    simp only [Instr.fill, hc]
    have hsz : ¬ (i * 1 + #[v].size > (pre ++ List.replicate (us.length + 1) z).toArray.size) := by simp; omega
    have hset : Array.foldl (fun cs x => cs.setIfInBounds (i * 1 + x.snd) x.fst) (pre ++ List.replicate (us.length + 1) z).toArray #[v].zipIdx = ((pre ++ [v]) ++ List.replicate us.length z).toArray := by
      simp [List.replicate_succ, hp]
    have ih := fill_lit (P := P) us (i + 1) m (pre ++ [v]) z hi (fun u hu => h1 u (by simp [hu])) (by simp; omega) (by simp at hm; omega)
    simp only [List.map_cons, List.length_cons]
    rw [hset]
    rw [if_neg (by simp only [Bool.or_eq_true, decide_eq_true_eq, not_or]; exact ⟨by simp, hsz⟩), ih]
    simp
/-- Offset and cells of each part of a struct or an array. -/
class TPl (P : Program) (T : TypeId) (pl : outParam (List (Nat × Nat))) : Prop where
  c : (match P.underlying T with | some (.struct fs) => some (fs.toList.map fun f => (f.offset, P.cellsOf f.type)) | some (.array m e) => some ((List.range m).map fun i => (i * P.cellsOf e, P.cellsOf e)) | _ => none) = some pl
def putL : List Value → Nat → List Value → List Value
  | cs, _, [] => cs
  | cs, off, v :: vs => putL (cs.set off v) (off + 1) vs
def buildL (pl : List (Nat × Nat)) : List Value → List (Nat × Value) → List Value
  | cs, [] => cs
  | cs, (i, v) :: us => buildL pl (putL cs ((pl[i]?).getD (0, 0)).1 v.cells.toList) us
section
variable {P : Program} {ops : Array Oper} {k : Kon} {rest : List Oper} {n : Nat} {e : Ev} {W : World} {H : List Hl}
variable {C : Value → List Hl → Prop} {ty : TypeId} {t t' : TypeId} {x y : Operand} {kd kd' : IntKind} {p q : Int} {m m' : Nat} {u v : BitVec m}
theorem o1_conv_uu [h1 : TInt P t kd] [h2 : TInt P t' kd'] [UK kd m] [UK kd' m'] (hx : opd e x = some (.int kd u.toNat)) (h : C (.int kd' (u.setWidth m').toNat) H) : O1 P (.convert t t' x) ty n e H C :=
  o1_conv (r := ((u.setWidth m').toNat : Int)) hx (by rw [UK.wrap]; congr 2; apply BitVec.eq_of_toNat_eq; simp) h
theorem o1_conv_ui [h1 : TInt P t kd] [h2 : TInt P t' .i64] [UK kd m] (hx : opd e x = some (.int kd u.toNat)) (hb : (u.toNat : Int) ≤ 9223372036854775807) (h : C (.int .i64 u.toNat) H) : O1 P (.convert t t' x) ty n e H C :=
  o1_conv hx (wrap_in (by omega) hb) h
theorem o1_conv_iu [h1 : TInt P t .i64] [h2 : TInt P t' kd'] [UK kd' m'] (hx : opd e x = some (.int .i64 p)) (h : C (.int kd' (BitVec.ofInt m' p).toNat) H) : O1 P (.convert t t' x) ty n e H C :=
  o1_conv hx (by rw [UK.wrap]) h
theorem o1_conv_ii [h1 : TInt P t .i64] [h2 : TInt P t' .i64] (hx : opd e x = some (.int .i64 p)) (hb : -9223372036854775808 ≤ p ∧ p ≤ 9223372036854775807) (h : C (.int .i64 p) H) : O1 P (.convert t t' x) ty n e H C :=
  o1_conv hx (wrap_in hb.1 hb.2) h
theorem o1_strlit {a : List (BitVec 8)} {s : ByteArray} {r : Bool} (hx : opd e x = some (.string (str a))) (hy : opd e y = some (.string s)) (hk : ((str a).toList == s.toList) = r) (h : C (.bool r) H) : O1 P (.binOp .eql t x y t') ty n e H C :=
  o1_str hx hy (by rw [binOp_string_eql, hk]) h
theorem o1_lit {T E : TypeId} {z : Value} {by_ : Nat} {ps : List (Nat × Operand)} {us : List (Nat × Value)} [ht : TSl P T E] [hi : TInf P E z 1 by_] (hps : opdi e ps = some us) (hidx : us.map (·.1) = List.range' 0 us.length) (h1 : ∀ u ∈ us, u.2.oneCell' = true) (hz : z.oneCell' = true) (hm : m = us.length) (hb : Nat.ble us.length 16777216 = true)
    (h : ∀ b, C (.slice (some ⟨b, 0, none⟩) m m) (.box b E (us.map (·.2)) :: H)) : O1 P (.buildSlice T m ps.toArray) ty n e H C := by
  subst hm
  have hb' : us.length ≤ 16777216 := by simpa using hb
  refine o1_buildSlice hps (fun w => ?_) h
  have hc := oneCell_cells hz
  have hf := fill_lit (P := P) us 0 us.length [] z hidx h1 rfl (by omega)
  simp only [List.nil_append, Nat.mul_one] at hf
  have hbig : ¬ us.length * 1 > 2 ^ 24 := by omega
  by_cases h0 : us.length = 0
  · have hu0 : us = [] := List.eq_nil_of_length_eq_zero h0
    subst hu0
    simp [Instr.buildSlice, run_underlying ht.u, run_sizeOf, Instr.fill, newRow, Array.range_zero']
  · have harr : Array.map (fun x => [z][x % 1]?.getD default) (Array.range us.length) = (List.replicate us.length z).toArray := by
      apply Array.ext'
      have := toList_madeCells_one z us.length
      unfold madeCells at this
      rw [← this]
      congr 1
      apply Array.map_congr_left
      intro x _
      simp [Nat.mod_one]
    have hb2 : ¬ 16777216 < us.length := by omega
    simp only [Instr.buildSlice, Sem.run_bind, run_underlying ht.u, Result.andThen_ok, run_sizeOf, Nat.mul_one]
    rw [show (List.replicate us.length z).toArray = Array.replicate us.length z from by simp] at hf
    simp [h0, run_zeroValue, hc, harr, hb2, newRow]
    rw [hf]
    simp
theorem o1_lit_B {T E : TypeId} {z : Value} {by_ : Nat} {ps : List (Nat × Operand)} {us : List (Nat × Value)} {ys : List (BitVec 8)} [ht : TSl P T E] [hi : TInf P E z 1 by_] (hps : opdi e ps = some us) (hidx : us.map (·.1) = List.range' 0 us.length) [hy : BsOf us ys] (hz : z.oneCell' = true) (hm : m = us.length) (hb : Nat.ble us.length 16777216 = true)
    (h : ∀ b, C (.slice (some ⟨b, 0, none⟩) m m) (.box b E (ys.map B) :: H)) : O1 P (.buildSlice T m ps.toArray) ty n e H C :=
  o1_lit hps hidx (fun u hu => by
    have : u.2 ∈ us.map (·.2) := List.mem_map.2 ⟨u, hu, rfl⟩
    rw [hy.eq] at this
    obtain ⟨y, _, hy⟩ := List.mem_map.1 this
    rw [← hy]; rfl) hz hm hb (fun b => by rw [hy.eq]; exact h b)
theorem o1_buildx {T : TypeId} {z : Value} {s by_ : Nat} {pl : List (Nat × Nat)} {ps : List (Nat × Operand)} {us : List (Nat × Value)} {vs : List Value} [TPl P T pl] [TInf P T z s by_] (hps : opdi e ps = some us) (hvs : buildL pl z.cells.toList us = vs) (hr : ∀ w, (Instr.build T us.toArray).run P w = .ok (.agg vs.toArray) w)
    (h : C (.agg vs.toArray) H) : O1 P (.build T ps.toArray) ty n e H C := o1_build hps hr h
theorem ent_nil {α : Type} (T : TypeId) (enc : α → Value) : ∀ h, stars H h → stars (.row T 1 (.slice none 0 0) 0 (([] : List α).map enc) :: H) h := ent_nil_row T 1
theorem o1_make {T E : TypeId} {z : Value} {by_ lo cp : Nat} [TSl P T E] [TInf P E z 1 by_] (hz : z.oneCell' = true) (hx : opd e x = some (.int kd p)) (hy : opd e y = some (.int kd' q)) (hp : p = (lo : Int)) (hq : q = (cp : Int)) (h1 : lo ≤ cp) (h2 : by_ * cp ≤ 281474976710656) (h3 : cp ≤ 9223372036854775807)
    (h : ∀ b, C (.slice (some ⟨b, 0, none⟩) lo cp) (.box b E (List.replicate cp z) :: H)) : O1 P (.makeSlice T x y) ty n e H C := by
  subst hp hq
  exact Go.Dp.o1_mk hz hx hy h1 h2 h3 h
end
end Go.Dp
