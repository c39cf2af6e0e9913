/-
  The operations on numbers, one lemma each: int by bounds, the unsigned kinds by rows of bits.
  Conditions: none; it holds over whatever program, the types' rows given as instances.
-/
import Derived.Test.YtlmmnnhbnbakgaaDoorBd
set_option linter.unusedVariables false
namespace Go.Dp
open Go.RowKit

/-- an unsigned kind of w bits -/
class UK (k : IntKind) (w : outParam Nat) : Prop where
  bits : k.bits = w
  unsigned : k.signed = false
instance : UK .u8 8 := ⟨rfl, rfl⟩
instance : UK .u16 16 := ⟨rfl, rfl⟩
instance : UK .u32 32 := ⟨rfl, rfl⟩
instance : UK .u64 64 := ⟨rfl, rfl⟩
theorem UK.wrap {k : IntKind} {w : Nat} [h : UK k w] (n : Int) : k.wrap n = ((BitVec.ofInt w n).toNat : Int) := by
  simp [IntKind.wrap, h.unsigned, h.bits, BitVec.toNat_ofInt]
  have h2 : (2 ^ w : Int) ≠ 0 := by exact_mod_cast Nat.ne_of_gt (Nat.two_pow_pos w)
  exact (Int.max_eq_left (Int.emod_nonneg _ h2)).symm
theorem UK.wrap_of {k : IntKind} {w : Nat} [h : UK k w] (x : BitVec w) : k.wrap (x.toNat : Int) = (x.toNat : Int) := by
  rw [UK.wrap]; simp
theorem ofInt_toNat {w : Nat} (x : BitVec w) : BitVec.ofInt w (x.toNat : Int) = x := by simp
theorem run_bits {P : Program} {w : World} {k : IntKind} {m : Nat} [h : UK k m] (x y : BitVec m) :
    (Op.intBits .and k x.toNat y.toNat).run P w = .ok (.int k (x &&& y).toNat) w ∧ (Op.intBits .or k x.toNat y.toNat).run P w = .ok (.int k (x ||| y).toNat) w ∧
    (Op.intBits .xor k x.toNat y.toNat).run P w = .ok (.int k (x ^^^ y).toNat) w ∧ (Op.intBits .andNot k x.toNat y.toNat).run P w = .ok (.int k (x &&& ~~~y).toNat) w := by
  obtain rfl := h.bits
  refine ⟨?_, ?_, ?_, ?_⟩ <;> simp only [Op.intBits, Sem.run_pure, ofInt_toNat] <;> rw [UK.wrap_of (h := h)]

section
variable {P : Program} {ops : Array Oper} {k : Kon} {rest : List Oper} {n : Nat} {e : Ev} {W : World} {H : List Hl}
variable {C : Value → List Hl → Prop} {ty : TypeId} {t t' : TypeId} {x y : Operand} {kd kd' : IntKind} {p q : Int}

theorem o1_num {op : BinOp} {r : Int} (hx : opd e x = some (.int kd p)) (hy : opd e y = some (.int kd' q)) (hr : ∀ w, (binOp op t (.int kd p) (.int kd' q)).run P w = .ok (.int kd r) w) (h : C (.int kd r) H) :
    O1 P (.binOp op t x y t') ty n e H C :=
  o1_val _ (fun a w ho => by simp [execOp, ho.ev.eval hx, ho.ev.eval hy, eqGuard_int, hr]) h
/-! ### int -/
theorem wrap_in (h1 : -9223372036854775808 ≤ p) (h2 : p ≤ 9223372036854775807) : IntKind.i64.wrap p = p := by rw [IntKind.wrap_i64]; omega
theorem o1_add (hx : opd e x = some (.int .i64 p)) (hy : opd e y = some (.int .i64 q)) (hb : -9223372036854775808 ≤ p + q ∧ p + q ≤ 9223372036854775807) (h : C (.int .i64 (p + q)) H) :
    O1 P (.binOp .add t x y t') ty n e H C :=
  o1_num hx hy (fun w => by rw [binOp_add]; simp [Op.intArith, wrap_in hb.1 hb.2]) h
theorem o1_sub (hx : opd e x = some (.int .i64 p)) (hy : opd e y = some (.int .i64 q)) (hb : -9223372036854775808 ≤ p - q ∧ p - q ≤ 9223372036854775807) (h : C (.int .i64 (p - q)) H) :
    O1 P (.binOp .sub t x y t') ty n e H C :=
  o1_num hx hy (fun w => by rw [binOp_sub]; simp [Op.intArith, wrap_in hb.1 hb.2]) h
theorem o1_mul (hx : opd e x = some (.int .i64 p)) (hy : opd e y = some (.int .i64 q)) (hb : -9223372036854775808 ≤ p * q ∧ p * q ≤ 9223372036854775807) (h : C (.int .i64 (p * q)) H) :
    O1 P (.binOp .mul t x y t') ty n e H C :=
  o1_num hx hy (fun w => by rw [binOp_mul]; simp [Op.intArith, wrap_in hb.1 hb.2]) h
theorem o1_quo (hx : opd e x = some (.int .i64 p)) (hy : opd e y = some (.int .i64 q)) (hb : 0 ≤ p ∧ 0 < q ∧ p ≤ 9223372036854775807) (h : C (.int .i64 (p / q)) H) :
    O1 P (.binOp .quo t x y t') ty n e H C :=
  o1_num hx hy (fun w => by
    have h0 : 0 ≤ p / q := Int.ediv_nonneg hb.1 (by omega)
    have h1 : p / q ≤ p := Int.ediv_le_self _ hb.1
    rw [binOp_quo]
    simp [Op.intDiv, show q ≠ 0 from by omega, Int.tdiv_eq_ediv_of_nonneg hb.1, wrap_in (p := p / q) (by omega) (by omega)]) h
theorem o1_rem (hx : opd e x = some (.int .i64 p)) (hy : opd e y = some (.int .i64 q)) (hb : 0 ≤ p ∧ 0 < q) (h : C (.int .i64 (p % q)) H) :
    O1 P (.binOp .rem t x y t') ty n e H C :=
  o1_num hx hy (fun w => by
    rw [binOp_rem]
    simp [Op.intDiv, show q ≠ 0 from by omega, Int.tmod_eq_emod_of_nonneg hb.1]) h
/-! ### unsigned kinds -/
variable {m : Nat} {u v : BitVec m}
theorem o1_uand [h0 : UK kd m] (hx : opd e x = some (.int kd u.toNat)) (hy : opd e y = some (.int kd v.toNat)) (h : C (.int kd (u &&& v).toNat) H) : O1 P (.binOp .and t x y t') ty n e H C :=
  o1_num hx hy (fun w => by rw [binOp_and]; exact (run_bits u v).1) h
theorem o1_uor [h0 : UK kd m] (hx : opd e x = some (.int kd u.toNat)) (hy : opd e y = some (.int kd v.toNat)) (h : C (.int kd (u ||| v).toNat) H) : O1 P (.binOp .or t x y t') ty n e H C :=
  o1_num hx hy (fun w => by rw [binOp_or]; exact (run_bits u v).2.1) h
theorem o1_uxor [h0 : UK kd m] (hx : opd e x = some (.int kd u.toNat)) (hy : opd e y = some (.int kd v.toNat)) (h : C (.int kd (u ^^^ v).toNat) H) : O1 P (.binOp .xor t x y t') ty n e H C :=
  o1_num hx hy (fun w => by rw [binOp_xor]; exact (run_bits u v).2.2.1) h
theorem o1_uandNot [h0 : UK kd m] (hx : opd e x = some (.int kd u.toNat)) (hy : opd e y = some (.int kd v.toNat)) (h : C (.int kd (u &&& ~~~v).toNat) H) : O1 P (.binOp .andNot t x y t') ty n e H C :=
  o1_num hx hy (fun w => by rw [binOp_andNot]; exact (run_bits u v).2.2.2) h
theorem uk_add (kd : IntKind) [h0 : UK kd m] (u v : BitVec m) : kd.wrap ((u.toNat : Int) + v.toNat) = ((u + v).toNat : Int) := by
  rw [UK.wrap, BitVec.ofInt_add, ofInt_toNat, ofInt_toNat]
theorem uk_sub (kd : IntKind) [h0 : UK kd m] (u v : BitVec m) : kd.wrap ((u.toNat : Int) - v.toNat) = ((u - v).toNat : Int) := by
  rw [UK.wrap]; rw [Int.sub_eq_add_neg, BitVec.ofInt_add, BitVec.ofInt_neg, BitVec.sub_eq_add_neg, ofInt_toNat, ofInt_toNat]
theorem uk_mul (kd : IntKind) [h0 : UK kd m] (u v : BitVec m) : kd.wrap ((u.toNat : Int) * v.toNat) = ((u * v).toNat : Int) := by
  rw [UK.wrap, BitVec.ofInt_mul, ofInt_toNat, ofInt_toNat]
theorem o1_uadd [h0 : UK kd m] (hx : opd e x = some (.int kd u.toNat)) (hy : opd e y = some (.int kd v.toNat)) (h : C (.int kd (u + v).toNat) H) : O1 P (.binOp .add t x y t') ty n e H C :=
  o1_num hx hy (fun w => by rw [binOp_add]; simp [Op.intArith, uk_add]) h
theorem o1_usub [h0 : UK kd m] (hx : opd e x = some (.int kd u.toNat)) (hy : opd e y = some (.int kd v.toNat)) (h : C (.int kd (u - v).toNat) H) : O1 P (.binOp .sub t x y t') ty n e H C :=
  o1_num hx hy (fun w => by rw [binOp_sub]; simp [Op.intArith, uk_sub]) h
theorem o1_umul [h0 : UK kd m] (hx : opd e x = some (.int kd u.toNat)) (hy : opd e y = some (.int kd v.toNat)) (h : C (.int kd (u * v).toNat) H) : O1 P (.binOp .mul t x y t') ty n e H C :=
  o1_num hx hy (fun w => by rw [binOp_mul]; simp [Op.intArith, uk_mul]) h
theorem o1_urem [h0 : UK kd m] (hx : opd e x = some (.int kd u.toNat)) (hy : opd e y = some (.int kd v.toNat)) (hv : 0 < v.toNat) (h : C (.int kd (u % v).toNat) H) : O1 P (.binOp .rem t x y t') ty n e H C :=
  o1_num hx hy (fun w => by
    rw [binOp_rem]
    simp only [Op.intDiv, show ((v.toNat : Int) = 0) = False from by simp; omega, if_false, Sem.run_pure]
    rw [Int.tmod_eq_emod_of_nonneg (by omega), BitVec.toNat_umod, Int.natCast_emod]) h
theorem uk_shl (kd : IntKind) [h0 : UK kd m] (u : BitVec m) (s : Nat) : kd.wrap ((u.toNat : Int) * 2 ^ min s kd.bits) = ((u <<< s).toNat : Int) := by
  have hb := h0.bits
  rw [UK.wrap, BitVec.toNat_ofInt, BitVec.toNat_shiftLeft, hb]
  rcases Nat.le_total s m with hs | hs
  · rw [Nat.min_eq_left hs, Nat.shiftLeft_eq]
    have : ((u.toNat : Int) * 2 ^ s) % ((2 ^ m : Nat) : Int) = ((u.toNat * 2 ^ s % 2 ^ m : Nat) : Int) := by push_cast; rfl
    rw [this]; simp; omega
  · rw [Nat.min_eq_right hs, Nat.shiftLeft_eq]
    have h1 : u.toNat * 2 ^ s % 2 ^ m = 0 := by
      rw [show s = m + (s - m) from by omega, Nat.pow_add, ← Nat.mul_assoc, Nat.mul_right_comm]; simp
    have h2 : ((u.toNat : Int) * 2 ^ m) % ((2 ^ m : Nat) : Int) = 0 := by push_cast; simp
    rw [h1, h2]; simp
theorem uk_shr (kd : IntKind) [h0 : UK kd m] (u : BitVec m) (s : Nat) : (u.toNat : Int) / 2 ^ min s kd.bits = ((u >>> s).toNat : Int) := by
  have hb := h0.bits
  rw [BitVec.toNat_ushiftRight, Nat.shiftRight_eq_div_pow, hb]
  rcases Nat.le_total s m with hs | hs
  · rw [Nat.min_eq_left hs]; push_cast; rfl
  · rw [Nat.min_eq_right hs]
    have h1 : u.toNat / 2 ^ s = 0 := Nat.div_eq_of_lt (Nat.lt_of_lt_of_le u.isLt (Nat.pow_le_pow_right (by omega) hs))
    have h2 : (u.toNat : Int) / 2 ^ m = 0 := by
      have := Nat.div_eq_of_lt u.isLt
      have h3 : ((u.toNat / 2 ^ m : Nat) : Int) = 0 := by rw [this]; rfl
      push_cast at h3; exact h3
    rw [h1, h2]; rfl
theorem o1_ushl [h0 : UK kd m] (hx : opd e x = some (.int kd u.toNat)) (hy : opd e y = some (.int kd' q)) (hq : 0 ≤ q) (h : C (.int kd (u <<< q.toNat).toNat) H) : O1 P (.binOp .shl t x y t') ty n e H C :=
  o1_num hx hy (fun w => by rw [binOp_shl, shift_shl_any _ _ _ _ hq, Sem.run_pure, uk_shl]) h
theorem o1_ushr [h0 : UK kd m] (hx : opd e x = some (.int kd u.toNat)) (hy : opd e y = some (.int kd' q)) (hq : 0 ≤ q) (h : C (.int kd (u >>> q.toNat).toNat) H) : O1 P (.binOp .shr t x y t') ty n e H C :=
  o1_num hx hy (fun w => by rw [binOp_shr, shift_shr_any _ _ _ _ hq, Sem.run_pure, uk_shr]) h
theorem o1_unot [h0 : UK kd m] (hx : opd e x = some (.int kd u.toNat)) (h : C (.int kd (~~~u).toNat) H) : O1 P (.unOp .xor t x) ty n e H C :=
  o1_val _ (fun a w ho => by
    have hm : kd.max = ((BitVec.allOnes m).toNat : Int) := by
      have := Nat.two_pow_pos m
      simp only [IntKind.max, h0.unsigned, h0.bits, BitVec.toNat_allOnes, Bool.false_eq_true, if_false]
      have h2 : ((2 ^ m - 1 : Nat) : Int) = ((2 ^ m : Nat) : Int) - 1 := by omega
      rw [h2]; push_cast; rfl
    have := (run_bits (P := P) (w := w) (k := kd) (BitVec.allOnes m) u).2.2.1
    simp only [execOp, ho.ev.eval hx, unary_xor, h0.unsigned, hm, Bool.false_eq_true, if_false, Sem.run_bind, this, Result.andThen_ok, Sem.run_pure, BitVec.allOnes_xor]) h
theorem o1_bnot {b : Bool} (hx : opd e x = some (.bool b)) (h : C (.bool (!b)) H) : O1 P (.unOp .not t x) ty n e H C :=
  o1_val _ (fun a w ho => by simp [execOp, ho.ev.eval hx, unary_not]) h
/-- A number as a row of bits. -/
theorem lit_bits {w : Nat} (c : Int) (h : ((BitVec.ofInt w c).toNat : Int) = c) (e : Ev) (x : Operand) (hx : opd e x = some (.int kd c)) : opd e x = some (.int kd ((BitVec.ofInt w c).toNat : Int)) := by rw [hx, h]
/-! ### from kind to kind -/
theorem o1_conv {r : Int} [h1 : TInt P t kd] [h2 : TInt P t' kd'] (hx : opd e x = some (.int kd p)) (hr : kd'.wrap p = r) (h : C (.int kd' r) H) : O1 P (.convert t t' x) ty n e H C :=
  o1_val _ (fun a w ho => by
    subst hr
    simp [execOp, ho.ev.eval hx, convert, run_underlying h1.u, run_underlying h2.u, Conv.intToInt]) h
end
end Go.Dp
