/-
  Numbers as bytes, plain.
  Conditions: none.
-/
import Derived.Test.YtlmmnnhbnbakgaaDoorBx
set_option linter.unusedVariables false
set_option linter.unusedSimpArgs false
namespace Go.Dp
def be4 (x : BitVec 32) : List (BitVec 8) := [(x >>> 24).setWidth 8, (x >>> 16).setWidth 8, (x >>> 8).setWidth 8, x.setWidth 8]
def num32 (l : List (BitVec 8)) : BitVec 32 := l.foldl (fun a x => (a <<< 8) ||| x.setWidth 32) 0
theorem num32_succ (l : List (BitVec 8)) (i : Nat) (h : i < l.length) : num32 (l.take (i + 1)) = (num32 (l.take i) <<< 8) ||| (l[i]).setWidth 32 := by
  simp only [num32]
  rw [List.take_succ_eq_append_getElem h, List.foldl_append]
  rfl
/-- The number that bytes are, the first the highest. -/
def numN (l : List (BitVec 8)) : Nat := l.foldl (fun a x => a * 256 + x.toNat) 0
theorem fold_numN (w : Nat) : ∀ (l : List (BitVec 8)) (k : Nat) (a : BitVec w), a.toNat < 256 ^ k → 8 * (k + l.length) ≤ w →
    (l.foldl (fun (a : BitVec w) (x : BitVec 8) => (a <<< 8) ||| x.setWidth w) a).toNat = l.foldl (fun a x => a * 256 + x.toNat) a.toNat
  | [], _, _, _, _ => rfl
  | x :: l, k, a, h, hw => by
    simp only [List.length_cons] at hw
    have hx := x.isLt
    have hp : (256 : Nat) ^ (k + 1) ≤ 2 ^ w := by
      have : (256 : Nat) ^ (k + 1) = 2 ^ (8 * (k + 1)) := by rw [Nat.pow_mul]
      rw [this]
      exact Nat.pow_le_pow_right (by omega) (by omega)
    have h256 : (256 : Nat) ^ (k + 1) = 256 ^ k * 256 := Nat.pow_succ ..
    have hs : ((a <<< 8) ||| x.setWidth w).toNat = a.toNat * 256 + x.toNat := by
      rw [BitVec.toNat_or, BitVec.toNat_shiftLeft, BitVec.toNat_setWidth]
      have e1 : x.toNat % 2 ^ w = x.toNat := Nat.mod_eq_of_lt (by omega)
      have e2 : a.toNat <<< 8 % 2 ^ w = a.toNat <<< 8 := Nat.mod_eq_of_lt (by rw [Nat.shiftLeft_eq]; omega)
      rw [e1, e2, ← Nat.shiftLeft_add_eq_or_of_lt (by omega : x.toNat < 2 ^ 8), Nat.shiftLeft_eq]
    simp only [List.foldl_cons]
    rw [fold_numN w l (k + 1) _ (by rw [hs]; omega) (by omega), hs]
theorem num32_N (l : List (BitVec 8)) (h : l.length ≤ 4) : (num32 l).toNat = numN l := fold_numN 32 l 0 0 (by simp) (by omega)
theorem be4_len (x : BitVec 32) : (be4 x).length = 4 := rfl
theorem num32_be4 (x : BitVec 32) : num32 (be4 x) = x := by
  apply BitVec.eq_of_toNat_eq
  rw [num32_N _ (by simp [be4])]
  have h1 := x.isLt
  simp only [be4, numN, List.foldl_cons, List.foldl_nil, BitVec.toNat_setWidth, BitVec.toNat_ushiftRight, Nat.shiftRight_eq_div_pow]
  omega
theorem list4 {α : Type} {l : List α} (h : l.length = 4) : ∃ a b c d, l = [a, b, c, d] := by
  match l, h with
  | [a, b, c, d], _ => exact ⟨a, b, c, d, rfl⟩
theorem list2 {α : Type} {l : List α} (h : l.length = 2) : ∃ a b, l = [a, b] := by
  match l, h with
  | [a, b], _ => exact ⟨a, b, rfl⟩
theorem list1 {α : Type} {l : List α} (h : l.length = 1) : ∃ a, l = [a] := by
  match l, h with
  | [a], _ => exact ⟨a, rfl⟩
theorem be4_num32 {l : List (BitVec 8)} (h : l.length = 4) : be4 (num32 l) = l := by
  obtain ⟨a, b, c, d, rfl⟩ := list4 h
  have hn := num32_N [a, b, c, d] (by simp)
  simp only [numN, List.foldl_cons, List.foldl_nil] at hn
  have := a.isLt; have := b.isLt; have := c.isLt; have := d.isLt
  simp only [be4, List.cons.injEq, and_true]
  refine ⟨?_, ?_, ?_, ?_⟩ <;> apply BitVec.eq_of_toNat_eq <;> simp only [BitVec.toNat_setWidth, BitVec.toNat_ushiftRight, Nat.shiftRight_eq_div_pow, hn] <;> omega
theorem be4_inj4 {x y : BitVec 32} (h : be4 x = be4 y) : x = y := by rw [← num32_be4 x, h, num32_be4]
/-- A small number in two bytes. -/
def be2 (n : Int) : List (BitVec 8) := [BitVec.ofInt 8 (n / 256), BitVec.ofInt 8 n]
theorem byte_N (n : Int) (h0 : 0 ≤ n) (h1 : n < 256) : ((BitVec.ofInt 8 n).toNat : Int) = n := bv_of h0 (by simpa using h1)
theorem num32_be2 (n : Int) (h0 : 0 ≤ n) (h1 : n < 65536) : ((num32 (be2 n)).toNat : Int) = n := by
  rw [num32_N _ (by simp [be2])]
  simp only [be2, numN, List.foldl_cons, List.foldl_nil, BitVec.toNat_ofInt]
  omega
theorem be2_num32 {l : List (BitVec 8)} (h : l.length = 2) : be2 ((num32 l).toNat : Int) = l := by
  obtain ⟨a, b, rfl⟩ := list2 h
  have hn := num32_N [a, b] (by simp)
  simp only [numN, List.foldl_cons, List.foldl_nil] at hn
  have := a.isLt; have := b.isLt
  simp only [be2, List.cons.injEq, and_true]
  refine ⟨?_, ?_⟩ <;> apply BitVec.eq_of_toNat_eq <;> simp only [BitVec.toNat_ofInt, hn] <;> omega
theorem num32_one (a : BitVec 8) : (num32 [a]).toNat = a.toNat := by
  rw [num32_N _ (by simp)]; simp [numN]
theorem num32_lt2 {l : List (BitVec 8)} (h : l.length = 2) : (num32 l).toNat < 65536 := by
  obtain ⟨a, b, rfl⟩ := list2 h
  rw [num32_N _ (by simp)]
  have := a.isLt; have := b.isLt
  simp only [numN, List.foldl_cons, List.foldl_nil]; omega
theorem byte_back (a : BitVec 8) : BitVec.ofInt 8 (a.toNat : Int) = a := by
  apply BitVec.eq_of_toNat_eq
  have := a.isLt
  simp only [BitVec.toNat_ofInt]; omega
section
variable {P : Program} {n : Nat} {H : List Hl} {e : Ev} {C : Value → List Hl → Prop} {ty t t' : TypeId} {x y : Operand} {p : Int} {kd' : IntKind}
theorem o1_ishr8 (hx : opd e x = some (.int .i64 p)) (hy : opd e y = some (.int kd' 8)) (h : C (.int .i64 (p / 256)) H) : O1 P (.binOp .shr t x y t') ty n e H C :=
  o1_num hx hy (fun w => by rw [binOp_shr, shift_shr_any _ _ _ _ (by omega), Sem.run_pure]; rfl) h
/-- A call of what changes a box. -/
theorem o1_call_box {f : FuncId} {xs : List Operand} {args : List Value} {ats : Array TypeId} {X : Type} {good : X → Prop} {val : X → Value} {res : X → List Hl} {b : Nat} {T : TypeId} {cs : List Value} {H' : List Hl} [s : SBox H b T cs H']
    (hs : Has (.box b T cs :: H') → Spec P f args (.box b T cs :: H') good val res) (hxs : opds e xs = some args) (h : ∀ r, good r → C (val r) (res r)) : O1 P (.call ⟨.value (.func f), xs.toArray, ats⟩) ty n e H C := O1.ent s.s.out (o1_call hs hxs h)
end
end Go.Dp
