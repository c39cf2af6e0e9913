/-
  Numbers by chance, plain.
  Conditions: none.
-/
import Derived.Test.YtibopcmgjmhcjaaDoorP0
set_option linter.unusedVariables false
set_option linter.unusedSimpArgs false
namespace Go.Dp
def mixA (x : BitVec 32) : BitVec 32 := (x ^^^ (x >>> 16)) * 0x7feb352d#32
def mixB (x : BitVec 32) : BitVec 32 := (x ^^^ (x >>> 15)) * 0x846ca68b#32
/-- A number, mixed. -/
def mixR (x : BitVec 32) : BitVec 32 := mixB (mixA x) ^^^ (mixB (mixA x) >>> 16)
/-- The state of a source of two numbers. -/
def srcNew (a b : BitVec 32) : BitVec 32 := mixR a + b * 0x9e3779b9#32 + 1#32
def nzR (s : BitVec 32) : BitVec 32 := if s = 0#32 then 1#32 else s
def stepA (x : BitVec 32) : BitVec 32 := x ^^^ (x <<< 13)
def stepB (x : BitVec 32) : BitVec 32 := x ^^^ (x >>> 17)
def stepC (x : BitVec 32) : BitVec 32 := x ^^^ (x <<< 5)
/-- The state behind the next number, which is that state mixed. -/
def srcNx (s : BitVec 32) : BitVec 32 := stepC (stepB (stepA (nzR s)))
def srcAt (s : BitVec 32) : Nat → BitVec 32
  | 0 => s
  | n + 1 => srcNx (srcAt s n)
/-- The n-th number. -/
def numR (s : BitVec 32) (n : Nat) : BitVec 32 := mixR (srcAt s (n + 1))
/-- Is the n-th number odd? -/
def oddR (s : BitVec 32) (n : Nat) : Bool := decide ((numR s n &&& 1#32) = 1#32)
/-- A row of parity, of n bits, its first K by a source, and its own place. -/
def parR (sess : BitVec 32) (K j : Nat) (i : Nat) : Bool := (decide (i < K) && oddR (srcNew sess (BitVec.ofNat 32 (2147483648 + j))) i) || decide (i = K + j)
def rowR (sess : BitVec 32) (n K j : Nat) : List Bool := (List.range n).map (parR sess K j)
theorem rowR_len (sess : BitVec 32) (n K j : Nat) : (rowR sess n K j).length = n := by simp [rowR]
theorem rowR_at (sess : BitVec 32) (n K j i : Nat) (h : i < n) : (rowR sess n K j).getD i false = parR sess K j i := by simp [rowR, List.getD_eq_getElem?_getD, h]
/-- The row while it is made: the first i of its K bits told. -/
def rowTill (sess : BitVec 32) (n K j i : Nat) : List Bool := (List.range n).map (fun m => (decide (m < i) && (decide (m < K) && oddR (srcNew sess (BitVec.ofNat 32 (2147483648 + j))) m)) || decide (m = K + j))
theorem rowTill_len (sess : BitVec 32) (n K j i : Nat) : (rowTill sess n K j i).length = n := by simp [rowTill]
theorem rowTill_at (sess : BitVec 32) (n K j i m : Nat) (h : m < n) : (rowTill sess n K j i).getD m false = ((decide (m < i) && (decide (m < K) && oddR (srcNew sess (BitVec.ofNat 32 (2147483648 + j))) m)) || decide (m = K + j)) := by simp [rowTill, List.getD_eq_getElem?_getD, h]
theorem rowTill_all (sess : BitVec 32) (n K j : Nat) : rowTill sess n K j K = rowR sess n K j := by
  refine bits_ext (by simp [rowTill, rowR]) (fun m hm => ?_)
  rw [rowTill_len] at hm
  rw [rowTill_at _ _ _ _ _ _ hm, rowR_at _ _ _ _ _ hm, parR]
  by_cases h : m < K <;> simp [h]
theorem rowTill_zero (sess : BitVec 32) (n K j : Nat) (h : K + j < n) : rowTill sess n K j 0 = bitsOf n [((K + j : Nat) : Int)] := by
  refine bits_ext (by rw [rowTill_len, bitsOf_len]) (fun m hm => ?_)
  rw [rowTill_len] at hm
  rw [rowTill_at _ _ _ _ _ _ hm, bitsOf_at _ _ _ hm]
  simp only [Nat.not_lt_zero, decide_false, Bool.false_and, Bool.false_or, List.mem_singleton]
  by_cases q : m = K + j
  · subst q; simp
  · have : ¬ ((m : Int) = ((K + j : Nat) : Int)) := by omega
    rw [decide_eq_false q, decide_eq_false this]
theorem rowTill_succ (sess : BitVec 32) (n K j i : Nat) (hi : i < K) (hn : K ≤ n) : rowTill sess n K j (i + 1) = (rowTill sess n K j i).set i (oddR (srcNew sess (BitVec.ofNat 32 (2147483648 + j))) i) := by
  refine bits_ext (by simp [rowTill]) (fun m hm => ?_)
  rw [rowTill_len] at hm
  rw [atD_set, rowTill_len, rowTill_at _ _ _ _ _ _ hm, rowTill_at _ _ _ _ _ _ hm]
  by_cases q : i = m
  · subst q
    have h2 : ¬ i = K + j := by omega
    simp [hi, hm, h2]
  · rw [if_neg (fun h => q h.1)]
    by_cases h3 : m < i
    · simp [h3, show m < i + 1 by omega]
    · simp [h3, show ¬ m < i + 1 by omega]
end Go.Dp
