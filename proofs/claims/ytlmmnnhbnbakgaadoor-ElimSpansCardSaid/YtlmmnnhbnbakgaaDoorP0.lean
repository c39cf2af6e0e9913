/-
  Sums of pieces, plain.
  Conditions: none.
-/
import Derived.Test.YtlmmnnhbnbakgaaDoorV2
set_option linter.unusedVariables false
set_option linter.unusedSimpArgs false
namespace Go.Dp
def xsum (g : Nat → BitVec 8) : Nat → BitVec 8
  | 0 => 0#8
  | n + 1 => xsum g n ^^^ g n
def pickB (on : Bool) (x : BitVec 8) : BitVec 8 := if on then x else 0#8
theorem xsum_congr {g h : Nat → BitVec 8} {n : Nat} (e : ∀ i, i < n → g i = h i) : xsum g n = xsum h n := by
  induction n with
  | zero => rfl
  | succ n ih => rw [xsum, xsum, ih (fun i hi => e i (by omega)), e n (by omega)]
theorem xsum_xor (g h : Nat → BitVec 8) (n : Nat) : xsum (fun i => g i ^^^ h i) n = xsum g n ^^^ xsum h n := by
  induction n with
  | zero => simp [xsum]
  | succ n ih =>
    rw [xsum, xsum, xsum, ih]
    rw [BitVec.xor_assoc, BitVec.xor_assoc]
    congr 1
    rw [← BitVec.xor_assoc, ← BitVec.xor_assoc, BitVec.xor_comm (xsum h n)]
theorem xsum_zero {g : Nat → BitVec 8} {n : Nat} (e : ∀ i, i < n → g i = 0#8) : xsum g n = 0#8 := by
  induction n with
  | zero => rfl
  | succ n ih => rw [xsum, ih (fun i hi => e i (by omega)), e n (by omega)]; rfl
theorem pick_xor (b : Bool) (x y : BitVec 8) : pickB b (x ^^^ y) = pickB b x ^^^ pickB b y := by cases b <;> simp [pickB]
theorem xsum_add (g : Nat → BitVec 8) (a b : Nat) : xsum g (a + b) = xsum g a ^^^ xsum (fun i => g (a + i)) b := by
  induction b with
  | zero => simp [xsum]
  | succ b ih => rw [← Nat.add_assoc, xsum, xsum, ih, BitVec.xor_assoc]
theorem xsum_one {g : Nat → BitVec 8} {n j : Nat} (hj : j < n) (e : ∀ i, i < n → i ≠ j → g i = 0#8) : xsum g n = g j := by
  induction n with
  | zero => omega
  | succ n ih =>
    rw [xsum]
    by_cases h : j = n
    · subst h
      rw [xsum_zero (fun i hi => e i (by omega) (by omega))]; simp
    · rw [ih (by omega) (fun i hi hne => e i (by omega) hne), e n (by omega) (fun q => h q.symm)]; simp
/-- Along the places. -/
theorem fold_places (f : Nat → Bool) (g : Nat → BitVec 8) (m : Nat) : (placesN f m).foldl (fun a i => a ^^^ g i) 0#8 = xsum (fun i => pickB (f i) (g i)) m := by
  induction m with
  | zero => rfl
  | succ m ih =>
    rw [places_succ, List.foldl_append, ih, xsum]
    cases h : f m <;> simp [pickB]
/-- A byte of pieces. -/
def at8 (l : List (List (BitVec 8))) (i k : Nat) : BitVec 8 := (l.getD i []).getD k 0#8
/-- The parity of pieces by a row. -/
def parS (f : Nat → Bool) (l : List (List (BitVec 8))) (z : Nat) : List (BitVec 8) := (List.range z).map (fun k => xsum (fun i => pickB (f i) (at8 l i k)) l.length)
theorem parS_len (f : Nat → Bool) (l : List (List (BitVec 8))) (z : Nat) : (parS f l z).length = z := by simp [parS]
theorem parS_at (f : Nat → Bool) (l : List (List (BitVec 8))) (z k : Nat) (h : k < z) : (parS f l z).getD k 0#8 = xsum (fun i => pickB (f i) (at8 l i k)) l.length := by
  simp [parS, List.getD_eq_getElem?_getD, h]
theorem bytes_ext {a b : List (BitVec 8)} (h : a.length = b.length) (e : ∀ k, k < a.length → a.getD k 0#8 = b.getD k 0#8) : a = b := by
  refine List.ext_getElem h (fun j h1 h2 => ?_)
  have := e j h1
  simpa [List.getD_eq_getElem?_getD, h1, h2] using this
theorem parS_zero (f : Nat → Bool) (l : List (List (BitVec 8))) (z : Nat) (h : ∀ i k, i < l.length → k < z → at8 l i k = 0#8) : parS f l z = List.replicate z 0#8 := by
  refine bytes_ext (by simp [parS_len]) (fun k hk => ?_)
  rw [parS_len] at hk
  rw [parS_at _ _ _ _ hk, xsum_zero (fun i hi => by rw [h i k hi hk]; simp [pickB])]
  simp [List.getD_eq_getElem?_getD, hk]
theorem parS_sum (f : Nat → Bool) {l m n : List (List (BitVec 8))} {z : Nat} (h1 : m.length = l.length) (h2 : n.length = l.length) (h : ∀ i k, i < l.length → k < z → at8 n i k = at8 l i k ^^^ at8 m i k) (k : Nat) (hk : k < z) :
    (parS f l z).getD k 0#8 ^^^ (parS f m z).getD k 0#8 = (parS f n z).getD k 0#8 := by
  rw [parS_at _ _ _ _ hk, parS_at _ _ _ _ hk, parS_at _ _ _ _ hk, h1, h2, ← xsum_xor]
  refine xsum_congr (fun i hi => ?_)
  rw [h i k hi hk, pick_xor]
/-- THE SUM OF ALL PIECES OF A ROW IS NOTHING. -/
theorem row_nothing (K P j : Nat) (hj : j < P) (b : Nat → Bool) (g : Nat → BitVec 8) (hp : g (K + j) = xsum (fun i => pickB (b i) (g i)) K) :
    xsum (fun i => pickB ((decide (i < K) && b i) || decide (i = K + j)) (g i)) (K + P) = 0#8 := by
  rw [xsum_add, xsum_one (j := j) hj (fun i hi hne => ?_), xsum_congr (h := fun i => pickB (b i) (g i)) (fun i hi => ?_), ← hp]
  · simp [pickB]
  · have : ¬ i = K + j := by omega
    simp [hi, this]
  · have h1 : ¬ (K + i < K) := by omega
    have h2 : ¬ (K + i = K + j) := by omega
    simp [h1, pickB, hne]
end Go.Dp
