/-
  Rows of bits, their words and their bytes, plain.
  Conditions: none.
-/
import Derived.Test.YtlmmnnhbnbakgaaDoorBy
set_option linter.unusedVariables false
set_option linter.unusedSimpArgs false
namespace Go.Dp
/-- The k-th word of bits. -/
def wordOf (l : List Bool) (k : Nat) : BitVec 64 := (BitVec.iunfoldr (fun (i : Fin 64) (_ : Unit) => ((), l.getD (64 * k + i.val) false)) ()).2
theorem wordOf_bit (l : List Bool) (k j : Nat) (hj : j < 64) : (wordOf l k).getLsbD j = l.getD (64 * k + j) false :=
  BitVec.iunfoldr_getLsbD (f := fun (i : Fin 64) (_ : Unit) => ((), l.getD (64 * k + i.val) false)) (fun _ => ()) ⟨j, hj⟩ (fun _ => rfl)
def byteOf (l : List Bool) (k : Nat) : BitVec 8 := (BitVec.iunfoldr (fun (i : Fin 8) (_ : Unit) => ((), l.getD (8 * k + i.val) false)) ()).2
theorem byteOf_bit (l : List Bool) (k j : Nat) (hj : j < 8) : (byteOf l k).getLsbD j = l.getD (8 * k + j) false :=
  BitVec.iunfoldr_getLsbD (f := fun (i : Fin 8) (_ : Unit) => ((), l.getD (8 * k + i.val) false)) (fun _ => ()) ⟨j, hj⟩ (fun _ => rfl)
def nw (n : Nat) : Nat := (n + 63) / 64
def nb (n : Nat) : Nat := (n + 7) / 8
def words (l : List Bool) : List (BitVec 64) := (List.range (nw l.length)).map (wordOf l)
def bytesV (l : List Bool) : List (BitVec 8) := (List.range (nb l.length)).map (byteOf l)
theorem words_len (l : List Bool) : (words l).length = nw l.length := by simp [words]
theorem bytesV_len (l : List Bool) : (bytesV l).length = nb l.length := by simp [bytesV]
theorem words_at (l : List Bool) (k : Nat) (h : k < (words l).length) : (words l)[k] = wordOf l k := by simp [words]
theorem words_at? (l : List Bool) (k : Nat) (h : k < nw l.length) : (words l)[k]? = some (wordOf l k) := by simp [words, h]
theorem bytesV_at (l : List Bool) (k : Nat) (h : k < (bytesV l).length) : (bytesV l)[k] = byteOf l k := by simp [bytesV]
theorem word_ext {x y : BitVec 64} (h : ∀ j, j < 64 → x.getLsbD j = y.getLsbD j) : x = y := BitVec.eq_of_getLsbD_eq h
theorem byte_ext {x y : BitVec 8} (h : ∀ j, j < 8 → x.getLsbD j = y.getLsbD j) : x = y := BitVec.eq_of_getLsbD_eq h
theorem one_shl_bit (m j : Nat) (hj : j < 64) (hm : m < 64) : (1#64 <<< m).getLsbD j = decide (j = m) := by
  rw [BitVec.getLsbD_shiftLeft]
  by_cases h : j = m
  · subst h; simp [hj]
  · by_cases h2 : j < m
    · simp [h, h2]
    · have : (1#64).getLsbD (j - m) = false := by
        rw [BitVec.getLsbD_one]; simp; omega
      simp [h, this]
theorem atD_set (l : List Bool) (i j : Nat) (b d : Bool) : (l.set i b).getD j d = if i = j ∧ i < l.length then b else l.getD j d := by
  simp only [List.getD_eq_getElem?_getD, List.getElem?_set]
  by_cases h : i = j
  · subst h
    by_cases h2 : i < l.length <;> simp [h2]
  · simp [h]
theorem word_off (l : List Bool) (i : Nat) : wordOf (l.set i false) (i / 64) = wordOf l (i / 64) &&& ~~~(1#64 <<< (i % 64)) := by
  refine word_ext (fun j hj => ?_)
  rw [wordOf_bit _ _ _ hj, BitVec.getLsbD_and, BitVec.getLsbD_not, one_shl_bit _ _ hj (by omega), wordOf_bit _ _ _ hj, atD_set]
  have hd : i = 64 * (i / 64) + i % 64 := by omega
  by_cases h : j = i % 64
  · subst h
    rw [← hd]
    by_cases h2 : i < l.length
    · simp [h2]
    · simp [h2, List.getD_eq_getElem?_getD]
  · have : ¬ i = 64 * (i / 64) + j := by omega
    simp [h, this, hj]
theorem word_on (l : List Bool) (i : Nat) (hi : i < l.length) : wordOf (l.set i true) (i / 64) = wordOf l (i / 64) ||| (1#64 <<< (i % 64)) := by
  refine word_ext (fun j hj => ?_)
  rw [wordOf_bit _ _ _ hj, BitVec.getLsbD_or, one_shl_bit _ _ hj (by omega), wordOf_bit _ _ _ hj, atD_set]
  have hd : i = 64 * (i / 64) + i % 64 := by omega
  by_cases h : j = i % 64
  · subst h
    rw [← hd]; simp [hi]
  · have : ¬ i = 64 * (i / 64) + j := by omega
    simp [h, this]
theorem word_else (l : List Bool) (i k : Nat) (b : Bool) (h : k ≠ i / 64) : wordOf (l.set i b) k = wordOf l k := by
  refine word_ext (fun j hj => ?_)
  rw [wordOf_bit _ _ _ hj, wordOf_bit _ _ _ hj, atD_set, if_neg (by omega)]
theorem words_set (l : List Bool) (i : Nat) (b : Bool) : words (l.set i b) = (words l).set (i / 64) (wordOf (l.set i b) (i / 64)) := by
  refine List.ext_getElem ?_ (fun k h1 h2 => ?_)
  · simp [words_len]
  · rw [words_at, List.getElem_set]
    by_cases h : i / 64 = k
    · rw [if_pos h, h]
    · rw [if_neg h, words_at, word_else _ _ _ _ (fun q => h q.symm)]
theorem words_off (l : List Bool) (i : Nat) : words (l.set i false) = (words l).set (i / 64) (wordOf l (i / 64) &&& ~~~(1#64 <<< (i % 64))) := by rw [words_set, word_off]
theorem words_on (l : List Bool) (i : Nat) (hi : i < l.length) : words (l.set i true) = (words l).set (i / 64) (wordOf l (i / 64) ||| (1#64 <<< (i % 64))) := by rw [words_set, word_on _ _ hi]
/-- xor of rows of bits. -/
def xorV (a b : List Bool) : List Bool := List.zipWith (· ^^ ·) a b
theorem xorV_len {a b : List Bool} (h : a.length = b.length) : (xorV a b).length = a.length := by simp [xorV, h]
theorem xorV_getD {a b : List Bool} (h : a.length = b.length) (j : Nat) : (xorV a b).getD j false = (a.getD j false ^^ b.getD j false) := by
  simp only [xorV, List.getD_eq_getElem?_getD, List.getElem?_zipWith]
  by_cases hj : j < a.length
  · have hj' : j < b.length := by omega
    simp [hj, hj']
  · have hj' : ¬ j < b.length := by omega
    simp [hj, hj']
theorem word_xor {a b : List Bool} (h : a.length = b.length) (k : Nat) : wordOf (xorV a b) k = wordOf a k ^^^ wordOf b k := by
  refine word_ext (fun j hj => ?_)
  rw [wordOf_bit _ _ _ hj, BitVec.getLsbD_xor, wordOf_bit _ _ _ hj, wordOf_bit _ _ _ hj, xorV_getD h]
theorem words_xor {a b : List Bool} (h : a.length = b.length) : words (xorV a b) = List.zipWith (· ^^^ ·) (words a) (words b) := by
  refine List.ext_getElem ?_ (fun k h1 h2 => ?_)
  · simp [words_len, xorV_len h, h]
  · rw [words_at, List.getElem_zipWith, words_at, words_at, word_xor h]
theorem word_has (l : List Bool) (i : Nat) : ((wordOf l (i / 64) >>> (i % 64)) &&& 1#64).toNat = (l.getD i false).toNat := by
  have hb : ((wordOf l (i / 64) >>> (i % 64)) &&& 1#64) = if l.getD i false then 1#64 else 0#64 := by
    refine word_ext (fun j hj => ?_)
    rw [BitVec.getLsbD_and, BitVec.getLsbD_ushiftRight, BitVec.getLsbD_one]
    by_cases h : j = 0
    · subst h
      rw [wordOf_bit _ _ _ (by omega), show 64 * (i / 64) + (i % 64 + 0) = i by omega]
      cases l.getD i false <;> simp
    · cases l.getD i false <;> simp [h]
  rw [hb]; cases l.getD i false <;> rfl
theorem byte_has (l : List Bool) (i : Nat) : ((byteOf l (i / 8) >>> (i % 8)) &&& 1#8).toNat = (l.getD i false).toNat := by
  have hb : ((byteOf l (i / 8) >>> (i % 8)) &&& 1#8) = if l.getD i false then 1#8 else 0#8 := by
    refine byte_ext (fun j hj => ?_)
    rw [BitVec.getLsbD_and, BitVec.getLsbD_ushiftRight, BitVec.getLsbD_one]
    by_cases h : j = 0
    · subst h
      rw [byteOf_bit _ _ _ (by omega), show 8 * (i / 8) + (i % 8 + 0) = i by omega]
      cases l.getD i false <;> simp
    · cases l.getD i false <;> simp [h]
  rw [hb]; cases l.getD i false <;> rfl
theorem byte_word (l : List Bool) (k : Nat) : (wordOf l (k * 8 / 64) >>> (k * 8 % 64)).setWidth 8 = byteOf l k := by
  refine byte_ext (fun j hj => ?_)
  rw [BitVec.getLsbD_setWidth, BitVec.getLsbD_ushiftRight, byteOf_bit _ _ _ hj, wordOf_bit _ _ _ (by omega), show 64 * (k * 8 / 64) + (k * 8 % 64 + j) = 8 * k + j by omega]
  simp [hj]
theorem getD_out {l : List Bool} {j : Nat} (h : l.length ≤ j) : l.getD j false = false := by simp [List.getD_eq_getElem?_getD, h]
theorem bits_ext {a b : List Bool} (h : a.length = b.length) (hb : ∀ j, j < a.length → a.getD j false = b.getD j false) : a = b := by
  refine List.ext_getElem h (fun j h1 h2 => ?_)
  have := hb j h1
  simpa [List.getD_eq_getElem?_getD, h1, h2] using this
theorem words_inj {a b : List Bool} (h : a.length = b.length) (hw : words a = words b) : a = b := by
  refine bits_ext h (fun j hj => ?_)
  have hk : j / 64 < nw a.length := by unfold nw; omega
  have e : wordOf a (j / 64) = wordOf b (j / 64) := by
    have h1 := words_at? a (j / 64) hk
    rw [hw, words_at? b (j / 64) (by rw [← h]; exact hk)] at h1
    exact (Option.some.inj h1).symm
  have := wordOf_bit a (j / 64) (j % 64) (by omega)
  rw [e, wordOf_bit _ _ _ (by omega), show 64 * (j / 64) + j % 64 = j by omega] at this
  exact this.symm
theorem bytesV_inj {a b : List Bool} (h : a.length = b.length) (hw : bytesV a = bytesV b) : a = b := by
  refine bits_ext h (fun j hj => ?_)
  have hk : j / 8 < nb a.length := by unfold nb; omega
  have e : byteOf a (j / 8) = byteOf b (j / 8) := by
    have h1 : (bytesV a)[j / 8]? = some (byteOf a (j / 8)) := by simp [bytesV, hk]
    have h2 : (bytesV b)[j / 8]? = some (byteOf b (j / 8)) := by simp [bytesV, ← h, hk]
    rw [hw, h2] at h1
    exact (Option.some.inj h1).symm
  have := byteOf_bit a (j / 8) (j % 8) (by omega)
  rw [e, byteOf_bit _ _ _ (by omega), show 8 * (j / 8) + j % 8 = j by omega] at this
  exact this.symm
theorem words_zero (n : Nat) : words (List.replicate n false) = List.replicate (nw n) 0#64 := by
  refine List.ext_getElem ?_ (fun k h1 h2 => ?_)
  · simp [words_len]
  · rw [words_at, List.getElem_replicate]
    refine word_ext (fun j hj => ?_)
    rw [wordOf_bit _ _ _ hj]
    by_cases h : 64 * k + j < n <;> simp [List.getD_eq_getElem?_getD, List.getElem?_replicate, h]
end Go.Dp
