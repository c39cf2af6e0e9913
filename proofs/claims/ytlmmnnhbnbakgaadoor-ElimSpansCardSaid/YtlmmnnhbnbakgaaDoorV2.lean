/-
  Rows of bits: places, first, count, xor, packed and unpacked; plain.
  Conditions: none.
-/
import Derived.Test.YtlmmnnhbnbakgaaDoorV1
set_option linter.unusedVariables false
set_option linter.unusedSimpArgs false
namespace Go.Dp
/-- Is this bit set? -/
abbrev at_ (l : List Bool) (j : Nat) : Bool := l.getD j false
/-- Row of n bits, of which these places are set. -/
def setI (b : List Bool) (i : Int) : List Bool := if 0 ≤ i ∧ i < b.length then b.set i.toNat true else b
def bitsOf (n : Nat) (l : List Int) : List Bool := l.foldl setI (List.replicate n false)
theorem setI_len (b : List Bool) (i : Int) : (setI b i).length = b.length := by unfold setI; split <;> simp
theorem foldI_len (l : List Int) : ∀ b : List Bool, (l.foldl setI b).length = b.length := by
  induction l with
  | nil => exact fun _ => rfl
  | cons i l ih => intro b; rw [List.foldl_cons, ih, setI_len]
theorem bitsOf_len (n : Nat) (l : List Int) : (bitsOf n l).length = n := by rw [bitsOf, foldI_len, List.length_replicate]
theorem setI_at (b : List Bool) (i : Int) (j : Nat) (hj : j < b.length) : (setI b i).getD j false = (b.getD j false || decide ((j : Int) = i)) := by
  unfold setI
  split
  · rename_i h
    rw [atD_set]
    by_cases h2 : i.toNat = j
    · have : (j : Int) = i := by omega
      rw [if_pos ⟨h2, by omega⟩]; simp [this]
    · have : ¬ (j : Int) = i := by omega
      rw [if_neg (fun q => h2 q.1)]; simp [this]
  · rename_i h
    have : ¬ (j : Int) = i := by omega
    simp [this]
theorem foldI_at (l : List Int) : ∀ (b : List Bool) (j : Nat), j < b.length → (l.foldl setI b).getD j false = (b.getD j false || decide ((j : Int) ∈ l)) := by
  induction l with
  | nil => intro b j _; simp
  | cons i l ih =>
    intro b j hj
    rw [List.foldl_cons, ih _ _ (by rw [setI_len]; exact hj), setI_at _ _ _ hj, Bool.or_assoc]
    congr 1
    simp [List.mem_cons, Bool.decide_or]
theorem rep_at (n j : Nat) : (List.replicate n false).getD j false = false := by
  by_cases h : j < n <;> simp [List.getD_eq_getElem?_getD, h]
theorem bitsOf_at (n : Nat) (l : List Int) (j : Nat) (hj : j < n) : (bitsOf n l).getD j false = decide ((j : Int) ∈ l) := by
  rw [bitsOf, foldI_at _ _ _ (by simpa using hj), rep_at]; simp
theorem bitsOf_snoc (n : Nat) (l : List Int) (i : Int) : bitsOf n (l ++ [i]) = setI (bitsOf n l) i := by simp [bitsOf]
theorem bitsOf_congr {n : Nat} {l m : List Int} (h : ∀ i, i ∈ l ↔ i ∈ m) : bitsOf n l = bitsOf n m := by
  refine bits_ext (by rw [bitsOf_len, bitsOf_len]) (fun j hj => ?_)
  rw [bitsOf_len] at hj
  rw [bitsOf_at _ _ _ hj, bitsOf_at _ _ _ hj]
  simp [h]
/-- The places that are set. -/
def listV (l : List Bool) : List Int := (placesN (at_ l) l.length).map Int.ofNat
theorem listV_len (l : List Bool) : (listV l).length = cnt (at_ l) l.length := by rw [listV, List.length_map, places_len]
theorem listV_mem {l : List Bool} {i : Int} : i ∈ listV l ↔ 0 ≤ i ∧ i < l.length ∧ at_ l i.toNat = true := by
  simp only [listV, List.mem_map, places_mem]
  constructor
  · rintro ⟨j, ⟨h1, h2⟩, rfl⟩
    exact ⟨by simp, by simpa using h1, by simpa using h2⟩
  · rintro ⟨h0, h1, h2⟩
    exact ⟨i.toNat, ⟨by omega, h2⟩, by simp; omega⟩
theorem bitsOf_listV (l : List Bool) : bitsOf l.length (listV l) = l := by
  refine bits_ext (bitsOf_len _ _) (fun j hj => ?_)
  rw [bitsOf_len] at hj
  rw [bitsOf_at _ _ _ hj]
  cases h : l.getD j false
  · rw [decide_eq_false_iff_not]
    intro hm
    have := (listV_mem.mp hm).2.2
    simp only [at_, Int.toNat_natCast] at this
    rw [h] at this; cases this
  · rw [decide_eq_true_eq]
    exact listV_mem.mpr ⟨by omega, by omega, by simpa [at_] using h⟩
theorem bitsOf_turn (n k : Nat) (l : List Int) : bitsOf n ((l.drop k ++ l) ++ l.take k) = bitsOf n l := by
  refine bitsOf_congr (fun i => ?_)
  simp only [List.mem_append]
  constructor
  · rintro ((h | h) | h)
    · exact List.mem_of_mem_drop h
    · exact h
    · exact List.mem_of_mem_take h
  · exact fun h => .inl (.inr h)
/-- The first place, -1 if there is none. -/
def firstV (l : List Bool) : Int := if firstN (at_ l) l.length < l.length then firstN (at_ l) l.length else -1
theorem firstV_is {l : List Bool} {i : Nat} (hi : i < l.length) (h1 : at_ l i = true) (h : ∀ j, j < i → at_ l j = false) : firstV l = i := by
  rw [firstV, firstN_is hi h1 h, if_pos hi]
theorem firstV_none {l : List Bool} (h : ∀ j, j < l.length → at_ l j = false) : firstV l = -1 := by
  rw [firstV, firstN_none h, if_neg (Nat.lt_irrefl _)]
def countV (l : List Bool) : Nat := cnt (at_ l) l.length
theorem countV_set (l : List Bool) (i : Nat) (b : Bool) (hi : i < l.length) : (countV (l.set i b) : Int) = countV l - (at_ l i).toNat + b.toNat := by
  unfold countV
  rw [List.length_set]
  have key : ∀ m, (cnt (at_ (l.set i b)) m : Int) = cnt (at_ l) m + if i < m then (b.toNat : Int) - (at_ l i).toNat else 0 := by
    intro m
    induction m with
    | zero => simp [cnt_zero]
    | succ m ih =>
      rw [cnt_succ, cnt_succ]
      have e : at_ (l.set i b) m = if i = m then b else at_ l m := by
        simp only [at_]; rw [atD_set]; simp [hi]
      rw [e]
      by_cases h : i = m
      · subst h
        rw [if_neg (Nat.lt_irrefl _)] at ih
        rw [if_pos rfl, if_pos (by omega)]; push_cast; omega
      · rw [if_neg h]
        by_cases h2 : i < m
        · rw [if_pos h2] at ih; rw [if_pos (by omega)]; push_cast; omega
        · rw [if_neg h2] at ih; rw [if_neg (by omega)]; push_cast; omega
  have := key l.length
  rw [if_pos hi] at this
  omega
/-- Words tell the count. -/
theorem count_words (l : List Bool) (k : Nat) : cnt (at_ l) (64 * (k + 1)) = cnt (at_ l) (64 * k) + popc (wordOf l k) := by
  rw [Nat.mul_succ, cnt_add]
  congr 1
  exact cnt_congr (fun j hj => (wordOf_bit l k j hj).symm)
theorem count_all (l : List Bool) : cnt (at_ l) (64 * nw l.length) = countV l := by
  have hle : l.length ≤ 64 * nw l.length := by unfold nw; omega
  obtain ⟨c, hc⟩ := Nat.le.dest hle
  rw [← hc, cnt_add, countV, cnt_none (m := c) (fun j _ => getD_out (by omega))]
  rfl
theorem word_eq_zero {l : List Bool} {k : Nat} (h : wordOf l k = 0#64) : ∀ j, 64 * k ≤ j → j < 64 * (k + 1) → at_ l j = false := by
  intro j h1 h2
  have := wordOf_bit l k (j - 64 * k) (by omega)
  rw [h, show 64 * k + (j - 64 * k) = j by omega] at this
  simpa using this.symm
/-- The first word that is not nought tells the first place. -/
theorem first_word {l : List Bool} {k : Nat} (h0 : wordOf l k ≠ 0#64) (h : ∀ j, j < 64 * k → at_ l j = false) : firstV l = 64 * (k : Int) + Go.Lib.ctz 64 (wordOf l k).toNat ∧ Go.Lib.ctz 64 (wordOf l k).toNat < 64 := by
  have hx0 : (wordOf l k).toNat ≠ 0 := fun e => h0 (BitVec.eq_of_toNat_eq (by simpa using e))
  have hc := ctz_first _ hx0 (wordOf l k).isLt
  have hlt := (Go.Lib.lowest_bit 64 _ hx0 (wordOf l k).isLt).2
  rw [← hc] at hlt ⊢
  refine ⟨?_, hlt⟩
  have h1 : (wordOf l k).getLsbD (firstN (wordOf l k).toNat.testBit 64) = true := firstN_at _ 64 hlt
  rw [wordOf_bit _ _ _ hlt] at h1
  have hin : 64 * k + firstN (wordOf l k).toNat.testBit 64 < l.length := by
    rcases Nat.lt_or_ge (64 * k + firstN (wordOf l k).toNat.testBit 64) l.length with q | q
    · exact q
    · rw [getD_out q] at h1; cases h1
  rw [firstV_is hin h1 (fun j hj => ?_)]
  · push_cast; rfl
  · by_cases h2 : j < 64 * k
    · exact h j h2
    · have h3 := firstN_lo (wordOf l k).toNat.testBit 64 (j - 64 * k) (by omega)
      have h4 := wordOf_bit l k (j - 64 * k) (by omega)
      rw [show 64 * k + (j - 64 * k) = j by omega] at h4
      rw [at_, ← h4]; exact h3
theorem xorV_self (a b : List Bool) (h : a.length = b.length) : xorV (xorV a b) b = a := by
  refine bits_ext (by rw [xorV_len (by rw [xorV_len h, h]), xorV_len h]) (fun j _ => ?_)
  rw [xorV_getD (by rw [xorV_len h, h]), xorV_getD h]
  cases a.getD j false <;> cases b.getD j false <;> rfl
theorem xorV_comm (a b : List Bool) (h : a.length = b.length) : xorV a b = xorV b a := by
  refine bits_ext (by rw [xorV_len h, xorV_len h.symm, h]) (fun j _ => ?_)
  rw [xorV_getD h, xorV_getD h.symm]
  cases a.getD j false <;> cases b.getD j false <;> rfl
theorem cnt_zero_none {f : Nat → Bool} {m : Nat} (h : cnt f m = 0) : ∀ j, j < m → f j = false := by
  intro j hj
  cases hf : f j
  · rfl
  · have := cnt_mono f (show j + 1 ≤ m from hj)
    rw [cnt_succ, hf] at this
    simp at this; omega
theorem xorV_count (a b : List Bool) (h : a.length = b.length) : countV (xorV a b) = 0 ↔ a = b := by
  constructor
  · intro hc
    refine bits_ext h (fun j hj => ?_)
    have := cnt_zero_none hc j (by rw [xorV_len h]; exact hj)
    simp only [at_] at this
    rw [xorV_getD h] at this
    revert this
    cases a.getD j false <;> cases b.getD j false <;> simp
  · rintro rfl
    refine cnt_none (fun j _ => ?_)
    simp only [at_]
    rw [xorV_getD rfl]; cases a.getD j false <;> rfl
/-- The first i of these bits, of n. -/
def maskV (n : Nat) (f : Nat → Bool) (i : Nat) : List Bool := (List.range n).map (fun j => decide (j < i) && f j)
theorem maskV_len (n : Nat) (f : Nat → Bool) (i : Nat) : (maskV n f i).length = n := by simp [maskV]
theorem maskV_at (n : Nat) (f : Nat → Bool) (i j : Nat) : (maskV n f i).getD j false = (decide (j < n) && (decide (j < i) && f j)) := by
  simp only [maskV, List.getD_eq_getElem?_getD, List.getElem?_map]
  by_cases h : j < n
  · simp [h]
  · simp [h]
theorem maskV_zero (n : Nat) (f : Nat → Bool) : maskV n f 0 = List.replicate n false := by
  refine bits_ext (by simp [maskV]) (fun j _ => ?_)
  rw [maskV_at, rep_at]; simp
theorem maskV_on {n : Nat} {f : Nat → Bool} {i : Nat} (hi : i < n) (h : f i = true) : maskV n f (i + 1) = (maskV n f i).set i true := by
  refine bits_ext (by simp [maskV]) (fun j _ => ?_)
  rw [maskV_at, atD_set, maskV_at, maskV_len]
  by_cases hj : i = j
  · subst hj; simp [hi, h]
  · rw [if_neg (fun q => hj q.1)]
    by_cases h2 : j < i
    · simp [h2, show j < i + 1 by omega]
    · simp [h2, show ¬ j < i + 1 by omega]
theorem maskV_off {n : Nat} {f : Nat → Bool} {i : Nat} (h : i < n → f i = false) : maskV n f (i + 1) = maskV n f i := by
  refine bits_ext (by simp [maskV]) (fun j _ => ?_)
  rw [maskV_at, maskV_at]
  by_cases hj : j = i
  · subst hj
    by_cases hn : j < n
    · simp [h hn]
    · simp [hn]
  · by_cases h2 : j < i
    · simp [h2, show j < i + 1 by omega]
    · simp [h2, show ¬ j < i + 1 by omega]
theorem maskV_all {l : List Bool} {i : Nat} (hi : l.length ≤ i) : maskV l.length (at_ l) i = l := by
  refine bits_ext (by simp [maskV]) (fun j hj => ?_)
  rw [maskV_len] at hj
  rw [maskV_at]; simp [hj, show j < i by omega]
theorem one_shl_bit8 (m j : Nat) (hj : j < 8) : (1#8 <<< m).getLsbD j = decide (j = m) := by
  rw [BitVec.getLsbD_shiftLeft]
  by_cases h : j = m
  · subst h; simp [hj]
  · by_cases h2 : j < m
    · simp [h, h2]
    · have : (1#8).getLsbD (j - m) = false := by
        rw [BitVec.getLsbD_one]; simp; omega
      simp [h, this]
theorem byte_on (l : List Bool) (i : Nat) (hi : i < l.length) : byteOf (l.set i true) (i / 8) = byteOf l (i / 8) ||| (1#8 <<< (i % 8)) := by
  refine byte_ext (fun j hj => ?_)
  rw [byteOf_bit _ _ _ hj, BitVec.getLsbD_or, one_shl_bit8 _ _ hj, byteOf_bit _ _ _ hj, atD_set]
  have hd : i = 8 * (i / 8) + i % 8 := by omega
  by_cases h : j = i % 8
  · subst h
    rw [← hd]; simp [hi]
  · have : ¬ i = 8 * (i / 8) + j := by omega
    simp [h, this]
theorem byte_else (l : List Bool) (i k : Nat) (b : Bool) (h : k ≠ i / 8) : byteOf (l.set i b) k = byteOf l k := by
  refine byte_ext (fun j hj => ?_)
  rw [byteOf_bit _ _ _ hj, byteOf_bit _ _ _ hj, atD_set, if_neg (by omega)]
theorem bytesV_on (l : List Bool) (i : Nat) (hi : i < l.length) : bytesV (l.set i true) = (bytesV l).set (i / 8) (byteOf l (i / 8) ||| (1#8 <<< (i % 8))) := by
  rw [← byte_on _ _ hi]
  refine List.ext_getElem ?_ (fun k h1 h2 => ?_)
  · simp [bytesV_len]
  · rw [bytesV_at, List.getElem_set]
    by_cases h : i / 8 = k
    · rw [if_pos h, h]
    · rw [if_neg h, bytesV_at, byte_else _ _ _ _ (fun q => h q.symm)]
theorem bytesV_zero (n : Nat) : bytesV (List.replicate n false) = List.replicate (nb n) 0#8 := by
  refine List.ext_getElem ?_ (fun k h1 h2 => ?_)
  · simp [bytesV_len]
  · rw [bytesV_at, List.getElem_replicate]
    refine byte_ext (fun j hj => ?_)
    rw [byteOf_bit _ _ _ hj, rep_at]; simp
/-- A bit of bytes. -/
def rbit (r : List (BitVec 8)) (i : Nat) : Bool := (r.getD (i / 8) 0#8).getLsbD (i % 8)
theorem rbit_val (r : List (BitVec 8)) (i : Nat) (h : i / 8 < r.length) : ((r[i / 8] >>> (i % 8)) &&& 1#8).toNat = (rbit r i).toNat := by
  have hb : ((r[i / 8] >>> (i % 8)) &&& 1#8) = if rbit r i then 1#8 else 0#8 := by
    refine byte_ext (fun j hj => ?_)
    rw [BitVec.getLsbD_and, BitVec.getLsbD_ushiftRight, BitVec.getLsbD_one]
    have e : rbit r i = r[i / 8].getLsbD (i % 8) := by simp [rbit, List.getD_eq_getElem?_getD, h]
    by_cases hj0 : j = 0
    · subst hj0
      rw [Nat.add_zero, ← e]
      cases rbit r i <;> simp
    · cases rbit r i <;> simp [hj0]
  rw [hb]; cases rbit r i <;> rfl
theorem rbit_bytes (l : List Bool) (i : Nat) (hi : i < 8 * nb l.length) : rbit (bytesV l) i = at_ l i := by
  have hk : i / 8 < (bytesV l).length := by rw [bytesV_len]; omega
  have e : (bytesV l).getD (i / 8) 0#8 = byteOf l (i / 8) := by
    rw [List.getD_eq_getElem?_getD, List.getElem?_eq_getElem hk, Option.getD_some, bytesV_at]
  rw [rbit, e, byteOf_bit _ _ _ (by omega), show 8 * (i / 8) + i % 8 = i by omega]
/-- What bytes say of a row of n bits: nothing, if they have another length, or a bit beyond. -/
def unpV (n : Nat) (r : List (BitVec 8)) : Option (List Bool) := if r.length = nb n then (if (List.range (8 * nb n)).any (fun i => decide (n ≤ i) && rbit r i) then none else some (maskV n (rbit r) n)) else none
theorem unpV_bytes (l : List Bool) : unpV l.length (bytesV l) = some l := by
  rw [unpV, if_pos (bytesV_len l), if_neg]
  · congr 1
    refine bits_ext (maskV_len _ _ _) (fun j hj => ?_)
    rw [maskV_len] at hj
    rw [maskV_at, rbit_bytes _ _ (by unfold nb; omega)]
    simp [hj]
  · rw [List.any_eq_true]
    rintro ⟨i, hi, h⟩
    rw [Bool.and_eq_true, decide_eq_true_eq, rbit_bytes _ _ (by simpa using hi)] at h
    rw [at_, getD_out h.1] at h
    cases h.2
theorem unpV_bad {n i : Nat} {r : List (BitVec 8)} (h1 : n ≤ i) (h2 : i < 8 * nb n) (h3 : rbit r i = true) : unpV n r = none := by
  unfold unpV
  split
  · rw [if_pos]
    rw [List.any_eq_true]
    exact ⟨i, by simpa using h2, by simp [h1, h3]⟩
  · rfl
theorem unpV_ok {n : Nat} {r : List (BitVec 8)} (hl : r.length = nb n) (h : ∀ i, n ≤ i → i < 8 * nb n → rbit r i = false) : unpV n r = some (maskV n (rbit r) n) := by
  rw [unpV, if_pos hl, if_neg]
  rw [List.any_eq_true]
  rintro ⟨i, hi, q⟩
  rw [Bool.and_eq_true, decide_eq_true_eq] at q
  rw [h i q.1 (by simpa using hi)] at q
  cases q.2
theorem maskV_past {n : Nat} {f : Nat → Bool} {i : Nat} (h : n ≤ i) : maskV n f i = maskV n f n := by
  refine bits_ext (by simp [maskV]) (fun j hj => ?_)
  rw [maskV_len] at hj
  rw [maskV_at, maskV_at]; simp [hj, show j < i by omega]
theorem byte_word' (l : List Bool) (k : Nat) : (wordOf l (8 * k / 64) >>> (8 * k % 64)).setWidth 8 = byteOf l k := by rw [Nat.mul_comm]; exact byte_word l k
theorem nw_nb {n k : Nat} (h : k < nb n) : k * 8 / 64 < nw n := by unfold nb at h; unfold nw; omega
end Go.Dp
