/-
  Places that are set, counted; how the library counts them; plain.
  Conditions: none.
-/
import Derived.Test.YtlmmnnhbnbakgaaDoorV0
import Derived.Lib.TrailingZeros
set_option linter.unusedVariables false
set_option linter.unusedSimpArgs false
namespace Go.Dp
/-- How many of the first m bits are set. -/
def cnt (f : Nat → Bool) (m : Nat) : Nat := ((List.range m).filter f).length
theorem cnt_zero (f : Nat → Bool) : cnt f 0 = 0 := rfl
theorem cnt_succ (f : Nat → Bool) (m : Nat) : cnt f (m + 1) = cnt f m + (f m).toNat := by
  simp only [cnt, List.range_succ, List.filter_append, List.length_append]
  cases h : f m <;> simp [h]
theorem cnt_add (f : Nat → Bool) (a b : Nat) : cnt f (a + b) = cnt f a + cnt (fun j => f (a + j)) b := by
  induction b with
  | zero => rfl
  | succ b ih => rw [← Nat.add_assoc, cnt_succ, cnt_succ, ih]; omega
theorem cnt_congr {f g : Nat → Bool} {m : Nat} (h : ∀ j, j < m → f j = g j) : cnt f m = cnt g m := by
  induction m with
  | zero => rfl
  | succ m ih => rw [cnt_succ, cnt_succ, ih (fun j hj => h j (by omega)), h m (by omega)]
theorem cnt_none {f : Nat → Bool} {m : Nat} (h : ∀ j, j < m → f j = false) : cnt f m = 0 := by
  induction m with
  | zero => rfl
  | succ m ih => rw [cnt_succ, ih (fun j hj => h j (by omega)), h m (by omega)]; rfl
theorem cnt_le (f : Nat → Bool) (m : Nat) : cnt f m ≤ m := by
  induction m with
  | zero => exact Nat.le_refl _
  | succ m ih => rw [cnt_succ]; cases f m <;> simp <;> omega
theorem cnt_mono (f : Nat → Bool) {a b : Nat} (h : a ≤ b) : cnt f a ≤ cnt f b := by
  obtain ⟨c, rfl⟩ := Nat.le.dest h
  rw [cnt_add]; omega
def popc (x : BitVec 64) : Nat := cnt x.getLsbD 64
/-- The places that are set, rising, of the first m. -/
def placesN (f : Nat → Bool) (m : Nat) : List Nat := (List.range m).filter f
theorem places_succ (f : Nat → Bool) (m : Nat) : placesN f (m + 1) = placesN f m ++ if f m then [m] else [] := by
  simp only [placesN, List.range_succ, List.filter_append]
  cases h : f m <;> simp [h]
theorem places_len (f : Nat → Bool) (m : Nat) : (placesN f m).length = cnt f m := rfl
theorem places_mem {f : Nat → Bool} {m i : Nat} : i ∈ placesN f m ↔ i < m ∧ f i = true := by simp [placesN]
/-- The first place, m if none. -/
def firstN (f : Nat → Bool) : Nat → Nat
  | 0 => 0
  | m + 1 => if firstN f m < m then firstN f m else if f m then m else m + 1
theorem firstN_le (f : Nat → Bool) (m : Nat) : firstN f m ≤ m := by
  induction m with
  | zero => exact Nat.le_refl _
  | succ m ih => rw [firstN]; split; omega; split <;> omega
theorem firstN_lo (f : Nat → Bool) (m : Nat) : ∀ j, j < firstN f m → f j = false := by
  induction m with
  | zero => intro j hj; simp [firstN] at hj
  | succ m ih =>
    intro j hj
    rw [firstN] at hj
    split at hj
    · exact ih j hj
    · have : firstN f m = m := by have := firstN_le f m; omega
      split at hj
      · exact ih j (by omega)
      · by_cases h : j < m
        · exact ih j (by omega)
        · have : j = m := by omega
          subst this
          rename_i h1 h2
          simpa using h2
theorem firstN_at (f : Nat → Bool) (m : Nat) (h : firstN f m < m) : f (firstN f m) = true := by
  induction m with
  | zero => omega
  | succ m ih =>
    rw [firstN] at h ⊢
    split
    · rename_i h1; exact ih h1
    · rename_i h1
      rw [if_neg h1] at h
      split
      · assumption
      · rename_i h2; rw [if_neg h2] at h; omega
theorem firstN_is {f : Nat → Bool} {m i : Nat} (hi : i < m) (h1 : f i = true) (h : ∀ j, j < i → f j = false) : firstN f m = i := by
  rcases Nat.lt_trichotomy (firstN f m) i with hl | he | hg
  · have := firstN_at f m (by omega)
    rw [h _ hl] at this; cases this
  · exact he
  · have := firstN_lo f m i hg
    rw [h1] at this; cases this
theorem firstN_none {f : Nat → Bool} {m : Nat} (h : ∀ j, j < m → f j = false) : firstN f m = m := by
  have hle := firstN_le f m
  rcases Nat.lt_or_ge (firstN f m) m with hl | hg
  · have := firstN_at f m hl
    rw [h _ hl] at this; cases this
  · omega
/-- Digits of w bits, summed. -/
def ds (w : Nat) : Nat → Nat → Nat
  | 0, _ => 0
  | n + 1, y => y % 2 ^ w + ds w n (y / 2 ^ w)
def alt (w : Nat) : Nat → Nat
  | 0 => 0
  | n + 1 => (2 ^ w - 1) + 2 ^ (2 * w) * alt w n
def gat (w : Nat) : Nat → Nat → Nat
  | 0, _ => 0
  | n + 1, y => y % 2 ^ w + 2 ^ (2 * w) * gat w n (y / 2 ^ (2 * w))
def fol (w : Nat) : Nat → Nat → Nat
  | 0, _ => 0
  | n + 1, y => (y % 2 ^ w + y / 2 ^ w % 2 ^ w) + 2 ^ (2 * w) * fol w n (y / 2 ^ (2 * w))
theorem pow2_two (w : Nat) : 2 ^ (2 * w) = 2 ^ w * 2 ^ w := by rw [Nat.two_mul, Nat.pow_add]
theorem and_alt (w : Nat) : ∀ n y, y &&& alt w n = gat w n y
  | 0, y => by simp [alt, gat]
  | n + 1, y => by
    have hp : 0 < 2 ^ w := Nat.pow_pos (by decide)
    have hq : 0 < 2 ^ (2 * w) := Nat.pow_pos (by decide)
    have hlt : 2 ^ w - 1 < 2 ^ (2 * w) := by
      have : 2 ^ w ≤ 2 ^ (2 * w) := Nat.pow_le_pow_right (by decide) (by omega)
      omega
    have h1 : (y &&& alt w (n + 1)) % 2 ^ (2 * w) = y % 2 ^ w := by
      rw [Nat.and_mod_two_pow, alt, Nat.add_mul_mod_self_left, Nat.mod_eq_of_lt hlt, Nat.and_two_pow_sub_one_eq_mod]
      exact Nat.mod_mod_of_dvd _ (Nat.pow_dvd_pow 2 (by omega))
    have h2 : (y &&& alt w (n + 1)) / 2 ^ (2 * w) = gat w n (y / 2 ^ (2 * w)) := by
      rw [Nat.and_div_two_pow, alt, Nat.add_mul_div_left _ _ hq, Nat.div_eq_of_lt hlt, Nat.zero_add, and_alt w n]
    rw [gat, ← h1, ← h2, Nat.mod_add_div]
theorem gat_fol (w : Nat) : ∀ n y, gat w n (y / 2 ^ w) + gat w n y = fol w n y
  | 0, y => rfl
  | n + 1, y => by
    rw [gat, gat, fol, ← gat_fol w n (y / 2 ^ (2 * w)), Nat.div_div_eq_div_mul, Nat.div_div_eq_div_mul, Nat.mul_comm (2 ^ w), Nat.mul_add]
    omega
theorem fold_mod (w n y : Nat) (hw : 1 ≤ w) : fol w (n + 1) y % 2 ^ (2 * w) = y % 2 ^ w + y / 2 ^ w % 2 ^ w ∧ fol w (n + 1) y / 2 ^ (2 * w) = fol w n (y / 2 ^ (2 * w)) := by
  have hp : 0 < 2 ^ w := Nat.pow_pos (by decide)
  have h2 : 2 ≤ 2 ^ w := by have := Nat.pow_le_pow_right (n := 2) (by decide) hw; simpa using this
  have hq : 0 < 2 ^ (2 * w) := Nat.pow_pos (by decide)
  have ha := Nat.mod_lt y hp
  have hb := Nat.mod_lt (y / 2 ^ w) hp
  have hlt : y % 2 ^ w + y / 2 ^ w % 2 ^ w < 2 ^ (2 * w) := by
    rw [pow2_two]
    have : 2 * 2 ^ w ≤ 2 ^ w * 2 ^ w := Nat.mul_le_mul_right _ h2
    omega
  rw [fol, Nat.add_mul_mod_self_left, Nat.mod_eq_of_lt hlt, Nat.add_mul_div_left _ _ hq, Nat.div_eq_of_lt hlt, Nat.zero_add]
  exact ⟨rfl, rfl⟩
theorem ds_fol (w : Nat) (hw : 1 ≤ w) : ∀ n y, ds (2 * w) n (fol w n y) = ds w (2 * n) y
  | 0, y => rfl
  | n + 1, y => by
    obtain ⟨h1, h2⟩ := fold_mod w n y hw
    rw [ds, h1, h2, ds_fol w hw n, Nat.mul_succ, ds, ds, Nat.div_div_eq_div_mul, ← pow2_two]
    omega
theorem fol_lt (w : Nat) (hw : 1 ≤ w) : ∀ n y, fol w n y < 2 ^ (2 * w * n)
  | 0, y => by simp [fol]
  | n + 1, y => by
    have hq : 0 < 2 ^ (2 * w) := Nat.pow_pos (by decide)
    have h2 := (fold_mod w n y hw).2
    have := fol_lt w hw n (y / 2 ^ (2 * w))
    rw [← h2] at this
    rw [Nat.mul_succ, Nat.pow_add]
    exact (Nat.div_lt_iff_lt_mul hq).mp this
/-- Each digit of w bits is at most c. -/
def dle (w c : Nat) : Nat → Nat → Prop
  | 0, y => y = 0
  | n + 1, y => y % 2 ^ w ≤ c ∧ dle w c n (y / 2 ^ w)
theorem fol_dle (w c : Nat) (hw : 1 ≤ w) (hc : 2 * (2 ^ w - 1) ≤ c) : ∀ n y, dle (2 * w) c n (fol w n y)
  | 0, y => rfl
  | n + 1, y => by
    have hp : 0 < 2 ^ w := Nat.pow_pos (by decide)
    obtain ⟨h1, h2⟩ := fold_mod w n y hw
    have ha := Nat.mod_lt y hp
    have hb := Nat.mod_lt (y / 2 ^ w) hp
    exact ⟨by rw [h1]; omega, by rw [h2]; exact fol_dle w c hw hc n _⟩
/-- The third step: small nibbles. -/
theorem nib_and : ∀ n y, dle 4 6 (2 * n) y → (y / 16 + y) &&& alt 4 n = fol 4 n y
  | 0, y, h => by have : y = 0 := h; subst this; rfl
  | n + 1, y, h => by
    rw [Nat.mul_succ] at h
    obtain ⟨ha, hb, hr⟩ := h
    simp only [Nat.reducePow] at ha hb hr
    have hr' : dle 4 6 (2 * n) (y / 256) := by rw [Nat.div_div_eq_div_mul] at hr; exact hr
    have h7 : y / 256 % 16 ≤ 6 := by
      cases n with
      | zero => have : y / 256 = 0 := hr'; omega
      | succ n => rw [Nat.mul_succ] at hr'; exact hr'.1
    rw [and_alt, gat, fol, ← nib_and n (y / 2 ^ (2 * 4)) (by simpa using hr'), and_alt]
    simp only [Nat.reducePow, Nat.reduceMul]
    have k1 : y = y % 16 + 16 * (y / 16 % 16) + 256 * (y / 256) := by omega
    have k2 : y / 16 = y / 16 % 16 + 16 * (y / 256) := by omega
    have k3 : y / 256 = y / 256 % 16 + 16 * (y / 256 / 16) := by omega
    have e2 : (y / 16 + y) % 16 = y % 16 + y / 16 % 16 := by omega
    have e1 : (y / 16 + y) / 256 = y / 256 / 16 + y / 256 := by
      generalize y / 256 / 16 = u at *
      generalize y / 256 % 16 = v at *
      generalize y / 256 = d at *
      generalize y / 16 % 16 = b at *
      generalize y / 16 = f at *
      generalize y % 16 = a at *
      subst k1 k2
      omega
    rw [e1, e2]
theorem fol4_dle : ∀ n y, dle 4 6 (2 * n) y → dle 8 12 n (fol 4 n y)
  | 0, y, h => rfl
  | n + 1, y, h => by
    rw [Nat.mul_succ] at h
    obtain ⟨ha, hb, hr⟩ := h
    obtain ⟨h1, h2⟩ := fold_mod 4 n y (by decide)
    simp only [Nat.reducePow, Nat.reduceMul] at ha hb hr h1 h2
    refine ⟨?_, ?_⟩
    · simp only [Nat.reducePow]; rw [h1]; omega
    · simp only [Nat.reducePow]; rw [h2]
      exact fol4_dle n _ (by rw [Nat.div_div_eq_div_mul] at hr; exact hr)
theorem ds_cnt : ∀ m y, ds 1 m y = cnt y.testBit m
  | 0, y => rfl
  | m + 1, y => by
    rw [ds, ds_cnt m, Nat.add_comm m 1, cnt_add]
    have h0 : cnt y.testBit 1 = y % 2 := by
      rw [cnt_succ, cnt_zero, Nat.testBit_zero]; rcases Nat.mod_two_eq_zero_or_one y with h | h <;> simp [h]
    rw [h0]
    congr 1
    refine cnt_congr (fun j _ => ?_)
    rw [Nat.testBit_div_two_pow, Nat.add_comm]
theorem sum8 {y : Nat} (h : dle 8 12 8 y) : y < 2 ^ 60 ∧ ((((y + y / 256) + (y + y / 256) / 65536) + ((y + y / 256) + (y + y / 256) / 65536) / 4294967296) % 128 = ds 8 8 y) := by
  obtain ⟨h0, h1, h2, h3, h4, h5, h6, h7, h8⟩ := h
  have h8 : _ = 0 := h8
  simp only [ds, Nat.reducePow] at *
  generalize hy1 : y / 256 = y1 at *
  generalize hy2 : y1 / 256 = y2 at *
  generalize hy3 : y2 / 256 = y3 at *
  generalize hy4 : y3 / 256 = y4 at *
  generalize hy5 : y4 / 256 = y5 at *
  generalize hy6 : y5 / 256 = y6 at *
  generalize hy7 : y6 / 256 = y7 at *
  have e7 : y7 = y7 % 256 := by omega
  generalize hc0 : y % 256 = c0 at *
  generalize hc1 : y1 % 256 = c1 at *
  generalize hc2 : y2 % 256 = c2 at *
  generalize hc3 : y3 % 256 = c3 at *
  generalize hc4 : y4 % 256 = c4 at *
  generalize hc5 : y5 % 256 = c5 at *
  generalize hc6 : y6 % 256 = c6 at *
  generalize hc7 : y7 % 256 = c7 at *
  have f7 : y7 = c7 := e7
  have f6 : y6 = c6 + 256 * c7 := by omega
  have f5 : y5 = c5 + 256 * c6 + 65536 * c7 := by omega
  have f4 : y4 = c4 + 256 * c5 + 65536 * c6 + 16777216 * c7 := by omega
  have f3 : y3 = c3 + 256 * y4 := by omega
  have f2 : y2 = c2 + 256 * y3 := by omega
  have f1 : y1 = c1 + 256 * y2 := by omega
  have f0 : y = c0 + 256 * y1 := by omega
  clear hy1 hy2 hy3 hy4 hy5 hy6 hy7 hc0 hc1 hc2 hc3 hc4 hc5 hc6 hc7 h8 e7
  have z1 : y + y1 = (c0 + c1) + 256 * (c1 + c2) + 65536 * (y2 + y3) := by omega
  have z2 : (y + y1) / 65536 = y2 + y3 := by omega
  rw [z2]
  have z3 : (y + y1 + (y2 + y3)) / 4294967296 = (y4 + y5) + (y6 + y7) := by omega
  rw [z3]
  constructor
  · omega
  · omega
theorem alt1 : alt 1 32 = 0x5555555555555555 := by rfl
theorem alt2 : alt 2 16 = 0x3333333333333333 := by rfl
theorem alt4 : alt 4 8 = 0x0f0f0f0f0f0f0f0f := by rfl
/-- What the library does to count bits, its last but one value. -/
def swar1 (x : BitVec 64) : BitVec 64 := ((x >>> 1) &&& 0x5555555555555555#64) + (x &&& 0x5555555555555555#64)
def swar2 (x : BitVec 64) : BitVec 64 := ((x >>> 2) &&& 0x3333333333333333#64) + (x &&& 0x3333333333333333#64)
def swar4 (x : BitVec 64) : BitVec 64 := ((x >>> 4) + x) &&& 0x0f0f0f0f0f0f0f0f#64
theorem swar1_N (x : BitVec 64) : (swar1 x).toNat = fol 1 32 x.toNat := by
  have h := fol_lt 1 (by decide) 32 x.toNat
  have e := gat_fol 1 32 x.toNat
  have k := alt1
  rw [swar1, BitVec.toNat_add, BitVec.toNat_and, BitVec.toNat_and, BitVec.toNat_ushiftRight, Nat.shiftRight_eq_div_pow, show (0x5555555555555555#64).toNat = alt 1 32 from alt1.symm, and_alt, and_alt, e]
  exact Nat.mod_eq_of_lt h
theorem swar2_N (x : BitVec 64) : (swar2 x).toNat = fol 2 16 x.toNat := by
  have h := fol_lt 2 (by decide) 16 x.toNat
  have e := gat_fol 2 16 x.toNat
  rw [swar2, BitVec.toNat_add, BitVec.toNat_and, BitVec.toNat_and, BitVec.toNat_ushiftRight, Nat.shiftRight_eq_div_pow, show (0x3333333333333333#64).toNat = alt 2 16 from alt2.symm, and_alt, and_alt, e]
  exact Nat.mod_eq_of_lt h
theorem dle_lt (w c : Nat) : ∀ n y, dle w c n y → y < 2 ^ (w * n)
  | 0, y, h => by have : y = 0 := h; subst this; simp
  | n + 1, y, h => by
    have hp : 0 < 2 ^ w := Nat.pow_pos (by decide)
    rw [Nat.mul_succ, Nat.pow_add]
    exact (Nat.div_lt_iff_lt_mul hp).mp (dle_lt w c n _ h.2)
theorem swar4_N (x : BitVec 64) (h : dle 4 6 16 x.toNat) : (swar4 x).toNat = fol 4 8 x.toNat := by
  have hn := nib_and 8 x.toNat h
  have htop : x.toNat / 16 + x.toNat < 2 ^ 64 := by
    obtain ⟨_, _, _, _, _, _, _, _, _, _, _, _, _, _, _, h15, hz⟩ := h
    have hz : _ = 0 := hz
    simp only [Nat.reducePow, Nat.div_div_eq_div_mul, Nat.reduceMul] at h15 hz ⊢
    omega
  rw [swar4, BitVec.toNat_and, BitVec.toNat_add, BitVec.toNat_ushiftRight, Nat.shiftRight_eq_div_pow, show (0x0f0f0f0f0f0f0f0f#64).toNat = alt 4 8 from alt4.symm, Nat.mod_eq_of_lt (by simpa using htop)]
  exact hn
theorem swar_popc (x y z u v : BitVec 64) (hy : swar4 (swar2 (swar1 x)) = y) (hz : y + (y >>> 8) = z) (hu : z + (z >>> 16) = u) (hv : u + (u >>> 32) = v) : v.toNat % 128 = popc x ∧ v.toNat < 2 ^ 62 := by
  have h2 : dle 4 6 16 (swar2 (swar1 x)).toNat := by rw [swar2_N]; exact fol_dle 2 6 (by decide) (by decide) 16 _
  have h4 : y.toNat = fol 4 8 (swar2 (swar1 x)).toNat := by rw [← hy, swar4_N _ h2]
  have h8 : dle 8 12 8 y.toNat := by rw [h4]; exact fol4_dle 8 _ h2
  obtain ⟨hl, hs⟩ := sum8 h8
  have hd : ds 8 8 y.toNat = popc x := by
    rw [h4, ds_fol 4 (by decide) 8, swar2_N, ds_fol 2 (by decide) 16, swar1_N, ds_fol 1 (by decide) 32, ds_cnt]
    rfl
  have ez : z.toNat = y.toNat + y.toNat / 256 := by
    rw [← hz, BitVec.toNat_add, BitVec.toNat_ushiftRight, Nat.shiftRight_eq_div_pow]; omega
  have eu : u.toNat = z.toNat + z.toNat / 65536 := by
    rw [← hu, BitVec.toNat_add, BitVec.toNat_ushiftRight, Nat.shiftRight_eq_div_pow]; omega
  have ev : v.toNat = u.toNat + u.toNat / 4294967296 := by
    rw [← hv, BitVec.toNat_add, BitVec.toNat_ushiftRight, Nat.shiftRight_eq_div_pow]; omega
  rw [← hd, ← hs, ev, eu, ez]
  refine ⟨rfl, ?_⟩
  omega
theorem ctz_first (x : Nat) (h0 : x ≠ 0) (h : x < 2 ^ 64) : firstN x.testBit 64 = Go.Lib.ctz 64 x := by
  obtain ⟨m, hm, hk⟩ := Go.Lib.ctzFrom_spec 64 x (by omega) h
  have e : Go.Lib.ctz 64 x = Go.Lib.ctzFrom 64 x := by simp [Go.Lib.ctz, h0]
  rw [e]
  generalize Go.Lib.ctzFrom 64 x = c at *
  refine firstN_is hk ?_ (fun j hj => ?_)
  · rw [hm, Nat.testBit_two_pow_mul]; simp
  · rw [hm, Nat.testBit_two_pow_mul]
    have : ¬ c ≤ j := by omega
    simp [this]
end Go.Dp
