/-
  SHA-256 told on lists, plain.
  Conditions: none.
-/
import Derived.Test.YtajlpalgcdiplaaS0
set_option linter.unusedVariables false
set_option linter.unusedSimpArgs false
namespace Go.Dp
namespace Sha
def rr (x : BitVec 32) (n : Nat) : BitVec 32 := (x >>> n) ||| (x <<< (32 - n))
def s0 (x : BitVec 32) : BitVec 32 := rr x 7 ^^^ rr x 18 ^^^ (x >>> 3)
def s1 (x : BitVec 32) : BitVec 32 := rr x 17 ^^^ rr x 19 ^^^ (x >>> 10)
def wstep (ws : List (BitVec 32)) : BitVec 32 := s1 (ws.getD (ws.length - 2) 0) + ws.getD (ws.length - 7) 0 + s0 (ws.getD (ws.length - 15) 0) + ws.getD (ws.length - 16) 0
def chunk (b : List (BitVec 8)) (j : Nat) : BitVec 32 := num32 ((b.drop (4 * j)).take 4)
def first (b : List (BitVec 8)) : List (BitVec 32) := (List.range 16).map (chunk b)
def ext : Nat → List (BitVec 32) → List (BitVec 32)
  | 0, ws => ws
  | n + 1, ws => let w := ext n ws; w ++ [wstep w]
def words (b : List (BitVec 8)) : List (BitVec 32) := ext 48 (first b)
structure R8 where
  a : BitVec 32
  b : BitVec 32
  c : BitVec 32
  d : BitVec 32
  e : BitVec 32
  f : BitVec 32
  g : BitVec 32
  h : BitVec 32
def R8.l (x : R8) : List (BitVec 32) := [x.a, x.b, x.c, x.d, x.e, x.f, x.g, x.h]
def one (x : R8) (k w : BitVec 32) : BitVec 32 := x.h + (rr x.e 6 ^^^ rr x.e 11 ^^^ rr x.e 25) + ((x.e &&& x.f) ||| (~~~x.e &&& x.g)) + k + w
def two (x : R8) : BitVec 32 := (rr x.a 2 ^^^ rr x.a 13 ^^^ rr x.a 22) + ((x.a &&& x.b) ||| (x.a &&& x.c) ||| (x.b &&& x.c))
def rnd (k w : BitVec 32) (x : R8) : R8 := ⟨one x k w + two x, x.a, x.b, x.c, x.d + one x k w, x.e, x.f, x.g⟩
def K : List (BitVec 32) := [0x428a2f98, 0x71374491, 0xb5c0fbcf, 0xe9b5dba5, 0x3956c25b, 0x59f111f1, 0x923f82a4, 0xab1c5ed5,
  0xd807aa98, 0x12835b01, 0x243185be, 0x550c7dc3, 0x72be5d74, 0x80deb1fe, 0x9bdc06a7, 0xc19bf174,
  0xe49b69c1, 0xefbe4786, 0x0fc19dc6, 0x240ca1cc, 0x2de92c6f, 0x4a7484aa, 0x5cb0a9dc, 0x76f988da,
  0x983e5152, 0xa831c66d, 0xb00327c8, 0xbf597fc7, 0xc6e00bf3, 0xd5a79147, 0x06ca6351, 0x14292967,
  0x27b70a85, 0x2e1b2138, 0x4d2c6dfc, 0x53380d13, 0x650a7354, 0x766a0abb, 0x81c2c92e, 0x92722c85,
  0xa2bfe8a1, 0xa81a664b, 0xc24b8b70, 0xc76c51a3, 0xd192e819, 0xd6990624, 0xf40e3585, 0x106aa070,
  0x19a4c116, 0x1e376c08, 0x2748774c, 0x34b0bcb5, 0x391c0cb3, 0x4ed8aa4a, 0x5b9cca4f, 0x682e6ff3,
  0x748f82ee, 0x78a5636f, 0x84c87814, 0x8cc70208, 0x90befffa, 0xa4506ceb, 0xbef9a3f7, 0xc67178f2]
def H0 : R8 := ⟨0x6a09e667, 0xbb67ae85, 0x3c6ef372, 0xa54ff53a, 0x510e527f, 0x9b05688c, 0x1f83d9ab, 0x5be0cd19⟩
def rds (ws : List (BitVec 32)) : Nat → R8 → R8
  | 0, x => x
  | i + 1, x => rnd (K.getD i 0) (ws.getD i 0) (rds ws i x)
def R8.add (s x : R8) : R8 := ⟨s.a + x.a, s.b + x.b, s.c + x.c, s.d + x.d, s.e + x.e, s.f + x.f, s.g + x.g, s.h + x.h⟩
def comp (s : R8) (b : List (BitVec 8)) : R8 := s.add (rds (words b) 64 s)
def st (t : List (BitVec 8)) : Nat → R8
  | 0 => H0
  | j + 1 => comp (st t j) ((t.drop (64 * j)).take 64)
def be8 (n : BitVec 64) : List (BitVec 8) := [(n >>> 56).setWidth 8, (n >>> 48).setWidth 8, (n >>> 40).setWidth 8, (n >>> 32).setWidth 8, (n >>> 24).setWidth 8, (n >>> 16).setWidth 8, (n >>> 8).setWidth 8, n.setWidth 8]
def gap (n : Nat) : Nat := (119 - n % 64) % 64
def pad (b : List (BitVec 8)) : List (BitVec 8) := b ++ [0x80#8] ++ List.replicate (gap b.length) 0#8 ++ be8 (BitVec.ofNat 64 b.length <<< 3)
def out (x : R8) : List (BitVec 8) := x.l.flatMap be4
def sha (b : List (BitVec 8)) : List (BitVec 8) := out (st (pad b) ((pad b).length / 64))
theorem K_len : K.length = 64 := rfl
theorem pad_len (b : List (BitVec 8)) : (pad b).length = b.length + 9 + gap b.length := by simp [pad, be8]; omega
theorem pad_mod (b : List (BitVec 8)) : (pad b).length % 64 = 0 := by rw [pad_len, gap]; omega
theorem out_len (x : R8) : (out x).length = 32 := by simp [out, R8.l, be4]
theorem sha_len (b : List (BitVec 8)) : (sha b).length = 32 := out_len _
theorem ext_len : ∀ (n : Nat) (ws : List (BitVec 32)), (ext n ws).length = ws.length + n
  | 0, ws => rfl
  | n + 1, ws => by simp only [ext, List.length_append, List.length_singleton]; rw [ext_len n ws]; omega
theorem first_len (b : List (BitVec 8)) : (first b).length = 16 := by simp [first]
theorem words_len (b : List (BitVec 8)) : (words b).length = 64 := by rw [words, ext_len, first_len]
theorem ext_take : ∀ (n m : Nat) (ws : List (BitVec 32)), m ≤ n → (ext n ws).take (ws.length + m) = ext m ws
  | 0, m, ws, h => by
    have : m = 0 := by omega
    subst this
    simp [ext]
  | n + 1, m, ws, h => by
    by_cases hm : m = n + 1
    · subst hm
      rw [List.take_of_length_le]
      rw [ext_len]; omega
    · simp only [ext]
      rw [List.take_append_of_le_length (by rw [ext_len]; omega), ext_take n m ws (by omega)]
theorem words_take (b : List (BitVec 8)) (i : Nat) (h1 : 16 ≤ i) (h2 : i ≤ 64) : (words b).take i = ext (i - 16) (first b) := by
  have := ext_take 48 (i - 16) (first b) (by omega)
  rw [first_len, show 16 + (i - 16) = i from by omega] at this
  exact this
theorem words_take_first (b : List (BitVec 8)) : (words b).take 16 = first b := words_take b 16 (by omega) (by omega)
theorem words_lo (b : List (BitVec 8)) (i : Nat) (h : i < 16) : (words b).getD i 0 = chunk b i := by
  have h1 : (words b).take 16 = first b := words_take b 16 (by omega) (by omega)
  have : ((words b).take 16).getD i 0 = chunk b i := by
    rw [h1]; simp [first, List.getD_eq_getElem?_getD, h]
  rw [← this]
  simp [List.getD_eq_getElem?_getD, List.getElem?_take, h]
theorem words_hi (b : List (BitVec 8)) (i : Nat) (h1 : 16 ≤ i) (h2 : i < 64) : (words b).getD i 0 = s1 ((words b).getD (i - 2) 0) + (words b).getD (i - 7) 0 + s0 ((words b).getD (i - 15) 0) + (words b).getD (i - 16) 0 := by
  have e := words_take b (i + 1) (by omega) (by omega)
  rw [show i + 1 - 16 = (i - 16) + 1 from by omega] at e
  simp only [ext] at e
  have hl : (ext (i - 16) (first b)).length = i := by rw [ext_len, first_len]; omega
  rw [← words_take b i h1 (by omega)] at e hl
  have e2 := congrArg (fun l => l.getD i 0) e
  have hg : ∀ j, j < i → ((words b).take i).getD j 0 = (words b).getD j 0 := fun j hj => by simp [List.getD_eq_getElem?_getD, List.getElem?_take, hj]
  simp only [wstep, hl] at e2
  rw [hg _ (by omega), hg _ (by omega), hg _ (by omega), hg _ (by omega)] at e2
  have e3 : ((words b).take (i + 1)).getD i 0 = (words b).getD i 0 := by simp [List.getD_eq_getElem?_getD, List.getElem?_take]
  rw [e3] at e2
  rw [e2]
  rw [List.getD_eq_getElem?_getD, List.getElem?_append_right (by omega), hl]
  simp
theorem most (a b c : BitVec 32) : (a &&& b) ^^^ (a &&& c) ^^^ (b &&& c) = (a &&& b) ||| (a &&& c) ||| (b &&& c) := by
  apply BitVec.eq_of_getLsbD_eq
  intro i hi
  simp only [BitVec.getLsbD_xor, BitVec.getLsbD_and, BitVec.getLsbD_or]
  cases a.getLsbD i <;> cases b.getLsbD i <;> cases c.getLsbD i <;> rfl
theorem choice (e f g : BitVec 32) : (e &&& f) ^^^ (~~~e &&& g) = (e &&& f) ||| (~~~e &&& g) := by
  apply BitVec.eq_of_getLsbD_eq
  intro i hi
  simp only [BitVec.getLsbD_xor, BitVec.getLsbD_and, BitVec.getLsbD_or, BitVec.getLsbD_not]
  cases e.getLsbD i <;> cases f.getLsbD i <;> cases g.getLsbD i <;> simp [hi]
theorem abc : sha [97#8, 98#8, 99#8] = [0xba#8, 0x78#8, 0x16#8, 0xbf#8, 0x8f#8, 0x01#8, 0xcf#8, 0xea#8, 0x41#8, 0x41#8, 0x40#8, 0xde#8, 0x5d#8, 0xae#8, 0x22#8, 0x23#8, 0xb0#8, 0x03#8, 0x61#8, 0xa3#8, 0x96#8, 0x17#8, 0x7a#8, 0x9c#8, 0xb4#8, 0x10#8, 0xff#8, 0x61#8, 0xf2#8, 0x00#8, 0x15#8, 0xad#8] := by decide +kernel
end Sha
end Go.Dp
