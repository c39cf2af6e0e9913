/-
  Rows of bits: places, first, count, xor, packed and unpacked; plain.
  Calls of the atomic operations on a cell of a box.
  Pointers against nil, closures, calls of what changes a box and its row.
  The rows of the types' table that the walks use.
  vec.Vec: a row of bits as data; New, within, Len, Has, Set, Of, walked.
  vec.List, Count, walked; bits.OnesCount64.
  Rows of bits in any number.
  vec.Bytes, First, walked; bits.TrailingZeros64 with its table.
  vec.Same, walked; slices.Equal of words.
  vec.Copy, Xor, walked.
  downpourlaw5: awake, VecSets, VecOrder, walked.
  vec: rows that there aren't; vec.From; downpourlaw5: first, VecNil, VecTwice, walked.
  The reference's rows of bits: Bits, List, First, Pack, Unpack, Xor; downpourlaw5: same, Like, walked.
  The reference's rows of bits: Xor, Unpack, walked.
  append onto a slice without room.
  Slices of structs of two cells: read, written out, appended to; pieces put together for good.
  Conditions: those that stand in each theorem.
-/
import Derived.Test.YtlmmnnhbnbakgaaDoorQElimReads0
import Derived.Laws.LoneSync
import Derived.Test.YtlmmnnhbnbakgaaDoorProg
import Derived.KernelRfl
import Derived.Lib.TrailingZeros
set_option linter.unusedVariables false
set_option linter.unusedSimpArgs false
namespace Go.Dp
/-- Is this bit set? -/
abbrev at_ (l : List Bool) (j : Nat) : Bool := l.getD j false
/-- Row of n bits, of which these places are set. -/
def setI (b : List Bool) (i : Int) : List Bool := if 0 ≤ i ∧ i < b.length then b.set i.toNat true else b
def bitsOf (n : Nat) (l : List Int) : List Bool := l.foldl setI (List.replicate n false)
theorem setI_len (b : List Bool) (i : Int) : (setI b i).length = b.length := by unfold setI; split <;> simp
theorem foldI_len (l : List Int) : ∀ b : List Bool, (l.foldl setI b).length = b.length := by
  induction l with
  | nil => exact fun _ => rfl
  | cons i l ih => intro b; rw [List.foldl_cons, ih, setI_len]
theorem bitsOf_len (n : Nat) (l : List Int) : (bitsOf n l).length = n := by rw [bitsOf, foldI_len, List.length_replicate]
theorem rep_at (n j : Nat) : (List.replicate n false).getD j false = false := by
  by_cases h : j < n <;> simp [List.getD_eq_getElem?_getD, h]
theorem bitsOf_snoc (n : Nat) (l : List Int) (i : Int) : bitsOf n (l ++ [i]) = setI (bitsOf n l) i := by simp [bitsOf]
/-- The places that are set. -/
def listV (l : List Bool) : List Int := (placesN (at_ l) l.length).map Int.ofNat
theorem listV_len (l : List Bool) : (listV l).length = cnt (at_ l) l.length := by rw [listV, List.length_map, places_len]
/-- The first place, -1 if there is none. -/
def firstV (l : List Bool) : Int := if firstN (at_ l) l.length < l.length then firstN (at_ l) l.length else -1
theorem firstV_is {l : List Bool} {i : Nat} (hi : i < l.length) (h1 : at_ l i = true) (h : ∀ j, j < i → at_ l j = false) : firstV l = i := by
  rw [firstV, firstN_is hi h1 h, if_pos hi]
theorem firstV_none {l : List Bool} (h : ∀ j, j < l.length → at_ l j = false) : firstV l = -1 := by
  rw [firstV, firstN_none h, if_neg (Nat.lt_irrefl _)]
def countV (l : List Bool) : Nat := cnt (at_ l) l.length
/-- Words tell the count. -/
theorem count_words (l : List Bool) (k : Nat) : cnt (at_ l) (64 * (k + 1)) = cnt (at_ l) (64 * k) + popc (wordOf l k) := by
  rw [Nat.mul_succ, cnt_add]
  congr 1
  exact cnt_congr (fun j hj => (wordOf_bit l k j hj).symm)
theorem count_all (l : List Bool) : cnt (at_ l) (64 * nw l.length) = countV l := by
  have hle : l.length ≤ 64 * nw l.length := by unfold nw; omega
  obtain ⟨c, hc⟩ := Nat.le.dest hle
  rw [← hc, cnt_add, countV, cnt_none (m := c) (fun j _ => getD_out (by omega))]
  rfl
theorem word_eq_zero {l : List Bool} {k : Nat} (h : wordOf l k = 0#64) : ∀ j, 64 * k ≤ j → j < 64 * (k + 1) → at_ l j = false := by
  intro j h1 h2
  have := wordOf_bit l k (j - 64 * k) (by omega)
  rw [h, show 64 * k + (j - 64 * k) = j by omega] at this
  simpa using this.symm
/-- The first word that is not nought tells the first place. -/
theorem first_word {l : List Bool} {k : Nat} (h0 : wordOf l k ≠ 0#64) (h : ∀ j, j < 64 * k → at_ l j = false) : firstV l = 64 * (k : Int) + Go.Lib.ctz 64 (wordOf l k).toNat ∧ Go.Lib.ctz 64 (wordOf l k).toNat < 64 := by
  have hx0 : (wordOf l k).toNat ≠ 0 := fun e => h0 (BitVec.eq_of_toNat_eq (by simpa using e))
  have hc := ctz_first _ hx0 (wordOf l k).isLt
  have hlt := (Go.Lib.lowest_bit 64 _ hx0 (wordOf l k).isLt).2
  rw [← hc] at hlt ⊢
  refine ⟨?_, hlt⟩
  have h1 : (wordOf l k).getLsbD (firstN (wordOf l k).toNat.testBit 64) = true := firstN_at _ 64 hlt
  rw [wordOf_bit _ _ _ hlt] at h1
  have hin : 64 * k + firstN (wordOf l k).toNat.testBit 64 < l.length := by
    rcases Nat.lt_or_ge (64 * k + firstN (wordOf l k).toNat.testBit 64) l.length with q | q
    · exact q
    · rw [getD_out q] at h1; cases h1
  rw [firstV_is hin h1 (fun j hj => ?_)]
  · push_cast; rfl
  · by_cases h2 : j < 64 * k
    · exact h j h2
    · have h3 := firstN_lo (wordOf l k).toNat.testBit 64 (j - 64 * k) (by omega)
      have h4 := wordOf_bit l k (j - 64 * k) (by omega)
      rw [show 64 * k + (j - 64 * k) = j by omega] at h4
      rw [at_, ← h4]; exact h3
/-- The first i of these bits, of n. -/
def maskV (n : Nat) (f : Nat → Bool) (i : Nat) : List Bool := (List.range n).map (fun j => decide (j < i) && f j)
theorem maskV_len (n : Nat) (f : Nat → Bool) (i : Nat) : (maskV n f i).length = n := by simp [maskV]
theorem maskV_at (n : Nat) (f : Nat → Bool) (i j : Nat) : (maskV n f i).getD j false = (decide (j < n) && (decide (j < i) && f j)) := by
  simp only [maskV, List.getD_eq_getElem?_getD, List.getElem?_map]
  by_cases h : j < n
  · simp [h]
  · simp [h]
theorem maskV_zero (n : Nat) (f : Nat → Bool) : maskV n f 0 = List.replicate n false := by
  refine bits_ext (by simp [maskV]) (fun j _ => ?_)
  rw [maskV_at, rep_at]; simp
theorem maskV_on {n : Nat} {f : Nat → Bool} {i : Nat} (hi : i < n) (h : f i = true) : maskV n f (i + 1) = (maskV n f i).set i true := by
  refine bits_ext (by simp [maskV]) (fun j _ => ?_)
  rw [maskV_at, atD_set, maskV_at, maskV_len]
  by_cases hj : i = j
  · subst hj; simp [hi, h]
  · rw [if_neg (fun q => hj q.1)]
    by_cases h2 : j < i
    · simp [h2, show j < i + 1 by omega]
    · simp [h2, show ¬ j < i + 1 by omega]
theorem maskV_off {n : Nat} {f : Nat → Bool} {i : Nat} (h : i < n → f i = false) : maskV n f (i + 1) = maskV n f i := by
  refine bits_ext (by simp [maskV]) (fun j _ => ?_)
  rw [maskV_at, maskV_at]
  by_cases hj : j = i
  · subst hj
    by_cases hn : j < n
    · simp [h hn]
    · simp [hn]
  · by_cases h2 : j < i
    · simp [h2, show j < i + 1 by omega]
    · simp [h2, show ¬ j < i + 1 by omega]
theorem maskV_all {l : List Bool} {i : Nat} (hi : l.length ≤ i) : maskV l.length (at_ l) i = l := by
  refine bits_ext (by simp [maskV]) (fun j hj => ?_)
  rw [maskV_len] at hj
  rw [maskV_at]; simp [hj, show j < i by omega]
theorem one_shl_bit8 (m j : Nat) (hj : j < 8) : (1#8 <<< m).getLsbD j = decide (j = m) := by
  rw [BitVec.getLsbD_shiftLeft]
  by_cases h : j = m
  · subst h; simp [hj]
  · by_cases h2 : j < m
    · simp [h, h2]
    · have : (1#8).getLsbD (j - m) = false := by
        rw [BitVec.getLsbD_one]; simp; omega
      simp [h, this]
theorem byte_on (l : List Bool) (i : Nat) (hi : i < l.length) : byteOf (l.set i true) (i / 8) = byteOf l (i / 8) ||| (1#8 <<< (i % 8)) := by
  refine byte_ext (fun j hj => ?_)
  rw [byteOf_bit _ _ _ hj, BitVec.getLsbD_or, one_shl_bit8 _ _ hj, byteOf_bit _ _ _ hj, atD_set]
  have hd : i = 8 * (i / 8) + i % 8 := by omega
  by_cases h : j = i % 8
  · subst h
    rw [← hd]; simp [hi]
  · have : ¬ i = 8 * (i / 8) + j := by omega
    simp [h, this]
theorem byte_else (l : List Bool) (i k : Nat) (b : Bool) (h : k ≠ i / 8) : byteOf (l.set i b) k = byteOf l k := by
  refine byte_ext (fun j hj => ?_)
  rw [byteOf_bit _ _ _ hj, byteOf_bit _ _ _ hj, atD_set, if_neg (by omega)]
theorem bytesV_on (l : List Bool) (i : Nat) (hi : i < l.length) : bytesV (l.set i true) = (bytesV l).set (i / 8) (byteOf l (i / 8) ||| (1#8 <<< (i % 8))) := by
  rw [← byte_on _ _ hi]
  refine List.ext_getElem ?_ (fun k h1 h2 => ?_)
  · simp [bytesV_len]
  · rw [bytesV_at, List.getElem_set]
    by_cases h : i / 8 = k
    · rw [if_pos h, h]
    · rw [if_neg h, bytesV_at, byte_else _ _ _ _ (fun q => h q.symm)]
theorem bytesV_zero (n : Nat) : bytesV (List.replicate n false) = List.replicate (nb n) 0#8 := by
  refine List.ext_getElem ?_ (fun k h1 h2 => ?_)
  · simp [bytesV_len]
  · rw [bytesV_at, List.getElem_replicate]
    refine byte_ext (fun j hj => ?_)
    rw [byteOf_bit _ _ _ hj, rep_at]; simp
/-- A bit of bytes. -/
def rbit (r : List (BitVec 8)) (i : Nat) : Bool := (r.getD (i / 8) 0#8).getLsbD (i % 8)
theorem rbit_val (r : List (BitVec 8)) (i : Nat) (h : i / 8 < r.length) : ((r[i / 8] >>> (i % 8)) &&& 1#8).toNat = (rbit r i).toNat := by
  have hb : ((r[i / 8] >>> (i % 8)) &&& 1#8) = if rbit r i then 1#8 else 0#8 := by
    refine byte_ext (fun j hj => ?_)
    rw [BitVec.getLsbD_and, BitVec.getLsbD_ushiftRight, BitVec.getLsbD_one]
    have e : rbit r i = r[i / 8].getLsbD (i % 8) := by simp [rbit, List.getD_eq_getElem?_getD, h]
    by_cases hj0 : j = 0
    · subst hj0
      rw [Nat.add_zero, ← e]
      cases rbit r i <;> simp
    · cases rbit r i <;> simp [hj0]
  rw [hb]; cases rbit r i <;> rfl
theorem rbit_bytes (l : List Bool) (i : Nat) (hi : i < 8 * nb l.length) : rbit (bytesV l) i = at_ l i := by
  have hk : i / 8 < (bytesV l).length := by rw [bytesV_len]; omega
  have e : (bytesV l).getD (i / 8) 0#8 = byteOf l (i / 8) := by
    rw [List.getD_eq_getElem?_getD, List.getElem?_eq_getElem hk, Option.getD_some, bytesV_at]
  rw [rbit, e, byteOf_bit _ _ _ (by omega), show 8 * (i / 8) + i % 8 = i by omega]
/-- What bytes say of a row of n bits: nothing, if they have another length, or a bit beyond. -/
def unpV (n : Nat) (r : List (BitVec 8)) : Option (List Bool) := if r.length = nb n then (if (List.range (8 * nb n)).any (fun i => decide (n ≤ i) && rbit r i) then none else some (maskV n (rbit r) n)) else none
theorem unpV_bytes (l : List Bool) : unpV l.length (bytesV l) = some l := by
  rw [unpV, if_pos (bytesV_len l), if_neg]
  · congr 1
    refine bits_ext (maskV_len _ _ _) (fun j hj => ?_)
    rw [maskV_len] at hj
    rw [maskV_at, rbit_bytes _ _ (by unfold nb; omega)]
    simp [hj]
  · rw [List.any_eq_true]
    rintro ⟨i, hi, h⟩
    rw [Bool.and_eq_true, decide_eq_true_eq, rbit_bytes _ _ (by simpa using hi)] at h
    rw [at_, getD_out h.1] at h
    cases h.2
theorem unpV_ok {n : Nat} {r : List (BitVec 8)} (hl : r.length = nb n) (h : ∀ i, n ≤ i → i < 8 * nb n → rbit r i = false) : unpV n r = some (maskV n (rbit r) n) := by
  rw [unpV, if_pos hl, if_neg]
  rw [List.any_eq_true]
  rintro ⟨i, hi, q⟩
  rw [Bool.and_eq_true, decide_eq_true_eq] at q
  rw [h i q.1 (by simpa using hi)] at q
  cases q.2
theorem maskV_past {n : Nat} {f : Nat → Bool} {i : Nat} (h : n ≤ i) : maskV n f i = maskV n f n := by
  refine bits_ext (by simp [maskV]) (fun j hj => ?_)
  rw [maskV_len] at hj
  rw [maskV_at, maskV_at]; simp [hj, show j < i by omega]
theorem nw_nb {n k : Nat} (h : k < nb n) : k * 8 / 64 < nw n := by unfold nb at h; unfold nw; omega
end Go.Dp

set_option linter.unusedVariables false
namespace Go.Dp
open Go.RowKit
/-- A function without a body, whose answer the model gives. -/
structure XFn (P : Program) (f : FuncId) (g : Array Value → Sem Value) : Prop where
  h : (P.funcs[f]?).map (fun fn => (fn.name == "runtime.NumGoroutine", fn.body.isNone, (Extern.findNext fn).isNone)) = some (false, true, true)
  e : (P.funcs[f]?).bind (fun fn => Extern.find fn) = some g
theorem XFn.of {P : Program} {f : FuncId} {g : Array Value → Sem Value} (x : XFn P f g) : ∃ fn, P.funcs[f]? = some fn ∧ (fn.name == "runtime.NumGoroutine") = false ∧ fn.body.isNone = true ∧ Extern.findNext fn = none ∧ Extern.find fn = some g := by
  have h := x.h
  have he := x.e
  cases hf : P.funcs[f]? with
  | none => simp [hf] at h
  | some fn =>
    simp only [hf, Option.map_some, Option.some.injEq, Prod.mk.injEq] at h
    simp only [hf, Option.bind_some] at he
    exact ⟨fn, rfl, h.1, h.2.1, by simpa using h.2.2, he⟩
section
variable {P : Program} {n : Nat} {H : List Hl} {e : Ev} {C : Value → List Hl → Prop} {ty : TypeId}
variable {f : FuncId} {xs : List Operand} {ats : Array TypeId} {b i : Nat} {T : TypeId} {cs : List Value} {H' : List Hl} {k : IntKind} {p q : Int}
theorem o1_xval {args : List Value} (v : Value) (hxs : opds e xs = some args) (hr : ∀ a w, Ok1 n e H a w → (callFunc f args.toArray).run P w = .ok (.value v) w) (h : C v H) : O1 P (.call ⟨.value (.func f), xs.toArray, ats⟩) ty n e H C :=
  o1_val v (fun a w ho => by
    have hargs := ho.ev.evals hxs
    simp [execOp, resolve, invoke, Deferred.ofValue, Act.eval, hargs, hr a w ho]) h
theorem o1_xput {args : List Value} {v r : Value} (hxs : opds e xs = some args) (hi : i < cs.length) [s : SBox H b T cs H'] (hr : ∀ a w, Ok1 n e H a w → w.cell? ⟨b, i, none⟩ = some cs[i] → w.frozen? ⟨b, i, none⟩ = false → (callFunc f args.toArray).run P w = .ok (.value r) (w.setCell ⟨b, i, none⟩ v))
    (h : C r (.box b T (cs.set i v) :: H')) : O1 P (.call ⟨.value (.func f), xs.toArray, ats⟩) ty n e H C := by
  obtain ⟨H2, u1, u2⟩ := s.s.upd (.box b T (cs.set i v))
  have k0 : O1 P (.call ⟨.value (.func f), xs.toArray, ats⟩) ty n e H (fun v' K => v' = r ∧ K = H2) := o1_step fun a w ho => by
    have hargs := ho.ev.evals hxs
    have hc : w.cell? ⟨b, i, none⟩ = some cs[i] := by rw [ho.sat.cell s.s i]; simp [hi]
    refine ⟨r, w.setCell ⟨b, i, none⟩ v, ?_, H2, ⟨rfl, rfl⟩, (Ext.refl w).setCell _ _, ho.sat.set_ i v u1⟩
    simp [execOp, resolve, invoke, Deferred.ofValue, Act.eval, hargs, hr a w ho hc (ho.sat.free s.s i)]
  exact k0.post fun v' K hK => ⟨_, hK.1 ▸ h, hK.2 ▸ u2⟩
/-- The cell is added to. -/
theorem o1_xadd {r : Int} (x : XFn P f (Extern.Atomic.update (Op.intArith .add) k true)) (hxs : opds e xs = some [.pointer (some ⟨b, i, none⟩), .int k q]) [s : SBox H b T cs H'] (hv : cs[i]? = some (.int k p)) (hr : k.wrap (p + q) = r) (h : C (.int k r) (.box b T (cs.set i (.int k r)) :: H')) : O1 P (.call ⟨.value (.func f), xs.toArray, ats⟩) ty n e H C := by
  obtain ⟨hi, hv⟩ := List.getElem?_eq_some_iff.mp hv
  exact o1_xput hxs hi (fun a w ho hc hz => by
    obtain ⟨fn, h1, h2, h3, h4, h5⟩ := x.of
    rw [hv] at hc
    exact run_call_add h1 h2 h3 h4 k h5 hc hz (by simp [Op.intArith, hr])) h
end
end Go.Dp

set_option linter.unusedVariables false
namespace Go.Dp
open Go.RowKit
theorem sat.cl {w : World} {H H' : List Hl} {b i : Nat} {T : TypeId} {cs : List Value} {v : Value} [s : SBox H b T cs H'] (h : sat w (stars H)) (hv : cs[i]? = some v) : w.cell? ⟨b, i, none⟩ = some v := by
  rw [h.cell s.s i]; exact hv
theorem cl_box {H H' : List Hl} {b i : Nat} {T : TypeId} {cs : List Value} {v : Value} [s : SBox H b T cs H'] (hv : cs[i]? = some v) : Cl (stars H) ⟨b, i, none⟩ v := ⟨fun w hw => sat.cl hw hv⟩
theorem cl_up {A : Hp → Prop} {H H' : List Hl} {p : Addr} {v : Value} [s : SAny H A H'] (h : Cl A p v) : Cl (stars H) p v := ⟨fun w hw => h.cell w (sel_sat s.s w hw)⟩
section
variable {P : Program} {n : Nat} {H : List Hl} {e : Ev} {C : Value → List Hl → Prop} {ty t T : TypeId} {x y : Operand} {p q : Option Addr}
theorem pointee_of {E : TypeId} (h : TPtr P T E) : P.underlying T = some (.pointer (P.pointee T)) := by
  have hu := h.u
  simp [Program.pointee, hu]
theorem o1_peql {E : TypeId} [ht : TPtr P T E] (hx : opd e x = some (.pointer p)) (hy : opd e y = some (.pointer none)) (h : C (.bool p.isNone) H) : O1 P (.binOp .eql T x y t) ty n e H C :=
  o1_val _ (fun a w ho => by
    have h1 := run_eql_pointer_nil (P := P) w T p (pointee_of ht)
    simp only [execOp, ho.ev.eval hx, ho.ev.eval hy, eqGuard_at_pointer, Sem.run_bind, Sem.run_pure, Result.andThen_ok, h1]) h
theorem o1_pneq {E : TypeId} [ht : TPtr P T E] (hx : opd e x = some (.pointer p)) (hy : opd e y = some (.pointer none)) (h : C (.bool (!p.isNone)) H) : O1 P (.binOp .neq T x y t) ty n e H C :=
  o1_val _ (fun a w ho => by
    have h1 := run_neq_pointer_nil (P := P) w T p (pointee_of ht)
    simp only [execOp, ho.ev.eval hx, ho.ev.eval hy, eqGuard_at_pointer, Sem.run_bind, Sem.run_pure, Result.andThen_ok, h1]) h
theorem rt_none {X : Type} {fn : Func} {W : World} {good : X → Prop} {val : X → Value} {res : X → List Hl} (r : X) (hres : fn.results = #[]) (hv : .tuple #[] = val r) (hg : good r) (hE : Ent H (res r)) :
    Rt P (.fn fn fun x w' => ∃ r, good r ∧ x = .returned (val r) ∧ Ext W w' ∧ sat w' (stars (res r))) n e W H :=
  rt_fn (v := .tuple #[]) (fun a w ho => by simp [results, hres]) r hg hv hE
/-- A call of what changes a box and a row. -/
theorem o1_call_br (b : Nat) (ad : Option Addr) (c : Nat) {f : FuncId} {xs : List Operand} {args : List Value} {ats : Array TypeId} {X : Type} {good : X → Prop} {val : X → Value} {res : X → List Hl} {m : Nat} {T T2 : TypeId} {cs ys : List Value} {H' H2 : List Hl} [s : SBox H b T cs H'] [s2 : SRow H' ad c m T2 ys H2]
    (hs : Has (.box b T cs :: .row T2 1 (.slice ad m c) m ys :: H2) → Spec P f args (.box b T cs :: .row T2 1 (.slice ad m c) m ys :: H2) good val res) (hxs : opds e xs = some args) (h : ∀ r, good r → C (val r) (res r)) : O1 P (.call ⟨.value (.func f), xs.toArray, ats⟩) ty n e H C :=
  O1.ent (H2 := .box b T cs :: .row T2 1 (.slice ad m c) m ys :: H2) (fun h hh => sep_mono (s.s.out h hh) (fun _ a => a) (s2.s.out)) (o1_call hs hxs h)
/-- An element of what is read, its value told. -/
theorem o1_load_av {α : Type} {A : Hp → Prop} {enc : α → Value} {ad : Option Addr} {c : Nat} {xs : List α} (i : Nat) (v : α) {T : TypeId} [TOne P T] {H' : List Hl} (hx : opd e x = some (.pointer (some (idxA ad i)))) (hr : Rs A enc ad c xs) (hv : xs[i]? = some v) [s : SAny H A H'] (h : C (enc v) H) : O1 P (.load T x) ty n e H C := by
  obtain ⟨hl, hv⟩ := List.getElem?_eq_some_iff.mp hv
  exact o1_load_ia i hx hr hl (by rw [hv]; exact h)
theorem o1_load_hv {α : Type} {enc : α → Value} {ad : Option Addr} {c : Nat} {xs : List α} (i : Nat) (v : α) {T : TypeId} [TOne P T] (hx : opd e x = some (.pointer (some (idxA ad i)))) (hr : RsH H enc ad c xs) (hv : xs[i]? = some v) (h : C (enc v) H) : O1 P (.load T x) ty n e H C := by
  obtain ⟨hl, hv⟩ := List.getElem?_eq_some_iff.mp hv
  exact o1_load_iah i hx hr hl (by rw [hv]; exact h)
end
end Go.Dp

namespace Go.Dp
open Go.Proofs
instance : TInt Tryd.prog 2 .i64 := ⟨by kernel_rfl⟩
instance : TInf Tryd.prog 2 (.int .i64 (0)) 1 8 := ⟨by kernel_rfl⟩
instance : TOne Tryd.prog 2 := ⟨by kernel_rfl⟩
instance : TInt Tryd.prog 3 .i64 := ⟨by kernel_rfl⟩
instance : TInf Tryd.prog 3 (.int .i64 (0)) 1 8 := ⟨by kernel_rfl⟩
instance : TOne Tryd.prog 3 := ⟨by kernel_rfl⟩
instance : TBool Tryd.prog 4 := ⟨by kernel_rfl⟩
instance : TInf Tryd.prog 4 (.bool false) 1 1 := ⟨by kernel_rfl⟩
instance : TOne Tryd.prog 4 := ⟨by kernel_rfl⟩
instance : TInt Tryd.prog 5 .u8 := ⟨by kernel_rfl⟩
instance : TInf Tryd.prog 5 (.int .u8 (0)) 1 1 := ⟨by kernel_rfl⟩
instance : TOne Tryd.prog 5 := ⟨by kernel_rfl⟩
instance : TFld Tryd.prog 7 0 0 2 := ⟨by kernel_rfl⟩
instance : TFld Tryd.prog 7 1 1 3 := ⟨by kernel_rfl⟩
instance : TFld Tryd.prog 7 2 2 4 := ⟨by kernel_rfl⟩
instance : TFld Tryd.prog 7 3 3 6 := ⟨by kernel_rfl⟩
instance : TPl Tryd.prog 7 [(0, 1), (1, 1), (2, 1), (3, 1)] := ⟨by kernel_rfl⟩
instance : TInf Tryd.prog 7 (.agg #[.int .i64 (0), .int .i64 (0), .bool false, .int .u8 (0)]) 4 24 := ⟨by kernel_rfl⟩
instance : TAgg Tryd.prog 7 := ⟨by kernel_rfl⟩
instance : TStr Tryd.prog 9 := ⟨by kernel_rfl⟩
instance : TInf Tryd.prog 9 (.string .empty) 1 16 := ⟨by kernel_rfl⟩
instance : TOne Tryd.prog 9 := ⟨by kernel_rfl⟩
instance : TInt Tryd.prog 12 .u64 := ⟨by kernel_rfl⟩
instance : TInf Tryd.prog 12 (.int .u64 (0)) 1 8 := ⟨by kernel_rfl⟩
instance : TOne Tryd.prog 12 := ⟨by kernel_rfl⟩
instance : TFld Tryd.prog 13 0 0 9 := ⟨by kernel_rfl⟩
instance : TFld Tryd.prog 13 1 1 12 := ⟨by kernel_rfl⟩
instance : TPl Tryd.prog 13 [(0, 1), (1, 1)] := ⟨by kernel_rfl⟩
instance : TInf Tryd.prog 13 (.agg #[.string .empty, .int .u64 (0)]) 2 24 := ⟨by kernel_rfl⟩
instance : TAgg Tryd.prog 13 := ⟨by kernel_rfl⟩
instance : TFld Tryd.prog 18 0 0 17 := ⟨by kernel_rfl⟩
instance : TPl Tryd.prog 18 [(0, 1)] := ⟨by kernel_rfl⟩
instance : TInf Tryd.prog 18 (.agg #[.pointer none]) 1 8 := ⟨by kernel_rfl⟩
instance : TAgg Tryd.prog 18 := ⟨by kernel_rfl⟩
instance : TInt Tryd.prog 21 .i32 := ⟨by kernel_rfl⟩
instance : TInf Tryd.prog 21 (.int .i32 (0)) 1 4 := ⟨by kernel_rfl⟩
instance : TOne Tryd.prog 21 := ⟨by kernel_rfl⟩
instance : TSl Tryd.prog 22 3 := ⟨by kernel_rfl⟩
instance : TInf Tryd.prog 22 (.slice none 0 0) 1 24 := ⟨by kernel_rfl⟩
instance : TOne Tryd.prog 22 := ⟨by kernel_rfl⟩
instance : TInt Tryd.prog 24 .u64 := ⟨by kernel_rfl⟩
instance : TInf Tryd.prog 24 (.int .u64 (0)) 1 8 := ⟨by kernel_rfl⟩
instance : TOne Tryd.prog 24 := ⟨by kernel_rfl⟩
instance : TPtr Tryd.prog 25 86 := ⟨by kernel_rfl⟩
instance : TInf Tryd.prog 25 (.pointer none) 1 8 := ⟨by kernel_rfl⟩
instance : TOne Tryd.prog 25 := ⟨by kernel_rfl⟩
instance : TPtr Tryd.prog 34 97 := ⟨by kernel_rfl⟩
instance : TInf Tryd.prog 34 (.pointer none) 1 8 := ⟨by kernel_rfl⟩
instance : TOne Tryd.prog 34 := ⟨by kernel_rfl⟩
instance : TSl Tryd.prog 36 4 := ⟨by kernel_rfl⟩
instance : TInf Tryd.prog 36 (.slice none 0 0) 1 24 := ⟨by kernel_rfl⟩
instance : TOne Tryd.prog 36 := ⟨by kernel_rfl⟩
instance : TSl Tryd.prog 38 5 := ⟨by kernel_rfl⟩
instance : TInf Tryd.prog 38 (.slice none 0 0) 1 24 := ⟨by kernel_rfl⟩
instance : TOne Tryd.prog 38 := ⟨by kernel_rfl⟩
instance : TSl Tryd.prog 39 38 := ⟨by kernel_rfl⟩
instance : TInf Tryd.prog 39 (.slice none 0 0) 1 24 := ⟨by kernel_rfl⟩
instance : TOne Tryd.prog 39 := ⟨by kernel_rfl⟩
instance : TSl Tryd.prog 59 22 := ⟨by kernel_rfl⟩
instance : TInf Tryd.prog 59 (.slice none 0 0) 1 24 := ⟨by kernel_rfl⟩
instance : TOne Tryd.prog 59 := ⟨by kernel_rfl⟩
instance : TArr Tryd.prog 60 2 34 := ⟨by kernel_rfl⟩
instance : TPl Tryd.prog 60 [(0, 1), (1, 1)] := ⟨by kernel_rfl⟩
instance : TInf Tryd.prog 60 (.agg #[.pointer none, .pointer none]) 2 16 := ⟨by kernel_rfl⟩
instance : TAgg Tryd.prog 60 := ⟨by kernel_rfl⟩
instance : TSl Tryd.prog 65 70 := ⟨by kernel_rfl⟩
instance : TInf Tryd.prog 65 (.slice none 0 0) 1 24 := ⟨by kernel_rfl⟩
instance : TOne Tryd.prog 65 := ⟨by kernel_rfl⟩
instance : TPtr Tryd.prog 67 76 := ⟨by kernel_rfl⟩
instance : TInf Tryd.prog 67 (.pointer none) 1 8 := ⟨by kernel_rfl⟩
instance : TOne Tryd.prog 67 := ⟨by kernel_rfl⟩
instance : TFld Tryd.prog 69 0 0 22 := ⟨by kernel_rfl⟩
instance : TFld Tryd.prog 69 1 1 38 := ⟨by kernel_rfl⟩
instance : TPl Tryd.prog 69 [(0, 1), (1, 1)] := ⟨by kernel_rfl⟩
instance : TInf Tryd.prog 69 (.agg #[.slice none 0 0, .slice none 0 0]) 2 48 := ⟨by kernel_rfl⟩
instance : TAgg Tryd.prog 69 := ⟨by kernel_rfl⟩
instance : TFld Tryd.prog 70 0 0 22 := ⟨by kernel_rfl⟩
instance : TFld Tryd.prog 70 1 1 38 := ⟨by kernel_rfl⟩
instance : TPl Tryd.prog 70 [(0, 1), (1, 1)] := ⟨by kernel_rfl⟩
instance : TInf Tryd.prog 70 (.agg #[.slice none 0 0, .slice none 0 0]) 2 48 := ⟨by kernel_rfl⟩
instance : TAgg Tryd.prog 70 := ⟨by kernel_rfl⟩
instance : TSl Tryd.prog 74 78 := ⟨by kernel_rfl⟩
instance : TInf Tryd.prog 74 (.slice none 0 0) 1 24 := ⟨by kernel_rfl⟩
instance : TOne Tryd.prog 74 := ⟨by kernel_rfl⟩
instance : TFld Tryd.prog 75 0 0 3 := ⟨by kernel_rfl⟩
instance : TFld Tryd.prog 75 1 1 3 := ⟨by kernel_rfl⟩
instance : TFld Tryd.prog 75 2 2 74 := ⟨by kernel_rfl⟩
instance : TPl Tryd.prog 75 [(0, 1), (1, 1), (2, 1)] := ⟨by kernel_rfl⟩
instance : TInf Tryd.prog 75 (.agg #[.int .i64 (0), .int .i64 (0), .slice none 0 0]) 3 40 := ⟨by kernel_rfl⟩
instance : TAgg Tryd.prog 75 := ⟨by kernel_rfl⟩
instance : TFld Tryd.prog 76 0 0 3 := ⟨by kernel_rfl⟩
instance : TFld Tryd.prog 76 1 1 3 := ⟨by kernel_rfl⟩
instance : TFld Tryd.prog 76 2 2 74 := ⟨by kernel_rfl⟩
instance : TPl Tryd.prog 76 [(0, 1), (1, 1), (2, 1)] := ⟨by kernel_rfl⟩
instance : TInf Tryd.prog 76 (.agg #[.int .i64 (0), .int .i64 (0), .slice none 0 0]) 3 40 := ⟨by kernel_rfl⟩
instance : TAgg Tryd.prog 76 := ⟨by kernel_rfl⟩
instance : TFld Tryd.prog 77 0 0 36 := ⟨by kernel_rfl⟩
instance : TFld Tryd.prog 77 1 1 38 := ⟨by kernel_rfl⟩
instance : TPl Tryd.prog 77 [(0, 1), (1, 1)] := ⟨by kernel_rfl⟩
instance : TInf Tryd.prog 77 (.agg #[.slice none 0 0, .slice none 0 0]) 2 48 := ⟨by kernel_rfl⟩
instance : TAgg Tryd.prog 77 := ⟨by kernel_rfl⟩
instance : TFld Tryd.prog 78 0 0 36 := ⟨by kernel_rfl⟩
instance : TFld Tryd.prog 78 1 1 38 := ⟨by kernel_rfl⟩
instance : TPl Tryd.prog 78 [(0, 1), (1, 1)] := ⟨by kernel_rfl⟩
instance : TInf Tryd.prog 78 (.agg #[.slice none 0 0, .slice none 0 0]) 2 48 := ⟨by kernel_rfl⟩
instance : TAgg Tryd.prog 78 := ⟨by kernel_rfl⟩
instance : TArr Tryd.prog 80 2 38 := ⟨by kernel_rfl⟩
instance : TPl Tryd.prog 80 [(0, 1), (1, 1)] := ⟨by kernel_rfl⟩
instance : TInf Tryd.prog 80 (.agg #[.slice none 0 0, .slice none 0 0]) 2 48 := ⟨by kernel_rfl⟩
instance : TAgg Tryd.prog 80 := ⟨by kernel_rfl⟩
instance : TSl Tryd.prog 84 24 := ⟨by kernel_rfl⟩
instance : TInf Tryd.prog 84 (.slice none 0 0) 1 24 := ⟨by kernel_rfl⟩
instance : TOne Tryd.prog 84 := ⟨by kernel_rfl⟩
instance : TFld Tryd.prog 85 0 0 3 := ⟨by kernel_rfl⟩
instance : TFld Tryd.prog 85 1 1 84 := ⟨by kernel_rfl⟩
instance : TPl Tryd.prog 85 [(0, 1), (1, 1)] := ⟨by kernel_rfl⟩
instance : TInf Tryd.prog 85 (.agg #[.int .i64 (0), .slice none 0 0]) 2 32 := ⟨by kernel_rfl⟩
instance : TAgg Tryd.prog 85 := ⟨by kernel_rfl⟩
instance : TFld Tryd.prog 86 0 0 3 := ⟨by kernel_rfl⟩
instance : TFld Tryd.prog 86 1 1 84 := ⟨by kernel_rfl⟩
instance : TPl Tryd.prog 86 [(0, 1), (1, 1)] := ⟨by kernel_rfl⟩
instance : TInf Tryd.prog 86 (.agg #[.int .i64 (0), .slice none 0 0]) 2 32 := ⟨by kernel_rfl⟩
instance : TAgg Tryd.prog 86 := ⟨by kernel_rfl⟩
instance : TSl Tryd.prog 90 98 := ⟨by kernel_rfl⟩
instance : TInf Tryd.prog 90 (.slice none 0 0) 1 24 := ⟨by kernel_rfl⟩
instance : TOne Tryd.prog 90 := ⟨by kernel_rfl⟩
instance : TInf Tryd.prog 91 (.agg #[]) 0 0 := ⟨by kernel_rfl⟩
instance : TAgg Tryd.prog 91 := ⟨by kernel_rfl⟩
instance : TInf Tryd.prog 92 (.agg #[]) 0 0 := ⟨by kernel_rfl⟩
instance : TAgg Tryd.prog 92 := ⟨by kernel_rfl⟩
instance : TInf Tryd.prog 93 (.agg #[]) 0 0 := ⟨by kernel_rfl⟩
instance : TAgg Tryd.prog 93 := ⟨by kernel_rfl⟩
instance : TFld Tryd.prog 94 2 0 2 := ⟨by kernel_rfl⟩
instance : TPl Tryd.prog 94 [(0, 0), (0, 0), (0, 1)] := ⟨by kernel_rfl⟩
instance : TInf Tryd.prog 94 (.agg #[.int .i64 (0)]) 1 8 := ⟨by kernel_rfl⟩
instance : TAgg Tryd.prog 94 := ⟨by kernel_rfl⟩
instance : TFld Tryd.prog 95 2 0 2 := ⟨by kernel_rfl⟩
instance : TPl Tryd.prog 95 [(0, 0), (0, 0), (0, 1)] := ⟨by kernel_rfl⟩
instance : TInf Tryd.prog 95 (.agg #[.int .i64 (0)]) 1 8 := ⟨by kernel_rfl⟩
instance : TAgg Tryd.prog 95 := ⟨by kernel_rfl⟩
instance : TFld Tryd.prog 96 0 0 3 := ⟨by kernel_rfl⟩
instance : TFld Tryd.prog 96 1 1 3 := ⟨by kernel_rfl⟩
instance : TFld Tryd.prog 96 2 2 90 := ⟨by kernel_rfl⟩
instance : TFld Tryd.prog 96 3 3 95 := ⟨by kernel_rfl⟩
instance : TPl Tryd.prog 96 [(0, 1), (1, 1), (2, 1), (3, 1)] := ⟨by kernel_rfl⟩
instance : TInf Tryd.prog 96 (.agg #[.int .i64 (0), .int .i64 (0), .slice none 0 0, .int .i64 (0)]) 4 48 := ⟨by kernel_rfl⟩
instance : TAgg Tryd.prog 96 := ⟨by kernel_rfl⟩
instance : TFld Tryd.prog 97 0 0 3 := ⟨by kernel_rfl⟩
instance : TFld Tryd.prog 97 1 1 3 := ⟨by kernel_rfl⟩
instance : TFld Tryd.prog 97 2 2 90 := ⟨by kernel_rfl⟩
instance : TFld Tryd.prog 97 3 3 95 := ⟨by kernel_rfl⟩
instance : TPl Tryd.prog 97 [(0, 1), (1, 1), (2, 1), (3, 1)] := ⟨by kernel_rfl⟩
instance : TInf Tryd.prog 97 (.agg #[.int .i64 (0), .int .i64 (0), .slice none 0 0, .int .i64 (0)]) 4 48 := ⟨by kernel_rfl⟩
instance : TAgg Tryd.prog 97 := ⟨by kernel_rfl⟩
instance : TPtr Tryd.prog 98 101 := ⟨by kernel_rfl⟩
instance : TInf Tryd.prog 98 (.pointer none) 1 8 := ⟨by kernel_rfl⟩
instance : TOne Tryd.prog 98 := ⟨by kernel_rfl⟩
instance : TFld Tryd.prog 100 0 0 25 := ⟨by kernel_rfl⟩
instance : TFld Tryd.prog 100 1 1 38 := ⟨by kernel_rfl⟩
instance : TPl Tryd.prog 100 [(0, 1), (1, 1)] := ⟨by kernel_rfl⟩
instance : TInf Tryd.prog 100 (.agg #[.pointer none, .slice none 0 0]) 2 32 := ⟨by kernel_rfl⟩
instance : TAgg Tryd.prog 100 := ⟨by kernel_rfl⟩
instance : TFld Tryd.prog 101 0 0 25 := ⟨by kernel_rfl⟩
instance : TFld Tryd.prog 101 1 1 38 := ⟨by kernel_rfl⟩
instance : TPl Tryd.prog 101 [(0, 1), (1, 1)] := ⟨by kernel_rfl⟩
instance : TInf Tryd.prog 101 (.agg #[.pointer none, .slice none 0 0]) 2 32 := ⟨by kernel_rfl⟩
instance : TAgg Tryd.prog 101 := ⟨by kernel_rfl⟩
instance : TInt Tryd.prog 106 .u64 := ⟨by kernel_rfl⟩
instance : TInf Tryd.prog 106 (.int .u64 (0)) 1 8 := ⟨by kernel_rfl⟩
instance : TOne Tryd.prog 106 := ⟨by kernel_rfl⟩
instance : TInt Tryd.prog 116 .u32 := ⟨by kernel_rfl⟩
instance : TInf Tryd.prog 116 (.int .u32 (0)) 1 4 := ⟨by kernel_rfl⟩
instance : TOne Tryd.prog 116 := ⟨by kernel_rfl⟩
instance : TPtr Tryd.prog 118 95 := ⟨by kernel_rfl⟩
instance : TInf Tryd.prog 118 (.pointer none) 1 8 := ⟨by kernel_rfl⟩
instance : TOne Tryd.prog 118 := ⟨by kernel_rfl⟩
instance : TPtr Tryd.prog 120 2 := ⟨by kernel_rfl⟩
instance : TInf Tryd.prog 120 (.pointer none) 1 8 := ⟨by kernel_rfl⟩
instance : TOne Tryd.prog 120 := ⟨by kernel_rfl⟩
instance : TArr Tryd.prog 122 64 5 := ⟨by kernel_rfl⟩
instance : TPl Tryd.prog 122 [(0, 1), (1, 1), (2, 1), (3, 1), (4, 1), (5, 1), (6, 1), (7, 1), (8, 1), (9, 1), (10, 1), (11, 1), (12, 1), (13, 1), (14, 1), (15, 1), (16, 1), (17, 1), (18, 1), (19, 1), (20, 1), (21, 1), (22, 1), (23, 1), (24, 1), (25, 1), (26, 1), (27, 1), (28, 1), (29, 1), (30, 1), (31, 1), (32, 1), (33, 1), (34, 1), (35, 1), (36, 1), (37, 1), (38, 1), (39, 1), (40, 1), (41, 1), (42, 1), (43, 1), (44, 1), (45, 1), (46, 1), (47, 1), (48, 1), (49, 1), (50, 1), (51, 1), (52, 1), (53, 1), (54, 1), (55, 1), (56, 1), (57, 1), (58, 1), (59, 1), (60, 1), (61, 1), (62, 1), (63, 1)] := ⟨by kernel_rfl⟩
instance : TInf Tryd.prog 122 (.agg #[.int .u8 (0), .int .u8 (0), .int .u8 (0), .int .u8 (0), .int .u8 (0), .int .u8 (0), .int .u8 (0), .int .u8 (0), .int .u8 (0), .int .u8 (0), .int .u8 (0), .int .u8 (0), .int .u8 (0), .int .u8 (0), .int .u8 (0), .int .u8 (0), .int .u8 (0), .int .u8 (0), .int .u8 (0), .int .u8 (0), .int .u8 (0), .int .u8 (0), .int .u8 (0), .int .u8 (0), .int .u8 (0), .int .u8 (0), .int .u8 (0), .int .u8 (0), .int .u8 (0), .int .u8 (0), .int .u8 (0), .int .u8 (0), .int .u8 (0), .int .u8 (0), .int .u8 (0), .int .u8 (0), .int .u8 (0), .int .u8 (0), .int .u8 (0), .int .u8 (0), .int .u8 (0), .int .u8 (0), .int .u8 (0), .int .u8 (0), .int .u8 (0), .int .u8 (0), .int .u8 (0), .int .u8 (0), .int .u8 (0), .int .u8 (0), .int .u8 (0), .int .u8 (0), .int .u8 (0), .int .u8 (0), .int .u8 (0), .int .u8 (0), .int .u8 (0), .int .u8 (0), .int .u8 (0), .int .u8 (0), .int .u8 (0), .int .u8 (0), .int .u8 (0), .int .u8 (0)]) 64 64 := ⟨by kernel_rfl⟩
instance : TAgg Tryd.prog 122 := ⟨by kernel_rfl⟩
instance : TFld Tryd.prog 124 0 0 17 := ⟨by kernel_rfl⟩
instance : TFld Tryd.prog 124 1 1 17 := ⟨by kernel_rfl⟩
instance : TFld Tryd.prog 124 2 2 17 := ⟨by kernel_rfl⟩
instance : TFld Tryd.prog 124 3 3 9 := ⟨by kernel_rfl⟩
instance : TPl Tryd.prog 124 [(0, 1), (1, 1), (2, 1), (3, 1)] := ⟨by kernel_rfl⟩
instance : TInf Tryd.prog 124 (.agg #[.pointer none, .pointer none, .pointer none, .string .empty]) 4 40 := ⟨by kernel_rfl⟩
instance : TAgg Tryd.prog 124 := ⟨by kernel_rfl⟩
instance : TPl Tryd.prog 127 [(0, 0)] := ⟨by kernel_rfl⟩
instance : TInf Tryd.prog 127 (.agg #[]) 0 0 := ⟨by kernel_rfl⟩
instance : TAgg Tryd.prog 127 := ⟨by kernel_rfl⟩
instance : TPtr Tryd.prog 132 5 := ⟨by kernel_rfl⟩
instance : TInf Tryd.prog 132 (.pointer none) 1 8 := ⟨by kernel_rfl⟩
instance : TOne Tryd.prog 132 := ⟨by kernel_rfl⟩
instance : TFld Tryd.prog 135 0 0 12 := ⟨by kernel_rfl⟩
instance : TFld Tryd.prog 135 1 1 12 := ⟨by kernel_rfl⟩
instance : TFld Tryd.prog 135 2 2 116 := ⟨by kernel_rfl⟩
instance : TFld Tryd.prog 135 3 3 129 := ⟨by kernel_rfl⟩
instance : TFld Tryd.prog 135 4 4 5 := ⟨by kernel_rfl⟩
instance : TFld Tryd.prog 135 5 5 5 := ⟨by kernel_rfl⟩
instance : TFld Tryd.prog 135 6 6 130 := ⟨by kernel_rfl⟩
instance : TFld Tryd.prog 135 7 7 131 := ⟨by kernel_rfl⟩
instance : TFld Tryd.prog 135 8 8 132 := ⟨by kernel_rfl⟩
instance : TFld Tryd.prog 135 9 9 133 := ⟨by kernel_rfl⟩
instance : TFld Tryd.prog 135 10 10 134 := ⟨by kernel_rfl⟩
instance : TPl Tryd.prog 135 [(0, 1), (1, 1), (2, 1), (3, 1), (4, 1), (5, 1), (6, 1), (7, 1), (8, 1), (9, 1), (10, 1)] := ⟨by kernel_rfl⟩
instance : TInf Tryd.prog 135 (.agg #[.int .u64 (0), .int .u64 (0), .int .u32 (0), .int .u8 (0), .int .u8 (0), .int .u8 (0), .int .u8 (0), .nilFunc, .pointer none, .int .i32 (0), .int .i32 (0)]) 11 48 := ⟨by kernel_rfl⟩
instance : TAgg Tryd.prog 135 := ⟨by kernel_rfl⟩
theorem mixed : Tryd.prog.follows .mixedOrders = true := by kernel_rfl
end Go.Dp

set_option linter.unusedVariables false
set_option linter.unusedSimpArgs false
namespace Go.Dp
open Go.RowKit Go.Proofs
/-- A row of bits: its box, how many bits, where its words stand, its bits. -/
structure VD where
  b : Nat
  n : Nat
  a : Option Addr
  c : Nat
  l : List Bool
abbrev Pv (v : VD) : Value := .pointer (some ⟨v.b, 0, none⟩)
structure VD.ok (v : VD) : Prop where
  len : v.l.length = v.n
  hi : v.n ≤ 256
structure RdV (A : Hp → Prop) (v : VD) : Prop where
  n : Cl A ⟨v.b, 0, none⟩ (I v.n)
  s : Cl A ⟨v.b, 1, none⟩ (.slice v.a (nw v.n) v.c)
  w : Rs A W8 v.a v.c (words v.l)
  ok : v.ok
theorem RdV.up {A : Hp → Prop} {v : VD} {H H' : List Hl} (h : RdV A v) [s : SAny H A H'] : RdV (stars H) v := ⟨cl_up h.n, cl_up h.s, h.w.up, h.ok⟩
abbrev vB (b n : Nat) (a : Option Addr) (c : Nat) : Hl := .box b 86 [I n, .slice a (nw n) c]
abbrev vR (n : Nat) (a : Option Addr) (c : Nat) (l : List Bool) : Hl := .row 24 1 (.slice a (nw n) c) (nw n) ((words l).map W8)
theorem RdV.own {b n : Nat} {a : Option Addr} {c : Nat} {l : List Bool} {H H1 H2 : List Hl} {m : Nat} [s : SBox H b 86 [I n, .slice a (nw n) c] H1] [s2 : SRow H a c m 24 ((words l).map W8) H2] (hl : l.length = n) (hn : n ≤ 256) (hh : Has H) : RdV (stars H) ⟨b, n, a, c, l⟩ :=
  ⟨cl_box rfl, cl_box rfl, rx_row hh, ⟨hl, hn⟩⟩
theorem VD.ok.words {v : VD} (h : v.ok) : (words v.l).length = nw v.n := by rw [words_len, h.len]
theorem nw_at {n m : Nat} (h : m < n) : m / 64 < nw n := by unfold nw; omega
theorem nw_4 {n : Nat} (h : n ≤ 256) : nw n ≤ 4 := by unfold nw; omega
/-- Is this place set? -/
def hasV (l : List Bool) (i : Int) : Bool := decide (0 ≤ i) && at_ l i.toNat
theorem hasV_nat (l : List Bool) (i : Nat) : hasV l (i : Int) = at_ l i := by simp [hasV]
def inV (n : Nat) (i : Int) : Bool := decide (0 ≤ i ∧ i < n)
theorem inV_of {n : Nat} {i : Int} (h0 : 0 ≤ i) (h1 : i < n) : inV n i = true := by simp [inV]; omega
theorem inV_not {n : Nat} {i : Int} (h : ¬ (0 ≤ i ∧ i < n)) : inV n i = false := by simp [inV]; omega
theorem vec_within (H : List Hl) (v : VD) (i : Int) (h : Cl (stars H) ⟨v.b, 0, none⟩ (I v.n)) :
    Spec Tryd.prog 51 [Pv v, I i] H (fun _ : Unit => True) (fun _ => .bool (inV v.n i)) (fun _ => H) := by
  refine spec_pure (res := fun _ => []) H Tryd.func51 rfl Tryd.ntmps51 (by kernel_rfl) rfl (fun W => ?_)
  by_cases h0 : 0 ≤ i
  · repeat' (first | refine ls_of rfl ?_ | refine ls_of_no ?_ | refine ls_guard_yes rfl rfl ?_ | refine ls_guard_no rfl rfl rfl rfl ?_ | refine ls_guard_un rfl rfl rfl ?_ | refine o1_move rfl ?_ | refine o1_assign rfl ?_ | refine st_seq ?_ | refine st_region ?_ | refine st_block ?_ | refine st_skip ?_ | refine st_ret ?_ | refine st_exit ?_ | refine st_cond_t rfl ?_ | refine st_cond_f rfl ?_ | refine st_cond rfl (fun _ => ?_) (fun _ => ?_) | refine ls_nil ?_ | refine nx_seq ?_ | refine nx_blk ?_ | refine nx_fn ?_ | refine nx_rounds ?_ | refine xt_seq ?_ | refine xt_here ?_ | refine xt_on rfl ?_ | refine xt_rounds ?_ | refine xt_cut ?_ | refine rt_seq ?_ | refine rt_blk ?_ | refine rt_rounds ?_ | refine rt_cut ?_ | refine o1_pneq rfl rfl ?_ | refine ox_load_any rfl h ?_ | refine o1_lss_d rfl rfl ?_ | refine o1_pick_t rfl rfl ?_ | refine o1_pick_f rfl rfl ?_ | refine o1_fieldAddr rfl ?_ | refine ox_load rfl (by rfl) ?_ | refine ox_load_enc rfl (by first | omega | (simp; omega)) ?_ | refine ox_load_any rfl (by assumption) ?_ | refine o1_lss_t rfl rfl (by omega) ?_ | refine o1_lss_f rfl rfl (by omega) ?_ | refine o1_lss rfl rfl (fun _ => ?_) (fun _ => ?_) | refine o1_geq_t rfl rfl (by omega) ?_ | refine o1_geq_f rfl rfl (by omega) ?_ | refine o1_geq rfl rfl (fun _ => ?_) (fun _ => ?_) | refine o1_slice_nil rfl ?_ | refine o1_nilCheck rfl ?_)
    refine rt_tmp () rfl rfl (by simp [inV, h0]) trivial ?_
    (try dsimp only [List.cons_append, List.nil_append, List.singleton_append, List.append_nil]); (repeat (first | exact Ent.nil | exact Ent.refl _ | (apply Ent.cons; (repeat (first | exact Sel.here | apply Sel.there)))))
  · repeat' (first | refine ls_of rfl ?_ | refine ls_of_no ?_ | refine ls_guard_yes rfl rfl ?_ | refine ls_guard_no rfl rfl rfl rfl ?_ | refine ls_guard_un rfl rfl rfl ?_ | refine o1_move rfl ?_ | refine o1_assign rfl ?_ | refine st_seq ?_ | refine st_region ?_ | refine st_block ?_ | refine st_skip ?_ | refine st_ret ?_ | refine st_exit ?_ | refine st_cond_t rfl ?_ | refine st_cond_f rfl ?_ | refine st_cond rfl (fun _ => ?_) (fun _ => ?_) | refine ls_nil ?_ | refine nx_seq ?_ | refine nx_blk ?_ | refine nx_fn ?_ | refine nx_rounds ?_ | refine xt_seq ?_ | refine xt_here ?_ | refine xt_on rfl ?_ | refine xt_rounds ?_ | refine xt_cut ?_ | refine rt_seq ?_ | refine rt_blk ?_ | refine rt_rounds ?_ | refine rt_cut ?_ | refine o1_pneq rfl rfl ?_ | refine ox_load_any rfl h ?_ | refine o1_pick_t rfl rfl ?_ | refine o1_pick_f rfl rfl ?_ | refine o1_fieldAddr rfl ?_ | refine ox_load rfl (by rfl) ?_ | refine ox_load_enc rfl (by first | omega | (simp; omega)) ?_ | refine ox_load_any rfl (by assumption) ?_ | refine o1_lss_t rfl rfl (by omega) ?_ | refine o1_lss_f rfl rfl (by omega) ?_ | refine o1_lss rfl rfl (fun _ => ?_) (fun _ => ?_) | refine o1_geq_t rfl rfl (by omega) ?_ | refine o1_geq_f rfl rfl (by omega) ?_ | refine o1_geq rfl rfl (fun _ => ?_) (fun _ => ?_) | refine o1_slice_nil rfl ?_ | refine o1_nilCheck rfl ?_)
    refine rt_tmp () rfl rfl (by rw [inV_not (by omega)]) trivial ?_
    (try dsimp only [List.cons_append, List.nil_append, List.singleton_append, List.append_nil]); (repeat (first | exact Ent.nil | exact Ent.refl _ | (apply Ent.cons; (repeat (first | exact Sel.here | apply Sel.there)))))
theorem vec_Len (H : List Hl) (v : VD) (h : Cl (stars H) ⟨v.b, 0, none⟩ (I v.n)) :
    Spec Tryd.prog 35 [Pv v] H (fun _ : Unit => True) (fun _ => I v.n) (fun _ => H) := by
  refine spec_pure (res := fun _ => []) H Tryd.func35 rfl Tryd.ntmps35 (by kernel_rfl) rfl (fun W => ?_)
  repeat' (first | refine ls_of rfl ?_ | refine ls_of_no ?_ | refine ls_guard_yes rfl rfl ?_ | refine ls_guard_no rfl rfl rfl rfl ?_ | refine ls_guard_un rfl rfl rfl ?_ | refine o1_move rfl ?_ | refine o1_assign rfl ?_ | refine st_seq ?_ | refine st_region ?_ | refine st_block ?_ | refine st_skip ?_ | refine st_ret ?_ | refine st_exit ?_ | refine st_cond_t rfl ?_ | refine st_cond_f rfl ?_ | refine st_cond rfl (fun _ => ?_) (fun _ => ?_) | refine ls_nil ?_ | refine nx_seq ?_ | refine nx_blk ?_ | refine nx_fn ?_ | refine nx_rounds ?_ | refine xt_seq ?_ | refine xt_here ?_ | refine xt_on rfl ?_ | refine xt_rounds ?_ | refine xt_cut ?_ | refine rt_seq ?_ | refine rt_blk ?_ | refine rt_rounds ?_ | refine rt_cut ?_ | refine o1_peql rfl rfl ?_ | refine ox_load_any rfl h ?_ | refine o1_fieldAddr rfl ?_ | refine ox_load rfl (by rfl) ?_ | refine ox_load_enc rfl (by first | omega | (simp; omega)) ?_ | refine ox_load_any rfl (by assumption) ?_ | refine o1_slice_nil rfl ?_ | refine o1_nilCheck rfl ?_)
  refine rt_tmp () rfl rfl rfl trivial ?_
  (try dsimp only [List.cons_append, List.nil_append, List.singleton_append, List.append_nil]); (repeat (first | exact Ent.nil | exact Ent.refl _ | (apply Ent.cons; (repeat (first | exact Sel.here | apply Sel.there)))))
theorem bit_of (b : Bool) : decide (((b.toNat : Nat) : Int) = 1) = b := by cases b <;> rfl
theorem vec_Has (H : List Hl) (v : VD) (i : Int) (h : RdV (stars H) v) :
    Spec Tryd.prog 17 [Pv v, I i] H (fun _ : Unit => True) (fun _ => .bool (hasV v.l i)) (fun _ => H) := by
  refine spec_pure (res := fun _ => []) H Tryd.func17 rfl Tryd.ntmps17 (by kernel_rfl) rfl (fun W => ?_)
  by_cases hi : 0 ≤ i ∧ i < v.n
  · obtain ⟨m, rfl⟩ : ∃ m : Nat, i = m := ⟨i.toNat, by omega⟩
    have hm : m < v.n := by omega
    have h256 := h.ok.hi
    have hwl := h.ok.words
    have hlt : m / 64 < (words v.l).length := by rw [hwl]; exact nw_at hm
    have hw : (words v.l)[m / 64]? = some (wordOf v.l (m / 64)) := words_at? _ _ (by rw [h.ok.len]; exact nw_at hm)
    have hsh : ((m : Int) % 64).toNat = m % 64 := by omega
    repeat' (first | refine ls_of rfl ?_ | refine ls_of_no ?_ | refine ls_guard_yes rfl rfl ?_ | refine ls_guard_no rfl rfl rfl rfl ?_ | refine ls_guard_un rfl rfl rfl ?_ | refine o1_move rfl ?_ | refine o1_assign rfl ?_ | refine st_seq ?_ | refine st_region ?_ | refine st_block ?_ | refine st_skip ?_ | refine st_ret ?_ | refine st_exit ?_ | refine st_cond_t rfl ?_ | refine st_cond_f rfl ?_ | refine st_cond rfl (fun _ => ?_) (fun _ => ?_) | refine ls_nil ?_ | refine nx_seq ?_ | refine nx_blk ?_ | refine nx_fn ?_ | refine nx_rounds ?_ | refine xt_seq ?_ | refine xt_here ?_ | refine xt_on rfl ?_ | refine xt_rounds ?_ | refine xt_cut ?_ | refine rt_seq ?_ | refine rt_blk ?_ | refine rt_rounds ?_ | refine rt_cut ?_ | refine o1_call (fun _ => (vec_within _ v m (cl_up h.n)).bv (b := true) (inV_of hi.1 hi.2)) rfl (fun _ _ => ?_) | refine ox_load_any rfl h.s ?_ | refine o1_quo rfl rfl (by omega) ?_ | refine o1_ia (m / 64) rfl rfl h.w hwl.symm (by omega) hlt ?_ | refine o1_load_av (m / 64) _ rfl h.w hw ?_ | (refine o1_ushr rfl rfl (by omega) ?_; rw [hsh]) | refine o1_uand (v := 1#64) rfl rfl ?_ | refine o1_eql_d rfl rfl ?_ | refine o1_pick_t rfl rfl ?_ | refine o1_pick_f rfl rfl ?_ | refine o1_fieldAddr rfl ?_ | refine ox_load rfl (by rfl) ?_ | refine ox_load_enc rfl (by first | omega | (simp; omega)) ?_ | refine ox_load_any rfl (by assumption) ?_ | refine o1_eql_t rfl rfl (by omega) ?_ | refine o1_eql_f rfl rfl (by omega) ?_ | refine o1_eql rfl rfl (fun _ => ?_) (fun _ => ?_) | refine o1_uand rfl rfl ?_ | refine o1_ushr rfl rfl (by omega) ?_ | refine o1_rem_nn rfl rfl (by omega) ?_ | refine o1_nilCheck rfl ?_)
    refine rt_tmp () rfl rfl ?_ trivial ?_
    · rw [hasV_nat, word_has, bit_of]
    (try dsimp only [List.cons_append, List.nil_append, List.singleton_append, List.append_nil]); (repeat (first | exact Ent.nil | exact Ent.refl _ | (apply Ent.cons; (repeat (first | exact Sel.here | apply Sel.there)))))
  · repeat' (first | refine ls_of rfl ?_ | refine ls_of_no ?_ | refine ls_guard_yes rfl rfl ?_ | refine ls_guard_no rfl rfl rfl rfl ?_ | refine ls_guard_un rfl rfl rfl ?_ | refine o1_move rfl ?_ | refine o1_assign rfl ?_ | refine st_seq ?_ | refine st_region ?_ | refine st_block ?_ | refine st_skip ?_ | refine st_ret ?_ | refine st_exit ?_ | refine st_cond_t rfl ?_ | refine st_cond_f rfl ?_ | refine st_cond rfl (fun _ => ?_) (fun _ => ?_) | refine ls_nil ?_ | refine nx_seq ?_ | refine nx_blk ?_ | refine nx_fn ?_ | refine nx_rounds ?_ | refine xt_seq ?_ | refine xt_here ?_ | refine xt_on rfl ?_ | refine xt_rounds ?_ | refine xt_cut ?_ | refine rt_seq ?_ | refine rt_blk ?_ | refine rt_rounds ?_ | refine rt_cut ?_ | refine o1_call (fun _ => (vec_within _ v i (cl_up h.n)).bv (b := false) (inV_not hi)) rfl (fun _ _ => ?_) | refine o1_pick_t rfl rfl ?_ | refine o1_pick_f rfl rfl ?_ | refine o1_fieldAddr rfl ?_ | refine ox_load rfl (by rfl) ?_ | refine ox_load_enc rfl (by first | omega | (simp; omega)) ?_ | refine ox_load_any rfl (by assumption) ?_ | refine o1_eql_t rfl rfl (by omega) ?_ | refine o1_eql_f rfl rfl (by omega) ?_ | refine o1_eql rfl rfl (fun _ => ?_) (fun _ => ?_) | refine o1_uand rfl rfl ?_ | refine o1_ushr rfl rfl (by omega) ?_ | refine o1_rem_nn rfl rfl (by omega) ?_ | refine o1_nilCheck rfl ?_)
    refine rt_tmp () rfl rfl ?_ trivial ?_
    · congr 1
      simp only [hasV]
      by_cases h0 : 0 ≤ i
      · have : v.l.length ≤ i.toNat := by rw [h.ok.len]; omega
        have h3 : at_ v.l i.toNat = false := getD_out this
        rw [h3, Bool.and_false]
      · simp [h0]
    (try dsimp only [List.cons_append, List.nil_append, List.singleton_append, List.append_nil]); (repeat (first | exact Ent.nil | exact Ent.refl _ | (apply Ent.cons; (repeat (first | exact Sel.here | apply Sel.there)))))
/-- A place set, or let go, if there is one. -/
def setB (l : List Bool) (i : Int) (on : Bool) : List Bool := if 0 ≤ i ∧ i < l.length then l.set i.toNat on else l
theorem setB_true (l : List Bool) (i : Int) : setB l i true = setI l i := rfl
theorem setB_nat (l : List Bool) (i : Nat) (on : Bool) (h : i < l.length) : setB l i on = l.set i on := by
  rw [setB, if_pos (by omega)]; rfl
theorem setB_out (l : List Bool) (i : Int) (on : Bool) (h : ¬ (0 ≤ i ∧ i < l.length)) : setB l i on = l := by rw [setB, if_neg h]
theorem vec_Set (H : List Hl) (b n : Nat) (a : Option Addr) (c : Nat) (l : List Bool) (i : Int) (on : Bool) (hl : l.length = n) (hn : n ≤ 256) :
    Spec Tryd.prog 18 [.pointer (some ⟨b, 0, none⟩), I i, .bool on] (vB b n a c :: vR n a c l :: H) (fun _ : Unit => True) (fun _ => .bool (inV n i)) (fun _ => vB b n a c :: vR n a c (setB l i on) :: H) := by
  refine spec_fn (res := fun _ : Unit => [vB b n a c, vR n a c (setB l i on)]) [vB b n a c, vR n a c l] H Tryd.func18 rfl Tryd.ntmps18 (by kernel_rfl) rfl (fun W => ?_)
  dsimp only [List.cons_append, List.nil_append]
  by_cases hi : 0 ≤ i ∧ i < n
  · obtain ⟨m, rfl⟩ : ∃ m : Nat, i = m := ⟨i.toNat, by omega⟩
    have hm : m < n := by omega
    have hml : m < l.length := by omega
    have hsh : ((m : Int) % 64).toNat = m % 64 := by omega
    have hk : m / 64 < nw n := nw_at hm
    have k1 : ∀ l' : List Bool, l'.length = n → (words l').length = nw n := fun l' h => by rw [words_len, h]
    have hl2 : (l.set m false).length = n := by rw [List.length_set]; exact hl
    have w1 : (words l)[m / 64]? = some (wordOf l (m / 64)) := words_at? _ _ (by rw [hl]; exact hk)
    have w2 : (words (l.set m false))[m / 64]? = some (wordOf (l.set m false) (m / 64)) := words_at? _ _ (by rw [hl2]; exact hk)
    have hon := words_on (l.set m false) m (by omega)
    rw [List.set_set] at hon
    rw [setB_nat _ _ _ hml]
    cases on
    all_goals
      repeat' (first | refine ls_of rfl ?_ | refine ls_of_no ?_ | refine ls_guard_yes rfl rfl ?_ | refine ls_guard_no rfl rfl rfl rfl ?_ | refine ls_guard_un rfl rfl rfl ?_ | refine o1_move rfl ?_ | refine o1_assign rfl ?_ | refine st_seq ?_ | refine st_region ?_ | refine st_block ?_ | refine st_skip ?_ | refine st_ret ?_ | refine st_exit ?_ | refine st_cond_t rfl ?_ | refine st_cond_f rfl ?_ | refine st_cond rfl (fun _ => ?_) (fun _ => ?_) | refine ls_nil ?_ | refine nx_seq ?_ | refine nx_blk ?_ | refine nx_fn ?_ | refine nx_rounds ?_ | refine xt_seq ?_ | refine xt_here ?_ | refine xt_on rfl ?_ | refine xt_rounds ?_ | refine xt_cut ?_ | refine rt_seq ?_ | refine rt_blk ?_ | refine rt_rounds ?_ | refine rt_cut ?_ | refine o1_call (fun _ => (vec_within _ ⟨b, n, a, c, l⟩ m (cl_box rfl)).bv (b := true) (inV_of hi.1 hi.2)) rfl (fun _ _ => ?_) | refine o1_quo rfl rfl (by omega) ?_ | (refine o1_ushl (u := 1#64) rfl rfl (by omega) ?_; rw [hsh]) | refine o1_iah (enc := W8) (xs := words l) (m / 64) rfl rfl rx_row (k1 _ hl).symm (by omega) (by rw [k1 _ hl]; exact hk) ?_ | refine o1_load_hv (enc := W8) (c := c) (m / 64) _ rfl rx_row w1 ?_ | (refine ox_store_rowenc (c := c) W8 (m / 64) rfl rfl hk rfl ?_; rw [← words_off]) | refine o1_iah (enc := W8) (xs := words (l.set m false)) (m / 64) rfl rfl rx_row (k1 _ hl2).symm (by omega) (by rw [k1 _ hl2]; exact hk) ?_ | refine o1_load_hv (enc := W8) (c := c) (m / 64) _ rfl rx_row w2 ?_ | (refine ox_store_rowenc (c := c) W8 (m / 64) rfl rfl hk rfl ?_; rw [← hon]) | refine o1_fieldAddr rfl ?_ | refine ox_load rfl (by rfl) ?_ | refine ox_load_enc rfl (by first | omega | (simp; omega)) ?_ | refine ox_load_any rfl (by assumption) ?_ | refine o1_bnot rfl ?_ | refine o1_uor rfl rfl ?_ | refine o1_uandNot rfl rfl ?_ | refine o1_ushl rfl rfl (by omega) ?_ | refine o1_unot rfl ?_ | refine o1_rem_nn rfl rfl (by omega) ?_ | refine ox_store_enc B rfl rfl (by first | omega | (simp; done) | (simp; omega)) rfl ?_ | refine ox_stores rfl rfl (by first | omega | (simp; done) | (simp; omega)) rfl (by first | (simp only [List.set_cons_zero, List.set_cons_succ, Nat.zero_add, Nat.reduceAdd]; rfl) | rfl) ?_ | refine o1_nilCheck rfl ?_)
      refine rt_tmp () rfl rfl (by rw [inV_of hi.1 hi.2]) trivial ?_
      (try dsimp only [List.cons_append, List.nil_append, List.singleton_append, List.append_nil]); (repeat (first | exact Ent.nil | exact Ent.refl _ | (apply Ent.cons; (repeat (first | exact Sel.here | apply Sel.there)))))
  · rw [setB_out _ _ _ (by rw [hl]; exact hi)]
    repeat' (first | refine ls_of rfl ?_ | refine ls_of_no ?_ | refine ls_guard_yes rfl rfl ?_ | refine ls_guard_no rfl rfl rfl rfl ?_ | refine ls_guard_un rfl rfl rfl ?_ | refine o1_move rfl ?_ | refine o1_assign rfl ?_ | refine st_seq ?_ | refine st_region ?_ | refine st_block ?_ | refine st_skip ?_ | refine st_ret ?_ | refine st_exit ?_ | refine st_cond_t rfl ?_ | refine st_cond_f rfl ?_ | refine st_cond rfl (fun _ => ?_) (fun _ => ?_) | refine ls_nil ?_ | refine nx_seq ?_ | refine nx_blk ?_ | refine nx_fn ?_ | refine nx_rounds ?_ | refine xt_seq ?_ | refine xt_here ?_ | refine xt_on rfl ?_ | refine xt_rounds ?_ | refine xt_cut ?_ | refine rt_seq ?_ | refine rt_blk ?_ | refine rt_rounds ?_ | refine rt_cut ?_ | refine o1_call (fun _ => (vec_within _ ⟨b, n, a, c, l⟩ i (cl_box rfl)).bv (b := false) (inV_not hi)) rfl (fun _ _ => ?_) | refine o1_fieldAddr rfl ?_ | refine ox_load rfl (by rfl) ?_ | refine ox_load_enc rfl (by first | omega | (simp; omega)) ?_ | refine ox_load_any rfl (by assumption) ?_ | refine o1_bnot rfl ?_ | refine o1_uor rfl rfl ?_ | refine o1_uandNot rfl rfl ?_ | refine o1_ushl rfl rfl (by omega) ?_ | refine o1_unot rfl ?_ | refine o1_rem_nn rfl rfl (by omega) ?_ | refine ox_store_enc B rfl rfl (by first | omega | (simp; done) | (simp; omega)) rfl ?_ | refine ox_stores rfl rfl (by first | omega | (simp; done) | (simp; omega)) rfl (by first | (simp only [List.set_cons_zero, List.set_cons_succ, Nat.zero_add, Nat.reduceAdd]; rfl) | rfl) ?_ | refine o1_nilCheck rfl ?_)
    refine rt_tmp () rfl rfl (by rw [inV_not hi]) trivial ?_
    (try dsimp only [List.cons_append, List.nil_append, List.singleton_append, List.append_nil]); (repeat (first | exact Ent.nil | exact Ent.refl _ | (apply Ent.cons; (repeat (first | exact Sel.here | apply Sel.there)))))
theorem vec_New (H : List Hl) (n : Nat) (hn : n ≤ 256) :
    Spec Tryd.prog 31 [I n] H (fun _ : Nat × Option Addr × Nat => True) (fun r => .pointer (some ⟨r.1, 0, none⟩)) (fun r => vB r.1 n r.2.1 r.2.2 :: vR n r.2.1 r.2.2 (List.replicate n false) :: H) := by
  refine spec_pure (res := fun r : Nat × Option Addr × Nat => [vB r.1 n r.2.1 r.2.2, vR n r.2.1 r.2.2 (List.replicate n false)]) H Tryd.func31 rfl Tryd.ntmps31 (by kernel_rfl) rfl (fun W => ?_)
  have h4 := nw_4 hn
  have hq : ((n : Int) + 64 - 1) / 64 = (nw n : Nat) := by unfold nw; omega
  repeat' (first | refine ls_of rfl ?_ | refine ls_of_no ?_ | refine ls_guard_yes rfl rfl ?_ | refine ls_guard_no rfl rfl rfl rfl ?_ | refine ls_guard_un rfl rfl rfl ?_ | refine o1_move rfl ?_ | refine o1_assign rfl ?_ | refine st_seq ?_ | refine st_region ?_ | refine st_block ?_ | refine st_skip ?_ | refine st_ret ?_ | refine st_exit ?_ | refine st_cond_t rfl ?_ | refine st_cond_f rfl ?_ | refine st_cond rfl (fun _ => ?_) (fun _ => ?_) | refine ls_nil ?_ | refine nx_seq ?_ | refine nx_blk ?_ | refine nx_fn ?_ | refine nx_rounds ?_ | refine xt_seq ?_ | refine xt_here ?_ | refine xt_on rfl ?_ | refine xt_rounds ?_ | refine xt_cut ?_ | refine rt_seq ?_ | refine rt_blk ?_ | refine rt_rounds ?_ | refine rt_cut ?_ | (refine o1_quo rfl rfl (by omega) ?_; rw [hq]) | refine o1_maker (enc := W8) 0#64 (nw n) rfl rfl rfl rfl rfl (by omega) (by omega) (fun b2 => ?_) | refine o1_box rfl rfl (fun b1 => ?_) | refine o1_pick_t rfl rfl ?_ | refine o1_pick_f rfl rfl ?_ | refine o1_box rfl rfl (fun _ => ?_) | refine o1_add rfl rfl (by omega) ?_ | refine o1_sub rfl rfl (by omega) ?_ | refine o1_lss_t rfl rfl (by omega) ?_ | refine o1_lss_f rfl rfl (by omega) ?_ | refine o1_lss rfl rfl (fun _ => ?_) (fun _ => ?_) | refine o1_gtr_t rfl rfl (by omega) ?_ | refine o1_gtr_f rfl rfl (by omega) ?_ | refine o1_gtr rfl rfl (fun _ => ?_) (fun _ => ?_) | refine o1_maken (enc := B) 0#8 rfl rfl rfl rfl (by omega) (by omega) (by omega) (fun _ => ?_) | refine o1_buildx rfl (by simp only [buildL, putL, List.set_cons_zero, List.set_cons_succ, List.getElem?_cons_zero, List.getElem?_cons_succ, Option.getD_some, Value.cells, Nat.zero_add, Nat.reduceAdd]; rfl) (fun _ => by kernel_rfl) ?_)
  rw [← words_zero]
  refine rt_row (T := 24) (b := b2) (m := nw n) (cp := nw n) (cs := (words (List.replicate n false)).map W8) (by rw [List.length_map, words_len, List.length_replicate]) rfl (by omega) ?_
  refine rt_tmp (b1, some ⟨b2, 0, none⟩, nw n) rfl rfl rfl trivial ?_
  (try dsimp only [List.cons_append, List.nil_append, List.singleton_append, List.append_nil]); (repeat (first | exact Ent.nil | exact Ent.refl _ | (apply Ent.cons; (repeat (first | exact Sel.here | apply Sel.there)))))
theorem vec_Of (H : List Hl) (n : Nat) (ad : Option Addr) (c : Nat) (l : List Int) (hn : n ≤ 256) (h : Rs (stars H) I ad c l) :
    Spec Tryd.prog 15 [I n, .slice ad l.length c] H (fun _ : Nat × Option Addr × Nat => True) (fun r => .pointer (some ⟨r.1, 0, none⟩)) (fun r => vB r.1 n r.2.1 r.2.2 :: vR n r.2.1 r.2.2 (bitsOf n l) :: H) := by
  refine spec_pure (res := fun r : Nat × Option Addr × Nat => [vB r.1 n r.2.1 r.2.2, vR n r.2.1 r.2.2 (bitsOf n l)]) H Tryd.func15 rfl Tryd.ntmps15 (by kernel_rfl) rfl (fun W => ?_)
  have hle := h.le
  have hbg := h.big
  repeat' (first | refine ls_of rfl ?_ | refine ls_of_no ?_ | refine ls_guard_yes rfl rfl ?_ | refine ls_guard_no rfl rfl rfl rfl ?_ | refine ls_guard_un rfl rfl rfl ?_ | refine o1_move rfl ?_ | refine o1_assign rfl ?_ | refine st_seq ?_ | refine st_region ?_ | refine st_block ?_ | refine st_skip ?_ | refine st_ret ?_ | refine st_exit ?_ | refine st_cond_t rfl ?_ | refine st_cond_f rfl ?_ | refine st_cond rfl (fun _ => ?_) (fun _ => ?_) | refine ls_nil ?_ | refine nx_seq ?_ | refine nx_blk ?_ | refine nx_fn ?_ | refine nx_rounds ?_ | refine xt_seq ?_ | refine xt_here ?_ | refine xt_on rfl ?_ | refine xt_rounds ?_ | refine xt_cut ?_ | refine rt_seq ?_ | refine rt_blk ?_ | refine rt_rounds ?_ | refine rt_cut ?_ | (refine o1_call (fun _ => vec_New _ n hn) rfl (fun ⟨b1, a1, c1⟩ _ => ?_); dsimp only) | refine ox_load rfl (by rfl) ?_ | refine ox_load_enc rfl (by first | omega | (simp; omega)) ?_ | refine ox_load_any rfl (by assumption) ?_ | refine o1_len rfl ?_ | refine o1_add rfl rfl (by omega) ?_ | refine o1_lss_t rfl rfl (by omega) ?_ | refine o1_lss_f rfl rfl (by omega) ?_ | refine o1_lss rfl rfl (fun _ => ?_) (fun _ => ?_))
  refine st_loop (S := Nat) (fun i => [(5, .pointer (some ⟨b1, 0, none⟩)), (10, .slice ad l.length c), (11, I l.length), (12, I i)]) (fun i => [vB b1 n a1 c1, vR n a1 c1 (bitsOf n (l.take i)), .any (stars H)]) (fun i => i ≤ l.length) (fun i => l.length - i) 0 (Nat.zero_le _)
    (cov_cons rfl rfl (cov_cons rfl rfl (cov_cons rfl rfl (cov_cons rfl rfl cov_nil)))) (by show Ent _ [vB b1 n a1 c1, vR n a1 c1 (bitsOf n (l.take 0)), .any (stars H)]; rw [List.take_zero]; show Ent _ [vB b1 n a1 c1, vR n a1 c1 (List.replicate n false), .any (stars H)]; (try dsimp only [List.cons_append, List.nil_append, List.singleton_append, List.append_nil]); (repeat (first | exact Ent.nil | exact Ent.refl _ | (apply Ent.cons; (repeat (first | exact Sel.here | apply Sel.there)))))) ?_
  intro i hi
  by_cases hlt : i < l.length
  · have e1 : setB (bitsOf n (l.take i)) l[i] true = bitsOf n (l.take (i + 1)) := by
      rw [setB_true, ← bitsOf_snoc, List.take_succ_eq_append_getElem hlt]
    repeat' (first | refine ls_of rfl ?_ | refine ls_of_no ?_ | refine ls_guard_yes rfl rfl ?_ | refine ls_guard_no rfl rfl rfl rfl ?_ | refine ls_guard_un rfl rfl rfl ?_ | refine o1_move rfl ?_ | refine o1_assign rfl ?_ | refine st_seq ?_ | refine st_region ?_ | refine st_block ?_ | refine st_skip ?_ | refine st_ret ?_ | refine st_exit ?_ | refine st_cond_t rfl ?_ | refine st_cond_f rfl ?_ | refine st_cond rfl (fun _ => ?_) (fun _ => ?_) | refine ls_nil ?_ | refine nx_seq ?_ | refine nx_blk ?_ | refine nx_fn ?_ | refine nx_rounds ?_ | refine xt_seq ?_ | refine xt_here ?_ | refine xt_on rfl ?_ | refine xt_rounds ?_ | refine xt_cut ?_ | refine rt_seq ?_ | refine rt_blk ?_ | refine rt_rounds ?_ | refine rt_cut ?_ | refine o1_ia i rfl rfl h rfl rfl hlt ?_ | refine o1_load_ia i rfl h hlt ?_ | (refine o1_call_br b1 a1 c1 (fun _ => vec_Set _ b1 n a1 c1 (bitsOf n (l.take i)) l[i] true (bitsOf_len _ _) hn) rfl (fun _ _ => ?_); rw [e1]) | refine ox_load rfl (by rfl) ?_ | refine ox_load_enc rfl (by first | omega | (simp; omega)) ?_ | refine ox_load_any rfl (by assumption) ?_ | refine o1_len rfl ?_ | refine o1_add rfl rfl (by omega) ?_ | refine o1_lss_t rfl rfl (by omega) ?_ | refine o1_lss_f rfl rfl (by omega) ?_ | refine o1_lss rfl rfl (fun _ => ?_) (fun _ => ?_))
    refine nx_again (i + 1) (by omega) (by omega) (cov_cons rfl rfl (cov_cons rfl rfl (cov_cons rfl rfl (cov_cons rfl rfl cov_nil)))) ?_
    (try dsimp only [List.cons_append, List.nil_append, List.singleton_append, List.append_nil]); (repeat (first | exact Ent.nil | exact Ent.refl _ | (apply Ent.cons; (repeat (first | exact Sel.here | apply Sel.there)))))
  · have : i = l.length := by omega
    subst this
    repeat' (first | refine ls_of rfl ?_ | refine ls_of_no ?_ | refine ls_guard_yes rfl rfl ?_ | refine ls_guard_no rfl rfl rfl rfl ?_ | refine ls_guard_un rfl rfl rfl ?_ | refine o1_move rfl ?_ | refine o1_assign rfl ?_ | refine st_seq ?_ | refine st_region ?_ | refine st_block ?_ | refine st_skip ?_ | refine st_ret ?_ | refine st_exit ?_ | refine st_cond_t rfl ?_ | refine st_cond_f rfl ?_ | refine st_cond rfl (fun _ => ?_) (fun _ => ?_) | refine ls_nil ?_ | refine nx_seq ?_ | refine nx_blk ?_ | refine nx_fn ?_ | refine nx_rounds ?_ | refine xt_seq ?_ | refine xt_here ?_ | refine xt_on rfl ?_ | refine xt_rounds ?_ | refine xt_cut ?_ | refine rt_seq ?_ | refine rt_blk ?_ | refine rt_rounds ?_ | refine rt_cut ?_ | refine ox_load rfl (by rfl) ?_ | refine ox_load_enc rfl (by first | omega | (simp; omega)) ?_ | refine ox_load_any rfl (by assumption) ?_ | refine o1_len rfl ?_ | refine o1_add rfl rfl (by omega) ?_ | refine o1_lss_t rfl rfl (by omega) ?_ | refine o1_lss_f rfl rfl (by omega) ?_ | refine o1_lss rfl rfl (fun _ => ?_) (fun _ => ?_))
    refine rt_tmp (b1, a1, c1) rfl rfl rfl trivial ?_
    rw [List.take_length]
    (try dsimp only [List.cons_append, List.nil_append, List.singleton_append, List.append_nil]); (repeat (first | exact Ent.nil | exact Ent.refl _ | (apply Ent.cons; (repeat (first | exact Sel.here | apply Sel.there)))))
end Go.Dp

set_option linter.unusedVariables false
set_option linter.unusedSimpArgs false
namespace Go.Dp
open Go.RowKit Go.Proofs
section
variable {P : Program} {n : Nat} {H : List Hl} {e : Ev} {C : Value → List Hl → Prop} {ty t t' : TypeId} {x y : Operand} {p : Int}
theorem o1_band127 (hx : opd e x = some (.int .i64 p)) (hy : opd e y = some (.int .i64 127)) (hb : 0 ≤ p ∧ p ≤ 9223372036854775807) (h : C (.int .i64 (p % 128)) H) : O1 P (.binOp .and t x y t') ty n e H C :=
  o1_num hx hy (fun w => by
    have e1 : (p % ((2 ^ IntKind.bits .i64 : Nat) : Int)).toNat = p.toNat := by
      rw [show (2 ^ IntKind.bits .i64 : Nat) = 18446744073709551616 from rfl]; omega
    have e2 : ((127 : Int) % ((2 ^ IntKind.bits .i64 : Nat) : Int)).toNat = 127 := by rfl
    have e3 : p.toNat &&& 127 = p.toNat % 128 := Nat.and_two_pow_sub_one_eq_mod p.toNat 7
    have hw : IntKind.i64.wrap ((BitVec.ofInt (IntKind.bits .i64) p &&& BitVec.ofInt (IntKind.bits .i64) 127).toNat : Int) = p % 128 := by
      rw [BitVec.toNat_and, BitVec.toNat_ofInt, BitVec.toNat_ofInt, e1, e2, e3, wrap_in (by omega) (by omega)]
      omega
    rw [binOp_and]
    simp only [Op.intBits, Sem.run_pure]
    rw [hw]) h
end
theorem bits_OnesCount64 (H : List Hl) (x : BitVec 64) :
    Spec Tryd.prog 53 [W8 x] H (fun _ : Unit => True) (fun _ => I (popc x)) (fun _ => H) := by
  refine spec_pure (res := fun _ => []) H Tryd.func53 rfl Tryd.ntmps53 (by kernel_rfl) rfl (fun W => ?_)
  obtain ⟨y, hy⟩ : ∃ y, swar4 (swar2 (swar1 x)) = y := ⟨_, rfl⟩
  obtain ⟨z, hz⟩ : ∃ z, y + (y >>> 8) = z := ⟨_, rfl⟩
  obtain ⟨u, hu⟩ : ∃ u, z + (z >>> 16) = u := ⟨_, rfl⟩
  obtain ⟨v, hv⟩ : ∃ v, u + (u >>> 32) = v := ⟨_, rfl⟩
  obtain ⟨q1, q2⟩ := swar_popc x y z u v hy hz hu hv
  have k1 : ∀ x : BitVec 64, ((x >>> (1 : Int).toNat) &&& 0x5555555555555555#64) + (x &&& 0x5555555555555555#64) = swar1 x := fun _ => rfl
  have k2 : ∀ x : BitVec 64, ((x >>> (2 : Int).toNat) &&& 0x3333333333333333#64) + (x &&& 0x3333333333333333#64) = swar2 x := fun _ => rfl
  have k3 : ∀ x : BitVec 64, ((x >>> (4 : Int).toNat) + x) &&& 0x0f0f0f0f0f0f0f0f#64 = swar4 x := fun _ => rfl
  have k4 : y + (y >>> (8 : Int).toNat) = z := hz
  have k5 : z + (z >>> (16 : Int).toNat) = u := hu
  have k6 : u + (u >>> (32 : Int).toNat) = v := hv
  repeat' (first | refine ls_of rfl ?_ | refine ls_of_no ?_ | refine ls_guard_yes rfl rfl ?_ | refine ls_guard_no rfl rfl rfl rfl ?_ | refine ls_guard_un rfl rfl rfl ?_ | refine o1_move rfl ?_ | refine o1_assign rfl ?_ | refine st_seq ?_ | refine st_region ?_ | refine st_block ?_ | refine st_skip ?_ | refine st_ret ?_ | refine st_exit ?_ | refine st_cond_t rfl ?_ | refine st_cond_f rfl ?_ | refine st_cond rfl (fun _ => ?_) (fun _ => ?_) | refine ls_nil ?_ | refine nx_seq ?_ | refine nx_blk ?_ | refine nx_fn ?_ | refine nx_rounds ?_ | refine xt_seq ?_ | refine xt_here ?_ | refine xt_on rfl ?_ | refine xt_rounds ?_ | refine xt_cut ?_ | refine rt_seq ?_ | refine rt_blk ?_ | refine rt_rounds ?_ | refine rt_cut ?_ | (refine o1_uadd rfl rfl ?_; rw [k1]) | (refine o1_uadd rfl rfl ?_; rw [k2]) | (refine o1_uadd rfl rfl ?_; rw [k4]) | (refine o1_uadd rfl rfl ?_; rw [k5]) | (refine o1_uadd rfl rfl ?_; rw [k6]) | (refine o1_uand (v := 0x0f0f0f0f0f0f0f0f#64) rfl rfl ?_; rw [k3, hy]) | refine o1_uand (v := 0x5555555555555555#64) rfl rfl ?_ | refine o1_uand (v := 0x3333333333333333#64) rfl rfl ?_ | refine o1_band127 rfl rfl (by omega) ?_ | refine o1_uand rfl rfl ?_ | refine o1_uadd rfl rfl ?_ | refine o1_ushr rfl rfl (by omega) ?_ | refine o1_conv_i rfl (by omega) ?_ | refine o1_conv_ui rfl (by exact bv_small (by decide) _) ?_)
  refine rt_tmp () rfl rfl ?_ trivial ?_
  · congr 1; omega
  (try dsimp only [List.cons_append, List.nil_append, List.singleton_append, List.append_nil]); (repeat (first | exact Ent.nil | exact Ent.refl _ | (apply Ent.cons; (repeat (first | exact Sel.here | apply Sel.there)))))
theorem vec_Count (H : List Hl) (v : VD) (h : RdV (stars H) v) :
    Spec Tryd.prog 20 [Pv v] H (fun _ : Unit => True) (fun _ => I (countV v.l)) (fun _ => H) := by
  refine spec_pure (res := fun _ => []) H Tryd.func20 rfl Tryd.ntmps20 (by kernel_rfl) rfl (fun W => ?_)
  have h4 := nw_4 h.ok.hi
  have hwl := h.ok.words
  have hle := h.w.le
  have hbg := h.w.big
  repeat' (first | refine ls_of rfl ?_ | refine ls_of_no ?_ | refine ls_guard_yes rfl rfl ?_ | refine ls_guard_no rfl rfl rfl rfl ?_ | refine ls_guard_un rfl rfl rfl ?_ | refine o1_move rfl ?_ | refine o1_assign rfl ?_ | refine st_seq ?_ | refine st_region ?_ | refine st_block ?_ | refine st_skip ?_ | refine st_ret ?_ | refine st_exit ?_ | refine st_cond_t rfl ?_ | refine st_cond_f rfl ?_ | refine st_cond rfl (fun _ => ?_) (fun _ => ?_) | refine ls_nil ?_ | refine nx_seq ?_ | refine nx_blk ?_ | refine nx_fn ?_ | refine nx_rounds ?_ | refine xt_seq ?_ | refine xt_here ?_ | refine xt_on rfl ?_ | refine xt_rounds ?_ | refine xt_cut ?_ | refine rt_seq ?_ | refine rt_blk ?_ | refine rt_rounds ?_ | refine rt_cut ?_ | refine o1_pneq rfl rfl ?_ | refine ox_load_any rfl h.s ?_ | refine o1_fieldAddr rfl ?_ | refine ox_load rfl (by rfl) ?_ | refine ox_load_enc rfl (by first | omega | (simp; omega)) ?_ | refine ox_load_any rfl (by assumption) ?_ | refine o1_len rfl ?_ | refine o1_add rfl rfl (by omega) ?_ | refine o1_lss_t rfl rfl (by omega) ?_ | refine o1_lss_f rfl rfl (by omega) ?_ | refine o1_lss rfl rfl (fun _ => ?_) (fun _ => ?_) | refine o1_slice_nil rfl ?_ | refine o1_nilCheck rfl ?_)
  refine st_loop (S := Nat) (fun i => [(3, I (cnt (at_ v.l) (64 * i))), (11, .slice v.a (nw v.n) v.c), (12, I (nw v.n)), (13, I i)]) (fun i => [.any (stars H)]) (fun i => i ≤ nw v.n) (fun i => nw v.n - i) 0 (Nat.zero_le _)
    (cov_cons rfl rfl (cov_cons rfl rfl (cov_cons rfl rfl (cov_cons rfl rfl cov_nil)))) (Ent.refl _) ?_
  intro i hi
  by_cases hlt : i < nw v.n
  · have hw : (words v.l)[i]? = some (wordOf v.l i) := words_at? _ _ (by rw [h.ok.len]; exact hlt)
    have hcw := count_words v.l i
    have hc1 := cnt_le (at_ v.l) (64 * (i + 1))
    have e1 : ((cnt (at_ v.l) (64 * i) : Nat) : Int) + (popc (wordOf v.l i) : Nat) = (cnt (at_ v.l) (64 * (i + 1)) : Nat) := by omega
    repeat' (first | refine ls_of rfl ?_ | refine ls_of_no ?_ | refine ls_guard_yes rfl rfl ?_ | refine ls_guard_no rfl rfl rfl rfl ?_ | refine ls_guard_un rfl rfl rfl ?_ | refine o1_move rfl ?_ | refine o1_assign rfl ?_ | refine st_seq ?_ | refine st_region ?_ | refine st_block ?_ | refine st_skip ?_ | refine st_ret ?_ | refine st_exit ?_ | refine st_cond_t rfl ?_ | refine st_cond_f rfl ?_ | refine st_cond rfl (fun _ => ?_) (fun _ => ?_) | refine ls_nil ?_ | refine nx_seq ?_ | refine nx_blk ?_ | refine nx_fn ?_ | refine nx_rounds ?_ | refine xt_seq ?_ | refine xt_here ?_ | refine xt_on rfl ?_ | refine xt_rounds ?_ | refine xt_cut ?_ | refine rt_seq ?_ | refine rt_blk ?_ | refine rt_rounds ?_ | refine rt_cut ?_ | refine o1_ia i rfl rfl h.w hwl.symm rfl (by omega) ?_ | refine o1_load_av i _ rfl h.w hw ?_ | refine o1_call (fun _ => bits_OnesCount64 _ (wordOf v.l i)) rfl (fun _ _ => ?_) | (refine o1_add rfl rfl (by omega) ?_; rw [e1]) | refine o1_fieldAddr rfl ?_ | refine ox_load rfl (by rfl) ?_ | refine ox_load_enc rfl (by first | omega | (simp; omega)) ?_ | refine ox_load_any rfl (by assumption) ?_ | refine o1_len rfl ?_ | refine o1_add rfl rfl (by omega) ?_ | refine o1_lss_t rfl rfl (by omega) ?_ | refine o1_lss_f rfl rfl (by omega) ?_ | refine o1_lss rfl rfl (fun _ => ?_) (fun _ => ?_) | refine o1_slice_nil rfl ?_ | refine o1_nilCheck rfl ?_)
    refine nx_again (i + 1) (by omega) (by omega) (cov_cons rfl rfl (cov_cons rfl rfl (cov_cons rfl rfl (cov_cons rfl rfl cov_nil)))) ?_
    (try dsimp only [List.cons_append, List.nil_append, List.singleton_append, List.append_nil]); (repeat (first | exact Ent.nil | exact Ent.refl _ | (apply Ent.cons; (repeat (first | exact Sel.here | apply Sel.there)))))
  · have : i = nw v.n := by omega
    subst this
    repeat' (first | refine ls_of rfl ?_ | refine ls_of_no ?_ | refine ls_guard_yes rfl rfl ?_ | refine ls_guard_no rfl rfl rfl rfl ?_ | refine ls_guard_un rfl rfl rfl ?_ | refine o1_move rfl ?_ | refine o1_assign rfl ?_ | refine st_seq ?_ | refine st_region ?_ | refine st_block ?_ | refine st_skip ?_ | refine st_ret ?_ | refine st_exit ?_ | refine st_cond_t rfl ?_ | refine st_cond_f rfl ?_ | refine st_cond rfl (fun _ => ?_) (fun _ => ?_) | refine ls_nil ?_ | refine nx_seq ?_ | refine nx_blk ?_ | refine nx_fn ?_ | refine nx_rounds ?_ | refine xt_seq ?_ | refine xt_here ?_ | refine xt_on rfl ?_ | refine xt_rounds ?_ | refine xt_cut ?_ | refine rt_seq ?_ | refine rt_blk ?_ | refine rt_rounds ?_ | refine rt_cut ?_ | refine o1_fieldAddr rfl ?_ | refine ox_load rfl (by rfl) ?_ | refine ox_load_enc rfl (by first | omega | (simp; omega)) ?_ | refine ox_load_any rfl (by assumption) ?_ | refine o1_len rfl ?_ | refine o1_add rfl rfl (by omega) ?_ | refine o1_lss_t rfl rfl (by omega) ?_ | refine o1_lss_f rfl rfl (by omega) ?_ | refine o1_lss rfl rfl (fun _ => ?_) (fun _ => ?_) | refine o1_slice_nil rfl ?_ | refine o1_nilCheck rfl ?_)
    refine rt_tmp () rfl rfl ?_ trivial ?_
    · show I _ = I _
      congr 1
      have := count_all v.l
      rw [h.ok.len] at this
      rw [this]
    (try dsimp only [List.cons_append, List.nil_append, List.singleton_append, List.append_nil]); (repeat (first | exact Ent.nil | exact Ent.refl _ | (apply Ent.cons; (repeat (first | exact Sel.here | apply Sel.there)))))
/-- The places that are set, of the first i. -/
def listT (l : List Bool) (i : Nat) : List Int := (placesN (at_ l) i).map Int.ofNat
theorem listT_on {l : List Bool} {i : Nat} (h : at_ l i = true) : listT l (i + 1) = listT l i ++ [(i : Int)] := by rw [listT, places_succ, h]; simp [listT]
theorem listT_off {l : List Bool} {i : Nat} (h : at_ l i = false) : listT l (i + 1) = listT l i := by rw [listT, places_succ, h]; simp [listT]
theorem listT_len (l : List Bool) (i : Nat) : (listT l i).length ≤ i := by rw [listT, List.length_map, places_len]; exact cnt_le _ _
theorem vec_List (H : List Hl) (v : VD) (h : RdV (stars H) v) :
    Spec Tryd.prog 21 [Pv v] H (fun _ : Option Addr × Nat => True) (fun r => .slice r.1 (listV v.l).length r.2) (fun r => .row 3 1 (.slice r.1 (listV v.l).length r.2) (listV v.l).length ((listV v.l).map I) :: H) := by
  refine spec_pure (res := fun r : Option Addr × Nat => [.row 3 1 (.slice r.1 (listV v.l).length r.2) (listV v.l).length ((listV v.l).map I)]) H Tryd.func21 rfl Tryd.ntmps21 (by kernel_rfl) rfl (fun W => ?_)
  have hn := h.ok.hi
  repeat' (first | refine ls_of rfl ?_ | refine ls_of_no ?_ | refine ls_guard_yes rfl rfl ?_ | refine ls_guard_no rfl rfl rfl rfl ?_ | refine ls_guard_un rfl rfl rfl ?_ | refine o1_move rfl ?_ | refine o1_assign rfl ?_ | refine st_seq ?_ | refine st_region ?_ | refine st_block ?_ | refine st_skip ?_ | refine st_ret ?_ | refine st_exit ?_ | refine st_cond_t rfl ?_ | refine st_cond_f rfl ?_ | refine st_cond rfl (fun _ => ?_) (fun _ => ?_) | refine ls_nil ?_ | refine nx_seq ?_ | refine nx_blk ?_ | refine nx_fn ?_ | refine nx_rounds ?_ | refine xt_seq ?_ | refine xt_here ?_ | refine xt_on rfl ?_ | refine xt_rounds ?_ | refine xt_cut ?_ | refine rt_seq ?_ | refine rt_blk ?_ | refine rt_rounds ?_ | refine rt_cut ?_ | refine o1_call (fun _ => vec_Len _ v (cl_up h.n)) rfl (fun _ _ => ?_) | refine o1_add rfl rfl (by omega) ?_ | refine o1_lss_t rfl rfl (by omega) ?_ | refine o1_lss_f rfl rfl (by omega) ?_ | refine o1_lss rfl rfl (fun _ => ?_) (fun _ => ?_) | refine o1_lit_B rfl rfl rfl rfl rfl (fun _ => ?_) | refine ox_append rfl rfl (rx_box rfl (by first | decide | omega)) rfl rfl (fun _ => rfl) (by omega) (by omega) (fun _ _ => ?_) | refine ox_append rfl rfl (rx_any (by assumption)) rfl rfl (fun _ => rfl) (by omega) (by omega) (fun _ _ => ?_) | refine ox_append rfl rfl rx_row rfl rfl (fun _ => rfl) (by omega) (by omega) (fun _ _ => ?_))
  refine st_ent (ent_nil 3 I) ?_
  refine st_loop (S := Nat × Option Addr × Nat) (fun s => [(0, Pv v), (3, .slice s.2.1 (listT v.l s.1).length s.2.2), (6, I v.n), (7, I s.1)]) (fun s => [.row 3 1 (.slice s.2.1 (listT v.l s.1).length s.2.2) (listT v.l s.1).length ((listT v.l s.1).map I), .any (stars H)]) (fun s => s.1 ≤ v.n) (fun s => v.n - s.1) (0, none, 0) (Nat.zero_le _)
    (cov_cons rfl rfl (cov_cons rfl rfl (cov_cons rfl rfl (cov_cons rfl rfl cov_nil)))) (by show Ent _ [.row 3 1 (.slice none 0 0) 0 [], .any (stars H)]; (try dsimp only [List.cons_append, List.nil_append, List.singleton_append, List.append_nil]); (repeat (first | exact Ent.nil | exact Ent.refl _ | (apply Ent.cons; (repeat (first | exact Sel.here | apply Sel.there)))))) ?_
  rintro ⟨i, a1, c1⟩ hi
  dsimp only at hi ⊢
  have hll := listT_len v.l i
  by_cases hlt : i < v.n
  · cases hb : at_ v.l i
    · repeat' (first | refine ls_of rfl ?_ | refine ls_of_no ?_ | refine ls_guard_yes rfl rfl ?_ | refine ls_guard_no rfl rfl rfl rfl ?_ | refine ls_guard_un rfl rfl rfl ?_ | refine o1_move rfl ?_ | refine o1_assign rfl ?_ | refine st_seq ?_ | refine st_region ?_ | refine st_block ?_ | refine st_skip ?_ | refine st_ret ?_ | refine st_exit ?_ | refine st_cond_t rfl ?_ | refine st_cond_f rfl ?_ | refine st_cond rfl (fun _ => ?_) (fun _ => ?_) | refine ls_nil ?_ | refine nx_seq ?_ | refine nx_blk ?_ | refine nx_fn ?_ | refine nx_rounds ?_ | refine xt_seq ?_ | refine xt_here ?_ | refine xt_on rfl ?_ | refine xt_rounds ?_ | refine xt_cut ?_ | refine rt_seq ?_ | refine rt_blk ?_ | refine rt_rounds ?_ | refine rt_cut ?_ | refine o1_call (fun _ => (vec_Has _ v i h.up).bv (b := false) (by rw [hasV_nat, hb])) rfl (fun _ _ => ?_) | refine o1_add rfl rfl (by omega) ?_ | refine o1_lss_t rfl rfl (by omega) ?_ | refine o1_lss_f rfl rfl (by omega) ?_ | refine o1_lss rfl rfl (fun _ => ?_) (fun _ => ?_) | refine o1_lit_B rfl rfl rfl rfl rfl (fun _ => ?_) | refine ox_append rfl rfl (rx_box rfl (by first | decide | omega)) rfl rfl (fun _ => rfl) (by omega) (by omega) (fun _ _ => ?_) | refine ox_append rfl rfl (rx_any (by assumption)) rfl rfl (fun _ => rfl) (by omega) (by omega) (fun _ _ => ?_) | refine ox_append rfl rfl rx_row rfl rfl (fun _ => rfl) (by omega) (by omega) (fun _ _ => ?_))
      refine nx_again (i + 1, a1, c1) (by show i + 1 ≤ v.n; omega) (by show v.n - (i + 1) < v.n - i; omega) (cov_cons rfl rfl (cov_cons rfl ?_ (cov_cons rfl rfl (cov_cons rfl rfl cov_nil)))) ?_
      · show Value.slice a1 _ c1 = Value.slice a1 (listT v.l (i + 1)).length c1
        rw [listT_off hb]
      · show Ent _ [.row 3 1 (.slice a1 (listT v.l (i + 1)).length c1) (listT v.l (i + 1)).length ((listT v.l (i + 1)).map I), .any (stars H)]
        rw [listT_off hb]
        (try dsimp only [List.cons_append, List.nil_append, List.singleton_append, List.append_nil]); (repeat (first | exact Ent.nil | exact Ent.refl _ | (apply Ent.cons; (repeat (first | exact Sel.here | apply Sel.there)))))
    · repeat' (first | refine ls_of rfl ?_ | refine ls_of_no ?_ | refine ls_guard_yes rfl rfl ?_ | refine ls_guard_no rfl rfl rfl rfl ?_ | refine ls_guard_un rfl rfl rfl ?_ | refine o1_move rfl ?_ | refine o1_assign rfl ?_ | refine st_seq ?_ | refine st_region ?_ | refine st_block ?_ | refine st_skip ?_ | refine st_ret ?_ | refine st_exit ?_ | refine st_cond_t rfl ?_ | refine st_cond_f rfl ?_ | refine st_cond rfl (fun _ => ?_) (fun _ => ?_) | refine ls_nil ?_ | refine nx_seq ?_ | refine nx_blk ?_ | refine nx_fn ?_ | refine nx_rounds ?_ | refine xt_seq ?_ | refine xt_here ?_ | refine xt_on rfl ?_ | refine xt_rounds ?_ | refine xt_cut ?_ | refine rt_seq ?_ | refine rt_blk ?_ | refine rt_rounds ?_ | refine rt_cut ?_ | refine o1_call (fun _ => (vec_Has _ v i h.up).bv (b := true) (by rw [hasV_nat, hb])) rfl (fun _ _ => ?_) | refine o1_lit_enc I [(i : Int)] rfl rfl rfl (fun _ => rfl) rfl rfl rfl (fun b3 => ?_) | refine ox_append (xs := listT v.l i) (ys := [(i : Int)]) rfl rfl (rx_box rfl (by decide)) rfl rfl (fun _ => rfl) (by omega) (by omega) (fun a4 c4 => ?_) | refine o1_add rfl rfl (by omega) ?_ | refine o1_lss_t rfl rfl (by omega) ?_ | refine o1_lss_f rfl rfl (by omega) ?_ | refine o1_lss rfl rfl (fun _ => ?_) (fun _ => ?_) | refine o1_lit_B rfl rfl rfl rfl rfl (fun _ => ?_) | refine ox_append rfl rfl (rx_box rfl (by first | decide | omega)) rfl rfl (fun _ => rfl) (by omega) (by omega) (fun _ _ => ?_) | refine ox_append rfl rfl (rx_any (by assumption)) rfl rfl (fun _ => rfl) (by omega) (by omega) (fun _ _ => ?_) | refine ox_append rfl rfl rx_row rfl rfl (fun _ => rfl) (by omega) (by omega) (fun _ _ => ?_))
      refine nx_again (i + 1, a4, c4) (by show i + 1 ≤ v.n; omega) (by show v.n - (i + 1) < v.n - i; omega) (cov_cons rfl rfl (cov_cons rfl ?_ (cov_cons rfl rfl (cov_cons rfl rfl cov_nil)))) ?_
      · show _ = Value.slice a4 (listT v.l (i + 1)).length c4
        rw [listT_on hb, List.length_append]
        rfl
      · show Ent _ [.row 3 1 (.slice a4 (listT v.l (i + 1)).length c4) (listT v.l (i + 1)).length ((listT v.l (i + 1)).map I), .any (stars H)]
        rw [listT_on hb, List.length_append]
        (try dsimp only [List.cons_append, List.nil_append, List.singleton_append, List.append_nil]); (repeat (first | exact Ent.nil | exact Ent.refl _ | (apply Ent.cons; (repeat (first | exact Sel.here | apply Sel.there)))))
  · have : i = v.n := by omega
    subst this
    have e1 : listT v.l v.n = listV v.l := by rw [listT, listV, h.ok.len]
    rw [e1]
    repeat' (first | refine ls_of rfl ?_ | refine ls_of_no ?_ | refine ls_guard_yes rfl rfl ?_ | refine ls_guard_no rfl rfl rfl rfl ?_ | refine ls_guard_un rfl rfl rfl ?_ | refine o1_move rfl ?_ | refine o1_assign rfl ?_ | refine st_seq ?_ | refine st_region ?_ | refine st_block ?_ | refine st_skip ?_ | refine st_ret ?_ | refine st_exit ?_ | refine st_cond_t rfl ?_ | refine st_cond_f rfl ?_ | refine st_cond rfl (fun _ => ?_) (fun _ => ?_) | refine ls_nil ?_ | refine nx_seq ?_ | refine nx_blk ?_ | refine nx_fn ?_ | refine nx_rounds ?_ | refine xt_seq ?_ | refine xt_here ?_ | refine xt_on rfl ?_ | refine xt_rounds ?_ | refine xt_cut ?_ | refine rt_seq ?_ | refine rt_blk ?_ | refine rt_rounds ?_ | refine rt_cut ?_ | refine o1_add rfl rfl (by omega) ?_ | refine o1_lss_t rfl rfl (by omega) ?_ | refine o1_lss_f rfl rfl (by omega) ?_ | refine o1_lss rfl rfl (fun _ => ?_) (fun _ => ?_) | refine o1_lit_B rfl rfl rfl rfl rfl (fun _ => ?_) | refine ox_append rfl rfl (rx_box rfl (by first | decide | omega)) rfl rfl (fun _ => rfl) (by omega) (by omega) (fun _ _ => ?_) | refine ox_append rfl rfl (rx_any (by assumption)) rfl rfl (fun _ => rfl) (by omega) (by omega) (fun _ _ => ?_) | refine ox_append rfl rfl rx_row rfl rfl (fun _ => rfl) (by omega) (by omega) (fun _ _ => ?_))
    refine rt_tmp (a1, c1) rfl rfl rfl trivial ?_
    (try dsimp only [List.cons_append, List.nil_append, List.singleton_append, List.append_nil]); (repeat (first | exact Ent.nil | exact Ent.refl _ | (apply Ent.cons; (repeat (first | exact Sel.here | apply Sel.there)))))
end Go.Dp

set_option linter.unusedVariables false
set_option linter.unusedSimpArgs false
namespace Go.Dp
open Go.RowKit Go.Proofs
end Go.Dp

set_option linter.unusedVariables false
set_option linter.unusedSimpArgs false
namespace Go.Dp
open Go.RowKit Go.Proofs
/-- The table of the library's, as it was laid. -/
structure TabF (A : Hp → Prop) : Prop where
  c : ∀ j, j < 64 → Cl A ⟨0, j, none⟩ (.int .u8 ((Go.Lib.deBruijn64tab.getD j 0 : Nat) : Int))
theorem TabF.up {A : Hp → Prop} {H H' : List Hl} (h : TabF A) [s : SAny H A H'] : TabF (stars H) := ⟨fun j hj => cl_up (h.c j hj)⟩
section
variable {P : Program} {n : Nat} {H : List Hl} {e : Ev} {C : Value → List Hl → Prop} {ty t : TypeId} {x : Operand} {u : BitVec 64}
theorem o1_neg64 (hx : opd e x = some (.int .u64 u.toNat)) (h : C (.int .u64 (-u).toNat) H) : O1 P (.unOp .neg t x) ty n e H C :=
  o1_val _ (fun a w ho => by
    have hw : IntKind.u64.wrap (-(u.toNat : Int)) = ((-u).toNat : Int) := by
      rw [IntKind.wrap_u64, BitVec.toNat_neg]
      omega
    simp [execOp, ho.ev.eval hx, unary_neg, Op.intArith, hw]) h
end
theorem tz_key (x : BitVec 64) (h0 : x ≠ 0#64) : ∃ k idx : Nat, k < 64 ∧ idx < 64 ∧ k = Go.Lib.ctz 64 x.toNat ∧ (((x &&& -x) * 285870213051353865#64) >>> 58).toNat = idx ∧ Go.Lib.deBruijn64tab.getD idx 0 = k := by
  have hx : x.toNat ≠ 0 := fun e => h0 (BitVec.eq_of_toNat_eq (by simpa using e))
  obtain ⟨hlow, hk⟩ := Go.Lib.lowest_bit 64 x.toNat hx x.isLt
  obtain ⟨hi, htab⟩ := Go.Lib.deBruijn64_at _ hk
  refine ⟨_, _, hk, hi, rfl, ?_, htab⟩
  have e1 : (-x).toNat = 2 ^ 64 - x.toNat := by
    rw [BitVec.toNat_neg]
    have := x.isLt
    omega
  rw [BitVec.toNat_ushiftRight, BitVec.toNat_mul, BitVec.toNat_and, e1, hlow, Nat.shiftRight_eq_div_pow]
  rfl
theorem bits_TZ64 (H : List Hl) (x : BitVec 64) (h0 : x ≠ 0#64) (ht : TabF (stars H)) :
    Spec Tryd.prog 63 [W8 x] H (fun _ : Unit => True) (fun _ => I (Go.Lib.ctz 64 x.toNat)) (fun _ => H) := by
  refine spec_pure (res := fun _ => []) H Tryd.func63 rfl Tryd.ntmps63 (by kernel_rfl) rfl (fun W => ?_)
  have hx : ¬ (x.toNat : Int) = 0 := fun e => h0 (BitVec.eq_of_toNat_eq (by simp; omega))
  obtain ⟨k, idx, h1, h2, h3, h4, h5⟩ := tz_key x h0
  have hc := ht.c idx h2
  rw [h5] at hc
  have h6 : 0 + ((((x &&& -x) * 285870213051353865#64) >>> (58 : Int).toNat).toNat : Int).toNat * 1 = idx := by
    rw [show (58 : Int).toNat = 58 from rfl, h4]; omega
  have h7 : 0 ≤ ((((x &&& -x) * 285870213051353865#64) >>> (58 : Int).toNat).toNat : Int) ∧ ((((x &&& -x) * 285870213051353865#64) >>> (58 : Int).toNat).toNat : Int) < (64 : Nat) := by
    rw [show (58 : Int).toNat = 58 from rfl, h4]; omega
  repeat' (first | refine ls_of rfl ?_ | refine ls_of_no ?_ | refine ls_guard_yes rfl rfl ?_ | refine ls_guard_no rfl rfl rfl rfl ?_ | refine ls_guard_un rfl rfl rfl ?_ | refine o1_move rfl ?_ | refine o1_assign rfl ?_ | refine st_seq ?_ | refine st_region ?_ | refine st_block ?_ | refine st_skip ?_ | refine st_ret ?_ | refine st_exit ?_ | refine st_cond_t rfl ?_ | refine st_cond_f rfl ?_ | refine st_cond rfl (fun _ => ?_) (fun _ => ?_) | refine ls_nil ?_ | refine nx_seq ?_ | refine nx_blk ?_ | refine nx_fn ?_ | refine nx_rounds ?_ | refine xt_seq ?_ | refine xt_here ?_ | refine xt_on rfl ?_ | refine xt_rounds ?_ | refine xt_cut ?_ | refine rt_seq ?_ | refine rt_blk ?_ | refine rt_rounds ?_ | refine rt_cut ?_ | refine o1_eql_f rfl rfl hx ?_ | refine o1_neg64 rfl ?_ | refine o1_umul (v := 285870213051353865#64) rfl rfl ?_ | (refine o1_indexAddr_arr rfl rfl h7 ?_; rw [h6]) | refine ox_load_any rfl hc ?_ | refine ox_load rfl (by rfl) ?_ | refine ox_load_enc rfl (by first | omega | (simp; omega)) ?_ | refine ox_load_any rfl (by assumption) ?_ | refine o1_eql_t rfl rfl (by omega) ?_ | refine o1_eql_f rfl rfl (by omega) ?_ | refine o1_eql rfl rfl (fun _ => ?_) (fun _ => ?_) | refine o1_bnot rfl ?_ | refine o1_uand rfl rfl ?_ | refine o1_umul rfl rfl ?_ | refine o1_ushr rfl rfl (by omega) ?_ | refine o1_unot rfl ?_ | refine o1_conv_i rfl (by omega) ?_ | refine o1_conv_ui rfl (by exact bv_small (by decide) _) ?_)
  refine rt_tmp () rfl rfl ?_ trivial ?_
  · rw [h3]
  (try dsimp only [List.cons_append, List.nil_append, List.singleton_append, List.append_nil]); (repeat (first | exact Ent.nil | exact Ent.refl _ | (apply Ent.cons; (repeat (first | exact Sel.here | apply Sel.there)))))
theorem vec_First (H : List Hl) (v : VD) (h : RdV (stars H) v) (ht : TabF (stars H)) :
    Spec Tryd.prog 36 [Pv v] H (fun _ : Unit => True) (fun _ => I (firstV v.l)) (fun _ => H) := by
  refine spec_pure (res := fun _ => []) H Tryd.func36 rfl Tryd.ntmps36 (by kernel_rfl) rfl (fun W => ?_)
  have h4 := nw_4 h.ok.hi
  have hwl := h.ok.words
  have hle := h.w.le
  have hbg := h.w.big
  repeat' (first | refine ls_of rfl ?_ | refine ls_of_no ?_ | refine ls_guard_yes rfl rfl ?_ | refine ls_guard_no rfl rfl rfl rfl ?_ | refine ls_guard_un rfl rfl rfl ?_ | refine o1_move rfl ?_ | refine o1_assign rfl ?_ | refine st_seq ?_ | refine st_region ?_ | refine st_block ?_ | refine st_skip ?_ | refine st_ret ?_ | refine st_exit ?_ | refine st_cond_t rfl ?_ | refine st_cond_f rfl ?_ | refine st_cond rfl (fun _ => ?_) (fun _ => ?_) | refine ls_nil ?_ | refine nx_seq ?_ | refine nx_blk ?_ | refine nx_fn ?_ | refine nx_rounds ?_ | refine xt_seq ?_ | refine xt_here ?_ | refine xt_on rfl ?_ | refine xt_rounds ?_ | refine xt_cut ?_ | refine rt_seq ?_ | refine rt_blk ?_ | refine rt_rounds ?_ | refine rt_cut ?_ | refine o1_peql rfl rfl ?_ | refine ox_load_any rfl h.s ?_ | refine o1_fieldAddr rfl ?_ | refine ox_load rfl (by rfl) ?_ | refine ox_load_enc rfl (by first | omega | (simp; omega)) ?_ | refine ox_load_any rfl (by assumption) ?_ | refine o1_len rfl ?_ | refine o1_add rfl rfl (by omega) ?_ | refine o1_lss_t rfl rfl (by omega) ?_ | refine o1_lss_f rfl rfl (by omega) ?_ | refine o1_lss rfl rfl (fun _ => ?_) (fun _ => ?_) | refine o1_neq_t rfl rfl (by omega) ?_ | refine o1_neq_f rfl rfl (by omega) ?_ | refine o1_neq rfl rfl (fun _ => ?_) (fun _ => ?_) | refine o1_slice_nil rfl ?_ | refine o1_nilCheck rfl ?_)
  refine st_loop (S := Nat) (fun i => [(10, .slice v.a (nw v.n) v.c), (11, I (nw v.n)), (12, I i)]) (fun i => [.any (stars H)]) (fun i => i ≤ nw v.n ∧ ∀ j, j < 64 * i → at_ v.l j = false) (fun i => nw v.n - i) 0 ⟨Nat.zero_le _, by omega⟩
    (cov_cons rfl rfl (cov_cons rfl rfl (cov_cons rfl rfl cov_nil))) (Ent.refl _) ?_
  rintro i ⟨hi, hno⟩
  by_cases hlt : i < nw v.n
  · have hw : (words v.l)[i]? = some (wordOf v.l i) := words_at? _ _ (by rw [h.ok.len]; exact hlt)
    by_cases hz : wordOf v.l i = 0#64
    · have hz0 : ((wordOf v.l i).toNat : Int) = 0 := by rw [hz]; rfl
      repeat' (first | refine ls_of rfl ?_ | refine ls_of_no ?_ | refine ls_guard_yes rfl rfl ?_ | refine ls_guard_no rfl rfl rfl rfl ?_ | refine ls_guard_un rfl rfl rfl ?_ | refine o1_move rfl ?_ | refine o1_assign rfl ?_ | refine st_seq ?_ | refine st_region ?_ | refine st_block ?_ | refine st_skip ?_ | refine st_ret ?_ | refine st_exit ?_ | refine st_cond_t rfl ?_ | refine st_cond_f rfl ?_ | refine st_cond rfl (fun _ => ?_) (fun _ => ?_) | refine ls_nil ?_ | refine nx_seq ?_ | refine nx_blk ?_ | refine nx_fn ?_ | refine nx_rounds ?_ | refine xt_seq ?_ | refine xt_here ?_ | refine xt_on rfl ?_ | refine xt_rounds ?_ | refine xt_cut ?_ | refine rt_seq ?_ | refine rt_blk ?_ | refine rt_rounds ?_ | refine rt_cut ?_ | refine o1_ia i rfl rfl h.w hwl.symm rfl (by omega) ?_ | refine o1_load_av i _ rfl h.w hw ?_ | refine o1_neq_f rfl rfl hz0 ?_ | refine o1_fieldAddr rfl ?_ | refine ox_load rfl (by rfl) ?_ | refine ox_load_enc rfl (by first | omega | (simp; omega)) ?_ | refine ox_load_any rfl (by assumption) ?_ | refine o1_len rfl ?_ | refine o1_add rfl rfl (by omega) ?_ | refine o1_lss_t rfl rfl (by omega) ?_ | refine o1_lss_f rfl rfl (by omega) ?_ | refine o1_lss rfl rfl (fun _ => ?_) (fun _ => ?_) | refine o1_neq_t rfl rfl (by omega) ?_ | refine o1_neq_f rfl rfl (by omega) ?_ | refine o1_neq rfl rfl (fun _ => ?_) (fun _ => ?_) | refine o1_slice_nil rfl ?_ | refine o1_nilCheck rfl ?_)
      refine nx_again (i + 1) ⟨by omega, ?_⟩ (by omega) (cov_cons rfl rfl (cov_cons rfl rfl (cov_cons rfl rfl cov_nil))) (Ent.refl _)
      intro j hj
      by_cases hj2 : j < 64 * i
      · exact hno j hj2
      · exact word_eq_zero hz j (by omega) hj
    · have hz0 : ((wordOf v.l i).toNat : Int) ≠ 0 := fun e => hz (BitVec.eq_of_toNat_eq (by simp; omega))
      obtain ⟨f1, f2⟩ := first_word hz hno
      repeat' (first | refine ls_of rfl ?_ | refine ls_of_no ?_ | refine ls_guard_yes rfl rfl ?_ | refine ls_guard_no rfl rfl rfl rfl ?_ | refine ls_guard_un rfl rfl rfl ?_ | refine o1_move rfl ?_ | refine o1_assign rfl ?_ | refine st_seq ?_ | refine st_region ?_ | refine st_block ?_ | refine st_skip ?_ | refine st_ret ?_ | refine st_exit ?_ | refine st_cond_t rfl ?_ | refine st_cond_f rfl ?_ | refine st_cond rfl (fun _ => ?_) (fun _ => ?_) | refine ls_nil ?_ | refine nx_seq ?_ | refine nx_blk ?_ | refine nx_fn ?_ | refine nx_rounds ?_ | refine xt_seq ?_ | refine xt_here ?_ | refine xt_on rfl ?_ | refine xt_rounds ?_ | refine xt_cut ?_ | refine rt_seq ?_ | refine rt_blk ?_ | refine rt_rounds ?_ | refine rt_cut ?_ | refine o1_ia i rfl rfl h.w hwl.symm rfl (by omega) ?_ | refine o1_load_av i _ rfl h.w hw ?_ | refine o1_neq_t rfl rfl hz0 ?_ | refine o1_mul rfl rfl (by omega) ?_ | refine o1_call (fun _ => bits_TZ64 _ (wordOf v.l i) hz ht.up) rfl (fun _ _ => ?_) | refine o1_fieldAddr rfl ?_ | refine ox_load rfl (by rfl) ?_ | refine ox_load_enc rfl (by first | omega | (simp; omega)) ?_ | refine ox_load_any rfl (by assumption) ?_ | refine o1_len rfl ?_ | refine o1_add rfl rfl (by omega) ?_ | refine o1_lss_t rfl rfl (by omega) ?_ | refine o1_lss_f rfl rfl (by omega) ?_ | refine o1_lss rfl rfl (fun _ => ?_) (fun _ => ?_) | refine o1_neq_t rfl rfl (by omega) ?_ | refine o1_neq_f rfl rfl (by omega) ?_ | refine o1_neq rfl rfl (fun _ => ?_) (fun _ => ?_) | refine o1_slice_nil rfl ?_ | refine o1_nilCheck rfl ?_)
      refine rt_tmp () rfl rfl ?_ trivial ?_
      · show I _ = I _
        congr 1
        omega
      (try dsimp only [List.cons_append, List.nil_append, List.singleton_append, List.append_nil]); (repeat (first | exact Ent.nil | exact Ent.refl _ | (apply Ent.cons; (repeat (first | exact Sel.here | apply Sel.there)))))
  · have : i = nw v.n := by omega
    subst this
    repeat' (first | refine ls_of rfl ?_ | refine ls_of_no ?_ | refine ls_guard_yes rfl rfl ?_ | refine ls_guard_no rfl rfl rfl rfl ?_ | refine ls_guard_un rfl rfl rfl ?_ | refine o1_move rfl ?_ | refine o1_assign rfl ?_ | refine st_seq ?_ | refine st_region ?_ | refine st_block ?_ | refine st_skip ?_ | refine st_ret ?_ | refine st_exit ?_ | refine st_cond_t rfl ?_ | refine st_cond_f rfl ?_ | refine st_cond rfl (fun _ => ?_) (fun _ => ?_) | refine ls_nil ?_ | refine nx_seq ?_ | refine nx_blk ?_ | refine nx_fn ?_ | refine nx_rounds ?_ | refine xt_seq ?_ | refine xt_here ?_ | refine xt_on rfl ?_ | refine xt_rounds ?_ | refine xt_cut ?_ | refine rt_seq ?_ | refine rt_blk ?_ | refine rt_rounds ?_ | refine rt_cut ?_ | refine o1_fieldAddr rfl ?_ | refine ox_load rfl (by rfl) ?_ | refine ox_load_enc rfl (by first | omega | (simp; omega)) ?_ | refine ox_load_any rfl (by assumption) ?_ | refine o1_len rfl ?_ | refine o1_add rfl rfl (by omega) ?_ | refine o1_lss_t rfl rfl (by omega) ?_ | refine o1_lss_f rfl rfl (by omega) ?_ | refine o1_lss rfl rfl (fun _ => ?_) (fun _ => ?_) | refine o1_neq_t rfl rfl (by omega) ?_ | refine o1_neq_f rfl rfl (by omega) ?_ | refine o1_neq rfl rfl (fun _ => ?_) (fun _ => ?_) | refine o1_slice_nil rfl ?_ | refine o1_nilCheck rfl ?_)
    refine rt_tmp () rfl rfl ?_ trivial ?_
    · rw [firstV_none (l := v.l) (fun j hj => hno j (by rw [h.ok.len] at hj; unfold nw; omega))]
    (try dsimp only [List.cons_append, List.nil_append, List.singleton_append, List.append_nil]); (repeat (first | exact Ent.nil | exact Ent.refl _ | (apply Ent.cons; (repeat (first | exact Sel.here | apply Sel.there)))))
theorem vec_Bytes (H : List Hl) (v : VD) (h : RdV (stars H) v) :
    Spec Tryd.prog 37 [Pv v] H (fun _ : Nat => True) (fun b => .slice (some ⟨b, 0, none⟩) (nb v.n) (nb v.n)) (fun b => .box b 5 ((bytesV v.l).map B) :: H) := by
  refine spec_pure (res := fun b : Nat => [.box b 5 ((bytesV v.l).map B)]) H Tryd.func37 rfl Tryd.ntmps37 (by kernel_rfl) rfl (fun W => ?_)
  have h256 := h.ok.hi
  have hwl := h.ok.words
  have hnb : nb v.n ≤ 32 := by unfold nb; omega
  have hq : ((v.n : Int) + 7) / 8 = (nb v.n : Nat) := by unfold nb; omega
  obtain ⟨R, hR⟩ : ∃ R, bytesV v.l = R := ⟨_, rfl⟩
  have hRl : R.length = nb v.n := by rw [← hR, bytesV_len, h.ok.len]
  have hz : R.length = (List.replicate (nb v.n) 0#8).length := by rw [hRl, List.length_replicate]
  rw [hR]
  repeat' (first | refine ls_of rfl ?_ | refine ls_of_no ?_ | refine ls_guard_yes rfl rfl ?_ | refine ls_guard_no rfl rfl rfl rfl ?_ | refine ls_guard_un rfl rfl rfl ?_ | refine o1_move rfl ?_ | refine o1_assign rfl ?_ | refine st_seq ?_ | refine st_region ?_ | refine st_block ?_ | refine st_skip ?_ | refine st_ret ?_ | refine st_exit ?_ | refine st_cond_t rfl ?_ | refine st_cond_f rfl ?_ | refine st_cond rfl (fun _ => ?_) (fun _ => ?_) | refine ls_nil ?_ | refine nx_seq ?_ | refine nx_blk ?_ | refine nx_fn ?_ | refine nx_rounds ?_ | refine xt_seq ?_ | refine xt_here ?_ | refine xt_on rfl ?_ | refine xt_rounds ?_ | refine xt_cut ?_ | refine rt_seq ?_ | refine rt_blk ?_ | refine rt_rounds ?_ | refine rt_cut ?_ | refine o1_peql rfl rfl ?_ | refine ox_load_any rfl h.n ?_ | (refine o1_quo rfl rfl (by omega) ?_; rw [hq]) | refine o1_maker (enc := B) 0#8 (nb v.n) rfl rfl rfl rfl rfl (by omega) (by omega) (fun b3 => ?_) | refine o1_fieldAddr rfl ?_ | refine ox_load rfl (by rfl) ?_ | refine ox_load_enc rfl (by first | omega | (simp; omega)) ?_ | refine ox_load_any rfl (by assumption) ?_ | refine o1_len rfl ?_ | refine o1_add rfl rfl (by omega) ?_ | refine o1_lss_t rfl rfl (by omega) ?_ | refine o1_lss_f rfl rfl (by omega) ?_ | refine o1_lss rfl rfl (fun _ => ?_) (fun _ => ?_) | refine o1_ushr rfl rfl (by omega) ?_ | refine o1_conv_uu rfl ?_ | refine o1_rem_nn rfl rfl (by omega) ?_ | refine o1_maken (enc := B) 0#8 rfl rfl rfl rfl (by omega) (by omega) (by omega) (fun _ => ?_) | refine o1_slice_nil rfl ?_ | refine ox_store_enc B rfl rfl (by first | omega | (simp; done) | (simp; omega)) rfl ?_ | refine ox_stores rfl rfl (by first | omega | (simp; done) | (simp; omega)) rfl (by first | (simp only [List.set_cons_zero, List.set_cons_succ, Nat.zero_add, Nat.reduceAdd]; rfl) | rfl) ?_ | refine o1_nilCheck rfl ?_)
  refine st_loop (S := Nat) (fun i => [(0, Pv v), (3, .slice (some ⟨b3, 0, none⟩) (nb v.n) (nb v.n)), (15, I (nb v.n)), (16, I i)]) (fun i => [.box b3 5 ((partL R (List.replicate (nb v.n) 0#8) i).map B), .any (stars H)]) (fun i => i ≤ nb v.n) (fun i => nb v.n - i) 0 (Nat.zero_le _)
    (cov_cons rfl rfl (cov_cons rfl rfl (cov_cons rfl rfl (cov_cons rfl rfl cov_nil)))) (by show Ent _ [.box b3 5 ((partL R (List.replicate (nb v.n) 0#8) 0).map B), .any (stars H)]; rw [partL_zero]; (try dsimp only [List.cons_append, List.nil_append, List.singleton_append, List.append_nil]); (repeat (first | exact Ent.nil | exact Ent.refl _ | (apply Ent.cons; (repeat (first | exact Sel.here | apply Sel.there)))))) ?_
  intro i hi
  by_cases hlt : i < nb v.n
  · have hql := partL_len hz i
    rw [List.length_replicate] at hql
    have hka : i < (partL R (List.replicate (nb v.n) 0#8) i).length := by omega
    have hset : (partL R (List.replicate (nb v.n) 0#8) i).set i (R[i]'(by omega)) = partL R (List.replicate (nb v.n) 0#8) (i + 1) := partL_succ hz (by omega)
    have hk : i * 8 / 64 < nw v.n := nw_nb hlt
    have hw : (words v.l)[i * 8 / 64]? = some (wordOf v.l (i * 8 / 64)) := words_at? _ _ (by rw [h.ok.len]; exact hk)
    have hsh : ((i : Int) * 8 % 64).toNat = i * 8 % 64 := by omega
    have hby : (wordOf v.l (i * 8 / 64) >>> (i * 8 % 64)).setWidth 8 = R[i]'(by omega) := by
      rw [byte_word]; subst hR; rw [bytesV_at]
    repeat' (first | refine ls_of rfl ?_ | refine ls_of_no ?_ | refine ls_guard_yes rfl rfl ?_ | refine ls_guard_no rfl rfl rfl rfl ?_ | refine ls_guard_un rfl rfl rfl ?_ | refine o1_move rfl ?_ | refine o1_assign rfl ?_ | refine st_seq ?_ | refine st_region ?_ | refine st_block ?_ | refine st_skip ?_ | refine st_ret ?_ | refine st_exit ?_ | refine st_cond_t rfl ?_ | refine st_cond_f rfl ?_ | refine st_cond rfl (fun _ => ?_) (fun _ => ?_) | refine ls_nil ?_ | refine nx_seq ?_ | refine nx_blk ?_ | refine nx_fn ?_ | refine nx_rounds ?_ | refine xt_seq ?_ | refine xt_here ?_ | refine xt_on rfl ?_ | refine xt_rounds ?_ | refine xt_cut ?_ | refine rt_seq ?_ | refine rt_blk ?_ | refine rt_rounds ?_ | refine rt_cut ?_ | refine ox_load_any rfl h.s ?_ | refine o1_mul rfl rfl (by omega) ?_ | refine o1_quo rfl rfl (by omega) ?_ | refine o1_ia (i * 8 / 64) rfl rfl h.w hwl.symm (by omega) (by omega) ?_ | refine o1_load_av (i * 8 / 64) _ rfl h.w hw ?_ | (refine o1_ushr rfl rfl (by omega) ?_; rw [hsh]) | (refine o1_conv_uu (m' := 8) rfl ?_; rw [hby]) | refine o1_own i rfl rfl rfl hlt ?_ | (refine ox_store_enc B (l := partL R (List.replicate (nb v.n) 0#8) i) rfl rfl hka rfl ?_; rw [hset]) | refine o1_fieldAddr rfl ?_ | refine ox_load rfl (by rfl) ?_ | refine ox_load_enc rfl (by first | omega | (simp; omega)) ?_ | refine ox_load_any rfl (by assumption) ?_ | refine o1_len rfl ?_ | refine o1_add rfl rfl (by omega) ?_ | refine o1_lss_t rfl rfl (by omega) ?_ | refine o1_lss_f rfl rfl (by omega) ?_ | refine o1_lss rfl rfl (fun _ => ?_) (fun _ => ?_) | refine o1_ushr rfl rfl (by omega) ?_ | refine o1_conv_uu rfl ?_ | refine o1_rem_nn rfl rfl (by omega) ?_ | refine o1_maken (enc := B) 0#8 rfl rfl rfl rfl (by omega) (by omega) (by omega) (fun _ => ?_) | refine o1_slice_nil rfl ?_ | refine ox_store_enc B rfl rfl (by first | omega | (simp; done) | (simp; omega)) rfl ?_ | refine ox_stores rfl rfl (by first | omega | (simp; done) | (simp; omega)) rfl (by first | (simp only [List.set_cons_zero, List.set_cons_succ, Nat.zero_add, Nat.reduceAdd]; rfl) | rfl) ?_ | refine o1_nilCheck rfl ?_)
    refine nx_again (i + 1) (by omega) (by omega) (cov_cons rfl rfl (cov_cons rfl rfl (cov_cons rfl rfl (cov_cons rfl rfl cov_nil)))) ?_
    (try dsimp only [List.cons_append, List.nil_append, List.singleton_append, List.append_nil]); (repeat (first | exact Ent.nil | exact Ent.refl _ | (apply Ent.cons; (repeat (first | exact Sel.here | apply Sel.there)))))
  · have : i = nb v.n := by omega
    subst this
    rw [partL_full hz (by rw [List.length_replicate])]
    repeat' (first | refine ls_of rfl ?_ | refine ls_of_no ?_ | refine ls_guard_yes rfl rfl ?_ | refine ls_guard_no rfl rfl rfl rfl ?_ | refine ls_guard_un rfl rfl rfl ?_ | refine o1_move rfl ?_ | refine o1_assign rfl ?_ | refine st_seq ?_ | refine st_region ?_ | refine st_block ?_ | refine st_skip ?_ | refine st_ret ?_ | refine st_exit ?_ | refine st_cond_t rfl ?_ | refine st_cond_f rfl ?_ | refine st_cond rfl (fun _ => ?_) (fun _ => ?_) | refine ls_nil ?_ | refine nx_seq ?_ | refine nx_blk ?_ | refine nx_fn ?_ | refine nx_rounds ?_ | refine xt_seq ?_ | refine xt_here ?_ | refine xt_on rfl ?_ | refine xt_rounds ?_ | refine xt_cut ?_ | refine rt_seq ?_ | refine rt_blk ?_ | refine rt_rounds ?_ | refine rt_cut ?_ | refine o1_fieldAddr rfl ?_ | refine ox_load rfl (by rfl) ?_ | refine ox_load_enc rfl (by first | omega | (simp; omega)) ?_ | refine ox_load_any rfl (by assumption) ?_ | refine o1_len rfl ?_ | refine o1_add rfl rfl (by omega) ?_ | refine o1_lss_t rfl rfl (by omega) ?_ | refine o1_lss_f rfl rfl (by omega) ?_ | refine o1_lss rfl rfl (fun _ => ?_) (fun _ => ?_) | refine o1_ushr rfl rfl (by omega) ?_ | refine o1_conv_uu rfl ?_ | refine o1_rem_nn rfl rfl (by omega) ?_ | refine o1_maken (enc := B) 0#8 rfl rfl rfl rfl (by omega) (by omega) (by omega) (fun _ => ?_) | refine o1_slice_nil rfl ?_ | refine ox_store_enc B rfl rfl (by first | omega | (simp; done) | (simp; omega)) rfl ?_ | refine ox_stores rfl rfl (by first | omega | (simp; done) | (simp; omega)) rfl (by first | (simp only [List.set_cons_zero, List.set_cons_succ, Nat.zero_add, Nat.reduceAdd]; rfl) | rfl) ?_ | refine o1_nilCheck rfl ?_)
    refine rt_tmp b3 rfl rfl rfl trivial ?_
    (try dsimp only [List.cons_append, List.nil_append, List.singleton_append, List.append_nil]); (repeat (first | exact Ent.nil | exact Ent.refl _ | (apply Ent.cons; (repeat (first | exact Sel.here | apply Sel.there)))))
end Go.Dp

set_option linter.unusedVariables false
set_option linter.unusedSimpArgs false
namespace Go.Dp
open Go.RowKit Go.Proofs
end Go.Dp

set_option linter.unusedVariables false
set_option linter.unusedSimpArgs false
namespace Go.Dp
open Go.RowKit Go.Proofs
def rtV6c_0 : List Row := [⟨some 5, [], [], none⟩, ⟨some 6, [0], [0], none⟩, ⟨some 7, [1], [0, 1], none⟩, ⟨some 8, [2], [0, 1, 2], none⟩, ⟨some 9, [], [], none⟩, ⟨some 10, [4], [4], none⟩, ⟨some 11, [5], [4, 5], none⟩, ⟨some 12, [6], [4, 5, 6], none⟩, ⟨some 13, [7], [4, 5, 6, 7], none⟩, ⟨some 14, [3, 8], [0, 1, 2, 3, 4, 5, 6, 7, 8], none⟩, ⟨some 15, [9], [0, 1, 2, 3, 4, 5, 6, 7, 8, 9], none⟩, ⟨some 2, [10, 8, 0, 1, 2, 3, 4, 5, 6, 7, 8, 9, 10], [0, 1, 2, 3, 4, 5, 6, 7, 8, 9, 10], none⟩]
def rtV6c_1 : List Row := [⟨some 6, [], [], none⟩, ⟨some 7, [0], [0], none⟩, ⟨some 8, [1], [0, 1], none⟩, ⟨some 9, [2], [0, 1, 2], some (2, false)⟩, ⟨some 10, [3, 2], [0, 1, 2, 3], some (2, false)⟩, ⟨some 11, [2, 4], [0, 1, 2, 3, 4], none⟩, ⟨some 12, [5, 2], [0, 1, 2, 3, 4, 5], none⟩, ⟨some 13, [6], [0, 1, 2, 3, 4, 5, 6], some (6, false)⟩, ⟨some 14, [7, 6], [0, 1, 2, 3, 4, 5, 6, 7], some (6, false)⟩, ⟨some 15, [8, 6], [0, 1, 2, 3, 4, 5, 6, 7, 8], some (6, false)⟩, ⟨some 16, [9, 6], [0, 1, 2, 3, 4, 5, 6, 7, 8, 9], some (6, false)⟩, ⟨some 17, [6], [0, 1, 2, 3, 4, 5, 6], some (6, false)⟩, ⟨some 18, [11, 6], [0, 1, 2, 3, 4, 5, 6, 11], some (6, false)⟩, ⟨some 19, [12, 6], [0, 1, 2, 3, 4, 5, 6, 11, 12], some (6, false)⟩, ⟨some 20, [13, 6], [0, 1, 2, 3, 4, 5, 6, 11, 12, 13], some (6, false)⟩, ⟨some 21, [10, 14, 6], [0, 1, 2, 3, 4, 5, 6, 7, 8, 9, 10, 11, 12, 13, 14], some (6, false)⟩, ⟨some 22, [6, 15], [0, 1, 2, 3, 4, 5, 6, 7, 8, 9, 10, 11, 12, 13, 14, 15], none⟩]
def rtV6c_2 : List Row := [⟨some 31, [], [], none⟩, ⟨some 32, [0], [0], none⟩, ⟨some 33, [1], [0, 1], none⟩, ⟨some 34, [2], [0, 1, 2], none⟩, ⟨some 35, [], [], none⟩, ⟨some 36, [3, 4], [0, 1, 2, 3, 4], none⟩, ⟨some 37, [5], [0, 1, 2, 3, 4, 5], none⟩, ⟨some 38, [], [], none⟩, ⟨some 39, [7], [7], none⟩, ⟨some 40, [8], [7, 8], none⟩, ⟨some 41, [9], [7, 8, 9], none⟩, ⟨some 42, [], [], none⟩, ⟨some 43, [10, 11], [7, 8, 9, 10, 11], none⟩, ⟨some 44, [12], [7, 8, 9, 10, 11, 12], none⟩, ⟨some 45, [6, 13], [0, 1, 2, 3, 4, 5, 6, 7, 8, 9, 10, 11, 12, 13], none⟩, ⟨some 46, [3, 4, 0, 1, 2, 3, 4, 5, 6, 7, 8, 9, 10, 11, 12, 13, 14], [0, 1, 2, 3, 4, 5, 6, 7, 8, 9, 10, 11, 12, 13, 14], none⟩, ⟨none, [15, 14, 0, 1, 2, 3, 4, 5, 6, 7, 8, 9, 10, 11, 12, 13, 14], [0, 1, 2, 3, 4, 5, 6, 7, 8, 9, 10, 11, 12, 13, 14, 15], none⟩]
theorem clone_W (H : List Hl) (ad : Option Addr) (c m : Nat) (l : List (BitVec 64)) (h : Rs (stars H) W8 ad c l) (hm : m = l.length) (hb : m ≤ 1000) :
    Spec Tryd.prog 50 [.slice ad m c] H (fun _ : Option Addr × Nat => True) (fun r => .slice r.1 m r.2) (fun r => .row 24 1 (.slice r.1 m r.2) m (l.map W8) :: H) := by
  refine spec_pure (res := fun r : Option Addr × Nat => [.row 24 1 (.slice r.1 m r.2) m (l.map W8)]) H Tryd.func50 rfl Tryd.ntmps50 (by kernel_rfl) rfl (fun W => ?_)
  cases ad with
  | none =>
    have hl : l = [] := by
      cases l with
      | nil => rfl
      | cons a l => obtain ⟨x, hx⟩ := h.sm (by simp); cases hx
    subst hl
    subst hm
    repeat' (first | refine ls_of rfl ?_ | refine ls_of_no ?_ | refine ls_guard_yes rfl rfl ?_ | refine ls_guard_no rfl rfl rfl rfl ?_ | refine ls_guard_un rfl rfl rfl ?_ | refine o1_move rfl ?_ | refine o1_assign rfl ?_ | refine st_seq ?_ | refine st_region ?_ | refine st_block ?_ | refine st_skip ?_ | refine st_ret ?_ | refine st_exit ?_ | refine st_cond_t rfl ?_ | refine st_cond_f rfl ?_ | refine st_cond rfl (fun _ => ?_) (fun _ => ?_) | refine ls_nil ?_ | refine nx_seq ?_ | refine nx_blk ?_ | refine nx_fn ?_ | refine nx_rounds ?_ | refine xt_seq ?_ | refine xt_here ?_ | refine xt_on rfl ?_ | refine xt_rounds ?_ | refine xt_cut ?_ | refine rt_seq ?_ | refine rt_blk ?_ | refine rt_rounds ?_ | refine rt_cut ?_ | refine o1_slice_nil rfl ?_ | refine o1_lit_B rfl rfl rfl rfl rfl (fun _ => ?_) | refine ox_append rfl rfl (rx_box rfl (by first | decide | omega)) rfl rfl (fun _ => rfl) (by omega) (by omega) (fun _ _ => ?_) | refine ox_append rfl rfl (rx_any (by assumption)) rfl rfl (fun _ => rfl) (by omega) (by omega) (fun _ _ => ?_) | refine ox_append rfl rfl rx_row rfl rfl (fun _ => rfl) (by omega) (by omega) (fun _ _ => ?_))
    refine (rt_ent (ent_nil 24 W8) ?_)
    refine rt_tmp (none, 0) rfl rfl rfl trivial ?_
    (try dsimp only [List.cons_append, List.nil_append, List.singleton_append, List.append_nil]); (repeat (first | exact Ent.nil | exact Ent.refl _ | (apply Ent.cons; (repeat (first | exact Sel.here | apply Sel.there)))))
  | some a =>
    repeat' (first | refine ls_of rfl ?_ | refine ls_of_no ?_ | refine ls_guard_yes rfl rfl ?_ | refine ls_guard_no rfl rfl rfl rfl ?_ | refine ls_guard_un rfl rfl rfl ?_ | refine o1_move rfl ?_ | refine o1_assign rfl ?_ | refine st_seq ?_ | refine st_region ?_ | refine st_block ?_ | refine st_skip ?_ | refine st_ret ?_ | refine st_exit ?_ | refine st_cond_t rfl ?_ | refine st_cond_f rfl ?_ | refine st_cond rfl (fun _ => ?_) (fun _ => ?_) | refine ls_nil ?_ | refine nx_seq ?_ | refine nx_blk ?_ | refine nx_fn ?_ | refine nx_rounds ?_ | refine xt_seq ?_ | refine xt_here ?_ | refine xt_on rfl ?_ | refine xt_rounds ?_ | refine xt_cut ?_ | refine rt_seq ?_ | refine rt_blk ?_ | refine rt_rounds ?_ | refine rt_cut ?_ | refine o1_lit_enc W8 ([] : List (BitVec 64)) rfl rfl rfl (fun _ => rfl) rfl rfl rfl (fun _ => ?_) | refine ox_append_box (enc := W8) (xs := ([] : List (BitVec 64))) rfl rfl rfl rfl (rx_any h) hm rfl (fun _ => rfl) (by omega) (by omega) (fun _ _ => ?_) | refine o1_slice_nil rfl ?_ | refine o1_lit_B rfl rfl rfl rfl rfl (fun _ => ?_) | refine ox_append rfl rfl (rx_box rfl (by first | decide | omega)) rfl rfl (fun _ => rfl) (by omega) (by omega) (fun _ _ => ?_) | refine ox_append rfl rfl (rx_any (by assumption)) rfl rfl (fun _ => rfl) (by omega) (by omega) (fun _ _ => ?_) | refine ox_append rfl rfl rx_row rfl rfl (fun _ => rfl) (by omega) (by omega) (fun _ _ => ?_))
    refine rt_tmp (_, _) rfl rfl (by simp only [Nat.zero_add]; rfl) trivial ?_
    simp only [Nat.zero_add, List.nil_append]
    (try dsimp only [List.cons_append, List.nil_append, List.singleton_append, List.append_nil]); (repeat (first | exact Ent.nil | exact Ent.refl _ | (apply Ent.cons; (repeat (first | exact Sel.here | apply Sel.there)))))
theorem vec_Copy (H : List Hl) (v : VD) (h : RdV (stars H) v) :
    Spec Tryd.prog 16 [Pv v] H (fun _ : Nat × Option Addr × Nat => True) (fun r => .pointer (some ⟨r.1, 0, none⟩)) (fun r => vB r.1 v.n r.2.1 r.2.2 :: vR v.n r.2.1 r.2.2 v.l :: H) := by
  refine spec_pure (res := fun r : Nat × Option Addr × Nat => [vB r.1 v.n r.2.1 r.2.2, vR v.n r.2.1 r.2.2 v.l]) H Tryd.func16 rfl Tryd.ntmps16 (by kernel_rfl) rfl (fun W => ?_)
  have h4 := nw_4 h.ok.hi
  have hwl := h.ok.words
  have e1 := h.n
  have e2 := h.s
  repeat' (first | refine ls_of rfl ?_ | refine ls_of_no ?_ | refine ls_guard_yes rfl rfl ?_ | refine ls_guard_no rfl rfl rfl rfl ?_ | refine ls_guard_un rfl rfl rfl ?_ | refine o1_move rfl ?_ | refine o1_assign rfl ?_ | refine st_seq ?_ | refine st_region ?_ | refine st_block ?_ | refine st_skip ?_ | refine st_ret ?_ | refine st_exit ?_ | refine st_cond_t rfl ?_ | refine st_cond_f rfl ?_ | refine st_cond rfl (fun _ => ?_) (fun _ => ?_) | refine ls_nil ?_ | refine nx_seq ?_ | refine nx_blk ?_ | refine nx_fn ?_ | refine nx_rounds ?_ | refine xt_seq ?_ | refine xt_here ?_ | refine xt_on rfl ?_ | refine xt_rounds ?_ | refine xt_cut ?_ | refine rt_seq ?_ | refine rt_blk ?_ | refine rt_rounds ?_ | refine rt_cut ?_ | refine o1_peql rfl rfl ?_ | refine o1_fieldAddr rfl ?_ | refine ox_load rfl (by rfl) ?_ | refine ox_load_enc rfl (by first | omega | (simp; omega)) ?_ | refine ox_load_any rfl (by assumption) ?_ | refine o1_box rfl rfl (fun _ => ?_) | refine o1_slice_nil rfl ?_ | refine o1_buildx rfl (by simp only [buildL, putL, List.set_cons_zero, List.set_cons_succ, List.getElem?_cons_zero, List.getElem?_cons_succ, Option.getD_some, Value.cells, Nat.zero_add, Nat.reduceAdd]; rfl) (fun _ => by kernel_rfl) ?_ | refine o1_nilCheck rfl ?_)
  refine st_stages [(0, _)] rtV6c_0 [8, 10] [⟨[0, 1, 2, 3, 4, 5, 6, 7], [], some 8⟩, ⟨[9], [0, 1, 2, 3], some 10⟩, ⟨[11], [], none⟩] mixed (cov_cons rfl rfl cov_nil) (by kernel_rfl) (by kernel_rfl) ?_
  all_goals refine wk_ch ?_
  all_goals (refine xp1 0 rfl rfl rfl rfl (by refine o1_move rfl fz) ?_)
  all_goals (refine xp1 5 rfl rfl rfl rfl (by refine o1_nilCheck rfl fz) ?_)
  all_goals (refine xp1 6 rfl rfl rfl rfl (by refine o1_fieldAddr rfl fz) ?_)
  all_goals (refine xp1 7 rfl rfl rfl rfl (by first | refine ox_load_any rfl e1 fz | refine ox_load_any rfl e2 fz | refine ox_load rfl (by rfl) fz | refine ox_load_enc rfl (by first | omega | (simp; omega)) fz | refine ox_load_any rfl (by assumption) fz) ?_)
  all_goals (refine xp1 0 rfl rfl rfl rfl (by refine o1_move rfl fz) ?_)
  all_goals (refine xp1 9 rfl rfl rfl rfl (by refine o1_nilCheck rfl fz) ?_)
  all_goals (refine xp1 10 rfl rfl rfl rfl (by refine o1_fieldAddr rfl fz) ?_)
  all_goals (refine xp1 11 rfl rfl rfl rfl (by first | refine ox_load_any rfl e1 fz | refine ox_load_any rfl e2 fz | refine ox_load rfl (by rfl) fz | refine ox_load_enc rfl (by first | omega | (simp; omega)) fz | refine ox_load_any rfl (by assumption) fz) ?_)
  all_goals refine op_nil ?_
  all_goals refine re_nil ?_
  all_goals first | (refine ch_run (E' := [(12, _)]) rfl (gd_r0 rfl) rfl (cov_cons rfl rfl cov_nil) ?_; (first | (refine o1_call (fun _ => clone_W _ v.a v.c (nw v.n) (words v.l) (Rs.up h.w) hwl.symm (by omega)) rfl (fun ⟨a2, c2⟩ _ => ?_))))
  all_goals refine wk_ch ?_
  all_goals (refine xp2 8 13 rfl rfl rfl rfl rfl (by (refine o1_buildx rfl (by simp only [buildL, putL, List.set_cons_zero, List.set_cons_succ, List.getElem?_cons_zero, List.getElem?_cons_succ, Option.getD_some, Value.cells, Nat.zero_add, Nat.reduceAdd]; rfl) (fun _ => by kernel_rfl) ?_; all_goals exact fz)) ?_)
  all_goals refine op_nil ?_
  all_goals (refine xq1 0 rfl rfl rfl rfl rfl (by refine o1_move rfl fz) ?_)
  all_goals (refine xq1 5 rfl rfl rfl rfl rfl (by refine o1_nilCheck rfl fz) ?_)
  all_goals (refine xq1 6 rfl rfl rfl rfl rfl (by refine o1_fieldAddr rfl fz) ?_)
  all_goals (refine xq1 7 rfl rfl rfl rfl rfl (by first | refine ox_load_any rfl e1 fz | refine ox_load_any rfl e2 fz | refine ox_load rfl (by rfl) fz | refine ox_load_enc rfl (by first | omega | (simp; omega)) fz | refine ox_load_any rfl (by assumption) fz) ?_)
  all_goals refine re_nil ?_
  all_goals first | (refine ch_run (E' := [(14, _)]) rfl (gd_r0 rfl) rfl (cov_cons rfl rfl cov_nil) ?_; (first | (refine o1_box rfl rfl (fun b2 => ?_)) | refine o1_box rfl rfl (fun _ => ?_)))
  all_goals refine wk_end ?_
  all_goals (refine xp1 15 rfl rfl rfl rfl (by refine o1_assign rfl fz) ?_)
  all_goals refine op_nil ?_
  all_goals refine re_nil ?_
  all_goals dsimp only [List.cons_append, List.nil_append]
  repeat' (first | refine ls_of rfl ?_ | refine ls_of_no ?_ | refine ls_guard_yes rfl rfl ?_ | refine ls_guard_no rfl rfl rfl rfl ?_ | refine ls_guard_un rfl rfl rfl ?_ | refine o1_move rfl ?_ | refine o1_assign rfl ?_ | refine st_seq ?_ | refine st_region ?_ | refine st_block ?_ | refine st_skip ?_ | refine st_ret ?_ | refine st_exit ?_ | refine st_cond_t rfl ?_ | refine st_cond_f rfl ?_ | refine st_cond rfl (fun _ => ?_) (fun _ => ?_) | refine ls_nil ?_ | refine nx_seq ?_ | refine nx_blk ?_ | refine nx_fn ?_ | refine nx_rounds ?_ | refine xt_seq ?_ | refine xt_here ?_ | refine xt_on rfl ?_ | refine xt_rounds ?_ | refine xt_cut ?_ | refine rt_seq ?_ | refine rt_blk ?_ | refine rt_rounds ?_ | refine rt_cut ?_ | refine o1_fieldAddr rfl ?_ | refine ox_load rfl (by rfl) ?_ | refine ox_load_enc rfl (by first | omega | (simp; omega)) ?_ | refine ox_load_any rfl (by assumption) ?_ | refine o1_box rfl rfl (fun _ => ?_) | refine o1_slice_nil rfl ?_ | refine o1_buildx rfl (by simp only [buildL, putL, List.set_cons_zero, List.set_cons_succ, List.getElem?_cons_zero, List.getElem?_cons_succ, Option.getD_some, Value.cells, Nat.zero_add, Nat.reduceAdd]; rfl) (fun _ => by kernel_rfl) ?_ | refine o1_nilCheck rfl ?_)
  refine rt_tmp (b2, a2, c2) rfl rfl rfl trivial ?_
  (try dsimp only [List.cons_append, List.nil_append, List.singleton_append, List.append_nil]); (repeat (first | exact Ent.nil | exact Ent.refl _ | (apply Ent.cons; (repeat (first | exact Sel.here | apply Sel.there)))))
theorem vec_Xor (H : List Hl) (b n : Nat) (a : Option Addr) (c : Nat) (l : List Bool) (w : VD) (hl : l.length = n) (hn : n ≤ 256) (hw : RdV (stars H) w) (hwn : w.n = n) :
    Spec Tryd.prog 33 [.pointer (some ⟨b, 0, none⟩), Pv w] (vB b n a c :: vR n a c l :: H) (fun _ : Unit => True) (fun _ => .bool true) (fun _ => vB b n a c :: vR n a c (xorV l w.l) :: H) := by
  refine spec_fn (res := fun _ : Unit => [vB b n a c, vR n a c (xorV l w.l)]) [vB b n a c, vR n a c l] H Tryd.func33 rfl Tryd.ntmps33 (by kernel_rfl) rfl (fun W => ?_)
  dsimp only [List.cons_append, List.nil_append]
  have h4 := nw_4 hn
  have e1 := hw.n
  have e2 := hw.s
  have e3 := hw.w
  have hwl := hw.ok.words
  rw [hwn] at e1 e2 hwl
  have hll : l.length = w.l.length := by rw [hl, hw.ok.len, hwn]
  obtain ⟨L0, hL0⟩ : ∃ L0, words l = L0 := ⟨_, rfl⟩
  obtain ⟨L1, hL1⟩ : ∃ L1, words (xorV l w.l) = L1 := ⟨_, rfl⟩
  obtain ⟨M, hM⟩ : ∃ M, words w.l = M := ⟨_, rfl⟩
  rw [hM] at e3 hwl
  have hl0 : L0.length = nw n := by rw [← hL0, words_len, hl]
  have hl1 : L1.length = nw n := by rw [← hL1, words_len, xorV_len hll, hl]
  have hz : L1.length = L0.length := by omega
  have hx : L1 = List.zipWith (· ^^^ ·) L0 M := by rw [← hL1, ← hL0, ← hM]; exact words_xor hll
  dsimp only [vR]
  rw [hL0]
  repeat' (first | refine ls_of rfl ?_ | refine ls_of_no ?_ | refine ls_guard_yes rfl rfl ?_ | refine ls_guard_no rfl rfl rfl rfl ?_ | refine ls_guard_un rfl rfl rfl ?_ | refine o1_move rfl ?_ | refine o1_assign rfl ?_ | refine st_seq ?_ | refine st_region ?_ | refine st_block ?_ | refine st_skip ?_ | refine st_ret ?_ | refine st_exit ?_ | refine st_cond_t rfl ?_ | refine st_cond_f rfl ?_ | refine st_cond rfl (fun _ => ?_) (fun _ => ?_) | refine ls_nil ?_ | refine nx_seq ?_ | refine nx_blk ?_ | refine nx_fn ?_ | refine nx_rounds ?_ | refine xt_seq ?_ | refine xt_here ?_ | refine xt_on rfl ?_ | refine xt_rounds ?_ | refine xt_cut ?_ | refine rt_seq ?_ | refine rt_blk ?_ | refine rt_rounds ?_ | refine rt_cut ?_ | refine o1_pick_t rfl rfl ?_ | refine o1_pick_f rfl rfl ?_ | refine o1_fieldAddr rfl ?_ | refine ox_load rfl (by rfl) ?_ | refine ox_load_enc rfl (by first | omega | (simp; omega)) ?_ | refine ox_load_any rfl (by assumption) ?_ | refine o1_len rfl ?_ | refine o1_add rfl rfl (by omega) ?_ | refine o1_lss_t rfl rfl (by omega) ?_ | refine o1_lss_f rfl rfl (by omega) ?_ | refine o1_lss rfl rfl (fun _ => ?_) (fun _ => ?_) | refine o1_neq_t rfl rfl (by omega) ?_ | refine o1_neq_f rfl rfl (by omega) ?_ | refine o1_neq rfl rfl (fun _ => ?_) (fun _ => ?_) | refine o1_uxor rfl rfl ?_ | refine o1_slice_nil rfl ?_ | refine ox_store_enc B rfl rfl (by first | omega | (simp; done) | (simp; omega)) rfl ?_ | refine ox_stores rfl rfl (by first | omega | (simp; done) | (simp; omega)) rfl (by first | (simp only [List.set_cons_zero, List.set_cons_succ, Nat.zero_add, Nat.reduceAdd]; rfl) | rfl) ?_ | refine o1_nilCheck rfl ?_)
  refine st_stages [(0, _), (1, _)] rtV6c_1 [] [⟨[0, 1, 2, 3, 4, 5, 6, 7, 8, 9, 10, 11, 12, 13, 14, 15, 16], [], none⟩] mixed (cov_cons rfl rfl (cov_cons rfl rfl cov_nil)) (by kernel_rfl) (by kernel_rfl) ?_
  all_goals refine wk_end ?_
  all_goals (refine xp1 0 rfl rfl rfl rfl (by first | refine o1_peql rfl rfl fz | refine o1_move rfl fz) ?_)
  all_goals (refine xp1 6 rfl rfl rfl rfl (by first | refine o1_peql rfl rfl fz | refine o1_slice_nil rfl fz) ?_)
  all_goals (refine xp1 7 rfl rfl rfl rfl (by first | refine o1_peql rfl rfl fz | refine o1_move rfl fz) ?_)
  all_goals first | (refine xpo1 rfl rfl rfl rfl ?_) | (refine xpo2 rfl rfl rfl rfl ?_) | (refine xpg1 1 rfl rfl rfl rfl rfl rfl (by first | refine o1_peql rfl rfl fz | refine o1_move rfl fz) ?_)
  all_goals first | (refine xpo1 rfl rfl rfl rfl ?_) | (refine xpo2 rfl rfl rfl rfl ?_) | (refine xpg1 9 rfl rfl rfl rfl rfl rfl (by first | refine o1_peql rfl rfl fz | refine o1_slice_nil rfl fz) ?_)
  all_goals (refine xp2 8 10 rfl rfl rfl rfl rfl (by first | refine o1_peql rfl rfl fz | refine o1_pick_t rfl rfl fz | refine o1_pick_f rfl rfl fz) ?_)
  all_goals (refine xp1 11 rfl rfl rfl rfl (by first | refine o1_peql rfl rfl fz | refine o1_move rfl fz) ?_)
  all_goals first | (refine xpo1 rfl rfl rfl rfl ?_) | (refine xpo2 rfl rfl rfl rfl ?_) | (refine xpg1 0 rfl rfl rfl rfl rfl rfl (by first | refine o1_peql rfl rfl fz | refine o1_move rfl fz) ?_)
  all_goals first | (refine xpo1 rfl rfl rfl rfl ?_) | (refine xpo2 rfl rfl rfl rfl ?_) | (refine xpg1 13 rfl rfl rfl rfl rfl rfl (by first | refine o1_peql rfl rfl fz | refine o1_nilCheck rfl fz) ?_)
  all_goals first | (refine xpo1 rfl rfl rfl rfl ?_) | (refine xpo2 rfl rfl rfl rfl ?_) | (refine xpg1 14 rfl rfl rfl rfl rfl rfl (by first | refine o1_peql rfl rfl fz | refine o1_fieldAddr rfl fz) ?_)
  all_goals first | (refine xpo1 rfl rfl rfl rfl ?_) | (refine xpo2 rfl rfl rfl rfl ?_) | (refine xpg1 15 rfl rfl rfl rfl rfl rfl (by first | refine o1_peql rfl rfl fz | refine ox_load_any rfl e1 fz | refine ox_load rfl (by rfl) fz | refine ox_load_enc rfl (by first | omega | (simp; omega)) fz | refine ox_load_any rfl (by assumption) fz) ?_)
  all_goals first | (refine xpo1 rfl rfl rfl rfl ?_) | (refine xpo2 rfl rfl rfl rfl ?_) | (refine xpg1 1 rfl rfl rfl rfl rfl rfl (by first | refine o1_peql rfl rfl fz | refine o1_move rfl fz) ?_)
  all_goals first | (refine xpo1 rfl rfl rfl rfl ?_) | (refine xpo2 rfl rfl rfl rfl ?_) | (refine xpg1 17 rfl rfl rfl rfl rfl rfl (by first | refine o1_peql rfl rfl fz | refine o1_nilCheck rfl fz) ?_)
  all_goals first | (refine xpo1 rfl rfl rfl rfl ?_) | (refine xpo2 rfl rfl rfl rfl ?_) | (refine xpg1 18 rfl rfl rfl rfl rfl rfl (by first | refine o1_peql rfl rfl fz | refine o1_fieldAddr rfl fz) ?_)
  all_goals first | (refine xpo1 rfl rfl rfl rfl ?_) | (refine xpo2 rfl rfl rfl rfl ?_) | (refine xpg1 19 rfl rfl rfl rfl rfl rfl (by first | refine o1_peql rfl rfl fz | refine ox_load_any rfl e1 fz | refine ox_load rfl (by rfl) fz | refine ox_load_enc rfl (by first | omega | (simp; omega)) fz | refine ox_load_any rfl (by assumption) fz) ?_)
  all_goals first | (refine xpo1 rfl rfl rfl rfl ?_) | (refine xpo2 rfl rfl rfl rfl ?_) | (refine xpg2 16 20 rfl rfl rfl rfl rfl rfl rfl (by first | refine o1_peql rfl rfl fz | refine o1_neq_f rfl rfl rfl fz | refine o1_neq_t rfl rfl (by omega) fz | refine o1_neq_f rfl rfl (by omega) fz | refine o1_neq_d rfl rfl fz) ?_)
  all_goals (refine xp2 12 21 rfl rfl rfl rfl rfl (by first | refine o1_peql rfl rfl fz | refine o1_pick_t rfl rfl fz | refine o1_pick_f rfl rfl fz) ?_)
  all_goals refine op_nil ?_
  all_goals refine re_nil ?_
  all_goals dsimp only [List.cons_append, List.nil_append]
  repeat' (first | refine ls_of rfl ?_ | refine ls_of_no ?_ | refine ls_guard_yes rfl rfl ?_ | refine ls_guard_no rfl rfl rfl rfl ?_ | refine ls_guard_un rfl rfl rfl ?_ | refine o1_move rfl ?_ | refine o1_assign rfl ?_ | refine st_seq ?_ | refine st_region ?_ | refine st_block ?_ | refine st_skip ?_ | refine st_ret ?_ | refine st_exit ?_ | refine st_cond_t rfl ?_ | refine st_cond_f rfl ?_ | refine st_cond rfl (fun _ => ?_) (fun _ => ?_) | refine ls_nil ?_ | refine nx_seq ?_ | refine nx_blk ?_ | refine nx_fn ?_ | refine nx_rounds ?_ | refine xt_seq ?_ | refine xt_here ?_ | refine xt_on rfl ?_ | refine xt_rounds ?_ | refine xt_cut ?_ | refine rt_seq ?_ | refine rt_blk ?_ | refine rt_rounds ?_ | refine rt_cut ?_ | refine o1_pick_t rfl rfl ?_ | refine o1_pick_f rfl rfl ?_ | refine o1_fieldAddr rfl ?_ | refine ox_load rfl (by rfl) ?_ | refine ox_load_enc rfl (by first | omega | (simp; omega)) ?_ | refine ox_load_any rfl (by assumption) ?_ | refine o1_len rfl ?_ | refine o1_add rfl rfl (by omega) ?_ | refine o1_lss_t rfl rfl (by omega) ?_ | refine o1_lss_f rfl rfl (by omega) ?_ | refine o1_lss rfl rfl (fun _ => ?_) (fun _ => ?_) | refine o1_neq_t rfl rfl (by omega) ?_ | refine o1_neq_f rfl rfl (by omega) ?_ | refine o1_neq rfl rfl (fun _ => ?_) (fun _ => ?_) | refine o1_uxor rfl rfl ?_ | refine o1_slice_nil rfl ?_ | refine ox_store_enc B rfl rfl (by first | omega | (simp; done) | (simp; omega)) rfl ?_ | refine ox_stores rfl rfl (by first | omega | (simp; done) | (simp; omega)) rfl (by first | (simp only [List.set_cons_zero, List.set_cons_succ, Nat.zero_add, Nat.reduceAdd]; rfl) | rfl) ?_ | refine o1_nilCheck rfl ?_)
  refine st_loop (S := Nat) (fun i => [(0, .pointer (some ⟨b, 0, none⟩)), (1, Pv w), (27, I (nw n)), (28, I i)]) (fun i => [vB b n a c, .row 24 1 (.slice a (nw n) c) (nw n) ((partL L1 L0 i).map W8), .any (stars H)]) (fun i => i ≤ nw n) (fun i => nw n - i) 0 (Nat.zero_le _)
    (cov_cons rfl rfl (cov_cons rfl rfl (cov_cons rfl rfl (cov_cons rfl rfl cov_nil)))) (by show Ent _ [vB b n a c, .row 24 1 (.slice a (nw n) c) (nw n) ((partL L1 L0 0).map W8), .any (stars H)]; rw [partL_zero]; (try dsimp only [List.cons_append, List.nil_append, List.singleton_append, List.append_nil]); (repeat (first | exact Ent.nil | exact Ent.refl _ | (apply Ent.cons; (repeat (first | exact Sel.here | apply Sel.there)))))) ?_
  intro i hi
  by_cases hlt : i < nw n
  · have hql := partL_len hz i
    have hka : i < (partL L1 L0 i).length := by omega
    have hpk : (partL L1 L0 i)[i] = L0[i]'(by omega) := partL_at hz (Nat.le_refl i) _
    have hset : (partL L1 L0 i).set i (L1[i]'(by omega)) = partL L1 L0 (i + 1) := partL_succ hz (by omega)
    have hmi : i < M.length := by omega
    have hxi : L0[i]'(by omega) ^^^ M[i] = L1[i]'(by omega) := by subst hx; simp
    repeat' (first | refine ls_of rfl ?_ | refine ls_of_no ?_ | refine ls_guard_yes rfl rfl ?_ | refine ls_guard_no rfl rfl rfl rfl ?_ | refine ls_guard_un rfl rfl rfl ?_ | refine o1_move rfl ?_ | refine o1_assign rfl ?_ | refine st_seq ?_ | refine st_region ?_ | refine st_block ?_ | refine st_skip ?_ | refine st_ret ?_ | refine st_exit ?_ | refine st_cond_t rfl ?_ | refine st_cond_f rfl ?_ | refine st_cond rfl (fun _ => ?_) (fun _ => ?_) | refine ls_nil ?_ | refine nx_seq ?_ | refine nx_blk ?_ | refine nx_fn ?_ | refine nx_rounds ?_ | refine xt_seq ?_ | refine xt_here ?_ | refine xt_on rfl ?_ | refine xt_rounds ?_ | refine xt_cut ?_ | refine rt_seq ?_ | refine rt_blk ?_ | refine rt_rounds ?_ | refine rt_cut ?_ | refine o1_pick_t rfl rfl ?_ | refine o1_pick_f rfl rfl ?_ | refine o1_fieldAddr rfl ?_ | refine ox_load rfl (by rfl) ?_ | refine ox_load_enc rfl (by first | omega | (simp; omega)) ?_ | refine ox_load_any rfl (by assumption) ?_ | refine o1_len rfl ?_ | refine o1_add rfl rfl (by omega) ?_ | refine o1_lss_t rfl rfl (by omega) ?_ | refine o1_lss_f rfl rfl (by omega) ?_ | refine o1_lss rfl rfl (fun _ => ?_) (fun _ => ?_) | refine o1_neq_t rfl rfl (by omega) ?_ | refine o1_neq_f rfl rfl (by omega) ?_ | refine o1_neq rfl rfl (fun _ => ?_) (fun _ => ?_) | refine o1_uxor rfl rfl ?_ | refine o1_slice_nil rfl ?_ | refine ox_store_enc B rfl rfl (by first | omega | (simp; done) | (simp; omega)) rfl ?_ | refine ox_stores rfl rfl (by first | omega | (simp; done) | (simp; omega)) rfl (by first | (simp only [List.set_cons_zero, List.set_cons_succ, Nat.zero_add, Nat.reduceAdd]; rfl) | rfl) ?_ | refine o1_nilCheck rfl ?_)
    refine st_stages [(0, _), (5, _), (1, _)] rtV6c_2 [16] [⟨[0, 1, 2, 3, 4, 5, 6, 7, 8, 9, 10, 11, 12, 13, 14, 15], [], some 16⟩, ⟨[], [], none⟩] mixed (cov_cons rfl rfl (cov_cons rfl rfl (cov_cons rfl rfl cov_nil))) (by kernel_rfl) (by kernel_rfl) ?_
    all_goals refine wk_ch ?_
    all_goals (refine xp1 0 rfl rfl rfl rfl (by refine o1_move rfl fz) ?_)
    all_goals (refine xp1 31 rfl rfl rfl rfl (by refine o1_nilCheck rfl fz) ?_)
    all_goals (refine xp1 32 rfl rfl rfl rfl (by refine o1_fieldAddr rfl fz) ?_)
    all_goals (refine xp1 33 rfl rfl rfl rfl (by first | refine ox_load_any rfl e2 fz | ((refine o1_load_iah (enc := W8) (ad := a) (c := c) (xs := partL L1 L0 i) i rfl rx_row hka ?_; rw [hpk]); all_goals exact fz) | refine o1_load_ia i rfl e3 hmi fz | refine ox_load rfl (by rfl) fz | refine ox_load_enc rfl (by first | omega | (simp; omega)) fz | refine ox_load_any rfl (by assumption) fz) ?_)
    all_goals (refine xp1 5 rfl rfl rfl rfl (by refine o1_move rfl fz) ?_)
    all_goals (refine xp2 34 35 rfl rfl rfl rfl rfl (by first | refine o1_iah (enc := W8) (ad := a) (c := c) (xs := partL L1 L0 i) i rfl rfl rx_row (by omega) rfl hka fz | refine o1_ia i rfl rfl e3 hwl.symm rfl hmi fz) ?_)
    all_goals (refine xp1 36 rfl rfl rfl rfl (by first | refine ox_load_any rfl e2 fz | ((refine o1_load_iah (enc := W8) (ad := a) (c := c) (xs := partL L1 L0 i) i rfl rx_row hka ?_; rw [hpk]); all_goals exact fz) | refine o1_load_ia i rfl e3 hmi fz | refine ox_load rfl (by rfl) fz | refine ox_load_enc rfl (by first | omega | (simp; omega)) fz | refine ox_load_any rfl (by assumption) fz) ?_)
    all_goals (refine xp1 1 rfl rfl rfl rfl (by refine o1_move rfl fz) ?_)
    all_goals (refine xp1 38 rfl rfl rfl rfl (by refine o1_nilCheck rfl fz) ?_)
    all_goals (refine xp1 39 rfl rfl rfl rfl (by refine o1_fieldAddr rfl fz) ?_)
    all_goals (refine xp1 40 rfl rfl rfl rfl (by first | refine ox_load_any rfl e2 fz | ((refine o1_load_iah (enc := W8) (ad := a) (c := c) (xs := partL L1 L0 i) i rfl rx_row hka ?_; rw [hpk]); all_goals exact fz) | refine o1_load_ia i rfl e3 hmi fz | refine ox_load rfl (by rfl) fz | refine ox_load_enc rfl (by first | omega | (simp; omega)) fz | refine ox_load_any rfl (by assumption) fz) ?_)
    all_goals (refine xp1 5 rfl rfl rfl rfl (by refine o1_move rfl fz) ?_)
    all_goals (refine xp2 41 42 rfl rfl rfl rfl rfl (by first | refine o1_iah (enc := W8) (ad := a) (c := c) (xs := partL L1 L0 i) i rfl rfl rx_row (by omega) rfl hka fz | refine o1_ia i rfl rfl e3 hwl.symm rfl hmi fz) ?_)
    all_goals (refine xp1 43 rfl rfl rfl rfl (by first | refine ox_load_any rfl e2 fz | ((refine o1_load_iah (enc := W8) (ad := a) (c := c) (xs := partL L1 L0 i) i rfl rx_row hka ?_; rw [hpk]); all_goals exact fz) | refine o1_load_ia i rfl e3 hmi fz | refine ox_load rfl (by rfl) fz | refine ox_load_enc rfl (by first | omega | (simp; omega)) fz | refine ox_load_any rfl (by assumption) fz) ?_)
    all_goals (refine xp2 37 44 rfl rfl rfl rfl rfl (by first | ((refine o1_uxor rfl rfl ?_; rw [hxi]); all_goals exact fz) | refine o1_uxor rfl rfl fz) ?_)
    all_goals (refine xp2 34 35 rfl rfl rfl rfl rfl (by first | refine o1_iah (enc := W8) (ad := a) (c := c) (xs := partL L1 L0 i) i rfl rfl rx_row (by omega) rfl hka fz | refine o1_ia i rfl rfl e3 hwl.symm rfl hmi fz) ?_)
    all_goals refine op_nil ?_
    all_goals refine re_nil ?_
    all_goals first | (refine ch_run_no (E' := [(46, _), (45, _)]) rfl (gd_r0 rfl) rfl (cov_cons rfl rfl (cov_cons rfl rfl cov_nil)) ?_; (first | (refine ox_store_rowenc (ad := a) (c := c) W8 i rfl rfl hlt rfl ?_; rw [hset]) | refine ox_store_enc B rfl rfl (by first | omega | (simp; done) | (simp; omega)) rfl ?_ | refine ox_stores rfl rfl (by first | omega | (simp; done) | (simp; omega)) rfl (by first | (simp only [List.set_cons_zero, List.set_cons_succ, Nat.zero_add, Nat.reduceAdd]; rfl) | rfl) ?_))
    all_goals refine wk_end ?_
    all_goals refine op_nil ?_
    all_goals refine re_nil ?_
    all_goals dsimp only [List.cons_append, List.nil_append]
    repeat' (first | refine ls_of rfl ?_ | refine ls_of_no ?_ | refine ls_guard_yes rfl rfl ?_ | refine ls_guard_no rfl rfl rfl rfl ?_ | refine ls_guard_un rfl rfl rfl ?_ | refine o1_move rfl ?_ | refine o1_assign rfl ?_ | refine st_seq ?_ | refine st_region ?_ | refine st_block ?_ | refine st_skip ?_ | refine st_ret ?_ | refine st_exit ?_ | refine st_cond_t rfl ?_ | refine st_cond_f rfl ?_ | refine st_cond rfl (fun _ => ?_) (fun _ => ?_) | refine ls_nil ?_ | refine nx_seq ?_ | refine nx_blk ?_ | refine nx_fn ?_ | refine nx_rounds ?_ | refine xt_seq ?_ | refine xt_here ?_ | refine xt_on rfl ?_ | refine xt_rounds ?_ | refine xt_cut ?_ | refine rt_seq ?_ | refine rt_blk ?_ | refine rt_rounds ?_ | refine rt_cut ?_ | refine o1_pick_t rfl rfl ?_ | refine o1_pick_f rfl rfl ?_ | refine o1_fieldAddr rfl ?_ | refine ox_load rfl (by rfl) ?_ | refine ox_load_enc rfl (by first | omega | (simp; omega)) ?_ | refine ox_load_any rfl (by assumption) ?_ | refine o1_len rfl ?_ | refine o1_add rfl rfl (by omega) ?_ | refine o1_lss_t rfl rfl (by omega) ?_ | refine o1_lss_f rfl rfl (by omega) ?_ | refine o1_lss rfl rfl (fun _ => ?_) (fun _ => ?_) | refine o1_neq_t rfl rfl (by omega) ?_ | refine o1_neq_f rfl rfl (by omega) ?_ | refine o1_neq rfl rfl (fun _ => ?_) (fun _ => ?_) | refine o1_uxor rfl rfl ?_ | refine o1_slice_nil rfl ?_ | refine ox_store_enc B rfl rfl (by first | omega | (simp; done) | (simp; omega)) rfl ?_ | refine ox_stores rfl rfl (by first | omega | (simp; done) | (simp; omega)) rfl (by first | (simp only [List.set_cons_zero, List.set_cons_succ, Nat.zero_add, Nat.reduceAdd]; rfl) | rfl) ?_ | refine o1_nilCheck rfl ?_)
    refine nx_again (i + 1) (by omega) (by omega) (cov_cons rfl rfl (cov_cons rfl rfl (cov_cons rfl rfl (cov_cons rfl rfl cov_nil)))) ?_
    (try dsimp only [List.cons_append, List.nil_append, List.singleton_append, List.append_nil]); (repeat (first | exact Ent.nil | exact Ent.refl _ | (apply Ent.cons; (repeat (first | exact Sel.here | apply Sel.there)))))
  · have : i = nw n := by omega
    subst this
    rw [partL_full hz hl0.symm]
    repeat' (first | refine ls_of rfl ?_ | refine ls_of_no ?_ | refine ls_guard_yes rfl rfl ?_ | refine ls_guard_no rfl rfl rfl rfl ?_ | refine ls_guard_un rfl rfl rfl ?_ | refine o1_move rfl ?_ | refine o1_assign rfl ?_ | refine st_seq ?_ | refine st_region ?_ | refine st_block ?_ | refine st_skip ?_ | refine st_ret ?_ | refine st_exit ?_ | refine st_cond_t rfl ?_ | refine st_cond_f rfl ?_ | refine st_cond rfl (fun _ => ?_) (fun _ => ?_) | refine ls_nil ?_ | refine nx_seq ?_ | refine nx_blk ?_ | refine nx_fn ?_ | refine nx_rounds ?_ | refine xt_seq ?_ | refine xt_here ?_ | refine xt_on rfl ?_ | refine xt_rounds ?_ | refine xt_cut ?_ | refine rt_seq ?_ | refine rt_blk ?_ | refine rt_rounds ?_ | refine rt_cut ?_ | refine o1_pick_t rfl rfl ?_ | refine o1_pick_f rfl rfl ?_ | refine o1_fieldAddr rfl ?_ | refine ox_load rfl (by rfl) ?_ | refine ox_load_enc rfl (by first | omega | (simp; omega)) ?_ | refine ox_load_any rfl (by assumption) ?_ | refine o1_len rfl ?_ | refine o1_add rfl rfl (by omega) ?_ | refine o1_lss_t rfl rfl (by omega) ?_ | refine o1_lss_f rfl rfl (by omega) ?_ | refine o1_lss rfl rfl (fun _ => ?_) (fun _ => ?_) | refine o1_neq_t rfl rfl (by omega) ?_ | refine o1_neq_f rfl rfl (by omega) ?_ | refine o1_neq rfl rfl (fun _ => ?_) (fun _ => ?_) | refine o1_uxor rfl rfl ?_ | refine o1_slice_nil rfl ?_ | refine ox_store_enc B rfl rfl (by first | omega | (simp; done) | (simp; omega)) rfl ?_ | refine ox_stores rfl rfl (by first | omega | (simp; done) | (simp; omega)) rfl (by first | (simp only [List.set_cons_zero, List.set_cons_succ, Nat.zero_add, Nat.reduceAdd]; rfl) | rfl) ?_ | refine o1_nilCheck rfl ?_)
    refine rt_tmp () rfl rfl rfl trivial ?_
    rw [hL1]
    (try dsimp only [List.cons_append, List.nil_append, List.singleton_append, List.append_nil]); (repeat (first | exact Ent.nil | exact Ent.refl _ | (apply Ent.cons; (repeat (first | exact Sel.here | apply Sel.there)))))
end Go.Dp

set_option linter.unusedVariables false
set_option linter.unusedSimpArgs false
namespace Go.Dp
open Go.RowKit Go.Proofs
end Go.Dp

set_option linter.unusedVariables false
set_option linter.unusedSimpArgs false
namespace Go.Dp
open Go.RowKit Go.Proofs
set_option maxHeartbeats 2000000 in
theorem vec_From_ok (H : List Hl) (N : Nat) (ad : Option Addr) (m c : Nat) (raw : List (BitVec 8)) (hN : N ≤ 256) (h : Rs (stars H) B ad c raw) (hm : m = raw.length) (hl : raw.length = nb N) (hb : ∀ i, N ≤ i → i < 8 * nb N → rbit raw i = false) :
    Spec Tryd.prog 28 [I N, .slice ad m c] H (fun _ : Nat × Option Addr × Nat => True) (fun r => .tuple #[.pointer (some ⟨r.1, 0, none⟩), .bool true]) (fun r => vB r.1 N r.2.1 r.2.2 :: vR N r.2.1 r.2.2 (maskV N (rbit raw) N) :: H) := by
  refine spec_pure (res := fun r : Nat × Option Addr × Nat => [vB r.1 N r.2.1 r.2.2, vR N r.2.1 r.2.2 (maskV N (rbit raw) N)]) H Tryd.func28 rfl Tryd.ntmps28 (by kernel_rfl) rfl (fun W => ?_)
  have hnb : nb N ≤ 32 := by unfold nb; omega
  have hnn : N ≤ 8 * nb N := by unfold nb; omega
  have hq : ((N : Int) + 7) / 8 = (nb N : Nat) := by unfold nb; omega
  rw [hl] at hm
  repeat' (first | refine ls_of rfl ?_ | refine ls_of_no ?_ | refine ls_guard_yes rfl rfl ?_ | refine ls_guard_no rfl rfl rfl rfl ?_ | refine ls_guard_un rfl rfl rfl ?_ | refine o1_move rfl ?_ | refine o1_assign rfl ?_ | refine st_seq ?_ | refine st_region ?_ | refine st_block ?_ | refine st_skip ?_ | refine st_ret ?_ | refine st_exit ?_ | refine st_cond_t rfl ?_ | refine st_cond_f rfl ?_ | refine st_cond rfl (fun _ => ?_) (fun _ => ?_) | refine ls_nil ?_ | refine nx_seq ?_ | refine nx_blk ?_ | refine nx_fn ?_ | refine nx_rounds ?_ | refine xt_seq ?_ | refine xt_here ?_ | refine xt_on rfl ?_ | refine xt_rounds ?_ | refine xt_cut ?_ | refine rt_seq ?_ | refine rt_blk ?_ | refine rt_rounds ?_ | refine rt_cut ?_ | (refine o1_call (fun _ => vec_New _ N hN) rfl (fun ⟨b6, a6, c6⟩ _ => ?_); dsimp only; rw [← maskV_zero N (rbit raw)]) | refine o1_peql rfl rfl ?_ | (refine o1_quo rfl rfl (by omega) ?_; rw [hq]) | refine o1_neq_f rfl rfl (by omega) ?_ | refine o1_mul rfl rfl (by omega) ?_ | refine o1_pick_t rfl rfl ?_ | refine o1_pick_f rfl rfl ?_ | refine ox_load rfl (by rfl) ?_ | refine ox_load_enc rfl (by first | omega | (simp; omega)) ?_ | refine ox_load_any rfl (by assumption) ?_ | refine o1_len rfl ?_ | refine o1_add rfl rfl (by omega) ?_ | refine o1_lss_t rfl rfl (by omega) ?_ | refine o1_lss_f rfl rfl (by omega) ?_ | refine o1_lss rfl rfl (fun _ => ?_) (fun _ => ?_) | refine o1_eql_t rfl rfl (by omega) ?_ | refine o1_eql_f rfl rfl (by omega) ?_ | refine o1_eql rfl rfl (fun _ => ?_) (fun _ => ?_) | refine o1_neq_t rfl rfl (by omega) ?_ | refine o1_neq_f rfl rfl (by omega) ?_ | refine o1_neq rfl rfl (fun _ => ?_) (fun _ => ?_) | refine o1_bnot rfl ?_ | refine o1_uand rfl rfl ?_ | refine o1_ushr rfl rfl (by omega) ?_ | refine o1_unot rfl ?_ | refine o1_rem_nn rfl rfl (by omega) ?_ | refine o1_slice_nil rfl ?_)
  refine st_loop (S := Nat) (fun i => [(0, I N), (1, .slice ad m c), (6, .pointer (some ⟨b6, 0, none⟩)), (22, I (8 * (m : Int))), (23, I i)]) (fun i => [vB b6 N a6 c6, vR N a6 c6 (maskV N (rbit raw) i), .any (stars H)]) (fun i => i ≤ 8 * nb N ∧ ∀ j, N ≤ j → j < i → rbit raw j = false) (fun i => 8 * nb N - i) 0 ⟨Nat.zero_le _, by omega⟩
    (cov_cons rfl rfl (cov_cons rfl rfl (cov_cons rfl rfl (cov_cons rfl rfl (cov_cons rfl rfl cov_nil))))) (by (try dsimp only [List.cons_append, List.nil_append, List.singleton_append, List.append_nil]); (repeat (first | exact Ent.nil | exact Ent.refl _ | (apply Ent.cons; (repeat (first | exact Sel.here | apply Sel.there)))))) ?_
  rintro i ⟨hi, hno⟩
  by_cases hlt : i < 8 * nb N
  · have hi8 : i / 8 < raw.length := by omega
    have hsh : ((i : Int) % 8).toNat = i % 8 := by omega
    have hv := rbit_val raw i hi8
    cases hbit : rbit raw i
    · have e1 : (((raw[i / 8] >>> (i % 8)) &&& 1#8).toNat : Int) ≠ 1 := by rw [hv, hbit]; decide
      repeat' (first | refine ls_of rfl ?_ | refine ls_of_no ?_ | refine ls_guard_yes rfl rfl ?_ | refine ls_guard_no rfl rfl rfl rfl ?_ | refine ls_guard_un rfl rfl rfl ?_ | refine o1_move rfl ?_ | refine o1_assign rfl ?_ | refine st_seq ?_ | refine st_region ?_ | refine st_block ?_ | refine st_skip ?_ | refine st_ret ?_ | refine st_exit ?_ | refine st_cond_t rfl ?_ | refine st_cond_f rfl ?_ | refine st_cond rfl (fun _ => ?_) (fun _ => ?_) | refine ls_nil ?_ | refine nx_seq ?_ | refine nx_blk ?_ | refine nx_fn ?_ | refine nx_rounds ?_ | refine xt_seq ?_ | refine xt_here ?_ | refine xt_on rfl ?_ | refine xt_rounds ?_ | refine xt_cut ?_ | refine rt_seq ?_ | refine rt_blk ?_ | refine rt_rounds ?_ | refine rt_cut ?_ | refine o1_quo rfl rfl (by omega) ?_ | refine o1_ia (i / 8) rfl rfl h (by omega) (by omega) hi8 ?_ | refine o1_load_ia (i / 8) rfl h hi8 ?_ | (refine o1_ushr rfl rfl (by omega) ?_; rw [hsh]) | refine o1_uand (v := 1#8) rfl rfl ?_ | refine o1_eql_f rfl rfl e1 ?_ | refine o1_pick_t rfl rfl ?_ | refine o1_pick_f rfl rfl ?_ | refine ox_load rfl (by rfl) ?_ | refine ox_load_enc rfl (by first | omega | (simp; omega)) ?_ | refine ox_load_any rfl (by assumption) ?_ | refine o1_len rfl ?_ | refine o1_add rfl rfl (by omega) ?_ | refine o1_lss_t rfl rfl (by omega) ?_ | refine o1_lss_f rfl rfl (by omega) ?_ | refine o1_lss rfl rfl (fun _ => ?_) (fun _ => ?_) | refine o1_eql_t rfl rfl (by omega) ?_ | refine o1_eql_f rfl rfl (by omega) ?_ | refine o1_eql rfl rfl (fun _ => ?_) (fun _ => ?_) | refine o1_neq_t rfl rfl (by omega) ?_ | refine o1_neq_f rfl rfl (by omega) ?_ | refine o1_neq rfl rfl (fun _ => ?_) (fun _ => ?_) | refine o1_bnot rfl ?_ | refine o1_uand rfl rfl ?_ | refine o1_ushr rfl rfl (by omega) ?_ | refine o1_unot rfl ?_ | refine o1_rem_nn rfl rfl (by omega) ?_ | refine o1_slice_nil rfl ?_)
      refine nx_again (i + 1) ⟨by omega, fun j h1 h2 => ?_⟩ (by omega) (cov_cons rfl rfl (cov_cons rfl rfl (cov_cons rfl rfl (cov_cons rfl rfl (cov_cons rfl rfl cov_nil))))) ?_
      · by_cases hj : j = i
        · rw [hj]; exact hbit
        · exact hno j h1 (by omega)
      rw [maskV_off (i := i) (fun _ => hbit)]
      (try dsimp only [List.cons_append, List.nil_append, List.singleton_append, List.append_nil]); (repeat (first | exact Ent.nil | exact Ent.refl _ | (apply Ent.cons; (repeat (first | exact Sel.here | apply Sel.there)))))
    · have e1 : (((raw[i / 8] >>> (i % 8)) &&& 1#8).toNat : Int) = 1 := by rw [hv, hbit]; decide
      by_cases hiN : i < N
      · have hset : setB (maskV N (rbit raw) i) i true = maskV N (rbit raw) (i + 1) := by rw [setB_nat _ _ _ (by rw [maskV_len]; exact hiN), maskV_on hiN hbit]
        repeat' (first | refine ls_of rfl ?_ | refine ls_of_no ?_ | refine ls_guard_yes rfl rfl ?_ | refine ls_guard_no rfl rfl rfl rfl ?_ | refine ls_guard_un rfl rfl rfl ?_ | refine o1_move rfl ?_ | refine o1_assign rfl ?_ | refine st_seq ?_ | refine st_region ?_ | refine st_block ?_ | refine st_skip ?_ | refine st_ret ?_ | refine st_exit ?_ | refine st_cond_t rfl ?_ | refine st_cond_f rfl ?_ | refine st_cond rfl (fun _ => ?_) (fun _ => ?_) | refine ls_nil ?_ | refine nx_seq ?_ | refine nx_blk ?_ | refine nx_fn ?_ | refine nx_rounds ?_ | refine xt_seq ?_ | refine xt_here ?_ | refine xt_on rfl ?_ | refine xt_rounds ?_ | refine xt_cut ?_ | refine rt_seq ?_ | refine rt_blk ?_ | refine rt_rounds ?_ | refine rt_cut ?_ | refine o1_quo rfl rfl (by omega) ?_ | refine o1_ia (i / 8) rfl rfl h (by omega) (by omega) hi8 ?_ | refine o1_load_ia (i / 8) rfl h hi8 ?_ | (refine o1_ushr rfl rfl (by omega) ?_; rw [hsh]) | refine o1_uand (v := 1#8) rfl rfl ?_ | refine o1_eql_t rfl rfl e1 ?_ | (refine o1_call_br b6 a6 c6 (fun _ => (vec_Set _ b6 N a6 c6 (maskV N (rbit raw) i) i true (maskV_len _ _ _) hN).bv (b := true) (inV_of (by omega) (by omega))) rfl (fun _ _ => ?_); rw [hset]) | refine o1_pick_t rfl rfl ?_ | refine o1_pick_f rfl rfl ?_ | refine ox_load rfl (by rfl) ?_ | refine ox_load_enc rfl (by first | omega | (simp; omega)) ?_ | refine ox_load_any rfl (by assumption) ?_ | refine o1_len rfl ?_ | refine o1_add rfl rfl (by omega) ?_ | refine o1_lss_t rfl rfl (by omega) ?_ | refine o1_lss_f rfl rfl (by omega) ?_ | refine o1_lss rfl rfl (fun _ => ?_) (fun _ => ?_) | refine o1_eql_t rfl rfl (by omega) ?_ | refine o1_eql_f rfl rfl (by omega) ?_ | refine o1_eql rfl rfl (fun _ => ?_) (fun _ => ?_) | refine o1_neq_t rfl rfl (by omega) ?_ | refine o1_neq_f rfl rfl (by omega) ?_ | refine o1_neq rfl rfl (fun _ => ?_) (fun _ => ?_) | refine o1_bnot rfl ?_ | refine o1_uand rfl rfl ?_ | refine o1_ushr rfl rfl (by omega) ?_ | refine o1_unot rfl ?_ | refine o1_rem_nn rfl rfl (by omega) ?_ | refine o1_slice_nil rfl ?_)
        refine nx_again (i + 1) ⟨by omega, fun j h1 h2 => ?_⟩ (by omega) (cov_cons rfl rfl (cov_cons rfl rfl (cov_cons rfl rfl (cov_cons rfl rfl (cov_cons rfl rfl cov_nil))))) ?_
        · exact hno j h1 (by omega)
        (try dsimp only [List.cons_append, List.nil_append, List.singleton_append, List.append_nil]); (repeat (first | exact Ent.nil | exact Ent.refl _ | (apply Ent.cons; (repeat (first | exact Sel.here | apply Sel.there)))))
      · exact absurd (hb i (by omega) hlt) (by rw [hbit]; decide)
  · have : i = 8 * nb N := by omega
    subst this
    rw [maskV_past hnn]
    repeat' (first | refine ls_of rfl ?_ | refine ls_of_no ?_ | refine ls_guard_yes rfl rfl ?_ | refine ls_guard_no rfl rfl rfl rfl ?_ | refine ls_guard_un rfl rfl rfl ?_ | refine o1_move rfl ?_ | refine o1_assign rfl ?_ | refine st_seq ?_ | refine st_region ?_ | refine st_block ?_ | refine st_skip ?_ | refine st_ret ?_ | refine st_exit ?_ | refine st_cond_t rfl ?_ | refine st_cond_f rfl ?_ | refine st_cond rfl (fun _ => ?_) (fun _ => ?_) | refine ls_nil ?_ | refine nx_seq ?_ | refine nx_blk ?_ | refine nx_fn ?_ | refine nx_rounds ?_ | refine xt_seq ?_ | refine xt_here ?_ | refine xt_on rfl ?_ | refine xt_rounds ?_ | refine xt_cut ?_ | refine rt_seq ?_ | refine rt_blk ?_ | refine rt_rounds ?_ | refine rt_cut ?_ | refine o1_pick_t rfl rfl ?_ | refine o1_pick_f rfl rfl ?_ | refine ox_load rfl (by rfl) ?_ | refine ox_load_enc rfl (by first | omega | (simp; omega)) ?_ | refine ox_load_any rfl (by assumption) ?_ | refine o1_len rfl ?_ | refine o1_add rfl rfl (by omega) ?_ | refine o1_lss_t rfl rfl (by omega) ?_ | refine o1_lss_f rfl rfl (by omega) ?_ | refine o1_lss rfl rfl (fun _ => ?_) (fun _ => ?_) | refine o1_eql_t rfl rfl (by omega) ?_ | refine o1_eql_f rfl rfl (by omega) ?_ | refine o1_eql rfl rfl (fun _ => ?_) (fun _ => ?_) | refine o1_neq_t rfl rfl (by omega) ?_ | refine o1_neq_f rfl rfl (by omega) ?_ | refine o1_neq rfl rfl (fun _ => ?_) (fun _ => ?_) | refine o1_bnot rfl ?_ | refine o1_uand rfl rfl ?_ | refine o1_ushr rfl rfl (by omega) ?_ | refine o1_unot rfl ?_ | refine o1_rem_nn rfl rfl (by omega) ?_ | refine o1_slice_nil rfl ?_)
    refine rt_tmp2 (b6, a6, c6) rfl rfl rfl rfl trivial ?_
    (try dsimp only [List.cons_append, List.nil_append, List.singleton_append, List.append_nil]); (repeat (first | exact Ent.nil | exact Ent.refl _ | (apply Ent.cons; (repeat (first | exact Sel.here | apply Sel.there)))))
set_option maxHeartbeats 2000000 in
theorem vec_From_bad (H : List Hl) (N : Nat) (ad : Option Addr) (m c : Nat) (raw : List (BitVec 8)) (hN : N ≤ 256) (h : Rs (stars H) B ad c raw) (hm : m = raw.length) (hl : raw.length = nb N) (i0 : Nat) (hb1 : N ≤ i0) (hb2 : i0 < 8 * nb N) (hb3 : rbit raw i0 = true) :
    Spec Tryd.prog 28 [I N, .slice ad m c] H (fun _ : Unit => True) (fun _ => .tuple #[.pointer none, .bool false]) (fun _ => H) := by
  refine spec_pure (res := fun _ => []) H Tryd.func28 rfl Tryd.ntmps28 (by kernel_rfl) rfl (fun W => ?_)
  have hnb : nb N ≤ 32 := by unfold nb; omega
  have hnn : N ≤ 8 * nb N := by unfold nb; omega
  have hq : ((N : Int) + 7) / 8 = (nb N : Nat) := by unfold nb; omega
  rw [hl] at hm
  repeat' (first | refine ls_of rfl ?_ | refine ls_of_no ?_ | refine ls_guard_yes rfl rfl ?_ | refine ls_guard_no rfl rfl rfl rfl ?_ | refine ls_guard_un rfl rfl rfl ?_ | refine o1_move rfl ?_ | refine o1_assign rfl ?_ | refine st_seq ?_ | refine st_region ?_ | refine st_block ?_ | refine st_skip ?_ | refine st_ret ?_ | refine st_exit ?_ | refine st_cond_t rfl ?_ | refine st_cond_f rfl ?_ | refine st_cond rfl (fun _ => ?_) (fun _ => ?_) | refine ls_nil ?_ | refine nx_seq ?_ | refine nx_blk ?_ | refine nx_fn ?_ | refine nx_rounds ?_ | refine xt_seq ?_ | refine xt_here ?_ | refine xt_on rfl ?_ | refine xt_rounds ?_ | refine xt_cut ?_ | refine rt_seq ?_ | refine rt_blk ?_ | refine rt_rounds ?_ | refine rt_cut ?_ | (refine o1_call (fun _ => vec_New _ N hN) rfl (fun ⟨b6, a6, c6⟩ _ => ?_); dsimp only; rw [← maskV_zero N (rbit raw)]) | refine o1_peql rfl rfl ?_ | (refine o1_quo rfl rfl (by omega) ?_; rw [hq]) | refine o1_neq_f rfl rfl (by omega) ?_ | refine o1_mul rfl rfl (by omega) ?_ | refine o1_pick_t rfl rfl ?_ | refine o1_pick_f rfl rfl ?_ | refine ox_load rfl (by rfl) ?_ | refine ox_load_enc rfl (by first | omega | (simp; omega)) ?_ | refine ox_load_any rfl (by assumption) ?_ | refine o1_len rfl ?_ | refine o1_add rfl rfl (by omega) ?_ | refine o1_lss_t rfl rfl (by omega) ?_ | refine o1_lss_f rfl rfl (by omega) ?_ | refine o1_lss rfl rfl (fun _ => ?_) (fun _ => ?_) | refine o1_eql_t rfl rfl (by omega) ?_ | refine o1_eql_f rfl rfl (by omega) ?_ | refine o1_eql rfl rfl (fun _ => ?_) (fun _ => ?_) | refine o1_neq_t rfl rfl (by omega) ?_ | refine o1_neq_f rfl rfl (by omega) ?_ | refine o1_neq rfl rfl (fun _ => ?_) (fun _ => ?_) | refine o1_bnot rfl ?_ | refine o1_uand rfl rfl ?_ | refine o1_ushr rfl rfl (by omega) ?_ | refine o1_unot rfl ?_ | refine o1_rem_nn rfl rfl (by omega) ?_ | refine o1_slice_nil rfl ?_)
  refine st_loop (S := Nat) (fun i => [(0, I N), (1, .slice ad m c), (6, .pointer (some ⟨b6, 0, none⟩)), (22, I (8 * (m : Int))), (23, I i)]) (fun i => [vB b6 N a6 c6, vR N a6 c6 (maskV N (rbit raw) i), .any (stars H)]) (fun i => i ≤ 8 * nb N ∧ ∀ j, N ≤ j → j < i → rbit raw j = false) (fun i => 8 * nb N - i) 0 ⟨Nat.zero_le _, by omega⟩
    (cov_cons rfl rfl (cov_cons rfl rfl (cov_cons rfl rfl (cov_cons rfl rfl (cov_cons rfl rfl cov_nil))))) (by (try dsimp only [List.cons_append, List.nil_append, List.singleton_append, List.append_nil]); (repeat (first | exact Ent.nil | exact Ent.refl _ | (apply Ent.cons; (repeat (first | exact Sel.here | apply Sel.there)))))) ?_
  rintro i ⟨hi, hno⟩
  by_cases hlt : i < 8 * nb N
  · have hi8 : i / 8 < raw.length := by omega
    have hsh : ((i : Int) % 8).toNat = i % 8 := by omega
    have hv := rbit_val raw i hi8
    cases hbit : rbit raw i
    · have e1 : (((raw[i / 8] >>> (i % 8)) &&& 1#8).toNat : Int) ≠ 1 := by rw [hv, hbit]; decide
      repeat' (first | refine ls_of rfl ?_ | refine ls_of_no ?_ | refine ls_guard_yes rfl rfl ?_ | refine ls_guard_no rfl rfl rfl rfl ?_ | refine ls_guard_un rfl rfl rfl ?_ | refine o1_move rfl ?_ | refine o1_assign rfl ?_ | refine st_seq ?_ | refine st_region ?_ | refine st_block ?_ | refine st_skip ?_ | refine st_ret ?_ | refine st_exit ?_ | refine st_cond_t rfl ?_ | refine st_cond_f rfl ?_ | refine st_cond rfl (fun _ => ?_) (fun _ => ?_) | refine ls_nil ?_ | refine nx_seq ?_ | refine nx_blk ?_ | refine nx_fn ?_ | refine nx_rounds ?_ | refine xt_seq ?_ | refine xt_here ?_ | refine xt_on rfl ?_ | refine xt_rounds ?_ | refine xt_cut ?_ | refine rt_seq ?_ | refine rt_blk ?_ | refine rt_rounds ?_ | refine rt_cut ?_ | refine o1_quo rfl rfl (by omega) ?_ | refine o1_ia (i / 8) rfl rfl h (by omega) (by omega) hi8 ?_ | refine o1_load_ia (i / 8) rfl h hi8 ?_ | (refine o1_ushr rfl rfl (by omega) ?_; rw [hsh]) | refine o1_uand (v := 1#8) rfl rfl ?_ | refine o1_eql_f rfl rfl e1 ?_ | refine o1_pick_t rfl rfl ?_ | refine o1_pick_f rfl rfl ?_ | refine ox_load rfl (by rfl) ?_ | refine ox_load_enc rfl (by first | omega | (simp; omega)) ?_ | refine ox_load_any rfl (by assumption) ?_ | refine o1_len rfl ?_ | refine o1_add rfl rfl (by omega) ?_ | refine o1_lss_t rfl rfl (by omega) ?_ | refine o1_lss_f rfl rfl (by omega) ?_ | refine o1_lss rfl rfl (fun _ => ?_) (fun _ => ?_) | refine o1_eql_t rfl rfl (by omega) ?_ | refine o1_eql_f rfl rfl (by omega) ?_ | refine o1_eql rfl rfl (fun _ => ?_) (fun _ => ?_) | refine o1_neq_t rfl rfl (by omega) ?_ | refine o1_neq_f rfl rfl (by omega) ?_ | refine o1_neq rfl rfl (fun _ => ?_) (fun _ => ?_) | refine o1_bnot rfl ?_ | refine o1_uand rfl rfl ?_ | refine o1_ushr rfl rfl (by omega) ?_ | refine o1_unot rfl ?_ | refine o1_rem_nn rfl rfl (by omega) ?_ | refine o1_slice_nil rfl ?_)
      refine nx_again (i + 1) ⟨by omega, fun j h1 h2 => ?_⟩ (by omega) (cov_cons rfl rfl (cov_cons rfl rfl (cov_cons rfl rfl (cov_cons rfl rfl (cov_cons rfl rfl cov_nil))))) ?_
      · by_cases hj : j = i
        · rw [hj]; exact hbit
        · exact hno j h1 (by omega)
      rw [maskV_off (i := i) (fun _ => hbit)]
      (try dsimp only [List.cons_append, List.nil_append, List.singleton_append, List.append_nil]); (repeat (first | exact Ent.nil | exact Ent.refl _ | (apply Ent.cons; (repeat (first | exact Sel.here | apply Sel.there)))))
    · have e1 : (((raw[i / 8] >>> (i % 8)) &&& 1#8).toNat : Int) = 1 := by rw [hv, hbit]; decide
      by_cases hiN : i < N
      · have hset : setB (maskV N (rbit raw) i) i true = maskV N (rbit raw) (i + 1) := by rw [setB_nat _ _ _ (by rw [maskV_len]; exact hiN), maskV_on hiN hbit]
        repeat' (first | refine ls_of rfl ?_ | refine ls_of_no ?_ | refine ls_guard_yes rfl rfl ?_ | refine ls_guard_no rfl rfl rfl rfl ?_ | refine ls_guard_un rfl rfl rfl ?_ | refine o1_move rfl ?_ | refine o1_assign rfl ?_ | refine st_seq ?_ | refine st_region ?_ | refine st_block ?_ | refine st_skip ?_ | refine st_ret ?_ | refine st_exit ?_ | refine st_cond_t rfl ?_ | refine st_cond_f rfl ?_ | refine st_cond rfl (fun _ => ?_) (fun _ => ?_) | refine ls_nil ?_ | refine nx_seq ?_ | refine nx_blk ?_ | refine nx_fn ?_ | refine nx_rounds ?_ | refine xt_seq ?_ | refine xt_here ?_ | refine xt_on rfl ?_ | refine xt_rounds ?_ | refine xt_cut ?_ | refine rt_seq ?_ | refine rt_blk ?_ | refine rt_rounds ?_ | refine rt_cut ?_ | refine o1_quo rfl rfl (by omega) ?_ | refine o1_ia (i / 8) rfl rfl h (by omega) (by omega) hi8 ?_ | refine o1_load_ia (i / 8) rfl h hi8 ?_ | (refine o1_ushr rfl rfl (by omega) ?_; rw [hsh]) | refine o1_uand (v := 1#8) rfl rfl ?_ | refine o1_eql_t rfl rfl e1 ?_ | (refine o1_call_br b6 a6 c6 (fun _ => (vec_Set _ b6 N a6 c6 (maskV N (rbit raw) i) i true (maskV_len _ _ _) hN).bv (b := true) (inV_of (by omega) (by omega))) rfl (fun _ _ => ?_); rw [hset]) | refine o1_pick_t rfl rfl ?_ | refine o1_pick_f rfl rfl ?_ | refine ox_load rfl (by rfl) ?_ | refine ox_load_enc rfl (by first | omega | (simp; omega)) ?_ | refine ox_load_any rfl (by assumption) ?_ | refine o1_len rfl ?_ | refine o1_add rfl rfl (by omega) ?_ | refine o1_lss_t rfl rfl (by omega) ?_ | refine o1_lss_f rfl rfl (by omega) ?_ | refine o1_lss rfl rfl (fun _ => ?_) (fun _ => ?_) | refine o1_eql_t rfl rfl (by omega) ?_ | refine o1_eql_f rfl rfl (by omega) ?_ | refine o1_eql rfl rfl (fun _ => ?_) (fun _ => ?_) | refine o1_neq_t rfl rfl (by omega) ?_ | refine o1_neq_f rfl rfl (by omega) ?_ | refine o1_neq rfl rfl (fun _ => ?_) (fun _ => ?_) | refine o1_bnot rfl ?_ | refine o1_uand rfl rfl ?_ | refine o1_ushr rfl rfl (by omega) ?_ | refine o1_unot rfl ?_ | refine o1_rem_nn rfl rfl (by omega) ?_ | refine o1_slice_nil rfl ?_)
        refine nx_again (i + 1) ⟨by omega, fun j h1 h2 => ?_⟩ (by omega) (cov_cons rfl rfl (cov_cons rfl rfl (cov_cons rfl rfl (cov_cons rfl rfl (cov_cons rfl rfl cov_nil))))) ?_
        · exact hno j h1 (by omega)
        (try dsimp only [List.cons_append, List.nil_append, List.singleton_append, List.append_nil]); (repeat (first | exact Ent.nil | exact Ent.refl _ | (apply Ent.cons; (repeat (first | exact Sel.here | apply Sel.there)))))
      · repeat' (first | refine ls_of rfl ?_ | refine ls_of_no ?_ | refine ls_guard_yes rfl rfl ?_ | refine ls_guard_no rfl rfl rfl rfl ?_ | refine ls_guard_un rfl rfl rfl ?_ | refine o1_move rfl ?_ | refine o1_assign rfl ?_ | refine st_seq ?_ | refine st_region ?_ | refine st_block ?_ | refine st_skip ?_ | refine st_ret ?_ | refine st_exit ?_ | refine st_cond_t rfl ?_ | refine st_cond_f rfl ?_ | refine st_cond rfl (fun _ => ?_) (fun _ => ?_) | refine ls_nil ?_ | refine nx_seq ?_ | refine nx_blk ?_ | refine nx_fn ?_ | refine nx_rounds ?_ | refine xt_seq ?_ | refine xt_here ?_ | refine xt_on rfl ?_ | refine xt_rounds ?_ | refine xt_cut ?_ | refine rt_seq ?_ | refine rt_blk ?_ | refine rt_rounds ?_ | refine rt_cut ?_ | refine o1_quo rfl rfl (by omega) ?_ | refine o1_ia (i / 8) rfl rfl h (by omega) (by omega) hi8 ?_ | refine o1_load_ia (i / 8) rfl h hi8 ?_ | (refine o1_ushr rfl rfl (by omega) ?_; rw [hsh]) | refine o1_uand (v := 1#8) rfl rfl ?_ | refine o1_eql_t rfl rfl e1 ?_ | refine o1_call_br b6 a6 c6 (fun _ => (vec_Set _ b6 N a6 c6 (maskV N (rbit raw) i) i true (maskV_len _ _ _) hN).bv (b := false) (inV_not (by omega))) rfl (fun _ _ => ?_) | refine o1_pick_t rfl rfl ?_ | refine o1_pick_f rfl rfl ?_ | refine ox_load rfl (by rfl) ?_ | refine ox_load_enc rfl (by first | omega | (simp; omega)) ?_ | refine ox_load_any rfl (by assumption) ?_ | refine o1_len rfl ?_ | refine o1_add rfl rfl (by omega) ?_ | refine o1_lss_t rfl rfl (by omega) ?_ | refine o1_lss_f rfl rfl (by omega) ?_ | refine o1_lss rfl rfl (fun _ => ?_) (fun _ => ?_) | refine o1_eql_t rfl rfl (by omega) ?_ | refine o1_eql_f rfl rfl (by omega) ?_ | refine o1_eql rfl rfl (fun _ => ?_) (fun _ => ?_) | refine o1_neq_t rfl rfl (by omega) ?_ | refine o1_neq_f rfl rfl (by omega) ?_ | refine o1_neq rfl rfl (fun _ => ?_) (fun _ => ?_) | refine o1_bnot rfl ?_ | refine o1_uand rfl rfl ?_ | refine o1_ushr rfl rfl (by omega) ?_ | refine o1_unot rfl ?_ | refine o1_rem_nn rfl rfl (by omega) ?_ | refine o1_slice_nil rfl ?_)
        refine rt_tmp2 () rfl rfl rfl rfl trivial ?_
        (try dsimp only [List.cons_append, List.nil_append, List.singleton_append, List.append_nil]); (repeat (first | exact Ent.nil | exact Ent.refl _ | (apply Ent.cons; (repeat (first | exact Sel.here | apply Sel.there)))))
  · exact absurd (hno i0 hb1 (by omega)) (by rw [hb3]; decide)
end Go.Dp

set_option linter.unusedVariables false
set_option linter.unusedSimpArgs false
namespace Go.Dp
open Go.RowKit Go.Proofs
def rtV9_0 : List Row := [⟨some 16, [], [], none⟩, ⟨some 17, [], [], none⟩, ⟨some 18, [0, 1], [0, 1], none⟩, ⟨some 19, [2], [0, 1, 2], none⟩, ⟨some 20, [], [], none⟩, ⟨some 21, [], [], none⟩, ⟨some 22, [4, 5], [4, 5], none⟩, ⟨some 23, [6], [4, 5, 6], none⟩, ⟨some 24, [3, 7], [0, 1, 2, 3, 4, 5, 6, 7], none⟩]
def rtV9_1 : List Row := [⟨some 5, [], [], none⟩, ⟨some 6, [0], [0], none⟩, ⟨some 7, [1], [0, 1], none⟩, ⟨some 8, [2], [0, 1, 2], some (2, false)⟩, ⟨some 9, [3, 2, 2], [0, 1, 2, 3], some (2, false)⟩, ⟨some 10, [2], [0, 1, 2], some (2, false)⟩, ⟨some 11, [5, 2], [0, 1, 2, 5], some (2, false)⟩, ⟨some 12, [4, 6, 2], [0, 1, 2, 3, 4, 5, 6], some (2, false)⟩, ⟨some 13, [2, 7], [0, 1, 2, 3, 4, 5, 6, 7], none⟩, ⟨some 14, [8, 4], [0, 1, 2, 3, 4, 5, 6, 7, 8], none⟩, ⟨some 15, [9], [0, 1, 2, 3, 4, 5, 6, 7, 8, 9], some (9, false)⟩, ⟨some 16, [10, 9, 9], [0, 1, 2, 3, 4, 5, 6, 7, 8, 9, 10], some (9, false)⟩, ⟨some 17, [9], [0, 1, 2, 3, 4, 5, 6, 7, 8, 9], some (9, false)⟩, ⟨some 18, [12, 11, 9], [0, 1, 2, 3, 4, 5, 6, 7, 8, 9, 10, 11, 12], some (9, false)⟩, ⟨some 19, [11, 13, 9], [0, 1, 2, 3, 4, 5, 6, 7, 8, 9, 10, 11, 12, 13], some (9, false)⟩, ⟨some 20, [9, 14], [0, 1, 2, 3, 4, 5, 6, 7, 8, 9, 10, 11, 12, 13, 14], none⟩, ⟨some 21, [15, 13], [0, 1, 2, 3, 4, 5, 6, 7, 8, 9, 10, 11, 12, 13, 14, 15], none⟩, ⟨some 22, [16], [0, 1, 2, 3, 4, 5, 6, 7, 8, 9, 10, 11, 12, 13, 14, 15, 16], some (16, false)⟩, ⟨some 23, [17, 16, 16], [0, 1, 2, 3, 4, 5, 6, 7, 8, 9, 10, 11, 12, 13, 14, 15, 16, 17], some (16, false)⟩, ⟨some 24, [16], [0, 1, 2, 3, 4, 5, 6, 7, 8, 9, 10, 11, 12, 13, 14, 15, 16], some (16, false)⟩, ⟨some 25, [19, 18, 16], [0, 1, 2, 3, 4, 5, 6, 7, 8, 9, 10, 11, 12, 13, 14, 15, 16, 17, 18, 19], some (16, false)⟩, ⟨some 26, [18, 20, 20, 16], [0, 1, 2, 3, 4, 5, 6, 7, 8, 9, 10, 11, 12, 13, 14, 15, 16, 17, 18, 19, 20], some (16, false)⟩, ⟨some 27, [21, 16], [0, 1, 2, 3, 4, 5, 6, 7, 8, 9, 10, 11, 12, 13, 14, 15, 16, 17, 18, 19, 20, 21], some (16, false)⟩, ⟨some 28, [16, 22], [0, 1, 2, 3, 4, 5, 6, 7, 8, 9, 10, 11, 12, 13, 14, 15, 16, 17, 18, 19, 20, 21, 22], none⟩, ⟨some 29, [23, 21], [0, 1, 2, 3, 4, 5, 6, 7, 8, 9, 10, 11, 12, 13, 14, 15, 16, 17, 18, 19, 20, 21, 22, 23], none⟩, ⟨some 30, [24], [0, 1, 2, 3, 4, 5, 6, 7, 8, 9, 10, 11, 12, 13, 14, 15, 16, 17, 18, 19, 20, 21, 22, 23, 24], some (24, false)⟩, ⟨some 31, [25, 24, 24], [0, 1, 2, 3, 4, 5, 6, 7, 8, 9, 10, 11, 12, 13, 14, 15, 16, 17, 18, 19, 20, 21, 22, 23, 24, 25], some (24, false)⟩, ⟨some 32, [24], [0, 1, 2, 3, 4, 5, 6, 7, 8, 9, 10, 11, 12, 13, 14, 15, 16, 17, 18, 19, 20, 21, 22, 23, 24], some (24, false)⟩, ⟨some 33, [27, 26, 24], [0, 1, 2, 3, 4, 5, 6, 7, 8, 9, 10, 11, 12, 13, 14, 15, 16, 17, 18, 19, 20, 21, 22, 23, 24, 25, 26, 27], some (24, false)⟩, ⟨some 34, [28, 24], [0, 1, 2, 3, 4, 5, 6, 7, 8, 9, 10, 11, 12, 13, 14, 15, 16, 17, 18, 19, 20, 21, 22, 23, 24, 25, 26, 27, 28], some (24, false)⟩, ⟨some 35, [26, 29, 24], [0, 1, 2, 3, 4, 5, 6, 7, 8, 9, 10, 11, 12, 13, 14, 15, 16, 17, 18, 19, 20, 21, 22, 23, 24, 25, 26, 27, 28, 29], some (24, false)⟩, ⟨some 36, [24, 30], [0, 1, 2, 3, 4, 5, 6, 7, 8, 9, 10, 11, 12, 13, 14, 15, 16, 17, 18, 19, 20, 21, 22, 23, 24, 25, 26, 27, 28, 29, 30], none⟩, ⟨some 37, [31, 28], [0, 1, 2, 3, 4, 5, 6, 7, 8, 9, 10, 11, 12, 13, 14, 15, 16, 17, 18, 19, 20, 21, 22, 23, 24, 25, 26, 27, 28, 29, 30, 31], none⟩, ⟨some 38, [32], [0, 1, 2, 3, 4, 5, 6, 7, 8, 9, 10, 11, 12, 13, 14, 15, 16, 17, 18, 19, 20, 21, 22, 23, 24, 25, 26, 27, 28, 29, 30, 31, 32], some (32, false)⟩, ⟨some 39, [33, 32, 32], [0, 1, 2, 3, 4, 5, 6, 7, 8, 9, 10, 11, 12, 13, 14, 15, 16, 17, 18, 19, 20, 21, 22, 23, 24, 25, 26, 27, 28, 29, 30, 31, 32, 33], some (32, false)⟩, ⟨some 40, [34, 32], [0, 1, 2, 3, 4, 5, 6, 7, 8, 9, 10, 11, 12, 13, 14, 15, 16, 17, 18, 19, 20, 21, 22, 23, 24, 25, 26, 27, 28, 29, 30, 31, 32, 33, 34], some (32, false)⟩, ⟨some 41, [32], [0, 1, 2, 3, 4, 5, 6, 7, 8, 9, 10, 11, 12, 13, 14, 15, 16, 17, 18, 19, 20, 21, 22, 23, 24, 25, 26, 27, 28, 29, 30, 31, 32], some (32, false)⟩, ⟨some 42, [36, 34, 32], [0, 1, 2, 3, 4, 5, 6, 7, 8, 9, 10, 11, 12, 13, 14, 15, 16, 17, 18, 19, 20, 21, 22, 23, 24, 25, 26, 27, 28, 29, 30, 31, 32, 33, 34, 36], some (32, false)⟩, ⟨some 43, [37, 32], [0, 1, 2, 3, 4, 5, 6, 7, 8, 9, 10, 11, 12, 13, 14, 15, 16, 17, 18, 19, 20, 21, 22, 23, 24, 25, 26, 27, 28, 29, 30, 31, 32, 33, 34, 36, 37], some (32, false)⟩, ⟨some 44, [35, 38, 32], [0, 1, 2, 3, 4, 5, 6, 7, 8, 9, 10, 11, 12, 13, 14, 15, 16, 17, 18, 19, 20, 21, 22, 23, 24, 25, 26, 27, 28, 29, 30, 31, 32, 33, 34, 35, 36, 37, 38], some (32, false)⟩, ⟨some 45, [32, 39], [0, 1, 2, 3, 4, 5, 6, 7, 8, 9, 10, 11, 12, 13, 14, 15, 16, 17, 18, 19, 20, 21, 22, 23, 24, 25, 26, 27, 28, 29, 30, 31, 32, 33, 34, 35, 36, 37, 38, 39], none⟩]
abbrev Bo (b : Bool) : Value := .bool b
theorem r1_Bits (H : List Hl) (N : Nat) (ad : Option Addr) (c : Nat) (l : List Int) (hN : N ≤ 256) (h : Rs (stars H) I ad c l) :
    Spec Tryd.prog 32 [I N, .slice ad l.length c] H (fun _ : Nat => True) (fun b => .slice (some ⟨b, 0, none⟩) N N) (fun b => .box b 4 ((bitsOf N l).map Bo) :: H) := by
  refine spec_pure (res := fun b : Nat => [.box b 4 ((bitsOf N l).map Bo)]) H Tryd.func32 rfl Tryd.ntmps32 (by kernel_rfl) rfl (fun W => ?_)
  have hle := h.le
  have hbg := h.big
  repeat' (first | refine ls_of rfl ?_ | refine ls_of_no ?_ | refine ls_guard_yes rfl rfl ?_ | refine ls_guard_no rfl rfl rfl rfl ?_ | refine ls_guard_un rfl rfl rfl ?_ | refine o1_move rfl ?_ | refine o1_assign rfl ?_ | refine st_seq ?_ | refine st_region ?_ | refine st_block ?_ | refine st_skip ?_ | refine st_ret ?_ | refine st_exit ?_ | refine st_cond_t rfl ?_ | refine st_cond_f rfl ?_ | refine st_cond rfl (fun _ => ?_) (fun _ => ?_) | refine ls_nil ?_ | refine nx_seq ?_ | refine nx_blk ?_ | refine nx_fn ?_ | refine nx_rounds ?_ | refine xt_seq ?_ | refine xt_here ?_ | refine xt_on rfl ?_ | refine xt_rounds ?_ | refine xt_cut ?_ | refine rt_seq ?_ | refine rt_blk ?_ | refine rt_rounds ?_ | refine rt_cut ?_ | refine o1_maker (enc := Bo) false N rfl rfl rfl rfl rfl (by omega) (by omega) (fun b5 => ?_) | refine o1_pick_t rfl rfl ?_ | refine o1_pick_f rfl rfl ?_ | refine ox_load rfl (by rfl) ?_ | refine ox_load_enc rfl (by first | omega | (simp; omega)) ?_ | refine ox_load_any rfl (by assumption) ?_ | refine o1_len rfl ?_ | refine o1_add rfl rfl (by omega) ?_ | refine o1_lss_t rfl rfl (by omega) ?_ | refine o1_lss_f rfl rfl (by omega) ?_ | refine o1_lss rfl rfl (fun _ => ?_) (fun _ => ?_) | refine o1_geq_t rfl rfl (by omega) ?_ | refine o1_geq_f rfl rfl (by omega) ?_ | refine o1_geq rfl rfl (fun _ => ?_) (fun _ => ?_) | refine o1_maken (enc := B) 0#8 rfl rfl rfl rfl (by omega) (by omega) (by omega) (fun _ => ?_) | refine ox_store_enc B rfl rfl (by first | omega | (simp; done) | (simp; omega)) rfl ?_ | refine ox_stores rfl rfl (by first | omega | (simp; done) | (simp; omega)) rfl (by first | (simp only [List.set_cons_zero, List.set_cons_succ, Nat.zero_add, Nat.reduceAdd]; rfl) | rfl) ?_)
  refine st_loop (S := Nat) (fun i => [(0, I N), (5, .slice (some ⟨b5, 0, none⟩) N N), (10, .slice ad l.length c), (11, I l.length), (12, I i)]) (fun i => [.box b5 4 ((bitsOf N (l.take i)).map Bo), .any (stars H)]) (fun i => i ≤ l.length) (fun i => l.length - i) 0 (Nat.zero_le _)
    (cov_cons rfl rfl (cov_cons rfl rfl (cov_cons rfl rfl (cov_cons rfl rfl (cov_cons rfl rfl cov_nil))))) (by show Ent _ [.box b5 4 ((bitsOf N (l.take 0)).map Bo), .any (stars H)]; rw [List.take_zero]; show Ent _ [.box b5 4 ((List.replicate N false).map Bo), .any (stars H)]; (try dsimp only [List.cons_append, List.nil_append, List.singleton_append, List.append_nil]); (repeat (first | exact Ent.nil | exact Ent.refl _ | (apply Ent.cons; (repeat (first | exact Sel.here | apply Sel.there)))))) ?_
  intro i hi
  by_cases hlt : i < l.length
  · have e1 : setI (bitsOf N (l.take i)) l[i] = bitsOf N (l.take (i + 1)) := by
      rw [← bitsOf_snoc, List.take_succ_eq_append_getElem hlt]
    have hbl := bitsOf_len N (l.take i)
    obtain ⟨x, hx⟩ : ∃ x, l[i] = x := ⟨_, rfl⟩
    rw [hx] at e1
    by_cases hin : 0 ≤ x ∧ x < N
    · obtain ⟨m, rfl⟩ : ∃ m : Nat, x = m := ⟨x.toNat, by omega⟩
      have hset : (bitsOf N (l.take i)).set m true = bitsOf N (l.take (i + 1)) := by
        rw [← e1, setI, if_pos (by omega)]; rfl
      have hml : m < (bitsOf N (l.take i)).length := by omega
      repeat' (first | refine ls_of rfl ?_ | refine ls_of_no ?_ | refine ls_guard_yes rfl rfl ?_ | refine ls_guard_no rfl rfl rfl rfl ?_ | refine ls_guard_un rfl rfl rfl ?_ | refine o1_move rfl ?_ | refine o1_assign rfl ?_ | refine st_seq ?_ | refine st_region ?_ | refine st_block ?_ | refine st_skip ?_ | refine st_ret ?_ | refine st_exit ?_ | refine st_cond_t rfl ?_ | refine st_cond_f rfl ?_ | refine st_cond rfl (fun _ => ?_) (fun _ => ?_) | refine ls_nil ?_ | refine nx_seq ?_ | refine nx_blk ?_ | refine nx_fn ?_ | refine nx_rounds ?_ | refine xt_seq ?_ | refine xt_here ?_ | refine xt_on rfl ?_ | refine xt_rounds ?_ | refine xt_cut ?_ | refine rt_seq ?_ | refine rt_blk ?_ | refine rt_rounds ?_ | refine rt_cut ?_ | refine o1_ia i rfl rfl h rfl rfl hlt ?_ | (refine o1_load_ia i rfl h hlt ?_; rw [hx]) | refine o1_own m rfl rfl rfl (by omega) ?_ | (refine ox_store_enc Bo (v := true) (l := bitsOf N (l.take i)) rfl rfl hml rfl ?_; rw [hset]) | refine o1_pick_t rfl rfl ?_ | refine o1_pick_f rfl rfl ?_ | refine ox_load rfl (by rfl) ?_ | refine ox_load_enc rfl (by first | omega | (simp; omega)) ?_ | refine ox_load_any rfl (by assumption) ?_ | refine o1_len rfl ?_ | refine o1_add rfl rfl (by omega) ?_ | refine o1_lss_t rfl rfl (by omega) ?_ | refine o1_lss_f rfl rfl (by omega) ?_ | refine o1_lss rfl rfl (fun _ => ?_) (fun _ => ?_) | refine o1_geq_t rfl rfl (by omega) ?_ | refine o1_geq_f rfl rfl (by omega) ?_ | refine o1_geq rfl rfl (fun _ => ?_) (fun _ => ?_) | refine o1_maken (enc := B) 0#8 rfl rfl rfl rfl (by omega) (by omega) (by omega) (fun _ => ?_) | refine ox_store_enc B rfl rfl (by first | omega | (simp; done) | (simp; omega)) rfl ?_ | refine ox_stores rfl rfl (by first | omega | (simp; done) | (simp; omega)) rfl (by first | (simp only [List.set_cons_zero, List.set_cons_succ, Nat.zero_add, Nat.reduceAdd]; rfl) | rfl) ?_)
      refine nx_again (i + 1) (by omega) (by omega) (cov_cons rfl rfl (cov_cons rfl rfl (cov_cons rfl rfl (cov_cons rfl rfl (cov_cons rfl rfl cov_nil))))) ?_
      (try dsimp only [List.cons_append, List.nil_append, List.singleton_append, List.append_nil]); (repeat (first | exact Ent.nil | exact Ent.refl _ | (apply Ent.cons; (repeat (first | exact Sel.here | apply Sel.there)))))
    · have hset : bitsOf N (l.take i) = bitsOf N (l.take (i + 1)) := by
        rw [← e1, setI, if_neg (by omega)]
      by_cases h0 : 0 ≤ x
      · repeat' (first | refine ls_of rfl ?_ | refine ls_of_no ?_ | refine ls_guard_yes rfl rfl ?_ | refine ls_guard_no rfl rfl rfl rfl ?_ | refine ls_guard_un rfl rfl rfl ?_ | refine o1_move rfl ?_ | refine o1_assign rfl ?_ | refine st_seq ?_ | refine st_region ?_ | refine st_block ?_ | refine st_skip ?_ | refine st_ret ?_ | refine st_exit ?_ | refine st_cond_t rfl ?_ | refine st_cond_f rfl ?_ | refine st_cond rfl (fun _ => ?_) (fun _ => ?_) | refine ls_nil ?_ | refine nx_seq ?_ | refine nx_blk ?_ | refine nx_fn ?_ | refine nx_rounds ?_ | refine xt_seq ?_ | refine xt_here ?_ | refine xt_on rfl ?_ | refine xt_rounds ?_ | refine xt_cut ?_ | refine rt_seq ?_ | refine rt_blk ?_ | refine rt_rounds ?_ | refine rt_cut ?_ | refine o1_ia i rfl rfl h rfl rfl hlt ?_ | (refine o1_load_ia i rfl h hlt ?_; rw [hx]) | refine o1_pick_t rfl rfl ?_ | refine o1_pick_f rfl rfl ?_ | refine ox_load rfl (by rfl) ?_ | refine ox_load_enc rfl (by first | omega | (simp; omega)) ?_ | refine ox_load_any rfl (by assumption) ?_ | refine o1_len rfl ?_ | refine o1_add rfl rfl (by omega) ?_ | refine o1_lss_t rfl rfl (by omega) ?_ | refine o1_lss_f rfl rfl (by omega) ?_ | refine o1_lss rfl rfl (fun _ => ?_) (fun _ => ?_) | refine o1_geq_t rfl rfl (by omega) ?_ | refine o1_geq_f rfl rfl (by omega) ?_ | refine o1_geq rfl rfl (fun _ => ?_) (fun _ => ?_) | refine o1_maken (enc := B) 0#8 rfl rfl rfl rfl (by omega) (by omega) (by omega) (fun _ => ?_) | refine ox_store_enc B rfl rfl (by first | omega | (simp; done) | (simp; omega)) rfl ?_ | refine ox_stores rfl rfl (by first | omega | (simp; done) | (simp; omega)) rfl (by first | (simp only [List.set_cons_zero, List.set_cons_succ, Nat.zero_add, Nat.reduceAdd]; rfl) | rfl) ?_)
        refine nx_again (i + 1) (by omega) (by omega) (cov_cons rfl rfl (cov_cons rfl rfl (cov_cons rfl rfl (cov_cons rfl rfl (cov_cons rfl rfl cov_nil))))) ?_
        rw [← hset]
        (try dsimp only [List.cons_append, List.nil_append, List.singleton_append, List.append_nil]); (repeat (first | exact Ent.nil | exact Ent.refl _ | (apply Ent.cons; (repeat (first | exact Sel.here | apply Sel.there)))))
      · repeat' (first | refine ls_of rfl ?_ | refine ls_of_no ?_ | refine ls_guard_yes rfl rfl ?_ | refine ls_guard_no rfl rfl rfl rfl ?_ | refine ls_guard_un rfl rfl rfl ?_ | refine o1_move rfl ?_ | refine o1_assign rfl ?_ | refine st_seq ?_ | refine st_region ?_ | refine st_block ?_ | refine st_skip ?_ | refine st_ret ?_ | refine st_exit ?_ | refine st_cond_t rfl ?_ | refine st_cond_f rfl ?_ | refine st_cond rfl (fun _ => ?_) (fun _ => ?_) | refine ls_nil ?_ | refine nx_seq ?_ | refine nx_blk ?_ | refine nx_fn ?_ | refine nx_rounds ?_ | refine xt_seq ?_ | refine xt_here ?_ | refine xt_on rfl ?_ | refine xt_rounds ?_ | refine xt_cut ?_ | refine rt_seq ?_ | refine rt_blk ?_ | refine rt_rounds ?_ | refine rt_cut ?_ | refine o1_ia i rfl rfl h rfl rfl hlt ?_ | (refine o1_load_ia i rfl h hlt ?_; rw [hx]) | refine o1_pick_t rfl rfl ?_ | refine o1_pick_f rfl rfl ?_ | refine ox_load rfl (by rfl) ?_ | refine ox_load_enc rfl (by first | omega | (simp; omega)) ?_ | refine ox_load_any rfl (by assumption) ?_ | refine o1_len rfl ?_ | refine o1_add rfl rfl (by omega) ?_ | refine o1_lss_t rfl rfl (by omega) ?_ | refine o1_lss_f rfl rfl (by omega) ?_ | refine o1_lss rfl rfl (fun _ => ?_) (fun _ => ?_) | refine o1_geq_t rfl rfl (by omega) ?_ | refine o1_geq_f rfl rfl (by omega) ?_ | refine o1_geq rfl rfl (fun _ => ?_) (fun _ => ?_) | refine o1_maken (enc := B) 0#8 rfl rfl rfl rfl (by omega) (by omega) (by omega) (fun _ => ?_) | refine ox_store_enc B rfl rfl (by first | omega | (simp; done) | (simp; omega)) rfl ?_ | refine ox_stores rfl rfl (by first | omega | (simp; done) | (simp; omega)) rfl (by first | (simp only [List.set_cons_zero, List.set_cons_succ, Nat.zero_add, Nat.reduceAdd]; rfl) | rfl) ?_)
        refine nx_again (i + 1) (by omega) (by omega) (cov_cons rfl rfl (cov_cons rfl rfl (cov_cons rfl rfl (cov_cons rfl rfl (cov_cons rfl rfl cov_nil))))) ?_
        rw [← hset]
        (try dsimp only [List.cons_append, List.nil_append, List.singleton_append, List.append_nil]); (repeat (first | exact Ent.nil | exact Ent.refl _ | (apply Ent.cons; (repeat (first | exact Sel.here | apply Sel.there)))))
  · have : i = l.length := by omega
    subst this
    repeat' (first | refine ls_of rfl ?_ | refine ls_of_no ?_ | refine ls_guard_yes rfl rfl ?_ | refine ls_guard_no rfl rfl rfl rfl ?_ | refine ls_guard_un rfl rfl rfl ?_ | refine o1_move rfl ?_ | refine o1_assign rfl ?_ | refine st_seq ?_ | refine st_region ?_ | refine st_block ?_ | refine st_skip ?_ | refine st_ret ?_ | refine st_exit ?_ | refine st_cond_t rfl ?_ | refine st_cond_f rfl ?_ | refine st_cond rfl (fun _ => ?_) (fun _ => ?_) | refine ls_nil ?_ | refine nx_seq ?_ | refine nx_blk ?_ | refine nx_fn ?_ | refine nx_rounds ?_ | refine xt_seq ?_ | refine xt_here ?_ | refine xt_on rfl ?_ | refine xt_rounds ?_ | refine xt_cut ?_ | refine rt_seq ?_ | refine rt_blk ?_ | refine rt_rounds ?_ | refine rt_cut ?_ | refine o1_pick_t rfl rfl ?_ | refine o1_pick_f rfl rfl ?_ | refine ox_load rfl (by rfl) ?_ | refine ox_load_enc rfl (by first | omega | (simp; omega)) ?_ | refine ox_load_any rfl (by assumption) ?_ | refine o1_len rfl ?_ | refine o1_add rfl rfl (by omega) ?_ | refine o1_lss_t rfl rfl (by omega) ?_ | refine o1_lss_f rfl rfl (by omega) ?_ | refine o1_lss rfl rfl (fun _ => ?_) (fun _ => ?_) | refine o1_geq_t rfl rfl (by omega) ?_ | refine o1_geq_f rfl rfl (by omega) ?_ | refine o1_geq rfl rfl (fun _ => ?_) (fun _ => ?_) | refine o1_maken (enc := B) 0#8 rfl rfl rfl rfl (by omega) (by omega) (by omega) (fun _ => ?_) | refine ox_store_enc B rfl rfl (by first | omega | (simp; done) | (simp; omega)) rfl ?_ | refine ox_stores rfl rfl (by first | omega | (simp; done) | (simp; omega)) rfl (by first | (simp only [List.set_cons_zero, List.set_cons_succ, Nat.zero_add, Nat.reduceAdd]; rfl) | rfl) ?_)
    refine rt_tmp b5 rfl rfl rfl trivial ?_
    rw [List.take_length]
    (try dsimp only [List.cons_append, List.nil_append, List.singleton_append, List.append_nil]); (repeat (first | exact Ent.nil | exact Ent.refl _ | (apply Ent.cons; (repeat (first | exact Sel.here | apply Sel.there)))))
theorem r1_List (H : List Hl) (ad : Option Addr) (m c : Nat) (b : List Bool) (h : Rs (stars H) Bo ad c b) (hm : m = b.length) (hn : m ≤ 256) :
    Spec Tryd.prog 61 [.slice ad m c] H (fun _ : Option Addr × Nat => True) (fun r => .slice r.1 (listV b).length r.2) (fun r => .row 3 1 (.slice r.1 (listV b).length r.2) (listV b).length ((listV b).map I) :: H) := by
  refine spec_pure (res := fun r : Option Addr × Nat => [.row 3 1 (.slice r.1 (listV b).length r.2) (listV b).length ((listV b).map I)]) H Tryd.func61 rfl Tryd.ntmps61 (by kernel_rfl) rfl (fun W => ?_)
  repeat' (first | refine ls_of rfl ?_ | refine ls_of_no ?_ | refine ls_guard_yes rfl rfl ?_ | refine ls_guard_no rfl rfl rfl rfl ?_ | refine ls_guard_un rfl rfl rfl ?_ | refine o1_move rfl ?_ | refine o1_assign rfl ?_ | refine st_seq ?_ | refine st_region ?_ | refine st_block ?_ | refine st_skip ?_ | refine st_ret ?_ | refine st_exit ?_ | refine st_cond_t rfl ?_ | refine st_cond_f rfl ?_ | refine st_cond rfl (fun _ => ?_) (fun _ => ?_) | refine ls_nil ?_ | refine nx_seq ?_ | refine nx_blk ?_ | refine nx_fn ?_ | refine nx_rounds ?_ | refine xt_seq ?_ | refine xt_here ?_ | refine xt_on rfl ?_ | refine xt_rounds ?_ | refine xt_cut ?_ | refine rt_seq ?_ | refine rt_blk ?_ | refine rt_rounds ?_ | refine rt_cut ?_ | refine ox_load rfl (by rfl) ?_ | refine ox_load_enc rfl (by first | omega | (simp; omega)) ?_ | refine ox_load_any rfl (by assumption) ?_ | refine o1_len rfl ?_ | refine o1_add rfl rfl (by omega) ?_ | refine o1_lss_t rfl rfl (by omega) ?_ | refine o1_lss_f rfl rfl (by omega) ?_ | refine o1_lss rfl rfl (fun _ => ?_) (fun _ => ?_) | refine o1_lit_B rfl rfl rfl rfl rfl (fun _ => ?_) | refine ox_append rfl rfl (rx_box rfl (by first | decide | omega)) rfl rfl (fun _ => rfl) (by omega) (by omega) (fun _ _ => ?_) | refine ox_append rfl rfl (rx_any (by assumption)) rfl rfl (fun _ => rfl) (by omega) (by omega) (fun _ _ => ?_) | refine ox_append rfl rfl rx_row rfl rfl (fun _ => rfl) (by omega) (by omega) (fun _ _ => ?_))
  refine st_ent (ent_nil 3 I) ?_
  refine st_loop (S := Nat × Option Addr × Nat) (fun s => [(3, .slice s.2.1 (listT b s.1).length s.2.2), (6, .slice ad m c), (7, I m), (8, I s.1)]) (fun s => [.row 3 1 (.slice s.2.1 (listT b s.1).length s.2.2) (listT b s.1).length ((listT b s.1).map I), .any (stars H)]) (fun s => s.1 ≤ m) (fun s => m - s.1) (0, none, 0) (Nat.zero_le _)
    (cov_cons rfl rfl (cov_cons rfl rfl (cov_cons rfl rfl (cov_cons rfl rfl cov_nil)))) (by show Ent _ [.row 3 1 (.slice none 0 0) 0 [], .any (stars H)]; (try dsimp only [List.cons_append, List.nil_append, List.singleton_append, List.append_nil]); (repeat (first | exact Ent.nil | exact Ent.refl _ | (apply Ent.cons; (repeat (first | exact Sel.here | apply Sel.there)))))) ?_
  rintro ⟨i, a1, c1⟩ hi
  dsimp only at hi ⊢
  have hll := listT_len b i
  by_cases hlt : i < m
  · have hil : i < b.length := by omega
    have hat : at_ b i = b[i] := by show b.getD i false = _; rw [List.getD_eq_getElem?_getD, List.getElem?_eq_getElem hil]; rfl
    cases hb : b[i]
    · rw [hb] at hat
      repeat' (first | refine ls_of rfl ?_ | refine ls_of_no ?_ | refine ls_guard_yes rfl rfl ?_ | refine ls_guard_no rfl rfl rfl rfl ?_ | refine ls_guard_un rfl rfl rfl ?_ | refine o1_move rfl ?_ | refine o1_assign rfl ?_ | refine st_seq ?_ | refine st_region ?_ | refine st_block ?_ | refine st_skip ?_ | refine st_ret ?_ | refine st_exit ?_ | refine st_cond_t rfl ?_ | refine st_cond_f rfl ?_ | refine st_cond rfl (fun _ => ?_) (fun _ => ?_) | refine ls_nil ?_ | refine nx_seq ?_ | refine nx_blk ?_ | refine nx_fn ?_ | refine nx_rounds ?_ | refine xt_seq ?_ | refine xt_here ?_ | refine xt_on rfl ?_ | refine xt_rounds ?_ | refine xt_cut ?_ | refine rt_seq ?_ | refine rt_blk ?_ | refine rt_rounds ?_ | refine rt_cut ?_ | refine o1_ia i rfl rfl h hm rfl hil ?_ | (refine o1_load_ia i rfl h hil ?_; rw [hb]) | refine ox_load rfl (by rfl) ?_ | refine ox_load_enc rfl (by first | omega | (simp; omega)) ?_ | refine ox_load_any rfl (by assumption) ?_ | refine o1_len rfl ?_ | refine o1_add rfl rfl (by omega) ?_ | refine o1_lss_t rfl rfl (by omega) ?_ | refine o1_lss_f rfl rfl (by omega) ?_ | refine o1_lss rfl rfl (fun _ => ?_) (fun _ => ?_) | refine o1_lit_B rfl rfl rfl rfl rfl (fun _ => ?_) | refine ox_append rfl rfl (rx_box rfl (by first | decide | omega)) rfl rfl (fun _ => rfl) (by omega) (by omega) (fun _ _ => ?_) | refine ox_append rfl rfl (rx_any (by assumption)) rfl rfl (fun _ => rfl) (by omega) (by omega) (fun _ _ => ?_) | refine ox_append rfl rfl rx_row rfl rfl (fun _ => rfl) (by omega) (by omega) (fun _ _ => ?_))
      refine nx_again (i + 1, a1, c1) (by show i + 1 ≤ m; omega) (by show m - (i + 1) < m - i; omega) (cov_cons rfl ?_ (cov_cons rfl rfl (cov_cons rfl rfl (cov_cons rfl rfl cov_nil)))) ?_
      · show Value.slice a1 _ c1 = Value.slice a1 (listT b (i + 1)).length c1
        rw [listT_off hat]
      · show Ent _ [.row 3 1 (.slice a1 (listT b (i + 1)).length c1) (listT b (i + 1)).length ((listT b (i + 1)).map I), .any (stars H)]
        rw [listT_off hat]
        (try dsimp only [List.cons_append, List.nil_append, List.singleton_append, List.append_nil]); (repeat (first | exact Ent.nil | exact Ent.refl _ | (apply Ent.cons; (repeat (first | exact Sel.here | apply Sel.there)))))
    · rw [hb] at hat
      repeat' (first | refine ls_of rfl ?_ | refine ls_of_no ?_ | refine ls_guard_yes rfl rfl ?_ | refine ls_guard_no rfl rfl rfl rfl ?_ | refine ls_guard_un rfl rfl rfl ?_ | refine o1_move rfl ?_ | refine o1_assign rfl ?_ | refine st_seq ?_ | refine st_region ?_ | refine st_block ?_ | refine st_skip ?_ | refine st_ret ?_ | refine st_exit ?_ | refine st_cond_t rfl ?_ | refine st_cond_f rfl ?_ | refine st_cond rfl (fun _ => ?_) (fun _ => ?_) | refine ls_nil ?_ | refine nx_seq ?_ | refine nx_blk ?_ | refine nx_fn ?_ | refine nx_rounds ?_ | refine xt_seq ?_ | refine xt_here ?_ | refine xt_on rfl ?_ | refine xt_rounds ?_ | refine xt_cut ?_ | refine rt_seq ?_ | refine rt_blk ?_ | refine rt_rounds ?_ | refine rt_cut ?_ | refine o1_ia i rfl rfl h hm rfl hil ?_ | (refine o1_load_ia i rfl h hil ?_; rw [hb]) | refine o1_lit_enc I [(i : Int)] rfl rfl rfl (fun _ => rfl) rfl rfl rfl (fun b3 => ?_) | refine ox_append (xs := listT b i) (ys := [(i : Int)]) rfl rfl (rx_box rfl (by decide)) rfl rfl (fun _ => rfl) (by omega) (by omega) (fun a4 c4 => ?_) | refine ox_load rfl (by rfl) ?_ | refine ox_load_enc rfl (by first | omega | (simp; omega)) ?_ | refine ox_load_any rfl (by assumption) ?_ | refine o1_len rfl ?_ | refine o1_add rfl rfl (by omega) ?_ | refine o1_lss_t rfl rfl (by omega) ?_ | refine o1_lss_f rfl rfl (by omega) ?_ | refine o1_lss rfl rfl (fun _ => ?_) (fun _ => ?_) | refine o1_lit_B rfl rfl rfl rfl rfl (fun _ => ?_) | refine ox_append rfl rfl (rx_box rfl (by first | decide | omega)) rfl rfl (fun _ => rfl) (by omega) (by omega) (fun _ _ => ?_) | refine ox_append rfl rfl (rx_any (by assumption)) rfl rfl (fun _ => rfl) (by omega) (by omega) (fun _ _ => ?_) | refine ox_append rfl rfl rx_row rfl rfl (fun _ => rfl) (by omega) (by omega) (fun _ _ => ?_))
      refine nx_again (i + 1, a4, c4) (by show i + 1 ≤ m; omega) (by show m - (i + 1) < m - i; omega) (cov_cons rfl ?_ (cov_cons rfl rfl (cov_cons rfl rfl (cov_cons rfl rfl cov_nil)))) ?_
      · show _ = Value.slice a4 (listT b (i + 1)).length c4
        rw [listT_on hat, List.length_append]
        rfl
      · show Ent _ [.row 3 1 (.slice a4 (listT b (i + 1)).length c4) (listT b (i + 1)).length ((listT b (i + 1)).map I), .any (stars H)]
        rw [listT_on hat, List.length_append]
        (try dsimp only [List.cons_append, List.nil_append, List.singleton_append, List.append_nil]); (repeat (first | exact Ent.nil | exact Ent.refl _ | (apply Ent.cons; (repeat (first | exact Sel.here | apply Sel.there)))))
  · have : i = m := by omega
    subst this
    have e1 : listT b i = listV b := by rw [listT, listV, hm]
    rw [e1]
    repeat' (first | refine ls_of rfl ?_ | refine ls_of_no ?_ | refine ls_guard_yes rfl rfl ?_ | refine ls_guard_no rfl rfl rfl rfl ?_ | refine ls_guard_un rfl rfl rfl ?_ | refine o1_move rfl ?_ | refine o1_assign rfl ?_ | refine st_seq ?_ | refine st_region ?_ | refine st_block ?_ | refine st_skip ?_ | refine st_ret ?_ | refine st_exit ?_ | refine st_cond_t rfl ?_ | refine st_cond_f rfl ?_ | refine st_cond rfl (fun _ => ?_) (fun _ => ?_) | refine ls_nil ?_ | refine nx_seq ?_ | refine nx_blk ?_ | refine nx_fn ?_ | refine nx_rounds ?_ | refine xt_seq ?_ | refine xt_here ?_ | refine xt_on rfl ?_ | refine xt_rounds ?_ | refine xt_cut ?_ | refine rt_seq ?_ | refine rt_blk ?_ | refine rt_rounds ?_ | refine rt_cut ?_ | refine ox_load rfl (by rfl) ?_ | refine ox_load_enc rfl (by first | omega | (simp; omega)) ?_ | refine ox_load_any rfl (by assumption) ?_ | refine o1_len rfl ?_ | refine o1_add rfl rfl (by omega) ?_ | refine o1_lss_t rfl rfl (by omega) ?_ | refine o1_lss_f rfl rfl (by omega) ?_ | refine o1_lss rfl rfl (fun _ => ?_) (fun _ => ?_) | refine o1_lit_B rfl rfl rfl rfl rfl (fun _ => ?_) | refine ox_append rfl rfl (rx_box rfl (by first | decide | omega)) rfl rfl (fun _ => rfl) (by omega) (by omega) (fun _ _ => ?_) | refine ox_append rfl rfl (rx_any (by assumption)) rfl rfl (fun _ => rfl) (by omega) (by omega) (fun _ _ => ?_) | refine ox_append rfl rfl rx_row rfl rfl (fun _ => rfl) (by omega) (by omega) (fun _ _ => ?_))
    refine rt_tmp (a1, c1) rfl rfl rfl trivial ?_
    (try dsimp only [List.cons_append, List.nil_append, List.singleton_append, List.append_nil]); (repeat (first | exact Ent.nil | exact Ent.refl _ | (apply Ent.cons; (repeat (first | exact Sel.here | apply Sel.there)))))
theorem r1_First (H : List Hl) (ad : Option Addr) (m c : Nat) (b : List Bool) (h : Rs (stars H) Bo ad c b) (hm : m = b.length) :
    Spec Tryd.prog 59 [.slice ad m c] H (fun _ : Unit => True) (fun _ => I (firstV b)) (fun _ => H) := by
  refine spec_pure (res := fun _ => []) H Tryd.func59 rfl Tryd.ntmps59 (by kernel_rfl) rfl (fun W => ?_)
  have hle := h.le
  have hbg := h.big
  repeat' (first | refine ls_of rfl ?_ | refine ls_of_no ?_ | refine ls_guard_yes rfl rfl ?_ | refine ls_guard_no rfl rfl rfl rfl ?_ | refine ls_guard_un rfl rfl rfl ?_ | refine o1_move rfl ?_ | refine o1_assign rfl ?_ | refine st_seq ?_ | refine st_region ?_ | refine st_block ?_ | refine st_skip ?_ | refine st_ret ?_ | refine st_exit ?_ | refine st_cond_t rfl ?_ | refine st_cond_f rfl ?_ | refine st_cond rfl (fun _ => ?_) (fun _ => ?_) | refine ls_nil ?_ | refine nx_seq ?_ | refine nx_blk ?_ | refine nx_fn ?_ | refine nx_rounds ?_ | refine xt_seq ?_ | refine xt_here ?_ | refine xt_on rfl ?_ | refine xt_rounds ?_ | refine xt_cut ?_ | refine rt_seq ?_ | refine rt_blk ?_ | refine rt_rounds ?_ | refine rt_cut ?_ | refine ox_load rfl (by rfl) ?_ | refine ox_load_enc rfl (by first | omega | (simp; omega)) ?_ | refine ox_load_any rfl (by assumption) ?_ | refine o1_len rfl ?_ | refine o1_add rfl rfl (by omega) ?_ | refine o1_lss_t rfl rfl (by omega) ?_ | refine o1_lss_f rfl rfl (by omega) ?_ | refine o1_lss rfl rfl (fun _ => ?_) (fun _ => ?_))
  refine st_loop (S := Nat) (fun i => [(5, .slice ad m c), (6, I m), (7, I i)]) (fun i => [.any (stars H)]) (fun i => i ≤ m ∧ ∀ j, j < i → at_ b j = false) (fun i => m - i) 0 ⟨Nat.zero_le _, by omega⟩
    (cov_cons rfl rfl (cov_cons rfl rfl (cov_cons rfl rfl cov_nil))) (Ent.refl _) ?_
  rintro i ⟨hi, hno⟩
  by_cases hlt : i < m
  · have hil : i < b.length := by omega
    have hat : at_ b i = b[i] := by show b.getD i false = _; rw [List.getD_eq_getElem?_getD, List.getElem?_eq_getElem hil]; rfl
    cases hb : b[i]
    · rw [hb] at hat
      repeat' (first | refine ls_of rfl ?_ | refine ls_of_no ?_ | refine ls_guard_yes rfl rfl ?_ | refine ls_guard_no rfl rfl rfl rfl ?_ | refine ls_guard_un rfl rfl rfl ?_ | refine o1_move rfl ?_ | refine o1_assign rfl ?_ | refine st_seq ?_ | refine st_region ?_ | refine st_block ?_ | refine st_skip ?_ | refine st_ret ?_ | refine st_exit ?_ | refine st_cond_t rfl ?_ | refine st_cond_f rfl ?_ | refine st_cond rfl (fun _ => ?_) (fun _ => ?_) | refine ls_nil ?_ | refine nx_seq ?_ | refine nx_blk ?_ | refine nx_fn ?_ | refine nx_rounds ?_ | refine xt_seq ?_ | refine xt_here ?_ | refine xt_on rfl ?_ | refine xt_rounds ?_ | refine xt_cut ?_ | refine rt_seq ?_ | refine rt_blk ?_ | refine rt_rounds ?_ | refine rt_cut ?_ | refine o1_ia i rfl rfl h hm rfl hil ?_ | (refine o1_load_ia i rfl h hil ?_; rw [hb]) | refine ox_load rfl (by rfl) ?_ | refine ox_load_enc rfl (by first | omega | (simp; omega)) ?_ | refine ox_load_any rfl (by assumption) ?_ | refine o1_len rfl ?_ | refine o1_add rfl rfl (by omega) ?_ | refine o1_lss_t rfl rfl (by omega) ?_ | refine o1_lss_f rfl rfl (by omega) ?_ | refine o1_lss rfl rfl (fun _ => ?_) (fun _ => ?_))
      refine nx_again (i + 1) ⟨by omega, fun j hj => ?_⟩ (by omega) (cov_cons rfl rfl (cov_cons rfl rfl (cov_cons rfl rfl cov_nil))) (Ent.refl _)
      by_cases e : j = i
      · rw [e]; exact hat
      · exact hno j (by omega)
    · rw [hb] at hat
      repeat' (first | refine ls_of rfl ?_ | refine ls_of_no ?_ | refine ls_guard_yes rfl rfl ?_ | refine ls_guard_no rfl rfl rfl rfl ?_ | refine ls_guard_un rfl rfl rfl ?_ | refine o1_move rfl ?_ | refine o1_assign rfl ?_ | refine st_seq ?_ | refine st_region ?_ | refine st_block ?_ | refine st_skip ?_ | refine st_ret ?_ | refine st_exit ?_ | refine st_cond_t rfl ?_ | refine st_cond_f rfl ?_ | refine st_cond rfl (fun _ => ?_) (fun _ => ?_) | refine ls_nil ?_ | refine nx_seq ?_ | refine nx_blk ?_ | refine nx_fn ?_ | refine nx_rounds ?_ | refine xt_seq ?_ | refine xt_here ?_ | refine xt_on rfl ?_ | refine xt_rounds ?_ | refine xt_cut ?_ | refine rt_seq ?_ | refine rt_blk ?_ | refine rt_rounds ?_ | refine rt_cut ?_ | refine o1_ia i rfl rfl h hm rfl hil ?_ | (refine o1_load_ia i rfl h hil ?_; rw [hb]) | refine ox_load rfl (by rfl) ?_ | refine ox_load_enc rfl (by first | omega | (simp; omega)) ?_ | refine ox_load_any rfl (by assumption) ?_ | refine o1_len rfl ?_ | refine o1_add rfl rfl (by omega) ?_ | refine o1_lss_t rfl rfl (by omega) ?_ | refine o1_lss_f rfl rfl (by omega) ?_ | refine o1_lss rfl rfl (fun _ => ?_) (fun _ => ?_))
      refine rt_tmp () rfl rfl ?_ trivial ?_
      · rw [firstV_is hil hat hno]
      (try dsimp only [List.cons_append, List.nil_append, List.singleton_append, List.append_nil]); (repeat (first | exact Ent.nil | exact Ent.refl _ | (apply Ent.cons; (repeat (first | exact Sel.here | apply Sel.there)))))
  · have : i = m := by omega
    subst this
    repeat' (first | refine ls_of rfl ?_ | refine ls_of_no ?_ | refine ls_guard_yes rfl rfl ?_ | refine ls_guard_no rfl rfl rfl rfl ?_ | refine ls_guard_un rfl rfl rfl ?_ | refine o1_move rfl ?_ | refine o1_assign rfl ?_ | refine st_seq ?_ | refine st_region ?_ | refine st_block ?_ | refine st_skip ?_ | refine st_ret ?_ | refine st_exit ?_ | refine st_cond_t rfl ?_ | refine st_cond_f rfl ?_ | refine st_cond rfl (fun _ => ?_) (fun _ => ?_) | refine ls_nil ?_ | refine nx_seq ?_ | refine nx_blk ?_ | refine nx_fn ?_ | refine nx_rounds ?_ | refine xt_seq ?_ | refine xt_here ?_ | refine xt_on rfl ?_ | refine xt_rounds ?_ | refine xt_cut ?_ | refine rt_seq ?_ | refine rt_blk ?_ | refine rt_rounds ?_ | refine rt_cut ?_ | refine ox_load rfl (by rfl) ?_ | refine ox_load_enc rfl (by first | omega | (simp; omega)) ?_ | refine ox_load_any rfl (by assumption) ?_ | refine o1_len rfl ?_ | refine o1_add rfl rfl (by omega) ?_ | refine o1_lss_t rfl rfl (by omega) ?_ | refine o1_lss_f rfl rfl (by omega) ?_ | refine o1_lss rfl rfl (fun _ => ?_) (fun _ => ?_))
    refine rt_tmp () rfl rfl ?_ trivial ?_
    · rw [firstV_none (l := b) (fun j hj => hno j (by omega))]
    (try dsimp only [List.cons_append, List.nil_append, List.singleton_append, List.append_nil]); (repeat (first | exact Ent.nil | exact Ent.refl _ | (apply Ent.cons; (repeat (first | exact Sel.here | apply Sel.there)))))
theorem r1_Pack (H : List Hl) (ad : Option Addr) (m c : Nat) (b : List Bool) (h : Rs (stars H) Bo ad c b) (hm : m = b.length) (hn : m ≤ 256) :
    Spec Tryd.prog 62 [.slice ad m c] H (fun _ : Nat => True) (fun r => .slice (some ⟨r, 0, none⟩) (nb m) (nb m)) (fun r => .box r 5 ((bytesV b).map B) :: H) := by
  refine spec_pure (res := fun r : Nat => [.box r 5 ((bytesV b).map B)]) H Tryd.func62 rfl Tryd.ntmps62 (by kernel_rfl) rfl (fun W => ?_)
  have hnb : nb m ≤ 32 := by unfold nb; omega
  have hq : ((m : Int) + 7) / 8 = (nb m : Nat) := by unfold nb; omega
  have hz : List.replicate (nb m) 0#8 = bytesV (maskV m (at_ b) 0) := by rw [maskV_zero, bytesV_zero]
  repeat' (first | refine ls_of rfl ?_ | refine ls_of_no ?_ | refine ls_guard_yes rfl rfl ?_ | refine ls_guard_no rfl rfl rfl rfl ?_ | refine ls_guard_un rfl rfl rfl ?_ | refine o1_move rfl ?_ | refine o1_assign rfl ?_ | refine st_seq ?_ | refine st_region ?_ | refine st_block ?_ | refine st_skip ?_ | refine st_ret ?_ | refine st_exit ?_ | refine st_cond_t rfl ?_ | refine st_cond_f rfl ?_ | refine st_cond rfl (fun _ => ?_) (fun _ => ?_) | refine ls_nil ?_ | refine nx_seq ?_ | refine nx_blk ?_ | refine nx_fn ?_ | refine nx_rounds ?_ | refine xt_seq ?_ | refine xt_here ?_ | refine xt_on rfl ?_ | refine xt_rounds ?_ | refine xt_cut ?_ | refine rt_seq ?_ | refine rt_blk ?_ | refine rt_rounds ?_ | refine rt_cut ?_ | (refine o1_quo rfl rfl (by omega) ?_; rw [hq]) | (refine o1_maker (enc := B) 0#8 (nb m) rfl rfl rfl rfl rfl (by omega) (by omega) (fun b3 => ?_); rw [hz]) | refine ox_load rfl (by rfl) ?_ | refine ox_load_enc rfl (by first | omega | (simp; omega)) ?_ | refine ox_load_any rfl (by assumption) ?_ | refine o1_len rfl ?_ | refine o1_add rfl rfl (by omega) ?_ | refine o1_lss_t rfl rfl (by omega) ?_ | refine o1_lss_f rfl rfl (by omega) ?_ | refine o1_lss rfl rfl (fun _ => ?_) (fun _ => ?_) | refine o1_uor rfl rfl ?_ | refine o1_ushl rfl rfl (by omega) ?_ | refine o1_conv_u64 rfl (by omega) ?_ | refine o1_conv_iu rfl ?_ | refine o1_rem_nn rfl rfl (by omega) ?_ | refine o1_maken (enc := B) 0#8 rfl rfl rfl rfl (by omega) (by omega) (by omega) (fun _ => ?_) | refine ox_store_enc B rfl rfl (by first | omega | (simp; done) | (simp; omega)) rfl ?_ | refine ox_stores rfl rfl (by first | omega | (simp; done) | (simp; omega)) rfl (by first | (simp only [List.set_cons_zero, List.set_cons_succ, Nat.zero_add, Nat.reduceAdd]; rfl) | rfl) ?_)
  refine st_loop (S := Nat) (fun i => [(3, .slice (some ⟨b3, 0, none⟩) (nb m) (nb m)), (11, .slice ad m c), (12, I m), (13, I i)]) (fun i => [.box b3 5 ((bytesV (maskV m (at_ b) i)).map B), .any (stars H)]) (fun i => i ≤ m) (fun i => m - i) 0 (Nat.zero_le _)
    (cov_cons rfl rfl (cov_cons rfl rfl (cov_cons rfl rfl (cov_cons rfl rfl cov_nil)))) (by (try dsimp only [List.cons_append, List.nil_append, List.singleton_append, List.append_nil]); (repeat (first | exact Ent.nil | exact Ent.refl _ | (apply Ent.cons; (repeat (first | exact Sel.here | apply Sel.there)))))) ?_
  intro i hi
  by_cases hlt : i < m
  · have hil : i < b.length := by omega
    have hat : at_ b i = b[i] := by show b.getD i false = _; rw [List.getD_eq_getElem?_getD, List.getElem?_eq_getElem hil]; rfl
    cases hb : b[i]
    · rw [hb] at hat
      repeat' (first | refine ls_of rfl ?_ | refine ls_of_no ?_ | refine ls_guard_yes rfl rfl ?_ | refine ls_guard_no rfl rfl rfl rfl ?_ | refine ls_guard_un rfl rfl rfl ?_ | refine o1_move rfl ?_ | refine o1_assign rfl ?_ | refine st_seq ?_ | refine st_region ?_ | refine st_block ?_ | refine st_skip ?_ | refine st_ret ?_ | refine st_exit ?_ | refine st_cond_t rfl ?_ | refine st_cond_f rfl ?_ | refine st_cond rfl (fun _ => ?_) (fun _ => ?_) | refine ls_nil ?_ | refine nx_seq ?_ | refine nx_blk ?_ | refine nx_fn ?_ | refine nx_rounds ?_ | refine xt_seq ?_ | refine xt_here ?_ | refine xt_on rfl ?_ | refine xt_rounds ?_ | refine xt_cut ?_ | refine rt_seq ?_ | refine rt_blk ?_ | refine rt_rounds ?_ | refine rt_cut ?_ | refine o1_ia i rfl rfl h hm rfl hil ?_ | (refine o1_load_ia i rfl h hil ?_; rw [hb]) | refine ox_load rfl (by rfl) ?_ | refine ox_load_enc rfl (by first | omega | (simp; omega)) ?_ | refine ox_load_any rfl (by assumption) ?_ | refine o1_len rfl ?_ | refine o1_add rfl rfl (by omega) ?_ | refine o1_lss_t rfl rfl (by omega) ?_ | refine o1_lss_f rfl rfl (by omega) ?_ | refine o1_lss rfl rfl (fun _ => ?_) (fun _ => ?_) | refine o1_uor rfl rfl ?_ | refine o1_ushl rfl rfl (by omega) ?_ | refine o1_conv_u64 rfl (by omega) ?_ | refine o1_conv_iu rfl ?_ | refine o1_rem_nn rfl rfl (by omega) ?_ | refine o1_maken (enc := B) 0#8 rfl rfl rfl rfl (by omega) (by omega) (by omega) (fun _ => ?_) | refine ox_store_enc B rfl rfl (by first | omega | (simp; done) | (simp; omega)) rfl ?_ | refine ox_stores rfl rfl (by first | omega | (simp; done) | (simp; omega)) rfl (by first | (simp only [List.set_cons_zero, List.set_cons_succ, Nat.zero_add, Nat.reduceAdd]; rfl) | rfl) ?_)
      refine nx_again (i + 1) (by omega) (by omega) (cov_cons rfl rfl (cov_cons rfl rfl (cov_cons rfl rfl (cov_cons rfl rfl cov_nil)))) ?_
      rw [maskV_off (f := at_ b) (fun _ => hat)]
      (try dsimp only [List.cons_append, List.nil_append, List.singleton_append, List.append_nil]); (repeat (first | exact Ent.nil | exact Ent.refl _ | (apply Ent.cons; (repeat (first | exact Sel.here | apply Sel.there)))))
    · rw [hb] at hat
      have hml : i < (maskV m (at_ b) i).length := by rw [maskV_len]; exact hlt
      have hon := bytesV_on (maskV m (at_ b) i) i hml
      rw [← maskV_on hlt hat] at hon
      have hk : i / 8 < nb m := by unfold nb; omega
      have hbl : (bytesV (maskV m (at_ b) i)).length = nb m := by rw [bytesV_len, maskV_len]
      have hkl : i / 8 < (bytesV (maskV m (at_ b) i)).length := by omega
      have hby : (bytesV (maskV m (at_ b) i))[i / 8] = byteOf (maskV m (at_ b) i) (i / 8) := bytesV_at _ _ _
      have hsh : ((i : Int) % 8).toNat = i % 8 := by omega
      repeat' (first | refine ls_of rfl ?_ | refine ls_of_no ?_ | refine ls_guard_yes rfl rfl ?_ | refine ls_guard_no rfl rfl rfl rfl ?_ | refine ls_guard_un rfl rfl rfl ?_ | refine o1_move rfl ?_ | refine o1_assign rfl ?_ | refine st_seq ?_ | refine st_region ?_ | refine st_block ?_ | refine st_skip ?_ | refine st_ret ?_ | refine st_exit ?_ | refine st_cond_t rfl ?_ | refine st_cond_f rfl ?_ | refine st_cond rfl (fun _ => ?_) (fun _ => ?_) | refine ls_nil ?_ | refine nx_seq ?_ | refine nx_blk ?_ | refine nx_fn ?_ | refine nx_rounds ?_ | refine xt_seq ?_ | refine xt_here ?_ | refine xt_on rfl ?_ | refine xt_rounds ?_ | refine xt_cut ?_ | refine rt_seq ?_ | refine rt_blk ?_ | refine rt_rounds ?_ | refine rt_cut ?_ | refine o1_ia i rfl rfl h hm rfl hil ?_ | (refine o1_load_ia i rfl h hil ?_; rw [hb]) | refine o1_quo rfl rfl (by omega) ?_ | refine o1_own (i / 8) rfl rfl (by omega) hk ?_ | (refine ox_load_enc (enc := B) (l := bytesV (maskV m (at_ b) i)) rfl hkl ?_; rw [hby]) | refine o1_conv_u64 rfl (by omega) ?_ | (refine o1_ushl (u := 1#8) rfl rfl (by omega) ?_; rw [hsh]) | (refine ox_store_enc B (l := bytesV (maskV m (at_ b) i)) rfl rfl hkl rfl ?_; rw [← hon]) | refine ox_load rfl (by rfl) ?_ | refine ox_load_enc rfl (by first | omega | (simp; omega)) ?_ | refine ox_load_any rfl (by assumption) ?_ | refine o1_len rfl ?_ | refine o1_add rfl rfl (by omega) ?_ | refine o1_lss_t rfl rfl (by omega) ?_ | refine o1_lss_f rfl rfl (by omega) ?_ | refine o1_lss rfl rfl (fun _ => ?_) (fun _ => ?_) | refine o1_uor rfl rfl ?_ | refine o1_ushl rfl rfl (by omega) ?_ | refine o1_conv_u64 rfl (by omega) ?_ | refine o1_conv_iu rfl ?_ | refine o1_rem_nn rfl rfl (by omega) ?_ | refine o1_maken (enc := B) 0#8 rfl rfl rfl rfl (by omega) (by omega) (by omega) (fun _ => ?_) | refine ox_store_enc B rfl rfl (by first | omega | (simp; done) | (simp; omega)) rfl ?_ | refine ox_stores rfl rfl (by first | omega | (simp; done) | (simp; omega)) rfl (by first | (simp only [List.set_cons_zero, List.set_cons_succ, Nat.zero_add, Nat.reduceAdd]; rfl) | rfl) ?_)
      refine nx_again (i + 1) (by omega) (by omega) (cov_cons rfl rfl (cov_cons rfl rfl (cov_cons rfl rfl (cov_cons rfl rfl cov_nil)))) ?_
      (try dsimp only [List.cons_append, List.nil_append, List.singleton_append, List.append_nil]); (repeat (first | exact Ent.nil | exact Ent.refl _ | (apply Ent.cons; (repeat (first | exact Sel.here | apply Sel.there)))))
  · have : i = m := by omega
    subst this
    have e1 : maskV i (at_ b) i = b := by rw [hm]; exact maskV_all (Nat.le_refl _)
    rw [e1]
    repeat' (first | refine ls_of rfl ?_ | refine ls_of_no ?_ | refine ls_guard_yes rfl rfl ?_ | refine ls_guard_no rfl rfl rfl rfl ?_ | refine ls_guard_un rfl rfl rfl ?_ | refine o1_move rfl ?_ | refine o1_assign rfl ?_ | refine st_seq ?_ | refine st_region ?_ | refine st_block ?_ | refine st_skip ?_ | refine st_ret ?_ | refine st_exit ?_ | refine st_cond_t rfl ?_ | refine st_cond_f rfl ?_ | refine st_cond rfl (fun _ => ?_) (fun _ => ?_) | refine ls_nil ?_ | refine nx_seq ?_ | refine nx_blk ?_ | refine nx_fn ?_ | refine nx_rounds ?_ | refine xt_seq ?_ | refine xt_here ?_ | refine xt_on rfl ?_ | refine xt_rounds ?_ | refine xt_cut ?_ | refine rt_seq ?_ | refine rt_blk ?_ | refine rt_rounds ?_ | refine rt_cut ?_ | refine ox_load rfl (by rfl) ?_ | refine ox_load_enc rfl (by first | omega | (simp; omega)) ?_ | refine ox_load_any rfl (by assumption) ?_ | refine o1_len rfl ?_ | refine o1_add rfl rfl (by omega) ?_ | refine o1_lss_t rfl rfl (by omega) ?_ | refine o1_lss_f rfl rfl (by omega) ?_ | refine o1_lss rfl rfl (fun _ => ?_) (fun _ => ?_) | refine o1_uor rfl rfl ?_ | refine o1_ushl rfl rfl (by omega) ?_ | refine o1_conv_u64 rfl (by omega) ?_ | refine o1_conv_iu rfl ?_ | refine o1_rem_nn rfl rfl (by omega) ?_ | refine o1_maken (enc := B) 0#8 rfl rfl rfl rfl (by omega) (by omega) (by omega) (fun _ => ?_) | refine ox_store_enc B rfl rfl (by first | omega | (simp; done) | (simp; omega)) rfl ?_ | refine ox_stores rfl rfl (by first | omega | (simp; done) | (simp; omega)) rfl (by first | (simp only [List.set_cons_zero, List.set_cons_succ, Nat.zero_add, Nat.reduceAdd]; rfl) | rfl) ?_)
    refine rt_tmp b3 rfl rfl rfl trivial ?_
    (try dsimp only [List.cons_append, List.nil_append, List.singleton_append, List.append_nil]); (repeat (first | exact Ent.nil | exact Ent.refl _ | (apply Ent.cons; (repeat (first | exact Sel.here | apply Sel.there)))))
theorem law5_same (H : List Hl) (ad ad' : Option Addr) (c c' : Nat) (l : List Int) (h1 : Rs (stars H) I ad c l) (h2 : Rs (stars H) I ad' c' l) :
    Spec Tryd.prog 60 [.slice ad l.length c, .slice ad' l.length c'] H (fun _ : Unit => True) (fun _ => .bool true) (fun _ => H) := by
  have b1 := h1.le
  have b2 := h1.big
  refine spec_pure (res := fun _ => []) H Tryd.func60 rfl Tryd.ntmps60 (by kernel_rfl) rfl (fun W => ?_)
  repeat' (first | refine ls_of rfl ?_ | refine ls_of_no ?_ | refine ls_guard_yes rfl rfl ?_ | refine ls_guard_no rfl rfl rfl rfl ?_ | refine ls_guard_un rfl rfl rfl ?_ | refine o1_move rfl ?_ | refine o1_assign rfl ?_ | refine st_seq ?_ | refine st_region ?_ | refine st_block ?_ | refine st_skip ?_ | refine st_ret ?_ | refine st_exit ?_ | refine st_cond_t rfl ?_ | refine st_cond_f rfl ?_ | refine st_cond rfl (fun _ => ?_) (fun _ => ?_) | refine ls_nil ?_ | refine nx_seq ?_ | refine nx_blk ?_ | refine nx_fn ?_ | refine nx_rounds ?_ | refine xt_seq ?_ | refine xt_here ?_ | refine xt_on rfl ?_ | refine xt_rounds ?_ | refine xt_cut ?_ | refine rt_seq ?_ | refine rt_blk ?_ | refine rt_rounds ?_ | refine rt_cut ?_ | refine ox_load rfl (by rfl) ?_ | refine ox_load_enc rfl (by first | omega | (simp; omega)) ?_ | refine ox_load_any rfl (by assumption) ?_ | refine o1_len rfl ?_ | refine o1_add rfl rfl (by omega) ?_ | refine o1_lss_t rfl rfl (by omega) ?_ | refine o1_lss_f rfl rfl (by omega) ?_ | refine o1_lss rfl rfl (fun _ => ?_) (fun _ => ?_) | refine o1_neq_t rfl rfl (by omega) ?_ | refine o1_neq_f rfl rfl (by omega) ?_ | refine o1_neq rfl rfl (fun _ => ?_) (fun _ => ?_))
  refine st_loop (S := Nat) (fun i => [(0, .slice ad l.length c), (1, .slice ad' l.length c'), (12, I l.length), (13, I i)]) (fun _ => [.any (stars H)]) (fun i => i ≤ l.length) (fun i => l.length - i) 0 (Nat.zero_le _)
    (cov_cons rfl rfl (cov_cons rfl rfl (cov_cons rfl rfl (cov_cons rfl rfl cov_nil)))) (Ent.refl _) ?_
  intro i hi
  by_cases hlt : i < l.length
  · repeat' (first | refine ls_of rfl ?_ | refine ls_of_no ?_ | refine ls_guard_yes rfl rfl ?_ | refine ls_guard_no rfl rfl rfl rfl ?_ | refine ls_guard_un rfl rfl rfl ?_ | refine o1_move rfl ?_ | refine o1_assign rfl ?_ | refine st_seq ?_ | refine st_region ?_ | refine st_block ?_ | refine st_skip ?_ | refine st_ret ?_ | refine st_exit ?_ | refine st_cond_t rfl ?_ | refine st_cond_f rfl ?_ | refine st_cond rfl (fun _ => ?_) (fun _ => ?_) | refine ls_nil ?_ | refine nx_seq ?_ | refine nx_blk ?_ | refine nx_fn ?_ | refine nx_rounds ?_ | refine xt_seq ?_ | refine xt_here ?_ | refine xt_on rfl ?_ | refine xt_rounds ?_ | refine xt_cut ?_ | refine rt_seq ?_ | refine rt_blk ?_ | refine rt_rounds ?_ | refine rt_cut ?_ | refine ox_load rfl (by rfl) ?_ | refine ox_load_enc rfl (by first | omega | (simp; omega)) ?_ | refine ox_load_any rfl (by assumption) ?_ | refine o1_len rfl ?_ | refine o1_add rfl rfl (by omega) ?_ | refine o1_lss_t rfl rfl (by omega) ?_ | refine o1_lss_f rfl rfl (by omega) ?_ | refine o1_lss rfl rfl (fun _ => ?_) (fun _ => ?_) | refine o1_neq_t rfl rfl (by omega) ?_ | refine o1_neq_f rfl rfl (by omega) ?_ | refine o1_neq rfl rfl (fun _ => ?_) (fun _ => ?_))
    refine st_stages [(0, _), (5, _), (1, _)] rtV9_0 [] [⟨[0, 1, 2, 3, 4, 5, 6, 7, 8], [], none⟩] mixed (cov_cons rfl rfl (cov_cons rfl rfl (cov_cons rfl rfl cov_nil))) (by kernel_rfl) (by kernel_rfl) ?_
    all_goals refine wk_end ?_
    all_goals (refine xp1 0 rfl rfl rfl rfl (by refine o1_move rfl fz) ?_)
    all_goals (refine xp1 5 rfl rfl rfl rfl (by refine o1_move rfl fz) ?_)
    all_goals (refine xp2 16 17 rfl rfl rfl rfl rfl (by first | refine o1_ia (ad := ad) (c := c) i rfl rfl h1 rfl rfl hlt fz | refine o1_ia (ad := ad') (c := c') i rfl rfl h2 rfl rfl hlt fz) ?_)
    all_goals (refine xp1 18 rfl rfl rfl rfl (by first | refine o1_load_ia (ad := ad) (c := c) i rfl h1 hlt fz | refine o1_load_ia (ad := ad') (c := c') i rfl h2 hlt fz | refine ox_load rfl (by rfl) fz | refine ox_load_enc rfl (by first | omega | (simp; omega)) fz | refine ox_load_any rfl (by assumption) fz) ?_)
    all_goals (refine xp1 1 rfl rfl rfl rfl (by refine o1_move rfl fz) ?_)
    all_goals (refine xp1 5 rfl rfl rfl rfl (by refine o1_move rfl fz) ?_)
    all_goals (refine xp2 20 21 rfl rfl rfl rfl rfl (by first | refine o1_ia (ad := ad) (c := c) i rfl rfl h1 rfl rfl hlt fz | refine o1_ia (ad := ad') (c := c') i rfl rfl h2 rfl rfl hlt fz) ?_)
    all_goals (refine xp1 22 rfl rfl rfl rfl (by first | refine o1_load_ia (ad := ad) (c := c) i rfl h1 hlt fz | refine o1_load_ia (ad := ad') (c := c') i rfl h2 hlt fz | refine ox_load rfl (by rfl) fz | refine ox_load_enc rfl (by first | omega | (simp; omega)) fz | refine ox_load_any rfl (by assumption) fz) ?_)
    all_goals (refine xp2 19 23 rfl rfl rfl rfl rfl (by first | refine o1_neq_f rfl rfl rfl fz | refine o1_neq_t rfl rfl (by omega) fz | refine o1_neq_f rfl rfl (by omega) fz | refine o1_neq_d rfl rfl fz) ?_)
    all_goals refine op_nil ?_
    all_goals refine re_nil ?_
    all_goals dsimp only [List.cons_append, List.nil_append]
    repeat' (first | refine ls_of rfl ?_ | refine ls_of_no ?_ | refine ls_guard_yes rfl rfl ?_ | refine ls_guard_no rfl rfl rfl rfl ?_ | refine ls_guard_un rfl rfl rfl ?_ | refine o1_move rfl ?_ | refine o1_assign rfl ?_ | refine st_seq ?_ | refine st_region ?_ | refine st_block ?_ | refine st_skip ?_ | refine st_ret ?_ | refine st_exit ?_ | refine st_cond_t rfl ?_ | refine st_cond_f rfl ?_ | refine st_cond rfl (fun _ => ?_) (fun _ => ?_) | refine ls_nil ?_ | refine nx_seq ?_ | refine nx_blk ?_ | refine nx_fn ?_ | refine nx_rounds ?_ | refine xt_seq ?_ | refine xt_here ?_ | refine xt_on rfl ?_ | refine xt_rounds ?_ | refine xt_cut ?_ | refine rt_seq ?_ | refine rt_blk ?_ | refine rt_rounds ?_ | refine rt_cut ?_ | refine ox_load rfl (by rfl) ?_ | refine ox_load_enc rfl (by first | omega | (simp; omega)) ?_ | refine ox_load_any rfl (by assumption) ?_ | refine o1_len rfl ?_ | refine o1_add rfl rfl (by omega) ?_ | refine o1_lss_t rfl rfl (by omega) ?_ | refine o1_lss_f rfl rfl (by omega) ?_ | refine o1_lss rfl rfl (fun _ => ?_) (fun _ => ?_) | refine o1_neq_t rfl rfl (by omega) ?_ | refine o1_neq_f rfl rfl (by omega) ?_ | refine o1_neq rfl rfl (fun _ => ?_) (fun _ => ?_))
    refine nx_again (i + 1) (by omega) (by omega) (cov_cons rfl rfl (cov_cons rfl rfl (cov_cons rfl rfl (cov_cons rfl rfl cov_nil)))) (Ent.refl _)
  · have : i = l.length := by omega
    subst this
    repeat' (first | refine ls_of rfl ?_ | refine ls_of_no ?_ | refine ls_guard_yes rfl rfl ?_ | refine ls_guard_no rfl rfl rfl rfl ?_ | refine ls_guard_un rfl rfl rfl ?_ | refine o1_move rfl ?_ | refine o1_assign rfl ?_ | refine st_seq ?_ | refine st_region ?_ | refine st_block ?_ | refine st_skip ?_ | refine st_ret ?_ | refine st_exit ?_ | refine st_cond_t rfl ?_ | refine st_cond_f rfl ?_ | refine st_cond rfl (fun _ => ?_) (fun _ => ?_) | refine ls_nil ?_ | refine nx_seq ?_ | refine nx_blk ?_ | refine nx_fn ?_ | refine nx_rounds ?_ | refine xt_seq ?_ | refine xt_here ?_ | refine xt_on rfl ?_ | refine xt_rounds ?_ | refine xt_cut ?_ | refine rt_seq ?_ | refine rt_blk ?_ | refine rt_rounds ?_ | refine rt_cut ?_ | refine ox_load rfl (by rfl) ?_ | refine ox_load_enc rfl (by first | omega | (simp; omega)) ?_ | refine ox_load_any rfl (by assumption) ?_ | refine o1_len rfl ?_ | refine o1_add rfl rfl (by omega) ?_ | refine o1_lss_t rfl rfl (by omega) ?_ | refine o1_lss_f rfl rfl (by omega) ?_ | refine o1_lss rfl rfl (fun _ => ?_) (fun _ => ?_) | refine o1_neq_t rfl rfl (by omega) ?_ | refine o1_neq_f rfl rfl (by omega) ?_ | refine o1_neq rfl rfl (fun _ => ?_) (fun _ => ?_))
    refine rt_tmp () rfl rfl rfl trivial ?_
    (try dsimp only [List.cons_append, List.nil_append, List.singleton_append, List.append_nil]); (repeat (first | exact Ent.nil | exact Ent.refl _ | (apply Ent.cons; (repeat (first | exact Sel.here | apply Sel.there)))))
/-- A row of bits is as the page has it. -/
theorem law5_Like (H : List Hl) (v : VD) (ad : Option Addr) (m c : Nat) (b : List Bool) (hv : RdV (stars H) v) (hb : Rs (stars H) Bo ad c b) (hm : m = b.length) (he : v.l = b) (ht : TabF (stars H)) :
    Spec Tryd.prog 30 [Pv v, .slice ad m c] H (fun _ : Unit => True) (fun _ => I 0) (fun _ => H) := by
  refine spec_pure (res := fun _ => []) H Tryd.func30 rfl Tryd.ntmps30 (by kernel_rfl) rfl (fun W => ?_)
  have e1 := hv.ok.len
  have e2 := hv.ok.hi
  have hn : v.n = m := by rw [← e1, he, hm]
  obtain ⟨F, hF⟩ : ∃ F, firstV b = F := ⟨_, rfl⟩
  obtain ⟨L, hL⟩ : ∃ L, listV b = L := ⟨_, rfl⟩
  obtain ⟨R, hR⟩ : ∃ R, bytesV b = R := ⟨_, rfl⟩
  have hRl : R.length = nb m := by rw [← hR, bytesV_len, hm]
  have hnb : nb m ≤ 32 := by unfold nb; omega
  have hcl : ((countV b : Nat) : Int) = L.length := by rw [← hL, listV_len]; rfl
  obtain ⟨CC, hCC⟩ : ∃ CC, countV b = CC := ⟨_, rfl⟩
  rw [hCC] at hcl
  repeat' (first | refine ls_of rfl ?_ | refine ls_of_no ?_ | refine ls_guard_yes rfl rfl ?_ | refine ls_guard_no rfl rfl rfl rfl ?_ | refine ls_guard_un rfl rfl rfl ?_ | refine o1_move rfl ?_ | refine o1_assign rfl ?_ | refine st_seq ?_ | refine st_region ?_ | refine st_block ?_ | refine st_skip ?_ | refine st_ret ?_ | refine st_exit ?_ | refine st_cond_t rfl ?_ | refine st_cond_f rfl ?_ | refine st_cond rfl (fun _ => ?_) (fun _ => ?_) | refine ls_nil ?_ | refine nx_seq ?_ | refine nx_blk ?_ | refine nx_fn ?_ | refine nx_rounds ?_ | refine xt_seq ?_ | refine xt_here ?_ | refine xt_on rfl ?_ | refine xt_rounds ?_ | refine xt_cut ?_ | refine rt_seq ?_ | refine rt_blk ?_ | refine rt_rounds ?_ | refine rt_cut ?_ | refine o1_pick_t rfl rfl ?_ | refine o1_pick_f rfl rfl ?_ | refine o1_len rfl ?_ | refine o1_neq_t rfl rfl (by omega) ?_ | refine o1_neq_f rfl rfl (by omega) ?_ | refine o1_neq rfl rfl (fun _ => ?_) (fun _ => ?_) | refine o1_bnot rfl ?_ | refine o1_unot rfl ?_ | refine o1_string rfl (by rfl) rx_row ?_ | refine o1_string rfl (by rfl) (rx_any (by assumption)) ?_ | refine o1_slice_nil rfl ?_)
  refine st_stages [(0, _), (1, _)] rtV9_1 [4, 11, 13, 18, 20, 21, 26, 28, 34, 37] [⟨[0, 1, 2, 3, 5, 6], [], some 4⟩, ⟨[7, 8, 9, 10, 12], [5, 6], some 11⟩, ⟨[], [12], some 13⟩, ⟨[14, 15, 16, 17, 19], [], some 18⟩, ⟨[], [19], some 20⟩, ⟨[], [], some 21⟩, ⟨[22, 23, 24, 25, 27], [], some 26⟩, ⟨[], [27], some 28⟩, ⟨[29, 30, 31, 32, 33, 36], [], some 34⟩, ⟨[35], [36], some 37⟩, ⟨[38, 39, 40], [35], none⟩] mixed (cov_cons rfl rfl (cov_cons rfl rfl cov_nil)) (by kernel_rfl) (by kernel_rfl) ?_
  all_goals refine wk_ch ?_
  all_goals (refine xp1 0 rfl rfl rfl rfl (by first | refine o1_peql rfl rfl fz | refine o1_move rfl fz) ?_)
  all_goals (refine xp1 5 rfl rfl rfl rfl (by first | refine o1_peql rfl rfl fz | refine o1_slice_nil rfl fz) ?_)
  all_goals (refine xp1 6 rfl rfl rfl rfl (by first | refine o1_peql rfl rfl fz | refine o1_move rfl fz) ?_)
  all_goals first | (refine xpo1 rfl rfl rfl rfl ?_) | (refine xpo2 rfl rfl rfl rfl ?_) | (refine xpg1 0 rfl rfl rfl rfl rfl rfl (by first | refine o1_peql rfl rfl fz | refine o1_move rfl fz) ?_)
  all_goals first | (refine xpo1 rfl rfl rfl rfl ?_) | (refine xpo2 rfl rfl rfl rfl ?_) | (refine xpg1 1 rfl rfl rfl rfl rfl rfl (by first | refine o1_peql rfl rfl fz | refine o1_move rfl fz) ?_)
  all_goals first | (refine xpo1 rfl rfl rfl rfl ?_) | (refine xpo2 rfl rfl rfl rfl ?_) | (refine xpg1 10 rfl rfl rfl rfl rfl rfl (by first | refine o1_peql rfl rfl fz | refine o1_len rfl fz) ?_)
  all_goals refine op_nil ?_
  all_goals refine re_nil ?_
  all_goals first | (refine ch_off rfl (by first | exact gd_o1 rfl rfl rfl | exact gd_o2 rfl rfl rfl) ?_) | (refine ch_run (E' := [(8, _)]) rfl (gd_r1 rfl rfl rfl) rfl (cov_cons rfl rfl cov_nil) ?_; (first | (refine o1_peql rfl rfl ?_) | (refine o1_call (fun _ => vec_Len _ v (cl_up hv.n)) rfl (fun _ _ => ?_))))
  all_goals refine wk_ch ?_
  all_goals first | (refine xpo1 rfl rfl rfl rfl ?_) | (refine xpo2 rfl rfl rfl rfl ?_) | (refine xpg2 9 11 rfl rfl rfl rfl rfl rfl rfl (by first | refine o1_peql rfl rfl fz | refine o1_neq_f rfl rfl (by omega) fz | refine o1_neq_t rfl rfl (by omega) fz | refine o1_neq_f rfl rfl (by omega) fz | refine o1_neq_d rfl rfl fz) ?_)
  all_goals (refine xp2 7 12 rfl rfl rfl rfl rfl (by first | refine o1_peql rfl rfl fz | refine o1_pick_t rfl rfl fz | refine o1_pick_f rfl rfl fz) ?_)
  all_goals (refine xp1 13 rfl rfl rfl rfl (by first | refine o1_peql rfl rfl fz | refine o1_move rfl fz) ?_)
  all_goals first | (refine xpo1 rfl rfl rfl rfl ?_) | (refine xpo2 rfl rfl rfl rfl ?_) | (refine xpg1 0 rfl rfl rfl rfl rfl rfl (by first | refine o1_peql rfl rfl fz | refine o1_move rfl fz) ?_)
  all_goals first | (refine xpo1 rfl rfl rfl rfl ?_) | (refine xpo2 rfl rfl rfl rfl ?_) | (refine xpg1 1 rfl rfl rfl rfl rfl rfl (by first | refine o1_peql rfl rfl fz | refine o1_move rfl fz) ?_)
  all_goals refine op_nil ?_
  all_goals first | (refine xqo1 rfl rfl rfl rfl rfl ?_) | (refine xqo2 rfl rfl rfl rfl rfl ?_) | (refine xqg1 1 rfl rfl rfl rfl rfl rfl rfl (by first | refine o1_peql rfl rfl fz | refine o1_move rfl fz) ?_)
  all_goals first | (refine xqo1 rfl rfl rfl rfl rfl ?_) | (refine xqo2 rfl rfl rfl rfl rfl ?_) | (refine xqg1 10 rfl rfl rfl rfl rfl rfl rfl (by first | refine o1_peql rfl rfl fz | refine o1_len rfl fz) ?_)
  all_goals refine re_nil ?_
  all_goals first | (refine ch_off rfl (by first | exact gd_o1 rfl rfl rfl | exact gd_o2 rfl rfl rfl) ?_) | (refine ch_run (E' := [(15, _)]) rfl (gd_r1 rfl rfl rfl) rfl (cov_cons rfl rfl cov_nil) ?_; (first | (refine o1_peql rfl rfl ?_) | (refine o1_call (fun _ => vec_First _ v hv.up ht.up) rfl (fun _ _ => ?_); rw [he, hF])))
  all_goals refine wk_ch ?_
  all_goals refine op_nil ?_
  all_goals first | (refine xqo1 rfl rfl rfl rfl rfl ?_) | (refine xqo2 rfl rfl rfl rfl rfl ?_) | (refine xqg1 1 rfl rfl rfl rfl rfl rfl rfl (by first | refine o1_peql rfl rfl fz | refine o1_move rfl fz) ?_)
  all_goals refine re_nil ?_
  all_goals first | (refine ch_off rfl (by first | exact gd_o1 rfl rfl rfl | exact gd_o2 rfl rfl rfl) ?_) | (refine ch_run (E' := [(17, _)]) rfl (gd_r1 rfl rfl rfl) rfl (cov_cons rfl rfl cov_nil) ?_; (first | (refine o1_peql rfl rfl ?_) | (refine o1_call (fun _ => r1_First _ ad m c b (Rs.up hb) hm) rfl (fun _ _ => ?_); rw [hF])))
  all_goals refine wk_ch ?_
  all_goals first | (refine xpo1 rfl rfl rfl rfl ?_) | (refine xpo2 rfl rfl rfl rfl ?_) | (refine xpg2 16 18 rfl rfl rfl rfl rfl rfl rfl (by first | refine o1_peql rfl rfl fz | refine o1_neq_f rfl rfl (by omega) fz | refine o1_neq_t rfl rfl (by omega) fz | refine o1_neq_f rfl rfl (by omega) fz | refine o1_neq_d rfl rfl fz) ?_)
  all_goals (refine xp2 14 19 rfl rfl rfl rfl rfl (by first | refine o1_peql rfl rfl fz | refine o1_pick_t rfl rfl fz | refine o1_pick_f rfl rfl fz) ?_)
  all_goals (refine xp1 20 rfl rfl rfl rfl (by first | refine o1_peql rfl rfl fz | refine o1_move rfl fz) ?_)
  all_goals first | (refine xpo1 rfl rfl rfl rfl ?_) | (refine xpo2 rfl rfl rfl rfl ?_) | (refine xpg1 0 rfl rfl rfl rfl rfl rfl (by first | refine o1_peql rfl rfl fz | refine o1_move rfl fz) ?_)
  all_goals first | (refine xpo1 rfl rfl rfl rfl ?_) | (refine xpo2 rfl rfl rfl rfl ?_) | (refine xpg1 1 rfl rfl rfl rfl rfl rfl (by first | refine o1_peql rfl rfl fz | refine o1_move rfl fz) ?_)
  all_goals refine op_nil ?_
  all_goals refine re_nil ?_
  all_goals first | (refine ch_off rfl (by first | exact gd_o1 rfl rfl rfl | exact gd_o2 rfl rfl rfl) ?_) | (refine ch_run (E' := [(22, _)]) rfl (gd_r1 rfl rfl rfl) rfl (cov_cons rfl rfl cov_nil) ?_; (first | (refine o1_peql rfl rfl ?_) | (refine o1_call (fun _ => vec_List _ v hv.up) rfl (fun ⟨a18, c18⟩ _ => ?_); dsimp only; rw [he, hL])))
  all_goals refine wk_ch ?_
  all_goals refine op_nil ?_
  all_goals first | (refine xqo1 rfl rfl rfl rfl rfl ?_) | (refine xqo2 rfl rfl rfl rfl rfl ?_) | (refine xqg1 1 rfl rfl rfl rfl rfl rfl rfl (by first | refine o1_peql rfl rfl fz | refine o1_move rfl fz) ?_)
  all_goals refine re_nil ?_
  all_goals first | (refine ch_off rfl (by first | exact gd_o1 rfl rfl rfl | exact gd_o2 rfl rfl rfl) ?_) | (refine ch_run (E' := [(24, _)]) rfl (gd_r1 rfl rfl rfl) rfl (cov_cons rfl rfl cov_nil) ?_; (first | (refine o1_peql rfl rfl ?_) | (refine o1_call (fun _ => r1_List _ ad m c b (Rs.up hb) hm (by omega)) rfl (fun ⟨a20, c20⟩ _ => ?_); dsimp only; rw [hL])))
  all_goals refine wk_ch ?_
  all_goals refine op_nil ?_
  all_goals refine re_nil ?_
  all_goals first | (refine ch_off rfl (by first | exact gd_o1 rfl rfl rfl | exact gd_o2 rfl rfl rfl) ?_) | (refine ch_run (E' := [(23, _), (25, _)]) rfl (gd_r1 rfl rfl rfl) rfl (cov_cons rfl rfl (cov_cons rfl rfl cov_nil)) ?_; (first | (refine o1_peql rfl rfl ?_) | (refine o1_call (fun hh => law5_same _ a18 a20 c18 c20 L (rx_row (ad := a18) (c := c18) (l := L) hh) (rx_row (ad := a20) (c := c20) (l := L) hh)) rfl (fun _ _ => ?_))))
  all_goals refine wk_ch ?_
  all_goals first | (refine xpo1 rfl rfl rfl rfl ?_) | (refine xpo2 rfl rfl rfl rfl ?_) | (refine xpg1 26 rfl rfl rfl rfl rfl rfl (by first | refine o1_peql rfl rfl fz | refine o1_bnot rfl fz | refine o1_unot rfl fz) ?_)
  all_goals (refine xp2 21 27 rfl rfl rfl rfl rfl (by first | refine o1_peql rfl rfl fz | refine o1_pick_t rfl rfl fz | refine o1_pick_f rfl rfl fz) ?_)
  all_goals (refine xp1 28 rfl rfl rfl rfl (by first | refine o1_peql rfl rfl fz | refine o1_move rfl fz) ?_)
  all_goals first | (refine xpo1 rfl rfl rfl rfl ?_) | (refine xpo2 rfl rfl rfl rfl ?_) | (refine xpg1 0 rfl rfl rfl rfl rfl rfl (by first | refine o1_peql rfl rfl fz | refine o1_move rfl fz) ?_)
  all_goals first | (refine xpo1 rfl rfl rfl rfl ?_) | (refine xpo2 rfl rfl rfl rfl ?_) | (refine xpg1 1 rfl rfl rfl rfl rfl rfl (by first | refine o1_peql rfl rfl fz | refine o1_move rfl fz) ?_)
  all_goals refine op_nil ?_
  all_goals refine re_nil ?_
  all_goals first | (refine ch_off rfl (by first | exact gd_o1 rfl rfl rfl | exact gd_o2 rfl rfl rfl) ?_) | (refine ch_run (E' := [(30, _)]) rfl (gd_r1 rfl rfl rfl) rfl (cov_cons rfl rfl cov_nil) ?_; (first | (refine o1_peql rfl rfl ?_) | (refine o1_call (fun _ => vec_Count _ v hv.up) rfl (fun _ _ => ?_); rw [he, hCC])))
  all_goals refine wk_ch ?_
  all_goals refine op_nil ?_
  all_goals first | (refine xqo1 rfl rfl rfl rfl rfl ?_) | (refine xqo2 rfl rfl rfl rfl rfl ?_) | (refine xqg1 1 rfl rfl rfl rfl rfl rfl rfl (by first | refine o1_peql rfl rfl fz | refine o1_move rfl fz) ?_)
  all_goals refine re_nil ?_
  all_goals first | (refine ch_off rfl (by first | exact gd_o1 rfl rfl rfl | exact gd_o2 rfl rfl rfl) ?_) | (refine ch_run (E' := [(32, _)]) rfl (gd_r1 rfl rfl rfl) rfl (cov_cons rfl rfl cov_nil) ?_; (first | (refine o1_peql rfl rfl ?_) | (refine o1_call (fun _ => r1_List _ ad m c b (Rs.up hb) hm (by omega)) rfl (fun ⟨a20, c20⟩ _ => ?_); dsimp only; rw [hL])))
  all_goals refine wk_ch ?_
  all_goals first | (refine xpo1 rfl rfl rfl rfl ?_) | (refine xpo2 rfl rfl rfl rfl ?_) | (refine xpg1 33 rfl rfl rfl rfl rfl rfl (by first | refine o1_peql rfl rfl fz | refine o1_len rfl fz) ?_)
  all_goals first | (refine xpo1 rfl rfl rfl rfl ?_) | (refine xpo2 rfl rfl rfl rfl ?_) | (refine xpg2 31 34 rfl rfl rfl rfl rfl rfl rfl (by first | refine o1_peql rfl rfl fz | refine o1_neq_f rfl rfl (by omega) fz | refine o1_neq_t rfl rfl (by omega) fz | refine o1_neq_f rfl rfl (by omega) fz | refine o1_neq_d rfl rfl fz) ?_)
  all_goals (refine xp2 29 35 rfl rfl rfl rfl rfl (by first | refine o1_peql rfl rfl fz | refine o1_pick_t rfl rfl fz | refine o1_pick_f rfl rfl fz) ?_)
  all_goals (refine xp1 36 rfl rfl rfl rfl (by first | refine o1_peql rfl rfl fz | refine o1_move rfl fz) ?_)
  all_goals first | (refine xpo1 rfl rfl rfl rfl ?_) | (refine xpo2 rfl rfl rfl rfl ?_) | (refine xpg1 0 rfl rfl rfl rfl rfl rfl (by first | refine o1_peql rfl rfl fz | refine o1_move rfl fz) ?_)
  all_goals first | (refine xpo1 rfl rfl rfl rfl ?_) | (refine xpo2 rfl rfl rfl rfl ?_) | (refine xpg1 1 rfl rfl rfl rfl rfl rfl (by first | refine o1_peql rfl rfl fz | refine o1_move rfl fz) ?_)
  all_goals refine op_nil ?_
  all_goals refine re_nil ?_
  all_goals first | (refine ch_off rfl (by first | exact gd_o1 rfl rfl rfl | exact gd_o2 rfl rfl rfl) ?_) | (refine ch_run (E' := [(38, _)]) rfl (gd_r1 rfl rfl rfl) rfl (cov_cons rfl rfl cov_nil) ?_; (first | (refine o1_peql rfl rfl ?_) | (refine o1_call (fun _ => vec_Bytes _ v hv.up) rfl (fun b34 _ => ?_); rw [he, hR, hn])))
  all_goals refine wk_ch ?_
  all_goals first | (refine xpo1 rfl rfl rfl rfl ?_) | (refine xpo2 rfl rfl rfl rfl ?_) | (refine xpg1 39 rfl rfl rfl rfl rfl rfl (by first | refine o1_peql rfl rfl fz | refine o1_string (xs := R) rfl hRl.symm (rx_box (b := b34) (T := 5) hRl (by omega)) fz | refine o1_string (xs := R) rfl hRl.symm (rx_box (b := b37) (T := 5) hRl (by omega)) fz | refine o1_string rfl (by rfl) rx_row fz | refine o1_string rfl (by rfl) (rx_any (by assumption)) fz) ?_)
  all_goals refine op_nil ?_
  all_goals first | (refine xqo1 rfl rfl rfl rfl rfl ?_) | (refine xqo2 rfl rfl rfl rfl rfl ?_) | (refine xqg1 1 rfl rfl rfl rfl rfl rfl rfl (by first | refine o1_peql rfl rfl fz | refine o1_move rfl fz) ?_)
  all_goals refine re_nil ?_
  all_goals first | (refine ch_off rfl (by first | exact gd_o1 rfl rfl rfl | exact gd_o2 rfl rfl rfl) ?_) | (refine ch_run (E' := [(41, _)]) rfl (gd_r1 rfl rfl rfl) rfl (cov_cons rfl rfl cov_nil) ?_; (first | (refine o1_peql rfl rfl ?_) | (refine o1_call (fun _ => r1_Pack _ ad m c b (Rs.up hb) hm (by omega)) rfl (fun b37 _ => ?_); rw [hR])))
  all_goals refine wk_end ?_
  all_goals first | (refine xpo1 rfl rfl rfl rfl ?_) | (refine xpo2 rfl rfl rfl rfl ?_) | (refine xpg1 42 rfl rfl rfl rfl rfl rfl (by first | refine o1_peql rfl rfl fz | refine o1_string (xs := R) rfl hRl.symm (rx_box (b := b34) (T := 5) hRl (by omega)) fz | refine o1_string (xs := R) rfl hRl.symm (rx_box (b := b37) (T := 5) hRl (by omega)) fz | refine o1_string rfl (by rfl) rx_row fz | refine o1_string rfl (by rfl) (rx_any (by assumption)) fz) ?_)
  all_goals first | (refine xpo1 rfl rfl rfl rfl ?_) | (refine xpo2 rfl rfl rfl rfl ?_) | (refine xpg2 40 43 rfl rfl rfl rfl rfl rfl rfl (by first | refine o1_peql rfl rfl fz | refine o1_strneq_r (r := false) rfl rfl (by simp) fz | refine o1_strneq_d rfl rfl fz) ?_)
  all_goals (refine xp2 37 44 rfl rfl rfl rfl rfl (by first | refine o1_peql rfl rfl fz | refine o1_pick_t rfl rfl fz | refine o1_pick_f rfl rfl fz) ?_)
  all_goals refine op_nil ?_
  all_goals first | (refine xqo1 rfl rfl rfl rfl rfl ?_) | (refine xqo2 rfl rfl rfl rfl rfl ?_) | (refine xqg1 39 rfl rfl rfl rfl rfl rfl rfl (by first | refine o1_peql rfl rfl fz | refine o1_string (xs := R) rfl hRl.symm (rx_box (b := b34) (T := 5) hRl (by omega)) fz | refine o1_string (xs := R) rfl hRl.symm (rx_box (b := b37) (T := 5) hRl (by omega)) fz | refine o1_string rfl (by rfl) rx_row fz | refine o1_string rfl (by rfl) (rx_any (by assumption)) fz) ?_)
  all_goals refine re_nil ?_
  all_goals dsimp only [List.cons_append, List.nil_append]
  repeat' (first | refine ls_of rfl ?_ | refine ls_of_no ?_ | refine ls_guard_yes rfl rfl ?_ | refine ls_guard_no rfl rfl rfl rfl ?_ | refine ls_guard_un rfl rfl rfl ?_ | refine o1_move rfl ?_ | refine o1_assign rfl ?_ | refine st_seq ?_ | refine st_region ?_ | refine st_block ?_ | refine st_skip ?_ | refine st_ret ?_ | refine st_exit ?_ | refine st_cond_t rfl ?_ | refine st_cond_f rfl ?_ | refine st_cond rfl (fun _ => ?_) (fun _ => ?_) | refine ls_nil ?_ | refine nx_seq ?_ | refine nx_blk ?_ | refine nx_fn ?_ | refine nx_rounds ?_ | refine xt_seq ?_ | refine xt_here ?_ | refine xt_on rfl ?_ | refine xt_rounds ?_ | refine xt_cut ?_ | refine rt_seq ?_ | refine rt_blk ?_ | refine rt_rounds ?_ | refine rt_cut ?_ | refine o1_pick_t rfl rfl ?_ | refine o1_pick_f rfl rfl ?_ | refine o1_len rfl ?_ | refine o1_neq_t rfl rfl (by omega) ?_ | refine o1_neq_f rfl rfl (by omega) ?_ | refine o1_neq rfl rfl (fun _ => ?_) (fun _ => ?_) | refine o1_bnot rfl ?_ | refine o1_unot rfl ?_ | refine o1_string rfl (by rfl) rx_row ?_ | refine o1_string rfl (by rfl) (rx_any (by assumption)) ?_ | refine o1_slice_nil rfl ?_)
  refine rt_tmp () rfl rfl rfl trivial ?_
  (try dsimp only [List.cons_append, List.nil_append, List.singleton_append, List.append_nil]); (repeat (first | exact Ent.nil | exact Ent.refl _ | (apply Ent.cons; (repeat (first | exact Sel.here | apply Sel.there)))))
end Go.Dp

set_option linter.unusedVariables false
set_option linter.unusedSimpArgs false
namespace Go.Dp
open Go.RowKit Go.Proofs
def rtV9b_0 : List Row := [⟨some 15, [], [], none⟩, ⟨some 16, [], [], none⟩, ⟨some 17, [], [], none⟩, ⟨some 18, [], [], none⟩, ⟨some 19, [2, 3], [2, 3], none⟩, ⟨some 20, [4], [2, 3, 4], none⟩, ⟨some 21, [], [], none⟩, ⟨some 22, [], [], none⟩, ⟨some 23, [6, 7], [6, 7], none⟩, ⟨some 24, [8], [6, 7, 8], none⟩, ⟨some 25, [5, 9], [2, 3, 4, 5, 6, 7, 8, 9], none⟩, ⟨some 26, [0, 1, 0, 1, 2, 3, 4, 5, 6, 7, 8, 9, 10], [0, 1, 2, 3, 4, 5, 6, 7, 8, 9, 10], none⟩, ⟨none, [11, 10, 0, 1, 2, 3, 4, 5, 6, 7, 8, 9, 10], [0, 1, 2, 3, 4, 5, 6, 7, 8, 9, 10, 11], none⟩]
theorem r1_Xor (H : List Hl) (ad ad' : Option Addr) (m c m' c' : Nat) (a b : List Bool) (ha : Rs (stars H) Bo ad c a) (hb : Rs (stars H) Bo ad' c' b) (hm : m = a.length) (hm' : m' = b.length) (he : m' = m) (hn : m ≤ 256) :
    Spec Tryd.prog 34 [.slice ad m c, .slice ad' m' c'] H (fun _ : Nat => True) (fun r => .slice (some ⟨r, 0, none⟩) m m) (fun r => .box r 4 ((xorV a b).map Bo) :: H) := by
  refine spec_pure (res := fun r : Nat => [.box r 4 ((xorV a b).map Bo)]) H Tryd.func34 rfl Tryd.ntmps34 (by kernel_rfl) rfl (fun W => ?_)
  obtain ⟨X, hX⟩ : ∃ X, xorV a b = X := ⟨_, rfl⟩
  have hxl : X.length = m := by rw [← hX, xorV_len (by omega)]; omega
  have hz : X.length = (List.replicate m false).length := by rw [hxl, List.length_replicate]
  rw [hX]
  repeat' (first | refine ls_of rfl ?_ | refine ls_of_no ?_ | refine ls_guard_yes rfl rfl ?_ | refine ls_guard_no rfl rfl rfl rfl ?_ | refine ls_guard_un rfl rfl rfl ?_ | refine o1_move rfl ?_ | refine o1_assign rfl ?_ | refine st_seq ?_ | refine st_region ?_ | refine st_block ?_ | refine st_skip ?_ | refine st_ret ?_ | refine st_exit ?_ | refine st_cond_t rfl ?_ | refine st_cond_f rfl ?_ | refine st_cond rfl (fun _ => ?_) (fun _ => ?_) | refine ls_nil ?_ | refine nx_seq ?_ | refine nx_blk ?_ | refine nx_fn ?_ | refine nx_rounds ?_ | refine xt_seq ?_ | refine xt_here ?_ | refine xt_on rfl ?_ | refine xt_rounds ?_ | refine xt_cut ?_ | refine rt_seq ?_ | refine rt_blk ?_ | refine rt_rounds ?_ | refine rt_cut ?_ | refine o1_maker (enc := Bo) false m rfl rfl rfl rfl rfl (by omega) (by omega) (fun b5 => ?_) | refine ox_load rfl (by rfl) ?_ | refine ox_load_enc rfl (by first | omega | (simp; omega)) ?_ | refine ox_load_any rfl (by assumption) ?_ | refine o1_len rfl ?_ | refine o1_add rfl rfl (by omega) ?_ | refine o1_lss_t rfl rfl (by omega) ?_ | refine o1_lss_f rfl rfl (by omega) ?_ | refine o1_lss rfl rfl (fun _ => ?_) (fun _ => ?_) | refine o1_neqb rfl rfl ?_ | refine o1_maken (enc := B) 0#8 rfl rfl rfl rfl (by omega) (by omega) (by omega) (fun _ => ?_) | refine ox_store_enc B rfl rfl (by first | omega | (simp; done) | (simp; omega)) rfl ?_ | refine ox_stores rfl rfl (by first | omega | (simp; done) | (simp; omega)) rfl (by first | (simp only [List.set_cons_zero, List.set_cons_succ, Nat.zero_add, Nat.reduceAdd]; rfl) | rfl) ?_)
  refine st_loop (S := Nat) (fun i => [(0, .slice ad m c), (1, .slice ad' m' c'), (5, .slice (some ⟨b5, 0, none⟩) m m), (11, I m), (12, I i)]) (fun i => [.box b5 4 ((partL X (List.replicate m false) i).map Bo), .any (stars H)]) (fun i => i ≤ m) (fun i => m - i) 0 (Nat.zero_le _)
    (cov_cons rfl rfl (cov_cons rfl rfl (cov_cons rfl rfl (cov_cons rfl rfl (cov_cons rfl rfl cov_nil))))) (by show Ent _ [.box b5 4 ((partL X (List.replicate m false) 0).map Bo), .any (stars H)]; rw [partL_zero]; (try dsimp only [List.cons_append, List.nil_append, List.singleton_append, List.append_nil]); (repeat (first | exact Ent.nil | exact Ent.refl _ | (apply Ent.cons; (repeat (first | exact Sel.here | apply Sel.there)))))) ?_
  intro i hi
  by_cases hlt : i < m
  · have hql := partL_len hz i
    rw [List.length_replicate] at hql
    have hka : i < (partL X (List.replicate m false) i).length := by omega
    have hset : (partL X (List.replicate m false) i).set i (X[i]'(by omega)) = partL X (List.replicate m false) (i + 1) := partL_succ hz (by omega)
    have hai : i < a.length := by omega
    have hbi : i < b.length := by omega
    have hxi : (!(a[i] == b[i])) = X[i]'(by omega) := by
      subst hX
      simp only [xorV, List.getElem_zipWith]
      cases a[i] <;> cases b[i] <;> rfl
    repeat' (first | refine ls_of rfl ?_ | refine ls_of_no ?_ | refine ls_guard_yes rfl rfl ?_ | refine ls_guard_no rfl rfl rfl rfl ?_ | refine ls_guard_un rfl rfl rfl ?_ | refine o1_move rfl ?_ | refine o1_assign rfl ?_ | refine st_seq ?_ | refine st_region ?_ | refine st_block ?_ | refine st_skip ?_ | refine st_ret ?_ | refine st_exit ?_ | refine st_cond_t rfl ?_ | refine st_cond_f rfl ?_ | refine st_cond rfl (fun _ => ?_) (fun _ => ?_) | refine ls_nil ?_ | refine nx_seq ?_ | refine nx_blk ?_ | refine nx_fn ?_ | refine nx_rounds ?_ | refine xt_seq ?_ | refine xt_here ?_ | refine xt_on rfl ?_ | refine xt_rounds ?_ | refine xt_cut ?_ | refine rt_seq ?_ | refine rt_blk ?_ | refine rt_rounds ?_ | refine rt_cut ?_ | refine ox_load rfl (by rfl) ?_ | refine ox_load_enc rfl (by first | omega | (simp; omega)) ?_ | refine ox_load_any rfl (by assumption) ?_ | refine o1_len rfl ?_ | refine o1_add rfl rfl (by omega) ?_ | refine o1_lss_t rfl rfl (by omega) ?_ | refine o1_lss_f rfl rfl (by omega) ?_ | refine o1_lss rfl rfl (fun _ => ?_) (fun _ => ?_) | refine o1_neqb rfl rfl ?_ | refine o1_maken (enc := B) 0#8 rfl rfl rfl rfl (by omega) (by omega) (by omega) (fun _ => ?_) | refine ox_store_enc B rfl rfl (by first | omega | (simp; done) | (simp; omega)) rfl ?_ | refine ox_stores rfl rfl (by first | omega | (simp; done) | (simp; omega)) rfl (by first | (simp only [List.set_cons_zero, List.set_cons_succ, Nat.zero_add, Nat.reduceAdd]; rfl) | rfl) ?_)
    refine st_stages [(5, _), (6, _), (0, _), (1, _)] rtV9b_0 [12] [⟨[0, 1, 2, 3, 4, 5, 6, 7, 8, 9, 10, 11], [], some 12⟩, ⟨[], [], none⟩] mixed (cov_cons rfl rfl (cov_cons rfl rfl (cov_cons rfl rfl (cov_cons rfl rfl cov_nil)))) (by kernel_rfl) (by kernel_rfl) ?_
    all_goals refine wk_ch ?_
    all_goals (refine xp1 5 rfl rfl rfl rfl (by refine o1_move rfl fz) ?_)
    all_goals (refine xp1 6 rfl rfl rfl rfl (by refine o1_move rfl fz) ?_)
    all_goals (refine xp1 0 rfl rfl rfl rfl (by refine o1_move rfl fz) ?_)
    all_goals (refine xp1 6 rfl rfl rfl rfl (by refine o1_move rfl fz) ?_)
    all_goals (refine xp2 17 18 rfl rfl rfl rfl rfl (by first | refine o1_own i rfl rfl rfl hlt fz | refine o1_ia (ad := ad) (c := c) i rfl rfl ha hm rfl hai fz | refine o1_ia (ad := ad') (c := c') i rfl rfl hb hm' rfl hbi fz) ?_)
    all_goals (refine xp1 19 rfl rfl rfl rfl (by first | refine o1_load_ia (ad := ad) (c := c) i rfl ha hai fz | refine o1_load_ia (ad := ad') (c := c') i rfl hb hbi fz | refine ox_load rfl (by rfl) fz | refine ox_load_enc rfl (by first | omega | (simp; omega)) fz | refine ox_load_any rfl (by assumption) fz) ?_)
    all_goals (refine xp1 1 rfl rfl rfl rfl (by refine o1_move rfl fz) ?_)
    all_goals (refine xp1 6 rfl rfl rfl rfl (by refine o1_move rfl fz) ?_)
    all_goals (refine xp2 21 22 rfl rfl rfl rfl rfl (by first | refine o1_own i rfl rfl rfl hlt fz | refine o1_ia (ad := ad) (c := c) i rfl rfl ha hm rfl hai fz | refine o1_ia (ad := ad') (c := c') i rfl rfl hb hm' rfl hbi fz) ?_)
    all_goals (refine xp1 23 rfl rfl rfl rfl (by first | refine o1_load_ia (ad := ad) (c := c) i rfl ha hai fz | refine o1_load_ia (ad := ad') (c := c') i rfl hb hbi fz | refine ox_load rfl (by rfl) fz | refine ox_load_enc rfl (by first | omega | (simp; omega)) fz | refine ox_load_any rfl (by assumption) fz) ?_)
    all_goals (refine xp2 20 24 rfl rfl rfl rfl rfl (by first | ((refine o1_neqb rfl rfl ?_; rw [hxi]); all_goals exact fz) | refine o1_neqb rfl rfl fz) ?_)
    all_goals (refine xp2 15 16 rfl rfl rfl rfl rfl (by first | refine o1_own i rfl rfl rfl hlt fz | refine o1_ia (ad := ad) (c := c) i rfl rfl ha hm rfl hai fz | refine o1_ia (ad := ad') (c := c') i rfl rfl hb hm' rfl hbi fz) ?_)
    all_goals refine op_nil ?_
    all_goals refine re_nil ?_
    all_goals first | (refine ch_run_no (E' := [(26, _), (25, _)]) rfl (gd_r0 rfl) rfl (cov_cons rfl rfl (cov_cons rfl rfl cov_nil)) ?_; (first | (refine ox_store_enc Bo (l := partL X (List.replicate m false) i) rfl rfl hka rfl ?_; rw [hset]) | refine ox_store_enc B rfl rfl (by first | omega | (simp; done) | (simp; omega)) rfl ?_ | refine ox_stores rfl rfl (by first | omega | (simp; done) | (simp; omega)) rfl (by first | (simp only [List.set_cons_zero, List.set_cons_succ, Nat.zero_add, Nat.reduceAdd]; rfl) | rfl) ?_))
    all_goals refine wk_end ?_
    all_goals refine op_nil ?_
    all_goals refine re_nil ?_
    all_goals dsimp only [List.cons_append, List.nil_append]
    repeat' (first | refine ls_of rfl ?_ | refine ls_of_no ?_ | refine ls_guard_yes rfl rfl ?_ | refine ls_guard_no rfl rfl rfl rfl ?_ | refine ls_guard_un rfl rfl rfl ?_ | refine o1_move rfl ?_ | refine o1_assign rfl ?_ | refine st_seq ?_ | refine st_region ?_ | refine st_block ?_ | refine st_skip ?_ | refine st_ret ?_ | refine st_exit ?_ | refine st_cond_t rfl ?_ | refine st_cond_f rfl ?_ | refine st_cond rfl (fun _ => ?_) (fun _ => ?_) | refine ls_nil ?_ | refine nx_seq ?_ | refine nx_blk ?_ | refine nx_fn ?_ | refine nx_rounds ?_ | refine xt_seq ?_ | refine xt_here ?_ | refine xt_on rfl ?_ | refine xt_rounds ?_ | refine xt_cut ?_ | refine rt_seq ?_ | refine rt_blk ?_ | refine rt_rounds ?_ | refine rt_cut ?_ | refine ox_load rfl (by rfl) ?_ | refine ox_load_enc rfl (by first | omega | (simp; omega)) ?_ | refine ox_load_any rfl (by assumption) ?_ | refine o1_len rfl ?_ | refine o1_add rfl rfl (by omega) ?_ | refine o1_lss_t rfl rfl (by omega) ?_ | refine o1_lss_f rfl rfl (by omega) ?_ | refine o1_lss rfl rfl (fun _ => ?_) (fun _ => ?_) | refine o1_neqb rfl rfl ?_ | refine o1_maken (enc := B) 0#8 rfl rfl rfl rfl (by omega) (by omega) (by omega) (fun _ => ?_) | refine ox_store_enc B rfl rfl (by first | omega | (simp; done) | (simp; omega)) rfl ?_ | refine ox_stores rfl rfl (by first | omega | (simp; done) | (simp; omega)) rfl (by first | (simp only [List.set_cons_zero, List.set_cons_succ, Nat.zero_add, Nat.reduceAdd]; rfl) | rfl) ?_)
    refine nx_again (i + 1) (by omega) (by omega) (cov_cons rfl rfl (cov_cons rfl rfl (cov_cons rfl rfl (cov_cons rfl rfl (cov_cons rfl rfl cov_nil))))) ?_
    (try dsimp only [List.cons_append, List.nil_append, List.singleton_append, List.append_nil]); (repeat (first | exact Ent.nil | exact Ent.refl _ | (apply Ent.cons; (repeat (first | exact Sel.here | apply Sel.there)))))
  · have : i = m := by omega
    subst this
    rw [partL_full hz (by rw [List.length_replicate])]
    repeat' (first | refine ls_of rfl ?_ | refine ls_of_no ?_ | refine ls_guard_yes rfl rfl ?_ | refine ls_guard_no rfl rfl rfl rfl ?_ | refine ls_guard_un rfl rfl rfl ?_ | refine o1_move rfl ?_ | refine o1_assign rfl ?_ | refine st_seq ?_ | refine st_region ?_ | refine st_block ?_ | refine st_skip ?_ | refine st_ret ?_ | refine st_exit ?_ | refine st_cond_t rfl ?_ | refine st_cond_f rfl ?_ | refine st_cond rfl (fun _ => ?_) (fun _ => ?_) | refine ls_nil ?_ | refine nx_seq ?_ | refine nx_blk ?_ | refine nx_fn ?_ | refine nx_rounds ?_ | refine xt_seq ?_ | refine xt_here ?_ | refine xt_on rfl ?_ | refine xt_rounds ?_ | refine xt_cut ?_ | refine rt_seq ?_ | refine rt_blk ?_ | refine rt_rounds ?_ | refine rt_cut ?_ | refine ox_load rfl (by rfl) ?_ | refine ox_load_enc rfl (by first | omega | (simp; omega)) ?_ | refine ox_load_any rfl (by assumption) ?_ | refine o1_len rfl ?_ | refine o1_add rfl rfl (by omega) ?_ | refine o1_lss_t rfl rfl (by omega) ?_ | refine o1_lss_f rfl rfl (by omega) ?_ | refine o1_lss rfl rfl (fun _ => ?_) (fun _ => ?_) | refine o1_neqb rfl rfl ?_ | refine o1_maken (enc := B) 0#8 rfl rfl rfl rfl (by omega) (by omega) (by omega) (fun _ => ?_) | refine ox_store_enc B rfl rfl (by first | omega | (simp; done) | (simp; omega)) rfl ?_ | refine ox_stores rfl rfl (by first | omega | (simp; done) | (simp; omega)) rfl (by first | (simp only [List.set_cons_zero, List.set_cons_succ, Nat.zero_add, Nat.reduceAdd]; rfl) | rfl) ?_)
    refine rt_tmp b5 rfl rfl rfl trivial ?_
    (try dsimp only [List.cons_append, List.nil_append, List.singleton_append, List.append_nil]); (repeat (first | exact Ent.nil | exact Ent.refl _ | (apply Ent.cons; (repeat (first | exact Sel.here | apply Sel.there)))))
set_option maxHeartbeats 2000000 in
theorem r1_Unpack_ok (H : List Hl) (N : Nat) (ad : Option Addr) (m c : Nat) (raw : List (BitVec 8)) (hN : N ≤ 256) (h : Rs (stars H) B ad c raw) (hm : m = raw.length) (hl : raw.length = nb N) (hb : ∀ i, N ≤ i → i < 8 * nb N → rbit raw i = false) :
    Spec Tryd.prog 29 [I N, .slice ad m c] H (fun _ : Nat => True) (fun b => .tuple #[.slice (some ⟨b, 0, none⟩) N N, .bool true]) (fun b => .box b 4 ((maskV N (rbit raw) N).map Bo) :: H) := by
  refine spec_pure (res := fun b : Nat => [.box b 4 ((maskV N (rbit raw) N).map Bo)]) H Tryd.func29 rfl Tryd.ntmps29 (by kernel_rfl) rfl (fun W => ?_)
  have hnb : nb N ≤ 32 := by unfold nb; omega
  have hnn : N ≤ 8 * nb N := by unfold nb; omega
  have hq : ((N : Int) + 7) / 8 = (nb N : Nat) := by unfold nb; omega
  rw [hl] at hm
  repeat' (first | refine ls_of rfl ?_ | refine ls_of_no ?_ | refine ls_guard_yes rfl rfl ?_ | refine ls_guard_no rfl rfl rfl rfl ?_ | refine ls_guard_un rfl rfl rfl ?_ | refine o1_move rfl ?_ | refine o1_assign rfl ?_ | refine st_seq ?_ | refine st_region ?_ | refine st_block ?_ | refine st_skip ?_ | refine st_ret ?_ | refine st_exit ?_ | refine st_cond_t rfl ?_ | refine st_cond_f rfl ?_ | refine st_cond rfl (fun _ => ?_) (fun _ => ?_) | refine ls_nil ?_ | refine nx_seq ?_ | refine nx_blk ?_ | refine nx_fn ?_ | refine nx_rounds ?_ | refine xt_seq ?_ | refine xt_here ?_ | refine xt_on rfl ?_ | refine xt_rounds ?_ | refine xt_cut ?_ | refine rt_seq ?_ | refine rt_blk ?_ | refine rt_rounds ?_ | refine rt_cut ?_ | (refine o1_quo rfl rfl (by omega) ?_; rw [hq]) | refine o1_neq_f rfl rfl (by omega) ?_ | (refine o1_maker (enc := Bo) false N rfl rfl rfl rfl rfl (by omega) (by omega) (fun b6 => ?_); rw [← maskV_zero N (rbit raw)]) | refine o1_mul rfl rfl (by omega) ?_ | refine o1_pick_t rfl rfl ?_ | refine o1_pick_f rfl rfl ?_ | refine ox_load rfl (by rfl) ?_ | refine ox_load_enc rfl (by first | omega | (simp; omega)) ?_ | refine ox_load_any rfl (by assumption) ?_ | refine o1_len rfl ?_ | refine o1_add rfl rfl (by omega) ?_ | refine o1_lss_t rfl rfl (by omega) ?_ | refine o1_lss_f rfl rfl (by omega) ?_ | refine o1_lss rfl rfl (fun _ => ?_) (fun _ => ?_) | refine o1_gtr_t rfl rfl (by omega) ?_ | refine o1_gtr_f rfl rfl (by omega) ?_ | refine o1_gtr rfl rfl (fun _ => ?_) (fun _ => ?_) | refine o1_geq_t rfl rfl (by omega) ?_ | refine o1_geq_f rfl rfl (by omega) ?_ | refine o1_geq rfl rfl (fun _ => ?_) (fun _ => ?_) | refine o1_eql_t rfl rfl (by omega) ?_ | refine o1_eql_f rfl rfl (by omega) ?_ | refine o1_eql rfl rfl (fun _ => ?_) (fun _ => ?_) | refine o1_neq_t rfl rfl (by omega) ?_ | refine o1_neq_f rfl rfl (by omega) ?_ | refine o1_neq rfl rfl (fun _ => ?_) (fun _ => ?_) | refine o1_uand rfl rfl ?_ | refine o1_ushr rfl rfl (by omega) ?_ | refine o1_conv_u64 rfl (by omega) ?_ | refine o1_conv_iu rfl ?_ | refine o1_rem_nn rfl rfl (by omega) ?_ | refine o1_maken (enc := B) 0#8 rfl rfl rfl rfl (by omega) (by omega) (by omega) (fun _ => ?_) | refine ox_store_enc B rfl rfl (by first | omega | (simp; done) | (simp; omega)) rfl ?_ | refine ox_stores rfl rfl (by first | omega | (simp; done) | (simp; omega)) rfl (by first | (simp only [List.set_cons_zero, List.set_cons_succ, Nat.zero_add, Nat.reduceAdd]; rfl) | rfl) ?_)
  refine st_loop (S := Nat) (fun i => [(0, I N), (1, .slice ad m c), (6, .slice (some ⟨b6, 0, none⟩) N N), (26, I (8 * (m : Int))), (27, I i)]) (fun i => [.box b6 4 ((maskV N (rbit raw) i).map Bo), .any (stars H)]) (fun i => i ≤ 8 * nb N ∧ ∀ j, N ≤ j → j < i → rbit raw j = false) (fun i => 8 * nb N - i) 0 ⟨Nat.zero_le _, by omega⟩
    (cov_cons rfl rfl (cov_cons rfl rfl (cov_cons rfl rfl (cov_cons rfl rfl (cov_cons rfl rfl cov_nil))))) (by (try dsimp only [List.cons_append, List.nil_append, List.singleton_append, List.append_nil]); (repeat (first | exact Ent.nil | exact Ent.refl _ | (apply Ent.cons; (repeat (first | exact Sel.here | apply Sel.there)))))) ?_
  rintro i ⟨hi, hno⟩
  by_cases hlt : i < 8 * nb N
  · have hi8 : i / 8 < raw.length := by omega
    have hsh : ((i : Int) % 8).toNat = i % 8 := by omega
    have hv := rbit_val raw i hi8
    cases hbit : rbit raw i
    · have e1 : (((raw[i / 8] >>> (i % 8)) &&& 1#8).toNat : Int) ≠ 1 := by rw [hv, hbit]; decide
      repeat' (first | refine ls_of rfl ?_ | refine ls_of_no ?_ | refine ls_guard_yes rfl rfl ?_ | refine ls_guard_no rfl rfl rfl rfl ?_ | refine ls_guard_un rfl rfl rfl ?_ | refine o1_move rfl ?_ | refine o1_assign rfl ?_ | refine st_seq ?_ | refine st_region ?_ | refine st_block ?_ | refine st_skip ?_ | refine st_ret ?_ | refine st_exit ?_ | refine st_cond_t rfl ?_ | refine st_cond_f rfl ?_ | refine st_cond rfl (fun _ => ?_) (fun _ => ?_) | refine ls_nil ?_ | refine nx_seq ?_ | refine nx_blk ?_ | refine nx_fn ?_ | refine nx_rounds ?_ | refine xt_seq ?_ | refine xt_here ?_ | refine xt_on rfl ?_ | refine xt_rounds ?_ | refine xt_cut ?_ | refine rt_seq ?_ | refine rt_blk ?_ | refine rt_rounds ?_ | refine rt_cut ?_ | refine o1_quo rfl rfl (by omega) ?_ | refine o1_ia (i / 8) rfl rfl h (by omega) (by omega) hi8 ?_ | refine o1_load_ia (i / 8) rfl h hi8 ?_ | refine o1_conv_u64 rfl (by omega) ?_ | (refine o1_ushr rfl rfl (by omega) ?_; rw [hsh]) | refine o1_uand (v := 1#8) rfl rfl ?_ | refine o1_eql_f rfl rfl e1 ?_ | refine o1_pick_t rfl rfl ?_ | refine o1_pick_f rfl rfl ?_ | refine ox_load rfl (by rfl) ?_ | refine ox_load_enc rfl (by first | omega | (simp; omega)) ?_ | refine ox_load_any rfl (by assumption) ?_ | refine o1_len rfl ?_ | refine o1_add rfl rfl (by omega) ?_ | refine o1_lss_t rfl rfl (by omega) ?_ | refine o1_lss_f rfl rfl (by omega) ?_ | refine o1_lss rfl rfl (fun _ => ?_) (fun _ => ?_) | refine o1_gtr_t rfl rfl (by omega) ?_ | refine o1_gtr_f rfl rfl (by omega) ?_ | refine o1_gtr rfl rfl (fun _ => ?_) (fun _ => ?_) | refine o1_geq_t rfl rfl (by omega) ?_ | refine o1_geq_f rfl rfl (by omega) ?_ | refine o1_geq rfl rfl (fun _ => ?_) (fun _ => ?_) | refine o1_eql_t rfl rfl (by omega) ?_ | refine o1_eql_f rfl rfl (by omega) ?_ | refine o1_eql rfl rfl (fun _ => ?_) (fun _ => ?_) | refine o1_neq_t rfl rfl (by omega) ?_ | refine o1_neq_f rfl rfl (by omega) ?_ | refine o1_neq rfl rfl (fun _ => ?_) (fun _ => ?_) | refine o1_uand rfl rfl ?_ | refine o1_ushr rfl rfl (by omega) ?_ | refine o1_conv_u64 rfl (by omega) ?_ | refine o1_conv_iu rfl ?_ | refine o1_rem_nn rfl rfl (by omega) ?_ | refine o1_maken (enc := B) 0#8 rfl rfl rfl rfl (by omega) (by omega) (by omega) (fun _ => ?_) | refine ox_store_enc B rfl rfl (by first | omega | (simp; done) | (simp; omega)) rfl ?_ | refine ox_stores rfl rfl (by first | omega | (simp; done) | (simp; omega)) rfl (by first | (simp only [List.set_cons_zero, List.set_cons_succ, Nat.zero_add, Nat.reduceAdd]; rfl) | rfl) ?_)
      refine nx_again (i + 1) ⟨by omega, fun j h1 h2 => ?_⟩ (by omega) (cov_cons rfl rfl (cov_cons rfl rfl (cov_cons rfl rfl (cov_cons rfl rfl (cov_cons rfl rfl cov_nil))))) ?_
      · by_cases hj : j = i
        · rw [hj]; exact hbit
        · exact hno j h1 (by omega)
      rw [maskV_off (i := i) (fun _ => hbit)]
      (try dsimp only [List.cons_append, List.nil_append, List.singleton_append, List.append_nil]); (repeat (first | exact Ent.nil | exact Ent.refl _ | (apply Ent.cons; (repeat (first | exact Sel.here | apply Sel.there)))))
    · have e1 : (((raw[i / 8] >>> (i % 8)) &&& 1#8).toNat : Int) = 1 := by rw [hv, hbit]; decide
      by_cases hiN : i < N
      · have hset : (maskV N (rbit raw) i).set i true = maskV N (rbit raw) (i + 1) := by rw [maskV_on hiN hbit]
        have hml : i < (maskV N (rbit raw) i).length := by rw [maskV_len]; exact hiN
        repeat' (first | refine ls_of rfl ?_ | refine ls_of_no ?_ | refine ls_guard_yes rfl rfl ?_ | refine ls_guard_no rfl rfl rfl rfl ?_ | refine ls_guard_un rfl rfl rfl ?_ | refine o1_move rfl ?_ | refine o1_assign rfl ?_ | refine st_seq ?_ | refine st_region ?_ | refine st_block ?_ | refine st_skip ?_ | refine st_ret ?_ | refine st_exit ?_ | refine st_cond_t rfl ?_ | refine st_cond_f rfl ?_ | refine st_cond rfl (fun _ => ?_) (fun _ => ?_) | refine ls_nil ?_ | refine nx_seq ?_ | refine nx_blk ?_ | refine nx_fn ?_ | refine nx_rounds ?_ | refine xt_seq ?_ | refine xt_here ?_ | refine xt_on rfl ?_ | refine xt_rounds ?_ | refine xt_cut ?_ | refine rt_seq ?_ | refine rt_blk ?_ | refine rt_rounds ?_ | refine rt_cut ?_ | refine o1_quo rfl rfl (by omega) ?_ | refine o1_ia (i / 8) rfl rfl h (by omega) (by omega) hi8 ?_ | refine o1_load_ia (i / 8) rfl h hi8 ?_ | refine o1_conv_u64 rfl (by omega) ?_ | (refine o1_ushr rfl rfl (by omega) ?_; rw [hsh]) | refine o1_uand (v := 1#8) rfl rfl ?_ | refine o1_eql_t rfl rfl e1 ?_ | refine o1_own i rfl rfl rfl hiN ?_ | (refine ox_store_enc Bo (v := true) (l := maskV N (rbit raw) i) rfl rfl hml rfl ?_; rw [hset]) | refine o1_pick_t rfl rfl ?_ | refine o1_pick_f rfl rfl ?_ | refine ox_load rfl (by rfl) ?_ | refine ox_load_enc rfl (by first | omega | (simp; omega)) ?_ | refine ox_load_any rfl (by assumption) ?_ | refine o1_len rfl ?_ | refine o1_add rfl rfl (by omega) ?_ | refine o1_lss_t rfl rfl (by omega) ?_ | refine o1_lss_f rfl rfl (by omega) ?_ | refine o1_lss rfl rfl (fun _ => ?_) (fun _ => ?_) | refine o1_gtr_t rfl rfl (by omega) ?_ | refine o1_gtr_f rfl rfl (by omega) ?_ | refine o1_gtr rfl rfl (fun _ => ?_) (fun _ => ?_) | refine o1_geq_t rfl rfl (by omega) ?_ | refine o1_geq_f rfl rfl (by omega) ?_ | refine o1_geq rfl rfl (fun _ => ?_) (fun _ => ?_) | refine o1_eql_t rfl rfl (by omega) ?_ | refine o1_eql_f rfl rfl (by omega) ?_ | refine o1_eql rfl rfl (fun _ => ?_) (fun _ => ?_) | refine o1_neq_t rfl rfl (by omega) ?_ | refine o1_neq_f rfl rfl (by omega) ?_ | refine o1_neq rfl rfl (fun _ => ?_) (fun _ => ?_) | refine o1_uand rfl rfl ?_ | refine o1_ushr rfl rfl (by omega) ?_ | refine o1_conv_u64 rfl (by omega) ?_ | refine o1_conv_iu rfl ?_ | refine o1_rem_nn rfl rfl (by omega) ?_ | refine o1_maken (enc := B) 0#8 rfl rfl rfl rfl (by omega) (by omega) (by omega) (fun _ => ?_) | refine ox_store_enc B rfl rfl (by first | omega | (simp; done) | (simp; omega)) rfl ?_ | refine ox_stores rfl rfl (by first | omega | (simp; done) | (simp; omega)) rfl (by first | (simp only [List.set_cons_zero, List.set_cons_succ, Nat.zero_add, Nat.reduceAdd]; rfl) | rfl) ?_)
        refine nx_again (i + 1) ⟨by omega, fun j h1 h2 => ?_⟩ (by omega) (cov_cons rfl rfl (cov_cons rfl rfl (cov_cons rfl rfl (cov_cons rfl rfl (cov_cons rfl rfl cov_nil))))) ?_
        · exact hno j h1 (by omega)
        (try dsimp only [List.cons_append, List.nil_append, List.singleton_append, List.append_nil]); (repeat (first | exact Ent.nil | exact Ent.refl _ | (apply Ent.cons; (repeat (first | exact Sel.here | apply Sel.there)))))
      · exact absurd (hb i (by omega) hlt) (by rw [hbit]; decide)
  · have : i = 8 * nb N := by omega
    subst this
    rw [maskV_past hnn]
    repeat' (first | refine ls_of rfl ?_ | refine ls_of_no ?_ | refine ls_guard_yes rfl rfl ?_ | refine ls_guard_no rfl rfl rfl rfl ?_ | refine ls_guard_un rfl rfl rfl ?_ | refine o1_move rfl ?_ | refine o1_assign rfl ?_ | refine st_seq ?_ | refine st_region ?_ | refine st_block ?_ | refine st_skip ?_ | refine st_ret ?_ | refine st_exit ?_ | refine st_cond_t rfl ?_ | refine st_cond_f rfl ?_ | refine st_cond rfl (fun _ => ?_) (fun _ => ?_) | refine ls_nil ?_ | refine nx_seq ?_ | refine nx_blk ?_ | refine nx_fn ?_ | refine nx_rounds ?_ | refine xt_seq ?_ | refine xt_here ?_ | refine xt_on rfl ?_ | refine xt_rounds ?_ | refine xt_cut ?_ | refine rt_seq ?_ | refine rt_blk ?_ | refine rt_rounds ?_ | refine rt_cut ?_ | refine o1_pick_t rfl rfl ?_ | refine o1_pick_f rfl rfl ?_ | refine ox_load rfl (by rfl) ?_ | refine ox_load_enc rfl (by first | omega | (simp; omega)) ?_ | refine ox_load_any rfl (by assumption) ?_ | refine o1_len rfl ?_ | refine o1_add rfl rfl (by omega) ?_ | refine o1_lss_t rfl rfl (by omega) ?_ | refine o1_lss_f rfl rfl (by omega) ?_ | refine o1_lss rfl rfl (fun _ => ?_) (fun _ => ?_) | refine o1_gtr_t rfl rfl (by omega) ?_ | refine o1_gtr_f rfl rfl (by omega) ?_ | refine o1_gtr rfl rfl (fun _ => ?_) (fun _ => ?_) | refine o1_geq_t rfl rfl (by omega) ?_ | refine o1_geq_f rfl rfl (by omega) ?_ | refine o1_geq rfl rfl (fun _ => ?_) (fun _ => ?_) | refine o1_eql_t rfl rfl (by omega) ?_ | refine o1_eql_f rfl rfl (by omega) ?_ | refine o1_eql rfl rfl (fun _ => ?_) (fun _ => ?_) | refine o1_neq_t rfl rfl (by omega) ?_ | refine o1_neq_f rfl rfl (by omega) ?_ | refine o1_neq rfl rfl (fun _ => ?_) (fun _ => ?_) | refine o1_uand rfl rfl ?_ | refine o1_ushr rfl rfl (by omega) ?_ | refine o1_conv_u64 rfl (by omega) ?_ | refine o1_conv_iu rfl ?_ | refine o1_rem_nn rfl rfl (by omega) ?_ | refine o1_maken (enc := B) 0#8 rfl rfl rfl rfl (by omega) (by omega) (by omega) (fun _ => ?_) | refine ox_store_enc B rfl rfl (by first | omega | (simp; done) | (simp; omega)) rfl ?_ | refine ox_stores rfl rfl (by first | omega | (simp; done) | (simp; omega)) rfl (by first | (simp only [List.set_cons_zero, List.set_cons_succ, Nat.zero_add, Nat.reduceAdd]; rfl) | rfl) ?_)
    refine rt_tmp2 b6 rfl rfl rfl rfl trivial ?_
    (try dsimp only [List.cons_append, List.nil_append, List.singleton_append, List.append_nil]); (repeat (first | exact Ent.nil | exact Ent.refl _ | (apply Ent.cons; (repeat (first | exact Sel.here | apply Sel.there)))))
set_option maxHeartbeats 2000000 in
theorem r1_Unpack_bad (H : List Hl) (N : Nat) (ad : Option Addr) (m c : Nat) (raw : List (BitVec 8)) (hN : N ≤ 256) (h : Rs (stars H) B ad c raw) (hm : m = raw.length) (hl : raw.length = nb N) (i0 : Nat) (hb1 : N ≤ i0) (hb2 : i0 < 8 * nb N) (hb3 : rbit raw i0 = true) :
    Spec Tryd.prog 29 [I N, .slice ad m c] H (fun _ : Unit => True) (fun _ => .tuple #[.slice none 0 0, .bool false]) (fun _ => H) := by
  refine spec_pure (res := fun _ => []) H Tryd.func29 rfl Tryd.ntmps29 (by kernel_rfl) rfl (fun W => ?_)
  have hnb : nb N ≤ 32 := by unfold nb; omega
  have hnn : N ≤ 8 * nb N := by unfold nb; omega
  have hq : ((N : Int) + 7) / 8 = (nb N : Nat) := by unfold nb; omega
  rw [hl] at hm
  repeat' (first | refine ls_of rfl ?_ | refine ls_of_no ?_ | refine ls_guard_yes rfl rfl ?_ | refine ls_guard_no rfl rfl rfl rfl ?_ | refine ls_guard_un rfl rfl rfl ?_ | refine o1_move rfl ?_ | refine o1_assign rfl ?_ | refine st_seq ?_ | refine st_region ?_ | refine st_block ?_ | refine st_skip ?_ | refine st_ret ?_ | refine st_exit ?_ | refine st_cond_t rfl ?_ | refine st_cond_f rfl ?_ | refine st_cond rfl (fun _ => ?_) (fun _ => ?_) | refine ls_nil ?_ | refine nx_seq ?_ | refine nx_blk ?_ | refine nx_fn ?_ | refine nx_rounds ?_ | refine xt_seq ?_ | refine xt_here ?_ | refine xt_on rfl ?_ | refine xt_rounds ?_ | refine xt_cut ?_ | refine rt_seq ?_ | refine rt_blk ?_ | refine rt_rounds ?_ | refine rt_cut ?_ | (refine o1_quo rfl rfl (by omega) ?_; rw [hq]) | refine o1_neq_f rfl rfl (by omega) ?_ | (refine o1_maker (enc := Bo) false N rfl rfl rfl rfl rfl (by omega) (by omega) (fun b6 => ?_); rw [← maskV_zero N (rbit raw)]) | refine o1_mul rfl rfl (by omega) ?_ | refine o1_pick_t rfl rfl ?_ | refine o1_pick_f rfl rfl ?_ | refine ox_load rfl (by rfl) ?_ | refine ox_load_enc rfl (by first | omega | (simp; omega)) ?_ | refine ox_load_any rfl (by assumption) ?_ | refine o1_len rfl ?_ | refine o1_add rfl rfl (by omega) ?_ | refine o1_lss_t rfl rfl (by omega) ?_ | refine o1_lss_f rfl rfl (by omega) ?_ | refine o1_lss rfl rfl (fun _ => ?_) (fun _ => ?_) | refine o1_gtr_t rfl rfl (by omega) ?_ | refine o1_gtr_f rfl rfl (by omega) ?_ | refine o1_gtr rfl rfl (fun _ => ?_) (fun _ => ?_) | refine o1_geq_t rfl rfl (by omega) ?_ | refine o1_geq_f rfl rfl (by omega) ?_ | refine o1_geq rfl rfl (fun _ => ?_) (fun _ => ?_) | refine o1_eql_t rfl rfl (by omega) ?_ | refine o1_eql_f rfl rfl (by omega) ?_ | refine o1_eql rfl rfl (fun _ => ?_) (fun _ => ?_) | refine o1_neq_t rfl rfl (by omega) ?_ | refine o1_neq_f rfl rfl (by omega) ?_ | refine o1_neq rfl rfl (fun _ => ?_) (fun _ => ?_) | refine o1_uand rfl rfl ?_ | refine o1_ushr rfl rfl (by omega) ?_ | refine o1_conv_u64 rfl (by omega) ?_ | refine o1_conv_iu rfl ?_ | refine o1_rem_nn rfl rfl (by omega) ?_ | refine o1_maken (enc := B) 0#8 rfl rfl rfl rfl (by omega) (by omega) (by omega) (fun _ => ?_) | refine ox_store_enc B rfl rfl (by first | omega | (simp; done) | (simp; omega)) rfl ?_ | refine ox_stores rfl rfl (by first | omega | (simp; done) | (simp; omega)) rfl (by first | (simp only [List.set_cons_zero, List.set_cons_succ, Nat.zero_add, Nat.reduceAdd]; rfl) | rfl) ?_)
  refine st_loop (S := Nat) (fun i => [(0, I N), (1, .slice ad m c), (6, .slice (some ⟨b6, 0, none⟩) N N), (26, I (8 * (m : Int))), (27, I i)]) (fun i => [.box b6 4 ((maskV N (rbit raw) i).map Bo), .any (stars H)]) (fun i => i ≤ 8 * nb N ∧ ∀ j, N ≤ j → j < i → rbit raw j = false) (fun i => 8 * nb N - i) 0 ⟨Nat.zero_le _, by omega⟩
    (cov_cons rfl rfl (cov_cons rfl rfl (cov_cons rfl rfl (cov_cons rfl rfl (cov_cons rfl rfl cov_nil))))) (by (try dsimp only [List.cons_append, List.nil_append, List.singleton_append, List.append_nil]); (repeat (first | exact Ent.nil | exact Ent.refl _ | (apply Ent.cons; (repeat (first | exact Sel.here | apply Sel.there)))))) ?_
  rintro i ⟨hi, hno⟩
  by_cases hlt : i < 8 * nb N
  · have hi8 : i / 8 < raw.length := by omega
    have hsh : ((i : Int) % 8).toNat = i % 8 := by omega
    have hv := rbit_val raw i hi8
    cases hbit : rbit raw i
    · have e1 : (((raw[i / 8] >>> (i % 8)) &&& 1#8).toNat : Int) ≠ 1 := by rw [hv, hbit]; decide
      repeat' (first | refine ls_of rfl ?_ | refine ls_of_no ?_ | refine ls_guard_yes rfl rfl ?_ | refine ls_guard_no rfl rfl rfl rfl ?_ | refine ls_guard_un rfl rfl rfl ?_ | refine o1_move rfl ?_ | refine o1_assign rfl ?_ | refine st_seq ?_ | refine st_region ?_ | refine st_block ?_ | refine st_skip ?_ | refine st_ret ?_ | refine st_exit ?_ | refine st_cond_t rfl ?_ | refine st_cond_f rfl ?_ | refine st_cond rfl (fun _ => ?_) (fun _ => ?_) | refine ls_nil ?_ | refine nx_seq ?_ | refine nx_blk ?_ | refine nx_fn ?_ | refine nx_rounds ?_ | refine xt_seq ?_ | refine xt_here ?_ | refine xt_on rfl ?_ | refine xt_rounds ?_ | refine xt_cut ?_ | refine rt_seq ?_ | refine rt_blk ?_ | refine rt_rounds ?_ | refine rt_cut ?_ | refine o1_quo rfl rfl (by omega) ?_ | refine o1_ia (i / 8) rfl rfl h (by omega) (by omega) hi8 ?_ | refine o1_load_ia (i / 8) rfl h hi8 ?_ | refine o1_conv_u64 rfl (by omega) ?_ | (refine o1_ushr rfl rfl (by omega) ?_; rw [hsh]) | refine o1_uand (v := 1#8) rfl rfl ?_ | refine o1_eql_f rfl rfl e1 ?_ | refine o1_pick_t rfl rfl ?_ | refine o1_pick_f rfl rfl ?_ | refine ox_load rfl (by rfl) ?_ | refine ox_load_enc rfl (by first | omega | (simp; omega)) ?_ | refine ox_load_any rfl (by assumption) ?_ | refine o1_len rfl ?_ | refine o1_add rfl rfl (by omega) ?_ | refine o1_lss_t rfl rfl (by omega) ?_ | refine o1_lss_f rfl rfl (by omega) ?_ | refine o1_lss rfl rfl (fun _ => ?_) (fun _ => ?_) | refine o1_gtr_t rfl rfl (by omega) ?_ | refine o1_gtr_f rfl rfl (by omega) ?_ | refine o1_gtr rfl rfl (fun _ => ?_) (fun _ => ?_) | refine o1_geq_t rfl rfl (by omega) ?_ | refine o1_geq_f rfl rfl (by omega) ?_ | refine o1_geq rfl rfl (fun _ => ?_) (fun _ => ?_) | refine o1_eql_t rfl rfl (by omega) ?_ | refine o1_eql_f rfl rfl (by omega) ?_ | refine o1_eql rfl rfl (fun _ => ?_) (fun _ => ?_) | refine o1_neq_t rfl rfl (by omega) ?_ | refine o1_neq_f rfl rfl (by omega) ?_ | refine o1_neq rfl rfl (fun _ => ?_) (fun _ => ?_) | refine o1_uand rfl rfl ?_ | refine o1_ushr rfl rfl (by omega) ?_ | refine o1_conv_u64 rfl (by omega) ?_ | refine o1_conv_iu rfl ?_ | refine o1_rem_nn rfl rfl (by omega) ?_ | refine o1_maken (enc := B) 0#8 rfl rfl rfl rfl (by omega) (by omega) (by omega) (fun _ => ?_) | refine ox_store_enc B rfl rfl (by first | omega | (simp; done) | (simp; omega)) rfl ?_ | refine ox_stores rfl rfl (by first | omega | (simp; done) | (simp; omega)) rfl (by first | (simp only [List.set_cons_zero, List.set_cons_succ, Nat.zero_add, Nat.reduceAdd]; rfl) | rfl) ?_)
      refine nx_again (i + 1) ⟨by omega, fun j h1 h2 => ?_⟩ (by omega) (cov_cons rfl rfl (cov_cons rfl rfl (cov_cons rfl rfl (cov_cons rfl rfl (cov_cons rfl rfl cov_nil))))) ?_
      · by_cases hj : j = i
        · rw [hj]; exact hbit
        · exact hno j h1 (by omega)
      rw [maskV_off (i := i) (fun _ => hbit)]
      (try dsimp only [List.cons_append, List.nil_append, List.singleton_append, List.append_nil]); (repeat (first | exact Ent.nil | exact Ent.refl _ | (apply Ent.cons; (repeat (first | exact Sel.here | apply Sel.there)))))
    · have e1 : (((raw[i / 8] >>> (i % 8)) &&& 1#8).toNat : Int) = 1 := by rw [hv, hbit]; decide
      by_cases hiN : i < N
      · have hset : (maskV N (rbit raw) i).set i true = maskV N (rbit raw) (i + 1) := by rw [maskV_on hiN hbit]
        have hml : i < (maskV N (rbit raw) i).length := by rw [maskV_len]; exact hiN
        repeat' (first | refine ls_of rfl ?_ | refine ls_of_no ?_ | refine ls_guard_yes rfl rfl ?_ | refine ls_guard_no rfl rfl rfl rfl ?_ | refine ls_guard_un rfl rfl rfl ?_ | refine o1_move rfl ?_ | refine o1_assign rfl ?_ | refine st_seq ?_ | refine st_region ?_ | refine st_block ?_ | refine st_skip ?_ | refine st_ret ?_ | refine st_exit ?_ | refine st_cond_t rfl ?_ | refine st_cond_f rfl ?_ | refine st_cond rfl (fun _ => ?_) (fun _ => ?_) | refine ls_nil ?_ | refine nx_seq ?_ | refine nx_blk ?_ | refine nx_fn ?_ | refine nx_rounds ?_ | refine xt_seq ?_ | refine xt_here ?_ | refine xt_on rfl ?_ | refine xt_rounds ?_ | refine xt_cut ?_ | refine rt_seq ?_ | refine rt_blk ?_ | refine rt_rounds ?_ | refine rt_cut ?_ | refine o1_quo rfl rfl (by omega) ?_ | refine o1_ia (i / 8) rfl rfl h (by omega) (by omega) hi8 ?_ | refine o1_load_ia (i / 8) rfl h hi8 ?_ | refine o1_conv_u64 rfl (by omega) ?_ | (refine o1_ushr rfl rfl (by omega) ?_; rw [hsh]) | refine o1_uand (v := 1#8) rfl rfl ?_ | refine o1_eql_t rfl rfl e1 ?_ | refine o1_own i rfl rfl rfl hiN ?_ | (refine ox_store_enc Bo (v := true) (l := maskV N (rbit raw) i) rfl rfl hml rfl ?_; rw [hset]) | refine o1_pick_t rfl rfl ?_ | refine o1_pick_f rfl rfl ?_ | refine ox_load rfl (by rfl) ?_ | refine ox_load_enc rfl (by first | omega | (simp; omega)) ?_ | refine ox_load_any rfl (by assumption) ?_ | refine o1_len rfl ?_ | refine o1_add rfl rfl (by omega) ?_ | refine o1_lss_t rfl rfl (by omega) ?_ | refine o1_lss_f rfl rfl (by omega) ?_ | refine o1_lss rfl rfl (fun _ => ?_) (fun _ => ?_) | refine o1_gtr_t rfl rfl (by omega) ?_ | refine o1_gtr_f rfl rfl (by omega) ?_ | refine o1_gtr rfl rfl (fun _ => ?_) (fun _ => ?_) | refine o1_geq_t rfl rfl (by omega) ?_ | refine o1_geq_f rfl rfl (by omega) ?_ | refine o1_geq rfl rfl (fun _ => ?_) (fun _ => ?_) | refine o1_eql_t rfl rfl (by omega) ?_ | refine o1_eql_f rfl rfl (by omega) ?_ | refine o1_eql rfl rfl (fun _ => ?_) (fun _ => ?_) | refine o1_neq_t rfl rfl (by omega) ?_ | refine o1_neq_f rfl rfl (by omega) ?_ | refine o1_neq rfl rfl (fun _ => ?_) (fun _ => ?_) | refine o1_uand rfl rfl ?_ | refine o1_ushr rfl rfl (by omega) ?_ | refine o1_conv_u64 rfl (by omega) ?_ | refine o1_conv_iu rfl ?_ | refine o1_rem_nn rfl rfl (by omega) ?_ | refine o1_maken (enc := B) 0#8 rfl rfl rfl rfl (by omega) (by omega) (by omega) (fun _ => ?_) | refine ox_store_enc B rfl rfl (by first | omega | (simp; done) | (simp; omega)) rfl ?_ | refine ox_stores rfl rfl (by first | omega | (simp; done) | (simp; omega)) rfl (by first | (simp only [List.set_cons_zero, List.set_cons_succ, Nat.zero_add, Nat.reduceAdd]; rfl) | rfl) ?_)
        refine nx_again (i + 1) ⟨by omega, fun j h1 h2 => ?_⟩ (by omega) (cov_cons rfl rfl (cov_cons rfl rfl (cov_cons rfl rfl (cov_cons rfl rfl (cov_cons rfl rfl cov_nil))))) ?_
        · exact hno j h1 (by omega)
        (try dsimp only [List.cons_append, List.nil_append, List.singleton_append, List.append_nil]); (repeat (first | exact Ent.nil | exact Ent.refl _ | (apply Ent.cons; (repeat (first | exact Sel.here | apply Sel.there)))))
      · repeat' (first | refine ls_of rfl ?_ | refine ls_of_no ?_ | refine ls_guard_yes rfl rfl ?_ | refine ls_guard_no rfl rfl rfl rfl ?_ | refine ls_guard_un rfl rfl rfl ?_ | refine o1_move rfl ?_ | refine o1_assign rfl ?_ | refine st_seq ?_ | refine st_region ?_ | refine st_block ?_ | refine st_skip ?_ | refine st_ret ?_ | refine st_exit ?_ | refine st_cond_t rfl ?_ | refine st_cond_f rfl ?_ | refine st_cond rfl (fun _ => ?_) (fun _ => ?_) | refine ls_nil ?_ | refine nx_seq ?_ | refine nx_blk ?_ | refine nx_fn ?_ | refine nx_rounds ?_ | refine xt_seq ?_ | refine xt_here ?_ | refine xt_on rfl ?_ | refine xt_rounds ?_ | refine xt_cut ?_ | refine rt_seq ?_ | refine rt_blk ?_ | refine rt_rounds ?_ | refine rt_cut ?_ | refine o1_quo rfl rfl (by omega) ?_ | refine o1_ia (i / 8) rfl rfl h (by omega) (by omega) hi8 ?_ | refine o1_load_ia (i / 8) rfl h hi8 ?_ | refine o1_conv_u64 rfl (by omega) ?_ | (refine o1_ushr rfl rfl (by omega) ?_; rw [hsh]) | refine o1_uand (v := 1#8) rfl rfl ?_ | refine o1_eql_t rfl rfl e1 ?_ | refine o1_pick_t rfl rfl ?_ | refine o1_pick_f rfl rfl ?_ | refine ox_load rfl (by rfl) ?_ | refine ox_load_enc rfl (by first | omega | (simp; omega)) ?_ | refine ox_load_any rfl (by assumption) ?_ | refine o1_len rfl ?_ | refine o1_add rfl rfl (by omega) ?_ | refine o1_lss_t rfl rfl (by omega) ?_ | refine o1_lss_f rfl rfl (by omega) ?_ | refine o1_lss rfl rfl (fun _ => ?_) (fun _ => ?_) | refine o1_gtr_t rfl rfl (by omega) ?_ | refine o1_gtr_f rfl rfl (by omega) ?_ | refine o1_gtr rfl rfl (fun _ => ?_) (fun _ => ?_) | refine o1_geq_t rfl rfl (by omega) ?_ | refine o1_geq_f rfl rfl (by omega) ?_ | refine o1_geq rfl rfl (fun _ => ?_) (fun _ => ?_) | refine o1_eql_t rfl rfl (by omega) ?_ | refine o1_eql_f rfl rfl (by omega) ?_ | refine o1_eql rfl rfl (fun _ => ?_) (fun _ => ?_) | refine o1_neq_t rfl rfl (by omega) ?_ | refine o1_neq_f rfl rfl (by omega) ?_ | refine o1_neq rfl rfl (fun _ => ?_) (fun _ => ?_) | refine o1_uand rfl rfl ?_ | refine o1_ushr rfl rfl (by omega) ?_ | refine o1_conv_u64 rfl (by omega) ?_ | refine o1_conv_iu rfl ?_ | refine o1_rem_nn rfl rfl (by omega) ?_ | refine o1_maken (enc := B) 0#8 rfl rfl rfl rfl (by omega) (by omega) (by omega) (fun _ => ?_) | refine ox_store_enc B rfl rfl (by first | omega | (simp; done) | (simp; omega)) rfl ?_ | refine ox_stores rfl rfl (by first | omega | (simp; done) | (simp; omega)) rfl (by first | (simp only [List.set_cons_zero, List.set_cons_succ, Nat.zero_add, Nat.reduceAdd]; rfl) | rfl) ?_)
        refine rt_tmp2 () rfl rfl rfl rfl trivial ?_
        (try dsimp only [List.cons_append, List.nil_append, List.singleton_append, List.append_nil]); (repeat (first | exact Ent.nil | exact Ent.refl _ | (apply Ent.cons; (repeat (first | exact Sel.here | apply Sel.there)))))
  · exact absurd (hno i0 hb1 (by omega)) (by rw [hb3]; decide)
end Go.Dp

set_option linter.unusedVariables false
namespace Go.Dp
open Go.RowKit
section
variable {P : Program} {n : Nat} {H : List Hl} {e : Ev} {C : Value → List Hl → Prop} {ty : TypeId} {x y : Operand}
end
end Go.Dp

set_option linter.unusedVariables false
namespace Go.Dp
open Go.RowKit
/-- The cells of a list of elements of two. -/
def w2 {α : Type} (f g : α → Value) (l : List α) : List Value := l.flatMap (fun x => [f x, g x])
theorem w2_len {α : Type} (f g : α → Value) (l : List α) : (w2 f g l).length = l.length * 2 := by
  induction l with
  | nil => rfl
  | cons x l ih => simp only [w2, List.flatMap_cons, List.length_append, List.length_cons, List.length_nil] at ih ⊢; omega
theorem w2_snoc {α : Type} (f g : α → Value) (l : List α) (x : α) : w2 f g (l ++ [x]) = w2 f g l ++ [f x, g x] := by simp [w2]
theorem w2_at {α : Type} (f g : α → Value) : ∀ (l : List α) (i : Nat) (x : α), l[i]? = some x → (w2 f g l)[i * 2]? = some (f x) ∧ (w2 f g l)[i * 2 + 1]? = some (g x)
  | [], i, x, h => by simp at h
  | y :: l, 0, x, h => by
    simp at h
    subst h
    exact ⟨rfl, rfl⟩
  | y :: l, i + 1, x, h => by
    simp at h
    obtain ⟨h1, h2⟩ := w2_at f g l i x h
    have e : w2 f g (y :: l) = f y :: g y :: w2 f g l := rfl
    rw [e, show (i + 1) * 2 = i * 2 + 1 + 1 by omega]
    exact ⟨h1, h2⟩
/-- A slice of elements of two cells that is read. -/
structure R2 {α : Type} (A : Hp → Prop) (f g : α → Value) (ad : Option Addr) (c : Nat) (l : List α) : Prop where
  le : l.length ≤ c
  big : c ≤ 9223372036854775807
  sm : 0 < l.length → ∃ a, ad = some a
  cell : ∀ w, sat w A → ∀ a, ad = some a → ∀ i x, l[i]? = some x → w.cell? (a.add (i * 2)) = some (f x) ∧ w.cell? (a.add (i * 2 + 1)) = some (g x)
theorem R2.mono {α : Type} {A B : Hp → Prop} {f g : α → Value} {ad : Option Addr} {c : Nat} {l : List α} (h : R2 A f g ad c l) (hab : ∀ w, sat w B → sat w A) : R2 B f g ad c l :=
  ⟨h.le, h.big, h.sm, fun w hw => h.cell w (hab w hw)⟩
theorem R2.up {α : Type} {A : Hp → Prop} {f g : α → Value} {ad : Option Addr} {c : Nat} {l : List α} {H H' : List Hl} (h : R2 A f g ad c l) [s : SAny H A H'] : R2 (stars H) f g ad c l := h.mono fun w hw => sel_sat s.s w hw
theorem R2.nil {α : Type} {A : Hp → Prop} {f g : α → Value} : R2 A f g none 0 ([] : List α) := ⟨by simp, by decide, by simp, fun w hw a ha => by cases ha⟩
theorem R2.of_Rm {α : Type} {A : Hp → Prop} {c2 : α → List Value} {f g : α → Value} {ad : Option Addr} {c : Nat} {l : List α} (h : Rm A 2 c2 ad c l) (hc : ∀ x, c2 x = [f x, g x]) : R2 A f g ad c l :=
  ⟨h.le, h.big, h.sm, fun w hw a ha i x hx => ⟨by
    have := h.cell w hw a ha i x hx 0 (f x) (by rw [hc]; rfl)
    simpa using this, h.cell w hw a ha i x hx 1 (g x) (by rw [hc]; rfl)⟩⟩
theorem R2.of_row {α : Type} {H H' : List Hl} {T : TypeId} {f g : α → Value} {ad : Option Addr} {n c : Nat} {l : List α} (s : Sel H (.row T 2 (.slice ad n c) n (w2 f g l)) H') (hh : Has H) : R2 (stars H) f g ad c l := by
  have key : ∀ w, sat w (stars H) → w.ownsRow 0 T 2 (.slice ad n c) n (w2 f g l) := fun w hw => hw.own s
  obtain ⟨w0, hw0⟩ := hh
  have h0 := key w0 hw0
  have hl : l.length = n := by have := h0.1; rw [w2_len] at this; omega
  refine ⟨?_, ?_, ?_, ?_⟩
  · rcases h0.2 with ⟨hv, hn⟩ | ⟨gb, cap, cur, hv, _, _, h3, h4, _⟩
    · injection hv with h1 h2 h3
      omega
    · injection hv with h1 h2 h3
      omega
  · rcases h0.2 with ⟨hv, hn⟩ | ⟨gb, cap, cur, hv, _, _, h3, h4, _⟩
    · injection hv with h1 h2 h3
      omega
    · injection hv with h1 h2 h3
      subst h3
      simpa [maxLen] using h4
  · intro hp
    rcases h0.2 with ⟨hv, hn⟩ | ⟨gb, cap, cur, hv, _⟩
    · omega
    · injection hv with h1 h2 h3
      exact ⟨_, h1⟩
  · intro w hw a ha i x hx
    rcases (key w hw).2 with ⟨hv, hn⟩ | ⟨gb, cap, cur, hv, _, hb, _, _, hsz, hcur⟩
    · injection hv with h1 h2 h3
      rw [h1] at ha; cases ha
    · injection hv with h1 h2 h3
      rw [h1] at ha
      injection ha with ha
      subst ha
      have hi : i < l.length := (List.getElem?_eq_some_iff.1 hx).1
      obtain ⟨e1, e2⟩ := w2_at f g l i x hx
      have cell : ∀ j v, (w2 f g l)[j]? = some v → w.cell? ((Addr.mk gb 0 none).add j) = some v := fun j v hj => by
        have hj2 : j < n * 2 := by
          have := (List.getElem?_eq_some_iff.1 hj).1
          rw [w2_len] at this; omega
        rw [← hcur, List.getElem?_take, if_pos hj2] at hj
        have e : (Addr.mk gb 0 none).add j = ⟨gb, j, none⟩ := by
          by_cases h0 : j = 0
          · subst h0; simp [Addr.add]
          · simp [Addr.add, h0]
        rw [e]
        simpa [World.cell?, hb] using hj
      exact ⟨cell _ _ e1, cell _ _ e2⟩
section
variable {P : Program} {n : Nat} {H : List Hl} {e : Ev} {C : Value → List Hl → Prop} {ty : TypeId} {x y : Operand} {α : Type} {A : Hp → Prop} {f g : α → Value} {T E : TypeId} {z : Value} {by_ : Nat} {p : Int} {kd : IntKind} {ad : Option Addr} {c l0 : Nat} {xs : List α}
theorem o1_iaw (i : Nat) [ht : TSl P T E] [hi : TInf P E z 2 by_] (hx : opd e x = some (.slice ad l0 c)) (hy : opd e y = some (.int kd p)) (hr : R2 A f g ad c xs) (h0 : l0 = xs.length) (hp : p = i) (hl : i < xs.length)
    (h : C (.pointer (some (idxA ad (i * 2)))) H) : O1 P (.indexAddr T x y) ty n e H C := by
  obtain ⟨a0, rfl⟩ := hr.sm (by omega)
  subst hp h0
  refine o1_val _ (fun a w ho => ?_) h
  simp [execOp, ho.ev.eval hx, ho.ev.eval hy, Instr.indexAt, asIntOf, run_underlying ht.u, hl, run_sizeOf, idxA]
theorem o1_load_iaw (i : Nat) (v : α) {T : TypeId} {z : Value} {by_ : Nat} [TAgg P T] [TInf P T z 2 by_] {H' : List Hl} (hx : opd e x = some (.pointer (some (idxA ad (i * 2))))) (hr : R2 A f g ad c xs) (hv : xs[i]? = some v) [s : SAny H A H'] (h : C (.agg #[f v, g v]) H) : O1 P (.load T x) ty n e H C := by
  have hl : i < xs.length := (List.getElem?_eq_some_iff.1 hv).1
  obtain ⟨a0, rfl⟩ := hr.sm (by omega)
  refine o1_val _ (fun a w ho => ?_) h
  obtain ⟨c1, c2⟩ := hr.cell w (sel_sat s.s w ho.sat) a0 rfl i v hv
  have hload := run_loadCells_list (P := P) w (idxA (some a0) (i * 2)) [f v, g v] (fun j u hj => by
    have hadd : (idxA (some a0) (i * 2)).add j = a0.add (i * 2 + j) := add_add a0 (i * 2) j
    rw [hadd]
    match j, hj with
    | 0, hj => injection hj with hj; rw [← hj]; exact c1
    | 1, hj => injection hj with hj; rw [← hj]; exact c2
    | j + 2, hj => cases hj)
  have hload : (loadCells (idxA (some a0) (i * 2)) 2).run P w = .ok #[f v, g v] w := hload
  simp [execOp, ho.ev.eval hx, Instr.loadAt, Instr.sureAddr, loadVar, run_isAgg_agg, run_sizeOf, hload]
/-- A literal of one element. -/
theorem o1_lit_w {ps : List (Nat × Operand)} {a b : Value} [ht : TSl P T E] [hi : TInf P E z 2 by_] (hps : opdi e ps = some [(0, .agg #[a, b])]) (hz : z.cells.size = 2)
    (h : ∀ bx, C (.slice (some ⟨bx, 0, none⟩) 1 1) (.box bx E [a, b] :: H)) : O1 P (.buildSlice T 1 ps.toArray) ty n e H C := by
  refine o1_buildSlice hps (fun w => ?_) h
  have key : ∀ (Z : Array Value), Z.size = 2 → (Z.setIfInBounds 0 a).setIfInBounds 1 b = #[a, b] := fun Z hZ => by
    obtain ⟨l⟩ := Z
    match l, hZ with
    | [p, q], _ => rfl
  simp [Instr.buildSlice, run_underlying ht.u, run_sizeOf, Instr.fill, newRow, run_zeroValue, Value.cells]
  rw [key _ (by simp)]
class SRw2 (H : List Hl) (ad : Option Addr) (c : Nat) (n : outParam Nat) (T : outParam TypeId) (xs : outParam (List Value)) (H' : outParam (List Hl)) : Prop where s : Sel H (.row T 2 (.slice ad n c) n xs) H'
instance srw2_here {ad : Option Addr} {n c : Nat} {T : TypeId} {xs : List Value} {H : List Hl} : SRw2 (.row T 2 (.slice ad n c) n xs :: H) ad c n T xs H := ⟨.here⟩
instance (priority := low) srw2_there {ad : Option Addr} {n c : Nat} {T : TypeId} {xs : List Value} {y : Hl} {H H' : List Hl} [h : SRw2 H ad c n T xs H'] : SRw2 (y :: H) ad c n T xs (y :: H') := ⟨.there h.s⟩
/-- One element more. -/
theorem ox_append_w {ad : Option Addr} {c b a0 : Nat} {T' : TypeId} {y0 : α} {H' H2 : List Hl} [ht : TSl P T E] [hi : TInf P E z 2 by_] (hx : opd e x = some (.slice ad a0 c)) (hy : opd e y = some (.slice (some ⟨b, 0, none⟩) 1 1))
    [sr : SRw2 H ad c a0 E (w2 f g xs) H'] [sb : SBox H b T' [f y0, g y0] H2] (hz : z.cells.size = 2) (h1 : (f y0).oneCell' = true) (h2 : (g y0).oneCell' = true) (hb : (a0 + 1) * by_ ≤ 140737488355328) (hb2 : a0 + 1 ≤ 9223372036854775807)
    (h : ∀ ad2 c2, C (.slice ad2 (a0 + 1) c2) (.row E 2 (.slice ad2 (a0 + 1) c2) (a0 + 1) (w2 f g (xs ++ [y0])) :: H')) :
    O1 P (.call ⟨.builtin .append, #[x, y], #[T, T]⟩) ty n e H C :=
  o1_step fun a w ho => by
    have s := sr.s
    obtain ⟨i, hi0, hiz, his, hib⟩ := hi.info
    have hown := ho.sat.own s
    obtain ⟨v', w', hrun, g2, g3, _, g5⟩ := run_append_own_at (P := P) w 0 T ty E i z 2 by_ ht.u hi0 hiz his hib hz (by omega) _ _ _ hown ⟨b, 0, none⟩ 1 1 [f y0, g y0] rfl
      (fun j u hj => by
        have hc := ho.sat.cell sb.s j
        have e : (Addr.mk b 0 none).add j = ⟨b, j, none⟩ := by
          by_cases h0 : j = 0
          · subst h0; simp [Addr.add]
          · simp [Addr.add, h0]
        rw [e, hc]
        exact hj)
      (fun u hu => by
        rcases List.mem_cons.1 hu with rfl | hu
        · exact h1
        · obtain rfl : u = g y0 := by simpa using hu
          exact h2) (by simp only [maxLen]; omega) hb (by omega)
    have hv : ∃ ad2 c2, v' = .slice ad2 (a0 + 1) c2 := by
      rcases g2.2 with ⟨rfl, hn⟩ | ⟨gb, cap, cur, rfl, _⟩
      · omega
      · exact ⟨_, _, rfl⟩
    obtain ⟨ad2, c2, rfl⟩ := hv
    rw [← w2_snoc] at g2
    refine ⟨_, w', ?_, _, h ad2 c2, ⟨g3.os, g3.tape, g3.output, g3.size⟩, ho.sat.grown s g2 g3 g5⟩
    simp [execOp, resolve, invoke, builtin, ho.ev.eval hx, ho.ev.eval hy, hrun]
theorem ent_nil2 (T : TypeId) (f g : α → Value) : ∀ h, stars H h → stars (.row T 2 (.slice none 0 0) 0 (w2 f g ([] : List α)) :: H) h := ent_nil_row T 2
end
/-! What stands for good: one piece, to which more comes. -/
theorem ent_pack (L R : List Hl) : ∀ h, stars (L ++ R) h → stars (.any (stars L) :: R) h := fun h hh => stars_append L R h hh
section
variable {P : Program} {k : Kon} {n : Nat} {e : Ev} {W : World} {H : List Hl} {co : Code}
theorem st_pack (L R : List Hl) (hE : Ent H (L ++ R)) (h : St P co k n e W (.any (stars L) :: R)) : St P co k n e W H := st_ent (fun x hx => ent_pack L R x (hE.out x hx)) h
theorem nx_pack (L R : List Hl) (hE : Ent H (L ++ R)) (h : Nx P k n e W (.any (stars L) :: R)) : Nx P k n e W H := nx_ent (fun x hx => ent_pack L R x (hE.out x hx)) h
theorem rt_pack (L R : List Hl) (hE : Ent H (L ++ R)) (h : Rt P k n e W (.any (stars L) :: R)) : Rt P k n e W H := rt_ent (fun x hx => ent_pack L R x (hE.out x hx)) h
/-- A call of what has something read that grows. -/
theorem o1_call_a {C : Value → List Hl → Prop} {ty : TypeId} (A : Hp → Prop) {f : FuncId} {xs : List Operand} {args : List Value} {ats : Array TypeId} {X : Type} {good : X → Prop} {val : X → Value} {res : X → List Hl} {H2 : List Hl} [s : SAny H A H2]
    (hs : Has (.any A :: H2) → Spec P f args (.any A :: H2) good val res) (hxs : opds e xs = some args) (h : ∀ r, good r → C (val r) (res r)) : O1 P (.call ⟨.value (.func f), xs.toArray, ats⟩) ty n e H C :=
  O1.ent (H2 := .any A :: H2) s.s.out (o1_call hs hxs h)
/-- The same, a box beside. -/
theorem o1_call_ba {C : Value → List Hl → Prop} {ty : TypeId} (b : Nat) (A : Hp → Prop) {f : FuncId} {xs : List Operand} {args : List Value} {ats : Array TypeId} {X : Type} {good : X → Prop} {val : X → Value} {res : X → List Hl} {T : TypeId} {cs : List Value} {H' H2 : List Hl} [s : SBox H b T cs H'] [s2 : SAny H' A H2]
    (hs : Has (.box b T cs :: .any A :: H2) → Spec P f args (.box b T cs :: .any A :: H2) good val res) (hxs : opds e xs = some args) (h : ∀ r, good r → C (val r) (res r)) : O1 P (.call ⟨.value (.func f), xs.toArray, ats⟩) ty n e H C :=
  O1.ent (H2 := .box b T cs :: .any A :: H2) (fun h hh => sep_mono (s.s.out h hh) (fun _ a => a) s2.s.out) (o1_call hs hxs h)
end
end Go.Dp
