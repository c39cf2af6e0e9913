/-
  Matrices, reduced: what adding a row keeps, plain.
  Conditions: those that stand in each theorem.
-/
import Derived.Test.YtlmmnnhbnbakgaaDoorW3
set_option linter.unusedVariables false
set_option linter.unusedSimpArgs false
namespace Go.Dp
def twoB (x y : BitVec 8) : List (BitVec 8) := [x, y]
abbrev Si (s : SlD Int) : Value := .slice s.ad s.l.length s.cap
def xsB (g : Nat → Bool) : Nat → Bool
  | 0 => false
  | n + 1 => xsB g n ^^ g n
theorem xsB_zero {g : Nat → Bool} {n : Nat} (h : ∀ i, i < n → g i = false) : xsB g n = false := by
  induction n with
  | zero => rfl
  | succ n ih => rw [xsB, ih (fun i hi => h i (by omega)), h n (by omega)]; rfl
theorem xsB_one {g : Nat → Bool} {n j : Nat} (hj : j < n) (h : ∀ i, i < n → i ≠ j → g i = false) : xsB g n = g j := by
  induction n with
  | zero => omega
  | succ n ih =>
    rw [xsB]
    by_cases e : j = n
    · subst e
      rw [xsB_zero (fun i hi => h i (by omega) (by omega))]; simp
    · rw [ih (by omega) (fun i hi hne => h i (by omega) hne), h n (by omega) (fun q => e q.symm)]; simp
/-- A bit of a row of the matrix, false if there is no row. -/
def rowAt (M : List (Option LN)) (i k : Nat) : Bool := match M.getD i none with
  | some y => at_ y.1 k
  | none => false
/-- A reduced matrix: each row in the place of its first bit, which no other row has. -/
structure RR (n z : Nat) (M : List (Option LN)) : Prop where
  lok : LOk n z M
  fst : ∀ i y, M[i]? = some (some y) → at_ y.1 i = true
  lo : ∀ i y j, M[i]? = some (some y) → j < i → at_ y.1 j = false
  piv : ∀ i j y w, M[i]? = some (some y) → M[j]? = some (some w) → i ≠ j → at_ y.1 j = false
theorem getD_of {M : List (Option LN)} {i : Nat} {y : LN} (h : M[i]? = some (some y)) : M.getD i none = some y := by rw [List.getD_eq_getElem?_getD, h]; rfl
theorem getD_some {M : List (Option LN)} {i : Nat} {y : LN} (h : M.getD i none = some y) : M[i]? = some (some y) := by
  rw [List.getD_eq_getElem?_getD] at h
  cases hq : M[i]? with
  | none => rw [hq] at h; cases h
  | some o => rw [hq] at h; exact congrArg some h
theorem mem_of_get? {M : List (Option LN)} {i : Nat} {o : Option LN} (h : M[i]? = some o) : o ∈ M := List.mem_of_getElem? h
theorem redT_at {n z : Nat} {M : List (Option LN)} (h : RR n z M) {x : LN} (hx : x.1.length = n) (hd : x.2.length = z) : ∀ i, i ≤ n → ∀ k, at_ (redT M x i).1 k = (at_ x.1 k ^^ xsB (fun j => at_ x.1 j && rowAt M j k) i)
  | 0, _, k => by simp [redT, xsB]
  | i + 1, hi, k => by
    have ih := redT_at h hx hd i (by omega)
    obtain ⟨l1, l2⟩ := redT_len h.lok hx hd i
    rw [redT, xsB]
    cases ho : M.getD i none with
    | none =>
      have hr : rowAt M i k = false := by unfold rowAt; rw [ho]
      rw [hr, Bool.and_false, Bool.xor_false]
      exact ih k
    | some y =>
      have hM := getD_some ho
      have hr : rowAt M i k = at_ y.1 k := by unfold rowAt; rw [ho]
      obtain ⟨y1, y2⟩ := h.lok.ok y (mem_of_get? hM)
      have hc : at_ (redT M x i).1 i = at_ x.1 i := by
        rw [ih i, xsB_zero (fun j hj => ?_), Bool.xor_false]
        unfold rowAt
        cases hj2 : M.getD j none with
        | none => simp
        | some w =>
          show (at_ x.1 j && at_ w.1 i) = false
          rw [h.piv j i w y (getD_some hj2) hM (by omega), Bool.and_false]
      show at_ (if at_ (redT M x i).1 i = true then addL (redT M x i) y else redT M x i).1 k = _
      rw [hc, hr]
      cases hb : at_ x.1 i
      · simpa using ih k
      · simp only [if_true, Bool.true_and]
        show (xorV (redT M x i).1 y.1).getD k false = _
        rw [xorV_getD (by omega)]
        have := ih k
        rw [← Bool.xor_assoc, ← this]
theorem red_piv {n z : Nat} {M : List (Option LN)} (h : RR n z M) {x : LN} (hx : x.1.length = n) (hd : x.2.length = z) {j : Nat} {w : LN} (hj : M[j]? = some (some w)) : at_ (red M x).1 j = false := by
  have hjn : j < n := by
    rw [← h.lok.len]
    exact (List.getElem?_eq_some_iff.1 hj).1
  rw [red, h.lok.len, redT_at h hx hd n (Nat.le_refl _), xsB_one hjn (fun i hi hne => ?_)]
  · show (at_ x.1 j ^^ (at_ x.1 j && rowAt M j j)) = false
    have : rowAt M j j = true := by unfold rowAt; rw [getD_of hj]; exact h.fst j w hj
    rw [this]; simp
  · unfold rowAt
    cases hi2 : M.getD i none with
    | none => simp
    | some y =>
      show (at_ x.1 i && at_ y.1 j) = false
      rw [h.piv i j y w (getD_some hi2) hj hne, Bool.and_false]
theorem first_cases (l : List Bool) : firstV l = -1 ∨ ∃ a : Nat, firstV l = a ∧ a < l.length ∧ at_ l a = true ∧ ∀ j, j < a → at_ l j = false := by
  unfold firstV
  by_cases h : firstN (at_ l) l.length < l.length
  · rw [if_pos h]
    exact .inr ⟨_, rfl, h, firstN_at _ _ h, firstN_lo _ _⟩
  · rw [if_neg h]; exact .inl rfl
theorem red_free {n z : Nat} {M : List (Option LN)} (h : RR n z M) {x : LN} (hx : x.1.length = n) (hd : x.2.length = z) {a : Nat} (ha : a < n) (h1 : at_ (red M x).1 a = true) : M[a]? = some none := by
  have hl : a < M.length := by rw [h.lok.len]; exact ha
  rw [List.getElem?_eq_getElem hl]
  cases ho : M[a] with
  | none => rfl
  | some w =>
    have := red_piv h hx hd (j := a) (w := w) (by rw [List.getElem?_eq_getElem hl, ho])
    rw [this] at h1
    cases h1
/-- The entries of a matrix with a row added. -/
theorem addM_get {M : List (Option LN)} {a i : Nat} {x y : LN} (ha : a < M.length) (h : (addM M a x)[i]? = some (some y)) : (i = a ∧ y = x) ∨ (i ≠ a ∧ ∃ w, M[i]? = some (some w) ∧ y = if at_ w.1 a = true then addL w x else w) := by
  unfold addM at h
  rw [List.getElem?_set] at h
  by_cases e : a = i
  · subst e
    rw [if_pos rfl] at h
    simp only [List.length_map, ha, if_true, Option.some.injEq] at h
    exact .inl ⟨rfl, h.symm⟩
  · rw [if_neg e, List.getElem?_map] at h
    refine .inr ⟨fun q => e q.symm, ?_⟩
    cases hM : M[i]? with
    | none => rw [hM] at h; cases h
    | some o =>
      rw [hM] at h
      cases o with
      | none => cases h
      | some w =>
        simp only [Option.map_some, clrL, Option.some.injEq] at h
        exact ⟨w, rfl, h.symm⟩
theorem at_addL {x y : LN} (h : x.1.length = y.1.length) (k : Nat) : at_ (addL x y).1 k = (at_ x.1 k ^^ at_ y.1 k) := xorV_getD h k
theorem addM_RR {n z : Nat} {M : List (Option LN)} (h : RR n z M) {x : LN} {a : Nat} (hx : x.1.length = n) (hd : x.2.length = z) (ha : a < n) (h1 : at_ x.1 a = true) (h2 : ∀ j, j < a → at_ x.1 j = false) (hp : ∀ j w, M[j]? = some (some w) → at_ x.1 j = false) (hf : M[a]? = some none) : RR n z (addM M a x) := by
  have hl := h.lok.len
  have haM : a < M.length := by omega
  have lens : ∀ (i : Nat) (w : LN), M[i]? = some (some w) → w.1.length = n ∧ w.2.length = z := fun i w hw => h.lok.ok w (mem_of_get? hw)
  refine ⟨⟨by simp [addM, hl], fun y hy => ?_⟩, fun i y hy => ?_, fun i y j hy hj => ?_, fun i j y w hy hw hij => ?_⟩
  · obtain ⟨i, hi⟩ := List.getElem?_of_mem hy
    rcases addM_get haM hi with ⟨_, rfl⟩ | ⟨_, w, hw, rfl⟩
    · exact ⟨hx, hd⟩
    · obtain ⟨w1, w2⟩ := lens i w hw
      split
      · exact addL_len w1 w2 hx hd
      · exact ⟨w1, w2⟩
  · rcases addM_get haM hy with ⟨rfl, rfl⟩ | ⟨hne, w, hw, rfl⟩
    · exact h1
    · obtain ⟨w1, w2⟩ := lens i w hw
      split
      · rw [at_addL (by omega), h.fst i w hw, hp i w hw]; rfl
      · exact h.fst i w hw
  · rcases addM_get haM hy with ⟨rfl, rfl⟩ | ⟨hne, w, hw, rfl⟩
    · exact h2 j hj
    · obtain ⟨w1, w2⟩ := lens i w hw
      split
      · rename_i hq
        have hai : i < a := by
          rcases Nat.lt_trichotomy a i with q | q | q
          · rw [h.lo i w a hw q] at hq; cases hq
          · exact absurd q.symm hne
          · exact q
        rw [at_addL (by omega), h.lo i w j hw hj, h2 j (by omega)]; rfl
      · exact h.lo i w j hw hj
  · rcases addM_get haM hy with ⟨rfl, rfl⟩ | ⟨hne, u, hu, rfl⟩
    · rcases addM_get haM hw with ⟨e, _⟩ | ⟨_, v, hv, _⟩
      · exact absurd e.symm hij
      · exact hp j v hv
    · obtain ⟨w1, w2⟩ := lens i u hu
      rcases addM_get haM hw with ⟨rfl, _⟩ | ⟨_, v, hv, _⟩
      · split
        · rename_i hq
          rw [at_addL (by omega), hq, h1]; rfl
        · rename_i hq
          simpa using hq
      · split
        · rw [at_addL (by omega), h.piv i j u v hu hv hij, hp j v hv]; rfl
        · exact h.piv i j u v hu hv hij
theorem RR_none {n z : Nat} : RR n z (List.replicate n none) := by
  have hn : ∀ i (y : LN), ((List.replicate n none : List (Option LN))[i]? = some (some y)) → False := fun i y h => by
    have := mem_of_get? h
    cases List.eq_of_mem_replicate this
  exact ⟨⟨by simp, fun y hy => by cases List.eq_of_mem_replicate hy⟩, fun i y h => (hn i y h).elim, fun i y j h => (hn i y h).elim, fun i j y w h => (hn i y h).elim⟩
/-- How many rows there are. -/
def cntS : List (Option LN) → Nat
  | [] => 0
  | none :: t => cntS t
  | some _ :: t => cntS t + 1
theorem cntS_set : ∀ {M : List (Option LN)} {i : Nat} {x : LN}, M[i]? = some none → cntS (M.set i (some x)) = cntS M + 1
  | [], i, x, h => by simp at h
  | o :: M, 0, x, h => by
    simp at h
    subst h
    rfl
  | o :: M, i + 1, x, h => by
    simp at h
    have := cntS_set (x := x) h
    cases o with
    | none => simpa [cntS] using this
    | some y => simp [cntS, this]
theorem cntS_clr (a : Nat) (x : LN) : ∀ M : List (Option LN), cntS (M.map (clrL a x)) = cntS M
  | [] => rfl
  | none :: M => by simp only [List.map_cons, clrL, Option.map_none, cntS]; exact cntS_clr a x M
  | some y :: M => by simp only [List.map_cons, clrL, Option.map_some, cntS]; rw [cntS_clr a x M]
theorem cntS_addM {M : List (Option LN)} {a : Nat} {x : LN} (h : M[a]? = some none) : cntS (addM M a x) = cntS M + 1 := by
  rw [addM, cntS_set (by rw [List.getElem?_map, h]; rfl), cntS_clr]
theorem cntS_le : ∀ M : List (Option LN), cntS M ≤ M.length
  | [] => Nat.le_refl _
  | none :: M => by simp only [cntS, List.length_cons]; have := cntS_le M; omega
  | some y :: M => by simp only [cntS, List.length_cons]; have := cntS_le M; omega
theorem cntS_none (n : Nat) : cntS (List.replicate n none) = 0 := by
  induction n with
  | zero => rfl
  | succ n ih => rw [List.replicate_succ]; exact ih
theorem cntS_append : ∀ (A B : List (Option LN)), cntS (A ++ B) = cntS A + cntS B
  | [], B => by simp [cntS]
  | none :: A, B => by simp only [List.cons_append, cntS]; exact cntS_append A B
  | some y :: A, B => by simp only [List.cons_append, cntS, cntS_append A B]; omega
/-- What no row has a say in stays. -/
theorem redT_id {M : List (Option LN)} {x : LN} (h : ∀ j w, M[j]? = some (some w) → at_ x.1 j = false) : ∀ i, redT M x i = x
  | 0 => rfl
  | i + 1 => by
    rw [redT, redT_id h i]
    cases ho : M.getD i none with
    | none => rfl
    | some y =>
      show (if at_ x.1 i = true then addL x y else x) = x
      rw [h i y (getD_some ho)]; rfl
/-- What is to be added and what comes of it: a new row, or none. -/
theorem add_cases {n z : Nat} {M : List (Option LN)} (h : RR n z M) {v : LN} (hx : v.1.length = n) (hd : v.2.length = z) : firstV (red M v).1 = -1 ∨ ∃ a : Nat, firstV (red M v).1 = a ∧ M[a]? = some none ∧ RR n z (addM M a (red M v)) ∧ cntS (addM M a (red M v)) = cntS M + 1 := by
  obtain ⟨l1, l2⟩ := redT_len h.lok hx hd M.length
  rcases first_cases (red M v).1 with e | ⟨a, e, ha, h1, h2⟩
  · exact .inl e
  · have ha : a < n := by
      have l1 : (red M v).1.length = n := l1
      omega
    have hf := red_free h hx hd ha h1
    exact .inr ⟨a, e, hf, addM_RR h l1 l2 ha h1 h2 (fun j w hw => red_piv h hx hd hw) hf, cntS_addM hf⟩
/-! Bytes. -/
def lineB (o : Option LN) : List (BitVec 8) := match o with
  | none => []
  | some y => bytesV y.1 ++ y.2
def rowsB (M : List (Option LN)) : List (BitVec 8) := M.flatMap lineB
def headB (n z k : Nat) : List (BitVec 8) := [BitVec.ofInt 8 ((n : Int) - 1), BitVec.ofInt 8 (z : Int), BitVec.ofInt 8 ((k : Int) / 256), BitVec.ofInt 8 (k : Int)]
def matB (n z k : Nat) (M : List (Option LN)) : List (BitVec 8) := headB n z k ++ rowsB M
theorem rowsB_len {n z : Nat} : ∀ {M : List (Option LN)}, (∀ y, some y ∈ M → y.1.length = n ∧ y.2.length = z) → (rowsB M).length = cntS M * (nb n + z)
  | [], _ => by simp [rowsB, cntS]
  | none :: M, h => by
    have := rowsB_len (M := M) (fun y hy => h y (List.mem_cons_of_mem _ hy))
    simpa [rowsB, cntS, lineB] using this
  | some y :: M, h => by
    have ih := rowsB_len (M := M) (fun y hy => h y (List.mem_cons_of_mem _ hy))
    obtain ⟨h1, h2⟩ := h y (List.mem_cons_self ..)
    have e : (rowsB (some y :: M)).length = (bytesV y.1 ++ y.2).length + (rowsB M).length := by simp [rowsB, lineB]; omega
    rw [e, ih, List.length_append, bytesV_len, h1, h2, cntS, Nat.add_mul]
    omega
/-- The first c rows, and none behind them. -/
def prefM (M : List (Option LN)) (c : Nat) : List (Option LN) := M.take c ++ List.replicate (M.length - c) none
theorem prefM_len (M : List (Option LN)) (c : Nat) (h : c ≤ M.length) : (prefM M c).length = M.length := by simp [prefM]; omega
theorem prefM_get {M : List (Option LN)} {c i : Nat} (hc : c ≤ M.length) (hi : i < M.length) : (prefM M c)[i]? = some (if i < c then M.getD i none else none) := by
  unfold prefM
  by_cases h : i < c
  · rw [List.getElem?_append_left (by simp; omega), if_pos h, List.getElem?_take, if_pos h, List.getD_eq_getElem?_getD, List.getElem?_eq_getElem hi]
    rfl
  · rw [List.getElem?_append_right (by simp; omega), if_neg h, List.getElem?_replicate, if_pos (by simp; omega)]
theorem prefM_zero (M : List (Option LN)) : prefM M 0 = List.replicate M.length none := by simp [prefM]
theorem prefM_all (M : List (Option LN)) : prefM M M.length = M := by simp [prefM]
theorem prefM_skip {M : List (Option LN)} {c d : Nat} (hcd : c ≤ d) (hd : d ≤ M.length) (h : ∀ i, c ≤ i → i < d → M.getD i none = none) : prefM M c = prefM M d := by
  apply List.ext_getElem?
  intro i
  by_cases hi : i < M.length
  · rw [prefM_get (by omega) hi, prefM_get hd hi]
    by_cases h1 : i < c
    · rw [if_pos h1, if_pos (by omega)]
    · rw [if_neg h1]
      by_cases h2 : i < d
      · rw [if_pos h2, h i (by omega) h2]
      · rw [if_neg h2]
  · rw [List.getElem?_eq_none (by rw [prefM_len _ _ (by omega)]; omega), List.getElem?_eq_none (by rw [prefM_len _ _ hd]; omega)]
theorem prefM_some {M : List (Option LN)} {c j : Nat} {w : LN} (hc : c ≤ M.length) (h : (prefM M c)[j]? = some (some w)) : j < c ∧ M[j]? = some (some w) := by
  have hj : j < M.length := by
    rw [← prefM_len M c hc]
    exact (List.getElem?_eq_some_iff.1 h).1
  rw [prefM_get hc hj] at h
  by_cases hjc : j < c
  · rw [if_pos hjc] at h
    exact ⟨hjc, getD_some (Option.some.inj h)⟩
  · rw [if_neg hjc] at h
    cases h
theorem prefM_red {n z : Nat} {M : List (Option LN)} (h : RR n z M) {i : Nat} {y : LN} (hy : M[i]? = some (some y)) : red (prefM M i) y = y ∧ firstV y.1 = i ∧ (prefM M i)[i]? = some none ∧ addM (prefM M i) i y = prefM M (i + 1) ∧ i < n := by
  have hi : i < M.length := (List.getElem?_eq_some_iff.1 hy).1
  have hn : i < n := by rw [← h.lok.len]; exact hi
  obtain ⟨y1, y2⟩ := h.lok.ok y (mem_of_get? hy)
  refine ⟨redT_id (fun j w hw => ?_) _, firstV_is (by omega) (h.fst i y hy) (fun j hj => h.lo i y j hy hj), ?_, ?_, hn⟩
  · obtain ⟨hj, hw⟩ := prefM_some (by omega) hw
    exact h.piv i j y w hy hw (by omega)
  · rw [prefM_get (by omega) hi, if_neg (by omega)]
  · apply List.ext_getElem?
    intro j
    by_cases hj : j < M.length
    · rw [prefM_get (by omega) hj, addM, List.getElem?_set]
      by_cases e : i = j
      · subst e
        rw [if_pos rfl, if_pos (by rw [List.length_map, prefM_len _ _ (by omega)]; exact hi), if_pos (by omega), getD_of hy]
      · rw [if_neg e, List.getElem?_map, prefM_get (by omega) hj]
        by_cases h1 : j < i
        · rw [if_pos h1, if_pos (by omega)]
          cases ho : M.getD j none with
          | none => rfl
          | some w =>
            show some (some (if at_ w.1 i = true then addL w y else w)) = _
            rw [h.piv j i w y (getD_some ho) hy (fun q => e q.symm)]; rfl
        · rw [if_neg h1, if_neg (by omega)]; rfl
    · rw [List.getElem?_eq_none (by simp [addM, prefM_len M i (by omega)]; omega), List.getElem?_eq_none (by rw [prefM_len _ _ (by omega)]; omega)]
/-- The next row, if there is one. -/
theorem next_row (M : List (Option LN)) : ∀ c, c ≤ M.length → (∀ i, c ≤ i → i < M.length → M.getD i none = none) ∨ ∃ i y, c ≤ i ∧ M[i]? = some (some y) ∧ (∀ j, c ≤ j → j < i → M.getD j none = none) := by
  intro c hc
  by_cases h : ∃ i, c ≤ i ∧ i < M.length ∧ M.getD i none ≠ none
  · obtain ⟨m, hm, hmin⟩ := least h
    cases hq : M.getD m none with
    | none => exact absurd hq hm.2.2
    | some y =>
      exact .inr ⟨m, y, hm.1, getD_some hq, fun j hj hjm => by
        cases hj2 : M.getD j none with
        | none => rfl
        | some w => exact absurd ⟨hj, by omega, by rw [hj2]; simp⟩ (hmin j hjm)⟩
  · refine .inl (fun i hi hl => ?_)
    cases hq : M.getD i none with
    | none => rfl
    | some y => exact absurd ⟨i, hi, hl, by rw [hq]; simp⟩ h
theorem rowsB_none {M : List (Option LN)} (h : ∀ o ∈ M, o = none) : rowsB M = [] := by
  unfold rowsB
  rw [List.flatMap_eq_nil_iff]
  intro o ho
  rw [h o ho]; rfl
theorem drop_none {M : List (Option LN)} {c : Nat} (h : ∀ i, c ≤ i → i < M.length → M.getD i none = none) : ∀ o ∈ M.drop c, o = none := by
  intro o ho
  obtain ⟨i, hi, e⟩ := List.getElem_of_mem ho
  rw [List.getElem_drop] at e
  rw [List.length_drop] at hi
  have := h (c + i) (by omega) (by omega)
  rw [List.getD_eq_getElem?_getD, List.getElem?_eq_getElem (by omega), Option.getD_some] at this
  rw [← e, this]
theorem rowsB_next {M : List (Option LN)} {c i : Nat} {y : LN} (hci : c ≤ i) (hy : M[i]? = some (some y)) (h : ∀ j, c ≤ j → j < i → M.getD j none = none) : rowsB (M.drop c) = (bytesV y.1 ++ y.2) ++ rowsB (M.drop (i + 1)) := by
  have hi : i < M.length := (List.getElem?_eq_some_iff.1 hy).1
  have e1 : M.drop c = (M.take i).drop c ++ M.drop i := by
    conv => lhs; rw [← List.take_append_drop i M]
    rw [List.drop_append_of_le_length (by simp; omega)]
  have e2 : M.drop i = some y :: M.drop (i + 1) := by
    rw [List.drop_eq_getElem_cons hi]
    congr 1
    exact (List.getElem?_eq_some_iff.1 hy).2
  have e3 : rowsB ((M.take i).drop c) = [] := rowsB_none (by
    intro o ho
    obtain ⟨j, hj, e⟩ := List.getElem_of_mem ho
    rw [List.getElem_drop, List.getElem_take] at e
    simp at hj
    have := h (c + j) (by omega) (by omega)
    rw [List.getD_eq_getElem?_getD, List.getElem?_eq_getElem (by omega), Option.getD_some] at this
    rw [← e, this])
  have e4 : rowsB (M.drop c) = rowsB ((M.take i).drop c) ++ rowsB (M.drop i) := by rw [e1]; simp only [rowsB, List.flatMap_append]
  rw [e4, e3, e2]
  simp [rowsB, lineB]
end Go.Dp
