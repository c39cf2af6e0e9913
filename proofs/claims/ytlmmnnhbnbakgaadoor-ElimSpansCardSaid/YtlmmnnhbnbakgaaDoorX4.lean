/-
  Matrices, reduced: what is spanned, the order of adding, sums of pieces; plain.
  Conditions: those that stand in each theorem.
-/
import Derived.Test.YtlmmnnhbnbakgaaDoorX1
set_option linter.unusedVariables false
set_option linter.unusedSimpArgs false
namespace Go.Dp
theorem xsB_xor (f g : Nat → Bool) : ∀ n, xsB (fun j => f j ^^ g j) n = (xsB f n ^^ xsB g n)
  | 0 => rfl
  | n + 1 => by
    rw [xsB, xsB, xsB, xsB_xor f g n]
    cases xsB f n <;> cases xsB g n <;> cases f n <;> cases g n <;> rfl
theorem xsB_and (f : Nat → Bool) (c : Bool) : ∀ n, xsB (fun j => f j && c) n = (xsB f n && c)
  | 0 => by simp [xsB]
  | n + 1 => by
    rw [xsB, xsB, xsB_and f c n]
    cases xsB f n <;> cases f n <;> cases c <;> rfl
theorem xsB_congr {f g : Nat → Bool} {n : Nat} (h : ∀ j, j < n → f j = g j) : xsB f n = xsB g n := by
  induction n with
  | zero => rfl
  | succ n ih => rw [xsB, xsB, ih (fun j hj => h j (by omega)), h n (by omega)]
/-- A bit of what is left of w. -/
def rd (n : Nat) (M : List (Option LN)) (w : List Bool) (k : Nat) : Bool := at_ w k ^^ xsB (fun j => at_ w j && rowAt M j k) n
theorem red_rd {n z : Nat} {M : List (Option LN)} (h : RR n z M) {x : LN} (hx : x.1.length = n) (hd : x.2.length = z) (k : Nat) : at_ (red M x).1 k = rd n M x.1 k := by
  rw [red, h.lok.len]
  exact redT_at h hx hd n (Nat.le_refl _) k
theorem rd_xor (n : Nat) (M : List (Option LN)) {w v : List Bool} (hl : w.length = v.length) (k : Nat) : rd n M (xorV w v) k = (rd n M w k ^^ rd n M v k) := by
  have ha : ∀ j, at_ (xorV w v) j = (at_ w j ^^ at_ v j) := fun j => xorV_getD hl j
  unfold rd
  rw [ha k, xsB_congr (g := fun j => (at_ w j && rowAt M j k) ^^ (at_ v j && rowAt M j k)) (fun j _ => by
    rw [ha j]
    cases at_ w j <;> cases at_ v j <;> cases rowAt M j k <;> rfl), xsB_xor]
  cases at_ w k <;> cases at_ v k <;> simp
theorem rowAt_none {M : List (Option LN)} {a : Nat} (h : M[a]? = some none) (k : Nat) : rowAt M a k = false := by
  unfold rowAt
  rw [List.getD_eq_getElem?_getD, h]
  rfl
theorem rowAt_addM {n z : Nat} {M : List (Option LN)} (h : LOk n z M) {a : Nat} {x : LN} (ha : a < M.length) (hx : x.1.length = n) (j k : Nat) : rowAt (addM M a x) j k = if j = a then at_ x.1 k else (rowAt M j k ^^ (rowAt M j a && at_ x.1 k)) := by
  unfold rowAt addM
  rw [List.getD_eq_getElem?_getD, List.getElem?_set]
  by_cases e : j = a
  · subst e
    rw [if_pos rfl, if_pos rfl, List.length_map, if_pos ha]
    rfl
  · rw [if_neg (fun q => e q.symm), if_neg e, List.getElem?_map, List.getD_eq_getElem?_getD]
    cases ho : M[j]? with
    | none => rfl
    | some o =>
      cases o with
      | none => rfl
      | some y =>
        obtain ⟨y1, y2⟩ := h.ok y (mem_of_get? ho)
        show at_ (if at_ y.1 a = true then addL y x else y).1 k = (at_ y.1 k ^^ (at_ y.1 a && at_ x.1 k))
        cases at_ y.1 a
        · simp
        · simpa using at_addL (by omega) k
theorem rd_addM {n z : Nat} {M : List (Option LN)} (h : LOk n z M) {a : Nat} {x : LN} (ha : a < n) (hx : x.1.length = n) (hf : M[a]? = some none) (w : List Bool) (k : Nat) : rd n (addM M a x) w k = (rd n M w k ^^ (rd n M w a && at_ x.1 k)) := by
  have haM : a < M.length := by rw [h.len]; exact ha
  unfold rd
  rw [xsB_congr (g := fun j => ((at_ w j && rowAt M j k) ^^ ((at_ w j && rowAt M j a) && at_ x.1 k)) ^^ (decide (j = a) && (at_ w a && at_ x.1 k))) (fun j _ => by
    rw [rowAt_addM h haM hx]
    by_cases e : j = a
    · subst e
      rw [if_pos rfl, rowAt_none hf, rowAt_none hf]
      cases at_ w j <;> simp
    · rw [if_neg e]
      simp only [e, decide_false, Bool.false_and, Bool.xor_false]
      cases at_ w j <;> simp), xsB_xor, xsB_xor, xsB_and, xsB_and, xsB_one (g := fun j => decide (j = a)) (j := a) ha (fun i _ hi => by simp [hi])]
  simp only [decide_true, Bool.true_and]
  cases at_ w k <;> cases at_ w a <;> cases xsB (fun j => at_ w j && rowAt M j k) n <;> cases xsB (fun j => at_ w j && rowAt M j a) n <;> cases at_ x.1 k <;> rfl
/-- w is spanned. -/
def sp (n : Nat) (M : List (Option LN)) (w : List Bool) : Prop := ∀ k, rd n M w k = false
theorem sp_xor {n : Nat} {M : List (Option LN)} {w v : List Bool} (hl : w.length = v.length) (h1 : sp n M w) (h2 : sp n M v) : sp n M (xorV w v) := fun k => by rw [rd_xor n M hl, h1 k, h2 k]; rfl
/-- A matrix, a row added. -/
def addF (M : List (Option LN)) (v : LN) : List (Option LN) := if firstV (red M v).1 = -1 then M else addM M (firstV (red M v).1).toNat (red M v)
theorem addF_old {M : List (Option LN)} {v : LN} (h : firstV (red M v).1 = -1) : addF M v = M := if_pos h
theorem addF_new {M : List (Option LN)} {v : LN} {a : Nat} (h : firstV (red M v).1 = a) : addF M v = addM M a (red M v) := by
  unfold addF
  rw [if_neg (by omega), h]
  rfl
theorem sp_first {n z : Nat} {M : List (Option LN)} (h : RR n z M) {v : LN} (hx : v.1.length = n) (hd : v.2.length = z) : firstV (red M v).1 = -1 ↔ sp n M v.1 := by
  obtain ⟨l1, l2⟩ := redT_len h.lok hx hd M.length
  have l1 : (red M v).1.length = n := l1
  constructor
  · intro e k
    rw [← red_rd h hx hd k]
    by_cases hk : k < n
    · rcases hb : at_ (red M v).1 k with _ | _
      · rfl
      · obtain ⟨m, hm, hmin⟩ := least (p := fun i => at_ (red M v).1 i = true) ⟨k, hb⟩
        have hmn : m < (red M v).1.length := by
          by_cases q : m < (red M v).1.length
          · exact q
          · have : at_ (red M v).1 m = false := getD_out (by omega)
            rw [this] at hm; cases hm
        have := firstV_is (l := (red M v).1) hmn hm (fun j hj => by
          have := hmin j hj
          simpa using this)
        omega
    · exact getD_out (by omega)
  · intro e
    exact firstV_none (fun j _ => by rw [red_rd h hx hd j]; exact e j)
theorem addF_RR {n z : Nat} {M : List (Option LN)} (h : RR n z M) {v : LN} (hx : v.1.length = n) (hd : v.2.length = z) : RR n z (addF M v) := by
  rcases add_cases h hx hd with e | ⟨a, e, _, h1, _⟩
  · rw [addF_old e]; exact h
  · rw [addF_new e]; exact h1
theorem sp_addF {n z : Nat} {M : List (Option LN)} (h : RR n z M) {v : LN} (hx : v.1.length = n) (hd : v.2.length = z) {w : List Bool} (hw : w.length = n) : sp n (addF M v) w ↔ sp n M w ∨ sp n M (xorV w v.1) := by
  obtain ⟨l1, l2⟩ := redT_len h.lok hx hd M.length
  have l1 : (red M v).1.length = n := l1
  have hl : w.length = v.1.length := by omega
  rcases add_cases h hx hd with e | ⟨a, e, hf, _, _⟩
  · rw [addF_old e]
    have hv := (sp_first h hx hd).1 e
    constructor
    · exact .inl
    · rintro (q | q)
      · exact q
      · intro k
        have := q k
        rw [rd_xor n M hl, hv k] at this
        simpa using this
  · rw [addF_new e]
    have ha : a < n := by
      have := (List.getElem?_eq_some_iff.1 hf).1
      rw [h.lok.len] at this
      exact this
    have hxa : at_ (red M v).1 a = true := by
      rcases first_cases (red M v).1 with q | ⟨a', q, _, q2, _⟩
      · omega
      · have : a = a' := by omega
        subst this; exact q2
    have hr : ∀ k, rd n (addM M a (red M v)) w k = (rd n M w k ^^ (rd n M w a && rd n M v.1 k)) := fun k => by rw [rd_addM h.lok ha l1 hf, red_rd h hx hd]
    rw [red_rd h hx hd] at hxa
    constructor
    · intro q
      cases hb : rd n M w a
      · refine .inl (fun k => ?_)
        have := q k
        rw [hr, hb] at this
        simpa using this
      · refine .inr (fun k => ?_)
        have := q k
        rw [hr, hb] at this
        rw [rd_xor n M hl]
        simpa using this
    · rintro (q | q)
      · intro k
        rw [hr, q k, q a]; rfl
      · have hq : ∀ k, rd n M w k = rd n M v.1 k := fun k => by
          have := q k
          rw [rd_xor n M hl] at this
          simpa using this
        intro k
        rw [hr, hq a, hxa, hq k]
        simp
theorem rd_zero (n : Nat) (M : List (Option LN)) {w : List Bool} (h : ∀ k, at_ w k = false) (k : Nat) : rd n M w k = false := by
  unfold rd
  rw [h k, xsB_zero (fun i _ => by rw [h i]; rfl)]; rfl
theorem sp_self {n z : Nat} {M : List (Option LN)} (h : RR n z M) {v : LN} (hx : v.1.length = n) (hd : v.2.length = z) : sp n (addF M v) v.1 := by
  refine (sp_addF h hx hd hx).2 (.inr (fun k => rd_zero n M (fun j => ?_) k))
  rw [show at_ (xorV v.1 v.1) j = (at_ v.1 j ^^ at_ v.1 j) from xorV_getD rfl j]
  simp
/-! Two reduced matrices of the same span are the same. -/
theorem sp_row {n z : Nat} {A : List (Option LN)} (h : RR n z A) {i : Nat} {y : LN} (hy : A[i]? = some (some y)) : sp n A y.1 := fun k => by
  have hi : i < n := by rw [← h.lok.len]; exact (List.getElem?_eq_some_iff.1 hy).1
  unfold rd
  rw [xsB_one hi (fun j hj hne => ?_)]
  · have hr : rowAt A i k = at_ y.1 k := by unfold rowAt; rw [getD_of hy]
    rw [hr, h.fst i y hy]
    simp
  · unfold rowAt
    cases ho : A.getD j none with
    | none => simp
    | some w =>
      show (at_ y.1 j && at_ w.1 k) = false
      rw [h.piv i j y w hy (getD_some ho) (fun q => hne q.symm)]; rfl
theorem sp_pivot {n z : Nat} {A : List (Option LN)} (h : RR n z A) {w : List Bool} (hw : sp n A w) {i : Nat} (hi : i < n) (h1 : at_ w i = true) (h2 : ∀ j, j < i → at_ w j = false) : ∃ y, A[i]? = some (some y) := by
  have := hw i
  unfold rd at this
  rw [xsB_one hi (fun j hj hne => ?_), h1] at this
  · simp only [Bool.true_and, Bool.true_xor, Bool.not_eq_false'] at this
    unfold rowAt at this
    cases ho : A.getD i none with
    | none => rw [ho] at this; simp at this
    | some y => exact ⟨y, getD_some ho⟩
  · by_cases hji : j < i
    · rw [h2 j hji]; rfl
    · unfold rowAt
      cases ho : A.getD j none with
      | none => simp
      | some y =>
        show (at_ w j && at_ y.1 i) = false
        rw [h.lo j y i (getD_some ho) (by omega), Bool.and_false]
theorem sp_is {n z : Nat} {A : List (Option LN)} (h : RR n z A) {w : List Bool} (hw : sp n A w) {i : Nat} (hi : i < n) (h1 : at_ w i = true) {y : LN} (hy : A[i]? = some (some y)) (h2 : ∀ j u, A[j]? = some (some u) → j ≠ i → at_ w j = false) (k : Nat) : at_ w k = at_ y.1 k := by
  have := hw k
  unfold rd at this
  rw [xsB_one hi (fun j hj hne => ?_), h1] at this
  · have hr : rowAt A i k = at_ y.1 k := by unfold rowAt; rw [getD_of hy]
    rw [hr] at this
    simpa using this
  · unfold rowAt
    cases ho : A.getD j none with
    | none => simp
    | some u =>
      show (at_ w j && at_ u.1 k) = false
      rw [h2 j u (getD_some ho) hne]; rfl
theorem at_ext {a b : List Bool} (hl : a.length = b.length) (h : ∀ k, at_ a k = at_ b k) : a = b := by
  apply List.ext_getElem hl
  intro i h1 h2
  have := h i
  unfold at_ at this
  rw [List.getD_eq_getElem?_getD, List.getD_eq_getElem?_getD, List.getElem?_eq_getElem h1, List.getElem?_eq_getElem h2] at this
  exact this
/-- Each row's data is told by its bits. -/
def DOk (D : List Bool → List (BitVec 8)) (M : List (Option LN)) : Prop := ∀ y, some y ∈ M → y.2 = D y.1
theorem row_same {n z : Nat} {A B : List (Option LN)} (hA : RR n z A) (hB : RR n z B) (h : ∀ w, w.length = n → (sp n A w → sp n B w)) (h' : ∀ w, w.length = n → (sp n B w → sp n A w)) {i : Nat} {y : LN} (hy : A[i]? = some (some y)) : ∃ u, B[i]? = some (some u) ∧ y.1 = u.1 := by
  have hi : i < n := by rw [← hA.lok.len]; exact (List.getElem?_eq_some_iff.1 hy).1
  have hyl := (hA.lok.ok y (mem_of_get? hy)).1
  have hs := h y.1 hyl (sp_row hA hy)
  obtain ⟨u, hu⟩ := sp_pivot hB hs hi (hA.fst i y hy) (fun j hj => hA.lo i y j hy hj)
  have hul := (hB.lok.ok u (mem_of_get? hu)).1
  refine ⟨u, hu, at_ext (by omega) (fun k => sp_is hB hs hi (hA.fst i y hy) hu (fun j v hv hne => ?_) k)⟩
  have hvl := (hB.lok.ok v (mem_of_get? hv)).1
  have hj : j < n := by rw [← hB.lok.len]; exact (List.getElem?_eq_some_iff.1 hv).1
  obtain ⟨v', hv'⟩ := sp_pivot hA (h' v.1 hvl (sp_row hB hv)) hj (hB.fst j v hv) (fun k hk => hB.lo j v k hv hk)
  exact hA.piv i j y v' hy hv' (fun q => hne q.symm)
theorem mat_same {n z : Nat} {D : List Bool → List (BitVec 8)} {A B : List (Option LN)} (hA : RR n z A) (hB : RR n z B) (dA : DOk D A) (dB : DOk D B) (h : ∀ w, w.length = n → (sp n A w ↔ sp n B w)) : A = B := by
  apply List.ext_getElem?
  intro i
  have key : ∀ {P Q : List (Option LN)}, RR n z P → RR n z Q → DOk D P → DOk D Q → (∀ w, w.length = n → (sp n P w → sp n Q w)) → (∀ w, w.length = n → (sp n Q w → sp n P w)) → ∀ y, P[i]? = some (some y) → Q[i]? = some (some y) := by
    intro P Q hP hQ dP dQ h1 h2 y hy
    obtain ⟨u, hu, e⟩ := row_same hP hQ h1 h2 hy
    have e2 : y = u := Prod.ext e (by rw [dP y (mem_of_get? hy), dQ u (mem_of_get? hu), e])
    rw [hu, e2]
  by_cases hi : i < n
  · have lA : i < A.length := by rw [hA.lok.len]; exact hi
    have lB : i < B.length := by rw [hB.lok.len]; exact hi
    cases ho : A[i]? with
    | none => rw [List.getElem?_eq_getElem lA] at ho; cases ho
    | some o =>
      cases o with
      | some y => exact (key hA hB dA dB (fun w hw => (h w hw).1) (fun w hw => (h w hw).2) y ho).symm
      | none =>
        cases hq : B[i]? with
        | none => rw [List.getElem?_eq_getElem lB] at hq; cases hq
        | some q =>
          cases q with
          | none => rfl
          | some u =>
            have := key hB hA dB dA (fun w hw => (h w hw).2) (fun w hw => (h w hw).1) u hq
            rw [ho] at this
            cases this
  · rw [List.getElem?_eq_none (by rw [hA.lok.len]; omega), List.getElem?_eq_none (by rw [hB.lok.len]; omega)]
/-! Rows added one by one. -/
def foldA (n : Nat) (D : List Bool → List (BitVec 8)) (rs : List (List Bool)) : List (Option LN) := rs.foldl (fun M v => addF M (v, D v)) (List.replicate n none)
theorem foldA_nil (n : Nat) (D : List Bool → List (BitVec 8)) : foldA n D [] = List.replicate n none := rfl
theorem foldA_snoc (n : Nat) (D : List Bool → List (BitVec 8)) (rs : List (List Bool)) (v : List Bool) : foldA n D (rs ++ [v]) = addF (foldA n D rs) (v, D v) := by simp [foldA]
theorem rev_ind {α : Type} {P : List α → Prop} (h0 : P []) (hs : ∀ l a, P l → P (l ++ [a])) (l : List α) : P l := by
  have : ∀ m : List α, P m.reverse := by
    intro m
    induction m with
    | nil => exact h0
    | cons a m ih => rw [List.reverse_cons]; exact hs _ _ ih
  simpa using this l.reverse
theorem foldA_RR {n z : Nat} {D : List Bool → List (BitVec 8)} (hD : ∀ v, v.length = n → (D v).length = z) : ∀ rs : List (List Bool), (∀ v ∈ rs, v.length = n) → RR n z (foldA n D rs) :=
  rev_ind (fun _ => RR_none) (fun l a ih h => by
    rw [foldA_snoc]
    exact addF_RR (ih (fun v hv => h v (by simp [hv]))) (h a (by simp)) (hD a (h a (by simp))))
theorem foldA_sub {n z : Nat} {D : List Bool → List (BitVec 8)} (hD : ∀ v, v.length = n → (D v).length = z) {T : List Bool → Prop} (h0 : T (List.replicate n false)) (hx : ∀ a b, a.length = n → b.length = n → T a → T b → T (xorV a b)) : ∀ rs : List (List Bool), (∀ v ∈ rs, v.length = n ∧ T v) → ∀ w, w.length = n → sp n (foldA n D rs) w → T w :=
  rev_ind (fun _ w hw hs => by
    have : w = List.replicate n false := at_ext (by simp [hw]) (fun k => by
      have h1 := hs k
      unfold rd at h1
      rw [xsB_zero (fun j hj => ?_), Bool.xor_false] at h1
      · rw [h1]
        unfold at_
        rw [List.getD_eq_getElem?_getD, List.getElem?_replicate]
        split <;> rfl
      · rw [rowAt_none (by rw [foldA_nil, List.getElem?_replicate, if_pos hj]), Bool.and_false])
    rw [this]; exact h0)
  (fun l a ih h w hw hs => by
    rw [foldA_snoc] at hs
    obtain ⟨ha, hTa⟩ := h a (by simp)
    have hl : ∀ v ∈ l, v.length = n ∧ T v := fun v hv => h v (by simp [hv])
    rcases (sp_addF (foldA_RR hD l (fun v hv => (hl v hv).1)) ha (hD a ha) hw).1 hs with q | q
    · exact ih hl w hw q
    · have hwl : (xorV w a).length = n := by rw [xorV_len (by omega)]; exact hw
      have h1 := hx _ _ hwl ha (ih hl _ hwl q) hTa
      have e : xorV (xorV w a) a = w := at_ext (by rw [xorV_len (by omega), hwl, hw]) (fun k => by
        have e1 : at_ (xorV (xorV w a) a) k = (at_ (xorV w a) k ^^ at_ a k) := xorV_getD (by omega) k
        have e2 : at_ (xorV w a) k = (at_ w k ^^ at_ a k) := xorV_getD (by omega) k
        rw [e1, e2]; simp)
      rw [e] at h1
      exact h1)
theorem foldA_has {n z : Nat} {D : List Bool → List (BitVec 8)} (hD : ∀ v, v.length = n → (D v).length = z) : ∀ rs : List (List Bool), (∀ v ∈ rs, v.length = n) → ∀ v ∈ rs, sp n (foldA n D rs) v :=
  rev_ind (fun _ v hv => by cases hv) (fun l a ih h v hv => by
    rw [foldA_snoc]
    have hl : ∀ v ∈ l, v.length = n := fun v hv => h v (by simp [hv])
    have ha := h a (by simp)
    have hR := foldA_RR hD l hl
    rcases List.mem_append.1 hv with q | q
    · exact (sp_addF hR ha (hD a ha) (hl v q)).2 (.inl (ih hl v q))
    · obtain rfl : v = a := by simpa using q
      exact sp_self hR ha (hD v ha))
theorem sp_zero (n : Nat) (M : List (Option LN)) : sp n M (List.replicate n false) := fun k => rd_zero n M (fun j => by
  unfold at_
  rw [List.getD_eq_getElem?_getD, List.getElem?_replicate]
  split <;> rfl) k
/-- Data that adds up as the bits do. -/
def Lin (n z : Nat) (D : List Bool → List (BitVec 8)) : Prop := (∀ v, v.length = n → (D v).length = z) ∧ ∀ a b, a.length = n → b.length = n → D (xorV a b) = xorL (D a) (D b)
theorem redT_D {n z : Nat} {D : List Bool → List (BitVec 8)} (hD : Lin n z D) {M : List (Option LN)} (h : LOk n z M) (hM : DOk D M) {x : LN} (hx : x.1.length = n) (hxd : x.2 = D x.1) : ∀ i, (redT M x i).2 = D (redT M x i).1
  | 0 => hxd
  | i + 1 => by
    have ih := redT_D hD h hM hx hxd i
    have hd : x.2.length = z := by rw [hxd]; exact hD.1 _ hx
    obtain ⟨l1, l2⟩ := redT_len h hx hd i
    rw [redT]
    cases ho : M.getD i none with
    | none => exact ih
    | some y =>
      have hy := mem_of_get? (getD_some ho)
      show (if at_ (redT M x i).1 i = true then addL (redT M x i) y else redT M x i).2 = D (if at_ (redT M x i).1 i = true then addL (redT M x i) y else redT M x i).1
      split
      · show xorL (redT M x i).2 y.2 = D (xorV (redT M x i).1 y.1)
        rw [hD.2 _ _ l1 (h.ok y hy).1, ih, hM y hy]
      · exact ih
theorem addF_D {n z : Nat} {D : List Bool → List (BitVec 8)} (hD : Lin n z D) {M : List (Option LN)} (h : RR n z M) (hM : DOk D M) {v : List Bool} (hv : v.length = n) : DOk D (addF M (v, D v)) := by
  rcases add_cases h (v := (v, D v)) hv (hD.1 v hv) with e | ⟨a, e, hf, _, _⟩
  · rw [addF_old e]; exact hM
  · rw [addF_new e]
    obtain ⟨l1, l2⟩ := redT_len h.lok (x := (v, D v)) hv (hD.1 v hv) M.length
    have l1 : (red M (v, D v)).1.length = n := l1
    have hx : (red M (v, D v)).2 = D (red M (v, D v)).1 := redT_D hD h.lok hM (x := (v, D v)) hv rfl M.length
    intro y hy
    obtain ⟨i, hi⟩ := List.getElem?_of_mem hy
    rcases addM_get (List.getElem?_eq_some_iff.1 hf).1 hi with ⟨_, rfl⟩ | ⟨_, w, hw, rfl⟩
    · exact hx
    · have hwm := mem_of_get? hw
      split
      · show xorL w.2 (red M (v, D v)).2 = D (xorV w.1 (red M (v, D v)).1)
        rw [hD.2 _ _ (h.lok.ok w hwm).1 l1, hM w hwm, hx]
      · exact hM w hwm
theorem foldA_D {n z : Nat} {D : List Bool → List (BitVec 8)} (hD : Lin n z D) : ∀ rs : List (List Bool), (∀ v ∈ rs, v.length = n) → DOk D (foldA n D rs) :=
  rev_ind (fun _ y hy => by cases List.eq_of_mem_replicate hy) (fun l a ih h => by
    rw [foldA_snoc]
    have hl : ∀ v ∈ l, v.length = n := fun v hv => h v (by simp [hv])
    exact addF_D hD (foldA_RR hD.1 l hl) (ih hl) (h a (by simp)))
/-- The order of adding does not matter. -/
theorem foldA_same {n z : Nat} {D : List Bool → List (BitVec 8)} (hD : Lin n z D) {rs ts : List (List Bool)} (hr : ∀ v ∈ rs, v.length = n) (h1 : ∀ v ∈ rs, v ∈ ts) (h2 : ∀ v ∈ ts, v ∈ rs) : foldA n D rs = foldA n D ts := by
  have ht : ∀ v ∈ ts, v.length = n := fun v hv => hr v (h2 v hv)
  refine mat_same (foldA_RR hD.1 rs hr) (foldA_RR hD.1 ts ht) (foldA_D hD rs hr) (foldA_D hD ts ht) (fun w hw => ⟨?_, ?_⟩)
  · exact foldA_sub hD.1 (sp_zero n _) (fun a b ha hb h3 h4 => sp_xor (by omega) h3 h4) rs (fun v hv => ⟨hr v hv, foldA_has hD.1 ts ht v (h1 v hv)⟩) w hw
  · exact foldA_sub hD.1 (sp_zero n _) (fun a b ha hb h3 h4 => sp_xor (by omega) h3 h4) ts (fun v hv => ⟨ht v hv, foldA_has hD.1 rs hr v (h2 v hv)⟩) w hw
/-- A full matrix: each row is its place alone. -/
theorem full_some : ∀ {M : List (Option LN)}, cntS M = M.length → ∀ i, i < M.length → ∃ y, M[i]? = some (some y)
  | [], _, i, hi => by cases hi
  | none :: M, h, i, hi => by
    have := cntS_le M
    simp only [cntS, List.length_cons] at h
    omega
  | some y :: M, h, 0, hi => ⟨y, rfl⟩
  | some y :: M, h, i + 1, hi => by
    simp only [cntS, List.length_cons] at h
    have hi : i + 1 < M.length + 1 := hi
    obtain ⟨u, hu⟩ := full_some (M := M) (by omega) i (by omega)
    exact ⟨u, by simpa using hu⟩
theorem full_unit {n z : Nat} {M : List (Option LN)} (h : RR n z M) (hc : cntS M = n) {i : Nat} {y : LN} (hy : M[i]? = some (some y)) (k : Nat) : at_ y.1 k = decide (k = i) := by
  have hi : i < n := by rw [← h.lok.len]; exact (List.getElem?_eq_some_iff.1 hy).1
  by_cases e : k = i
  · subst e
    rw [h.fst k y hy]; simp
  · by_cases hk : k < n
    · obtain ⟨w, hw⟩ := full_some (M := M) (by rw [hc, h.lok.len]) k (by rw [h.lok.len]; exact hk)
      rw [h.piv i k y w hy hw (fun q => e q.symm)]; simp [e]
    · have : at_ y.1 k = false := getD_out (by have := (h.lok.ok y (mem_of_get? hy)).1; omega)
      rw [this]; simp [e]
end Go.Dp
