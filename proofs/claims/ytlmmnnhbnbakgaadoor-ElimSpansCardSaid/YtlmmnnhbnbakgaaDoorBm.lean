/-
  More operations, as they were needed: tests whose outcome is told, results that stand in a box.
  Conditions: none; it holds over whatever program, the types' rows given as instances.
-/
import Derived.Test.YtlmmnnhbnbakgaaDoorBl
set_option linter.unusedVariables false
namespace Go.Dp
open Go.RowKit
section
variable {P : Program} {ops : Array Oper} {k : Kon} {rest : List Oper} {n : Nat} {e : Ev} {W : World} {H : List Hl}
variable {C : Value → List Hl → Prop} {ty : TypeId} {t t' : TypeId} {x y : Operand} {kd kd' : IntKind} {p q : Int} {m m' : Nat} {u v : BitVec m}
theorem o1_streq_r {a b : List (BitVec 8)} {r : Bool} (hx : opd e x = some (.string (str a))) (hy : opd e y = some (.string (str b))) (hr : decide (a = b) = r) (h : C (.bool r) H) : O1 P (.binOp .eql t x y t') ty n e H C := o1_streq_d hx hy (hr ▸ h)
theorem o1_strneq_r {a b : List (BitVec 8)} {r : Bool} (hx : opd e x = some (.string (str a))) (hy : opd e y = some (.string (str b))) (hr : decide (a ≠ b) = r) (h : C (.bool r) H) : O1 P (.binOp .neq t x y t') ty n e H C := o1_strneq_d hx hy (hr ▸ h)
theorem o1_eqb_r {a b r : Bool} [TBool P t] (hx : opd e x = some (.bool a)) (hy : opd e y = some (.bool b)) (hr : (a == b) = r) (h : C (.bool r) H) : O1 P (.binOp .eql t x y t') ty n e H C := o1_eqb hx hy (hr ▸ h)
theorem o1_neqb_r {a b r : Bool} [TBool P t] (hx : opd e x = some (.bool a)) (hy : opd e y = some (.bool b)) (hr : (!(a == b)) = r) (h : C (.bool r) H) : O1 P (.binOp .neq t x y t') ty n e H C := o1_neqb hx hy (hr ▸ h)
/-- A result that stands in a box of several cells, and one in a slot. -/
theorem rt_cell_tmp {X : Type} {fn : Func} {good : X → Prop} {val : X → Value} {res : X → List Hl} {t t' : Nat} {T T' : TypeId} {z : Value} {s by_ b : Nat} {cs : List Value} {H' : List Hl} {v' : Value} [TAgg P T] [TInf P T z s by_] (r : X) (hres : fn.results = #[.cell t T, .tmp t'])
    (hl : look e t = some (.pointer (some ⟨b, 0, none⟩))) [sb : SBox H b T' cs H'] (hs : cs.length = s) (hl' : look e t' = some v') (hv : .tuple #[.agg cs.toArray, v'] = val r) (hg : good r) (hE : Ent H (res r)) :
    Rt P (.fn fn fun x w' => ∃ r, good r ∧ x = .returned (val r) ∧ Ext W w' ∧ sat w' (stars (res r))) n e W H :=
  rt_fn (v := .tuple #[.agg cs.toArray, v']) (fun a w ho => by
    have hl2 := run_loadCells_list (P := P) w ⟨b, 0, none⟩ cs (fun j v hj => by
      have hc := ho.sat.cell sb.s j
      rw [hj] at hc
      by_cases hj0 : j = 0
      · subst hj0; simpa [Addr.add] using hc
      · simpa [Addr.add, hj0] using hc)
    rw [hs] at hl2
    simp [results, hres, ho.ev.get t _ hl, ho.ev.get t' v' hl', loadVar, run_isAgg_agg, run_sizeOf, asAddr, hl2]) r hg hv hE
theorem rt_cell {X : Type} {fn : Func} {good : X → Prop} {val : X → Value} {res : X → List Hl} {t : Nat} {T T' : TypeId} {z : Value} {s by_ b : Nat} {cs : List Value} {H' : List Hl} [TAgg P T] [TInf P T z s by_] (r : X) (hres : fn.results = #[.cell t T])
    (hl : look e t = some (.pointer (some ⟨b, 0, none⟩))) [sb : SBox H b T' cs H'] (hs : cs.length = s) (hv : .agg cs.toArray = val r) (hg : good r) (hE : Ent H (res r)) :
    Rt P (.fn fn fun x w' => ∃ r, good r ∧ x = .returned (val r) ∧ Ext W w' ∧ sat w' (stars (res r))) n e W H :=
  rt_fn (v := .agg cs.toArray) (fun a w ho => by
    have hl2 := run_loadCells_list (P := P) w ⟨b, 0, none⟩ cs (fun j v hj => by
      have hc := ho.sat.cell sb.s j
      rw [hj] at hc
      by_cases hj0 : j = 0
      · subst hj0; simpa [Addr.add] using hc
      · simpa [Addr.add, hj0] using hc)
    rw [hs] at hl2
    simp [results, hres, ho.ev.get t _ hl, loadVar, run_isAgg_agg, run_sizeOf, asAddr, hl2]) r hg hv hE
/-! Slices of what is read. -/
theorem cut_all {α : Type} (xs : List α) (m : Nat) (h : m = xs.length) (lo : Nat) : xs.drop lo = (xs.take m).drop lo := by rw [h, List.take_length]
variable {α : Type} {A : Hp → Prop} {enc : α → Value} {ad : Option Addr} {c l lo hi mx : Nat} {xs : List α} {T E : TypeId} {z : Value} {by_ : Nat}
theorem o1_cut_lh {ol oh : Operand} [ht : TSl P T E] [hi' : TInf P E z 1 by_] (hx : opd e x = some (.slice ad l c)) (hl : opd e ol = some (.int kd p)) (hh : opd e oh = some (.int kd' q)) (hr : Rs A enc ad c xs) (h0 : l = xs.length) (hp : 0 ≤ p ∧ p ≤ q) (h2 : q ≤ xs.length)
    (h : ∀ ad2 c2 l2, l2 = (xs.take q.toNat).drop p.toNat → l2.length = q.toNat - p.toNat → Rs A enc ad2 c2 l2 → C (.slice ad2 l2.length c2) H) : O1 P (.slice T x (some ol) (some oh) none) ty n e H C := by
  have hle := hr.le
  have hc := hr.cut p.toNat q.toNat c (by omega) (by omega) (by omega) (Nat.le_refl _)
  have hlen : ((xs.take q.toNat).drop p.toNat).length = q.toNat - p.toNat := by simp; omega
  have h1 := h _ _ _ rfl hlen hc
  rw [hlen] at h1
  exact o1_slice_lh (lo := p.toNat) (hi := q.toNat) hx (by rw [hl]; congr 2; omega) (by rw [hh]; congr 2; omega) (by omega) (by omega) (by simpa using h1)
theorem o1_cut_h {oh : Operand} [ht : TSl P T E] [hi' : TInf P E z 1 by_] (hx : opd e x = some (.slice ad l c)) (hh : opd e oh = some (.int kd' q)) (hr : Rs A enc ad c xs) (h0 : l = xs.length) (hp : 0 ≤ q) (h2 : q ≤ xs.length)
    (h : ∀ ad2 c2 l2, l2 = xs.take q.toNat → l2.length = q.toNat → Rs A enc ad2 c2 l2 → C (.slice ad2 l2.length c2) H) : O1 P (.slice T x none (some oh) none) ty n e H C := by
  have hle := hr.le
  have hc := hr.cut 0 q.toNat c (by omega) (by omega) (by omega) (Nat.le_refl _)
  have hlen : (xs.take q.toNat).length = q.toNat := by simp; omega
  have h1 := h _ _ _ rfl hlen hc
  rw [hlen] at h1
  exact o1_slice_h (hi := q.toNat) hx (by rw [hh]; congr 2; omega) (by omega) (by simpa using h1)
theorem o1_cut_l {ol : Operand} [ht : TSl P T E] [hi' : TInf P E z 1 by_] (hx : opd e x = some (.slice ad l c)) (hl : opd e ol = some (.int kd p)) (hr : Rs A enc ad c xs) (h0 : l = xs.length) (hp : 0 ≤ p) (h2 : p ≤ xs.length)
    (h : ∀ ad2 c2 l2, l2 = xs.drop p.toNat → l2.length = xs.length - p.toNat → Rs A enc ad2 c2 l2 → C (.slice ad2 l2.length c2) H) : O1 P (.slice T x (some ol) none none) ty n e H C := by
  have hle := hr.le
  have hc := hr.cut p.toNat xs.length c (by omega) (by omega) (by omega) (Nat.le_refl _)
  rw [List.take_length] at hc
  have hlen : (xs.drop p.toNat).length = xs.length - p.toNat := by simp
  have h1 := h _ _ _ rfl hlen hc
  rw [hlen] at h1
  subst h0
  exact o1_slice_l (lo := p.toNat) hx (by rw [hl]; congr 2; omega) (by omega) (by simpa using h1)
theorem o1_cut_hm {oh om : Operand} [ht : TSl P T E] [hi' : TInf P E z 1 by_] (hx : opd e x = some (.slice ad l c)) (hh : opd e oh = some (.int kd p)) (hm : opd e om = some (.int kd' q)) (hr : Rs A enc ad c xs) (h0 : l = xs.length) (hp : 0 ≤ p ∧ p ≤ q) (h2 : p ≤ xs.length) (h3 : q ≤ c)
    (h : ∀ ad2 c2 l2, l2 = xs.take p.toNat → l2.length = p.toNat → c2 = q.toNat → Rs A enc ad2 c2 l2 → C (.slice ad2 l2.length c2) H) : O1 P (.slice T x none (some oh) (some om)) ty n e H C := by
  have hle := hr.le
  have hc := hr.cut 0 p.toNat q.toNat (by omega) (by omega) (by omega) (by omega)
  have hlen : (xs.take p.toNat).length = p.toNat := by simp; omega
  have h1 := h _ _ _ rfl hlen rfl hc
  rw [hlen] at h1
  exact o1_slice_hm (hi := p.toNat) (mx := q.toNat) hx (by rw [hh]; congr 2; omega) (by rw [hm]; congr 2; omega) (by omega) (by omega) (by simpa using h1)
/-- An element of what is read: its address. -/
theorem o1_at {ol : Operand} [ht : TSl P T E] [hi' : TInf P E z 1 by_] (hx : opd e x = some (.slice ad l c)) (hy : opd e y = some (.int kd p)) (hr : Rs A enc ad c xs) (h0 : l = xs.length) (hp : 0 ≤ p) (hlt : p.toNat < xs.length)
    (h : ∀ a, Cl A a (enc xs[p.toNat]) → C (.pointer (some a)) H) : O1 P (.indexAddr T x y) ty n e H C := by
  subst h0
  exact o1_indexAddr_rd hx hy hr p.toNat (by omega) hlt h
theorem rt_ent {H2 : List Hl} (hE : ∀ h, stars H h → stars H2 h) (h : Rt P k n e W H2) : Rt P k n e W H := ⟨fun a w ho => h.out a w ⟨ho.ev, ho.ext, ho.sat.mono hE⟩⟩
theorem Sel.back {H H' : List Hl} {x : Hl} (s : Sel H x H') : ∀ h, stars (x :: H') h → stars H h := by
  induction s with
  | here => exact fun _ h => h
  | there s ih => exact fun h hs => sep_mono (sep_assoc (sep_mono (sep_assoc' hs) (fun _ => sep_comm) (fun _ a => a))) (fun _ a => a) ih
theorem box_of_row {b : Nat} {T : TypeId} {cs : List Value} {h : Hp} (hr : Hl.den (.row T 1 (.slice (some ⟨b, 0, none⟩) cs.length cs.length) cs.length cs) h) : Hl.den (.box b T cs) h := by
  obtain ⟨_, ⟨hv, _⟩ | ⟨g, cap, cur, hv, hh, h1, h2, h3, h4⟩⟩ := hr
  · cases hv
  · injection hv with hv1 hv2 hv3
    injection hv1 with hv1
    injection hv1 with hv1
    subst hv1 hv3
    have : cur = cs.toArray := by
      apply Array.ext'
      rw [← h4, List.take_of_length_le (by simp; omega)]
    show h = one b (.cells cs.toArray T (0, 0))
    rw [hh, this]
/-- An append to a literal, which is full. -/
theorem ox_append_box {ad' : Option Addr} {c' b m0 : Nat} {ys : List α} {H' : List Hl} {m a0 : Nat} [TSl P T E] [TInf P E z 1 by_] (hx : opd e x = some (.slice (some ⟨b, 0, none⟩) a0 m0)) (hy : opd e y = some (.slice ad' m c'))
    [s : SBox H b E (xs.map enc) H'] (ha : a0 = xs.length) (h0 : m0 = xs.length) (hr : RsH H enc ad' c' ys) (hm : m = ys.length) (hz : z.oneCell' = true) (henc : ∀ x, (enc x).oneCell' = true) (hb : (a0 + m) * by_ ≤ 140737488355328) (hb2 : a0 + m ≤ 9223372036854775807)
    (h : ∀ ad2 c2, C (.slice ad2 (a0 + m) c2) (.row E 1 (.slice ad2 (a0 + m) c2) (a0 + m) ((xs ++ ys).map enc) :: H')) :
    O1 P (.call ⟨.builtin .append, #[x, y], #[T, T]⟩) ty n e H C := by
  subst ha h0
  have hE := ent_row_of_box (m := xs.length) (cp := xs.length) s.s (by simp) (Nat.le_refl _) (by omega)
  rw [show (xs.map enc).take xs.length = xs.map enc from by rw [List.take_of_length_le (by simp)]] at hE
  refine O1.ent hE (ox_append hx hy (fun _ => ?_) hm hz henc hb hb2 h)
  have back : ∀ w, sat w (stars (.row E 1 (.slice (some ⟨b, 0, none⟩) xs.length xs.length) xs.length (xs.map enc) :: H')) → sat w (stars H) := fun w hw => hw.mono fun h hs => s.s.back h (sep_mono hs (fun h' hr => box_of_row (by simpa using hr)) (fun _ a => a))
  rename_i hhas
  obtain ⟨w, hw⟩ := hhas
  exact (hr ⟨w, back w hw⟩).mono back
end
end Go.Dp
