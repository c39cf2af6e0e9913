/-
  Rows of bytes in any number: the slices of a slice of slices, each with a row of its own.
  Conditions: none; it holds over whatever program.
-/
import Derived.Test.YtlmmnnhbnbakgaaDoorBp
set_option linter.unusedVariables false
namespace Go.Dp
open Go.RowKit
/-- A slice of bytes as an element. -/
abbrev Bs (s : SlD (BitVec 8)) : Value := .slice s.ad s.l.length s.cap
abbrev cat (ls : List (SlD (BitVec 8))) : List (BitVec 8) := ls.flatMap (·.l)
theorem cat_succ (ls : List (SlD (BitVec 8))) (i : Nat) (h : i < ls.length) : cat (ls.take (i + 1)) = cat (ls.take i) ++ ls[i].l := by
  simp only [cat]
  rw [List.take_succ_eq_append_getElem h, List.flatMap_append]
  simp
def rowOf (T : TypeId) (s : SlD (BitVec 8)) : Hl := .row T 1 (Bs s) s.l.length (s.l.map B)
/-- Each of these slices has a row of its own. -/
def pcs (T : TypeId) (ls : List (SlD (BitVec 8))) : Hp → Prop := stars (ls.map (rowOf T))
theorem pcs_nil {T : TypeId} {R : List Hl} : ∀ h, stars R h → stars (.any (pcs T []) :: R) h := fun h hh => ⟨fun _ => none, h, fun _ => .inl rfl, fun _ _ e => (by cases e), .refl _, trivial, hh⟩
theorem pcs_push {T : TypeId} {ls : List (SlD (BitVec 8))} {s : SlD (BitVec 8)} {R : List Hl} : ∀ h, stars (.row T 1 (Bs s) s.l.length (s.l.map B) :: .any (pcs T ls) :: R) h → stars (.any (pcs T (ls ++ [s])) :: R) h := fun h hh => by
  refine sep_mono (sep_assoc' hh) (fun h' x => ?_) (fun _ a => a)
  show stars ((ls ++ [s]).map (rowOf T)) h'
  rw [List.map_append]
  refine stars_append' _ _ _ (sep_mono (sep_comm x) (fun _ a => a) fun h2 y => ?_)
  exact ⟨h2, fun _ => none, fun _ => .inr rfl, .refl _, fun _ _ e => (by cases e), y, trivial⟩
theorem sel_mem : ∀ {L : List Hl} {x : Hl}, x ∈ L → ∃ L', Sel L x L'
  | y :: L, x, h => by
    rcases List.mem_cons.1 h with rfl | h
    · exact ⟨_, .here⟩
    · obtain ⟨L', hs⟩ := sel_mem h
      exact ⟨_, .there hs⟩
theorem pcs_read {T : TypeId} {ls : List (SlD (BitVec 8))} {s : SlD (BitVec 8)} {H H' : List Hl} [sa : SAny H (pcs T ls) H'] (hm : s ∈ ls) (hh : Has H) : Rs (stars H) B s.ad s.cap s.l := by
  obtain ⟨L', hs⟩ := sel_mem (List.mem_map_of_mem (f := rowOf T) hm)
  have key : ∀ w, sat w (stars H) → sat w (stars (ls.map (rowOf T))) := fun w hw => sel_sat sa.s w hw
  obtain ⟨w, hw⟩ := hh
  exact (Rs.of_row hs w (key w hw)).unvals.mono key
theorem pcs_all {T : TypeId} {ls : List (SlD (BitVec 8))} {H H' : List Hl} [sa : SAny H (pcs T ls) H'] (hh : Has H) : ∀ s ∈ ls, Rs (stars H) B s.ad s.cap s.l := fun s hm => pcs_read (T := T) hm hh
/-- Facts of slices that are read. -/
theorem all_up {A : Hp → Prop} {H H' : List Hl} {ls : List (SlD (BitVec 8))} (h : ∀ s ∈ ls, Rs A B s.ad s.cap s.l) [sa : SAny H A H'] : ∀ s ∈ ls, Rs (stars H) B s.ad s.cap s.l := fun s hm => (h s hm).up
theorem sel_swap {x y : Hl} {R : List Hl} : ∀ h, stars (x :: y :: R) h → stars (y :: x :: R) h := fun h hh => (Sel.out (.there .here) h hh)
/-- A row that was a pure box. -/
theorem st_row {P : Program} {k : Kon} {n : Nat} {e : Ev} {W : World} {H : List Hl} {co : Code} {b m cp : Nat} {T : TypeId} {cs : List Value} {H' : List Hl} [s : SBox H b T cs H'] (hcp : cs.length = cp) (hm : m = cp) (hb : cp ≤ 9223372036854775807)
    (h : St P co k n e W (.row T 1 (.slice (some ⟨b, 0, none⟩) m cp) m cs :: H')) : St P co k n e W H := by
  subst hm
  have hE := ent_row_of_box (m := m) (cp := m) s.s hcp (Nat.le_refl _) hb
  rw [List.take_of_length_le (by omega)] at hE
  exact st_ent hE h
section
variable {P : Program} {ops : Array Oper} {k : Kon} {rest : List Oper} {n : Nat} {e : Ev} {W : World} {H : List Hl}
variable {C : Value → List Hl → Prop} {ty : TypeId} {x y : Operand} {α : Type} {enc : α → Value} {T E : TypeId} {z : Value} {by_ : Nat} {p q : Int} {kd kd' : IntKind}
theorem nx_ent {H2 : List Hl} (hE : ∀ h, stars H h → stars H2 h) (h : Nx P k n e W H2) : Nx P k n e W H := ⟨fun a w ho => h.out a w ⟨ho.ev, ho.ext, ho.sat.mono hE⟩⟩
theorem nx_push {T : TypeId} {ls : List (SlD (BitVec 8))} {s : SlD (BitVec 8)} {R : List Hl} (hE : Ent H (.row T 1 (Bs s) s.l.length (s.l.map B) :: .any (pcs T ls) :: R)) (h : Nx P k n e W (.any (pcs T (ls ++ [s])) :: R)) : Nx P k n e W H := nx_ent (fun h hh => pcs_push h (hE.out h hh)) h
/-- make([]T, m). -/
theorem o1_maker (z0 : α) (m : Nat) [TSl P T E] [TInf P E z 1 by_] (hx : opd e x = some (.int kd p)) (hy : opd e y = some (.int kd' p)) (hz : z.oneCell' = true) (hz0 : z = enc z0) (hp : p = m) (h2 : by_ * m ≤ 281474976710656) (h3 : m ≤ 9223372036854775807)
    (h : ∀ b, C (.slice (some ⟨b, 0, none⟩) m m) (.box b E ((List.replicate m z0).map enc) :: H)) : O1 P (.makeSlice T x y) ty n e H C :=
  o1_make (lo := m) (cp := m) hz hx hy hp hp (Nat.le_refl _) h2 h3 (fun b => by
    have := h b
    rw [List.map_replicate, ← hz0] at this
    exact this)
theorem o1_cs_lh {ad : Option Addr} {c l0 : Nat} {xs : List α} {ol oh : Operand} (lo hi : Nat) [ht : TSl P T E] [hi' : TInf P E z 1 by_] (hx : opd e x = some (.slice ad l0 c)) (hl : opd e ol = some (.int kd p)) (hh : opd e oh = some (.int kd' q)) (hp : p = lo) (hq : q = hi) (h0 : l0 = xs.length) (hc : xs.length ≤ c) (h1 : lo ≤ hi) (h2 : hi ≤ xs.length)
    (h : C (.slice (cutA ad c lo) ((xs.take hi).drop lo).length (c - lo)) H) : O1 P (.slice T x (some ol) (some oh) none) ty n e H C := by
  subst hp hq
  have hlen : ((xs.take hi).drop lo).length = hi - lo := by simp; omega
  rw [hlen] at h
  exact o1_slice_lh (lo := lo) (hi := hi) hx hl hh h1 (by omega) (by simpa [cutA] using h)
end
end Go.Dp
