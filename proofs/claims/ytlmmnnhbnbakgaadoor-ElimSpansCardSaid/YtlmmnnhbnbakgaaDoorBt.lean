/-
  Pieces shut into one that is read, and opened again.
  Conditions: none; it holds over whatever program.
-/
import Derived.Test.YtlmmnnhbnbakgaaDoorBs
import Derived.Laws.Concat
set_option linter.unusedVariables false
namespace Go.Dp
open Go.RowKit
theorem ent_shut (R : List Hl) : ∀ (K : List Hl) (h : Hp), stars (K ++ R) h → stars (K ++ [.any (stars R)]) h
  | [], h, hh => ⟨h, fun _ => none, fun _ => .inr rfl, .refl _, fun _ _ e => (by cases e), hh, trivial⟩
  | x :: K, h, hh => sep_mono hh (fun _ a => a) (ent_shut R K)
theorem ent_open (R : List Hl) : ∀ (K : List Hl) (h : Hp), stars (K ++ [.any (stars R)]) h → stars (K ++ R) h
  | [], h, ⟨h1, h2, hd, s1, s2, ha, _⟩ => stars_up (L := R) ha s1
  | x :: K, h, hh => sep_mono hh (fun _ a => a) (ent_open R K)
theorem has_tail {x : Hl} {R : List Hl} (h : Has (x :: R)) : Has R := let ⟨w, hw⟩ := h; ⟨w, sep_right hw⟩
section
variable {P : Program} {k : Kon} {n : Nat} {e : Ev} {W : World} {H : List Hl} {co : Code}
theorem st_has (h : Has H → St P co k n e W H) : St P co k n e W H := ⟨fun a w ho => (h ⟨w, ho.sat⟩).out a w ho⟩
theorem nx_has (h : Has H → Nx P k n e W H) : Nx P k n e W H := ⟨fun a w ho => (h ⟨w, ho.sat⟩).out a w ho⟩
/-- What stands behind K is read from here on. -/
theorem st_shut (K R : List Hl) (h : St P co k n e W (K ++ [.any (stars R)])) : St P co k n e W (K ++ R) := st_ent (ent_shut R K) h
theorem st_open (K R : List Hl) (h : St P co k n e W (K ++ R)) : St P co k n e W (K ++ [.any (stars R)]) := st_ent (ent_open R K) h
theorem nx_open (K R : List Hl) (h : Nx P k n e W (K ++ R)) : Nx P k n e W (K ++ [.any (stars R)]) := nx_ent (ent_open R K) h
theorem rt_open (K R : List Hl) (h : Rt P k n e W (K ++ R)) : Rt P k n e W (K ++ [.any (stars R)]) := rt_ent (ent_open R K) h
theorem str_append (a b : List (BitVec 8)) : str a ++ str b = str (a ++ b) := by
  apply ByteArray.ext
  simp [str]
theorem str_size (a : List (BitVec 8)) : (str a).size = a.length := by simp [str, ByteArray.size]
theorem o1_stradd {C : Value → List Hl → Prop} {ty t t' : TypeId} {x y : Operand} {a b : List (BitVec 8)} (hx : opd e x = some (.string (str a))) (hy : opd e y = some (.string (str b))) (hb : a.length + b.length ≤ 9223372036854775807) (h : C (.string (str (a ++ b))) H) : O1 P (.binOp .add t x y t') ty n e H C :=
  o1_val _ (fun w w2 ho => by
    have h1 := run_string_add_sum (P := P) (w := w2) (str a) (str b) (by rw [str_size, str_size]; exact hb)
    rw [str_append] at h1
    simp [execOp, ho.ev.eval hx, ho.ev.eval hy, eqGuard_at_string, binOp_string_add, h1]) h
/-! A literal of bytes turned into bytes: its row is marked. -/
def frz (b : Nat) (T : TypeId) (cs : List Value) : Hp → Prop := fun h => h = one b (.cells cs.toArray T (cs.length, cs.length + 1))
theorem Rs.of_frz {α : Type} {enc : α → Value} {b : Nat} {T : TypeId} {l : List α} (hb : l.length ≤ 9223372036854775807) : Rs (frz b T (l.map enc)) enc (some ⟨b, 0, none⟩) l.length l :=
  ⟨Nat.le_refl _, hb, fun _ => ⟨_, rfl⟩, fun w ⟨h, hw, hh⟩ a ha i x hx => by
    injection ha with ha
    subst ha
    have hh : h = one b (.cells (l.map enc).toArray T ((l.map enc).length, (l.map enc).length + 1)) := hh
    have := hw b (.cells (l.map enc).toArray T ((l.map enc).length, (l.map enc).length + 1)) (by rw [hh]; simp [one])
    have e1 : (Addr.mk b 0 none).add i = ⟨b, i, none⟩ := by
      by_cases h0 : i = 0
      · subst h0; simp [Addr.add]
      · simp [Addr.add, h0]
    rw [e1]
    simp [World.cell?, this, hx]⟩
theorem sat.freeze {w : World} {b : Nat} {T : TypeId} {cs : List Value} {H' : List Hl} (h : sat w (stars (.box b T cs :: H'))) : sat (w.freeze ⟨b, cs.length, none⟩ 1) (stars (.any (frz b T cs) :: H')) := by
  obtain ⟨x, hw, h1, h2, hd, s1, s2, hb, hr⟩ := h
  have hb : h1 = one b (.cells cs.toArray T (0, 0)) := hb
  have hbb : w.heap[b]? = some (.cells cs.toArray T (0, 0)) := hw b _ (s1 b _ (by rw [hb]; simp [one]))
  have h2b : h2 b = none := by
    rcases hd b with h | h
    · rw [hb] at h; simp [one] at h
    · exact h
  have hf : ∀ i, (w.freeze ⟨b, cs.length, none⟩ 1).heap[i]? = if i = b then some (.cells cs.toArray T (cs.length, cs.length + 1)) else w.heap[i]? := by
    intro i
    unfold World.freeze
    rw [if_neg (by decide)]
    show (w.heap.modify b _)[i]? = _
    rw [Array.getElem?_modify]
    by_cases hi : i = b
    · subst hi; simp [hbb]
    · simp [hi, Ne.symm hi]
  refine ⟨fun i => if i = b then some (.cells cs.toArray T (cs.length, cs.length + 1)) else h2 i, fun i o ho => ?_, one b (.cells cs.toArray T (cs.length, cs.length + 1)), h2, fun i => ?_, fun i o ho => ?_, fun i o ho => ?_, rfl, hr⟩
  · rw [hf]
    by_cases hi : i = b
    · simpa [hi] using ho
    · simp only [hi, if_false] at ho ⊢
      exact hw i o (s2 i o ho)
  · by_cases hi : i = b
    · subst hi; exact .inr h2b
    · exact .inl (by simp [one, hi])
  · by_cases hi : i = b
    · subst hi; simpa [one] using ho
    · simp [one, hi] at ho
  · by_cases hi : i = b
    · subst hi; rw [h2b] at ho; cases ho
    · simpa [hi] using ho
theorem Ext.freeze (w : World) (a : Addr) (m : Nat) : Ext w (w.freeze a m) := by
  unfold World.freeze
  split
  · exact .refl w
  · exact ⟨rfl, rfl, rfl, by simp⟩
theorem o1_conv_frz {C : Value → List Hl → Prop} {ty t E T : TypeId} {x : Operand} {b m c : Nat} {cs : List Value} {H' : List Hl} [ht : TSl P t E] [he : TInt P E .u8] (hx : opd e x = some (.slice (some ⟨b, 0, none⟩) m c)) [s : SBox H b T cs H']
    (h : C (.slice (some ⟨b, 0, none⟩) m c) (.any (frz b T cs) :: H')) : O1 P (.convert t t x) ty n e H C :=
  o1_step fun a w ho => by
    have hs := sat_front ho.sat s.s
    have hsh : w.shape? b = some (T, cs.length) := by
      have := ho.sat.cells s.s
      simp [World.shape?, this]
    refine ⟨_, w.freeze ⟨b, cs.length, none⟩ 1, ?_, _, h, Ext.freeze _ _ _, hs.freeze⟩
    simp [execOp, ho.ev.eval hx, convert, run_underlying ht.u, run_underlying he.u, markStringish, hsh]
end
end Go.Dp
