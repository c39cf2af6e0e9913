/-
  Pieces of memory found by their names.
  Conditions: none; it holds over whatever program.
-/
import Derived.Test.YtlmmnnhbnbakgaaDoorBf
set_option linter.unusedVariables false
namespace Go.Dp
open Go.RowKit

class SBox (H : List Hl) (b : Nat) (T : outParam TypeId) (cs : outParam (List Value)) (H' : outParam (List Hl)) : Prop where s : Sel H (.box b T cs) H'
instance sbox_here {b : Nat} {T : TypeId} {cs : List Value} {H : List Hl} : SBox (.box b T cs :: H) b T cs H := ⟨.here⟩
instance (priority := low) sbox_there {b : Nat} {T : TypeId} {cs : List Value} {y : Hl} {H H' : List Hl} [h : SBox H b T cs H'] : SBox (y :: H) b T cs (y :: H') := ⟨.there h.s⟩
class SRow (H : List Hl) (ad : Option Addr) (c : Nat) (n : outParam Nat) (T : outParam TypeId) (xs : outParam (List Value)) (H' : outParam (List Hl)) : Prop where s : Sel H (.row T 1 (.slice ad n c) n xs) H'
instance srow_here {ad : Option Addr} {n c : Nat} {T : TypeId} {xs : List Value} {H : List Hl} : SRow (.row T 1 (.slice ad n c) n xs :: H) ad c n T xs H := ⟨.here⟩
instance (priority := low) srow_there {ad : Option Addr} {n c : Nat} {T : TypeId} {xs : List Value} {y : Hl} {H H' : List Hl} [h : SRow H ad c n T xs H'] : SRow (y :: H) ad c n T xs (y :: H') := ⟨.there h.s⟩
class SAny (H : List Hl) (A : Hp → Prop) (H' : outParam (List Hl)) : Prop where s : Sel H (.any A) H'
instance sany_here {A : Hp → Prop} {H : List Hl} : SAny (.any A :: H) A H := ⟨.here⟩
instance (priority := low) sany_there {A : Hp → Prop} {y : Hl} {H H' : List Hl} [h : SAny H A H'] : SAny (y :: H) A (y :: H') := ⟨.there h.s⟩
/-- All of K stands in H. -/
class SEnt (H K : List Hl) : Prop where s : Ent H K
instance sent_nil {H : List Hl} : SEnt H [] := ⟨.nil⟩

section
variable {P : Program} {ops : Array Oper} {k : Kon} {rest : List Oper} {n : Nat} {e : Ev} {W : World} {H : List Hl}
variable {C : Value → List Hl → Prop} {ty : TypeId} {x y : Operand}
theorem ox_load {T T' : TypeId} [TOne P T] {b i : Nat} {cs : List Value} {v : Value} {H' : List Hl} (hx : opd e x = some (.pointer (some ⟨b, i, none⟩))) [s : SBox H b T' cs H'] (hv : cs[i]? = some v)
    (h : C v H) : O1 P (.load T x) ty n e H C := o1_load hx s.s hv h
theorem ox_load_agg {T T' : TypeId} {z : Value} {s by_ : Nat} [TAgg P T] [TInf P T z s by_] {b i : Nat} {cs vs : List Value} {H' : List Hl} (hx : opd e x = some (.pointer (some ⟨b, i, none⟩)))
    [sl : SBox H b T' cs H'] (hv : (cs.drop i).take s = vs) (hs : vs.length = s) (h : C (.agg vs.toArray) H) : O1 P (.load T x) ty n e H C := o1_load_agg hx sl.s hv hs h
theorem ox_load_any {T : TypeId} [TOne P T] {p : Addr} {v : Value} {A : Hp → Prop} {H' : List Hl} (hx : opd e x = some (.pointer (some p))) (hv : Cl A p v) [s : SAny H A H']
    (h : C v H) : O1 P (.load T x) ty n e H C := o1_load_any hx s.s hv h
theorem Sel.upd {H H' : List Hl} {x : Hl} (s : Sel H x H') (y : Hl) : ∃ H2, Upd H x y H2 ∧ ∀ h, stars H2 h → stars (y :: H') h := by
  induction s with
  | here => exact ⟨_, .here, fun _ h => h⟩
  | there s ih =>
    obtain ⟨H2, h1, h2⟩ := ih
    exact ⟨_, .there h1, fun h hs => sep_assoc (sep_mono (sep_assoc' (sep_mono hs (fun _ a => a) h2)) (fun _ => sep_comm) (fun _ a => a))⟩
theorem O1.ent {op : Op} {H2 : List Hl} (hE : ∀ h, stars H h → stars H2 h) (h : O1 P op ty n e H2 C) : O1 P op ty n e H C := ⟨fun a w ho => h.out a w ⟨ho.ev, ho.sat.mono hE⟩⟩
theorem O1.post {op : Op} {C' : Value → List Hl → Prop} (h : O1 P op ty n e H C') (hC : ∀ v H', C' v H' → ∃ H2, C v H2 ∧ ∀ h, stars H' h → stars H2 h) : O1 P op ty n e H C :=
  ⟨fun a w ho o h1 h2 K Q hK => h.out a w ho o h1 h2 K Q fun v w' H' hc hx hs => by
    obtain ⟨H2, hc2, hE⟩ := hC v H' hc
    exact hK v w' H2 hc2 hx (hs.mono hE)⟩
theorem ox_store {T T' : TypeId} {z : Value} {by_ : Nat} [TInf P T z 1 by_] {b i : Nat} {cs : List Value} {v : Value} {H' : List Hl} (hx : opd e x = some (.pointer (some ⟨b, i, none⟩))) (hy : opd e y = some v)
    [s : SBox H b T' cs H'] (hi : i < cs.length) (h1 : v.oneCell' = true) (h : C undef (.box b T' (cs.set i v) :: H')) : O1 P (.store T x y) ty n e H C := by
  obtain ⟨H2, u1, u2⟩ := s.s.upd (.box b T' (cs.set i v))
  exact (o1_store (C := fun v K => v = undef ∧ K = H2) hx hy u1 hi h1 ⟨rfl, rfl⟩).post fun v K hK => ⟨_, hK.1 ▸ h, hK.2 ▸ u2⟩
theorem ox_append {α : Type} {enc : α → Value} {T E : TypeId} {z : Value} {by_ : Nat} {ad ad' : Option Addr} {c c' : Nat} {xs ys : List α} {H' : List Hl} {m a0 : Nat} [TSl P T E] [TInf P E z 1 by_] (hx : opd e x = some (.slice ad a0 c)) (hy : opd e y = some (.slice ad' m c'))
    [s : SRow H ad c a0 E (xs.map enc) H'] (hr : RsH H enc ad' c' ys) (hm : m = ys.length) (hz : z.oneCell' = true) (henc : ∀ x, (enc x).oneCell' = true) (hb : (a0 + m) * by_ ≤ 140737488355328) (hb2 : a0 + m ≤ 9223372036854775807)
    (h : ∀ ad2 c2, C (.slice ad2 (a0 + m) c2) (.row E 1 (.slice ad2 (a0 + m) c2) (a0 + m) ((xs ++ ys).map enc) :: H')) :
    O1 P (.call ⟨.builtin .append, #[x, y], #[T, T]⟩) ty n e H C := o1_append hz henc hx hy s.s hm hr hb hb2 h
theorem rx_any {α : Type} {A : Hp → Prop} {H' : List Hl} {enc : α → Value} {ad : Option Addr} {c : Nat} {l : List α} (h : Rs A enc ad c l) [s : SAny H A H'] : RsH H enc ad c l := rs_any s.s h
theorem rx_row {α : Type} {H' : List Hl} {T : TypeId} {enc : α → Value} {ad : Option Addr} {n c : Nat} {l : List α} [s : SRow H ad c n T (l.map enc) H'] : RsH H enc ad c l := rs_row s.s
theorem rx_box {α : Type} {H' : List Hl} {T : TypeId} {enc : α → Value} {b c : Nat} {l : List α} [s : SBox H b T (l.map enc) H'] (hc : l.length = c) (hb : c ≤ 9223372036854775807) : RsH H enc (some ⟨b, 0, none⟩) c l := rs_box hc hb s.s
theorem any_of_list {L H : List Hl} {w : World} (h : sat w (stars (L ++ H))) : sat w (stars (L ++ [.any (stars H)])) :=
  h.mono fun x hx => stars_append' _ _ _ (sep_mono (stars_append _ _ _ hx) (fun _ a => a) (fun h' hh => ⟨h', fun _ => none, fun _ => .inr rfl, .refl _, fun _ _ e => (by cases e), hh, trivial⟩))
theorem list_of_any {L H : List Hl} {w : World} (h : sat w (stars (L ++ [.any (stars H)]))) : sat w (stars (L ++ H)) :=
  h.mono fun x hx => stars_append' _ _ _ (sep_mono (stars_append _ _ _ hx) (fun _ a => a) (fun h' hh => by
    obtain ⟨h1, h2, _, s1, _, a, _⟩ := hh
    exact stars_up (L := H) a s1))
/-- The way into a function's body: 'own' is what it may change, of H it knows nothing but what is said of 'stars H'. -/
theorem spec_fn {f : FuncId} {fn : Func} {c : Code} {args : List Value} {X : Type} {good : X → Prop} {val : X → Value} {res : X → List Hl} {m : Nat} (own : List Hl) (H : List Hl)
    (hf : P.funcs[f]? = some fn) (hb : fn.body = some c) (hm : fn.ntmps = m) (hname : (fn.name == "runtime.NumGoroutine") = false) (hle : Nat.ble args.length m = true)
    (h : ∀ W, St P c (.fn fn fun x w' => ∃ r, good r ∧ x = .returned (val r) ∧ Ext W w' ∧ sat w' (stars (res r ++ [.any (stars H)]))) m (slots 0 args) W (own ++ [.any (stars H)])) : Spec P f args (own ++ H) good val (fun r => res r ++ H) := by
  have h1 : Spec P f args (own ++ [.any (stars H)]) good val (fun r => res r ++ [.any (stars H)]) := spec_of m hf hb hm hname hle h
  exact ⟨h1.enters, fun w hs => (h1.calls w (any_of_list hs)).mono fun x w' ⟨r, hg, he, hx, hsat⟩ => ⟨r, hg, he, hx, list_of_any hsat⟩⟩
theorem spec_pure {f : FuncId} {fn : Func} {c : Code} {args : List Value} {X : Type} {good : X → Prop} {val : X → Value} {res : X → List Hl} {m : Nat} (H : List Hl)
    (hf : P.funcs[f]? = some fn) (hb : fn.body = some c) (hm : fn.ntmps = m) (hname : (fn.name == "runtime.NumGoroutine") = false) (hle : Nat.ble args.length m = true)
    (h : ∀ W, St P c (.fn fn fun x w' => ∃ r, good r ∧ x = .returned (val r) ∧ Ext W w' ∧ sat w' (stars (res r ++ [.any (stars H)]))) m (slots 0 args) W [.any (stars H)]) : Spec P f args H good val (fun r => res r ++ H) := spec_fn [] H hf hb hm hname hle h
theorem Spec.bv {f : FuncId} {args : List Value} {good : Unit → Prop} {x b : Bool} {res : Unit → List Hl} (h : Spec P f args H good (fun _ => .bool x) res) (hx : x = b) : Spec P f args H good (fun _ => .bool b) res := hx ▸ h
theorem rt_tmp {X : Type} {fn : Func} {good : X → Prop} {val : X → Value} {res : X → List Hl} {t : Nat} {v : Value} (r : X) (hres : fn.results = #[.tmp t]) (hl : look e t = some v) (hv : v = val r) (hg : good r) (hE : Ent H (res r)) :
    Rt P (.fn fn fun x w' => ∃ r, good r ∧ x = .returned (val r) ∧ Ext W w' ∧ sat w' (stars (res r))) n e W H :=
  rt_fn (v := v) (fun a w ho => by simp [results, hres, ho.ev.get t v hl]) r hg hv hE
theorem rt_tmp2 {X : Type} {fn : Func} {good : X → Prop} {val : X → Value} {res : X → List Hl} {t t' : Nat} {v v' : Value} (r : X) (hres : fn.results = #[.tmp t, .tmp t']) (hl : look e t = some v) (hl' : look e t' = some v') (hv : .tuple #[v, v'] = val r) (hg : good r) (hE : Ent H (res r)) :
    Rt P (.fn fn fun x w' => ∃ r, good r ∧ x = .returned (val r) ∧ Ext W w' ∧ sat w' (stars (res r))) n e W H :=
  rt_fn (v := .tuple #[v, v']) (fun a w ho => by simp [results, hres, ho.ev.get t v hl, ho.ev.get t' v' hl']) r hg hv hE
end
end Go.Dp
