/-
  What is to be shown of a piece of code, its frame a list of slots, its memory a list of pieces; sequence, branch, block, loop, return; a call by its contract.
  Conditions: none; it holds over whatever program.
-/
import Derived.Test.YtlmmnnhbnbakgaaDoorBa
set_option linter.unusedVariables false
namespace Go.Dp
open Go.RowKit

/-- What stands behind a piece of code. -/
inductive Kon where
  | fn (f : Func) (R : Ending → World → Prop)
  | seq (y : Code) (k : Kon)
  | blk (id : Nat) (k : Kon)
  | rounds (c : Code) (m : Nat) (k : Kon)
  | cut (I : Act → World → Prop) (k : Kon)
def Kon.post (P : Program) : Kon → Exit → Act → World → Prop
  | .fn f R => bodyPost P f R
  | .seq y k => Exit.then (y.wp P (k.post P)) (k.post P)
  | .blk id k => Exit.inBlock id (k.post P)
  | .rounds c m k => Exit.then (Code.rounds P c (k.post P) m) (k.post P)
  | .cut I k => Exit.then I (k.post P)

structure Ok (W : World) (n : Nat) (e : Ev) (H : List Hl) (a : Act) (w : World) : Prop where
  ev : EvOk a n e
  ext : Ext W w
  sat : sat w (stars H)
structure Ls (P : Program) (ops : Array Oper) (k : Kon) (rest : List Oper) (n : Nat) (e : Ev) (W : World) (H : List Hl) : Prop where
  mk :: (out : ∀ a w, Ok W n e H a w → wpList P ops (k.post P) rest a w)
structure St (P : Program) (c : Code) (k : Kon) (n : Nat) (e : Ev) (W : World) (H : List Hl) : Prop where
  mk :: (out : ∀ a w, Ok W n e H a w → c.wp P (k.post P) a w)
structure Nx (P : Program) (k : Kon) (n : Nat) (e : Ev) (W : World) (H : List Hl) : Prop where
  mk :: (out : ∀ a w, Ok W n e H a w → k.post P .normal a w)
structure Xt (P : Program) (id : Nat) (k : Kon) (n : Nat) (e : Ev) (W : World) (H : List Hl) : Prop where
  mk :: (out : ∀ a w, Ok W n e H a w → k.post P (.exit id) a w)
structure Rt (P : Program) (k : Kon) (n : Nat) (e : Ev) (W : World) (H : List Hl) : Prop where
  mk :: (out : ∀ a w, Ok W n e H a w → k.post P .ret a w)

section
variable {P : Program} {ops : Array Oper} {k : Kon} {rest : List Oper} {n : Nat} {e : Ev} {W : World} {H : List Hl}

theorem st_seq {x y : Code} (h : St P x (.seq y k) n e W H) : St P (.seq x y) k n e W H := ⟨fun a w ho => wp_seq (h.out a w ho)⟩
theorem st_cond_t {x : Operand} {c d : Code} (hx : opd e x = some (.bool true)) (h : St P c k n e W H) : St P (.cond x c d) k n e W H := ⟨fun a w ho => wp_cond_true (ho.ev.eval hx) (h.out a w ho)⟩
theorem st_cond_f {x : Operand} {c d : Code} (hx : opd e x = some (.bool false)) (h : St P d k n e W H) : St P (.cond x c d) k n e W H := ⟨fun a w ho => wp_cond_false (ho.ev.eval hx) (h.out a w ho)⟩
theorem st_cond {x : Operand} {c d : Code} {b : Bool} (hx : opd e x = some (.bool b)) (ht : b = true → St P c k n e W H) (hf : b = false → St P d k n e W H) : St P (.cond x c d) k n e W H := by
  cases b
  · exact st_cond_f hx (hf rfl)
  · exact st_cond_t hx (ht rfl)
theorem st_block {id : Nat} {c : Code} (h : St P c (.blk id k) n e W H) : St P (.block id c) k n e W H := ⟨fun a w ho => wp_block (h.out a w ho)⟩
theorem st_skip (h : Nx P k n e W H) : St P .skip k n e W H := ⟨fun a w ho => wp_skip (h.out a w ho)⟩
theorem st_ret (h : Rt P k n e W H) : St P .ret k n e W H := ⟨fun a w ho => wp_ret (h.out a w ho)⟩
theorem st_exit {id : Nat} (h : Xt P id k n e W H) : St P (.exit id) k n e W H := ⟨fun a w ho => wp_exit (h.out a w ho)⟩
theorem st_region {id : Nat} {l : List Oper} (h : Ls P l.toArray k l n e W H) : St P (.region id l.toArray false) k n e W H := ⟨fun a w ho => wp_region_lit (h.out a w ho)⟩
theorem ls_nil (h : Nx P k n e W H) : Ls P ops k [] n e W H := ⟨fun a w ho => wpList_nil (h.out a w ho)⟩
theorem nx_seq {y : Code} (h : St P y k n e W H) : Nx P (.seq y k) n e W H := ⟨fun a w ho => h.out a w ho⟩
theorem nx_blk {id : Nat} (h : Nx P k n e W H) : Nx P (.blk id k) n e W H := ⟨fun a w ho => h.out a w ho⟩
theorem nx_rounds {c : Code} {m : Nat} (h : St P c (.rounds c m k) n e W H) : Nx P (.rounds c (m + 1) k) n e W H := ⟨fun a w ho => h.out a w ho⟩
theorem nx_cut {I : Act → World → Prop} (h : ∀ a w, Ok W n e H a w → I a w) : Nx P (.cut I k) n e W H := ⟨h⟩
theorem xt_seq {id : Nat} {y : Code} (h : Xt P id k n e W H) : Xt P id (.seq y k) n e W H := ⟨fun a w ho => h.out a w ho⟩
theorem xt_rounds {id m : Nat} {y : Code} (h : Xt P id k n e W H) : Xt P id (.rounds y m k) n e W H := ⟨fun a w ho => h.out a w ho⟩
theorem xt_cut {id : Nat} {I : Act → World → Prop} (h : Xt P id k n e W H) : Xt P id (.cut I k) n e W H := ⟨fun a w ho => h.out a w ho⟩
theorem xt_here {id : Nat} (h : Nx P k n e W H) : Xt P id (.blk id k) n e W H := ⟨fun a w ho => by
  show Exit.inBlock id (k.post P) (.exit id) a w
  simp only [Exit.inBlock, if_true]
  exact h.out a w ho⟩
theorem xt_on {id id' : Nat} (hne : Nat.beq id id' = false) (h : Xt P id k n e W H) : Xt P id (.blk id' k) n e W H := ⟨fun a w ho => by
  show Exit.inBlock id' (k.post P) (.exit id) a w
  have : id ≠ id' := fun e => by subst e; simp at hne
  simp only [Exit.inBlock, this, if_false]
  exact h.out a w ho⟩
theorem rt_seq {y : Code} (h : Rt P k n e W H) : Rt P (.seq y k) n e W H := ⟨fun a w ho => h.out a w ho⟩
theorem rt_rounds {m : Nat} {y : Code} (h : Rt P k n e W H) : Rt P (.rounds y m k) n e W H := ⟨fun a w ho => h.out a w ho⟩
theorem rt_cut {I : Act → World → Prop} (h : Rt P k n e W H) : Rt P (.cut I k) n e W H := ⟨fun a w ho => h.out a w ho⟩
theorem rt_blk {id : Nat} (h : Rt P k n e W H) : Rt P (.blk id k) n e W H := ⟨fun a w ho => h.out a w ho⟩

theorem Ok.mono {W : World} {n : Nat} {e e' : Ev} {H H' : List Hl} {a : Act} {w : World} (h : Ok W n e H a w) (hc : Covers e e') (hH : Ent H H') : Ok W n e' H' a w := ⟨h.ev.covers hc, h.ext, h.sat.mono hH.out⟩

/-- So many rounds at most, one by one. -/
theorem st_rounds {c : Code} (m : Nat) (h : St P c (.rounds c m k) n e W H) : St P (.loop c) k n e W H := ⟨fun a w ho => wp_loop_rounds (m + 1) (h.out a w ho)⟩

theorem least {p : Nat → Prop} (h : ∃ m, p m) : ∃ m, p m ∧ ∀ m', m' < m → ¬ p m' := by
  obtain ⟨m, hm⟩ := h
  induction m using Nat.strongRecOn with
  | _ m ih =>
    by_cases hx : ∃ m', m' < m ∧ p m'
    · obtain ⟨m', hlt, hp⟩ := hx
      exact ih m' hlt hp
    · exact ⟨m, hm, fun m' hlt hp => hx ⟨m', hlt, hp⟩⟩
theorem wp_loop_any {Q : Exit → Act → World → Prop} {c : Code} {a : Act} {w : World} (I : Nat → Act → World → Prop) (h0 : ∃ m, I m a w)
    (round : ∀ m a w, I m a w → c.wp P (Exit.then (fun a' w' => ∃ m', m' < m ∧ I m' a' w') Q) a w) : (Code.loop c).wp P Q a w := by
  classical
  refine wp_loop (fun a w => ∃ m, I m a w) (fun a w => if h : ∃ m, I m a w then Classical.choose (least h) else 0) h0 ?_
  intro a w h
  have hs := Classical.choose_spec (least h)
  refine wp_mono (round _ a w hs.1) ?_
  intro x a' w' hx
  cases x with
  | normal =>
    obtain ⟨m', hlt, hI⟩ := hx
    refine ⟨⟨m', hI⟩, ?_⟩
    have hex : ∃ m, I m a' w' := ⟨m', hI⟩
    simp only [dif_pos h, dif_pos hex]
    have hs' := Classical.choose_spec (least hex)
    refine Nat.lt_of_le_of_lt ?_ hlt
    rcases Nat.lt_or_ge m' (Classical.choose (least hex)) with hc | hc
    · exact absurd hI (hs'.2 m' hc)
    · exact hc
  | exit id => exact hx
  | goto l => exact hx
  | ret => exact hx
  | panic ch => exact hx
  | outgrown => exact hx

/-- A loop by what holds at its head: of a state s the slots, the memory and a fact; each round lowers a measure. -/
def Again {S : Type} (W : World) (n : Nat) (env : S → Ev) (hp : S → List Hl) (I : S → Prop) (μ : S → Nat) (s : S) (a : Act) (w : World) : Prop := ∃ s', I s' ∧ μ s' < μ s ∧ Ok W n (env s') (hp s') a w
theorem st_loop {S : Type} {c : Code} (env : S → Ev) (hp : S → List Hl) (I : S → Prop) (μ : S → Nat) (s : S) (h0 : I s) (hc : Covers e (env s)) (hH : Ent H (hp s))
    (round : ∀ s, I s → St P c (.cut (Again W n env hp I μ s) k) n (env s) W (hp s)) : St P (.loop c) k n e W H := ⟨fun a w ho => by
  refine wp_loop_any (fun m a w => ∃ s, μ s = m ∧ I s ∧ Ok W n (env s) (hp s) a w) ⟨_, s, rfl, h0, ho.mono hc hH⟩ ?_
  rintro m a w ⟨s, rfl, hI, ho⟩
  refine wp_mono ((round s hI).out a w ho) ?_
  intro x a' w' hx
  cases x with
  | normal =>
    obtain ⟨s', hI', hlt, ho'⟩ := hx
    exact ⟨μ s', hlt, s', rfl, hI', ho'⟩
  | exit id => exact hx
  | goto l => exact hx
  | ret => exact hx
  | panic ch => exact hx
  | outgrown => exact hx⟩
/-- The round's end. -/
theorem nx_again {S : Type} {env : S → Ev} {hp : S → List Hl} {I : S → Prop} {μ : S → Nat} {s : S} (s' : S) (hI : I s') (hlt : μ s' < μ s) (hc : Covers e (env s')) (hH : Ent H (hp s')) : Nx P (.cut (Again W n env hp I μ s) k) n e W H :=
  ⟨fun a w ho => ⟨s', hI, hlt, ho.mono hc hH⟩⟩

/-! ## A function's contract -/
/-- Called with these arguments, where H stands, the function comes back: for some x that is good, with 'val x', and 'res x' stands. -/
structure Spec (P : Program) (f : FuncId) (args : List Value) (H : List Hl) {X : Type} (good : X → Prop) (val : X → Value) (res : X → List Hl) : Prop where
  enters : (P.funcs[f]?).map (fun fn => (fn.name == "runtime.NumGoroutine", fn.body.isNone)) = some (false, false)
  calls : ∀ w, sat w (stars H) → Calls P f args.toArray w fun x w' => ∃ r, good r ∧ x = .returned (val r) ∧ Ext w w' ∧ sat w' (stars (res r))
theorem Spec.mono {f : FuncId} {args : List Value} {X Y : Type} {good : X → Prop} {val : X → Value} {res : X → List Hl} {good' : Y → Prop} {val' : Y → Value} {res' : Y → List Hl}
    (h : Spec P f args H good val res) (g : ∀ x, good x → ∃ y, good' y ∧ val x = val' y ∧ Ent (res x) (res' y)) : Spec P f args H good' val' res' :=
  ⟨h.enters, fun w hs => (h.calls w hs).mono fun e w' ⟨x, hg, he, hx, hsat⟩ => by
    obtain ⟨y, hy, hv, hE⟩ := g x hg
    exact ⟨y, hy, hv ▸ he, hx, hsat.mono hE.out⟩⟩

def rep (m : Nat) : List Value := List.replicate m undef
def slots : Nat → List Value → Ev
  | _, [] => []
  | i, v :: l => (i, v) :: slots (i + 1) l
theorem look_slots : ∀ (l : List Value) (i t : Nat) (v : Value), look (slots i l) t = some v → i ≤ t ∧ l[t - i]? = some v
  | [], i, t, v, h => by simp [slots, look] at h
  | u :: l, i, t, v, h => by
    simp only [slots, look] at h
    cases hb : Nat.beq i t
    · rw [hb] at h
      obtain ⟨h1, h2⟩ := look_slots l (i + 1) t v h
      refine ⟨by omega, ?_⟩
      rw [show t - i = (t - (i + 1)) + 1 from by omega]
      simpa using h2
    · rw [hb] at h
      have := Nat.eq_of_beq_eq_true hb
      subst this
      simp only [cond_true, Option.some.injEq] at h
      subst h
      simp
/-- The way into a function's body. -/
theorem spec_of {f : FuncId} {fn : Func} {c : Code} {args : List Value} {X : Type} {good : X → Prop} {val : X → Value} {res : X → List Hl} (m : Nat)
    (hf : P.funcs[f]? = some fn) (hb : fn.body = some c) (hm : fn.ntmps = m) (hname : (fn.name == "runtime.NumGoroutine") = false) (hle : Nat.ble args.length m = true)
    (h : ∀ W, St P c (.fn fn fun x w' => ∃ r, good r ∧ x = .returned (val r) ∧ Ext W w' ∧ sat w' (stars (res r))) m (slots 0 args) W H) : Spec P f args H good val res := by
  refine ⟨by simp [hf, hb, hname], fun w hs => calls_of_wp hf hb ?_⟩
  have hle' : args.length ≤ m := by simpa using hle
  refine (h w).out _ w ⟨⟨by simp [hm]; omega, rfl, fun t v hl => ?_⟩, .refl _, hs⟩
  obtain ⟨_, h2⟩ := look_slots args 0 t v hl
  simp only [Nat.sub_zero] at h2
  have hlt : t < args.length := by
    rcases Nat.lt_or_ge t args.length with h | h
    · exact h
    · rw [List.getElem?_eq_none h] at h2; cases h2
  have h3 : args[t] = v := by simpa [List.getElem?_eq_getElem hlt] using h2
  simp [Array.getElem?_append, hlt, h3]

/-! ## The end -/
theorem rt_fn {X : Type} {fn : Func} {good : X → Prop} {val : X → Value} {res : X → List Hl} {v : Value} (hr : ∀ a w, Ok W n e H a w → (results fn a.tmps).run P w = .ok v w) (r : X) (hg : good r) (hv : v = val r) (hE : Ent H (res r)) :
    Rt P (.fn fn fun x w' => ∃ r, good r ∧ x = .returned (val r) ∧ Ext W w' ∧ sat w' (stars (res r))) n e W H :=
  ⟨fun a w ho => ⟨ho.ev.defers, v, hr a w ho, r, hg, by rw [hv], ho.ext, ho.sat.mono hE.out⟩⟩
theorem nx_fn {fn : Func} {R : Ending → World → Prop} (h : Rt P (.fn fn R) n e W H) : Nx P (.fn fn R) n e W H := ⟨fun a w ho => h.out a w ho⟩
end
end Go.Dp
