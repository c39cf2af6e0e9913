/-
  Downpour, walked and proved: part 8.
  Conditions: those that stand in each theorem.
-/
import Derived.Test.YtcblcmdikhllbaaGreatDoorQTopEnough3
import Derived.Test.YtcblcmdikhllbaaGreatDoorQTopEnough7
import Derived.Test.YtcblcmdikhllbaaGreatDoorQTopEnough4
import Derived.Test.YtcblcmdikhllbaaGreatDoorQTopEnough6
import Derived.Test.YtcblcmdikhllbaaGreatDoorQTopEnough1
import Derived.Test.YtcblcmdikhllbaaGreatDoorQTopEnough2
set_option linter.unusedVariables false
set_option linter.unusedSimpArgs false
set_option maxHeartbeats 64000000
namespace Go.Dp
def xsB (g:Nat→Bool):Nat→Bool
 | 0=>false
 | n+1=>xsB g n ^^ g n
theorem a8X {g:Nat→Bool} {n:Nat} (h:∀ i,i<n→g i=false):xsB g n=false:=by
 induction n with
 | zero=>rfl
 | succ n ih=>rw [xsB,ih (fun i hi=>h i (by omega)),h n (by omega)];rfl
theorem b7W {g:Nat→Bool} {n j:Nat} (hj:j<n) (h:∀ i,i<n→i≠j→g i=false):xsB g n=g j:=by
 induction n with
 | zero=>omega
 | succ n ih =>
  rw [xsB]
  by_cases e:j=n
  ·subst e
   rw [a8X (fun i hi=>h i (by omega) (by omega))];simp
  ·rw [ih (by omega) (fun i hi hne=>h i (by omega) hne),h n (by omega) (fun q=>e q.symm)];simp
def rowAt (M:List (Option LN)) (i k:Nat):Bool:=match M.getD i none with
 | some y=>at_ y.1 k
 | none=>false
structure RR (n z:Nat) (M:List (Option LN)):Prop where
 lok:LOk n z M
 fst:∀ i y,M[i]?=some (some y)→at_ y.1 i=true
 lo:∀ i y j,M[i]?=some (some y)→j<i→at_ y.1 j=false
 piv:∀ i j y w,M[i]?=some (some y)→M[j]?=some (some w)→i≠j→at_ y.1 j=false
theorem getD_of {M:List (Option LN)} {i:Nat} {y:LN} (h:M[i]?=some (some y)):M.getD i none=some y:=by rw [List.getD_eq_getElem?_getD,h];rfl
theorem getD_some {M:List (Option LN)} {i:Nat} {y:LN} (h:M.getD i none=some y):M[i]?=some (some y):=by
 rw [List.getD_eq_getElem?_getD] at h
 cases hq:M[i]? with
 | none=>rw [hq] at h;cases h
 | some o=>rw [hq] at h;exact congrArg some h
theorem a5I {M:List (Option LN)} {i:Nat} {o:Option LN} (h:M[i]?=some o):o∈M:=List.mem_of_getElem? h
theorem c0S {n z:Nat} {M:List (Option LN)} (h:RR n z M) {x:LN} (hx:x.1.length=n) (hd:x.2.length=z):∀ i,i≤n→∀ k,at_ (redT M x i).1 k=(at_ x.1 k ^^ xsB (fun j=>at_ x.1 j && rowAt M j k) i)
 | 0,_,k=>by simp [redT,xsB]
 | i+1,hi,k=>by
  have ih:=c0S h hx hd i (by omega)
  obtain ⟨l1,l2⟩:=a5V h.lok hx hd i
  rw [redT,xsB]
  cases ho:M.getD i none with
  | none =>
   have hr:rowAt M i k=false:=by unfold rowAt;rw [ho]
   rw [hr,Bool.and_false,Bool.xor_false]
   exact ih k
  | some y =>
   have hM:=getD_some ho
   have hr:rowAt M i k=at_ y.1 k:=by unfold rowAt;rw [ho]
   obtain ⟨y1,y2⟩:=h.lok.ok y (a5I hM)
   have hc:at_ (redT M x i).1 i=at_ x.1 i:=by
    rw [ih i,a8X (fun j hj=>?_),Bool.xor_false]
    unfold rowAt
    cases hj2:M.getD j none with
    | none=>simp
    | some w =>
     show (at_ x.1 j && at_ w.1 i)=false
     rw [h.piv j i w y (getD_some hj2) hM (by omega),Bool.and_false]
   show at_ (if at_ (redT M x i).1 i=true then addL (redT M x i) y else redT M x i).1 k=_
   rw [hc,hr]
   cases hb:at_ x.1 i
   ·simpa using ih k
   ·simp only [if_true,Bool.true_and]
    show (xorV (redT M x i).1 y.1).getD k false=_
    rw [a5S (by omega)]
    have:=ih k
    rw [←Bool.xor_assoc,←this]
theorem red_piv {n z:Nat} {M:List (Option LN)} (h:RR n z M) {x:LN} (hx:x.1.length=n) (hd:x.2.length=z) {j:Nat} {w:LN} (hj:M[j]?=some (some w)):at_ (red M x).1 j=false:=by
 have hjn:j<n:=by
  rw [←h.lok.len]
  exact (List.getElem?_eq_some_iff.1 hj).1
 rw [red,h.lok.len,c0S h hx hd n (Nat.le_refl _),b7W hjn (fun i hi hne=>?_)]
 ·show (at_ x.1 j ^^ (at_ x.1 j && rowAt M j j))=false
  have:rowAt M j j=true:=by unfold rowAt;rw [getD_of hj];exact h.fst j w hj
  rw [this];simp
 ·unfold rowAt
  cases hi2:M.getD i none with
  | none=>simp
  | some y =>
   show (at_ x.1 i && at_ y.1 j)=false
   rw [h.piv i j y w (getD_some hi2) hj hne,Bool.and_false]
theorem first_cases (l:List Bool):firstV l = -1∨∃ a:Nat,firstV l=a∧a<l.length∧at_ l a=true∧∀ j,j<a→at_ l j=false:=by
 unfold firstV
 by_cases h:firstN (at_ l) l.length<l.length
 ·rw [if_pos h]
  exact .inr ⟨_,rfl,h,b3F _ _ h,b6X _ _⟩
 ·rw [if_neg h];exact .inl rfl
theorem red_free {n z:Nat} {M:List (Option LN)} (h:RR n z M) {x:LN} (hx:x.1.length=n) (hd:x.2.length=z) {a:Nat} (ha:a<n) (h1:at_ (red M x).1 a=true):M[a]?=some none:=by
 have hl:a<M.length:=by rw [h.lok.len];exact ha
 rw [List.getElem?_eq_getElem hl]
 cases ho:M[a] with
 | none=>rfl
 | some w =>
  have:=red_piv h hx hd (j:=a) (w:=w) (by rw [List.getElem?_eq_getElem hl,ho])
  rw [this] at h1
  cases h1
theorem a9X {M:List (Option LN)} {a i:Nat} {x y:LN} (ha:a<M.length) (h:(addM M a x)[i]?=some (some y)):(i=a∧y=x)∨(i≠a∧∃ w,M[i]?=some (some w)∧y=if at_ w.1 a=true then addL w x else w):=by
 unfold addM at h
 rw [List.getElem?_set] at h
 by_cases e:a=i
 ·subst e
  rw [if_pos rfl] at h
  simp only [List.length_map,ha,if_true,Option.some.injEq] at h
  exact .inl ⟨rfl,h.symm⟩
 ·rw [if_neg e,List.getElem?_map] at h
  refine .inr ⟨fun q=>e q.symm,?_⟩
  cases hM:M[i]? with
  | none=>rw [hM] at h;cases h
  | some o =>
   rw [hM] at h
   cases o with
   | none=>cases h
   | some w =>
    simp only [Option.map_some,clrL,Option.some.injEq] at h
    exact ⟨w,rfl,h.symm⟩
theorem b7N {x y:LN} (h:x.1.length=y.1.length) (k:Nat):at_ (addL x y).1 k=(at_ x.1 k ^^ at_ y.1 k):=a5S h k
theorem addM_RR {n z:Nat} {M:List (Option LN)} (h:RR n z M) {x:LN} {a:Nat} (hx:x.1.length=n) (hd:x.2.length=z) (ha:a<n) (h1:at_ x.1 a=true) (h2:∀ j,j<a→at_ x.1 j=false) (hp:∀ j w,M[j]?=some (some w)→at_ x.1 j=false) (hf:M[a]?=some none):RR n z (addM M a x):=by
 have hl:=h.lok.len
 have haM:a<M.length:=by omega
 have lens:∀ (i:Nat) (w:LN),M[i]?=some (some w)→w.1.length=n∧w.2.length=z:=fun i w hw=>h.lok.ok w (a5I hw)
 refine ⟨⟨by simp [addM,hl],fun y hy=>?_⟩,fun i y hy=>?_,fun i y j hy hj=>?_,fun i j y w hy hw hij=>?_⟩
 ·obtain ⟨i,hi⟩:=List.getElem?_of_mem hy
  rcases a9X haM hi with ⟨_,rfl⟩|⟨_,w,hw,rfl⟩
  ·exact ⟨hx,hd⟩
  ·obtain ⟨w1,w2⟩:=lens i w hw
   split
   ·exact addL_len w1 w2 hx hd
   ·exact ⟨w1,w2⟩
 ·rcases a9X haM hy with ⟨rfl,rfl⟩|⟨hne,w,hw,rfl⟩
  ·exact h1
  ·obtain ⟨w1,w2⟩:=lens i w hw
   split
   ·rw [b7N (by omega),h.fst i w hw,hp i w hw];rfl
   ·exact h.fst i w hw
 ·rcases a9X haM hy with ⟨rfl,rfl⟩|⟨hne,w,hw,rfl⟩
  ·exact h2 j hj
  ·obtain ⟨w1,w2⟩:=lens i w hw
   split
   ·rename_i hq
    have hai:i<a:=by
     rcases Nat.lt_trichotomy a i with q|q|q
     ·rw [h.lo i w a hw q] at hq;cases hq
     ·exact absurd q.symm hne
     ·exact q
    rw [b7N (by omega),h.lo i w j hw hj,h2 j (by omega)];rfl
   ·exact h.lo i w j hw hj
 ·rcases a9X haM hy with ⟨rfl,rfl⟩|⟨hne,u,hu,rfl⟩
  ·rcases a9X haM hw with ⟨e,_⟩|⟨_,v,hv,_⟩
   ·exact absurd e.symm hij
   ·exact hp j v hv
  ·obtain ⟨w1,w2⟩:=lens i u hu
   rcases a9X haM hw with ⟨rfl,_⟩|⟨_,v,hv,_⟩
   ·split
    ·rename_i hq
     rw [b7N (by omega),hq,h1];rfl
    ·rename_i hq
     simpa using hq
   ·split
    ·rw [b7N (by omega),h.piv i j u v hu hv hij,hp j v hv];rfl
    ·exact h.piv i j u v hu hv hij
theorem RR_none {n z:Nat}:RR n z (List.replicate n none):=by
 have hn:∀ i (y:LN),((List.replicate n none:List (Option LN))[i]?=some (some y))→False:=fun i y h=>by
  have:=a5I h
  cases List.eq_of_mem_replicate this
 exact ⟨⟨by simp,fun y hy=>by cases List.eq_of_mem_replicate hy⟩,fun i y h=>(hn i y h).elim,fun i y j h=>(hn i y h).elim,fun i j y w h=>(hn i y h).elim⟩
def cntS:List (Option LN)→Nat
 | []=>0
 | none::t=>cntS t
 | some _::t=>cntS t+1
theorem cntS_set:∀ {M:List (Option LN)} {i:Nat} {x:LN},M[i]?=some none→cntS (M.set i (some x))=cntS M+1
 | [],i,x,h=>by simp at h
 | o::M,0,x,h=>by
  simp at h
  subst h
  rfl
 | o::M,i+1,x,h=>by
  simp at h
  have:=cntS_set (x:=x) h
  cases o with
  | none=>simpa [cntS] using this
  | some y=>simp [cntS,this]
theorem b9U (a:Nat) (x:LN):∀ M:List (Option LN),cntS (M.map (clrL a x))=cntS M
 | []=>rfl
 | none::M=>by simp only [List.map_cons,clrL,Option.map_none,cntS];exact b9U a x M
 | some y::M=>by simp only [List.map_cons,clrL,Option.map_some,cntS];rw [b9U a x M]
theorem cntS_addM {M:List (Option LN)} {a:Nat} {x:LN} (h:M[a]?=some none):cntS (addM M a x)=cntS M+1:=by
 rw [addM,cntS_set (by rw [List.getElem?_map,h];rfl),b9U]
theorem b4O:∀ M:List (Option LN),cntS M≤M.length
 | []=>Nat.le_refl _
 | none::M=>by simp only [cntS,List.length_cons];have:=b4O M;omega
 | some y::M=>by simp only [cntS,List.length_cons];have:=b4O M;omega
theorem cntS_none (n:Nat):cntS (List.replicate n none)=0:=by
 induction n with
 | zero=>rfl
 | succ n ih=>rw [List.replicate_succ];exact ih
theorem b2E:∀ (A B:List (Option LN)),cntS (A++B)=cntS A+cntS B
 | [],B=>by simp [cntS]
 | none::A,B=>by simp only [List.cons_append,cntS];exact b2E A B
 | some y::A,B=>by simp only [List.cons_append,cntS,b2E A B];omega
theorem a8V {n z:Nat} {M:List (Option LN)} (h:RR n z M) {v:LN} (hx:v.1.length=n) (hd:v.2.length=z):firstV (red M v).1 = -1∨∃ a:Nat,firstV (red M v).1=a∧M[a]?=some none∧RR n z (addM M a (red M v))∧cntS (addM M a (red M v))=cntS M+1:=by
 obtain ⟨l1,l2⟩:=a5V h.lok hx hd M.length
 rcases first_cases (red M v).1 with e|⟨a,e,ha,h1,h2⟩
 ·exact .inl e
 ·have ha:a<n:=by
   have l1:(red M v).1.length=n:=l1
   omega
  have hf:=red_free h hx hd ha h1
  exact .inr ⟨a,e,hf,addM_RR h l1 l2 ha h1 h2 (fun j w hw=>red_piv h hx hd hw) hf,cntS_addM hf⟩
open Go.RowKit Go.Proofs
theorem rt_tmp3 {P:Program} {n:Nat} {e:Ev} {W:World} {H:List Hl} {X:Type} {fn:Func} {good:X→Prop} {val:X→Value} {res:X→List Hl} {t t' t2:Nat} {v v' v2:Value} (r:X) (hres:fn.results = #[.tmp t,.tmp t',.tmp t2]) (hl:look e t=some v) (hl':look e t'=some v') (hl2:look e t2=some v2) (hv : .tuple #[v,v',v2]=val r) (hg:good r) (hE:Ent H (res r)) :
  Rt P (.fn fn fun x w'=>∃ r,good r∧x = .returned (val r)∧Ext W w'∧sat w' (stars (res r))) n e W H :=
 rt_fn (v := .tuple #[v,v',v2]) (fun a w ho=>by simp [results,hres,ho.ev.get t v hl,ho.ev.get t' v' hl',ho.ev.get t2 v2 hl2]) r hg hv hE
theorem MOk.none {n z:Nat} (h1:1≤n) (h2:n≤256) (h3:1≤z) (h4:z≤16):MOk n z (List.replicate n none):=⟨by simp,h1,h2,h3,h4,fun r hr=>by cases List.eq_of_mem_replicate hr⟩
end Go.Dp
namespace Go.Dp
theorem b5M (f g:Nat→Bool):∀ n,xsB (fun j=>f j ^^ g j) n=(xsB f n ^^ xsB g n)
 | 0=>rfl
 | n+1=>by
  rw [xsB,xsB,xsB,b5M f g n]
  cases xsB f n <;> cases xsB g n <;> cases f n <;> cases g n <;> rfl
theorem c0L (f:Nat→Bool) (c:Bool):∀ n,xsB (fun j=>f j && c) n=(xsB f n && c)
 | 0=>by simp [xsB]
 | n+1=>by
  rw [xsB,xsB,c0L f c n]
  cases xsB f n <;> cases f n <;> cases c <;> rfl
theorem b5N {f g:Nat→Bool} {n:Nat} (h:∀ j,j<n→f j=g j):xsB f n=xsB g n:=by
 induction n with
 | zero=>rfl
 | succ n ih=>rw [xsB,xsB,ih (fun j hj=>h j (by omega)),h n (by omega)]
def rd (n:Nat) (M:List (Option LN)) (w:List Bool) (k:Nat):Bool:=at_ w k ^^ xsB (fun j=>at_ w j && rowAt M j k) n
theorem c1O {n z:Nat} {M:List (Option LN)} (h:RR n z M) {x:LN} (hx:x.1.length=n) (hd:x.2.length=z) (k:Nat):at_ (red M x).1 k=rd n M x.1 k:=by
 rw [red,h.lok.len]
 exact c0S h hx hd n (Nat.le_refl _) k
theorem c1P (n:Nat) (M:List (Option LN)) {w v:List Bool} (hl:w.length=v.length) (k:Nat):rd n M (xorV w v) k=(rd n M w k ^^ rd n M v k):=by
 have ha:∀ j,at_ (xorV w v) j=(at_ w j ^^ at_ v j):=fun j=>a5S hl j
 unfold rd
 rw [ha k,b5N (g:=fun j=>(at_ w j && rowAt M j k) ^^ (at_ v j && rowAt M j k)) (fun j _=>by
  rw [ha j]
  cases at_ w j <;> cases at_ v j <;> cases rowAt M j k <;> rfl),b5M]
 cases at_ w k <;> cases at_ v k <;> simp
theorem b4A {M:List (Option LN)} {a:Nat} (h:M[a]?=some none) (k:Nat):rowAt M a k=false:=by
 unfold rowAt
 rw [List.getD_eq_getElem?_getD,h]
 rfl
theorem rowAt_addM {n z:Nat} {M:List (Option LN)} (h:LOk n z M) {a:Nat} {x:LN} (ha:a<M.length) (hx:x.1.length=n) (j k:Nat):rowAt (addM M a x) j k=if j=a then at_ x.1 k else (rowAt M j k ^^ (rowAt M j a && at_ x.1 k)):=by
 unfold rowAt addM
 rw [List.getD_eq_getElem?_getD,List.getElem?_set]
 by_cases e:j=a
 ·subst e
  rw [if_pos rfl,if_pos rfl,List.length_map,if_pos ha]
  rfl
 ·rw [if_neg (fun q=>e q.symm),if_neg e,List.getElem?_map,List.getD_eq_getElem?_getD]
  cases ho:M[j]? with
  | none=>rfl
  | some o =>
   cases o with
   | none=>rfl
   | some y =>
    obtain ⟨y1,y2⟩:=h.ok y (a5I ho)
    show at_ (if at_ y.1 a=true then addL y x else y).1 k=(at_ y.1 k ^^ (at_ y.1 a && at_ x.1 k))
    cases at_ y.1 a
    ·simp
    ·simpa using b7N (by omega) k
theorem rd_addM {n z:Nat} {M:List (Option LN)} (h:LOk n z M) {a:Nat} {x:LN} (ha:a<n) (hx:x.1.length=n) (hf:M[a]?=some none) (w:List Bool) (k:Nat):rd n (addM M a x) w k=(rd n M w k ^^ (rd n M w a && at_ x.1 k)):=by
 have haM:a<M.length:=by rw [h.len];exact ha
 unfold rd
 rw [b5N (g:=fun j=>((at_ w j && rowAt M j k) ^^ ((at_ w j && rowAt M j a) && at_ x.1 k)) ^^ (decide (j=a) && (at_ w a && at_ x.1 k))) (fun j _=>by
  rw [rowAt_addM h haM hx]
  by_cases e:j=a
  ·subst e
   rw [if_pos rfl,b4A hf,b4A hf]
   cases at_ w j <;> simp
  ·rw [if_neg e]
   simp only [e,decide_false,Bool.false_and,Bool.xor_false]
   cases at_ w j <;> simp),b5M,b5M,c0L,c0L,b7W (g:=fun j=>decide (j=a)) (j:=a) ha (fun i _ hi=>by simp [hi])]
 simp only [decide_true,Bool.true_and]
 cases at_ w k <;> cases at_ w a <;> cases xsB (fun j=>at_ w j && rowAt M j k) n <;> cases xsB (fun j=>at_ w j && rowAt M j a) n <;> cases at_ x.1 k <;> rfl
def sp (n:Nat) (M:List (Option LN)) (w:List Bool):Prop:=∀ k,rd n M w k=false
theorem sp_xor {n:Nat} {M:List (Option LN)} {w v:List Bool} (hl:w.length=v.length) (h1:sp n M w) (h2:sp n M v):sp n M (xorV w v):=fun k=>by rw [c1P n M hl,h1 k,h2 k];rfl
def addF (M:List (Option LN)) (v:LN):List (Option LN):=if firstV (red M v).1 = -1 then M else addM M (firstV (red M v).1).toNat (red M v)
theorem b3Q {M:List (Option LN)} {v:LN} (h:firstV (red M v).1 = -1):addF M v=M:=if_pos h
theorem b3R {M:List (Option LN)} {v:LN} {a:Nat} (h:firstV (red M v).1=a):addF M v=addM M a (red M v):=by
 unfold addF
 rw [if_neg (by omega),h]
 rfl
theorem b4V {n z:Nat} {M:List (Option LN)} (h:RR n z M) {v:LN} (hx:v.1.length=n) (hd:v.2.length=z):firstV (red M v).1 = -1↔sp n M v.1:=by
 obtain ⟨l1,l2⟩:=a5V h.lok hx hd M.length
 have l1:(red M v).1.length=n:=l1
 constructor
 ·intro e k
  rw [←c1O h hx hd k]
  by_cases hk:k<n
  ·rcases hb:at_ (red M v).1 k with _|_
   ·rfl
   ·obtain ⟨m,hm,hmin⟩:=least (p:=fun i=>at_ (red M v).1 i=true) ⟨k,hb⟩
    have hmn:m<(red M v).1.length:=by
     by_cases q:m<(red M v).1.length
     ·exact q
     ·have:at_ (red M v).1 m=false:=b3C (by omega)
      rw [this] at hm;cases hm
    have:=firstV_is (l:=(red M v).1) hmn hm (fun j hj=>by
     have:=hmin j hj
     simpa using this)
    omega
  ·exact b3C (by omega)
 ·intro e
  exact firstV_none (fun j _=>by rw [c1O h hx hd j];exact e j)
theorem c1K {n z:Nat} {M:List (Option LN)} (h:RR n z M) {v:LN} (hx:v.1.length=n) (hd:v.2.length=z):RR n z (addF M v):=by
 rcases a8V h hx hd with e|⟨a,e,_,h1,_⟩
 ·rw [b3Q e];exact h
 ·rw [b3R e];exact h1
theorem b8C {n z:Nat} {M:List (Option LN)} (h:RR n z M) {v:LN} (hx:v.1.length=n) (hd:v.2.length=z) {w:List Bool} (hw:w.length=n):sp n (addF M v) w↔sp n M w∨sp n M (xorV w v.1):=by
 obtain ⟨l1,l2⟩:=a5V h.lok hx hd M.length
 have l1:(red M v).1.length=n:=l1
 have hl:w.length=v.1.length:=by omega
 rcases a8V h hx hd with e|⟨a,e,hf,_,_⟩
 ·rw [b3Q e]
  have hv:=(b4V h hx hd).1 e
  constructor
  ·exact .inl
  ·rintro (q|q)
   ·exact q
   ·intro k
    have:=q k
    rw [c1P n M hl,hv k] at this
    simpa using this
 ·rw [b3R e]
  have ha:a<n:=by
   have:=(List.getElem?_eq_some_iff.1 hf).1
   rw [h.lok.len] at this
   exact this
  have hxa:at_ (red M v).1 a=true:=by
   rcases first_cases (red M v).1 with q|⟨a',q,_,q2,_⟩
   ·omega
   ·have:a=a':=by omega
    subst this;exact q2
  have hr:∀ k,rd n (addM M a (red M v)) w k=(rd n M w k ^^ (rd n M w a && rd n M v.1 k)):=fun k=>by rw [rd_addM h.lok ha l1 hf,c1O h hx hd]
  rw [c1O h hx hd] at hxa
  constructor
  ·intro q
   cases hb:rd n M w a
   ·refine .inl (fun k=>?_)
    have:=q k
    rw [hr,hb] at this
    simpa using this
   ·refine .inr (fun k=>?_)
    have:=q k
    rw [hr,hb] at this
    rw [c1P n M hl]
    simpa using this
  ·rintro (q|q)
   ·intro k
    rw [hr,q k,q a];rfl
   ·have hq:∀ k,rd n M w k=rd n M v.1 k:=fun k=>by
     have:=q k
     rw [c1P n M hl] at this
     simpa using this
    intro k
    rw [hr,hq a,hxa,hq k]
    simp
theorem rd_zero (n:Nat) (M:List (Option LN)) {w:List Bool} (h:∀ k,at_ w k=false) (k:Nat):rd n M w k=false:=by
 unfold rd
 rw [h k,a8X (fun i _=>by rw [h i];rfl)];rfl
theorem sp_self {n z:Nat} {M:List (Option LN)} (h:RR n z M) {v:LN} (hx:v.1.length=n) (hd:v.2.length=z):sp n (addF M v) v.1:=by
 refine (b8C h hx hd hx).2 (.inr (fun k=>rd_zero n M (fun j=>?_) k))
 rw [show at_ (xorV v.1 v.1) j=(at_ v.1 j ^^ at_ v.1 j) from a5S rfl j]
 simp
theorem sp_pivot {n z:Nat} {A:List (Option LN)} (h:RR n z A) {w:List Bool} (hw:sp n A w) {i:Nat} (hi:i<n) (h1:at_ w i=true) (h2:∀ j,j<i→at_ w j=false):∃ y,A[i]?=some (some y):=by
 have:=hw i
 unfold rd at this
 rw [b7W hi (fun j hj hne=>?_),h1] at this
 ·simp only [Bool.true_and,Bool.true_xor,Bool.not_eq_false'] at this
  unfold rowAt at this
  cases ho:A.getD i none with
  | none=>rw [ho] at this;simp at this
  | some y=>exact ⟨y,getD_some ho⟩
 ·by_cases hji:j<i
  ·rw [h2 j hji];rfl
  ·unfold rowAt
   cases ho:A.getD j none with
   | none=>simp
   | some y =>
    show (at_ w j && at_ y.1 i)=false
    rw [h.lo j y i (getD_some ho) (by omega),Bool.and_false]
theorem at_ext {a b:List Bool} (hl:a.length=b.length) (h:∀ k,at_ a k=at_ b k):a=b:=by
 apply List.ext_getElem hl
 intro i h1 h2
 have:=h i
 unfold at_ at this
 rw [List.getD_eq_getElem?_getD,List.getD_eq_getElem?_getD,List.getElem?_eq_getElem h1,List.getElem?_eq_getElem h2] at this
 exact this
def DOk (D:List Bool→List (BitVec 8)) (M:List (Option LN)):Prop:=∀ y,some y∈M→y.2=D y.1
def foldA (n:Nat) (D:List Bool→List (BitVec 8)) (rs:List (List Bool)):List (Option LN):=rs.foldl (fun M v=>addF M (v,D v)) (List.replicate n none)
theorem foldA_nil (n:Nat) (D:List Bool→List (BitVec 8)):foldA n D []=List.replicate n none:=rfl
theorem a5R (n:Nat) (D:List Bool→List (BitVec 8)) (rs:List (List Bool)) (v:List Bool):foldA n D (rs++[v])=addF (foldA n D rs) (v,D v):=by simp [foldA]
theorem a9F {α:Type} {P:List α→Prop} (h0:P []) (hs:∀ l a,P l→P (l++[a])) (l:List α):P l:=by
 have:∀ m:List α,P m.reverse:=by
  intro m
  induction m with
  | nil=>exact h0
  | cons a m ih=>rw [List.reverse_cons];exact hs _ _ ih
 simpa using this l.reverse
theorem b1L {n z:Nat} {D:List Bool→List (BitVec 8)} (hD:∀ v,v.length=n→(D v).length=z):∀ rs:List (List Bool),(∀ v∈rs,v.length=n)→RR n z (foldA n D rs) :=
 a9F (fun _=>RR_none) (fun l a ih h=>by
  rw [a5R]
  exact c1K (ih (fun v hv=>h v (by simp [hv]))) (h a (by simp)) (hD a (h a (by simp))))
theorem foldA_sub {n z:Nat} {D:List Bool→List (BitVec 8)} (hD:∀ v,v.length=n→(D v).length=z) {T:List Bool→Prop} (h0:T (List.replicate n false)) (hx:∀ a b,a.length=n→b.length=n→T a→T b→T (xorV a b)):∀ rs:List (List Bool),(∀ v∈rs,v.length=n∧T v)→∀ w,w.length=n→sp n (foldA n D rs) w→T w :=
 a9F (fun _ w hw hs=>by
  have:w=List.replicate n false:=at_ext (by simp [hw]) (fun k=>by
   have h1:=hs k
   unfold rd at h1
   rw [a8X (fun j hj=>?_),Bool.xor_false] at h1
   ·rw [h1]
    unfold at_
    rw [List.getD_eq_getElem?_getD,List.getElem?_replicate]
    split <;> rfl
   ·rw [b4A (by rw [foldA_nil,List.getElem?_replicate,if_pos hj]),Bool.and_false])
  rw [this];exact h0)
 (fun l a ih h w hw hs=>by
  rw [a5R] at hs
  obtain ⟨ha,hTa⟩:=h a (by simp)
  have hl:∀ v∈l,v.length=n∧T v:=fun v hv=>h v (by simp [hv])
  rcases (b8C (b1L hD l (fun v hv=>(hl v hv).1)) ha (hD a ha) hw).1 hs with q|q
  ·exact ih hl w hw q
  ·have hwl:(xorV w a).length=n:=by rw [a8Y (by omega)];exact hw
   have h1:=hx _ _ hwl ha (ih hl _ hwl q) hTa
   have e:xorV (xorV w a) a=w:=at_ext (by rw [a8Y (by omega),hwl,hw]) (fun k=>by
    have e1:at_ (xorV (xorV w a) a) k=(at_ (xorV w a) k ^^ at_ a k):=a5S (by omega) k
    have e2:at_ (xorV w a) k=(at_ w k ^^ at_ a k):=a5S (by omega) k
    rw [e1,e2];simp)
   rw [e] at h1
   exact h1)
def Lin (n z:Nat) (D:List Bool→List (BitVec 8)):Prop:=(∀ v,v.length=n→(D v).length=z)∧∀ a b,a.length=n→b.length=n→D (xorV a b)=xorL (D a) (D b)
theorem redT_D {n z:Nat} {D:List Bool→List (BitVec 8)} (hD:Lin n z D) {M:List (Option LN)} (h:LOk n z M) (hM:DOk D M) {x:LN} (hx:x.1.length=n) (hxd:x.2=D x.1):∀ i,(redT M x i).2=D (redT M x i).1
 | 0=>hxd
 | i+1=>by
  have ih:=redT_D hD h hM hx hxd i
  have hd:x.2.length=z:=by rw [hxd];exact hD.1 _ hx
  obtain ⟨l1,l2⟩:=a5V h hx hd i
  rw [redT]
  cases ho:M.getD i none with
  | none=>exact ih
  | some y =>
   have hy:=a5I (getD_some ho)
   show (if at_ (redT M x i).1 i=true then addL (redT M x i) y else redT M x i).2=D (if at_ (redT M x i).1 i=true then addL (redT M x i) y else redT M x i).1
   split
   ·show xorL (redT M x i).2 y.2=D (xorV (redT M x i).1 y.1)
    rw [hD.2 _ _ l1 (h.ok y hy).1,ih,hM y hy]
   ·exact ih
theorem addF_D {n z:Nat} {D:List Bool→List (BitVec 8)} (hD:Lin n z D) {M:List (Option LN)} (h:RR n z M) (hM:DOk D M) {v:List Bool} (hv:v.length=n):DOk D (addF M (v,D v)):=by
 rcases a8V h (v:=(v,D v)) hv (hD.1 v hv) with e|⟨a,e,hf,_,_⟩
 ·rw [b3Q e];exact hM
 ·rw [b3R e]
  obtain ⟨l1,l2⟩:=a5V h.lok (x:=(v,D v)) hv (hD.1 v hv) M.length
  have l1:(red M (v,D v)).1.length=n:=l1
  have hx:(red M (v,D v)).2=D (red M (v,D v)).1:=redT_D hD h.lok hM (x:=(v,D v)) hv rfl M.length
  intro y hy
  obtain ⟨i,hi⟩:=List.getElem?_of_mem hy
  rcases a9X (List.getElem?_eq_some_iff.1 hf).1 hi with ⟨_,rfl⟩|⟨_,w,hw,rfl⟩
  ·exact hx
  ·have hwm:=a5I hw
   split
   ·show xorL w.2 (red M (v,D v)).2=D (xorV w.1 (red M (v,D v)).1)
    rw [hD.2 _ _ (h.lok.ok w hwm).1 l1,hM w hwm,hx]
   ·exact hM w hwm
theorem foldA_D {n z:Nat} {D:List Bool→List (BitVec 8)} (hD:Lin n z D):∀ rs:List (List Bool),(∀ v∈rs,v.length=n)→DOk D (foldA n D rs) :=
 a9F (fun _ y hy=>by cases List.eq_of_mem_replicate hy) (fun l a ih h=>by
  rw [a5R]
  have hl:∀ v∈l,v.length=n:=fun v hv=>h v (by simp [hv])
  exact addF_D hD (b1L hD.1 l hl) (ih hl) (h a (by simp)))
theorem a8N:∀ {M:List (Option LN)},cntS M=M.length→∀ i,i<M.length→∃ y,M[i]?=some (some y)
 | [],_,i,hi=>by cases hi
 | none::M,h,i,hi=>by
  have:=b4O M
  simp only [cntS,List.length_cons] at h
  omega
 | some y::M,h,0,hi=>⟨y,rfl⟩
 | some y::M,h,i+1,hi=>by
  simp only [cntS,List.length_cons] at h
  have hi:i+1<M.length+1:=hi
  obtain ⟨u,hu⟩:=a8N (M:=M) (by omega) i (by omega)
  exact ⟨u,by simpa using hu⟩
theorem full_unit {n z:Nat} {M:List (Option LN)} (h:RR n z M) (hc:cntS M=n) {i:Nat} {y:LN} (hy:M[i]?=some (some y)) (k:Nat):at_ y.1 k=decide (k=i):=by
 have hi:i<n:=by rw [←h.lok.len];exact (List.getElem?_eq_some_iff.1 hy).1
 by_cases e:k=i
 ·subst e
  rw [h.fst k y hy];simp
 ·by_cases hk:k<n
  ·obtain ⟨w,hw⟩:=a8N (M:=M) (by rw [hc,h.lok.len]) k (by rw [h.lok.len];exact hk)
   rw [h.piv i k y w hy hw (fun q=>e q.symm)];simp [e]
  ·have:at_ y.1 k=false:=b3C (by have:=(h.lok.ok y (a5I hy)).1;omega)
   rw [this];simp [e]
def xsum (g:Nat→BitVec 8):Nat→BitVec 8
 | 0=>0#8
 | n+1=>xsum g n ^^^ g n
def pickB (on:Bool) (x:BitVec 8):BitVec 8:=if on then x else 0#8
theorem b0T {g h:Nat→BitVec 8} {n:Nat} (e:∀ i,i<n→g i=h i):xsum g n=xsum h n:=by
 induction n with
 | zero=>rfl
 | succ n ih=>rw [xsum,xsum,ih (fun i hi=>e i (by omega)),e n (by omega)]
theorem xsum_xor (g h:Nat→BitVec 8) (n:Nat):xsum (fun i=>g i ^^^ h i) n=xsum g n ^^^ xsum h n:=by
 induction n with
 | zero=>simp [xsum]
 | succ n ih =>
  rw [xsum,xsum,xsum,ih]
  rw [BitVec.xor_assoc,BitVec.xor_assoc]
  congr 1
  rw [←BitVec.xor_assoc,←BitVec.xor_assoc,BitVec.xor_comm (xsum h n)]
theorem xsum_zero {g:Nat→BitVec 8} {n:Nat} (e:∀ i,i<n→g i=0#8):xsum g n=0#8:=by
 induction n with
 | zero=>rfl
 | succ n ih=>rw [xsum,ih (fun i hi=>e i (by omega)),e n (by omega)];rfl
theorem xsum_add (g:Nat→BitVec 8) (a b:Nat):xsum g (a+b)=xsum g a ^^^ xsum (fun i=>g (a+i)) b:=by
 induction b with
 | zero=>simp [xsum]
 | succ b ih=>rw [←Nat.add_assoc,xsum,xsum,ih,BitVec.xor_assoc]
theorem xsum_one {g:Nat→BitVec 8} {n j:Nat} (hj:j<n) (e:∀ i,i<n→i≠j→g i=0#8):xsum g n=g j:=by
 induction n with
 | zero=>omega
 | succ n ih =>
  rw [xsum]
  by_cases h:j=n
  ·subst h
   rw [xsum_zero (fun i hi=>e i (by omega) (by omega))];simp
  ·rw [ih (by omega) (fun i hi hne=>e i (by omega) hne),e n (by omega) (fun q=>h q.symm)];simp
def at8 (l:List (List (BitVec 8))) (i k:Nat):BitVec 8:=(l.getD i []).getD k 0#8
def parS (f:Nat→Bool) (l:List (List (BitVec 8))) (z:Nat):List (BitVec 8):=(List.range z).map (fun k=>xsum (fun i=>pickB (f i) (at8 l i k)) l.length)
theorem parS_len (f:Nat→Bool) (l:List (List (BitVec 8))) (z:Nat):(parS f l z).length=z:=by simp [parS]
theorem parS_at (f:Nat→Bool) (l:List (List (BitVec 8))) (z k:Nat) (h:k<z):(parS f l z).getD k 0#8=xsum (fun i=>pickB (f i) (at8 l i k)) l.length:=by
 simp [parS,List.getD_eq_getElem?_getD,h]
theorem row_nothing (K P j:Nat) (hj:j<P) (b:Nat→Bool) (g:Nat→BitVec 8) (hp:g (K+j)=xsum (fun i=>pickB (b i) (g i)) K) :
  xsum (fun i=>pickB ((decide (i<K) && b i) || decide (i=K+j)) (g i)) (K+P)=0#8:=by
 rw [xsum_add,xsum_one (j:=j) hj (fun i hi hne=>?_),b0T (h:=fun i=>pickB (b i) (g i)) (fun i hi=>?_),←hp]
 ·simp [pickB]
 ·have : ¬ i=K+j:=by omega
  simp [hi,this]
 ·have h1 : ¬ (K+i<K):=by omega
  have h2 : ¬ (K+i=K+j):=by omega
  simp [h1,pickB,hne]
open Go.RowKit Go.Proofs
theorem elim_Says (H:List Hl) (bm n z:Nat) (ar:Option Addr) (cr k:Nat) (M:List (Option RD)) (v:VD) (ML:List (Option LN)) (b:Bool) (hM:RdM (stars H) bm n z ar cr k M) (hML:M.map vw=ML) (hv:RdV (stars H) v) (hvn:v.n=n) (hb:decide (0≤firstV (red ML (v.l,List.replicate z 0#8)).1)=b) (ht:TabF (stars H)) :
  Spec Tryz.prog 162 [.pointer (some ⟨bm,0,none⟩),Pv v] H (fun _:Unit=>True) (fun _ => .bool b) (fun _=>H):=by
 refine sP (res:=fun _=>[]) H Tryz.func162 Tryz.ntmps162 fun W=>?_
 have hLk:=hM.ok.vw
 have hvl:v.l.length=n:=by rw [hv.ok.len,hvn]
 rw [hML] at hLk
 obtain ⟨x,hx⟩:∃ x,red ML (v.l,List.replicate z 0#8)=x:=⟨_,rfl⟩
 obtain ⟨hxl,hxd⟩:x.1.length=n∧x.2.length=z:=by rw [←hx];exact a5V hLk hvl (by simp) _
 rw [hx] at hb
 have l3:=hM.ok.n2
 have hpn:=padD_nil z
 obtain ⟨xl,xd⟩:=x
 dsimp only at hxl hxd hb
 repeat' (first|intro _|refine a4N rfl rfl ?_|(refine k_fn 197 ?_;(refine a0A (fun _=>b0L _ bm n z ar cr k M v none 0 0 [] hM.up hv.up hvn (Rs.nil (by decide)) rfl (Nat.zero_le _)) rfl (fun ⟨b7,⟨vb,vn,va,vc,vl⟩,ad7,z7,cd7,d7⟩ hr=>?_);dsimp only at hr ⊢;obtain ⟨rfl,rfl,hr3⟩:=hr;rw [hML,hpn,hx] at hr3;obtain ⟨rfl,rfl⟩:=Prod.mk.inj hr3))|(refine k_fn 198 ?_;refine a0A (fun hh=>b5Q _ ⟨vb,vn,va,vc,vl⟩ (RdV.own hxl l3 hh) ht.up) rfl (fun _ _=>?_))|(refine a0D .geq ?_;refine b2X rfl rfl ?_)|refine wK ?_|refine wL ?_ ?_|fail)
 refine a0E () rfl rfl ?_ trivial ?_
 ·show Value.bool _=Value.bool b
  rw [←hb]
 exact ent
def p1 (seed:BitVec 8) (i:Nat):BitVec 8:=BitVec.ofInt 8 (i:Int) ^^^ seed
end Go.Dp
namespace Go.Dp
def mixA (x:BitVec 32):BitVec 32:=(x ^^^ (x >>> 16))*0x7feb352d#32
def mixB (x:BitVec 32):BitVec 32:=(x ^^^ (x >>> 15))*0x846ca68b#32
def mixR (x:BitVec 32):BitVec 32:=mixB (mixA x) ^^^ (mixB (mixA x) >>> 16)
def srcNew (a b:BitVec 32):BitVec 32:=mixR a+b*0x9e3779b9#32+1#32
def nzR (s:BitVec 32):BitVec 32:=if s=0#32 then 1#32 else s
def stepA (x:BitVec 32):BitVec 32:=x ^^^ (x <<< 13)
def stepB (x:BitVec 32):BitVec 32:=x ^^^ (x >>> 17)
def stepC (x:BitVec 32):BitVec 32:=x ^^^ (x <<< 5)
def srcNx (s:BitVec 32):BitVec 32:=stepC (stepB (stepA (nzR s)))
def srcAt (s:BitVec 32):Nat→BitVec 32
 | 0=>s
 | n+1=>srcNx (srcAt s n)
def numR (s:BitVec 32) (n:Nat):BitVec 32:=mixR (srcAt s (n+1))
def oddR (s:BitVec 32) (n:Nat):Bool:=decide ((numR s n &&& 1#32)=1#32)
def parR (sess:BitVec 32) (K j:Nat) (i:Nat):Bool:=(decide (i<K) && oddR (srcNew sess (BitVec.ofNat 32 (2147483648+j))) i) || decide (i=K+j)
def rowR (sess:BitVec 32) (n K j:Nat):List Bool:=(List.range n).map (parR sess K j)
theorem a9E (sess:BitVec 32) (n K j:Nat):(rowR sess n K j).length=n:=by simp [rowR]
theorem b8L (sess:BitVec 32) (n K j i:Nat) (h:i<n):(rowR sess n K j).getD i false=parR sess K j i:=by simp [rowR,List.getD_eq_getElem?_getD,h]
def rowTill (sess:BitVec 32) (n K j i:Nat):List Bool:=(List.range n).map (fun m=>(decide (m<i) && (decide (m<K) && oddR (srcNew sess (BitVec.ofNat 32 (2147483648+j))) m)) || decide (m=K+j))
theorem a5G (sess:BitVec 32) (n K j i:Nat):(rowTill sess n K j i).length=n:=by simp [rowTill]
theorem b1B (sess:BitVec 32) (n K j i m:Nat) (h:m<n):(rowTill sess n K j i).getD m false=((decide (m<i) && (decide (m<K) && oddR (srcNew sess (BitVec.ofNat 32 (2147483648+j))) m)) || decide (m=K+j)):=by simp [rowTill,List.getD_eq_getElem?_getD,h]
theorem rowTill_all (sess:BitVec 32) (n K j:Nat):rowTill sess n K j K=rowR sess n K j:=by
 refine b9W (by simp [rowTill,rowR]) (fun m hm=>?_)
 rw [a5G] at hm
 rw [b1B _ _ _ _ _ _ hm,b8L _ _ _ _ _ hm,parR]
 by_cases h:m<K <;> simp [h]
theorem rowTill_zero (sess:BitVec 32) (n K j:Nat) (h:K+j<n):rowTill sess n K j 0=bitsOf n [((K+j:Nat):Int)]:=by
 refine b9W (by rw [a5G,a8T]) (fun m hm=>?_)
 rw [a5G] at hm
 rw [b1B _ _ _ _ _ _ hm,b7L _ _ _ hm]
 simp only [Nat.not_lt_zero,decide_false,Bool.false_and,Bool.false_or,List.mem_singleton]
 by_cases q:m=K+j
 ·subst q;simp
 ·have : ¬ ((m:Int)=((K+j:Nat):Int)):=by omega
  rw [decide_eq_false q,decide_eq_false this]
theorem rowTill_succ (sess:BitVec 32) (n K j i:Nat) (hi:i<K) (hn:K≤n):rowTill sess n K j (i+1)=(rowTill sess n K j i).set i (oddR (srcNew sess (BitVec.ofNat 32 (2147483648+j))) i):=by
 refine b9W (by simp [rowTill]) (fun m hm=>?_)
 rw [a5G] at hm
 rw [b7P,a5G,b1B _ _ _ _ _ _ hm,b1B _ _ _ _ _ _ hm]
 by_cases q:i=m
 ·subst q
  have h2 : ¬ i=K+j:=by omega
  simp [hi,hm,h2]
 ·rw [if_neg (fun h=>q h.1)]
  by_cases h3:m<i
  ·simp [h3,show m<i+1 by omega]
  ·simp [h3,show ¬ m<i+1 by omega]
open Go.RowKit Go.Proofs
def rtR1_0:List Row:=[tR 8 [] [],tR 9 [0] [0],tR 10 [1] [0,1],tR 11 [] [],tR 12 [3] [3],tR 13 [] [],tR 14 [5] [5],tR 15 [4,6] [3,4,5,6],tR 16 [7] [3,4,5,6,7],tR 17 [2,8,4] (rG 9)]
theorem xf_load:XFn Tryz.prog 203 (Extern.Atomic.loadT (.int .u32)):=⟨by kernel_rfl,by kernel_rfl⟩
theorem xf_store:XFn Tryz.prog 208 Extern.Atomic.storeT:=⟨by kernel_rfl,by kernel_rfl⟩
theorem xf_cas:XFn Tryz.prog 212 (Extern.Atomic.casT (.int .u32)):=⟨by kernel_rfl,by kernel_rfl⟩
abbrev rB (b:Nat) (s:BitVec 32):Hl := .box b 258 [W4 s]
theorem at_Load (H:List Hl) (b:Nat) (s:BitVec 32) :
  Spec Tryz.prog 188 [.pointer (some ⟨b,0,none⟩)] (rB b s::H) (fun _:Unit=>True) (fun _=>W4 s) (fun _=>rB b s::H):=by
 refine sF (res:=fun _:Unit=>[rB b s]) [rB b s] H Tryz.func188 Tryz.ntmps188 fun W=>?_
 dsimp only [cA,nA]
 repeat' (first|intro _|refine o1_xload xf_load rfl (b:=b) (i:=0) rfl ?_|refine wK ?_|refine wL ?_ ?_|fail)
 refine a0E () rfl rfl rfl trivial ?_
 exact ent
theorem at_Store (H:List Hl) (b:Nat) (s x:BitVec 32) :
  Spec Tryz.prog 179 [.pointer (some ⟨b,0,none⟩),W4 x] (rB b s::H) (fun _:Unit=>True) (fun _ => .tuple #[]) (fun _=>rB b x::H):=by
 refine sF (res:=fun _:Unit=>[rB b x]) [rB b s] H Tryz.func179 Tryz.ntmps179 fun W=>?_
 dsimp only [cA,nA]
 repeat' (first|intro _|refine b6G xf_store rfl (b:=b) (i:=0) (by simp) ?_|refine wK ?_|refine wL ?_ ?_|fail)
 refine a4I () rfl rfl trivial ?_
 exact ent
theorem nzR_eq (s:BitVec 32):(s=0#32∧nzR s=1#32)∨(¬ (s.toNat:Int)=0∧s≠0#32∧nzR s=s):=by
 by_cases h:s=0#32
 ·exact .inl ⟨h,by simp [nzR,h]⟩
 ·refine .inr ⟨fun e=>h (BitVec.eq_of_toNat_eq ?_),h,by simp [nzR,h]⟩
  simp;omega
theorem at_CAS (H:List Hl) (b:Nat) (s:BitVec 32) :
  Spec Tryz.prog 187 [.pointer (some ⟨b,0,none⟩),.int .u32 0,.int .u32 1] (rB b s::H) (fun _:Unit=>True) (fun _ => .bool (decide (s=0#32))) (fun _=>rB b (nzR s)::H):=by
 refine sF (res:=fun _:Unit=>[rB b (nzR s)]) [rB b s] H Tryz.func187 Tryz.ntmps187 fun W=>?_
 dsimp only [cA,nA]
 rcases nzR_eq s with ⟨h,e⟩|⟨h,h2,e⟩
 ·rw [e]
  subst h
  repeat' (first|intro _|refine o1_xcas_t xf_cas rfl (b:=b) (i:=0) rfl ?_|refine wK ?_|refine wL ?_ ?_|fail)
  refine a0E () rfl rfl rfl trivial ?_
  exact ent
 ·rw [e]
  repeat' (first|intro _|refine o1_xcas_f xf_cas rfl (b:=b) (i:=0) rfl h ?_|refine wK ?_|refine wL ?_ ?_|fail)
  refine a0E () rfl rfl (by simp [h2]) trivial ?_
  exact ent
theorem rand_mix (H:List Hl) (x:BitVec 32) :
  Spec Tryz.prog 180 [W4 x] H (fun _:Unit=>True) (fun _=>W4 (mixR x)) (fun _=>H):=by
 refine sP (res:=fun _=>[]) H Tryz.func180 Tryz.ntmps180 fun W=>?_
 have k1:∀ x:BitVec 32,(x ^^^ (x >>> (16:Int).toNat))*0x7feb352d#32=mixA x:=fun _=>rfl
 have k2:∀ x:BitVec 32,(x ^^^ (x >>> (15:Int).toNat))*0x846ca68b#32=mixB x:=fun _=>rfl
 have k3:mixB (mixA x) ^^^ (mixB (mixA x) >>> (16:Int).toNat)=mixR x:=rfl
 repeat' (first|intro _|(refine a0D .mul ?_;first|(refine a7M (v:=0x7feb352d#32) rfl rfl ?_;rw [k1])|(refine a7M (v:=0x846ca68b#32) rfl rfl ?_;rw [k2]))|(refine a0D .xor ?_;(refine a8E rfl rfl ?_;rw [k3]))|refine wK ?_|refine wL ?_ ?_|fail)
 refine a0E () rfl rfl rfl trivial ?_
 exact ent
theorem rand_New (H:List Hl) (a c:BitVec 32) :
  Spec Tryz.prog 137 [W4 a,W4 c] H (fun _:Nat=>True) (fun b => .pointer (some ⟨b,0,none⟩)) (fun b=>rB b (srcNew a c)::H):=by
 refine sP (res:=fun b:Nat=>[rB b (srcNew a c)]) H Tryz.func137 Tryz.ntmps137 fun W=>?_
 repeat' (first|intro _|(refine k_box ?_;refine a1V rfl rfl (fun b1=>?_))|refine wK ?_|refine wL ?_ ?_|fail)
 refine a0H [(5,_),(0,_),(1,_)] rtR1_0 [9] [⟨[0,1,2,3,4,5,6,7,8],[],some 9⟩,⟨[],[],none⟩] mixed cv (by kernel_rfl) (by kernel_rfl) ?_
 repeat' (first|intro _|refine sg ?_|(refine p_fn 180 ?_;refine po (by first|refine a0A (fun _=>rand_mix _ a) rfl (fun _ _=>fz)|fail) ?_)|(refine a1I .mul ?_;refine po (by first|refine a7M (v:=0x9e3779b9#32) rfl rfl fz|fail) ?_)|(refine a1I .add ?_;refine po (by first|refine a8F (v:=1#32) rfl rfl fz|fail) ?_)|refine pw ?_|refine pdd ?_|(refine k_fn 179 ?_;refine a0G (b:=b1) (fun _=>at_Store _ b1 0#32 (mixR a+c*0x9e3779b9#32+1#32)) rfl (fun _ _=>?_))|refine ow ?_|fail)
 all_goals dsimp only [cA,nA]
 repeat' (first|intro _|refine wK ?_|refine wL ?_ ?_|fail)
 refine a0E b1 rfl rfl rfl trivial ?_
 exact ent
theorem b6E (H:List Hl) (b:Nat) (s:BitVec 32) :
  Spec Tryz.prog 141 [.pointer (some ⟨b,0,none⟩)] (rB b s::H) (fun _:Unit=>True) (fun _=>W4 (mixR (srcNx s))) (fun _=>rB b (srcNx s)::H):=by
 refine sF (res:=fun _:Unit=>[rB b (srcNx s)]) [rB b s] H Tryz.func141 Tryz.ntmps141 fun W=>?_
 dsimp only [cA,nA]
 have k1:∀ x:BitVec 32,x ^^^ (x <<< (13:Int).toNat)=stepA x:=fun _=>rfl
 have k2:∀ x:BitVec 32,x ^^^ (x >>> (17:Int).toNat)=stepB x:=fun _=>rfl
 have k3:∀ x:BitVec 32,x ^^^ (x <<< (5:Int).toNat)=stepC x:=fun _=>rfl
 have k4:stepC (stepB (stepA (nzR s)))=srcNx s:=rfl
 repeat' (first|intro _|refine a0S rfl rfl ?_|(refine k_fn 187 ?_;refine a0G (b:=b) (fun _=>at_CAS _ b s) rfl (fun _ _=>?_))|(refine k_fn 188 ?_;refine a0G (b:=b) (fun _=>at_Load _ b (nzR s)) rfl (fun _ _=>?_))|(refine a0D .xor ?_;first|(refine a8E rfl rfl ?_;rw [k1])|(refine a8E rfl rfl ?_;rw [k2])|(refine a8E rfl rfl ?_;rw [k3,k4]))|(refine k_fn 179 ?_;refine a0G (b:=b) (fun _=>at_Store _ b (nzR s) (srcNx s)) rfl (fun _ _=>?_))|(refine k_fn 180 ?_;refine a0A (fun _=>rand_mix _ (srcNx s)) rfl (fun _ _=>?_))|refine wK ?_|refine wL ?_ ?_|fail)
 refine a0E () rfl rfl rfl trivial ?_
 exact ent
abbrev parV (s:BitVec 32) (k p z:Int):Value := .agg #[W4 s,I k,I p,I z]
theorem a4O (H:List Hl) (s:BitVec 32) (k p z:Int):Spec Tryz.prog 135 [parV s k p z] H (fun _:Unit=>True) (fun _=>I (if mayP k p z=true then k+p else 0)) (fun _=>H):=by
 refine sP (res:=fun _=>[]) H Tryz.func135 Tryz.ntmps135 fun W=>?_
 cases hm:mayP k p z
 ·repeat' (first|intro _|(refine k_fn 106 ?_;refine a0A (fun _=>(a5N _ _ _ _ _).bv (b:=false) hm) rfl (fun _ _=>?_))|refine wK ?_|refine wL ?_ ?_|fail)
  refine a0E () rfl rfl rfl trivial ?_
  exact ent
 ·have hb:1≤k∧k≤64∧0≤p∧p≤16∧1≤z∧z≤16:=by simpa [mayP] using hm
  repeat' (first|intro _|(refine k_fn 106 ?_;refine a0A (fun _=>(a5N _ _ _ _ _).bv (b:=true) hm) rfl (fun _ _=>?_))|refine wK ?_|refine wL ?_ ?_|fail)
  refine a0E () rfl rfl rfl trivial ?_
  exact ent
theorem odd_of (x:BitVec 32):decide (((x &&& 1#32).toNat:Int)=1)=decide (x &&& 1#32=1#32):=by
 by_cases h:x &&& 1#32=1#32
 ·simp [h]
 ·have : ¬ (((x &&& 1#32).toNat:Int)=1):=fun e=>h (BitVec.eq_of_toNat_eq (by simp only [BitVec.toNat_ofNat];omega))
  rw [decide_eq_false this,decide_eq_false h]
theorem apart_of (j:Nat):BitVec.ofInt 32 (2147483648+(j:Int))=BitVec.ofNat 32 (2147483648+j):=by
 apply BitVec.eq_of_toNat_eq
 simp only [BitVec.toNat_ofInt,BitVec.toNat_ofNat]
 omega
def rowsL (s:BitVec 32) (K P:Nat):List (List Bool):=(List.range P).map (rowR s (K+P) K)
theorem precode_Rows (H:List Hl) (s:BitVec 32) (K P:Nat) (z:Int) (hm:mayP K P z=true) :
  Spec Tryz.prog 176 [parV s K P z] H (fun r:Option Addr × Nat × List VD=>r.2.2.map (·.l)=rowsL s K P∧∀ v∈r.2.2,v.ok∧v.n=K+P) (fun r => .slice r.1 r.2.2.length r.2.1)
   (fun r => .row 148 1 (.slice r.1 r.2.2.length r.2.1) r.2.2.length (r.2.2.map Pv) :: .any (vecs r.2.2)::H):=by
 refine sP (res:=fun r:Option Addr × Nat × List VD=>[.row 148 1 (.slice r.1 r.2.2.length r.2.1) r.2.2.length (r.2.2.map Pv),.any (vecs r.2.2)]) H Tryz.func176 Tryz.ntmps176 fun W=>?_
 have hb:1≤(K:Int)∧(K:Int)≤64∧0≤(P:Int)∧(P:Int)≤16∧1≤z∧z≤16:=by simpa [mayP] using hm
 obtain ⟨b1,b2,b3,b4,b5,b6⟩:=hb
 have hnv:((K:Int)+P)=((K+P:Nat):Int):=by push_cast;rfl
 repeat' (first|intro _|(refine k_box ?_;refine a1V rfl rfl (fun bp=>?_))|(refine k_fn 135 ?_;refine a0A (fun _=>(a4O _ _ _ _ _).vv (b:=I (K+P:Nat)) (by rw [if_pos hm,hnv])) rfl (fun _ _=>?_))|refine wK ?_|refine wL ?_ ?_|fail)
 refine a3J (a1A 148 Pv) (a3J (fun h hh=>b4Y h (vecs_nil h hh)) ?_)
 refine a0Y (S:=Nat × Option Addr × Nat × List VD) (fun q=>[(1,.pointer (some ⟨bp,0,none⟩)),(3,I (K+P:Nat)),(4,.slice q.2.1 q.2.2.2.length q.2.2.1),(14,I P),(15,I q.1)])
  (fun q=>[.row 148 1 (.slice q.2.1 q.2.2.2.length q.2.2.1) q.2.2.2.length (q.2.2.2.map Pv),.any (vecs q.2.2.2),.box bp 91 [W4 s,I K,I P,I z],.any (stars H)])
  (fun q=>q.1≤P∧q.2.2.2.map (·.l)=(List.range q.1).map (rowR s (K+P) K)∧∀ v∈q.2.2.2,v.ok∧v.n=K+P) (fun q=>P - q.1) (0,none,0,[]) ⟨by omega,rfl,by simp⟩
  cv ent ?_
 rintro ⟨j,a1,c1,vs⟩ ⟨hj,hvs,hok⟩
 dsimp only at hj hvs hok ⊢
 have hlen:vs.length=j:=by have:=congrArg List.length hvs;simpa using this
 by_cases hlt:j<P
 ·have e1:((K:Int)+j)=((K+j:Nat):Int):=by push_cast;rfl
  repeat' (first|intro _|(refine a0D .add ?_;(refine a2F rfl rfl (by omega) ?_;rw [e1]))|(refine a0P ?_;refine a0O I [((K+j:Nat):Int)] rfl rfl rfl (fun _=>rfl) rfl rfl rfl (fun b3=>?_))|(refine k_fn 136 ?_;(refine a0A (fun hh=>c1W _ (K+P) (some ⟨b3,0,none⟩) 1 [((K+j:Nat):Int)] (by omega) (a2H (T:=3) rfl (by decide) hh)) rfl (fun ⟨b4,a4,c4⟩ _=>?_);dsimp only;rw [←rowTill_zero s (K+P) K j (by omega)]))|(refine k_fn 137 ?_;refine a0A (fun _=>rand_New _ s (BitVec.ofInt 32 (2147483648+(j:Int)))) rfl (fun b7 _=>?_))|refine wK ?_|refine wL ?_ ?_|fail)
  rw [apart_of]
  obtain ⟨s0,hs0⟩:∃ s0,srcNew s (BitVec.ofNat 32 (2147483648+j))=s0:=⟨_,rfl⟩
  rw [hs0]
  refine a0Y (S:=Nat) (fun i=>[(1,.pointer (some ⟨bp,0,none⟩)),(3,I (K+P:Nat)),(4,.slice a1 vs.length c1),(5,I j),(6,.pointer (some ⟨b4,0,none⟩)),(7,.pointer (some ⟨b7,0,none⟩)),(14,I P),(15,I j),(32,I K),(33,I i)])
   (fun i=>[vB b4 (K+P) a4 c4,vR (K+P) a4 c4 (rowTill s (K+P) K j i),rB b7 (srcAt s0 i),.row 148 1 (.slice a1 vs.length c1) vs.length (vs.map Pv),.any (vecs vs),.box bp 91 [W4 s,I K,I P,I z],.any (stars H)]) (fun i=>i≤K) (fun i=>K - i) 0 (Nat.zero_le _)
   cv (by show Ent _ [vB b4 (K+P) a4 c4,vR (K+P) a4 c4 (rowTill s (K+P) K j 0),rB b7 s0,.row 148 1 (.slice a1 vs.length c1) vs.length (vs.map Pv),.any (vecs vs),.box bp 91 [W4 s,I K,I P,I z],.any (stars H)];exact ent) ?_
  intro i hi
  by_cases hit:i<K
  ·have e2:setB (rowTill s (K+P) K j i) i (decide (((mixR (srcNx (srcAt s0 i)) &&& 1#32).toNat:Int)=1))=rowTill s (K+P) K j (i+1):=by
    rw [setB_nat _ _ _ (by rw [a5G];omega),rowTill_succ _ _ _ _ _ hit (by omega),odd_of,hs0];rfl
   have e3:srcNx (srcAt s0 i)=srcAt s0 (i+1):=rfl
   repeat' (first|intro _|(refine k_fn 141 ?_;refine a0G (b:=b7) (fun _=>b6E _ b7 (srcAt s0 i)) rfl (fun _ _=>?_))|(refine a0D .and ?_;refine b0F (v:=1#32) rfl rfl ?_)|(refine a0D .eql ?_;refine b9C rfl rfl ?_)|(refine k_fn 178 ?_;(refine b4I b4 a4 c4 (fun _=>vec_Set _ b4 (K+P) a4 c4 (rowTill s (K+P) K j i) i (decide (((mixR (srcNx (srcAt s0 i)) &&& 1#32).toNat:Int)=1)) (a5G _ _ _ _ _) (by omega)) rfl (fun _ _=>?_);rw [e2,e3]))|refine wK ?_|refine wL ?_ ?_|fail)
   refine a0Q (i+1) (by omega) (by omega) cv ?_
   exact ent
  ·have:i=K:=by omega
   subst this
   rw [rowTill_all]
   obtain ⟨v,hv⟩:∃ v:VD,v=⟨b4,i+P,a4,c4,rowR s (i+P) i j⟩:=⟨_,rfl⟩
   have hvl:v.l=rowR s (i+P) i j:=by rw [hv]
   have hvn:v.n=i+P:=by rw [hv]
   have hvk:v.ok:=⟨by rw [hvl,hvn,a9E],by rw [hvn];omega⟩
   have hvp:Pv v = .pointer (some ⟨b4,0,none⟩):=by rw [hv]
   repeat' (first|intro _|(refine a0P ?_;refine a0O Pv [v] rfl rfl (by rw [hv];rfl) (fun _=>rfl) rfl rfl rfl (fun b8=>?_))|(refine a1S ?_;refine a1H (xs:=vs) (ys:=[v]) rfl rfl (a2H rfl (by decide)) rfl rfl (fun _=>rfl) (by omega) (by omega) (fun a9 c9=>?_))|refine wK ?_|refine wL ?_ ?_|fail)
   refine nx_vec (vs:=vs) v (R:=[.row 148 1 (.slice a9 (vs.length+1) c9) (vs.length+1) ((vs++[v]).map Pv),.box bp 91 [W4 s,I i,I P,I z],.any (stars H)]) (by rw [hv];exact ent) ?_
   refine a0Q (j+1,a9,c9,vs++[v]) ⟨?_,?_,?_⟩ ?_ (a0R rfl rfl (a0R rfl rfl (a0R rfl ?_ cv))) ?_
   ·show j+1≤P;omega
   ·show (vs++[v]).map (·.l)=_
    rw [List.map_append,hvs,List.range_succ,List.map_append]
    simp [hvl]
   ·intro u hu
    rcases List.mem_append.1 hu with hu|hu
    ·exact hok u hu
    ·obtain rfl:u=v:=by simpa using hu
     exact ⟨hvk,hvn⟩
   ·show P - (j+1)<P - j;omega
   ·show Value.slice a9 _ c9=Value.slice a9 (vs++[v]).length c9
    rw [List.length_append];rfl
   ·show Ent _ [.row 148 1 (.slice a9 (vs++[v]).length c9) (vs++[v]).length ((vs++[v]).map Pv),.any (vecs (vs++[v])),.box bp 91 [W4 s,I i,I P,I z],.any (stars H)]
    rw [List.length_append,List.length_singleton]
    exact ent
 ·have:j=P:=by omega
  subst this
  repeat' (first|intro _|refine wK ?_|refine wL ?_ ?_|fail)
  refine a0E (a1,c1,vs) rfl rfl rfl ⟨hvs,hok⟩ ?_
  exact ent
def rtD22_0:List Row:=[tR 5 [] [],tR 6 [0] [0],tR 7 [1] [0,1],tG 8 [2] [0,1,2] 2 true,tG 9 [3,2] [0,1,2,3] 2 true,tG 10 [4,2] (rG 5) 2 true,tG 11 [5,2] (rG 6) 2 true,tG 12 [2] [0,1,2] 2 true,tG 13 [7,2] [0,1,2,7] 2 true,tG 14 [8,2] [0,1,2,7,8] 2 true,tG 15 [9,2] [0,1,2,7,8,9] 2 true,tG 16 [2] [0,1,2] 2 true,tG 17 [10,11,2,2] [0,1,2,7,8,9,10,11] 2 true,tG 18 [6,12,12,2] (rG 13) 2 true,tR 19 [2,13] (rG 14),tR 4 [14,13,0,1,2,3,4,5,6,7,8,9,10,11,12,13,14] (rG 15)]
def rtD22_1:List Row:=[tR 7 [] [],tR 8 [0] [0],tR 9 [1] [0,1],tG 10 [2] [0,1,2] 2 false,tG 11 [3,2] [0,1,2,3] 2 false,tG 12 [4,2] (rG 5) 2 false,tG 13 [5,2] (rG 6) 2 false,tG 14 [2] [0,1,2] 2 false,tG 15 [7,2] [0,1,2,7] 2 false,tG 16 [8,2] [0,1,2,7,8] 2 false,tG 17 [9,2] [0,1,2,7,8,9] 2 false,tG 18 [2] [0,1,2] 2 false,tG 19 [10,11,2,2] [0,1,2,7,8,9,10,11] 2 false,tG 20 [2] [0,1,2] 2 false,tG 21 [6,12,13,12,2] (rG 14) 2 false,tG 22 [14,2] (rG 15) 2 false,tR 23 [2,15] (rG 16)]
def rtD22_2:List Row:=[tR 5 [] [],tR 6 [0] [0],tR 7 [1] [0,1],tR 8 [2] [0,1,2],tR 9 [3] [0,1,2,3],tR 10 [] [],tR 11 [5] [5],tR 12 [6] [5,6],tR 13 [7] [5,6,7],tR 14 [8,4] (rG 9),tR 15 [4,9] (rG 10),tR 2 [10,9,0,1,2,3,4,5,6,7,8,9,10] (rG 11)]
def rtD22_3:List Row:=[tR 9 [] [],tR 10 [] [],tR 11 [1] [1],tR 12 [] [],tR 13 [3] [3],tR 14 [2,4,2] [1,2,3,4],tR 15 [0,5] (rG 6),tR 16 [6] (rG 7),tR 3 [7,5,0,1,2,3,4,5,6,7] (rG 8)]
def rtD22_4:List Row:=[tR 24 [] [],tR 25 [0] [0],tR 26 [1] [0,1],tR 27 [2] [0,1,2],tR 28 [] [],tR 29 [] [],tR 30 [5] [5],tR 31 [6,6] [5,6],tR 32 [3,4,7] (rG 8)]
theorem elim_AddF (H:List Hl) (bm n z:Nat) (ar:Option Addr) (cr:Nat) (M:List (Option RD)) (v:VD) (ad0:Option Addr) (m0 c0:Nat) (dd:List (BitVec 8)) (ML:List (Option LN)) (hk:MOk n z M) (hML:M.map vw=ML) (hR:RR n z ML) (hv:RdV (stars H) v) (hvn:v.n=n) (hd:Rs (stars H) B ad0 c0 dd) (hm0:m0=dd.length) (hdl:dd.length=z) (ht:TabF (stars H)) :
  Spec Tryz.prog 168 [.pointer (some ⟨bm,0,none⟩),Pv v,.slice ad0 m0 c0] (mB bm n z ar cr (cntS ML)::mR n ar cr M :: .any (mrows M)::H) (fun M':List (Option RD)=>M'.map vw=addF ML (v.l,dd)∧MOk n z M') (fun _ => .bool (decide (firstV (red ML (v.l,dd)).1 ≠ -1))) (fun M'=>mB bm n z ar cr (cntS (addF ML (v.l,dd)))::mR n ar cr M' :: .any (mrows M')::H):=by
 have hvl:v.l.length=n:=by rw [hv.ok.len,hvn]
 have hcn:cntS ML≤1000:=by have h1:=b4O ML;have h2:=hR.lok.len;have h3:=hk.n2;omega
 refine Spec.shut (res:=fun M':List (Option RD)=>[mB bm n z ar cr (cntS (addF ML (v.l,dd))),mR n ar cr M',.any (mrows M')]) [mB bm n z ar cr (cntS ML),mR n ar cr M,.any (mrows M)] H ?_
 dsimp only [cA,nA]
 rcases a8V hR (v:=(v.l,dd)) hvl hdl with hold|⟨a,ha,hfree,hRR2,hcnt⟩
 ·rw [b3Q hold,show decide (firstV (red ML (v.l,dd)).1 ≠ -1)=false by rw [hold];simp]
  refine Spec.has (by kernel_rfl) (fun hh=>?_)
  exact (elim_Add_old _ bm n z ar cr (cntS ML) M v ad0 m0 c0 dd ML _ (RdM.own hk hh) hML hv.up hvn hd.up hm0 hdl rfl hold ht.up).mono (fun _ _=>⟨M,⟨hML,hk⟩,rfl,Ent.refl _⟩)
 ·have hne:decide (firstV (red ML (v.l,dd)).1 ≠ -1)=true:=by rw [ha,decide_eq_true_eq];omega
  rw [b3R ha,hne,hcnt]
  exact elim_Add _ bm n z ar cr (cntS ML) M v ad0 m0 c0 dd ML _ a hk hML hv.up hvn hd.up hm0 hdl rfl ha hfree hcn ht.up
structure Prm where
 s:BitVec 32
 k:Nat
 p:Nat
 z:Nat
abbrev Prm.n (p:Prm):Nat:=p.k+p.p
abbrev Prm.ok (p:Prm):Prop:=mayP p.k p.p p.z=true
theorem Prm.ok.out {p:Prm} (h:p.ok):1≤p.k∧p.k≤64∧p.p≤16∧1≤p.z∧p.z≤16:=by
 have h:decide (1≤(p.k:Int)∧(p.k:Int)≤64∧0≤(p.p:Int)∧(p.p:Int)≤16∧1≤(p.z:Int)∧(p.z:Int)≤16)=true:=h
 rw [decide_eq_true_eq] at h
 omega
structure Dec where
 M:List (Option LN)
 t:Nat
abbrev deB (db mb:Nat) (p:Prm) (t:Nat):Hl := .box db 221 [W4 p.s,I p.k,I p.p,I p.z,.pointer (some ⟨mb,0,none⟩),I t,W4 0#32,K4 0,W4 0#32,.slice none 0 0]
def deL (p:Prm) (d:Dec) (db:Nat) (l:Nat × Option Addr × Nat × List (Option RD)):List Hl:=[deB db l.1 p d.t,mB l.1 p.n p.z l.2.1 l.2.2.1 (cntS d.M),mR p.n l.2.1 l.2.2.1 l.2.2.2,.any (mrows l.2.2.2)]
def deP (p:Prm) (d:Dec) (db:Nat):Hp→Prop:=Som (fun l:Nat × Option Addr × Nat × List (Option RD)=>MOk p.n p.z l.2.2.2∧l.2.2.2.map vw=d.M) (deL p d db)
theorem rt_de {P:Program} {k:Kon} {m:Nat} {e:Ev} {W:World} {H R:List Hl} {p:Prm} {d:Dec} {db mb:Nat} {ar:Option Addr} {cr:Nat} {M:List (Option RD)} (hk:MOk p.n p.z M) (hM:M.map vw=d.M) (hE:Ent H (deB db mb p d.t::mB mb p.n p.z ar cr (cntS d.M)::mR p.n ar cr M :: .any (mrows M)::R)) (h:Rt P k m e W (.any (deP p d db)::R)):Rt P k m e W H :=
 a9C (L:=deL p d db) (p:=fun l:Nat × Option Addr × Nat × List (Option RD)=>MOk p.n p.z l.2.2.2∧l.2.2.2.map vw=d.M) (mb,ar,cr,M) ⟨hk,hM⟩ hE h
def SpRow (p:Prm) (id:BitVec 32) (v:List Bool):Prop:=v.length=p.n∧∀ H,Spec Tryz.prog 85 [parV p.s p.k p.p p.z,W4 id] H (fun _:Nat × Option Addr × Nat=>True) (fun r => .pointer (some ⟨r.1,0,none⟩)) (fun r=>vB r.1 p.n r.2.1 r.2.2::vR p.n r.2.1 r.2.2 v::H)
def saysD (p:Prm) (d:Dec) (v:List Bool):Bool:=decide (0≤firstV (red d.M (v,List.replicate p.z 0#8)).1)
theorem de_Says (H:List Hl) (p:Prm) (d:Dec) (db:Nat) (id:BitVec 32) (v:List Bool) (hp:p.ok) (hv:SpRow p id v) (ht:TabF (stars H)) :
  Spec Tryz.prog 120 [.pointer (some ⟨db,0,none⟩),W4 id] (.any (deP p d db)::H) (fun _:Unit=>True) (fun _ => .bool (saysD p d v)) (fun _ => .any (deP p d db)::H):=by
 refine Spec.som (by kernel_rfl) (fun ⟨mb,ar,cr,M⟩ ⟨hk,hM⟩=>?_)
 dsimp only at hk hM
 refine sF (res:=fun _:Unit=>[.any (deP p d db)]) [deB db mb p d.t,mB mb p.n p.z ar cr (cntS d.M),mR p.n ar cr M,.any (mrows M)] H Tryz.func120 Tryz.ntmps120 fun W=>?_
 dsimp only [cA,nA]
 obtain ⟨y,hy⟩:∃ y,saysD p d v=y:=⟨_,rfl⟩
 have hn2:=hk.n2
 rw [hy]
 repeat' (first|intro _|refine wK ?_|refine wL ?_ ?_|fail)
 refine a0H [(0,_),(1,_)] rtD22_0 [12,13] [⟨[0,1,2,3,4,5,6,7,8,9,10,11],[],some 12⟩,⟨[],[3,4,5,6],some 13⟩,⟨[14,15],[],none⟩] mixed cv (by kernel_rfl) (by kernel_rfl) ?_
 repeat' (first|intro _|refine sg ?_|refine po (by first|refine a4N rfl rfl fz|fail) ?_|(refine a1E ?_;refine po (by first|refine a0F (b:=db) (i:=4) rfl rfl fz|fail) ?_)|refine pw ?_|refine pdd ?_|refine a4N rfl rfl ?_|(refine a0A (fun _=>hv.2 _) rfl (fun ⟨vb,va,vc⟩ _=>?_);(try dsimp only))|(refine k_fn 162 ?_;refine a0A (fun hh=>elim_Says _ mb p.n p.z ar cr (cntS d.M) M ⟨vb,p.n,va,vc,v⟩ d.M y (RdM.own hk hh) hM (RdV.own hv.1 hn2 hh) rfl hy ht.up) rfl (fun _ _=>?_))|refine ow ?_|fail)
 all_goals dsimp only [cA,nA]
 repeat' (first|intro _|refine wK ?_|refine wL ?_ ?_|fail)
 refine rt_de (mb:=mb) (ar:=ar) (cr:=cr) (M:=M) (R:=[.any (stars H)]) hk hM ent ?_
 refine a0E () rfl rfl rfl trivial ?_
 exact ent
def takeD (p:Prm) (d:Dec) (v:List Bool) (x:List (BitVec 8)):Dec:=if firstV (red d.M (v,x)).1 = -1 then d else ⟨addF d.M (v,x),d.t+1⟩
theorem de_Take (H:List Hl) (p:Prm) (d:Dec) (db:Nat) (id:BitVec 32) (v:List Bool) (ad:Option Addr) (m c:Nat) (x:List (BitVec 8)) (hp:p.ok) (hv:SpRow p id v) (hR:RR p.n p.z d.M) (ht:TabF (stars H)) (hx:Rs (stars H) B ad c x) (hm:m=x.length) (hz:x.length=p.z) (hb:d.t≤1000) :
  Spec Tryz.prog 122 [.pointer (some ⟨db,0,none⟩),W4 id,.slice ad m c] (.any (deP p d db)::H) (fun _:Unit=>True) (fun _ => .bool (decide (firstV (red d.M (v,x)).1 ≠ -1))) (fun _ => .any (deP p (takeD p d v x) db)::H):=by
 refine Spec.som (by kernel_rfl) (fun ⟨mb,ar,cr,M⟩ ⟨hk,hM⟩=>?_)
 dsimp only at hk hM
 refine sF (res:=fun _:Unit=>[.any (deP p (takeD p d v x) db)]) [deB db mb p d.t,mB mb p.n p.z ar cr (cntS d.M),mR p.n ar cr M,.any (mrows M)] H Tryz.func122 Tryz.ntmps122 fun W=>?_
 dsimp only [cA,nA]
 obtain ⟨y,hy⟩:∃ y,decide (firstV (red d.M (v,x)).1 ≠ -1)=y:=⟨_,rfl⟩
 have hn2:=hk.n2
 rw [hy]
 repeat' (first|intro _|refine wK ?_|refine wL ?_ ?_|fail)
 refine a0H [(0,_),(1,_),(2,_)] rtD22_1 [12,14] [⟨[0,1,2,3,4,5,6,7,8,9,10,11,13],[],some 12⟩,⟨[],[3,4,5,6,13],some 14⟩,⟨[15,16],[],none⟩] mixed cv (by kernel_rfl) (by kernel_rfl) ?_
 repeat' (first|intro _|refine sg ?_|refine po (by first|refine a0S rfl rfl fz|fail) ?_|(refine a1E ?_;refine po (by first|refine a0F (b:=db) (i:=4) rfl rfl fz|fail) ?_)|refine pw ?_|refine pdd ?_|refine a0S rfl rfl ?_|(refine a0A (fun _=>hv.2 _) rfl (fun ⟨vb,va,vc⟩ _=>?_);(try dsimp only))|(refine k_fn 168 ?_;(refine o1_call_bra mb ar cr (mrows M) (fun hh=>elim_AddF _ mb p.n p.z ar cr M ⟨vb,p.n,va,vc,v⟩ ad m c x d.M hk hM hR (RdV.own hv.1 hn2 (a0B (a0B (a0B hh)))) rfl hx.up hm hz ht.up) rfl (fun M2 hM2=>?_);rw [hy];obtain ⟨hM2,hk2⟩:=hM2))|refine ow ?_|fail)
 all_goals dsimp only [cA,nA]
 dsimp only at hM2
 cases y
 ·have hold:firstV (red d.M (v,x)).1 = -1:=by
   have:=of_decide_eq_false hy
   exact Decidable.not_not.1 this
  have ht2:takeD p d v x=d:=if_pos hold
  rw [ht2]
  rw [b3Q hold] at hM2 ⊢
  repeat' (first|intro _|refine wK ?_|refine wL ?_ ?_|fail)
  refine rt_de (mb:=mb) (ar:=ar) (cr:=cr) (M:=M2) (R:=[.any (stars H)]) hk2 hM2 ent ?_
  refine a0E () rfl rfl rfl trivial ?_
  exact ent
 ·have hnew:firstV (red d.M (v,x)).1 ≠ -1:=of_decide_eq_true hy
  have ht2:takeD p d v x=⟨addF d.M (v,x),d.t+1⟩:=if_neg hnew
  have hw:IntKind.i64.wrap ((d.t:Int)+1)=((d.t+1:Nat):Int):=by rw [a8B (by omega) (by omega)];push_cast;rfl
  rw [ht2]
  repeat' (first|intro _|(refine k_fn 145 ?_;(refine a0G (b:=db) (fun _=>b9X _ db 5 _ _ d.t 1 rfl) rfl (fun _ _=>?_);rw [hw]))|refine wK ?_|refine wL ?_ ?_|fail)
  refine rt_de (d:=⟨addF d.M (v,x),d.t+1⟩) (mb:=mb) (ar:=ar) (cr:=cr) (M:=M2) (R:=[.any (stars H)]) hk2 hM2 ent ?_
  refine a0E () rfl rfl rfl trivial ?_
  exact ent
theorem de_Needs (H:List Hl) (p:Prm) (d:Dec) (db:Nat) (hp:p.ok) (hb:cntS d.M≤1000) :
  Spec Tryz.prog 123 [.pointer (some ⟨db,0,none⟩)] (.any (deP p d db)::H) (fun _:Unit=>True) (fun _=>I ((p.n:Int) - cntS d.M)) (fun _ => .any (deP p d db)::H):=by
 refine Spec.som (by kernel_rfl) (fun ⟨mb,ar,cr,M⟩ ⟨hk,hM⟩=>?_)
 dsimp only at hk hM
 refine sF (res:=fun _:Unit=>[.any (deP p d db)]) [deB db mb p d.t,mB mb p.n p.z ar cr (cntS d.M),mR p.n ar cr M,.any (mrows M)] H Tryz.func123 Tryz.ntmps123 fun W=>?_
 dsimp only [cA,nA]
 have hn2:=hk.n2
 have e:(if mayP (p.k:Int) p.p p.z=true then (p.k:Int)+p.p else 0)=(p.n:Int):=by rw [if_pos hp];push_cast;rfl
 repeat' (first|intro _|refine a0S rfl rfl ?_|refine wK ?_|refine wL ?_ ?_|fail)
 refine a0H [(0,_)] rtD22_2 [4,9] [⟨[0,1,2,3,5,6,7,8],[],some 4⟩,⟨[],[5,6,7,8],some 9⟩,⟨[10,11],[],none⟩] mixed cv (by kernel_rfl) (by kernel_rfl) ?_
 repeat' (first|intro _|refine sg ?_|(refine a1E ?_;refine po (by first|refine a0F (b:=db) (i:=4) rfl rfl fz|fail) ?_)|(refine a1I .sub ?_;refine po (by first|refine a3D rfl rfl (by omega) fz|fail) ?_)|refine pw ?_|refine pdd ?_|(refine k_fn 135 ?_;(refine a0A (fun _=>a4O _ p.s p.k p.p p.z) rfl (fun _ _=>?_);rw [e]))|(refine k_fn 169 ?_;refine a0A (fun _=>b7B _ mb (cntS d.M) (a1M rfl)) rfl (fun _ _=>?_))|refine ow ?_|fail)
 all_goals dsimp only [cA,nA]
 repeat' (first|intro _|refine wK ?_|refine wL ?_ ?_|fail)
 refine rt_de (mb:=mb) (ar:=ar) (cr:=cr) (M:=M) (R:=[.any (stars H)]) hk hM ent ?_
 refine a0E () rfl rfl rfl trivial ?_
 exact ent
def rowsM (p:Prm) (l:List (List Bool)):List (Option LN):=l.foldl (fun M v=>addF M (v,List.replicate p.z 0#8)) (List.replicate p.n none)
def newD (p:Prm):Dec:=⟨rowsM p (rowsL p.s p.k p.p),0⟩
theorem rowsM_RR (p:Prm):∀ l:List (List Bool),(∀ v∈l,v.length=p.n)→RR p.n p.z (rowsM p l):=fun l=>a9F (P:=fun l=>(∀ v∈l,v.length=p.n)→RR p.n p.z (rowsM p l)) (fun _=>RR_none) (fun l a ih h=>by
 have e:rowsM p (l++[a])=addF (rowsM p l) (a,List.replicate p.z 0#8):=by simp [rowsM]
 rw [e]
 exact c1K (ih (fun v hv=>h v (by simp [hv]))) (h a (by simp)) (by simp)) l
theorem de_New (H:List Hl) (p:Prm) (hp:p.ok) (ht:TabF (stars H)) :
  Spec Tryz.prog 160 [parV p.s p.k p.p p.z] H (fun _:Nat=>True) (fun db => .pointer (some ⟨db,0,none⟩)) (fun db => .any (deP p (newD p) db)::H):=by
 refine sP (res:=fun db:Nat=>[.any (deP p (newD p) db)]) H Tryz.func160 Tryz.ntmps160 fun W=>?_
 obtain ⟨p1,p2,p3,p4,p5⟩:=hp.out
 have hm:mayP (p.k:Int) p.p p.z=true:=hp
 have e:(if mayP (p.k:Int) p.p p.z=true then (p.k:Int)+p.p else 0)=(p.n:Int):=by rw [if_pos hp];push_cast;rfl
 repeat' (first|intro _|(refine k_fn 106 ?_;(refine a0A (fun _=>a5N _ p.s.toNat p.k p.p p.z) rfl (fun _ _=>?_);rw [hm]))|(refine k_box ?_;refine a1V rfl rfl (fun b1=>?_))|refine wK ?_|refine wL ?_ ?_|fail)
 refine a0H [(1,_)] rtD22_3 [2,5,7] [⟨[0,1,3,4],[],some 2⟩,⟨[],[0,3,4],some 5⟩,⟨[6],[0],some 7⟩,⟨[8],[],none⟩] mixed cv (by kernel_rfl) (by kernel_rfl) ?_
 repeat' (first|intro _|refine sg ?_|refine pw ?_|refine pdd ?_|(refine k_fn 135 ?_;(refine a0A (fun _=>a4O _ p.s p.k p.p p.z) rfl (fun _ _=>?_);rw [e]))|(refine k_fn 196 ?_;(refine a0A (fun _=>elim_New _ p.n p.z (by show 1≤p.k+p.p;omega) (by show p.k+p.p≤256;omega) p4 p5) rfl (fun ⟨mb,ar,cr⟩ _=>?_);(try dsimp only)))|(refine k_box ?_;refine a1V rfl rfl (fun db=>?_))|refine ow ?_|fail)
 all_goals dsimp only [cA,nA]
 repeat' (first|intro _|(refine k_fn 176 ?_;(refine a0A (fun _=>precode_Rows _ p.s p.k p.p p.z hm) rfl (fun ⟨av,kv,vs⟩ hvs0=>?_);obtain ⟨hvs,hvok⟩:=hvs0;(try dsimp only at hvs hvok ⊢)))|refine wK ?_|refine wL ?_ ?_|fail)
 have hlen:∀ v∈vs.map (·.l),v.length=p.n:=fun v hv=>by
  obtain ⟨y,hy,rfl⟩:=List.mem_map.1 hv
  obtain ⟨h1,h2⟩:=hvok y hy
  rw [h1.len,h2]
 have hpre:∀ i,∀ v∈(vs.map (·.l)).take i,v.length=p.n:=fun i v hv=>hlen v (List.mem_of_mem_take hv)
 have hvl:vs.length≤16:=by
  have:=congrArg List.length hvs
  simp only [List.length_map,rowsL,List.length_range] at this
  omega
 refine a0Y (S:=Nat × List (Option RD)) (fun q=>[(1,.pointer (some ⟨b1,0,none⟩)),(3,.pointer (some ⟨db,0,none⟩)),(18,.slice av vs.length kv),(19,I vs.length),(20,I q.1)])
  (fun q=>[deB db mb p 0,mB mb p.n p.z ar cr (cntS (rowsM p ((vs.map (·.l)).take q.1))),mR p.n ar cr q.2,.any (mrows q.2),.box b1 91 [W4 p.s,I p.k,I p.p,I p.z],.row 148 1 (.slice av vs.length kv) vs.length (vs.map Pv),.any (vecs vs),.any (stars H)])
  (fun q=>q.1≤vs.length∧MOk p.n p.z q.2∧q.2.map vw=rowsM p ((vs.map (·.l)).take q.1)) (fun q=>vs.length - q.1) (0,List.replicate p.n none) ⟨Nat.zero_le _,⟨by simp,by show 1≤p.k+p.p;omega,by show p.k+p.p≤256;omega,p4,p5,fun r hr=>by simp at hr⟩,by simp [rowsM,vw]⟩
  cv (by show Ent _ [deB db mb p 0,mB mb p.n p.z ar cr (cntS (List.replicate p.n none)),mR p.n ar cr (List.replicate p.n none),.any (mrows (List.replicate p.n none)),.box b1 91 [W4 p.s,I p.k,I p.p,I p.z],.row 148 1 (.slice av vs.length kv) vs.length (vs.map Pv),.any (vecs vs),.any (stars H)];rw [cntS_none];exact ent) ?_
 rintro ⟨i,M⟩ ⟨hi,hk,hM⟩
 dsimp only at hi hk hM ⊢
 have hRR:=rowsM_RR p _ (hpre i)
 by_cases hlt:i<vs.length
 ·obtain ⟨v,hv⟩:∃ v,vs[i]=v:=⟨_,rfl⟩
  have hvm:v∈vs:=hv ▸ List.getElem_mem hlt
  obtain ⟨hv1,hv2⟩:=hvok v hvm
  have hnext:rowsM p ((vs.map (·.l)).take (i+1))=addF (rowsM p ((vs.map (·.l)).take i)) (v.l,List.replicate p.z 0#8):=by
   rw [List.take_succ_eq_append_getElem (by simpa using hlt)]
   simp [rowsM,hv]
  repeat' (first|intro _|(refine a0J ?_;refine a2B (enc:=Pv) (ad:=av) (c:=kv) (xs:=vs) i rfl rfl a0I rfl rfl hlt ?_)|(refine a0K ?_;(refine a1P (enc:=Pv) (ad:=av) (c:=kv) (xs:=vs) i rfl a0I hlt ?_;rw [hv]))|refine wK ?_|refine wL ?_ ?_|fail)
  refine a0H [(3,_),(5,_),(1,_)] rtD22_4 [7,8] [⟨[0,1,2,3,4,5,6],[],some 7⟩,⟨[],[0,1,2,3,4],some 8⟩,⟨[],[],none⟩] mixed cv (by kernel_rfl) (by kernel_rfl) ?_
  repeat' (first|intro _|refine sg ?_|(refine a1E ?_;refine po (by first|refine a0F (b:=db) (i:=4) rfl rfl fz|refine a0F (b:=b1) (i:=3) rfl rfl fz|fail) ?_)|refine pw ?_|refine pdd ?_|(refine a2W ?_;refine a5D (enc:=B) 0#8 p.z rfl rfl rfl rfl rfl (by omega) (by omega) (fun b31=>?_))|(refine k_fn 168 ?_;(refine o1_call_bra mb ar cr (mrows M) (fun hh=>elim_AddF _ mb p.n p.z ar cr M v (some ⟨b31,0,none⟩) p.z p.z (List.replicate p.z 0#8) _ hk hM hRR (b5P (vs:=vs) hvm hv1 (a0B (a0B (a0B hh)))) hv2 (a2H (T:=5) (by simp) (by omega) (a0B (a0B (a0B hh)))) (by simp) (by simp) ht.up) rfl (fun M2 hM2=>?_);obtain ⟨hM2,hk2⟩:=hM2;rw [←hnext] at hM2 ⊢))|refine ow ?_|fail)
  all_goals dsimp only [cA,nA]
  repeat' (first|intro _|refine wK ?_|refine wL ?_ ?_|fail)
  refine a0Q (i+1,M2) ⟨hlt,hk2,hM2⟩ (by show vs.length - (i+1)<vs.length - i;omega) cv ?_
  exact ent
 ·have:i=vs.length:=by omega
  subst this
  repeat' (first|intro _|refine wK ?_|refine wL ?_ ?_|fail)
  rw [List.take_of_length_le (by simp),hvs] at hM ⊢
  refine rt_de (d:=newD p) (mb:=mb) (ar:=ar) (cr:=cr) (M:=M) (R:=[.any (stars H)]) hk hM ent ?_
  refine a0E db rfl rfl rfl trivial ?_
  exact ent
def symB (ses id:BitVec 32) (data:List (BitVec 8)):List (BitVec 8):=be4 ses++be4 id++data
theorem packet_Bytes_ok (H:List Hl) (ses id:BitVec 32) (ad:Option Addr) (c:Nat) (data:List (BitVec 8)) (h1:1≤data.length) (h2:data.length≤16) (hr:Rs (stars H) B ad c data) :
  Spec Tryz.prog 40 [.agg #[W4 ses,W4 id,.slice ad data.length c]] H (fun _:Option Addr × Nat=>True) (fun r:Option Addr × Nat => .tuple #[.slice r.1 (8+data.length) r.2,I 0])
   (fun r:Option Addr × Nat => .row 5 1 (.slice r.1 (8+data.length) r.2) (8+data.length) ((symB ses id data).map B)::H):=by
 refine sP (res:=fun r:Option Addr × Nat=>[.row 5 1 (.slice r.1 (8+data.length) r.2) (8+data.length) ((symB ses id data).map B)]) H Tryz.func40 Tryz.ntmps40 fun W=>?_
 repeat' (first|intro _|refine wK ?_|refine wL ?_ ?_|fail)
 refine a3J (a1A 5 B) (a2O 2 ?_)
 repeat' (first|intro _|refine wK ?_|refine wL ?_ ?_|fail)
 refine a2U (_,_) rfl rfl rfl rfl trivial ?_
 exact ent
def fitsP (k p z:Int) (ses ses':BitVec 32) (l:Nat):Int:=if mayP k p z=false then 1 else if ses≠ses' then 7 else if (l:Int)≠z then 3 else 0
theorem c1U {k p z:Int} {s:BitVec 32} {l:Nat} (h:mayP k p z=true) (hl:(l:Int)=z):fitsP k p z s s l=0:=by simp [fitsP,h,hl]
theorem fits_7 {k p z:Int} {s s':BitVec 32} {l:Nat} (h:mayP k p z=true) (hs:s≠s'):fitsP k p z s s' l=7:=by simp [fitsP,h,hs]
theorem a7L (H:List Hl) (ses id ses':BitVec 32) (k p z:Int) (ad:Option Addr) (l c:Nat) :
  Spec Tryz.prog 77 [.agg #[W4 ses,W4 id,.slice ad l c],.agg #[W4 ses',I k,I p,I z]] H (fun _:Unit=>True) (fun _=>I (fitsP k p z ses ses' l)) (fun _=>H):=by
 refine sP (res:=fun _=>[]) H Tryz.func77 Tryz.ntmps77 fun W=>?_
 cases hm:mayP k p z
 all_goals
  repeat' (first|intro _|(refine k_fn 106 ?_;refine a0A (fun _=>(a5N _ _ _ _ _).bv hm) rfl (fun _ _=>?_))|refine wK ?_|refine wL ?_ ?_|fail)
 all_goals
  refine a0E () rfl rfl ?_ trivial ?_
 all_goals first
  | (exact ent;done)
  | skip
 all_goals simp_all [fitsP,←BitVec.toNat_inj]
 all_goals (try intro _)
 all_goals omega
def sym64 (l:List (BitVec 8)):BitVec 64:=l.foldl (fun a x=>(a <<< 8) ||| x.setWidth 64) 0
theorem sym64_succ (l:List (BitVec 8)) (i:Nat) (h:i<l.length):sym64 (l.take (i+1))=(sym64 (l.take i) <<< 8) ||| (l[i]).setWidth 64:=by
 simp only [sym64]
 rw [List.take_succ_eq_append_getElem h,List.foldl_append]
 rfl
theorem packet_Parse_ok (H:List Hl) (ad:Option Addr) (c:Nat) (l:List (BitVec 8)) (h:Rs (stars H) B ad c l) (h1:8<l.length) (h2:l.length≤24) :
  Spec Tryz.prog 76 [.slice ad l.length c] H (fun _:Option Addr × Nat=>True) (fun r => .tuple #[.agg #[W4 ((sym64 (l.take 8) >>> 32).setWidth 32),W4 ((sym64 (l.take 8)).setWidth 32),.slice r.1 (l.drop 8).length r.2],I 0])
   (fun r => .row 5 1 (.slice r.1 (l.drop 8).length r.2) (l.drop 8).length ((l.drop 8).map B)::H):=by
 refine sP (res:=fun r:Option Addr × Nat=>[.row 5 1 (.slice r.1 (l.drop 8).length r.2) (l.drop 8).length ((l.drop 8).map B)]) H Tryz.func76 Tryz.ntmps76 fun W=>?_
 repeat' (first|intro _|(refine a3X ?_;refine o1_cut_h rfl rfl h rfl (by omega) (by omega) (fun ad2 c2 l2 e2 n2 h2=>?_))|refine wK ?_|refine wL ?_ ?_|fail)
 refine a0Y (S:=Nat) (fun i=>[(0,.slice ad l.length c),(2,_),(4,W8 (sym64 (l2.take i))),(18,.slice ad2 l2.length c2),(19,I l2.length),(20,I i)]) (fun _=>_) (fun i=>i≤l2.length) (fun i=>l2.length - i) 0 (by omega)
  cv (Ent.refl _) ?_
 intro i hi
 have n8:l2.length=8:=n2
 repeat' (first|intro _|(refine a0J ?_;refine a3E rfl rfl h2 i rfl (by omega) (fun a ha=>?_))|refine wK ?_|refine wL ?_ ?_|fail)
 ·refine a0Q (i+1) (by omega) (by omega) (a0R rfl rfl (a0R rfl rfl (a0R rfl ?_ cv))) (Ent.refl _)
  rw [sym64_succ _ _ (by omega)];rfl
 ·have:i=l2.length:=by omega
  subst this
  rw [List.take_length,e2]
  repeat' (first|intro _|(refine a3X ?_;refine o1_cut_l rfl rfl h rfl (by omega) (by omega) (fun ad2 c2 l2 e2 n2 h2=>?_))|(refine k_fn 29 ?_;(refine a0A (fun _=>a1B _ _ _ _ h2.up (by omega)) rfl (fun ⟨_,_⟩ _=>?_);dsimp only))|refine wK ?_|refine wL ?_ ?_|fail)
  subst e2
  refine a0N (_,_) rfl rfl rfl rfl rfl trivial ?_
  exact ent
def num (l:List (BitVec 8)):Nat:=l.foldl (fun a x=>a*256+x.toNat) 0
theorem fold_num (w:Nat):∀ (l:List (BitVec 8)) (k:Nat) (a:BitVec w),a.toNat<256 ^ k→8*(k+l.length)≤w →
  (l.foldl (fun (a:BitVec w) (x:BitVec 8)=>(a <<< 8) ||| x.setWidth w) a).toNat=l.foldl (fun a x=>a*256+x.toNat) a.toNat
 | [],_,_,_,_=>rfl
 | x::l,k,a,h,hw=>by
  simp only [List.length_cons] at hw
  have hx:=x.isLt
  have hp:(256:Nat) ^ (k+1)≤2 ^ w:=by
   have:(256:Nat) ^ (k+1)=2 ^ (8*(k+1)):=by rw [Nat.pow_mul]
   rw [this]
   exact Nat.pow_le_pow_right (by omega) (by omega)
  have h256:(256:Nat) ^ (k+1)=256 ^ k*256:=Nat.pow_succ ..
  have hs:((a <<< 8) ||| x.setWidth w).toNat=a.toNat*256+x.toNat:=by
   rw [BitVec.toNat_or,BitVec.toNat_shiftLeft,BitVec.toNat_setWidth]
   have e1:x.toNat % 2 ^ w=x.toNat:=Nat.mod_eq_of_lt (by omega)
   have e2:a.toNat <<< 8 % 2 ^ w=a.toNat <<< 8:=Nat.mod_eq_of_lt (by rw [Nat.shiftLeft_eq];omega)
   rw [e1,e2,←Nat.shiftLeft_add_eq_or_of_lt (by omega:x.toNat<2 ^ 8),Nat.shiftLeft_eq]
  simp only [List.foldl_cons]
  rw [fold_num w l (k+1) _ (by rw [hs];omega) (by omega),hs]
theorem sym64_num (l:List (BitVec 8)) (h:l.length≤8):(sym64 l).toNat=num l:=fold_num 64 l 0 0 (by simp) (by omega)
theorem sym64_be (s i:BitVec 32):(sym64 (be4 s++be4 i)).toNat=s.toNat*4294967296+i.toNat:=by
 rw [sym64_num _ (by simp [be4])]
 have h1:=s.isLt
 have h2:=i.isLt
 simp only [be4,List.cons_append,List.nil_append,num,List.foldl_cons,List.foldl_nil,BitVec.toNat_setWidth,BitVec.toNat_ushiftRight,Nat.shiftRight_eq_div_pow]
 omega
theorem sym64_hi (s i:BitVec 32):(sym64 (be4 s++be4 i) >>> 32).setWidth 32=s:=by
 apply BitVec.eq_of_toNat_eq
 have h1:=s.isLt
 have h2:=i.isLt
 rw [BitVec.toNat_setWidth,BitVec.toNat_ushiftRight,sym64_be,Nat.shiftRight_eq_div_pow]
 omega
theorem sym64_lo (s i:BitVec 32):(sym64 (be4 s++be4 i)).setWidth 32=i:=by
 apply BitVec.eq_of_toNat_eq
 have h1:=s.isLt
 have h2:=i.isLt
 rw [BitVec.toNat_setWidth,sym64_be]
 omega
theorem b4U (s i:BitVec 32) (l:List (BitVec 8)):8+l.length=(symB s i l).length:=by simp [symB,be4];omega
theorem packet_Bytes_sym (H:List Hl) (ses id:BitVec 32) (ad:Option Addr) (c:Nat) (data:List (BitVec 8)) (h1:1≤data.length) (h2:data.length≤16) (hr:Rs (stars H) B ad c data) :
  Spec Tryz.prog 40 [.agg #[W4 ses,W4 id,.slice ad data.length c]] H (fun _:Option Addr × Nat=>True) (fun r:Option Addr × Nat => .tuple #[.slice r.1 (symB ses id data).length r.2,I 0])
   (fun r:Option Addr × Nat => .row 5 1 (.slice r.1 (symB ses id data).length r.2) (symB ses id data).length ((symB ses id data).map B)::H):=by
 have:=packet_Bytes_ok H ses id ad c data h1 h2 hr
 rwa [b4U ses id data] at this
def full (image:List (BitVec 8)) (m:Nat):List (BitVec 8):=image.take m++List.replicate (m - image.length) 0
theorem b1K (image:List (BitVec 8)) (m:Nat):(full image m).length=m:=by simp [full];omega
theorem a8R {l s:Int} (h:count l s≠0):1≤l∧l≤512∧1≤s∧s≤16∧count l s=(l+s - 1) / s∧count l s≤64∧1≤count l s:=by
 unfold count at h ⊢
 split at h
 ·exact absurd rfl h
 ·rename_i h1
  split at h
  ·exact absurd rfl h
  ·rename_i h2
   rw [if_neg h1,if_neg h2]
   have:1≤(l+s - 1) / s:=by
    rw [Int.le_ediv_iff_mul_le (by omega)]
    omega
   refine ⟨by omega,by omega,by omega,by omega,rfl,by omega,this⟩
end Go.Dp
