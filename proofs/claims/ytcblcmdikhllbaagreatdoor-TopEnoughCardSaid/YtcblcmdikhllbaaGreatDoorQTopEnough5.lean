/-
  Downpour, walked and proved: part 5.
  Conditions: those that stand in each theorem.
-/
import Derived.Test.YtcblcmdikhllbaaGreatDoorQTopEnough3
import Derived.Test.YtcblcmdikhllbaaGreatDoorQTopEnough4
set_option linter.unusedVariables false
set_option linter.unusedSimpArgs false
set_option maxHeartbeats 64000000
namespace Go.Dp
open Go.RowKit Go.Proofs
structure Hid where
 left:Int
 steps:Int
 fused:Bool
abbrev nI (k:Nat):Value:=I (k:Int)
def Pw.isDown:Pw→Bool
 | .down _=>true
 | _=>false
def flC (ad:Option Addr) (c:Nat) (f:Fl) (h:Hid):List Value:=Value.slice ad 3584 c::(f.er.map nI++[I f.wear,.bool f.pw.isDown,.bool h.fused,I h.left,I f.torn,I h.steps])
structure FlOk (f:Fl) (h:Hid):Prop where
 er:f.er.length=14
 bs:f.bs.length=3584
 wr:f.wear≤10000
 ers:∀ x∈f.er,x≤1000000
 pw:match f.pw with
  | .on=>h.fused=false
  | .fuse n=>h.fused=true∧h.left=n∧n≤1000000
  | .down none=>h.fused=true→h.left<0
  | .down (some n)=>h.fused=true∧h.left=n∧n≤1000000
theorem a5Z {ad:Option Addr} {c:Nat} {f:Fl} {h:Hid} (hE:f.er.length=14):(flC ad c f h).length=21:=by simp [flC,hE]
theorem a8O {ad:Option Addr} {c:Nat} {f:Fl} {h:Hid}:(flC ad c f h)[0]?=some (.slice ad 3584 c):=rfl
theorem b5F {ad:Option Addr} {c:Nat} {f:Fl} {h:Hid} (hE:f.er.length=14):(flC ad c f h)[15]?=some (I f.wear):=by
 obtain ⟨bs,er,wear,pw,torn⟩:=f
 match er,hE with
 | [a0,a1,a2,a3,a4,a5,a6,a7,a8,a9,a10,a11,a12,a13],_=>rfl
theorem a4C {ad:Option Addr} {c:Nat} {f:Fl} {h:Hid} (hE:f.er.length=14):(flC ad c f h)[16]?=some (.bool f.pw.isDown):=by
 obtain ⟨bs,er,wear,pw,torn⟩:=f
 match er,hE with
 | [a0,a1,a2,a3,a4,a5,a6,a7,a8,a9,a10,a11,a12,a13],_=>rfl
theorem b0J {ad:Option Addr} {c:Nat} {f:Fl} {h:Hid} (hE:f.er.length=14):(flC ad c f h)[17]?=some (.bool h.fused):=by
 obtain ⟨bs,er,wear,pw,torn⟩:=f
 match er,hE with
 | [a0,a1,a2,a3,a4,a5,a6,a7,a8,a9,a10,a11,a12,a13],_=>rfl
theorem b5H {ad:Option Addr} {c:Nat} {f:Fl} {h:Hid} (hE:f.er.length=14):(flC ad c f h)[18]?=some (I h.left):=by
 obtain ⟨bs,er,wear,pw,torn⟩:=f
 match er,hE with
 | [a0,a1,a2,a3,a4,a5,a6,a7,a8,a9,a10,a11,a12,a13],_=>rfl
theorem b5G {ad:Option Addr} {c:Nat} {f:Fl} {h:Hid} (hE:f.er.length=14):(flC ad c f h)[19]?=some (I f.torn):=by
 obtain ⟨bs,er,wear,pw,torn⟩:=f
 match er,hE with
 | [a0,a1,a2,a3,a4,a5,a6,a7,a8,a9,a10,a11,a12,a13],_=>rfl
theorem flC_steps {ad:Option Addr} {c:Nat} {f:Fl} {h:Hid} (hE:f.er.length=14):(flC ad c f h)[20]?=some (I h.steps):=by
 obtain ⟨bs,er,wear,pw,torn⟩:=f
 match er,hE with
 | [a0,a1,a2,a3,a4,a5,a6,a7,a8,a9,a10,a11,a12,a13],_=>rfl
theorem flC_setdown {ad:Option Addr} {c:Nat} {f:Fl} {h:Hid} (hE:f.er.length=14):(flC ad c f h).set 16 (.bool true)=flC ad c { f with pw := .down none } h:=by
 obtain ⟨bs,er,wear,pw,torn⟩:=f
 match er,hE with
 | [a0,a1,a2,a3,a4,a5,a6,a7,a8,a9,a10,a11,a12,a13],_=>rfl
theorem flC_setfused {ad:Option Addr} {c:Nat} {f:Fl} {h:Hid} (v:Bool) (hE:f.er.length=14):(flC ad c f h).set 17 (.bool v)=flC ad c f { h with fused:=v }:=by
 obtain ⟨bs,er,wear,pw,torn⟩:=f
 match er,hE with
 | [a0,a1,a2,a3,a4,a5,a6,a7,a8,a9,a10,a11,a12,a13],_=>rfl
theorem a9R {ad:Option Addr} {c:Nat} {f:Fl} {h:Hid} (v:Int) (hE:f.er.length=14):(flC ad c f h).set 18 (I v)=flC ad c f { h with left:=v }:=by
 obtain ⟨bs,er,wear,pw,torn⟩:=f
 match er,hE with
 | [a0,a1,a2,a3,a4,a5,a6,a7,a8,a9,a10,a11,a12,a13],_=>rfl
theorem flC_settorn {ad:Option Addr} {c:Nat} {f:Fl} {h:Hid} (v:Int) (hE:f.er.length=14):(flC ad c f h).set 19 (I v)=flC ad c { f with torn:=v } h:=by
 obtain ⟨bs,er,wear,pw,torn⟩:=f
 match er,hE with
 | [a0,a1,a2,a3,a4,a5,a6,a7,a8,a9,a10,a11,a12,a13],_=>rfl
theorem flC_setsteps {ad:Option Addr} {c:Nat} {f:Fl} {h:Hid} (v:Int) (hE:f.er.length=14):(flC ad c f h).set 20 (I v)=flC ad c f { h with steps:=v }:=by
 obtain ⟨bs,er,wear,pw,torn⟩:=f
 match er,hE with
 | [a0,a1,a2,a3,a4,a5,a6,a7,a8,a9,a10,a11,a12,a13],_=>rfl
theorem b6V {ad:Option Addr} {c:Nat} {f:Fl} {h:Hid} {s:Nat} (hs:s<f.er.length):(flC ad c f h)[1+s]?=some (nI f.er[s]):=by
 rw [flC,Nat.add_comm,List.getElem?_cons_succ,List.getElem?_append_left (by simpa using hs)]
 simp [hs]
theorem b6U {ad:Option Addr} {c:Nat} {f:Fl} {h:Hid} {s v:Nat} (hs:s<f.er.length):(flC ad c f h).set (1+s) (nI v)=flC ad c { f with er:=f.er.set s v } h:=by
 rw [flC,Nat.add_comm,List.set_cons_succ,List.set_append_left _ _ (by simpa using hs),←List.map_set]
 rfl
abbrev fB (b:Nat) (ad:Option Addr) (c:Nat) (f:Fl) (h:Hid):Hl := .box b 110 (flC ad c f h)
def slk (ad:Option Addr) (c:Nat) (bs:List (BitVec 8)):Hp→Prop:=Som (fun q:Nat × List Value=>ad=some ⟨q.1,0,none⟩∧bs.length≤c∧c≤9223372036854775807) (fun q=>[.box q.1 5 (bs.map B++q.2)])
class SFl (H:List Hl) (ad:Option Addr) (c:Nat) (bs:outParam (List (BitVec 8))) (H':outParam (List Hl)):Prop where s:Sel H (.any (slk ad c bs)) H'
instance sfl_here {ad:Option Addr} {c:Nat} {bs:List (BitVec 8)} {H:List Hl}:SFl (.any (slk ad c bs)::H) ad c bs H:=⟨.here⟩
instance (priority:=low) sfl_there {ad:Option Addr} {c:Nat} {bs:List (BitVec 8)} {y:Hl} {H H':List Hl} [h:SFl H ad c bs H']:SFl (y::H) ad c bs (y::H'):=⟨.there h.s⟩
theorem b8F {ad:Option Addr} {c:Nat} {bs:List (BitVec 8)} {H H':List Hl} (s:Sel H (.any (slk ad c bs)) H') {w:World} (hw:sat w (stars H)):∃ g zs,ad=some ⟨g,0,none⟩∧bs.length≤c∧c≤9223372036854775807∧sat w (stars (.box g 5 (bs.map B++zs)::H')):=by
 obtain ⟨⟨g,zs⟩,⟨e1,e2,e3⟩,hx⟩:=sat_som (hw.mono s.out)
 exact ⟨g,zs,e1,e2,e3,hx⟩
theorem slk_of {ad:Option Addr} {c:Nat} {bs:List (BitVec 8)} {R:List Hl} (g:Nat) (zs:List Value) (e1:ad=some ⟨g,0,none⟩) (e2:bs.length≤c) (e3:c≤9223372036854775807):∀ h,stars (.box g 5 (bs.map B++zs)::R) h→stars (.any (slk ad c bs)::R) h:=fun h hh=>b1Q (ι:=Nat × List Value) (L:=fun q=>[.box q.1 5 (bs.map B++q.2)]) (g,zs) ⟨e1,e2,e3⟩ h hh
theorem slk_rs {ad:Option Addr} {c:Nat} {bs:List (BitVec 8)} {H H':List Hl} (s:Sel H (.any (slk ad c bs)) H'):RsH H B ad c bs:=fun ⟨w,hw⟩=>by
 obtain ⟨g,zs,e1,e2,e3, -⟩:=b8F s hw
 refine ⟨e2,e3,fun _=>⟨_,e1⟩,fun w2 hw2 a ha i x hx=>?_⟩
 obtain ⟨g2,zs2,f1, -, -,hs⟩:=b8F s hw2
 rw [ha] at f1
 obtain rfl:=Option.some.inj f1
 have hv:(bs.map B++zs2)[i]?=some (B x):=by
  obtain ⟨hl,_⟩:=List.getElem?_eq_some_iff.mp hx
  rw [List.getElem?_append_left (by simpa using hl),List.getElem?_map,hx]
  rfl
 have:=(a1M (b:=g2) (H := .box g2 5 (bs.map B++zs2)::H') hv).cell w2 hs
 rw [show Addr.add ⟨g2,0,none⟩ i=⟨g2,i,none⟩ by by_cases h0:i=0 <;> simp [Addr.add,h0]]
 exact this
theorem rx_fl {ad:Option Addr} {c:Nat} {bs:List (BitVec 8)} {H H':List Hl} [s:SFl H ad c bs H']:RsH H B ad c bs:=slk_rs s.s
section
variable {P:Program} {n:Nat} {e:Ev} {H:List Hl} {C:Value→List Hl→Prop} {ty:TypeId} {x y:Operand}
theorem a4G (k:Nat) {T2:TypeId} {z:Value} {by_:Nat} [TInf P T2 z 1 by_] {ad:Option Addr} {c:Nat} {l:List (BitVec 8)} {v:BitVec 8} {H':List Hl} (hx:opd e x=some (.pointer (some (idxA ad k)))) (hy:opd e y=some (B v))
  [s:SFl H ad c l H'] (hk:k<l.length) (h:C undef (.any (slk ad c (l.set k v))::H')):O1 P (.store T2 x y) ty n e H C:=⟨fun a w ho=>by
 obtain ⟨g,zs,e1,e2,e3,hs⟩:=b8F s.s ho.sat
 have hx':opd e x=some (.pointer (some ⟨g,k,none⟩)):=by
  rw [hx,e1]
  by_cases h0:k=0 <;> simp [idxA,Addr.add,h0]
 have hq:(l.map B++zs).set k (B v)=(l.set k v).map B++zs:=by
  rw [List.set_append_left _ _ (by simpa using hk),List.map_set]
 refine ((a1R (C:=fun v2 K=>v2=undef∧K = .box g 5 ((l.set k v).map B++zs)::H') (b:=g) (i:=k) (H := .box g 5 (l.map B++zs)::H') hx' hy (by simp;omega) rfl hq ⟨rfl,rfl⟩).post (C:=C) fun v2 K hK=>⟨.any (slk ad c (l.set k v))::H',?_,?_⟩).out a w ⟨ho.ev,hs⟩
 ·exact hK.1 ▸ h
 ·rw [hK.2]
  exact slk_of g zs e1 (by rw [List.length_set];exact e2) e3⟩
theorem a1J (b:Nat) (ad:Option Addr) (c:Nat) {f:FuncId} {xs:List Operand} {args:List Value} {ats:Array TypeId} {X:Type} {good:X→Prop} {val:X→Value} {res:X→List Hl} {T:TypeId} {cs:List Value} {bs:List (BitVec 8)} {H' H2:List Hl} [s:SBox H b T cs H'] [s2:SFl H' ad c bs H2]
  (hs:Has (.box b T cs :: .any (slk ad c bs)::H2)→Spec P f args (.box b T cs :: .any (slk ad c bs)::H2) good val res) (hxs:opds e xs=some args) (h:∀ r,good r→C (val r) (res r)):O1 P (.call ⟨.value (.func f),xs.toArray,ats⟩) ty n e H C :=
 O1.ent (H2 := .box b T cs :: .any (slk ad c bs)::H2) (fun h hh=>a0U (s.s.out h hh) (fun _ a=>a) (s2.s.out)) (a0A hs hxs h)
end
attribute [irreducible] slk
abbrev fR (ad:Option Addr) (c:Nat) (f:Fl):Hl := .any (slk ad c f.bs)
structure RdFl (A:Hp→Prop) (b:Nat) (ad:Option Addr) (c:Nat) (f:Fl):Prop where
 s:Cl A ⟨b,0,none⟩ (.slice ad 3584 c)
 d:Cl A ⟨b,16,none⟩ (.bool f.pw.isDown)
 r:Rs A B ad c f.bs
 l:f.bs.length=3584
theorem RdFl.up {A:Hp→Prop} {b:Nat} {ad:Option Addr} {c:Nat} {f:Fl} {H H':List Hl} (h:RdFl A b ad c f) [s:SAny H A H']:RdFl (stars H) b ad c f:=⟨cl_up h.s,cl_up h.d,h.r.up,h.l⟩
theorem RdFl.own {b:Nat} {ad:Option Addr} {c:Nat} {f:Fl} {hd:Hid} {H H1 H2:List Hl} [s:SBox H b 110 (flC ad c f hd) H1] [s2:SFl H ad c f.bs H2] (hk:FlOk f hd) (hh:Has H):RdFl (stars H) b ad c f :=
 ⟨a1M rfl,a1M (a4C hk.er),rx_fl hh,hk.bs⟩
theorem b3E (H:List Hl) (b:Nat) (f:Fl) (p n:Nat) (h:Cl (stars H) ⟨b,16,none⟩ (.bool f.pw.isDown)) (hp:p+n≤3584) :
  Spec Tryz.prog 89 [.pointer (some ⟨b,0,none⟩),I p,I n] H (fun _:Unit=>True) (fun _=>I (if f.pw.isDown=true then 11 else 0)) (fun _=>H):=by
 refine sP (res:=fun _=>[]) H Tryz.func89 Tryz.ntmps89 fun W=>?_
 obtain ⟨d,hd⟩:∃ d,f.pw.isDown=d:=⟨_,rfl⟩
 rw [hd] at h ⊢
 cases d
 ·repeat' (first|intro _|refine a0S rfl rfl ?_|(refine a0K ?_;refine a0L rfl h ?_)|refine wK ?_|refine wL ?_ ?_|fail)
  refine a0E () rfl rfl rfl trivial ?_
  exact ent
 ·repeat' (first|intro _|refine a0S rfl rfl ?_|(refine a0K ?_;refine a0L rfl h ?_)|refine wK ?_|refine wL ?_ ?_|fail)
  refine a0E () rfl rfl rfl trivial ?_
  exact ent
theorem seg_cut (l:List (BitVec 8)) (p n:Nat):(l.take (p+n)).drop p=seg l p n:=by
 unfold seg
 rw [List.drop_take]
 congr 1
 omega
theorem a9Q (H:List Hl) (b:Nat) (ad:Option Addr) (c:Nat) (f:Fl) (p n:Nat) (h:RdFl (stars H) b ad c f) (hp:p+n≤3584) (hd:f.pw.isDown=false) :
  Spec Tryz.prog 98 [.pointer (some ⟨b,0,none⟩),I p,I n] H (fun _:Option Addr × Nat=>True) (fun r => .tuple #[.slice r.1 n r.2,I 0]) (fun r => .row 5 1 (.slice r.1 n r.2) n ((seg f.bs p n).map B)::H):=by
 refine sP (res:=fun r:Option Addr × Nat=>[.row 5 1 (.slice r.1 n r.2) n ((seg f.bs p n).map B)]) H Tryz.func98 Tryz.ntmps98 fun W=>?_
 have hs:=h.s
 have hle:=h.r.le
 have hl:=h.l
 have hcut:=seg_cut f.bs p n
 have hsl:(seg f.bs p n).length=n:=a2Q (by omega)
 have hpn:(p:Int)+n=((p+n:Nat):Int):=by push_cast;rfl
 have hf:=h.r.cutv p (p+n) (by omega) (by omega)
 rw [hcut] at hf
 repeat' (first|intro _|(refine k_fn 89 ?_;(refine a0A (fun _=>b3E _ b f p n (cl_up h.d) hp) rfl (fun _ _=>?_);rw [hd,if_neg (by decide)]))|(refine a0D .add ?_;(refine a2F rfl rfl (by omega) ?_;rw [hpn]))|(refine a0K ?_;refine a0L rfl hs ?_)|(refine a3X ?_;(refine o1_cs_lh (xs:=f.bs) p (p+n) rfl rfl rfl rfl rfl hl.symm (by omega) (by omega) (by omega) ?_;rw [hcut]))|(refine k_fn 29 ?_;(refine a0A (fun _=>a1B _ _ _ (seg f.bs p n) (Rs.up hf) (by omega)) rfl (fun ⟨a25,c25⟩ _=>?_);(try dsimp only);rw [hsl]))|refine wK ?_|refine wL ?_ ?_|fail)
 refine a2U (a25,c25) rfl rfl rfl rfl trivial ?_
 exact ent
theorem fl_Read_down (H:List Hl) (b:Nat) (f:Fl) (p n:Nat) (h:Cl (stars H) ⟨b,16,none⟩ (.bool f.pw.isDown)) (hp:p+n≤3584) (hd:f.pw.isDown=true) :
  Spec Tryz.prog 98 [.pointer (some ⟨b,0,none⟩),I p,I n] H (fun _:Unit=>True) (fun _ => .tuple #[.slice none 0 0,I 11]) (fun _=>H):=by
 refine sP (res:=fun _=>[]) H Tryz.func98 Tryz.ntmps98 fun W=>?_
 repeat' (first|intro _|(refine k_fn 89 ?_;(refine a0A (fun _=>b3E _ b f p n (cl_up h) hp) rfl (fun _ _=>?_);rw [hd,if_pos rfl]))|refine wK ?_|refine wL ?_ ?_|fail)
 refine a2U () rfl rfl rfl rfl trivial ?_
 exact ent
theorem c1F (H:List Hl) (b:Nat) (f:Fl) (h:Cl (stars H) ⟨b,16,none⟩ (.bool f.pw.isDown)) :
  Spec Tryz.prog 63 [.pointer (some ⟨b,0,none⟩)] H (fun _:Unit=>True) (fun _ => .bool f.pw.isDown) (fun _=>H):=by
 refine sP (res:=fun _=>[]) H Tryz.func63 Tryz.ntmps63 fun W=>?_
 repeat' (first|intro _|refine a4N rfl rfl ?_|(refine a0K ?_;refine a0L rfl h ?_)|refine wK ?_|refine wL ?_ ?_|fail)
 refine a0E () rfl rfl rfl trivial ?_
 exact ent
theorem xf_load64:XFn Tryz.prog 190 (Extern.Atomic.loadT (.int .i64)):=⟨by kernel_rfl,by kernel_rfl⟩
theorem xf_add64:XFn Tryz.prog 191 (Extern.Atomic.update (Op.intArith .add) .i64 true):=⟨by kernel_rfl,by kernel_rfl⟩
theorem b9X (H:List Hl) (b i:Nat) (T:TypeId) (cs:List Value) (k q:Int) (hv:cs[i]?=some (I k)) :
  Spec Tryz.prog 145 [.pointer (some ⟨b,i,none⟩),I q] (.box b T cs::H) (fun _:Unit=>True) (fun _=>I (IntKind.i64.wrap (k+q))) (fun _ => .box b T (cs.set i (I (IntKind.i64.wrap (k+q))))::H):=by
 refine sF (res:=fun _:Unit=>[.box b T (cs.set i (I (IntKind.i64.wrap (k+q))))]) [.box b T cs] H Tryz.func145 Tryz.ntmps145 fun W=>?_
 dsimp only [cA,nA]
 repeat' (first|intro _|refine o1_xadd xf_add64 rfl (b:=b) (i:=i) (k := .i64) (p:=k) (r:=IntKind.i64.wrap (k+q)) hv rfl ?_|refine wK ?_|refine wL ?_ ?_|fail)
 refine a0E () rfl rfl rfl trivial ?_
 exact ent
def Fl.stepped (f:Fl):Fl:={ f with pw:=match f.pw with
  | .on => .on
  | .fuse 0 => .down none
  | .fuse (n+1) => .fuse n
  | .down q => .down q }
def Fl.goes (f:Fl):Bool:=match f.pw with
 | .on=>true
 | .fuse 0=>false
 | .fuse (_+1)=>true
 | .down _=>false
theorem b4M (H:List Hl) (b:Nat) (ad:Option Addr) (c:Nat) (f:Fl) (h:Hid) (hk:FlOk f h) (hd:f.pw.isDown=false) :
  Spec Tryz.prog 90 [.pointer (some ⟨b,0,none⟩)] (fB b ad c f h::H) (fun h':Hid=>FlOk f.stepped h') (fun _ => .bool f.goes) (fun h'=>fB b ad c f.stepped h'::H):=by
 refine sF (res:=fun h':Hid=>[fB b ad c f.stepped h']) [fB b ad c f h] H Tryz.func90 Tryz.ntmps90 fun W=>?_
 dsimp only [cA,nA]
 have hE:=hk.er
 have e20:=flC_steps (ad:=ad) (c:=c) (h:=h) hE
 have hs1:=flC_setsteps (ad:=ad) (c:=c) (h:=h) (IntKind.i64.wrap (h.steps+1)) hE
 obtain ⟨h1,hh1⟩:∃ h1:Hid,{ h with steps:=IntKind.i64.wrap (h.steps+1) }=h1:=⟨_,rfl⟩
 have g1:h1.left=h.left:=by rw [←hh1]
 have g2:h1.fused=h.fused:=by rw [←hh1]
 rw [hh1] at hs1
 have e18:=b5H (ad:=ad) (c:=c) (h:=h1) hE
 obtain ⟨bs,er,wear,pw,torn⟩:=f
 have hpw:=hk.pw
 dsimp only at hE hd hpw
 cases pw with
 | down q=>cases hd
 | on =>
  dsimp only at hpw
  repeat' (first|intro _|(refine k_fn 145 ?_;(refine a0G (b:=b) (fun _=>b9X _ b 20 _ _ h.steps 1 e20) rfl (fun _ _=>?_);rw [hs1]))|(refine a0K ?_;first|refine a0F (b:=b) (i:=18) rfl e18 ?_|refine a0F (b:=b) (i:=17) rfl (by rw [b0J hE,g2,hpw]) ?_|refine a0F (b:=b) (i:=16) rfl (a4C hE) ?_)|(refine a0D .sub ?_;refine o1_sub_any rfl rfl (fun v=>?_))|(refine a1N ?_;(refine a1R (b:=b) (i:=18) rfl rfl (by rw [a5Z hE];decide) rfl (a9R v hE) ?_))|refine wK ?_|refine wL ?_ ?_|fail)
  refine a0E { h1 with left:=v } rfl rfl rfl ⟨hE,hk.bs,hk.wr,hk.ers,?_⟩ ?_
  ·show h1.fused=false
   rw [g2,hpw]
  exact ent
 | fuse n =>
  obtain ⟨p1,p2,p3⟩:=hpw
  cases n with
  | zero =>
   repeat' (first|intro _|(refine k_fn 145 ?_;(refine a0G (b:=b) (fun _=>b9X _ b 20 _ _ h.steps 1 e20) rfl (fun _ _=>?_);rw [hs1]))|(refine a0K ?_;first|(refine a0F (b:=b) (i:=18) rfl e18 ?_;rw [g1,p2])|refine a0F (v := .bool true) (b:=b) (i:=17) rfl (by rw [b0J hE];exact congrArg (fun q=>some (Value.bool q)) (g2.trans p1)) ?_|refine a0F (b:=b) (i:=18) rfl (b5H hE) ?_|refine a0F (b:=b) (i:=16) rfl (a4C hE) ?_)|(refine a0D .sub ?_;refine a3D rfl rfl (by omega) ?_)|(refine a1N ?_;first|(refine a1R (b:=b) (i:=18) rfl rfl (by rw [a5Z hE];decide) rfl (a9R _ hE) ?_)|(refine a1R (b:=b) (i:=16) rfl rfl (by rw [a5Z hE];decide) rfl (flC_setdown hE) ?_))|(refine a0D .lss ?_;refine a6Z rfl rfl (by dsimp only;omega) ?_)|refine wK ?_|refine wL ?_ ?_|fail)
   refine a0E { h1 with left := -1 } rfl rfl rfl ⟨hE,hk.bs,hk.wr,hk.ers,?_⟩ ?_
   ·show h1.fused=true→(-1:Int)<0
    intro _
    decide
   exact ent
  | succ n =>
   repeat' (first|intro _|(refine k_fn 145 ?_;(refine a0G (b:=b) (fun _=>b9X _ b 20 _ _ h.steps 1 e20) rfl (fun _ _=>?_);rw [hs1]))|(refine a0K ?_;first|(refine a0F (b:=b) (i:=18) rfl e18 ?_;rw [g1,p2])|refine a0F (v := .bool true) (b:=b) (i:=17) rfl (by rw [b0J hE];exact congrArg (fun q=>some (Value.bool q)) (g2.trans p1)) ?_|refine a0F (b:=b) (i:=18) rfl (b5H hE) ?_|refine a0F (b:=b) (i:=16) rfl (a4C hE) ?_)|(refine a0D .sub ?_;refine a3D rfl rfl (by omega) ?_)|(refine a1N ?_;(refine a1R (b:=b) (i:=18) rfl rfl (by rw [a5Z hE];decide) rfl (a9R _ hE) ?_))|(refine a0D .lss ?_;refine a3S rfl rfl (by dsimp only;omega) ?_)|refine wK ?_|refine wL ?_ ?_|fail)
   refine a0E { h1 with left:=((n+1:Nat):Int) - 1 } rfl rfl rfl ⟨hE,hk.bs,hk.wr,hk.ers,?_⟩ ?_
   ·show h1.fused=true∧((n+1:Nat):Int) - 1=n∧n≤1000000
    exact ⟨by rw [g2,p1],by omega,by omega⟩
   exact ent
def rtD6_0:List Row:=[tR 28 [] [],tR 29 [0] [0],tR 30 [1] [0,1],tR 31 [2] [0,1,2],tR 32 [] [],tR 33 [] [],tR 34 [4,5] [4,5],tR 35 [3,6] (rG 7),tR 36 [7] (rG 8),tR 37 [] [],tR 38 [] [],tR 39 [10] [10],tR 40 [11] [10,11],tR 41 [12] [10,11,12],tR 42 [13] [10,11,12,13],tR 43 [9,14] [9,10,11,12,13,14],tR 44 [8,15] (rG 16),tR 45 [3,6,0,1,2,3,4,5,6,7,8,9,10,11,12,13,14,15,16] (rG 17),⟨none,[17,16,0,1,2,3,4,5,6,7,8,9,10,11,12,13,14,15,16],[0,1,2,3,4,5,6,7,8,9,10,11,12,13,14,15,16,17],none⟩]
theorem progB_torn {l:List (BitVec 8)} {a n:Nat} {xs:List (BitVec 8)} (t:BitVec 8) (h:a+xs.length≤l.length) (hn:n<xs.length):(progB l a (xs.take n)).set (a+n) ((l[a+n]'(by omega)) &&& (xs[n] ||| t))=progB l a (xs.take n++[xs.getD n 0#8 ||| t]):=by
 have e1:(xs.take n++[xs.getD n 0#8 ||| t]).length=n+1:=by rw [List.length_append,List.length_take];simp;omega
 have e2:(xs.take n++[xs.getD n 0#8 ||| t]).take n=xs.take n:=by rw [List.take_left'];rw [List.length_take];omega
 have e3:(xs.take n++[xs.getD n 0#8 ||| t]).take (n+1)=xs.take n++[xs.getD n 0#8 ||| t]:=List.take_of_length_le (by omega)
 have e4:(xs.take n++[xs.getD n 0#8 ||| t])[n]'(by omega)=xs[n] ||| t:=by
  rw [List.getElem_append_right (by rw [List.length_take];omega)]
  simp [List.getD_eq_getElem?_getD,hn]
 have:=b4D (l:=l) (a:=a) (i:=n) (xs:=xs.take n++[xs.getD n 0#8 ||| t]) (by omega) (by omega)
 rw [e2,e3,e4] at this
 exact this
theorem progB_at' {l:List (BitVec 8)} {a i:Nat} {xs:List (BitVec 8)} (h:a+xs.length≤l.length) (hi:i<xs.length) (hl:a+i<(progB l a (xs.take i)).length):(progB l a (xs.take i))[a+i]=l[a+i]'(by omega):=by
 have:=progB_at h hi
 rw [List.getElem?_eq_getElem hl] at this
 exact Option.some.inj this
theorem a3Z (H:List Hl) (b:Nat) (ad:Option Addr) (c:Nat) (f:Fl) (h:Hid) (p:Nat) (ad2:Option Addr) (m c2:Nat) (xs:List (BitVec 8)) (hk:FlOk f h) (hx2:Rs (stars H) B ad2 c2 xs) (hm:m=xs.length) (hp:p+m≤3584) :
  Spec Tryz.prog 44 [.pointer (some ⟨b,0,none⟩),I p,.slice ad2 m c2] (fB b ad c f h::fR ad c f::H) (fun h':Hid=>FlOk (progF f p xs).1 h') (fun _=>I (progF f p xs).2) (fun h'=>fB b ad c (progF f p xs).1 h'::fR ad c (progF f p xs).1::H):=by
 subst hm
 refine sF (res:=fun h':Hid=>[fB b ad c (progF f p xs).1 h',fR ad c (progF f p xs).1]) [fB b ad c f h,fR ad c f] H Tryz.func44 Tryz.ntmps44 fun W=>?_
 dsimp only [cA,nA]
 have b3:=hx2.le
 have b4:=hx2.big
 obtain ⟨f0,hf0⟩:∃ f0,f0=f:=⟨_,rfl⟩
 obtain ⟨bs,er,wear,pw,torn⟩:=f
 have hE:er.length=14:=hk.er
 have hbl:bs.length=3584:=hk.bs
 have hpx:p+xs.length≤bs.length:=by omega
 cases pw with
 | down q =>
  have hdn:f0.pw.isDown=true:=by rw [hf0];rfl
  rw [←hf0] at hk
  rw [show (progF ⟨bs,er,wear,.down q,torn⟩ p xs)=(f0,11) by rw [hf0];rfl,←hf0]
  repeat' (first|intro _|(refine k_fn 89 ?_;(refine a0A (fun hh=>b3E _ b f0 p xs.length (a1M (a4C hk.er)) (by omega)) rfl (fun _ _=>?_);rw [hdn,if_pos rfl]))|refine wK ?_|refine wL ?_ ?_|fail)
  refine a0E h rfl rfl rfl hk ?_
  exact ent
 | on =>
  have hdn:f0.pw.isDown=false:=by rw [hf0];rfl
  have hcl:Cl (stars [fB b ad c ⟨bs,er,wear,.on,torn⟩ h,fR ad c ⟨bs,er,wear,.on,torn⟩,.any (stars H)]) ⟨b,16,none⟩ (.bool f0.pw.isDown):=by rw [hf0];exact a1M (a4C hk.er)
  repeat' (first|intro _|(refine k_fn 89 ?_;(refine a0A (fun hh=>b3E _ b f0 p xs.length hcl (by omega)) rfl (fun _ _=>?_);rw [hdn,if_neg (by decide)]))|refine wK ?_|refine wL ?_ ?_|fail)
  refine a0Y (S:=Nat × Hid) (fun q=>[(0,.pointer (some ⟨b,0,none⟩)),(1,I p),(18,.slice ad2 xs.length c2),(19,I xs.length),(20,I q.1)])
   (fun q=>[fB b ad c ⟨progB bs p (xs.take q.1),er,wear,.on,torn⟩ q.2,fR ad c ⟨progB bs p (xs.take q.1),er,wear,.on,torn⟩,.any (stars H)]) (fun q=>q.1≤xs.length∧True∧FlOk ⟨progB bs p (xs.take q.1),er,wear,.on,torn⟩ q.2) (fun q=>xs.length - q.1) (0,h) ⟨Nat.zero_le _,trivial,by rw [List.take_zero,b2U];exact hk⟩
   cv (by rw [List.take_zero,b2U];exact ent) ?_
  rintro ⟨i,hi⟩ ⟨hil,hbd,hki⟩
  dsimp only at hil hbd hki ⊢
  have hBl:(progB bs p (xs.take i)).length=3584:=hki.bs
  by_cases hlt:i<xs.length
  ·obtain ⟨x,hx⟩:∃ x,xs[i]=x:=⟨_,rfl⟩
   have hpi:p+i<(progB bs p (xs.take i)).length:=by omega
   have hpn:(p:Int)+i=((p+i:Nat):Int):=by push_cast;rfl
   have hat:=progB_at' (l:=bs) (a:=p) hpx hlt hpi
   have hnext:=b4D (l:=bs) (a:=p) hpx hlt
   rw [hx] at hnext
   obtain ⟨y,hy⟩:∃ y,bs[p+i]'(by omega)=y:=⟨_,rfl⟩
   rw [hy] at hat hnext
   repeat' (first|intro _|(refine a0J ?_;first|refine o1_ia (ad:=ad2) (c:=c2) i rfl rfl hx2 rfl rfl hlt ?_|refine a2B (enc:=B) (ad:=ad) (c:=c) (xs:=progB bs p (xs.take i)) (p+i) rfl rfl rx_fl hBl.symm rfl hpi ?_)|(refine a0K ?_;first|(refine a1F (ad:=ad2) (c:=c2) i rfl hx2 hlt ?_;rw [hx])|refine a0F (b:=b) (i:=0) rfl a8O ?_|(refine a1P (enc:=B) (ad:=ad) (c:=c) (xs:=progB bs p (xs.take i)) (p+i) rfl rx_fl hpi ?_;rw [hat]))|(refine k_fn 90 ?_;(refine a0G (b:=b) (fun _=>b4M _ b ad c ⟨progB bs p (xs.take i),er,wear,.on,torn⟩ hi hki rfl) rfl (fun h2 hk2=>?_);(try dsimp only [Fl.stepped,Fl.goes] at hk2 ⊢)))|(refine a0D .add ?_;(refine a2F rfl rfl (by omega) ?_;rw [hpn]))|(refine a1N ?_;(refine a4G (p+i) (ad:=ad) (c:=c) (l:=progB bs p (xs.take i)) rfl rfl (by omega) ?_;rw [hnext]))|refine wK ?_|refine wL ?_ ?_|fail)
   refine a0Q (i+1,h2) ⟨by show i+1≤xs.length;omega,trivial,⟨hE,by show (progB bs p (xs.take (i+1))).length=3584;rw [←hnext,List.length_set,hBl],hk2.wr,hk2.ers,hk2.pw⟩⟩ (by show xs.length - (i+1)<xs.length - i;omega) cv ?_
   exact ent
  ·have:i=xs.length:=by omega
   subst this
   repeat' (first|intro _|refine wK ?_|refine wL ?_ ?_|fail)
   rw [List.take_length] at hki ⊢
   refine a0E hi rfl rfl (by simp only [progF]) hki ?_
   exact ent
 | fuse n =>
  have hdn:f0.pw.isDown=false:=by rw [hf0];rfl
  have hcl:Cl (stars [fB b ad c ⟨bs,er,wear,.fuse n,torn⟩ h,fR ad c ⟨bs,er,wear,.fuse n,torn⟩,.any (stars H)]) ⟨b,16,none⟩ (.bool f0.pw.isDown):=by rw [hf0];exact a1M (a4C hk.er)
  repeat' (first|intro _|(refine k_fn 89 ?_;(refine a0A (fun hh=>b3E _ b f0 p xs.length hcl (by omega)) rfl (fun _ _=>?_);rw [hdn,if_neg (by decide)]))|refine wK ?_|refine wL ?_ ?_|fail)
  refine a0Y (S:=Nat × Hid) (fun q=>[(0,.pointer (some ⟨b,0,none⟩)),(1,I p),(18,.slice ad2 xs.length c2),(19,I xs.length),(20,I q.1)])
   (fun q=>[fB b ad c ⟨progB bs p (xs.take q.1),er,wear,.fuse (n - q.1),torn⟩ q.2,fR ad c ⟨progB bs p (xs.take q.1),er,wear,.fuse (n - q.1),torn⟩,.any (stars H)]) (fun q=>q.1≤xs.length∧q.1≤n∧FlOk ⟨progB bs p (xs.take q.1),er,wear,.fuse (n - q.1),torn⟩ q.2) (fun q=>xs.length - q.1) (0,h) ⟨Nat.zero_le _,Nat.zero_le _,by rw [List.take_zero,b2U];exact hk⟩
   cv (by rw [List.take_zero,b2U];exact ent) ?_
  rintro ⟨i,hi⟩ ⟨hil,hbd,hki⟩
  dsimp only at hil hbd hki ⊢
  have hBl:(progB bs p (xs.take i)).length=3584:=hki.bs
  by_cases hlt:i<xs.length
  ·obtain ⟨x,hx⟩:∃ x,xs[i]=x:=⟨_,rfl⟩
   have hpi:p+i<(progB bs p (xs.take i)).length:=by omega
   have hpn:(p:Int)+i=((p+i:Nat):Int):=by push_cast;rfl
   have hat:=progB_at' (l:=bs) (a:=p) hpx hlt hpi
   have hnext:=b4D (l:=bs) (a:=p) hpx hlt
   rw [hx] at hnext
   obtain ⟨y,hy⟩:∃ y,bs[p+i]'(by omega)=y:=⟨_,rfl⟩
   rw [hy] at hat hnext
   by_cases hin:i<n
   ·obtain ⟨k,hkn,hk1⟩:∃ k,n - i=k+1∧n - (i+1)=k:=⟨n - i - 1,by omega,by omega⟩
    rw [hkn] at hki ⊢
    repeat' (first|intro _|(refine a0J ?_;first|refine o1_ia (ad:=ad2) (c:=c2) i rfl rfl hx2 rfl rfl hlt ?_|refine a2B (enc:=B) (ad:=ad) (c:=c) (xs:=progB bs p (xs.take i)) (p+i) rfl rfl rx_fl hBl.symm rfl hpi ?_)|(refine a0K ?_;first|(refine a1F (ad:=ad2) (c:=c2) i rfl hx2 hlt ?_;rw [hx])|refine a0F (b:=b) (i:=0) rfl a8O ?_|(refine a1P (enc:=B) (ad:=ad) (c:=c) (xs:=progB bs p (xs.take i)) (p+i) rfl rx_fl hpi ?_;rw [hat]))|(refine k_fn 90 ?_;(refine a0G (b:=b) (fun _=>b4M _ b ad c ⟨progB bs p (xs.take i),er,wear,.fuse (k+1),torn⟩ hi hki rfl) rfl (fun h2 hk2=>?_);(try dsimp only [Fl.stepped,Fl.goes] at hk2 ⊢)))|(refine a0D .add ?_;(refine a2F rfl rfl (by omega) ?_;rw [hpn]))|(refine a1N ?_;(refine a4G (p+i) (ad:=ad) (c:=c) (l:=progB bs p (xs.take i)) rfl rfl (by omega) ?_;rw [hnext]))|refine wK ?_|refine wL ?_ ?_|fail)
    refine a0Q (i+1,h2) ⟨by show i+1≤xs.length;omega,by show i+1≤n;omega,?_⟩ (by show xs.length - (i+1)<xs.length - i;omega) cv ?_
    ·show FlOk ⟨progB bs p (xs.take (i+1)),er,wear,.fuse (n - (i+1)),torn⟩ h2
     rw [hk1]
     exact ⟨hE,by show (progB bs p (xs.take (i+1))).length=3584;rw [←hnext,List.length_set,hBl],hk2.wr,hk2.ers,hk2.pw⟩
    show Ent _ [fB b ad c ⟨progB bs p (xs.take (i+1)),er,wear,.fuse (n - (i+1)),torn⟩ h2,fR ad c ⟨progB bs p (xs.take (i+1)),er,wear,.fuse (n - (i+1)),torn⟩,.any (stars H)]
    rw [hk1]
    exact ent
   ·have:i=n:=by omega
    subst this
    have htn:=progB_torn (l:=bs) (a:=p) (BitVec.ofInt 8 torn) hpx hlt
    rw [hx,hy] at htn
    rw [Nat.sub_self] at hki ⊢
    have hpF:progF ⟨bs,er,wear,.fuse i,torn⟩ p xs=(⟨progB bs p (xs.take i++[xs.getD i 0#8 ||| BitVec.ofInt 8 torn]),er,wear,.down none,torn⟩,11):=by
     simp only [progF,tornB]
     rw [if_neg (by omega)]
    rw [hpF]
    have e19:∀ h2,(flC ad c ⟨progB bs p (xs.take i),er,wear,.down none,torn⟩ h2)[19]?=some (I torn):=fun h2=>b5G hE
    repeat' (first|intro _|(refine a0J ?_;refine o1_ia (ad:=ad2) (c:=c2) i rfl rfl hx2 rfl rfl hlt ?_)|(refine a0K ?_;(refine a1F (ad:=ad2) (c:=c2) i rfl hx2 hlt ?_;rw [hx]))|(refine k_fn 90 ?_;(refine a0G (b:=b) (fun _=>b4M _ b ad c ⟨progB bs p (xs.take i),er,wear,.fuse 0,torn⟩ hi hki rfl) rfl (fun h2 hk2=>?_);(try dsimp only [Fl.stepped,Fl.goes] at hk2 ⊢)))|refine wK ?_|refine wL ?_ ?_|fail)
    refine a0H [(0,_),(1,_),(8,_),(9,_)] rtD6_0 [18] [⟨[0,1,2,3,4,5,6,7,8,9,10,11,12,13,14,15,16,17],[],some 18⟩,⟨[],[],none⟩] mixed cv (by kernel_rfl) (by kernel_rfl) ?_
    repeat' (first|intro _|refine sg ?_|(refine a1E ?_;refine po (by first|refine a0F (b:=b) (i:=0) rfl a8O fz|refine a0F (b:=b) (i:=19) rfl (e19 _) fz|((refine a1P (enc:=B) (ad:=ad) (c:=c) (xs:=progB bs p (xs.take i)) (p+i) rfl rx_fl hpi ?_;rw [hat]);all_goals exact fz)|fail) ?_)|(refine a1I .add ?_;refine po (by first|((refine a2F rfl rfl (by omega) ?_;rw [hpn]);all_goals exact fz)|fail) ?_)|(refine a0Z ?_;refine po (by first|refine a2B (enc:=B) (ad:=ad) (c:=c) (xs:=progB bs p (xs.take i)) (p+i) rfl rfl rx_fl hBl.symm rfl hpi fz|fail) ?_)|refine pw ?_|refine pdd ?_|(refine a1N ?_;(refine a4G (p+i) (ad:=ad) (c:=c) (l:=progB bs p (xs.take i)) rfl rfl (by omega) ?_;rw [htn]))|refine ow ?_|fail)
    all_goals dsimp only [cA,nA]
    repeat' (first|intro _|refine wK ?_|refine wL ?_ ?_|fail)
    refine a0E h2 rfl rfl rfl ⟨hE,by show (progB bs p (xs.take i++[xs.getD i 0#8 ||| BitVec.ofInt 8 torn])).length=3584;rw [←htn,List.length_set,hBl],hk2.wr,hk2.ers,hk2.pw⟩ ?_
    exact ent
  ·have:i=xs.length:=by omega
   subst this
   repeat' (first|intro _|refine wK ?_|refine wL ?_ ?_|fail)
   rw [List.take_length] at hki ⊢
   have hpF:progF ⟨bs,er,wear,.fuse n,torn⟩ p xs=(⟨progB bs p xs,er,wear,.fuse (n - xs.length),torn⟩,0):=by
    simp only [progF]
    rw [if_pos hbd]
   rw [hpF]
   refine a0E hi rfl rfl rfl hki ?_
   exact ent
def c1N:List Row:=[tR 24 [] [],tR 25 [] [],tR 26 [0] [0],tR 27 [2] [0,2],tR 28 [3,1] [0,1,2,3],tR 29 [4] (rG 5),tR 30 [] [],tR 31 [6] [6],tR 32 [7] [6,7],tR 33 [8] [6,7,8],tR 34 [5,9] (rG 10),tR 23 [10] (rG 11)]
def c2C:List Row:=[tR 45 [] [],tR 46 [] [],tR 47 [0] [0],tR 48 [2] [0,2],tR 49 [3,1] [0,1,2,3],tR 50 [4] (rG 5),tR 51 [5] (rG 6),tR 52 [0] [0],tR 53 [7] [0,7],tR 54 [8,1,0,1,2,3,4,5,6] (rG 9),⟨none,[9,6,0,1,2,3,4,5,6],[0,1,2,3,4,5,6,7,8,9],none⟩]
theorem fl_Blank1 (H:List Hl) (x:BitVec 8) :
  Spec Tryz.prog 157 [B x] H (fun _:Unit=>True) (fun _ => .bool (decide (x≠0xff#8))) (fun _=>H):=by
 refine sP (res:=fun _=>[]) H Tryz.func157 Tryz.ntmps157 fun W=>?_
 by_cases h:x=0xff#8
 ·subst h
  repeat' (first|intro _|(refine a0D .neq ?_;refine a2E rfl rfl rfl ?_)|refine wK ?_|refine wL ?_ ?_|fail)
  refine a0E () rfl rfl rfl trivial ?_
  exact ent
 ·have h1:(x.toNat:Int)≠255:=fun e=>h (BitVec.eq_of_toNat_eq (by show x.toNat=255;omega))
  repeat' (first|intro _|(refine a0D .neq ?_;refine a3R rfl rfl h1 ?_)|refine wK ?_|refine wL ?_ ?_|fail)
  refine a0E () rfl rfl (by simp [h]) trivial ?_
  exact ent
def oddB1 (l:List (BitVec 8)):Bool:=l.any (fun x=>decide (x≠0xff#8))
theorem oddB1_not (l:List (BitVec 8)):(!oddB1 l)=blankB l:=by
 simp only [oddB1,blankB,List.any_eq_not_all_not,Bool.not_not]
 congr 1
 funext x
 by_cases h:x=0xff#8 <;> simp [h]
theorem fl_Index (H:List Hl) (ad:Option Addr) (c:Nat) (l:List (BitVec 8)) (h:Rs (stars H) B ad c l) :
  Spec Tryz.prog 193 [.slice ad l.length c,.func (.func 157) #[] #[]] H (fun r:Int=>decide (0≤r)=oddB1 l ∧ -1≤r∧r≤9223372036854775807) (fun r=>I r) (fun _=>H):=by
 refine sP (res:=fun _=>[]) H Tryz.func193 Tryz.ntmps193 fun W=>?_
 have b1:=h.le
 have b2:=h.big
 repeat' (first|intro _|refine wK ?_|refine wL ?_ ?_|fail)
 refine a0Y (S:=Nat) (fun i=>[(0,.slice ad l.length c),(1,.func (.func 157) #[] #[]),(7,I l.length),(8,I i)]) (fun _=>[.any (stars H)]) (fun i=>i≤l.length∧oddB1 (l.take i)=false) (fun i=>l.length - i) 0 ⟨Nat.zero_le _,rfl⟩ cv ent ?_
 rintro i ⟨hi,hno⟩
 by_cases hlt:i<l.length
 ·obtain ⟨x,hx⟩:∃ x,l[i]=x:=⟨_,rfl⟩
  by_cases hf:x=0xff#8
  ·repeat' (first|intro _|(refine a0J ?_;refine o1_ia (ad:=ad) (c:=c) i rfl rfl h rfl rfl hlt ?_)|(refine a0K ?_;(refine a1F (ad:=ad) (c:=c) i rfl h hlt ?_;rw [hx]))|refine a6G (args:=[B x]) (caps:=[]) rfl (fun _=>(fl_Blank1 _ x).bv (b:=false) (by simp [hf])) rfl (fun _ _=>?_)|refine wK ?_|refine wL ?_ ?_|fail)
   refine a0Q (i+1) ⟨by omega,?_⟩ (by omega) cv ?_
   ·rw [List.take_succ_eq_append_getElem hlt,hx]
    unfold oddB1 at hno ⊢
    rw [List.any_append,hno]
    simp [hf]
   exact ent
  ·have hany:oddB1 l=true:=by
    unfold oddB1
    rw [List.any_eq_true]
    exact ⟨x,hx ▸ List.getElem_mem hlt,by simpa using hf⟩
   repeat' (first|intro _|(refine a0J ?_;refine o1_ia (ad:=ad) (c:=c) i rfl rfl h rfl rfl hlt ?_)|(refine a0K ?_;(refine a1F (ad:=ad) (c:=c) i rfl h hlt ?_;rw [hx]))|refine a6G (args:=[B x]) (caps:=[]) rfl (fun _=>(fl_Blank1 _ x).bv (b:=true) (by simp [hf])) rfl (fun _ _=>?_)|refine wK ?_|refine wL ?_ ?_|fail)
   refine a0E (i:Int) rfl rfl rfl ⟨by rw [hany];simp,by omega,by omega⟩ ?_
   exact ent
 ·have:i=l.length:=by omega
  subst this
  rw [List.take_length] at hno
  repeat' (first|intro _|refine wK ?_|refine wL ?_ ?_|fail)
  refine a0E (-1:Int) rfl rfl rfl ⟨by rw [hno];decide,by decide,by decide⟩ ?_
  exact ent
theorem fl_Contains (H:List Hl) (ad:Option Addr) (m c:Nat) (l:List (BitVec 8)) (h:Rs (stars H) B ad c l) (hm:m=l.length) :
  Spec Tryz.prog 156 [.slice ad m c,.func (.func 157) #[] #[]] H (fun _:Unit=>True) (fun _ => .bool (oddB1 l)) (fun _=>H):=by
 subst hm
 refine sP (res:=fun _=>[]) H Tryz.func156 Tryz.ntmps156 fun W=>?_
 repeat' (first|intro _|(refine k_fn 193 ?_;refine a0A (fun _=>fl_Index _ ad c l h.up) rfl (fun r hr=>?_))|(refine a0D .geq ?_;refine b2X rfl rfl ?_)|refine wK ?_|refine wL ?_ ?_|fail)
 refine a0E () rfl rfl (by rw [←hr.1]) trivial ?_
 exact ent
theorem a5E (H:List Hl) (b:Nat) (ad:Option Addr) (c:Nat) (f:Fl) (p n:Nat) (h:RdFl (stars H) b ad c f) (hp:p+n≤3584) (hd:f.pw.isDown=false) :
  Spec Tryz.prog 109 [.pointer (some ⟨b,0,none⟩),I p,I n] H (fun _:Unit=>True) (fun _ => .bool (blankB (seg f.bs p n))) (fun _=>H):=by
 refine sP (res:=fun _=>[]) H Tryz.func109 Tryz.ntmps109 fun W=>?_
 have hl:=h.l
 have hsl:n=(seg f.bs p n).length:=(a2Q (by omega)).symm
 repeat' (first|intro _|(refine k_fn 98 ?_;(refine a0A (fun _=>a9Q _ b ad c f p n h.up hp hd) rfl (fun ⟨a13,c13⟩ _=>?_);(try dsimp only)))|(refine k_fn 156 ?_;refine a0A (fun hh=>fl_Contains _ a13 n c13 (seg f.bs p n) (a0I hh) hsl) rfl (fun _ _=>?_))|refine wK ?_|refine wL ?_ ?_|fail)
 refine a0E () rfl rfl (by rw [oddB1_not]) trivial ?_
 exact ent
theorem a8A (H:List Hl) (b:Nat) (ad:Option Addr) (c:Nat) (f:Fl) (h:Hid) (s:Nat) (hk:FlOk f h) (hs:s<14) :
  Spec Tryz.prog 110 [.pointer (some ⟨b,0,none⟩),I s] (fB b ad c f h::fR ad c f::H) (fun h':Hid=>FlOk (eraseF f s).1 h') (fun _=>I (eraseF f s).2) (fun h'=>fB b ad c (eraseF f s).1 h'::fR ad c (eraseF f s).1::H):=by
 refine sF (res:=fun h':Hid=>[fB b ad c (eraseF f s).1 h',fR ad c (eraseF f s).1]) [fB b ad c f h,fR ad c f] H Tryz.func110 Tryz.ntmps110 fun W=>?_
 dsimp only [cA,nA]
 obtain ⟨bs,er,wear,pwr,torn⟩:=f
 have hE:er.length=14:=hk.er
 have hbl:bs.length=3584:=hk.bs
 have hwr:wear≤10000:=hk.wr
 have hs2:s<er.length:=by omega
 have hs14:s<14:=hs
 have hgd:er.getD s 0=er[s]:=by rw [List.getD_eq_getElem?_getD,List.getElem?_eq_getElem hs2];rfl
 have hcast:(er[s]:Int)+1=((er[s]+1:Nat):Int):=by push_cast;rfl
 have hsm:er[s]≤1000000:=hk.ers _ (List.getElem_mem hs2)
 obtain ⟨tr,htr0⟩:∃ tr,torn.toNat % 257=tr:=⟨_,rfl⟩
 have htrl:tr<257:=by rw [←htr0];exact Nat.mod_lt _ (by decide)
 have htr:(max 0 torn) % 257=(tr:Int):=by omega
 by_cases hdn:∃ q,pwr = .down q
 ·obtain ⟨q,rfl⟩:=hdn
  repeat' (first|intro _|refine a0S rfl rfl ?_|(refine a0K ?_;refine a0F (b:=b) (i:=16) rfl (a4C hE) ?_)|refine wK ?_|refine wL ?_ ?_|fail)
  refine a0E h rfl rfl rfl hk ?_
  exact ent
 by_cases hw:wear≤er[s]
 ·have hef:eraseF ⟨bs,er,wear,pwr,torn⟩ s=(⟨bs,er,wear,pwr,torn⟩,10):=by
   cases pwr with
   | down q=>exact absurd ⟨q,rfl⟩ hdn
   | on=>simp only [eraseF];rw [hgd,if_pos hw]
   | fuse n=>simp only [eraseF];rw [hgd,if_pos hw]
  have e16:(flC ad c ⟨bs,er,wear,pwr,torn⟩ h)[16]?=some (.bool false):=by
   rw [a4C hE]
   cases pwr with
   | down q=>exact absurd ⟨q,rfl⟩ hdn
   | on=>rfl
   | fuse n=>rfl
  rw [hef]
  repeat' (first|intro _|refine a0S rfl rfl ?_|(refine a0K ?_;refine a0F (b:=b) (i:=16) rfl e16 ?_)|refine wK ?_|refine wL ?_ ?_|fail)
  refine a0H [(0,_),(1,_)] c1N [] [⟨[0,1,2,3,4,5,6,7,8,9,10,11],[],none⟩] mixed cv (by kernel_rfl) (by kernel_rfl) ?_
  repeat' (first|intro _|refine sg ?_|(refine a0Z ?_;refine po (by first|refine a1C s (1+s) rfl rfl rfl hs14 (by omega) fz|fail) ?_)|(refine a1E ?_;refine po (by first|refine a0F (v:=nI er[s]) (b:=b) (i:=1+s) rfl (b6V hs2) fz|refine a0F (v:=I wear) (b:=b) (i:=15) rfl (b5F hE) fz|fail) ?_)|(refine a1I .geq ?_;refine po (by first|refine b1H rfl rfl (by omega) fz|fail) ?_)|refine pw ?_|refine pdd ?_|refine ow ?_|fail)
  all_goals dsimp only [cA,nA]
  repeat' (first|intro _|refine wK ?_|refine wL ?_ ?_|fail)
  refine a0E h rfl rfl rfl hk ?_
  exact ent
 have hers:∀ x∈er.set s (er[s]+1),x≤1000000:=fun x hx=>by
  rcases List.mem_or_eq_of_mem_set hx with q|q
  ·exact hk.ers x q
  ·omega
 cases pwr with
 | down q=>exact absurd ⟨q,rfl⟩ hdn
 | on =>
  rw [show eraseF ⟨bs,er,wear,.on,torn⟩ s=(⟨fillB bs (s*256) 256,er.set s (er[s]+1),wear,.on,torn⟩,0) by simp only [eraseF];rw [hgd,if_neg hw]]
  repeat' (first|intro _|refine a0S rfl rfl ?_|(refine a0K ?_;refine a0F (b:=b) (i:=16) rfl (a4C hE) ?_)|refine wK ?_|refine wL ?_ ?_|fail)
  refine a0H [(0,_),(1,_)] c1N [] [⟨[0,1,2,3,4,5,6,7,8,9,10,11],[],none⟩] mixed cv (by kernel_rfl) (by kernel_rfl) ?_
  repeat' (first|intro _|refine sg ?_|(refine a0Z ?_;refine po (by first|refine a1C s (1+s) rfl rfl rfl hs14 (by omega) fz|fail) ?_)|(refine a1E ?_;refine po (by first|refine a0F (v:=nI er[s]) (b:=b) (i:=1+s) rfl (b6V hs2) fz|refine a0F (v:=I wear) (b:=b) (i:=15) rfl (b5F hE) fz|fail) ?_)|(refine a1I .geq ?_;refine po (by first|refine a7Y rfl rfl (by omega) fz|fail) ?_)|refine pw ?_|refine pdd ?_|refine ow ?_|fail)
  all_goals dsimp only [cA,nA]
  repeat' (first|intro _|(refine k_fn 90 ?_;(refine a0G (b:=b) (fun _=>b4M _ b ad c ⟨bs,er,wear,.on,torn⟩ h hk rfl) rfl (fun h2 hk2=>?_);(try dsimp only [Fl.stepped,Fl.goes] at hk2 ⊢)))|(refine a0K ?_;refine a0F (v:=I torn) (b:=b) (i:=19) rfl (b5G hE) ?_)|(refine a1S ?_;refine b6J (r:=max 0 torn) rfl rfl (by omega) ?_)|(refine a0D .rem ?_;(refine a2J rfl rfl (by omega) ?_;rw [htr]))|refine wK ?_|refine wL ?_ ?_|fail)
  refine a0H [(0,_),(1,_)] c2C [10] [⟨[0,1,2,3,4,5,6,7,8,9],[],some 10⟩,⟨[],[],none⟩] mixed cv (by kernel_rfl) (by kernel_rfl) ?_
  repeat' (first|intro _|refine sg ?_|(refine a0Z ?_;refine po (by first|refine a1C s (1+s) rfl rfl rfl hs14 (by omega) fz|fail) ?_)|(refine a1E ?_;refine po (by first|refine a0F (v:=nI er[s]) (b:=b) (i:=1+s) rfl (b6V hs2) fz|fail) ?_)|(refine a1I .add ?_;refine po (by first|((refine a2F rfl rfl (by omega) ?_;rw [hcast]);all_goals exact fz)|fail) ?_)|refine pw ?_|refine pdd ?_|(refine a1N ?_;refine a1R (b:=b) (i:=1+s) rfl rfl (by rw [a5Z hE];omega) rfl (b6U (v:=er[s]+1) hs2) ?_)|refine ow ?_|fail)
  all_goals dsimp only [cA,nA]
  repeat' (first|intro _|refine wK ?_|refine wL ?_ ?_|fail)
  refine a0Y (S:=Nat) (fun j=>[(0,.pointer (some ⟨b,0,none⟩)),(1,I s),(6,.bool true),(55,I 256),(56,I j)]) (fun j=>[fB b ad c ⟨bs,er.set s (er[s]+1),wear,.on,torn⟩ h2,.any (slk ad c (fillB bs (s*256) j)),.any (stars H)]) (fun j=>j≤256) (fun j=>256 - j) 0 (Nat.zero_le _) cv (by rw [a6J];exact ent) ?_
  intro j hj
  by_cases hjt:j<256
  ·have hpn:(s:Int)*256+(j:Int)=((s*256+j:Nat):Int):=by omega
   have hBl:(fillB bs (s*256) j).length=3584:=by rw [a4F (by omega)];exact hbl
   have hnx:=b4N (l:=bs) (a:=s*256) (i:=j) (by omega)
   repeat' (first|intro _|(refine a0D .mul ?_;refine a2Y rfl rfl (by omega) ?_)|(refine a0D .add ?_;(refine a2F rfl rfl (by omega) ?_;rw [hpn]))|(refine a0K ?_;refine a0F (b:=b) (i:=0) rfl a8O ?_)|(refine a0J ?_;refine a2B (enc:=B) (ad:=ad) (c:=c) (xs:=fillB bs (s*256) j) (s*256+j) rfl rfl rx_fl hBl.symm rfl (by omega) ?_)|(refine a1N ?_;(refine a4G (v:=0xff#8) (s*256+j) (ad:=ad) (c:=c) (l:=fillB bs (s*256) j) rfl rfl (by omega) ?_;rw [hnx]))|refine wK ?_|refine wL ?_ ?_|fail)
   refine a0Q (j+1) (by omega) (by omega) cv ?_
   exact ent
  ·have:j=256:=by omega
   rw [this]
   repeat' (first|intro _|refine wK ?_|refine wL ?_ ?_|fail)
   refine a0E h2 rfl rfl rfl ⟨by show (er.set s (er[s]+1)).length=14;rw [List.length_set];exact hE,by show (fillB bs (s*256) 256).length=3584;rw [a4F (by omega)];exact hbl,hk2.wr,hers,hk2.pw⟩ ?_
   exact ent
 | fuse n =>
  cases n with
  | zero =>
   rw [show eraseF ⟨bs,er,wear,.fuse 0,torn⟩ s=(⟨fillB bs (s*256) tr,er.set s (er[s]+1),wear,.down none,torn⟩,11) by simp only [eraseF];rw [hgd,if_neg hw,htr0]]
   repeat' (first|intro _|refine a0S rfl rfl ?_|(refine a0K ?_;refine a0F (b:=b) (i:=16) rfl (a4C hE) ?_)|refine wK ?_|refine wL ?_ ?_|fail)
   refine a0H [(0,_),(1,_)] c1N [] [⟨[0,1,2,3,4,5,6,7,8,9,10,11],[],none⟩] mixed cv (by kernel_rfl) (by kernel_rfl) ?_
   repeat' (first|intro _|refine sg ?_|(refine a0Z ?_;refine po (by first|refine a1C s (1+s) rfl rfl rfl hs14 (by omega) fz|fail) ?_)|(refine a1E ?_;refine po (by first|refine a0F (v:=nI er[s]) (b:=b) (i:=1+s) rfl (b6V hs2) fz|refine a0F (v:=I wear) (b:=b) (i:=15) rfl (b5F hE) fz|fail) ?_)|(refine a1I .geq ?_;refine po (by first|refine a7Y rfl rfl (by omega) fz|fail) ?_)|refine pw ?_|refine pdd ?_|refine ow ?_|fail)
   all_goals dsimp only [cA,nA]
   repeat' (first|intro _|(refine k_fn 90 ?_;(refine a0G (b:=b) (fun _=>b4M _ b ad c ⟨bs,er,wear,.fuse 0,torn⟩ h hk rfl) rfl (fun h2 hk2=>?_);(try dsimp only [Fl.stepped,Fl.goes] at hk2 ⊢)))|(refine a0K ?_;refine a0F (v:=I torn) (b:=b) (i:=19) rfl (b5G hE) ?_)|(refine a1S ?_;refine b6J (r:=max 0 torn) rfl rfl (by omega) ?_)|(refine a0D .rem ?_;(refine a2J rfl rfl (by omega) ?_;rw [htr]))|refine wK ?_|refine wL ?_ ?_|fail)
   refine a0H [(0,_),(1,_)] c2C [10] [⟨[0,1,2,3,4,5,6,7,8,9],[],some 10⟩,⟨[],[],none⟩] mixed cv (by kernel_rfl) (by kernel_rfl) ?_
   repeat' (first|intro _|refine sg ?_|(refine a0Z ?_;refine po (by first|refine a1C s (1+s) rfl rfl rfl hs14 (by omega) fz|fail) ?_)|(refine a1E ?_;refine po (by first|refine a0F (v:=nI er[s]) (b:=b) (i:=1+s) rfl (b6V hs2) fz|fail) ?_)|(refine a1I .add ?_;refine po (by first|((refine a2F rfl rfl (by omega) ?_;rw [hcast]);all_goals exact fz)|fail) ?_)|refine pw ?_|refine pdd ?_|(refine a1N ?_;refine a1R (b:=b) (i:=1+s) rfl rfl (by rw [a5Z hE];omega) rfl (b6U (v:=er[s]+1) hs2) ?_)|refine ow ?_|fail)
   all_goals dsimp only [cA,nA]
   repeat' (first|intro _|refine wK ?_|refine wL ?_ ?_|fail)
   refine a0Y (S:=Nat) (fun j=>[(0,.pointer (some ⟨b,0,none⟩)),(1,I s),(6,.bool false),(55,I tr),(56,I j)]) (fun j=>[fB b ad c ⟨bs,er.set s (er[s]+1),wear,.down none,torn⟩ h2,.any (slk ad c (fillB bs (s*256) j)),.any (stars H)]) (fun j=>j≤tr) (fun j=>tr - j) 0 (Nat.zero_le _) cv (by rw [a6J];exact ent) ?_
   intro j hj
   by_cases hjt:j<tr
   ·have hpn:(s:Int)*256+(j:Int)=((s*256+j:Nat):Int):=by omega
    have hBl:(fillB bs (s*256) j).length=3584:=by rw [a4F (by omega)];exact hbl
    have hnx:=b4N (l:=bs) (a:=s*256) (i:=j) (by omega)
    repeat' (first|intro _|(refine a0D .mul ?_;refine a2Y rfl rfl (by omega) ?_)|(refine a0D .add ?_;(refine a2F rfl rfl (by omega) ?_;rw [hpn]))|(refine a0K ?_;refine a0F (b:=b) (i:=0) rfl a8O ?_)|(refine a0J ?_;refine a2B (enc:=B) (ad:=ad) (c:=c) (xs:=fillB bs (s*256) j) (s*256+j) rfl rfl rx_fl hBl.symm rfl (by omega) ?_)|(refine a1N ?_;(refine a4G (v:=0xff#8) (s*256+j) (ad:=ad) (c:=c) (l:=fillB bs (s*256) j) rfl rfl (by omega) ?_;rw [hnx]))|refine wK ?_|refine wL ?_ ?_|fail)
    refine a0Q (j+1) (by omega) (by omega) cv ?_
    exact ent
   ·have:j=tr:=by omega
    rw [this]
    repeat' (first|intro _|refine wK ?_|refine wL ?_ ?_|fail)
    refine a0E h2 rfl rfl rfl ⟨by show (er.set s (er[s]+1)).length=14;rw [List.length_set];exact hE,by show (fillB bs (s*256) tr).length=3584;rw [a4F (by omega)];exact hbl,hk2.wr,hers,hk2.pw⟩ ?_
    exact ent
  | succ n =>
   rw [show eraseF ⟨bs,er,wear,.fuse (n+1),torn⟩ s=(⟨fillB bs (s*256) 256,er.set s (er[s]+1),wear,.fuse n,torn⟩,0) by simp only [eraseF];rw [hgd,if_neg hw]]
   repeat' (first|intro _|refine a0S rfl rfl ?_|(refine a0K ?_;refine a0F (b:=b) (i:=16) rfl (a4C hE) ?_)|refine wK ?_|refine wL ?_ ?_|fail)
   refine a0H [(0,_),(1,_)] c1N [] [⟨[0,1,2,3,4,5,6,7,8,9,10,11],[],none⟩] mixed cv (by kernel_rfl) (by kernel_rfl) ?_
   repeat' (first|intro _|refine sg ?_|(refine a0Z ?_;refine po (by first|refine a1C s (1+s) rfl rfl rfl hs14 (by omega) fz|fail) ?_)|(refine a1E ?_;refine po (by first|refine a0F (v:=nI er[s]) (b:=b) (i:=1+s) rfl (b6V hs2) fz|refine a0F (v:=I wear) (b:=b) (i:=15) rfl (b5F hE) fz|fail) ?_)|(refine a1I .geq ?_;refine po (by first|refine a7Y rfl rfl (by omega) fz|fail) ?_)|refine pw ?_|refine pdd ?_|refine ow ?_|fail)
   all_goals dsimp only [cA,nA]
   repeat' (first|intro _|(refine k_fn 90 ?_;(refine a0G (b:=b) (fun _=>b4M _ b ad c ⟨bs,er,wear,.fuse (n+1),torn⟩ h hk rfl) rfl (fun h2 hk2=>?_);(try dsimp only [Fl.stepped,Fl.goes] at hk2 ⊢)))|(refine a0K ?_;refine a0F (v:=I torn) (b:=b) (i:=19) rfl (b5G hE) ?_)|(refine a1S ?_;refine b6J (r:=max 0 torn) rfl rfl (by omega) ?_)|(refine a0D .rem ?_;(refine a2J rfl rfl (by omega) ?_;rw [htr]))|refine wK ?_|refine wL ?_ ?_|fail)
   refine a0H [(0,_),(1,_)] c2C [10] [⟨[0,1,2,3,4,5,6,7,8,9],[],some 10⟩,⟨[],[],none⟩] mixed cv (by kernel_rfl) (by kernel_rfl) ?_
   repeat' (first|intro _|refine sg ?_|(refine a0Z ?_;refine po (by first|refine a1C s (1+s) rfl rfl rfl hs14 (by omega) fz|fail) ?_)|(refine a1E ?_;refine po (by first|refine a0F (v:=nI er[s]) (b:=b) (i:=1+s) rfl (b6V hs2) fz|fail) ?_)|(refine a1I .add ?_;refine po (by first|((refine a2F rfl rfl (by omega) ?_;rw [hcast]);all_goals exact fz)|fail) ?_)|refine pw ?_|refine pdd ?_|(refine a1N ?_;refine a1R (b:=b) (i:=1+s) rfl rfl (by rw [a5Z hE];omega) rfl (b6U (v:=er[s]+1) hs2) ?_)|refine ow ?_|fail)
   all_goals dsimp only [cA,nA]
   repeat' (first|intro _|refine wK ?_|refine wL ?_ ?_|fail)
   refine a0Y (S:=Nat) (fun j=>[(0,.pointer (some ⟨b,0,none⟩)),(1,I s),(6,.bool true),(55,I 256),(56,I j)]) (fun j=>[fB b ad c ⟨bs,er.set s (er[s]+1),wear,.fuse n,torn⟩ h2,.any (slk ad c (fillB bs (s*256) j)),.any (stars H)]) (fun j=>j≤256) (fun j=>256 - j) 0 (Nat.zero_le _) cv (by rw [a6J];exact ent) ?_
   intro j hj
   by_cases hjt:j<256
   ·have hpn:(s:Int)*256+(j:Int)=((s*256+j:Nat):Int):=by omega
    have hBl:(fillB bs (s*256) j).length=3584:=by rw [a4F (by omega)];exact hbl
    have hnx:=b4N (l:=bs) (a:=s*256) (i:=j) (by omega)
    repeat' (first|intro _|(refine a0D .mul ?_;refine a2Y rfl rfl (by omega) ?_)|(refine a0D .add ?_;(refine a2F rfl rfl (by omega) ?_;rw [hpn]))|(refine a0K ?_;refine a0F (b:=b) (i:=0) rfl a8O ?_)|(refine a0J ?_;refine a2B (enc:=B) (ad:=ad) (c:=c) (xs:=fillB bs (s*256) j) (s*256+j) rfl rfl rx_fl hBl.symm rfl (by omega) ?_)|(refine a1N ?_;(refine a4G (v:=0xff#8) (s*256+j) (ad:=ad) (c:=c) (l:=fillB bs (s*256) j) rfl rfl (by omega) ?_;rw [hnx]))|refine wK ?_|refine wL ?_ ?_|fail)
    refine a0Q (j+1) (by omega) (by omega) cv ?_
    exact ent
   ·have:j=256:=by omega
    rw [this]
    repeat' (first|intro _|refine wK ?_|refine wL ?_ ?_|fail)
    refine a0E h2 rfl rfl rfl ⟨by show (er.set s (er[s]+1)).length=14;rw [List.length_set];exact hE,by show (fillB bs (s*256) 256).length=3584;rw [a4F (by omega)];exact hbl,hk2.wr,hers,hk2.pw⟩ ?_
    exact ent
def fuseF (f:Fl) (n:Option Nat) (t:Int):Fl:={ f with torn:=t,pw:=match f.pw,n with
  | .down _,q => .down q
  | _,none => .on
  | _,some n => .fuse n }
def startF (f:Fl):Fl:={ f with pw:=match f.pw with
  | .down none => .on
  | .down (some n) => .fuse n
  | p=>p }
def nO (n:Option Nat):Int:=match n with
 | none => -1
 | some n=>n
theorem b9P (H:List Hl) (b:Nat) (ad:Option Addr) (c:Nat) (f:Fl) (h:Hid) (n:Option Nat) (t:Int) (hk:FlOk f h) (hn:∀ k,n=some k→k≤1000000) :
  Spec Tryz.prog 19 [.pointer (some ⟨b,0,none⟩),I (nO n),I t] (fB b ad c f h::H) (fun h':Hid=>FlOk (fuseF f n t) h') (fun _ => .tuple #[]) (fun h'=>fB b ad c (fuseF f n t) h'::H):=by
 refine sF (res:=fun h':Hid=>[fB b ad c (fuseF f n t) h']) [fB b ad c f h] H Tryz.func19 Tryz.ntmps19 fun W=>?_
 dsimp only [cA,nA]
 have hE:=hk.er
 have hb:∀ f' h',(flC ad c { f with torn:=t } ⟨nO n,h.steps,decide (0≤nO n)⟩)=flC ad c f' h'→f'.er.length=14→True:=fun _ _ _ _=>trivial
 have e:flC ad c { f with torn:=t } ⟨nO n,h.steps,decide (0≤nO n)⟩=flC ad c (fuseF f n t) ⟨nO n,h.steps,decide (0≤nO n)⟩:=by
  obtain ⟨bs,er,wear,pwr,torn⟩:=f
  cases pwr <;> cases n <;> rfl
 repeat' (first|intro _|refine a4N rfl rfl ?_|(refine a0D .geq ?_;refine b2X rfl rfl ?_)|(refine a1N ?_;first|refine a1R (b:=b) (i:=17) rfl rfl (by rw [a5Z hE];decide) rfl (flC_setfused _ hE) ?_|refine a1R (b:=b) (i:=18) rfl rfl (by rw [a5Z hE];decide) rfl (a9R _ hE) ?_|refine a1R (b:=b) (i:=19) rfl rfl (by rw [a5Z hE];decide) rfl (flC_settorn _ hE) ?_)|refine wK ?_|refine wL ?_ ?_|fail)
 refine a4I (⟨nO n,h.steps,decide (0≤nO n)⟩:Hid) rfl rfl ⟨hE,hk.bs,hk.wr,hk.ers,?_⟩ ?_
 ·obtain ⟨bs,er,wear,pwr,torn⟩:=f
  cases pwr <;> cases n <;> simp [fuseF,nO] <;> exact hn _ rfl
 show Ent _ [.box b 110 (flC ad c (fuseF f n t) ⟨nO n,h.steps,decide (0≤nO n)⟩),.any (stars H)]
 rw [←e]
 exact ent
theorem fl_Bytes (H:List Hl) (b:Nat) (ad:Option Addr) (c:Nat) (f:Fl) (h:RdFl (stars H) b ad c f) :
  Spec Tryz.prog 45 [.pointer (some ⟨b,0,none⟩)] H (fun _:Option Addr × Nat=>True) (fun r => .slice r.1 3584 r.2) (fun r => .row 5 1 (.slice r.1 3584 r.2) 3584 (f.bs.map B)::H):=by
 refine sP (res:=fun r:Option Addr × Nat=>[.row 5 1 (.slice r.1 3584 r.2) 3584 (f.bs.map B)]) H Tryz.func45 Tryz.ntmps45 fun W=>?_
 have hs:=h.s
 have hl:=h.l
 repeat' (first|intro _|refine a0S rfl rfl ?_|(refine a0K ?_;refine a0L rfl hs ?_)|(refine k_fn 29 ?_;(refine a0A (fun _=>(a1B _ ad c f.bs h.r.up (by omega)).argE (args':=[.slice ad 3584 c]) (by rw [hl])) rfl (fun ⟨a9,c9⟩ _=>?_);(try dsimp only);rw [hl]))|refine wK ?_|refine wL ?_ ?_|fail)
 refine a0E (a9,c9) rfl rfl rfl trivial ?_
 exact ent
theorem fl_Start (H:List Hl) (b:Nat) (ad:Option Addr) (c:Nat) (f:Fl) (h:Hid) (hk:FlOk f h) :
  Spec Tryz.prog 49 [.pointer (some ⟨b,0,none⟩)] (fB b ad c f h::H) (fun h':Hid=>FlOk (startF f) h') (fun _ => .tuple #[]) (fun h'=>fB b ad c (startF f) h'::H):=by
 refine sF (res:=fun h':Hid=>[fB b ad c (startF f) h']) [fB b ad c f h] H Tryz.func49 Tryz.ntmps49 fun W=>?_
 dsimp only [cA,nA]
 have hE:=hk.er
 obtain ⟨v,hv⟩:∃ v,(h.fused && decide (0≤h.left))=v:=⟨_,rfl⟩
 have e:((flC ad c f h).set 16 (.bool false)).set 17 (.bool v)=flC ad c (startF f) { h with fused:=v }:=by
  have hp:=hk.pw
  obtain ⟨bs,er,wear,pwr,torn⟩:=f
  obtain ⟨l,st,fu⟩:=h
  match er,hE with
  | [a0,a1,a2,a3,a4,a5,a6,a7,a8,a9,a10,a11,a12,a13],_ =>
   cases pwr with
   | on=>rfl
   | fuse n=>rfl
   | down q=>cases q <;> rfl
 have hfin:FlOk (startF f) { h with fused:=v }:=by
  refine ⟨hE,hk.bs,hk.wr,hk.ers,?_⟩
  have hp:=hk.pw
  obtain ⟨bs,er,wear,pwr,torn⟩:=f
  obtain ⟨l,st,fu⟩:=h
  dsimp only at hp hv
  cases pwr with
  | on =>
   dsimp only at hp
   show v=false
   rw [←hv,hp];rfl
  | fuse n =>
   dsimp only at hp
   obtain ⟨p1,p2,p3⟩:=hp
   refine ⟨?_,p2,p3⟩
   rw [←hv,p1,p2]
   simp
  | down q =>
   cases q with
   | none =>
    dsimp only at hp
    show v=false
    rw [←hv]
    cases fu with
    | false=>rfl
    | true=>have:=hp rfl;simp;omega
   | some n =>
    dsimp only at hp
    obtain ⟨p1,p2,p3⟩:=hp
    refine ⟨?_,p2,p3⟩
    rw [←hv,p1,p2]
    simp
 cases hfu:h.fused
 ·have hvf:v=false:=by rw [←hv,hfu];rfl
  subst hvf
  repeat' (first|intro _|refine a4N rfl rfl ?_|(refine a0K ?_;refine a0F (v := .bool false) (b:=b) (i:=17) rfl (by rw [b0J hE,hfu]) ?_)|(refine a1N ?_;first|refine a1R (b:=b) (i:=16) rfl rfl (by rw [a5Z hE];decide) rfl rfl ?_|refine a1R (b:=b) (i:=17) rfl rfl (by rw [List.length_set,a5Z hE];decide) rfl e ?_)|refine wK ?_|refine wL ?_ ?_|fail)
  refine a4I ({ h with fused:=false }:Hid) rfl rfl hfin ?_
  exact ent
 ·have hvf:decide (0≤h.left)=v:=by rw [←hv,hfu];rfl
  repeat' (first|intro _|refine a4N rfl rfl ?_|(refine a0K ?_;first|refine a0F (v := .bool true) (b:=b) (i:=17) rfl (by rw [b0J hE,hfu]) ?_|refine a0F (b:=b) (i:=18) rfl (b5H hE) ?_)|(refine a0D .geq ?_;(refine b2X rfl rfl ?_;rw [show decide (h.left ≥ 0)=v from hvf]))|(refine a1N ?_;first|refine a1R (b:=b) (i:=16) rfl rfl (by rw [a5Z hE];decide) rfl rfl ?_|refine a1R (b:=b) (i:=17) rfl rfl (by rw [List.length_set,a5Z hE];decide) rfl e ?_)|refine wK ?_|refine wL ?_ ?_|fail)
  refine a4I ({ h with fused:=v }:Hid) rfl rfl hfin ?_
  exact ent
def SlotD.same (x y:SlotD):Bool:=decide ((x.v.toNat:Int)=(y.v.toNat:Int)) && (decide (x.n=y.n) && decide (x.h.l=y.h.l))
abbrev RdS (A:Hp→Prop) (h:SlD (BitVec 8)):Prop:=Rs A B h.ad h.cap h.l
structure StD.Rd (A:Hp→Prop) (x:StD):Prop where
 s0:RdS A x.s0.h
 s1:RdS A x.s1.h
 m:RdS A x.m.h
theorem st_sameSlot (H:List Hl) (x y:SlotD) (hx:RdS (stars H) x.h) (hy:RdS (stars H) y.h):Spec Tryz.prog 150 [x.V,y.V] H (fun _:Unit=>True) (fun _ => .bool (x.same y)) (fun _=>H):=by
 refine sP (res:=fun _=>[]) H Tryz.func150 Tryz.ntmps150 fun W=>?_
 repeat' (first|intro _|(refine k_fn 66 ?_;refine a0A (fun _=>a4K _ _ _ _ _ x.h.l y.h.l (Rs.up hx) (Rs.up hy)) rfl (fun _ _=>?_))|refine wK ?_|refine wL ?_ ?_|fail)
 all_goals (refine a0E () rfl rfl ?_ trivial ?_;· simp only [SlotD.same, *];first|rfl|simp|(simp;done))
 all_goals exact ent
def StD.same (x y:StD):Bool:=decide (x.a=y.a) && (decide (x.t=y.t) && (decide ((x.f.toNat:Int)=(y.f.toNat:Int)) && (decide ((x.g.toNat:Int)=(y.g.toNat:Int)) && ((x.on == y.on) && (x.s0.same y.s0 && (x.s1.same y.s1 && x.m.same y.m))))))
theorem st_Same (H:List Hl) (x y:StD) (hx:x.Rd (stars H)) (hy:y.Rd (stars H)):Spec Tryz.prog 101 [x.V,y.V] H (fun _:Unit=>True) (fun _ => .bool (x.same y)) (fun _=>H):=by
 refine sP (res:=fun _=>[]) H Tryz.func101 Tryz.ntmps101 fun W=>?_
 have e0:=hx.s0
 have e1:=hx.s1
 have e2:=hx.m
 have f0:=hy.s0
 have f1:=hy.s1
 have f2:=hy.m
 repeat' (first|intro _|(refine a0J ?_;first|refine a1C 0 4 rfl rfl rfl (by decide) rfl ?_|refine a1C 1 7 rfl rfl rfl (by decide) rfl ?_)|(refine a0D .eql ?_;(refine c1R rfl rfl ?_;cases hon:(x.on == y.on)))|(refine k_fn 150 ?_;first|(refine a0A (fun _=>st_sameSlot _ x.s0 y.s0 (Rs.up e0) (Rs.up f0)) rfl (fun _ _=>?_);cases hs0:x.s0.same y.s0)|(refine a0A (fun _=>st_sameSlot _ x.s1 y.s1 (Rs.up e1) (Rs.up f1)) rfl (fun _ _=>?_);cases hs1:x.s1.same y.s1))|(refine k_fn 117 ?_;refine a0A (fun _=>b6M _ x.m y.m (Rs.up e2) (Rs.up f2)) rfl (fun _ _=>?_))|refine wK ?_|refine wL ?_ ?_|fail)
 all_goals (refine a0E () rfl rfl ?_ trivial ?_;· simp only [StD.same, *];first|rfl|simp|(simp;done))
 all_goals exact ent
theorem SlotD.same_self (x:SlotD):x.same x=true:=by simp [SlotD.same]
theorem ManD.same_self (x:ManD):x.same x=true:=by simp [ManD.same]
theorem StD.same_self (x:StD):x.same x=true:=by simp [StD.same,SlotD.same_self,ManD.same_self]
def copyS (x:StD) (r0 r1 r2:PA):StD:=⟨x.a,x.t,x.f,x.g,⟨x.s0.v,x.s0.n,⟨r0.1,r0.2,x.s0.h.l⟩⟩,⟨x.s1.v,x.s1.n,⟨r1.1,r1.2,x.s1.h.l⟩⟩,x.on,⟨x.m.s,x.m.v,x.m.n,x.m.z,x.m.p,⟨r2.1,r2.2,x.m.h.l⟩⟩⟩
def dropS (x:StD) (r0 r1:PA):StD:=⟨x.a,x.t,x.f,x.g,⟨x.s0.v,x.s0.n,⟨r0.1,r0.2,x.s0.h.l⟩⟩,⟨x.s1.v,x.s1.n,⟨r1.1,r1.2,x.s1.h.l⟩⟩,false,zM⟩
abbrev rowL (r:PA) (l:List (BitVec 8)):Hl := .row 5 1 (.slice r.1 l.length r.2) l.length (l.map B)
theorem b0P (H:List Hl) (x:StD) (hx:x.Rd (stars H)) (hl:x.light) :
  Spec Tryz.prog 100 [x.V] H (fun _:PA × PA × PA=>True) (fun r=>(copyS x r.1 r.2.1 r.2.2).V) (fun r=>rowL r.1 x.s0.h.l::rowL r.2.1 x.s1.h.l::rowL r.2.2 x.m.h.l::H):=by
 refine sP (res:=fun r:PA × PA × PA=>[rowL r.1 x.s0.h.l,rowL r.2.1 x.s1.h.l,rowL r.2.2 x.m.h.l]) H Tryz.func100 Tryz.ntmps100 fun W=>?_
 have e0:=hx.s0
 have e1:=hx.s1
 have e2:=hx.m
 obtain ⟨q0,q1,q2⟩:=hl
 repeat' (first|intro _|refine wK ?_|refine wL ?_ ?_|fail)
 refine a2O 2 ?_
 repeat' (first|intro _|(refine a0J ?_;first|refine a1C 0 4 rfl rfl rfl (by decide) rfl ?_|refine a1C 1 7 rfl rfl rfl (by decide) rfl ?_)|(refine k_fn 29 ?_;first|(refine a0A (fun _=>a1B _ _ _ x.s0.h.l (Rs.up e0) (by omega)) rfl (fun ⟨a5,c5⟩ _=>?_);dsimp only)|(refine a0A (fun _=>a1B _ _ _ x.s1.h.l (Rs.up e1) (by omega)) rfl (fun ⟨a6,c6⟩ _=>?_);dsimp only)|(refine a0A (fun _=>a1B _ _ _ x.m.h.l (Rs.up e2) (by omega)) rfl (fun ⟨a7,c7⟩ _=>?_);dsimp only))|refine wK ?_|refine wL ?_ ?_|fail)
 refine a5U (⟨a5,c5⟩,⟨a6,c6⟩,⟨a7,c7⟩) rfl rfl rfl rfl trivial ?_
 exact ent
theorem bt_Drop (H:List Hl) (x:StD) (hx:x.Rd (stars H)) (hm:x.may=true) :
  Spec Tryz.prog 125 [x.V] H (fun _:PA × PA=>True) (fun r=>(dropS x r.1 r.2).V) (fun r=>rowL r.1 x.s0.h.l::rowL r.2 x.s1.h.l::H):=by
 refine sP (res:=fun r:PA × PA=>[rowL r.1 x.s0.h.l,rowL r.2 x.s1.h.l]) H Tryz.func125 Tryz.ntmps125 fun W=>?_
 have e0:=hx.s0
 have e1:=hx.s1
 have e2:=hx.m
 have hl:x.light:=by
  rcases Classical.em x.light with h|h
  ·exact h
  ·rw [StD.heavy h] at hm;cases hm
 repeat' (first|intro _|(refine k_fn 97 ?_;refine a0A (fun _=>(a4D _ x).bv (b:=true) hm) rfl (fun _ _=>?_))|(refine k_fn 100 ?_;(refine a0A (fun _=>b0P _ x ⟨Rs.up e0,Rs.up e1,Rs.up e2⟩ hl) rfl (fun ⟨r0,r1,r2⟩ _=>?_);dsimp only [StD.V,StD.c,copyS]))|refine wK ?_|refine wL ?_ ?_|fail)
 refine a5U (r0,r1) rfl rfl rfl rfl trivial ?_
 exact ent
def startS (x:StD):StD:=⟨if x.t=1 then 1 - x.a else x.a,if x.t=0 then 0 else x.t - 1,x.f,x.g,x.s0,x.s1,x.on,x.m⟩
def maxV (a b:BitVec 32):BitVec 32:=if a.toNat≤b.toNat then b else a
theorem maxV_hr (a b:BitVec 32):((a.toNat:Int)≤b.toNat∧((maxV a b).toNat:Int)=b.toNat)∨((b.toNat:Int)≤a.toNat∧((maxV a b).toNat:Int)=a.toNat):=by
 unfold maxV
 split
 ·left;omega
 ·right;omega
def confS (x:StD):StD:=⟨x.a,0,maxV x.f x.cur.v,x.g,x.s0,x.s1,x.on,x.m⟩
def newSl (x:StD):SlotD:=⟨x.m.v,x.m.n,x.m.h⟩
def actS (x:StD):StD:=⟨1 - x.a,3,x.f,x.g,if x.a=0 then x.s0 else newSl x,if x.a=0 then newSl x else x.s1,false,zM⟩
theorem a3P (x:StD) (r0 r1 r2:PA):(copyS x r0 r1 r2).may=x.may:=by
 have e1:(copyS x r0 r1 r2).cur.something=x.cur.something:=by
  unfold StD.cur
  by_cases ha:x.a=0
  ·rw [if_pos ha,if_pos (show (copyS x r0 r1 r2).a=0 from ha)];rfl
  ·rw [if_neg ha,if_neg (show ¬ (copyS x r0 r1 r2).a=0 from ha)];rfl
 have e2:(copyS x r0 r1 r2).oth.something=x.oth.something:=by
  unfold StD.oth
  by_cases ha:x.a=0
  ·rw [if_pos ha,if_pos (show (copyS x r0 r1 r2).a=0 from ha)];rfl
  ·rw [if_neg ha,if_neg (show ¬ (copyS x r0 r1 r2).a=0 from ha)];rfl
 have e3:(copyS x r0 r1 r2).oth.nothing=x.oth.nothing:=by
  unfold StD.oth
  by_cases ha:x.a=0
  ·rw [if_pos ha,if_pos (show (copyS x r0 r1 r2).a=0 from ha)];rfl
  ·rw [if_neg ha,if_neg (show ¬ (copyS x r0 r1 r2).a=0 from ha)];rfl
 unfold StD.may
 rw [e1,e2,e3]
 rfl
theorem a7P {x:StD} (h:x.may=true):x.light:=by
 rcases Classical.em x.light with hl|hl
 ·exact hl
 ·rw [StD.heavy hl] at h;cases h
structure MayF (x:StD):Prop where
 a:x.a=0∨x.a=1
 t:0≤x.t∧x.t≤3
 c:x.cur.something=true
 o:(x.oth.something=true)∨(x.oth.nothing=true∧x.t≤0)
 m:(if x.on then x.m.may else x.m.none)=true
theorem a5J {x:StD}:x.may=true↔MayF x:=by
 simp only [StD.may,Bool.and_eq_true,Bool.or_eq_true,decide_eq_true_eq]
 constructor
 ·rintro ⟨⟨⟨⟨h1,h2⟩,h3⟩,h4⟩,h5⟩;exact ⟨h1,h2,h3,h4,h5⟩
 ·rintro ⟨h1,h2,h3,h4,h5⟩;exact ⟨⟨⟨⟨h1,h2⟩,h3⟩,h4⟩,h5⟩
theorem b2K {x:StD} (h:x.may=true):(startS x).may=true:=by
 obtain ⟨h1,h2,h3,h4,h5⟩:=a5J.1 h
 refine a5J.2 ?_
 by_cases t0:x.t=0
 ·have e:startS x=x:=by
   obtain ⟨a,t,f,g,s0,s1,on,m⟩:=x
   dsimp only at t0
   subst t0
   simp [startS]
  rw [e];exact ⟨h1,h2,h3,h4,h5⟩
 ·have h4:x.oth.something=true:=by
   rcases h4 with h4|h4
   ·exact h4
   ·omega
  by_cases t1:x.t=1
  ·have ea:(startS x).a=1 - x.a:=if_pos t1
   have et:(startS x).t=0:=by show (if x.t=0 then 0 else x.t - 1)=0;rw [if_neg t0];omega
   have ec:(startS x).cur=x.oth:=by
    unfold StD.cur StD.oth
    rw [ea]
    rcases h1 with h1|h1
    ·rw [if_neg (by omega),if_pos h1];rfl
    ·rw [if_pos (by omega),if_neg (by omega)];rfl
   have eo:(startS x).oth=x.cur:=by
    unfold StD.cur StD.oth
    rw [ea]
    rcases h1 with h1|h1
    ·rw [if_neg (by omega),if_pos h1];rfl
    ·rw [if_pos (by omega),if_neg (by omega)];rfl
   exact ⟨by rw [ea];omega,by rw [et];omega,by rw [ec];exact h4,.inl (by rw [eo];exact h3),h5⟩
  ·have ea:(startS x).a=x.a:=if_neg t1
   have et:(startS x).t=x.t - 1:=if_neg t0
   have ec:(startS x).cur=x.cur:=by unfold StD.cur;rw [ea];rfl
   have eo:(startS x).oth=x.oth:=by unfold StD.oth;rw [ea];rfl
   exact ⟨by rw [ea];exact h1,by rw [et];omega,by rw [ec];exact h3,.inl (by rw [eo];exact h4),h5⟩
theorem a9U {x:StD} (h:x.may=true):(confS x).may=true:=by
 obtain ⟨h1,h2,h3,h4,h5⟩:=a5J.1 h
 refine a5J.2 ⟨h1,by show 0≤(0:Int)∧(0:Int)≤3;omega,h3,?_,h5⟩
 rcases h4 with h4|h4
 ·exact .inl h4
 ·exact .inr ⟨h4.1,by show (0:Int)≤0;omega⟩
theorem man_may {m:ManD} (h:m.may=true):1≤m.n∧m.n≤512∧m.h.l.length=32:=by
 simp only [ManD.may,mayP,Bool.and_eq_true,decide_eq_true_eq] at h
 refine ⟨?_,?_,h.2⟩
 ·have h1:=h.1.1
  unfold count at h1
  split at h1
  ·omega
  ·omega
 ·have h1:=h.1.1
  unfold count at h1
  split at h1
  ·omega
  ·omega
theorem c1L (x:StD) (ha:x.a=0∨x.a=1):(actS x).cur=newSl x∧(actS x).oth=x.cur:=by
 unfold StD.cur StD.oth actS
 rcases ha with h|h
 ·simp [h]
 ·simp [h]
theorem b7Q {x:StD} (h:x.may=true) (ho:x.on=true) (ht:x.t=0):(actS x).may=true:=by
 obtain ⟨h1,h2,h3,h4,h5⟩:=a5J.1 h
 rw [if_pos ho] at h5
 obtain ⟨q1,q2,q3⟩:=man_may h5
 obtain ⟨e1,e2⟩:=c1L x h1
 refine a5J.2 ⟨by show 1 - x.a=0∨1 - x.a=1;omega,by show 0≤(3:Int)∧(3:Int)≤3;omega,?_,.inl ?_,by rfl⟩
 ·rw [e1];exact decide_eq_true (show x.m.h.l.length=32∧1≤x.m.n∧x.m.n≤512 from ⟨q3,q1,q2⟩)
 ·rw [e2];exact h3
def confOn (x:StD):Bool := !((confS x).same x)
theorem b7G (x:StD):confOn x = !(decide (x.t=0) && decide ((maxV x.f x.cur.v).toNat=x.f.toNat)):=by
 show (!(decide (x.a=x.a) && (decide ((0:Int)=x.t) && (decide (((maxV x.f x.cur.v).toNat:Int)=(x.f.toNat:Int)) && (decide ((x.g.toNat:Int)=x.g.toNat) && ((x.on == x.on) && (x.s0.same x.s0 && (x.s1.same x.s1 && x.m.same x.m))))))))=_
 rw [SlotD.same_self,SlotD.same_self,ManD.same_self]
 generalize maxV x.f x.cur.v=w
 congr 1
 rw [beq_self_eq_true]
 simp only [eq_self,decide_true,Bool.true_and,Bool.and_true]
 rw [Bool.eq_iff_iff]
 simp only [Bool.and_eq_true,decide_eq_true_eq]
 omega
theorem r7_Count (H:List Hl) (l s:Int):Spec Tryz.prog 11 [I l,I s] H (fun _:Unit=>True) (fun _=>I (count l s)) (fun _=>H):=by
 refine sP (res:=fun _=>[]) H Tryz.func11 Tryz.ntmps11 fun W=>?_
 repeat' (first|intro _|(refine a0D .quo ?_;refine a3A rfl rfl (by omega) ?_)|refine wK ?_|refine wL ?_ ?_|fail)
 all_goals
  refine a0E () rfl rfl ?_ trivial ?_
 all_goals first
  | (exact ent;done)
  | skip
 all_goals
  unfold count
  split <;> first|rfl|omega|(split <;> first|rfl|omega)
def rtF2_0:List Row:=[tR 13 [] [],tR 14 [0] [0],tR 15 [] [],tR 16 [2] [2],tR 17 [] [],tR 18 [4,3] [2,3,4],tR 19 [5] [2,3,4,5],tR 20 [6] [2,3,4,5,6],tR 21 [1,7] (rG 8),tR 22 [0,1,2,3,4,5,6,7,8] (rG 9),⟨none,[9,8,0,1,2,3,4,5,6,7,8],[0,1,2,3,4,5,6,7,8,9],none⟩]
def rtF2_1:List Row:=[tR 23 [] [],tR 24 [] [],tR 25 [] [],tR 26 [1,2] [1,2],tR 27 [3] [1,2,3],⟨none,[0,3,0],[0,1,2,3],none⟩,tR 3 [4,5,0,1,2,3,4,5] (rG 6)]
theorem start_0 {x:StD} (h:x.t=0):startS x=x:=by
 obtain ⟨a,t,f,g,s0,s1,on,m⟩:=x
 dsimp only at h
 subst h
 simp [startS]
theorem start_1 {x:StD} (h:x.t=1):startS x=⟨1 - x.a,x.t - 1,x.f,x.g,x.s0,x.s1,x.on,x.m⟩:=by simp [startS,h]
theorem start_2 {x:StD} (h : ¬ x.t=0) (h1 : ¬ x.t=1):startS x=⟨x.a,x.t - 1,x.f,x.g,x.s0,x.s1,x.on,x.m⟩:=by simp [startS,h,h1]
abbrev rows3 (r:PA × PA × PA) (x:StD):List Hl:=[rowL r.1 x.s0.h.l,rowL r.2.1 x.s1.h.l,rowL r.2.2 x.m.h.l]
theorem bt_Start (H:List Hl) (x:StD) (hx:x.Rd (stars H)) (hm:x.may=true) :
  Spec Tryz.prog 53 [x.V] H (fun _:PA × PA × PA=>True) (fun r => .tuple #[(copyS (startS x) r.1 r.2.1 r.2.2).V,.bool (!decide (x.t=0))]) (fun r=>rowL r.1 x.s0.h.l::rowL r.2.1 x.s1.h.l::rowL r.2.2 x.m.h.l::H):=by
 refine sP (res:=fun r:PA × PA × PA=>rows3 r x) H Tryz.func53 Tryz.ntmps53 fun W=>?_
 have e0:=hx.s0
 have e1:=hx.s1
 have e2:=hx.m
 have hl:=a7P hm
 obtain ⟨ha,ht,_,_,_⟩:=a5J.1 hm
 by_cases t0:x.t=0
 ·rw [start_0 t0,decide_eq_true t0]
  repeat' (first|intro _|(refine k_fn 97 ?_;refine a0A (fun _=>(a4D _ x).bv (b:=true) hm) rfl (fun _ _=>?_))|(refine k_fn 100 ?_;(refine a0A (fun _=>b0P _ x ⟨Rs.up e0,Rs.up e1,Rs.up e2⟩ hl) rfl (fun ⟨r0,r1,r2⟩ _=>?_);dsimp only [StD.V,StD.c,copyS]))|refine wK ?_|refine wL ?_ ?_|fail)
  refine a0N (r0,r1,r2) rfl rfl rfl rfl rfl trivial ?_
  exact ent
 ·by_cases t1:x.t=1
  ·rw [start_1 t1,decide_eq_false t0]
   repeat' (first|intro _|(refine k_fn 97 ?_;refine a0A (fun _=>(a4D _ x).bv (b:=true) hm) rfl (fun _ _=>?_))|(refine k_fn 100 ?_;(refine a0A (fun _=>b0P _ x ⟨Rs.up e0,Rs.up e1,Rs.up e2⟩ hl) rfl (fun ⟨r0,r1,r2⟩ _=>?_);dsimp only [StD.V,StD.c,copyS]))|refine wK ?_|refine wL ?_ ?_|fail)
   refine a0N (r0,r1,r2) rfl rfl rfl rfl rfl trivial ?_
   exact ent
  ·rw [start_2 t0 t1,decide_eq_false t0]
   repeat' (first|intro _|(refine k_fn 97 ?_;refine a0A (fun _=>(a4D _ x).bv (b:=true) hm) rfl (fun _ _=>?_))|(refine k_fn 100 ?_;(refine a0A (fun _=>b0P _ x ⟨Rs.up e0,Rs.up e1,Rs.up e2⟩ hl) rfl (fun ⟨r0,r1,r2⟩ _=>?_);dsimp only [StD.V,StD.c,copyS]))|refine wK ?_|refine wL ?_ ?_|fail)
   refine a0N (r0,r1,r2) rfl rfl rfl rfl rfl trivial ?_
   exact ent
theorem bt_Confirm (H:List Hl) (x:StD) (hx:x.Rd (stars H)) (hm:x.may=true) :
  Spec Tryz.prog 54 [x.V] H (fun _:PA × PA × PA=>True) (fun r => .tuple #[(copyS (confS x) r.1 r.2.1 r.2.2).V,.bool (confOn x)]) (fun r=>rowL r.1 x.s0.h.l::rowL r.2.1 x.s1.h.l::rowL r.2.2 x.m.h.l::H):=by
 refine sP (res:=fun r:PA × PA × PA=>rows3 r x) H Tryz.func54 Tryz.ntmps54 fun W=>?_
 have e0:=hx.s0
 have e1:=hx.s1
 have e2:=hx.m
 have hl:=a7P hm
 obtain ⟨ha,ht,_,_,_⟩:=a5J.1 hm
 have hmx:=maxV_hr x.f x.cur.v
 obtain ⟨a,t,f,g,s0,s1,on,m⟩:=x
 dsimp only at ha ht e0 e1 e2 hmx
 rcases ha with rfl|rfl
 all_goals
  dsimp only [StD.V,StD.c,StD.cur] at *
  simp only [if_true,show ((1:Int)=0)=False from by simp,if_false] at hmx
  repeat' (first|intro _|(refine k_fn 97 ?_;refine a0A (fun _=>(a4D _ ⟨_,t,f,g,s0,s1,on,m⟩).bv (b:=true) hm) rfl (fun _ _=>?_))|(refine k_fn 100 ?_;(refine a0A (fun _=>b0P _ ⟨_,t,f,g,s0,s1,on,m⟩ ⟨Rs.up e0,Rs.up e1,Rs.up e2⟩ hl) rfl (fun ⟨r0,r1,r2⟩ _=>?_);dsimp only [StD.V,StD.c,copyS]))|refine wK ?_|refine wL ?_ ?_|fail)
  refine a0H [(1,_)] rtF2_0 [10] [⟨[0,1,2,3,4,5,6,7,8,9],[],some 10⟩,⟨[],[],none⟩] mixed cv (by kernel_rfl) (by kernel_rfl) ?_
  repeat' (first|intro _|refine sg ?_|(refine a0Z ?_;refine po (by first|refine a1C 0 4 rfl rfl rfl (by decide) rfl fz|refine a1C 1 7 rfl rfl rfl (by decide) rfl fz|fail) ?_)|(refine c2F ?_;refine po (by first|refine b6J rfl rfl hmx fz|fail) ?_)|refine pw ?_|refine pdd ?_|refine ow ?_|fail)
  all_goals dsimp only [cA,nA]
  repeat' (first|intro _|refine wK ?_|refine wL ?_ ?_|fail)
  refine a0H [(1,_),(4,_),(2,_)] rtF2_1 [5] [⟨[0,1,2,3,4],[],some 5⟩,⟨[6],[4],none⟩] mixed cv (by kernel_rfl) (by kernel_rfl) ?_
  repeat' (first|intro _|refine sg ?_|(refine p_fn 101 ?_;refine po (by first|refine a0A (fun hh=>st_Same _ (copyS (confS ⟨_,t,f,g,s0,s1,on,m⟩) r0 r1 r2) ⟨_,t,f,g,s0,s1,on,m⟩ ⟨a0I (ad:=r0.1) (c:=r0.2) (l:=s0.h.l) hh,a0I (ad:=r1.1) (c:=r1.2) (l:=s1.h.l) hh,a0I (ad:=r2.1) (c:=r2.2) (l:=m.h.l) hh⟩ ⟨Rs.up e0,Rs.up e1,Rs.up e2⟩) rfl (fun _ _=>fz)|fail) ?_)|refine pw ?_|refine pdd ?_|refine ow ?_|fail)
  all_goals dsimp only [cA,nA]
  repeat' (first|intro _|refine wK ?_|refine wL ?_ ?_|fail)
  refine a0N (r0,r1,r2) rfl rfl rfl rfl rfl trivial ?_
  exact ent
end Go.Dp
namespace Go.Dp
namespace Sha
def rr (x:BitVec 32) (n:Nat):BitVec 32:=(x >>> n) ||| (x <<< (32 - n))
def s0 (x:BitVec 32):BitVec 32:=rr x 7 ^^^ rr x 18 ^^^ (x >>> 3)
def s1 (x:BitVec 32):BitVec 32:=rr x 17 ^^^ rr x 19 ^^^ (x >>> 10)
def wstep (ws:List (BitVec 32)):BitVec 32:=s1 (ws.getD (ws.length - 2) 0)+ws.getD (ws.length - 7) 0+s0 (ws.getD (ws.length - 15) 0)+ws.getD (ws.length - 16) 0
def chunk (b:List (BitVec 8)) (j:Nat):BitVec 32:=num32 ((b.drop (4*j)).take 4)
def first (b:List (BitVec 8)):List (BitVec 32):=(List.range 16).map (chunk b)
def ext:Nat→List (BitVec 32)→List (BitVec 32)
 | 0,ws=>ws
 | n+1,ws=>let w:=ext n ws;w++[wstep w]
def wordsS (b:List (BitVec 8)):List (BitVec 32):=ext 48 (first b)
structure R8 where
 a:BitVec 32
 b:BitVec 32
 c:BitVec 32
 d:BitVec 32
 e:BitVec 32
 f:BitVec 32
 g:BitVec 32
 h:BitVec 32
def R8.l (x:R8):List (BitVec 32):=[x.a,x.b,x.c,x.d,x.e,x.f,x.g,x.h]
def one (x:R8) (k w:BitVec 32):BitVec 32:=x.h+(rr x.e 6 ^^^ rr x.e 11 ^^^ rr x.e 25)+((x.e &&& x.f) ||| (~~~x.e &&& x.g))+k+w
def two (x:R8):BitVec 32:=(rr x.a 2 ^^^ rr x.a 13 ^^^ rr x.a 22)+((x.a &&& x.b) ||| (x.a &&& x.c) ||| (x.b &&& x.c))
def rnd (k w:BitVec 32) (x:R8):R8:=⟨one x k w+two x,x.a,x.b,x.c,x.d+one x k w,x.e,x.f,x.g⟩
def K:List (BitVec 32):=[0x428a2f98,0x71374491,0xb5c0fbcf,0xe9b5dba5,0x3956c25b,0x59f111f1,0x923f82a4,0xab1c5ed5,
 0xd807aa98,0x12835b01,0x243185be,0x550c7dc3,0x72be5d74,0x80deb1fe,0x9bdc06a7,0xc19bf174,
 0xe49b69c1,0xefbe4786,0x0fc19dc6,0x240ca1cc,0x2de92c6f,0x4a7484aa,0x5cb0a9dc,0x76f988da,
 0x983e5152,0xa831c66d,0xb00327c8,0xbf597fc7,0xc6e00bf3,0xd5a79147,0x06ca6351,0x14292967,
 0x27b70a85,0x2e1b2138,0x4d2c6dfc,0x53380d13,0x650a7354,0x766a0abb,0x81c2c92e,0x92722c85,
 0xa2bfe8a1,0xa81a664b,0xc24b8b70,0xc76c51a3,0xd192e819,0xd6990624,0xf40e3585,0x106aa070,
 0x19a4c116,0x1e376c08,0x2748774c,0x34b0bcb5,0x391c0cb3,0x4ed8aa4a,0x5b9cca4f,0x682e6ff3,
 0x748f82ee,0x78a5636f,0x84c87814,0x8cc70208,0x90befffa,0xa4506ceb,0xbef9a3f7,0xc67178f2]
def H0:R8:=⟨0x6a09e667,0xbb67ae85,0x3c6ef372,0xa54ff53a,0x510e527f,0x9b05688c,0x1f83d9ab,0x5be0cd19⟩
def rds (ws:List (BitVec 32)):Nat→R8→R8
 | 0,x=>x
 | i+1,x=>rnd (K.getD i 0) (ws.getD i 0) (rds ws i x)
def R8.add (s x:R8):R8:=⟨s.a+x.a,s.b+x.b,s.c+x.c,s.d+x.d,s.e+x.e,s.f+x.f,s.g+x.g,s.h+x.h⟩
def comp (s:R8) (b:List (BitVec 8)):R8:=s.add (rds (wordsS b) 64 s)
def st (t:List (BitVec 8)):Nat→R8
 | 0=>H0
 | j+1=>comp (st t j) ((t.drop (64*j)).take 64)
def be8 (n:BitVec 64):List (BitVec 8):=[(n >>> 56).setWidth 8,(n >>> 48).setWidth 8,(n >>> 40).setWidth 8,(n >>> 32).setWidth 8,(n >>> 24).setWidth 8,(n >>> 16).setWidth 8,(n >>> 8).setWidth 8,n.setWidth 8]
def gap (n:Nat):Nat:=(119 - n % 64) % 64
def pad (b:List (BitVec 8)):List (BitVec 8):=b++[0x80#8]++List.replicate (gap b.length) 0#8++be8 (BitVec.ofNat 64 b.length <<< 3)
def out (x:R8):List (BitVec 8):=x.l.flatMap be4
def sha (b:List (BitVec 8)):List (BitVec 8):=out (st (pad b) ((pad b).length / 64))
theorem K_len:K.length=64:=rfl
theorem pad_len (b:List (BitVec 8)):(pad b).length=b.length+9+gap b.length:=by simp [pad,be8];omega
theorem pad_mod (b:List (BitVec 8)):(pad b).length % 64=0:=by rw [pad_len,gap];omega
theorem out_len (x:R8):(out x).length=32:=by simp [out,R8.l,be4]
theorem b1V (b:List (BitVec 8)):(sha b).length=32:=out_len _
theorem b6Z:∀ (n:Nat) (ws:List (BitVec 32)),(ext n ws).length=ws.length+n
 | 0,ws=>rfl
 | n+1,ws=>by simp only [ext,List.length_append,List.length_singleton];rw [b6Z n ws];omega
theorem b6W (b:List (BitVec 8)):(first b).length=16:=by simp [first]
theorem a2G (b:List (BitVec 8)):(wordsS b).length=64:=by rw [wordsS,b6Z,b6W]
theorem ext_take:∀ (n m:Nat) (ws:List (BitVec 32)),m≤n→(ext n ws).take (ws.length+m)=ext m ws
 | 0,m,ws,h=>by
  have:m=0:=by omega
  subst this
  simp [ext]
 | n+1,m,ws,h=>by
  by_cases hm:m=n+1
  ·subst hm
   rw [List.take_of_length_le]
   rw [b6Z];omega
  ·simp only [ext]
   rw [List.take_append_of_le_length (by rw [b6Z];omega),ext_take n m ws (by omega)]
theorem b3V (b:List (BitVec 8)) (i:Nat) (h1:16≤i) (h2:i≤64):(wordsS b).take i=ext (i - 16) (first b):=by
 have:=ext_take 48 (i - 16) (first b) (by omega)
 rw [b6W,show 16+(i - 16)=i from by omega] at this
 exact this
theorem words_lo (b:List (BitVec 8)) (i:Nat) (h:i<16):(wordsS b).getD i 0=chunk b i:=by
 have h1:(wordsS b).take 16=first b:=b3V b 16 (by omega) (by omega)
 have:((wordsS b).take 16).getD i 0=chunk b i:=by
  rw [h1];simp [first,List.getD_eq_getElem?_getD,h]
 rw [←this]
 simp [List.getD_eq_getElem?_getD,List.getElem?_take,h]
theorem words_hi (b:List (BitVec 8)) (i:Nat) (h1:16≤i) (h2:i<64):(wordsS b).getD i 0=s1 ((wordsS b).getD (i - 2) 0)+(wordsS b).getD (i - 7) 0+s0 ((wordsS b).getD (i - 15) 0)+(wordsS b).getD (i - 16) 0:=by
 have e:=b3V b (i+1) (by omega) (by omega)
 rw [show i+1 - 16=(i - 16)+1 from by omega] at e
 simp only [ext] at e
 have hl:(ext (i - 16) (first b)).length=i:=by rw [b6Z,b6W];omega
 rw [←b3V b i h1 (by omega)] at e hl
 have e2:=congrArg (fun l=>l.getD i 0) e
 have hg:∀ j,j<i→((wordsS b).take i).getD j 0=(wordsS b).getD j 0:=fun j hj=>by simp [List.getD_eq_getElem?_getD,List.getElem?_take,hj]
 simp only [wstep,hl] at e2
 rw [hg _ (by omega),hg _ (by omega),hg _ (by omega),hg _ (by omega)] at e2
 have e3:((wordsS b).take (i+1)).getD i 0=(wordsS b).getD i 0:=by simp [List.getD_eq_getElem?_getD,List.getElem?_take]
 rw [e3] at e2
 rw [e2]
 rw [List.getD_eq_getElem?_getD,List.getElem?_append_right (by omega),hl]
 simp
end Sha
open Go.RowKit Go.Proofs
end Go.Dp
