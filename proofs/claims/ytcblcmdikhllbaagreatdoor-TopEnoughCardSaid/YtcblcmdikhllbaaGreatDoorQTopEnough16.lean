/-
  Downpour, walked and proved: part 16.
  Conditions: those that stand in each theorem.
-/
import Derived.Test.YtcblcmdikhllbaaGreatDoorQTopEnough3
import Derived.Test.YtcblcmdikhllbaaGreatDoorQTopEnough5
import Derived.Test.YtcblcmdikhllbaaGreatDoorQTopEnough9
import Derived.Test.YtcblcmdikhllbaaGreatDoorQTopEnough15
import Derived.Test.YtcblcmdikhllbaaGreatDoorQTopEnough13
import Derived.Test.YtcblcmdikhllbaaGreatDoorQTopEnough14
import Derived.Test.YtcblcmdikhllbaaGreatDoorQTopEnough11
import Derived.Test.YtcblcmdikhllbaaGreatDoorQTopEnough8
set_option linter.unusedVariables false
set_option linter.unusedSimpArgs false
set_option maxHeartbeats 64000000
namespace Go.Dp
open Go.RowKit Go.Proofs
def rtD31_0:List Row:=[tR 67 [] [],tR 68 [] [],tR 69 [] [],tR 70 [1,2] [1,2],tR 71 [] [],tR 72 [] [],tR 73 [4,5] [4,5],tR 74 [3,6] [1,2,3,4,5,6],tR 75 [0,7] (rG 8),tR 10 [8,7,0,1,2,3,4,5,6,7,8] (rG 9)]
section
variable {P:Program} {n:Nat} {H:List Hl} {e:Ev} {C:Value→List Hl→Prop} {ty t t':TypeId} {x y:Operand} {p q r:Int} {kd':IntKind}
abbrev in64 (p:Int):Prop:=0≤p∧p<((2 ^ 64:Nat):Int)
theorem c0Z (hx:opd e x=some (.int .u64 p)) (hy:opd e y=some (.int .u64 q)) (hr:in64 p∧in64 q∧((BitVec.ofInt 64 p &&& BitVec.ofInt 64 q).toNat:Int)=r) (h:C (.int .u64 r) H):O1 P (.binOp .and t x y t') ty n e H C :=
 b0F (u:=BitVec.ofInt 64 p) (v:=BitVec.ofInt 64 q) (by rw [hx,bv_of hr.1.1 hr.1.2]) (by rw [hy,bv_of hr.2.1.1 hr.2.1.2]) (by rw [hr.2.2];exact h)
theorem c0Y (hx:opd e x=some (.int .u64 p)) (hy:opd e y=some (.int .u64 q)) (hr:in64 p∧in64 q∧((BitVec.ofInt 64 p*BitVec.ofInt 64 q).toNat:Int)=r) (h:C (.int .u64 r) H):O1 P (.binOp .mul t x y t') ty n e H C :=
 a7M (u:=BitVec.ofInt 64 p) (v:=BitVec.ofInt 64 q) (by rw [hx,bv_of hr.1.1 hr.1.2]) (by rw [hy,bv_of hr.2.1.1 hr.2.1.2]) (by rw [hr.2.2];exact h)
theorem c1A (hx:opd e x=some (.int .u64 p)) (hy:opd e y=some (.int .u64 q)) (hr:in64 p∧in64 q∧((BitVec.ofInt 64 p+BitVec.ofInt 64 q).toNat:Int)=r) (h:C (.int .u64 r) H):O1 P (.binOp .add t x y t') ty n e H C :=
 a8F (u:=BitVec.ofInt 64 p) (v:=BitVec.ofInt 64 q) (by rw [hx,bv_of hr.1.1 hr.1.2]) (by rw [hy,bv_of hr.2.1.1 hr.2.1.2]) (by rw [hr.2.2];exact h)
theorem c0X (hx:opd e x=some (.int .u64 p)) (hy:opd e y=some (.int kd' q)) (hr:in64 p∧0≤q∧((BitVec.ofInt 64 p >>> q.toNat).toNat:Int)=r) (h:C (.int .u64 r) H):O1 P (.binOp .shr t x y t') ty n e H C :=
 a9K (u:=BitVec.ofInt 64 p) (by rw [hx,bv_of hr.1.1 hr.1.2]) hy hr.2.1 (by rw [hr.2.2];exact h)
end
theorem bits_Mul64_c (H:List Hl) :
  Spec Tryz.prog 155 [.int .u64 1,.int .u64 3584] H (fun _:Unit=>True) (fun _ => .tuple #[.int .u64 0,.int .u64 3584]) (fun _=>H):=by
 refine sP (res:=fun _=>[]) H Tryz.func155 Tryz.ntmps155 fun W=>?_
 repeat' (first|intro _|refine c0Z (r:=0) rfl rfl (by decide) ?_|refine c0Z (r:=1) rfl rfl (by decide) ?_|refine c0Z (r:=3584) rfl rfl (by decide) ?_|refine c0X (r:=0) rfl rfl (by decide) ?_|refine c0X (r:=1) rfl rfl (by decide) ?_|refine c0X (r:=3584) rfl rfl (by decide) ?_|refine c0Y (r:=0) rfl rfl (by decide) ?_|refine c0Y (r:=1) rfl rfl (by decide) ?_|refine c0Y (r:=3584) rfl rfl (by decide) ?_|refine c1A (r:=0) rfl rfl (by decide) ?_|refine c1A (r:=1) rfl rfl (by decide) ?_|refine c1A (r:=3584) rfl rfl (by decide) ?_|refine wK ?_|refine wL ?_ ?_|fail)
 refine a2U () rfl rfl rfl rfl trivial ?_
 exact ent
theorem bits_Mul_c (H:List Hl) :
  Spec Tryz.prog 107 [.int .u64 1,.int .u64 3584] H (fun _:Unit=>True) (fun _ => .tuple #[.int .u64 0,.int .u64 3584]) (fun _=>H):=by
 refine sP (res:=fun _=>[]) H Tryz.func107 Tryz.ntmps107 fun W=>?_
 repeat' (first|intro _|(refine k_fn 155 ?_;refine a0A (fun _=>bits_Mul64_c _) rfl (fun _ _=>?_))|refine wK ?_|refine wL ?_ ?_|fail)
 refine a2U () rfl rfl rfl rfl trivial ?_
 exact ent
def ffL (n:Nat):List (BitVec 8):=List.replicate n 0xff#8
theorem a8G (n:Nat):(ffL n).length=n:=List.length_replicate
theorem ffL_take (n k:Nat):(ffL n).take k=ffL (min k n):=List.take_replicate ..
theorem ffL_add (n k:Nat):ffL n++ffL k=ffL (n+k):=List.replicate_append_replicate ..
def ffR (n:Nat) (zs:List (BitVec 8)):List (BitVec 8):=ffL n++zs.drop n
theorem ffR_len {n:Nat} {zs:List (BitVec 8)} (h:n≤zs.length):(ffR n zs).length=zs.length:=by
 simp [ffR,a8G]
 omega
theorem ffR_take {n:Nat} {zs:List (BitVec 8)}:(ffR n zs).take n=ffL n:=by rw [ffR,List.take_left' (a8G n)]
theorem ffR_next {n k m:Nat} {zs:List (BitVec 8)} (h:k=min n m):(ffR n zs).take n++((ffL n).take m++(ffR n zs).drop (n+k))=ffR (n+k) zs:=by
 rw [ffR_take,ffL_take,←List.append_assoc,ffL_add,show min m n=k by omega,ffR,ffR,List.drop_append,a8G,show n+k - n=k by omega,List.drop_drop]
 rw [List.drop_eq_nil_of_le (by rw [a8G];omega),List.nil_append]
theorem ffR_first {zs:List (BitVec 8)} {m:Nat} (h:0<m):zs.take 0++([0xff#8].take m++zs.drop (0+1))=ffR 1 zs:=by
 rw [List.take_zero,List.nil_append,List.take_of_length_le (l:=[0xff#8]) (by simp;omega)]
 rfl
theorem cut_at {b c n:Nat} (h:n<c):cutA (some ⟨b,0,none⟩) c n=some ⟨b,n,none⟩:=by
 rw [cutA,if_neg (by omega)]
 by_cases h0:n=0 <;> simp [Addr.add,h0]
theorem o1_cs_hm {P:Program} {n:Nat} {H:List Hl} {e:Ev} {C:Value→List Hl→Prop} {ty T E:TypeId} {z:Value} {by_ b l c:Nat} {p q:Int} {kd kd':IntKind} {x oh om:Operand} (hi:Nat) [ht:TSl P T E] [hi':TInf P E z 1 by_] (hx:opd e x=some (.slice (some ⟨b,0,none⟩) l c)) (hh:opd e oh=some (.int kd p)) (hm:opd e om=some (.int kd' q)) (hp:p=hi) (hq:q=hi) (h2:hi≤c) (h:C (.slice (some ⟨b,0,none⟩) hi hi) H):O1 P (.slice T x none (some oh) (some om)) ty n e H C:=by
 subst hp hq
 refine o1_slice_hm (hi:=hi) (mx:=hi) hx hh hm (Nat.le_refl _) h2 ?_
 have e1:(if hi=0 then some (⟨b,0,none⟩:Addr) else (some (⟨b,0,none⟩:Addr)).map (·.add (0*1)))=some ⟨b,0,none⟩:=by
  split
  ·rfl
  ·simp [Addr.add]
 rw [e1]
 exact h
theorem xf_mkz:XFn Tryz.prog 108 (Extern.BytealgMakeNoZero.makeNoZero #[3] #[22]):=⟨by kernel_rfl,by kernel_rfl⟩
theorem by_Repeat (H:List Hl) (ad:Option Addr) (c:Nat) (h:Rs (stars H) B ad c [0xff#8]) :
  Spec Tryz.prog 61 [.slice ad 1 c,I 3584] H (fun _:Option Addr=>True) (fun r => .slice r 3584 3584) (fun r => .any (slk r 3584 (ffL 3584))::H):=by
 refine sP (res:=fun r:Option Addr=>[.any (slk r 3584 (ffL 3584))]) H Tryz.func61 Tryz.ntmps61 fun W=>?_
 have hN:(ffL 3584).length=3584:=a8G _
 obtain ⟨Z,hZ⟩:∃ Z,ffL 3584=Z:=⟨_,rfl⟩
 rw [hZ] at hN ⊢
 repeat' (first|intro _|(refine k_fn 107 ?_;refine a0A (fun _=>bits_Mul_c _) rfl (fun _ _=>?_))|refine o1_mkz xf_mkz (k:=3584) (by decide) rfl (fun b zs hz1 hz2=>?_)|(refine a3X ?_;refine o1_cs_hm 3584 rfl rfl rfl rfl rfl hz1 ?_)|(refine a1S ?_;(refine ox_copy_at (o:=0) (b:=b) (xs:=zs) (ys:=[0xff#8]) rfl rfl (by omega) (fun _=>h.up) rfl (fun _=>rfl) ?_;rw [show min [0xff#8].length 3584=1 from rfl,ffR_first (by decide)]))|refine wK ?_|refine wL ?_ ?_|fail)
 refine a0Y (S:=Nat) (fun n=>[(0,.slice ad 1 c),(1,I 3584),(4,.slice none 0 0),(7,I 3584),(8,I 3584),(9,.slice (some ⟨b,0,none⟩) 3584 3584),(10,I n)]) (fun n=>[.box b 5 ((ffR n zs).map B),.any (stars H)]) (fun n=>1≤n∧n≤3584) (fun n=>3584 - n) 1 ⟨by decide,by decide⟩ cv ent ?_
 rintro n ⟨hn1,hn2⟩
 have hL:=ffR_len (n:=n) (zs:=zs) (by omega)
 by_cases hn:n<3584
 ·obtain ⟨q,hq⟩:∃ q,q=min n (3584 - n):=⟨_,rfl⟩
  have hnx:=ffR_next (n:=n) (k:=q) (m:=3584 - n) (zs:=zs) hq
  have c1:=cut_at (b:=b) hn
  have c2:=cut_at (b:=b) (n:=0) (show 0<3584 by decide)
  have l1:(Z.drop n).length=3584 - n:=by rw [List.length_drop,hN]
  have l2:(Z.take n).length=n:=by rw [List.length_take,hN];omega
  have hlf:=a8G n
  have hadd:(n:Int)+(q:Int)=((n+q:Nat):Int):=by push_cast;rfl
  repeat' (first|intro _|(refine a1S ?_;refine b2W (r:=(n:Int)) rfl rfl (by omega) ?_)|refine wK ?_|refine wL ?_ ?_|fail)
  refine a0H [(10,_),(9,_),(11,_)] rtD31_0 [7] [⟨[0,1,2,3,4,5,6],[],some 7⟩,⟨[8,9],[0],none⟩] mixed cv (by kernel_rfl) (by kernel_rfl) ?_
  repeat' (first|intro _|refine sg ?_|(refine a1I .add ?_;refine po (by first|((refine a2F rfl rfl (by omega) ?_;rw [hadd]);all_goals exact fz)|fail) ?_)|(refine a6D ?_;refine po (by first|((refine b0G (xs:=Z) n rfl rfl rfl hN.symm (by omega) ?_;rw [c1,l1]);all_goals exact fz)|((refine a5X (xs:=Z) n rfl rfl rfl hN.symm (by omega) (by omega) ?_;rw [c2,l2]);all_goals exact fz)|fail) ?_)|refine pw ?_|refine pdd ?_|(refine a1S ?_;(refine ox_copy_at (o:=n) (b:=b) (xs:=ffR n zs) (ys:=ffL n) rfl rfl (by omega) (rx_boxk n (by omega) ffR_take (by omega) (by decide)) hlf.symm (fun _=>rfl) ?_;rw [hlf,←hq,hnx]))|refine ow ?_|fail)
  all_goals dsimp only [cA,nA]
  refine c0H ?_
  refine a0Q (n+q) ⟨by omega,by omega⟩ (by omega) cv ?_
  exact ent
 ·have:n=3584:=by omega
  subst this
  repeat' (first|intro _|refine wK ?_|refine wL ?_ ?_|fail)
  refine a2A (H2 := .any (slk (some ⟨b,0,none⟩) 3584 Z)::[.any (stars H)]) (fun hh hx=>slk_of b ((zs.drop 3584).map B) rfl (by omega) (by decide) hh (by rw [←hZ,←List.map_append];exact hx)) ?_
  refine a0E (some ⟨b,0,none⟩) rfl rfl rfl trivial ?_
  exact ent
def wearN (w:Int):Nat:=(max 1 (min w 10000)).toNat
def newF (w:Int):Fl:=⟨ffL 3584,[0,0,0,0,0,0,0,0,0,0,0,0,0,0],wearN w,.on,0⟩
def newH:Hid:=⟨0,0,false⟩
theorem c1C (w:Int):FlOk (newF w) newH:=by
 refine ⟨rfl,a8G _,?_,?_,rfl⟩
 ·show (max 1 (min w 10000)).toNat≤10000
  omega
 ·intro x hx
  simp [newF] at hx
  omega
theorem fl_New (H:List Hl) (w:Int) :
  Spec Tryz.prog 30 [I w] H (fun _:Nat × Option Addr=>True) (fun r => .pointer (some ⟨r.1,0,none⟩)) (fun r=>fB r.1 r.2 3584 (newF w) newH::fR r.2 3584 (newF w)::H):=by
 refine sP (res:=fun r:Nat × Option Addr=>[fB r.1 r.2 3584 (newF w) newH,fR r.2 3584 (newF w)]) H Tryz.func30 Tryz.ntmps30 fun W=>?_
 have hw:max 1 (min w 10000)=(wearN w:Int):=by show _=((max 1 (min w 10000)).toNat:Int);omega
 repeat' (first|intro _|(refine a0P ?_;refine a0O B [0xff#8] rfl rfl rfl (fun _=>rfl) rfl rfl rfl (fun b3=>?_))|(refine k_fn 61 ?_;refine a0A (fun hh=>by_Repeat _ (some ⟨b3,0,none⟩) 1 (a2H rfl (by decide) hh)) rfl (fun a4 _=>?_))|(refine a1S ?_;first|refine b2W (r:=min w 10000) rfl rfl (by omega) ?_|(refine b6J (r:=max 1 (min w 10000)) rfl rfl (by omega) ?_;rw [hw]))|(refine k_box ?_;refine a1V rfl rfl (fun b9=>?_))|refine wK ?_|refine wL ?_ ?_|fail)
 refine a0E (b9,a4) rfl rfl rfl trivial ?_
 exact ent
open Go.RowKit Go.Proofs Sha
theorem dv_Make (H:List Hl) (w:Int) (v:BitVec 32) (ka:Option Addr) (kc:Nat) (key:List (BitVec 8)) (ad:Option Addr) (c:Nat) (im d:List (BitVec 8)) (f1 f2:Fl) (hkey:Rs (stars H) B ka kc key) (hkl:key.length≤64) (him:Rs (stars H) B ad c im) (hi1:1≤im.length) (hi2:im.length≤512) (hd:sha im=d)
  (hS:slotW (newF w) 0 im=(f1,0)) (hdn:f1.pw.isDown=false) (hW:cellW f1 (fstS v im.length (none,0) d).by=(f2,0)) :
  Spec Tryz.prog 8 [.slice ka key.length kc,W4 v,.slice ad im.length c,I w] H (fun _:Nat=>True) (fun db => .tuple #[.pointer (some ⟨db,0,none⟩),I 0]) (fun db => .any (dvI key f2 (fstS v im.length (none,0) d) db)::H):=by
 refine sP (res:=fun db:Nat=>[.any (dvI key f2 (fstS v im.length (none,0) d) db)]) H Tryz.func8 Tryz.ntmps8 fun W=>?_
 have hdl:d.length=32:=by rw [←hd];exact b1V _
 obtain ⟨n,hn⟩:∃ n,im.length=n:=⟨_,rfl⟩
 have hmay:∀ r,(fstS v n r d).may=true:=fun r=>c1D _ _ _ _ (by omega) hdl
 have hW2:∀ r,cellW f1 (fstS v n r d).by=(f2,0):=fun r=>by rw [←hW,hn];rfl
 have hfirst:=fun (H':List Hl) (h:Rs (stars H') B ad c im)=>bt_First H' v ad c im d h ⟨hi1,hi2⟩ hd
 have hslot:=fun (H':List Hl) (b:Nat) (ad':Option Addr) (h:Rs (stars H') B ad c im)=>b8G H' b ad' 3584 (newF w) newH 0 ad c im (by decide) (c1C w) h hi1 hi2 rfl
 rw [hS] at hslot
 have hnew:=fun (H':List Hl)=>fl_New H' w
 obtain ⟨f0,hf0⟩:∃ f0,newF w=f0:=⟨_,rfl⟩
 rw [hf0] at hslot hnew
 rw [hn] at hi1 hi2 hfirst hslot ⊢
 dsimp only at hslot
 repeat' (first|intro _|(refine a0A (fun _=>hfirst _ him.up) rfl (fun r5 _=>?_);dsimp only [StD.V,StD.c,SlotD.V,SlotD.c,slotOf,fstS,zSl,zM,List.length_nil])|(refine a0A (fun _=>hnew _) rfl (fun ⟨fb,fa⟩ _=>?_);(try dsimp only))|refine a1J fb fa 3584 (fun _=>hslot _ fb fa him.up) rfl (fun h1 hk1=>?_)|(refine k_fn 29 ?_;(refine a0A (fun _=>a1B _ _ _ key hkey.up (by omega)) rfl (fun ⟨a29,c29⟩ _=>?_);(try dsimp only)))|(refine k_box ?_;refine a1V rfl rfl (fun db=>?_))|(refine a0K ?_;refine a0F (b:=db) (i:=1) rfl rfl ?_)|(refine k_fn 32 ?_;(refine a0V (dvB db fb a29 key.length c29 none::fB fb fa 3584 f1 h1::fR fa 3584 f1::[rowL r5 d,.row 5 1 (.slice a29 key.length c29) key.length (key.map B),.any (stars H)]) (Ent.out ent) (fun hh=>b1O _ db fb a29 key.length c29 none fa 3584 f1 f2 h1 (fstS v n r5 d) none (hmay r5) ⟨a0I (ad:=r5.1) (c:=r5.2) (l:=d) (a0B (a0B (a0B hh))),rs00 (a0B (a0B (a0B hh))),rs00 (a0B (a0B (a0B hh)))⟩ hk1 hdn (hW2 r5)) rfl (fun ⟨h2,mb⟩ hk2=>?_);(try dsimp only at hk2 ⊢)))|refine wK ?_|refine wL ?_ ?_|fail)
 refine a4H [rowL r5 d,.row 5 1 (.slice a29 key.length c29) key.length (key.map B)] [dvB db fb a29 key.length c29 (pM mb),fB fb fa 3584 f2 h2,fR fa 3584 f2,meB mb (fstS v n r5 d) none,.any (stars H)] ent ?_
 refine b1R (fun hh=>?_)
 have hA:=a5L hh
 refine b1S (l:=⟨fb,fa,3584,h2,mb,0,a29,c29,fstS v n r5 d,stars [rowL r5 d,.row 5 1 (.slice a29 key.length c29) key.length (key.map B)]⟩) (R:=[.any (stars H)]) ⟨hk2,a0I (T:=5) (ad:=a29) (c:=c29) (l:=key) hA,⟨a0I (T:=5) (ad:=r5.1) (c:=r5.2) (l:=d) hA,rs00 hA,rs00 hA⟩,rfl⟩ ent ?_
 refine a2U db rfl rfl rfl rfl trivial ?_
 exact ent
theorem dv_Flash (H:List Hl) (db fb:Nat) (hf:Cl (stars H) ⟨db,1,none⟩ (.pointer (some ⟨fb,0,none⟩))) :
  Spec Tryz.prog 18 [.pointer (some ⟨db,0,none⟩)] H (fun _:Unit=>True) (fun _ => .pointer (some ⟨fb,0,none⟩)) (fun _=>H):=by
 refine sP (res:=fun _=>[]) H Tryz.func18 Tryz.ntmps18 fun W=>?_
 repeat' (first|intro _|refine a0S rfl rfl ?_|(refine a0K ?_;refine a0L rfl hf ?_)|refine wK ?_|refine wL ?_ ?_|fail)
 refine a0E () rfl rfl rfl trivial ?_
 exact ent
theorem dv_now (H:List Hl) (db fb:Nat) (ka:Option Addr) (kn kc mb:Nat) (x:StD) (lp:Option Addr) :
  Spec Tryz.prog 42 [.pointer (some ⟨db,0,none⟩)] (dvB db fb ka kn kc (pM mb)::meB mb x lp::H) (fun _:Unit=>True) (fun _ => .pointer (some ⟨mb,0,none⟩)) (fun _=>dvB db fb ka kn kc (pM mb)::meB mb x lp::H):=by
 refine sF (res:=fun _:Unit=>[dvB db fb ka kn kc (pM mb),meB mb x lp]) [dvB db fb ka kn kc (pM mb),meB mb x lp] H Tryz.func42 Tryz.ntmps42 fun W=>?_
 dsimp only [cA,nA]
 repeat' (first|intro _|refine a0S rfl rfl ?_|(refine k_fn 33 ?_;refine a0A (fun _=>a1Q db fb ka kn kc mb x lp) rfl (fun _ _=>?_))|refine wK ?_|refine wL ?_ ?_|fail)
 refine a0E () rfl rfl rfl trivial ?_
 exact ent
def rtD33_0:List Row:=[tR 34 [] [],tR 35 [] [],tR 36 [1] [1],tR 37 [] [],tR 38 [3] [3],tR 39 [] [],tR 40 [5,4] [3,4,5],tR 41 [6] [3,4,5,6],tR 42 [7] [3,4,5,6,7],tR 43 [0,2,8] (rG 9),tR 33 [9] (rG 10),tR 44 [10] (rG 11),tR 45 [10] (rG 11),tR 7 [11,9,0,1,2,3,4,5,6,7,8,9,10,11] (rG 12),tR 8 [12,13,0,1,2,3,4,5,6,7,8,9,10,11,12,13] (rG 14)]
theorem progB_ff {xs:List (BitVec 8)} (h:xs.length=3584):progB (ffL 3584) 0 xs=xs:=by
 have hl:(ffL 3584).length=3584:=a8G _
 apply List.ext_getElem?
 intro i
 rw [a4M (by omega)]
 by_cases hi:i<3584
 ·rw [if_pos (by omega),List.getElem?_eq_getElem (by omega),List.getElem?_eq_getElem (by omega)]
  have:(ffL 3584)[i]'(by omega)=0xff#8:=List.getElem_replicate ..
  rw [this]
  simp only [Option.bind_some,Option.map_some,Nat.sub_zero,List.getElem?_eq_getElem (show i<xs.length by omega)]
  congr 1
  exact BitVec.allOnes_and
 ·rw [if_neg (by omega),List.getElem?_eq_none (by omega),List.getElem?_eq_none (by omega)]
structure Runs (f:Fl) (s n:Nat):Prop where
 fo:∃ k q w x,foundC f.bs=some ((k,q),w)∧prs q=(x,0)∧x.a=(s:Int)∧x.cur.n=(n:Int)
 s2:s<2
 n2:n≤512
theorem dv_Running (H:List Hl) (db fb:Nat) (ad:Option Addr) (c:Nat) (f:Fl) (s n:Nat) (hc:Cl (stars H) ⟨db,1,none⟩ (.pointer (some ⟨fb,0,none⟩))) (hr:RdFl (stars H) fb ad c f) (hR:Runs f s n) :
  Spec Tryz.prog 16 [.pointer (some ⟨db,0,none⟩)] H (fun _:Option Addr × Nat=>True) (fun r => .slice r.1 n r.2) (fun r => .row 5 1 (.slice r.1 n r.2) n ((seg f.bs (slotA s) n).map B)::H):=by
 refine sP (res:=fun r:Option Addr × Nat=>[.row 5 1 (.slice r.1 n r.2) n ((seg f.bs (slotA s) n).map B)]) H Tryz.func16 Tryz.ntmps16 fun W=>?_
 obtain ⟨⟨k,q,w,x,hf,hp,ha,hn⟩,hs2,hn2⟩:=hR
 have hl:=hr.l
 have hnew:=fun (H':List Hl)=>fl_New H' 1
 have hok:=c1C 1
 obtain ⟨f0,hf0⟩:∃ f0,newF 1=f0:=⟨_,rfl⟩
 have hpg:progF f0 0 f.bs=({ f0 with bs:=f.bs },0):=by
  rw [←hf0]
  show ((⟨progB (ffL 3584) 0 f.bs,_,_,_,_⟩:Fl),(0:Int))=_
  rw [progB_ff hl]
 have hd0:f0.pw.isDown=false:=by rw [←hf0];rfl
 rw [hf0] at hnew hok
 obtain ⟨bs,hbs⟩:∃ bs,f.bs=bs:=⟨_,rfl⟩
 obtain ⟨f1,hf1⟩:∃ f1:Fl,{ f0 with bs:=f.bs }=f1:=⟨_,rfl⟩
 have hd1:f1.pw.isDown=false:=by rw [←hf1];exact hd0
 have hb1:f1.bs=bs:=by rw [←hf1];exact hbs
 rw [hf1] at hpg
 have hprog:=fun (H':List Hl) (b:Nat) (a1 a2:Option Addr) (c2:Nat) (hx:Rs (stars H') B a2 c2 f.bs)=>a3Z H' b a1 3584 f0 newH 0 a2 3584 c2 f.bs hok hx hl.symm (by omega)
 rw [hpg] at hprog
 dsimp only at hprog
 rw [hbs] at hf hprog ⊢
 obtain ⟨Z,hZ⟩:∃ Z,(seg f1.bs (w*256) 256).take (q.length+6)=Z:=⟨_,rfl⟩
 have hf1':foundC f1.bs=some ((k,q),w):=by rw [hb1];exact hf
 have hmk:=(a3G (a1Z hf1').1).1
 rw [hZ] at hmk
 have hZl:Z.length=q.length+6:=by
  have h245:=(a3G (a1Z hf1').1).2
  have hw2:=(a1Z hf1').2
  rw [←hZ,List.length_take,a2Q (by rw [hb1,←hbs];omega)]
  omega
 repeat' (first|intro _|refine a0S rfl rfl ?_|(refine a0A (fun _=>hnew _) rfl (fun ⟨fb2,fa⟩ _=>?_);(try dsimp only))|refine a1J fb2 fa 3584 (fun hh=>hprog _ fb2 fa a17 c17 (a0I (T:=5) (ad:=a17) (c:=c17) (l:=bs) (a0B (a0B hh)))) rfl (fun h1 hk1=>?_)|(refine a0K ?_;refine a0L rfl hc ?_)|(refine k_fn 45 ?_;(refine a0A (fun _=>fl_Bytes _ fb ad c f hr.up) rfl (fun ⟨a17,c17⟩ _=>?_);(try dsimp only);rw [hbs]))|(refine k_fn 46 ?_;(refine a0A (fun hh=>b7H _ fb2 fa 3584 f1 k q Z w (RdFl.own hk1 hh) hd1 hf1' hZ) rfl (fun ⟨a21,c21⟩ _=>?_);(try dsimp only)))|(refine k_fn 47 ?_;(refine a0A (fun hh=>b2L _ (cutA a21 c21 6) (c21 - 6) q (a3U (T:=5) (ad:=a21) (c:=c21) (n:=q.length+6) (l:=Z) (enc:=B) 6 (by omega) hmk hh) (x,0) hp) rfl (fun ⟨r0,r1,r2⟩ _=>?_);dsimp only [StD.V,StD.c,SlotD.V,SlotD.c,copyS]))|refine wK ?_|refine wL ?_ ?_|fail)
 rcases (by omega:s=0∨s=1) with rfl|rfl
 ·rename_i b6
  have ha2:x.a=0:=ha
  have hcn:x.s0.n=(n:Int):=by rw [←hn,StD.cur,if_pos ha2]
  refine a0H [(3,_),(6,_)] rtD33_0 [9] [⟨[0,1,2,3,4,5,6,7,8],[],some 9⟩,⟨[10,11,12,13,14],[],none⟩] mixed cv (by kernel_rfl) (by kernel_rfl) ?_
  repeat' (first|intro _|refine sg ?_|(refine a1E ?_;refine po (by first|((refine a0F (b:=b6) (i:=0) rfl rfl ?_;rw [ha2]);all_goals exact fz)|((refine a0F (b:=b6) (i:=5) rfl rfl ?_;rw [hcn]);all_goals exact fz)|fail) ?_)|(refine a0Z ?_;refine po (by first|refine a1C 0 4 rfl rfl rfl (by decide) rfl fz|fail) ?_)|refine pw ?_|refine pdd ?_|(refine k_fn 48 ?_;(refine a0A (fun hh=>b8H _ fb2 fa 3584 f1 0 n (RdFl.own hk1 hh) (by decide) hn2 hd1) rfl (fun ⟨a43,c43⟩ _=>?_);(try dsimp only)))|refine ow ?_|fail)
  all_goals dsimp only [cA,nA]
  repeat' (first|intro _|refine wK ?_|refine wL ?_ ?_|fail)
  rw [hb1]
  refine a0E (a43,c43) rfl rfl rfl trivial ?_
  exact ent
 ·rename_i b6
  have ha2:x.a=1:=ha
  have hcn:x.s1.n=(n:Int):=by rw [←hn,StD.cur,if_neg (by omega)]
  refine a0H [(3,_),(6,_)] rtD33_0 [9] [⟨[0,1,2,3,4,5,6,7,8],[],some 9⟩,⟨[10,11,12,13,14],[],none⟩] mixed cv (by kernel_rfl) (by kernel_rfl) ?_
  repeat' (first|intro _|refine sg ?_|(refine a1E ?_;refine po (by first|((refine a0F (b:=b6) (i:=0) rfl rfl ?_;rw [ha2]);all_goals exact fz)|((refine a0F (b:=b6) (i:=8) rfl rfl ?_;rw [hcn]);all_goals exact fz)|fail) ?_)|(refine a0Z ?_;refine po (by first|refine a1C 1 7 rfl rfl rfl (by decide) rfl fz|fail) ?_)|refine pw ?_|refine pdd ?_|(refine k_fn 48 ?_;(refine a0A (fun hh=>b8H _ fb2 fa 3584 f1 1 n (RdFl.own hk1 hh) (by decide) hn2 hd1) rfl (fun ⟨a43,c43⟩ _=>?_);(try dsimp only)))|refine ow ?_|fail)
  all_goals dsimp only [cA,nA]
  repeat' (first|intro _|refine wK ?_|refine wL ?_ ?_|fail)
  rw [hb1]
  refine a0E (a43,c43) rfl rfl rfl trivial ?_
  exact ent
theorem b0M (H:List Hl) (db:Nat) (key:List (BitVec 8)) (f:Fl) (x:StD) (s n:Nat) (hR:Runs f s n) :
  Spec Tryz.prog 16 [.pointer (some ⟨db,0,none⟩)] (.any (dvI key f x db)::H) (fun _:Option Addr × Nat=>True) (fun r => .slice r.1 n r.2) (fun r => .row 5 1 (.slice r.1 n r.2) n ((seg f.bs (slotA s) n).map B) :: .any (dvI key f x db)::H):=by
 refine Spec.som (by kernel_rfl) (fun l hl=>Spec.has (by kernel_rfl) (fun hh=>?_))
 refine (dv_Running _ db l.fb l.ad l.c f s n ?_ ?_ hR).imp (fun r _ hp hx=>a0U hx (fun _ a=>a) (b1Q (p:=DvX key f x) (L:=fun l=>[dvA db key l (pM l.mb),meB l.mb l.x none,flA f l,frA f l,.any l.A]) l hl))
 ·exact a1M (H:=dvA db key l (pM l.mb)::meB l.mb l.x none::flA f l::frA f l :: .any l.A::H) (b:=db) rfl
 ·exact RdFl.own (H:=dvA db key l (pM l.mb)::meB l.mb l.x none::flA f l::frA f l :: .any l.A::H) hl.fl hh
theorem dv_Running_L (H:List Hl) (db:Nat) (key:List (BitVec 8)) (f:Fl) (x:StD) (st:Sto) (s n:Nat) (hR:Runs f s n) :
  Spec Tryz.prog 16 [.pointer (some ⟨db,0,none⟩)] (.any (dvL key f x st db)::H) (fun _:Option Addr × Nat=>True) (fun r => .slice r.1 n r.2) (fun r => .row 5 1 (.slice r.1 n r.2) n ((seg f.bs (slotA s) n).map B) :: .any (dvL key f x st db)::H):=by
 refine Spec.som (by kernel_rfl) (fun l hl=>Spec.has (by kernel_rfl) (fun hh=>?_))
 refine (dv_Running _ db l.fb l.ad l.c f s n ?_ ?_ hR).imp (fun r _ hp hx=>a0U hx (fun _ a=>a) (b1Q (p:=DvX key f x) (L:=fun l=>[dvA db key l (pM l.mb),meB l.mb l.x (some ⟨l.sb,0,none⟩),.any (stP st l.fb l.sb),flA f l,frA f l,.any l.A]) l hl))
 ·exact a1M (H:=dvA db key l (pM l.mb)::meB l.mb l.x (some ⟨l.sb,0,none⟩) :: .any (stP st l.fb l.sb)::flA f l::frA f l :: .any l.A::H) (b:=db) rfl
 ·exact RdFl.own (H:=dvA db key l (pM l.mb)::meB l.mb l.x (some ⟨l.sb,0,none⟩) :: .any (stP st l.fb l.sb)::flA f l::frA f l :: .any l.A::H) hl.fl hh
end Go.Dp
namespace Go.Dp
open Go.RowKit Sha
structure DevF (f:Fl) (n:Nat) (s:StD) (im:List (BitVec 8)):Prop where
 few:Few f n
 on:f.pw = .on
 wr:f.wear=100
 cell:∃ k w,k≤n∧CellIs f.bs k s.by w
 may:s.may=true
 cn:s.cur.n=im.length
 slot:seg f.bs (slotA s.a.toNat) im.length=im
 wh:WhOk f.bs s.g.toNat
 gb:s.g.toNat≤n
theorem DevF.up {f:Fl} {n:Nat} {s:StD} {im:List (BitVec 8)} (h:DevF f n s im):f.pw.isDown=false:=on_up h.on
theorem StD.may_cn {s:StD} (h:s.may=true):s.cur.something=true:=by
 simp only [StD.may,Bool.and_eq_true] at h
 exact h.1.1.2
theorem DevF.b {f:Fl} {n:Nat} {s:StD} {im:List (BitVec 8)} (h:DevF f n s im):1≤im.length∧im.length≤512:=by
 have:=StD.may_cn h.may
 simp only [SlotD.something,decide_eq_true_eq] at this
 have h2:=h.cn
 omega
theorem DevF.runs {f:Fl} {n:Nat} {s:StD} {im:List (BitVec 8)} (h:DevF f n s im):Runs f s.a.toNat im.length:=by
 obtain ⟨k,w,hk,hc⟩:=h.cell
 obtain ⟨kk,_,hf⟩:=hc.found h.few.bs
 have ha:=StD.may_a h.may
 refine ⟨⟨kk,s.by,w,s.plain,hf,b7R h.may,?_,?_⟩,by omega,h.b.2⟩
 ·show s.a=_
  omega
 ·show (s.plain).cur.n=_
  rw [←h.cn]
  unfold StD.cur
  show (if s.a=0 then s.plain.s0 else s.plain.s1).n=_
  split <;> rfl
theorem dev_state {f:Fl} {n:Nat} {s s1:StD} {im:List (BitVec 8)} (h:DevF f n s im) (hn:n<90) (h1:s1.may=true) (ha:s1.a=s.a) (hc:s1.cur.n=s.cur.n) (hg:s.g.toNat≤s1.g.toNat) (hg2:s1.g.toNat≤n+1) :
  ∃ f1,cellW f s1.by=(f1,0)∧DevF f1 (n+1) s1 im∧WhOk f1.bs s.g.toNat:=by
 obtain ⟨k,w,hk,hcell⟩:=h.cell
 obtain ⟨st,so,sc⟩:=b7I (q:=s1.by) hcell h.few (by rw [h.wr];omega) h.up (b7J h1) (by omega)
 obtain ⟨⟨f1,v1⟩,hr⟩:∃ r,cellW f s1.by=r:=⟨_,rfl⟩
 rw [hr] at st so sc ⊢
 dsimp only at st so sc ⊢
 have hon:=st.on h.on
 rcases sc with ⟨e0,_,e2⟩|⟨_,e1,_⟩
 ·subst e0
  have ha2:=StD.may_a h.may
  have hb:=h.b
  have hwh:WhOk f1.bs s.g.toNat:=h.wh.keep (so _ _ (by omega))
  refine ⟨f1,rfl,⟨st.few,hon,st.wear.trans h.wr,⟨k+1,1 - w,by omega,e2⟩,h1,hc.trans h.cn,?_,hwh.mono hg,hg2⟩,hwh⟩
  rw [ha,so _ _ (by unfold slotA;omega)]
  exact h.slot
 ·rw [hon] at e1;cases e1
theorem dev_hear {f:Fl} {n:Nat} {s:StD} {im:List (BitVec 8)} {m:ManD} {p:Prm} {len:Nat} (h:DevF f n s im) (hn:n<90) (hm:m.may=true) (hp:p.ok) (V:BitVec 32→List Bool) :
  ∃ f1,cellW f (admitS s m (none,0) (none,0) (none,0)).by=(f1,0)∧DevF f1 (n+1) (admitS s m (none,0) (none,0) (none,0)) im∧recsW f1.bs (s.g+1#32) p.z 8=[]∧openS p (s.g+1#32) len V f1.bs=⟨p,s.g+1#32,len, -1,0,newD p⟩:=by
 have hgb:=h.gb
 have hg:(s.g+1#32).toNat=s.g.toNat+1:=by
  rw [BitVec.toNat_add]
  have:(1#32).toNat=1:=rfl
  omega
 have hcur:(admitS s m (none,0) (none,0) (none,0)).cur.n=s.cur.n:=by
  show (if s.a=0 then (admitS s m (none,0) (none,0) (none,0)).s0 else (admitS s m (none,0) (none,0) (none,0)).s1).n=(if s.a=0 then s.s0 else s.s1).n
  split <;> rfl
 obtain ⟨f1,h1,h2,h3⟩:=dev_state (s1:=admitS s m (none,0) (none,0) (none,0)) h hn (b3P h.may hm) rfl hcur (by show s.g.toNat≤(s.g+1#32).toNat;omega) (by show (s.g+1#32).toNat≤n+1;omega)
 obtain ⟨p1,p2,p3,p4,p5⟩:=hp.out
 obtain ⟨w1,w2,w3⟩:=wh_new (g':=s.g+1#32) (z:=p.z) h2.few.bs h3 (by omega) (by omega) p4 p5
 refine ⟨f1,h1,h2,w1,?_⟩
 unfold openS
 rw [w1,w2,w3]
 rfl
theorem dev_take {f:Fl} {n:Nat} {s:StD} {im im2:List (BitVec 8)} {p:Prm} {g:BitVec 32} {len:Nat} {rdy:Int} {ids:List (BitVec 32)} {id:BitVec 32} (h:DevF f n s im) (hn:n<90) (hp:p.ok) (hg:s.g=g) (hL:LiveW f.bs g p.z rdy ids.length) (hids:∀ x∈ids,x.toNat<p.k) (hid:id.toNat<p.k) (hnew:id ∉ ids) (hk:ids.length<p.k) :
  ∃ f1,putS ⟨p,g,len,rdy,ids.length,decU p im2 ids⟩ f id (unitV p id) (datP p im2 (unitV p id))=(⟨p,g,len,((ids.length / plW p.z:Nat):Int),(ids++[id]).length,decU p im2 (ids++[id])⟩,f1,0)∧DevF f1 (n+1) s im∧LiveW f1.bs g p.z ((ids.length / plW p.z:Nat):Int) (ids++[id]).length:=by
 obtain ⟨p1,p2,p3,p4,p5⟩:=hp.out
 obtain ⟨u1,u2,u3⟩:=b3K (im:=im2) hids hid hnew
 have hw8:=(plW_b p4 p5).1
 have hwz:(datP p im2 (unitV p id)).length=p.z:=a1K _ _ _
 subst hg
 obtain ⟨f1,a1,a2,a3,a4,a5,a6⟩:=addW_on (g:=s.g) (id:=id) (d:=datP p im2 (unitV p id)) h.few (by rw [h.wr];omega) h.on hwz p4 p5 (by omega) hL h.wh
 have hgb:=h.gb
 have ha2:=StD.may_a h.may
 have hb:=h.b
 refine ⟨f1,?_,⟨a2.few,a3,a2.wear.trans h.wr,?_,h.may,h.cn,?_,a5,by omega⟩,?_⟩
 ·unfold putS
  dsimp only
  rw [u1,if_neg (by decide),a1,if_neg (fun h=>h rfl),u2,List.length_append]
  rfl
 ·obtain ⟨k,w,hk,hc⟩:=h.cell
  exact ⟨k,w,by omega,hc.keep (a4 _ _ (by omega))⟩
 ·rw [a4 _ _ (by unfold slotA;omega)]
  exact h.slot
 ·rw [List.length_append]
  exact a6
theorem dev_fin {f:Fl} {n:Nat} {s:StD} {im im2:List (BitVec 8)} (h:DevF f n s im) (hn:n<80) (ho:s.on=true) (ht:s.t=0) (hm:s.m.n=im2.length) (h1:1≤im2.length) (h2:im2.length≤512) :
  ∃ f2,finF f s im2=(f2,0)∧DevF f2 (n+3) (nf (actS s)) im2∧seg f2.bs (slotA s.a.toNat) im.length=im:=by
 have ha:=StD.may_a h.may
 have hs:(1 - s.a).toNat<2:=by omega
 obtain ⟨st,so,sc⟩:=b2N (s:=(1 - s.a).toNat) (x:=im2) h.few hs h2 (by rw [h.wr];omega) h.up
 obtain ⟨⟨f1,v1⟩,hr⟩:∃ r,slotW f (1 - s.a).toNat im2=r:=⟨_,rfl⟩
 rw [hr] at st so sc
 dsimp only at st so sc
 have hon:=st.on h.on
 rcases sc with ⟨e0,_,e2⟩|⟨_,e1⟩
 rotate_left
 ·rw [hon] at e1;cases e1
 subst e0
 have hsa:1024≤slotA (1 - s.a).toNat+512∧512≤slotA (1 - s.a).toNat∧slotA (1 - s.a).toNat+512≤1536:=by unfold slotA;omega
 obtain ⟨k,w,hk,hc⟩:=h.cell
 have hc1:CellIs f1.bs k s.by w:=hc.keep (so _ _ (by omega))
 have hmay:(actS s).may=true:=b7Q h.may ho ht
 obtain ⟨st2,so2,sc2⟩:=b7I (q:=(actS s).by) hc1 st.few (by rw [st.wear,h.wr];omega) (on_up hon) (b7J hmay) (by omega)
 obtain ⟨⟨f2,v2⟩,hr2⟩:∃ r,cellW f1 (actS s).by=r:=⟨_,rfl⟩
 rw [hr2] at st2 so2 sc2
 dsimp only at st2 so2 sc2
 have hon2:=st2.on hon
 rcases sc2 with ⟨e0,_,e4⟩|⟨_,e1,_⟩
 rotate_left
 ·rw [hon2] at e1;cases e1
 subst e0
 have hfin:finF f s im2=(f2,0):=by
  unfold finF
  rw [hr]
  dsimp only
  rw [if_neg (by decide),hr2]
 have hby:(nf (actS s)).by=(actS s).by:=rfl
 have hgb:=h.gb
 have hb:=h.b
 have hkeep:seg f2.bs (slotA s.a.toNat) im.length=im:=by
  rw [so2 _ _ (by unfold slotA;omega),so _ _ (by unfold slotA;omega)]
  exact h.slot
 refine ⟨f2,hfin,⟨st2.few,hon2,st2.wear.trans (st.wear.trans h.wr),⟨k+1,1 - w,by omega,by rw [hby];exact e4⟩,by rw [a6T];exact hmay,?_,?_,?_,by show s.g.toNat≤n+3;omega⟩,hkeep⟩
 ·have:(nf (actS s)).cur.n=s.m.n:=by
   show (if 1 - s.a=0 then (nf (actS s)).s0 else (nf (actS s)).s1).n=s.m.n
   rcases ha with h0|h0
   ·rw [if_neg (by omega)]
    show (if s.a=0 then newSl s else s.s1).n=s.m.n
    rw [if_pos h0];rfl
   ·rw [if_pos (by omega)]
    show (if s.a=0 then s.s0 else newSl s).n=s.m.n
    rw [if_neg (by omega)];rfl
  rw [this,hm]
 ·show seg f2.bs (slotA (1 - s.a).toNat) im2.length=im2
  rw [so2 _ _ (by omega)]
  exact e2
 ·show WhOk f2.bs s.g.toNat
  refine h.wh.keep ?_
  rw [so2 _ _ (by omega),so _ _ (by omega)]
theorem dev_make {v:BitVec 32} {im:List (BitVec 8)} (h1:1≤im.length) (h2:im.length≤512) :
  ∃ f1 f2,slotW (newF 100) 0 im=(f1,0)∧f1.pw.isDown=false∧cellW f1 (fstS v im.length (none,0) (sha im)).by=(f2,0)∧DevF f2 3 (fstS v im.length (none,0) (sha im)) im:=by
 have hok:=c1C 100
 have hfew:Few (newF 100) 0:=⟨rfl,a8G _,fun x hx=>by simp [newF] at hx;omega⟩
 have hw:(newF 100).wear=100:=rfl
 have hbl:∀ a n,a+n≤3584→Blank (newF 100).bs a n:=fun a n hh=>Blank.of fun i _ hi=>by
  show (ffL 3584)[i]?=_
  unfold ffL
  rw [List.getElem?_replicate,if_pos (by omega)]
 obtain ⟨st,so,sc⟩:=b2N (s:=0) (x:=im) hfew (by decide) h2 (by rw [hw];decide) (on_up rfl)
 obtain ⟨f0,hf0⟩:∃ f0,newF 100=f0:=⟨_,rfl⟩
 have hon0:f0.pw = .on:=by rw [←hf0];rfl
 rw [hf0] at st so sc hbl hw ⊢
 obtain ⟨⟨f1,v1⟩,hr⟩:∃ r,slotW f0 0 im=r:=⟨_,rfl⟩
 rw [hr] at st so sc ⊢
 dsimp only at st so sc ⊢
 have hon:=st.on hon0
 rcases sc with ⟨e0,e1,e2⟩|⟨_,e1⟩
 rotate_left
 ·rw [hon] at e1;cases e1
 subst e0
 have hsl:slotA 0=512:=rfl
 rw [hsl] at so e2
 have hmay:(fstS v im.length (none,0) (sha im)).may=true:=c1D _ _ _ _ ⟨h1,h2⟩ (b1V _)
 have hc0:Blank f1.bs 0 512:=(hbl 0 512 (by omega)).keep (so _ _ (by omega))
 obtain ⟨st2,so2,e3,hon2,e4⟩:=cellW_first (q:=(fstS v im.length (none,0) (sha im)).by) hc0 st.few (by rw [st.wear,hw];decide) hon (b7J hmay)
 obtain ⟨⟨f2,v2⟩,hr2⟩:∃ r,cellW f1 (fstS v im.length (none,0) (sha im)).by=r:=⟨_,rfl⟩
 rw [hr2] at st2 so2 e3 hon2 e4
 dsimp only at st2 so2 e3 hon2 e4
 subst e3
 refine ⟨f1,f2,rfl,e1,hr2,⟨st2.few,hon2,st2.wear.trans (st.wear.trans hw),⟨1,0,by omega,e4⟩,hmay,rfl,?_,?_,by show (0#32).toNat≤3;decide⟩⟩
 ·show seg f2.bs (slotA (Int.toNat 0)) im.length=im
  rw [show slotA (Int.toNat 0)=512 from rfl,so2 _ _ (by omega)]
  exact e2
 ·intro s hs
  refine head_blank ?_
  refine (hbl ((6+s)*256) 256 (by omega)).keep ?_
  rw [so2 _ _ (by omega),so _ _ (by omega)]
open Go.RowKit Go.Proofs Sha
def rtD37_0:List Row:=[tR 12 [] [],tR 13 [] [],tR 14 [] [],tR 15 [] [],tR 16 [3] [3],tR 17 [4] [3,4],tR 18 [2,5] [2,3,4,5],tR 19 [1,6,0] (rG 7),tR 20 [] [],tR 21 [7,8,7] (rG 9),tR 22 [0,9,9] (rG 10),tR 11 [10] (rG 11),tR 23 [11] (rG 12),tR 24 [11] (rG 12),tR 7 [12,10,0,1,2,3,4,5,6,7,8,9,10,11,12] (rG 13),tR 8 [13,14,0,1,2,3,4,5,6,7,8,9,10,11,12,13,14] (rG 15)]
def rtD37_1:List Row:=[tR 26 [] [],tR 27 [] [],tR 28 [] [],tR 29 [] [],tR 30 [3] [3],tR 31 [4] [3,4],tR 32 [2,5] [2,3,4,5],tR 33 [1,6,0] (rG 7),tR 34 [] [],tR 35 [7,8,7] (rG 9),tR 36 [0,9,9] (rG 10),tR 25 [10] (rG 11),tR 37 [11] (rG 12),tR 38 [11] (rG 12),tR 9 [12,10,0,1,2,3,4,5,6,7,8,9,10,11,12] (rG 13),tR 10 [13,14,0,1,2,3,4,5,6,7,8,9,10,11,12,13,14] (rG 15)]
def keyT:List (BitVec 8):=[107#8,101#8,121#8]
abbrev keyH (b:Nat):Hl := .any (frz b 5 (keyT.map B))
theorem c0D (H:List Hl) :
  Spec Tryz.prog 9 [] H (fun _:Nat=>True) (fun b => .slice (some ⟨b,0,none⟩) 3 3) (fun b=>keyH b::H):=by
 refine sP (res:=fun b:Nat=>[keyH b]) H Tryz.func9 Tryz.ntmps9 fun W=>?_
 repeat' (first|intro _|(refine a0P ?_;refine a0O B keyT rfl rfl rfl (fun _=>rfl) rfl rfl rfl (fun b1=>?_))|(refine a1W ?_;refine a6I (b:=b1) rfl ?_)|refine wK ?_|refine wL ?_ ?_|fail)
 refine a0E b1 rfl rfl rfl trivial ?_
 exact ent
def imgL (a:List (BitVec 8)) (x:BitVec 8):List (BitVec 8):=a.take 60++[x]
theorem c0I (a:List (BitVec 8)) (x:BitVec 8):1≤(imgL a x).length∧(imgL a x).length≤61:=by
 rw [imgL,List.length_append,List.length_take,List.length_singleton]
 omega
def prmH (s:BitVec 32) (n z p:Nat):Prm:=⟨s,(count n z).toNat,p,z⟩
theorem c0T {s:BitVec 32} {n z p:Nat} (h:count n z≠0) (hp:p≤16):(prmH s n z p).ok∧count n z=((prmH s n z p).k:Int):=by
 obtain ⟨c1,c2,c3,c4,c5,c6,c7⟩:=a8R h
 have hk:((count n z).toNat:Int)=count n z:=by omega
 refine ⟨?_,hk.symm⟩
 show mayP ((count n z).toNat:Int) p z=true
 rw [hk]
 unfold mayP
 exact decide_eq_true ⟨c7,c6,by omega,by omega,c3,c4⟩
theorem count_34 {n z:Nat} (h1:1≤n) (h2:n≤61) (hz:z=3∨z=4):count n z≠0∧(count n z).toNat≤21:=by
 unfold count
 rcases hz with rfl|rfl
 ·have e:((n:Int)+(3:Nat) - 1) / (3:Nat)=((n:Int)+2) / 3:=by congr 1;omega
  rw [if_neg (by omega),e,if_neg (by omega)]
  constructor <;> omega
 ·have e:((n:Int)+(4:Nat) - 1) / (4:Nat)=((n:Int)+3) / 4:=by congr 1;omega
  rw [if_neg (by omega),e,if_neg (by omega)]
  constructor <;> omega
def oneI (a:List (BitVec 8)):List (BitVec 8):=imgL a 1#8
def twoI (b:List (BitVec 8)):List (BitVec 8):=imgL b 2#8
def oneP (a:List (BitVec 8)):Prm:=prmH 7#32 (oneI a).length 4 2
def twoP (b:List (BitVec 8)):Prm:=prmH 8#32 (twoI b).length 3 1
theorem c1Q (a:List (BitVec 8)):HdOk keyT (oneP a) (oneI a) (sha (oneI a))∧(oneP a).k≤21:=by
 obtain ⟨h1,h2⟩:=c0I a 1#8
 obtain ⟨c1,c2⟩:=count_34 (z:=4) h1 h2 (.inr rfl)
 obtain ⟨q1,q2⟩:=c0T (s:=7#32) (p:=2) c1 (by decide)
 exact ⟨⟨q1,q2,Nat.le_trans h2 (by decide),rfl,by decide⟩,c2⟩
theorem c0C (b:List (BitVec 8)):HdOk keyT (twoP b) (twoI b) (sha (twoI b))∧(twoP b).k≤21:=by
 obtain ⟨h1,h2⟩:=c0I b 2#8
 obtain ⟨c1,c2⟩:=count_34 (z:=3) h1 h2 (.inl rfl)
 obtain ⟨q1,q2⟩:=c0T (s:=8#32) (p:=1) c1 (by decide)
 exact ⟨⟨q1,q2,Nat.le_trans h2 (by decide),rfl,by decide⟩,c2⟩
abbrev oneC (a:List (BitVec 8)) (hb:Nat):Hl := .any (crP keyT (oneP a) 10#32 (oneI a) (sha (oneI a)) hb)
abbrev twoC (b:List (BitVec 8)) (hb:Nat):Hl := .any (crP keyT (twoP b) 20#32 (twoI b) (sha (twoI b)) hb)
theorem tp_heads (H:List Hl) (aa ba:Option Addr) (ac bc:Nat) (a b:List (BitVec 8)) (ha:Rs (stars H) B aa ac a) (hb:Rs (stars H) B ba bc b) (hal:a.length≤4611686018427387904) (hbl:b.length≤4611686018427387904) :
  Spec Tryz.prog 7 [.slice aa a.length ac,.slice ba b.length bc] H (fun _:Nat × Nat=>True) (fun r => .tuple #[.pointer (some ⟨r.1,0,none⟩),.pointer (some ⟨r.2,0,none⟩),.bool true]) (fun r=>oneC a r.1::twoC b r.2::H):=by
 refine sP (res:=fun r:Nat × Nat=>[oneC a r.1,twoC b r.2]) H Tryz.func7 Tryz.ntmps7 fun W=>?_
 have hale:=ha.le
 have hble:=hb.le
 have hok1:=(c1Q a).1
 have hok2:=(c0C b).1
 obtain ⟨k1,hk1⟩:∃ k,k=min a.length 60:=⟨_,rfl⟩
 obtain ⟨k2,hk2⟩:∃ k,k=min b.length 60:=⟨_,rfl⟩
 have et1:a.take k1=a.take 60:=by rw [hk1,Nat.min_comm,←List.take_take,List.take_length]
 have et2:b.take k2=b.take 60:=by rw [hk2,Nat.min_comm,←List.take_take,List.take_length]
 obtain ⟨P1,hP1⟩:∃ P,a.take 60=P:=⟨_,rfl⟩
 obtain ⟨P2,hP2⟩:∃ P,b.take 60=P:=⟨_,rfl⟩
 rw [hP1] at et1
 rw [hP2] at et2
 have hl1:P1.length≤60:=by rw [←hP1,List.length_take];omega
 have hl2:P2.length≤60:=by rw [←hP2,List.length_take];omega
 have hr1:=ha.cutv 0 k1 (Nat.zero_le _) (by omega)
 have hr2:=hb.cutv 0 k2 (Nat.zero_le _) (by omega)
 rw [et1,List.drop_zero] at hr1
 rw [et2,List.drop_zero] at hr2
 have ho1:([]++P1)++[1#8]=oneI a:=by rw [←hP1];rfl
 have ho2:([]++P2)++[2#8]=twoI b:=by rw [←hP2];rfl
 obtain ⟨d1,hd1⟩:∃ d,sha (oneI a)=d:=⟨_,rfl⟩
 obtain ⟨d2,hd2⟩:∃ d,sha (twoI b)=d:=⟨_,rfl⟩
 have hol1:0+P1.length+1=(oneI a).length:=by rw [←ho1];simp
 have hol2:0+P2.length+1=(twoI b).length:=by rw [←ho2];simp
 repeat' (first|intro _|refine wK ?_|refine wL ?_ ?_|fail)
 refine c1X (X:=Nat) (fun hb=>[(1,.slice ba b.length bc),(7,.pointer (some ⟨hb,0,none⟩)),(8,I 0)]) (fun hb=>[oneC a hb,.any (stars H)]) ?rest ?walk
 case walk =>
  intro via
  refine a5T [(0,_)] rtD37_0 [0,1,7,8,9,10] (.alt3 [2,3,4,5,6] [] 0 (.alt [] [2,3,4,5,6] 1 (.alt [] [2,3,4,5,6] 7 (.step [] [] 8 (.step [] [] 9 (.step [] [] 10 (.fin [11,12,13,14,15] [])))) 8 (.step [] [2,3,4,5,6] 7 (.step [] [] 9 (.step [] [] 10 (.fin [11,12,13,14,15] []))))) 8 (.step [] [2,3,4,5,6] 1 (.step [] [2,3,4,5,6] 7 (.step [] [] 9 (.step [] [] 10 (.fin [11,12,13,14,15] [])))))) 1 (.alt [] [2,3,4,5,6] 0 (.alt [] [2,3,4,5,6] 7 (.step [] [] 8 (.step [] [] 9 (.step [] [] 10 (.fin [11,12,13,14,15] [])))) 8 (.step [] [2,3,4,5,6] 7 (.step [] [] 9 (.step [] [] 10 (.fin [11,12,13,14,15] []))))) 8 (.step [] [2,3,4,5,6] 0 (.step [] [2,3,4,5,6] 7 (.step [] [] 9 (.step [] [] 10 (.fin [11,12,13,14,15] [])))))) 8 (.alt [] [2,3,4,5,6] 0 (.step [] [2,3,4,5,6] 1 (.step [] [2,3,4,5,6] 7 (.step [] [] 9 (.step [] [] 10 (.fin [11,12,13,14,15] []))))) 1 (.step [] [2,3,4,5,6] 0 (.step [] [2,3,4,5,6] 7 (.step [] [] 9 (.step [] [] 10 (.fin [11,12,13,14,15] []))))))) mixed cv (by kernel_rfl) (by kernel_rfl) ?_
  repeat' (first|intro _|refine sg ?_|(refine c2F ?_;refine po (by first|refine b2W (r:=(k1:Int)) rfl rfl (by omega) fz|fail) ?_)|(refine a6D ?_;refine po (by first|((refine a5X (xs:=a) k1 rfl rfl rfl rfl hale (by omega) ?_;rw [et1]);all_goals exact fz)|fail) ?_)|refine pw ?_|refine pdd ?_|(refine k_fn 9 ?_;refine a0A (fun _=>c0D _) rfl (fun bk _=>?_))|(refine a0P ?_;first|refine a0O (T:=22) B ([]:List (BitVec 8)) rfl rfl rfl (fun _=>rfl) rfl rfl rfl (fun b0=>?_)|refine a0O B [1#8] rfl rfl rfl (fun _=>rfl) rfl rfl rfl (fun b20=>?_))|(refine a1S ?_;first|refine a2C (b:=b0) (xs:=[]) (ys:=P1) rfl rfl rfl rfl (fun _=>hr1.up) rfl rfl (fun _=>rfl) (by simp;omega) (by simp;omega) (fun a19 c19=>?_)|(refine a1H (ad:=a19) (c:=c19) (xs:=[]++P1) (ys:=[1#8]) rfl rfl (a2H rfl (by decide)) rfl rfl (fun _=>rfl) (by simp;omega) (by simp;omega) (fun a21 c21=>?_);rw [ho1,hol1]))|(refine k_fn 27 ?_;(refine a0A (fun hh=>c2O _ keyT (oneP a) 10#32 (oneI a) (sha (oneI a)) (some ⟨bk,0,none⟩) 3 a21 c21 hok1 (Rs.up (Rs.of_frz (T:=5) (b:=bk) (l:=keyT) (by decide))) (a0I (T:=5) (ad:=a21) (c:=c21) (l:=oneI a) hh)) rfl (fun hb _=>?_)))|refine ow ?_|refine And.intro ?_ ?_|fail)
  all_goals dsimp only [cA,nA]
  all_goals exact via _ _ _ cv ent
 case rest =>
  intro hb
  repeat' (first|intro _|refine wK ?_|refine wL ?_ ?_|fail)
  refine c1X (X:=Nat) (fun hb2=>[(7,.pointer (some ⟨hb,0,none⟩)),(8,I 0),(9,.pointer (some ⟨hb2,0,none⟩)),(10,I 0)]) (fun hb2=>[twoC b hb2,oneC a hb,.any (stars H)]) ?rest2 ?walk2
  case walk2 =>
   intro via
   refine a5T [(1,_)] rtD37_1 [0,1,7,8,9,10] (.alt3 [2,3,4,5,6] [] 0 (.alt [] [2,3,4,5,6] 1 (.alt [] [2,3,4,5,6] 7 (.step [] [] 8 (.step [] [] 9 (.step [] [] 10 (.fin [11,12,13,14,15] [])))) 8 (.step [] [2,3,4,5,6] 7 (.step [] [] 9 (.step [] [] 10 (.fin [11,12,13,14,15] []))))) 8 (.step [] [2,3,4,5,6] 1 (.step [] [2,3,4,5,6] 7 (.step [] [] 9 (.step [] [] 10 (.fin [11,12,13,14,15] [])))))) 1 (.alt [] [2,3,4,5,6] 0 (.alt [] [2,3,4,5,6] 7 (.step [] [] 8 (.step [] [] 9 (.step [] [] 10 (.fin [11,12,13,14,15] [])))) 8 (.step [] [2,3,4,5,6] 7 (.step [] [] 9 (.step [] [] 10 (.fin [11,12,13,14,15] []))))) 8 (.step [] [2,3,4,5,6] 0 (.step [] [2,3,4,5,6] 7 (.step [] [] 9 (.step [] [] 10 (.fin [11,12,13,14,15] [])))))) 8 (.alt [] [2,3,4,5,6] 0 (.step [] [2,3,4,5,6] 1 (.step [] [2,3,4,5,6] 7 (.step [] [] 9 (.step [] [] 10 (.fin [11,12,13,14,15] []))))) 1 (.step [] [2,3,4,5,6] 0 (.step [] [2,3,4,5,6] 7 (.step [] [] 9 (.step [] [] 10 (.fin [11,12,13,14,15] []))))))) mixed cv (by kernel_rfl) (by kernel_rfl) ?_
   repeat' (first|intro _|refine sg ?_|(refine c2F ?_;refine po (by first|refine b2W (r:=(k2:Int)) rfl rfl (by omega) fz|fail) ?_)|(refine a6D ?_;refine po (by first|((refine a5X (xs:=b) k2 rfl rfl rfl rfl hble (by omega) ?_;rw [et2]);all_goals exact fz)|fail) ?_)|refine pw ?_|refine pdd ?_|(refine k_fn 9 ?_;refine a0A (fun _=>c0D _) rfl (fun bk _=>?_))|(refine a0P ?_;first|refine a0O (T:=22) B ([]:List (BitVec 8)) rfl rfl rfl (fun _=>rfl) rfl rfl rfl (fun b0=>?_)|refine a0O B [2#8] rfl rfl rfl (fun _=>rfl) rfl rfl rfl (fun b20=>?_))|(refine a1S ?_;first|refine a2C (b:=b0) (xs:=[]) (ys:=P2) rfl rfl rfl rfl (fun _=>hr2.up) rfl rfl (fun _=>rfl) (by simp;omega) (by simp;omega) (fun a19 c19=>?_)|(refine a1H (ad:=a19) (c:=c19) (xs:=[]++P2) (ys:=[2#8]) rfl rfl (a2H rfl (by decide)) rfl rfl (fun _=>rfl) (by simp;omega) (by simp;omega) (fun a21 c21=>?_);rw [ho2,hol2]))|(refine k_fn 27 ?_;(refine a0A (fun hh=>c2O _ keyT (twoP b) 20#32 (twoI b) (sha (twoI b)) (some ⟨bk,0,none⟩) 3 a21 c21 hok2 (Rs.up (Rs.of_frz (T:=5) (b:=bk) (l:=keyT) (by decide))) (a0I (T:=5) (ad:=a21) (c:=c21) (l:=twoI b) hh)) rfl (fun hb2 _=>?_)))|refine ow ?_|refine And.intro ?_ ?_|fail)
   all_goals dsimp only [cA,nA]
   all_goals exact via _ _ _ cv ent
  case rest2 =>
   intro hb2
   repeat' (first|intro _|refine wK ?_|refine wL ?_ ?_|fail)
   refine rt_tmp3 (hb,hb2) rfl rfl rfl rfl rfl trivial ?_
   exact ent
end Go.Dp
namespace Go.Dp
open Go.RowKit
theorem toks_hide (X Y R:List Hl):∀ h,stars (X++(Y++R)) h→stars (X++(R++[.any (stars Y)])) h:=fun h hh=>by
 refine a0W _ _ _ (a0U (a0X _ _ _ hh) (fun _ a=>a) (fun h' hy=>?_))
 exact a0W _ _ _ (a0U (a3L (a0X _ _ _ hy)) (fun _ a=>a) (fun h2 h3=>⟨h2,fun _=>none,fun _ => .inr rfl,.refl _,fun _ _ e=>(by cases e),h3,trivial⟩))
theorem toks_show (X Y R:List Hl):∀ h,stars (X++(R++[.any (stars Y)])) h→stars (X++(Y++R)) h:=fun h hh=>by
 refine a0W _ _ _ (a0U (a0X _ _ _ hh) (fun _ a=>a) (fun h' hy=>?_))
 refine a0W _ _ _ (a3L (a0U (a0X _ _ _ hy) (fun _ a=>a) (fun h2 h3=>?_)))
 obtain ⟨k1,k2,_,s1,_,a,_⟩:=h3
 exact a8Z a s1
theorem toks_weak (X Y R:List Hl):∀ h,stars (X++(Y++R)) h→stars (X++R) h:=fun h hh=>by
 refine a0W _ _ _ (a0U (a0X _ _ _ hh) (fun _ a=>a) (fun h' hy=>?_))
 obtain ⟨k1,k2,_,_,s2,_,b⟩:=a0X _ _ _ hy
 exact a8Z b s2
theorem b5R {o:Nat→List Hl} {R:List Hl}:∀ (cs L:List Nat),cs.Nodup→L.Nodup→(∀ i∈cs,i∈L)→∃ L':List Nat,(∀ x,x∈L'↔x∈L∧x ∉ cs)∧L'.Nodup∧∀ h,stars (L.flatMap o++R) h→stars (cs.flatMap o++(L'.flatMap o++R)) h
 | [],L,_,hL,_=>⟨L,fun x=>by simp,hL,fun h hh=>hh⟩
 | c::cs,L,hc,hL,hs=>by
  obtain ⟨A,B,rfl⟩:=List.append_of_mem (hs c (by simp))
  rw [List.nodup_cons] at hc
  rw [List.nodup_append,List.nodup_cons] at hL
  obtain ⟨n1,⟨n2,n3⟩,n4⟩:=hL
  have hcA:c ∉ A:=fun h=>n4 c h c (by simp) rfl
  have hAB:(A++B).Nodup:=List.nodup_append.2 ⟨n1,n3,fun x hx y hy=>n4 x hx y (by simp [hy])⟩
  obtain ⟨L',e1,e2,e3⟩:=b5R (o:=o) (R:=R) cs (A++B) hc.2 hAB (fun i hi=>by
   have:=hs i (by simp [hi])
   have hne:i≠c:=fun e=>hc.1 (e ▸ hi)
   simp only [List.mem_append,List.mem_cons] at this ⊢
   rcases this with h|h|h
   ·exact .inl h
   ·exact absurd h hne
   ·exact .inr h)
  refine ⟨L',fun x=>?_,e2,fun h hh=>?_⟩
  ·rw [e1]
   simp only [List.mem_append,List.mem_cons,not_or]
   constructor
   ·rintro ⟨h1,h2⟩
    have hne:x≠c:=fun e=>by
     subst e
     rcases h1 with h1|h1
     ·exact hcA h1
     ·exact n2 h1
    exact ⟨h1.imp id .inr,hne,h2⟩
   ·rintro ⟨h1,h2,h3⟩
    refine ⟨?_,h3⟩
    rcases h1 with h1|h1|h1
    ·exact .inl h1
    ·exact absurd h1 h2
    ·exact .inr h1
  ·have h1:stars (o c++((A++B).flatMap o++R)) h:=by
    rw [List.flatMap_append,List.flatMap_cons] at hh
    have h2:stars (A.flatMap o++(o c++(B.flatMap o++R))) h:=by simpa [List.append_assoc] using hh
    have h4:sep (stars (A.flatMap o)) (sep (stars (o c)) (stars (B.flatMap o++R))) h:=a0U (a0X _ _ _ h2) (fun _ x=>x) (fun h' hy=>a0X _ _ _ hy)
    have h5:sep (stars (o c)) (sep (stars (A.flatMap o)) (stars (B.flatMap o++R))) h:=a4X (a0U (a3B h4) (fun _=>a3L) (fun _ x=>x))
    have h3:=a0W _ _ _ (a0U h5 (fun _ x=>x) (fun h' hy=>a0W _ _ _ hy))
    simpa [List.append_assoc] using h3
   have h2:=a0W _ _ _ (a0U (a0X _ _ _ h1) (fun _ a=>a) (fun h' hy=>e3 h' hy))
   simpa [List.append_assoc] using h2
structure Dag (V:Type) where
 val:Nat→V→Value
 out:Nat→V→List Hl
 cons:Nat→List Nat
 fin:List Nat
section
variable {V:Type} (G:Dag V)
def Dag.env (tab:List Row) (ω:Nat→V):List Nat→Ev
 | []=>[]
 | i::l=>match dstAt tab i with
  | some d=>(d,G.val i (ω i))::Dag.env tab ω l
  | none=>Dag.env tab ω l
def Dag.toks (ω:Nat→V) (l:List Nat):List Hl:=l.flatMap (fun i=>G.out i (ω i))
def dagOk (n:Nat) (tab:List Row) (cons:Nat→List Nat) (fin:List Nat) (e0:Ev):Bool :=
 tabOk tab && (tab.all (fun r=>match r.dst with|none=>true|some d=>Nat.blt d n) && (tab.all (fun r=>r.guard.isNone) &&
 (((List.range tab.length).all fun i=>(cons i).Nodup && (cons i).all fun j=>(cloAt tab i).contains j && (List.range tab.length).all fun k=>k == i || !(cons k).contains j) &&
 (fin.Nodup && (fin.all fun i=>decide (i<tab.length) && (List.range tab.length).all fun k => !(cons k).contains i) && (e0.all fun x=>tab.all fun r=>r.dst != some x.1)))))
end
section
variable {P:Program} {k:Kon} {n:Nat} {e:Ev} {W:World} {l:List Oper} {tab:List Row} {V:Type} {G:Dag V} {R H:List Hl}
theorem look_mem:∀ {e:Ev} {t:Nat} {v:Value},look e t=some v→∃ x∈e,x.1=t
 | [],t,v,h=>by simp [look] at h
 | (j,u)::e,t,v,h=>by
  by_cases q:j=t
  ·exact ⟨(j,u),by simp,q⟩
  ·have hb:Nat.beq j t=false:=by cases hq:Nat.beq j t with|false=>rfl|true=>exact absurd (Nat.eq_of_beq_eq_true hq) q
   simp only [look,hb,cond_false] at h
   obtain ⟨x,hx,hxt⟩:=look_mem h
   exact ⟨x,by simp [hx],hxt⟩
structure MidG (P:Program) (n:Nat) (e:Ev) (tab:List Row) (G:Dag V) (R:List Hl) (W:World) (D:List Nat) (a:Act) (w:World):Prop where
 size:a.tmps.size=n
 defers:a.defers=[]
 ext:Ext W w
 inD:∀ i∈D,i<tab.length
 keep:∀ t v,look e t=some v→(∀ i∈D,dstAt tab i≠some t)→a.tmps[t]?=some v
 at_:∃ (ω:Nat→V) (L:List Nat),L.Nodup∧(∀ i∈L,i∈D)∧(∀ i∈D,(∀ j∈D,i ∉ G.cons j)→i∈L)∧(∀ i∈D,∀ d,dstAt tab i=some d→a.tmps[d]?=some (G.val i (ω i)))∧sat w (stars (G.toks ω L++R))
theorem b5I {tab:List Row} {ω:Nat→V}:∀ (l:List Nat) (t:Nat) (v:Value),look (G.env tab ω l) t=some v→∃ i∈l,dstAt tab i=some t∧v=G.val i (ω i)
 | [],t,v,h=>by simp [Dag.env,look] at h
 | i::l,t,v,h=>by
  unfold Dag.env at h
  cases hd:dstAt tab i with
  | none =>
   rw [hd] at h
   obtain ⟨j,hj,h1,h2⟩:=b5I l t v h
   exact ⟨j,by simp [hj],h1,h2⟩
  | some d =>
   rw [hd] at h
   dsimp only at h
   by_cases e:d=t
   ·subst e
    simp only [look,Nat.beq_refl,cond_true] at h
    exact ⟨i,by simp,hd,(Option.some.inj h).symm⟩
   ·have hb:Nat.beq d t=false:=by cases hq:Nat.beq d t with|false=>rfl|true=>exact absurd (Nat.eq_of_beq_eq_true hq) e
    simp only [look,hb,cond_false] at h
    obtain ⟨j,hj,h1,h2⟩:=b5I l t v h
    exact ⟨j,by simp [hj],h1,h2⟩
theorem b9Q {tab:List Row} {ω:Nat→V}:∀ (l:List Nat) (t:Nat),look (G.env tab ω l) t=none→∀ j∈l,dstAt tab j≠some t
 | [],t,h,j,hj=>by cases hj
 | i::l,t,h,j,hj=>by
  unfold Dag.env at h
  intro hd
  cases hdi:dstAt tab i with
  | none =>
   rw [hdi] at h
   rcases List.mem_cons.1 hj with rfl|hj
   ·rw [hdi] at hd;cases hd
   ·exact b9Q l t h j hj hd
  | some d =>
   rw [hdi] at h
   dsimp only at h
   by_cases e:d=t
   ·subst e
    simp only [look,Nat.beq_refl,cond_true] at h
    cases h
   ·have hb:Nat.beq d t=false:=by cases hq:Nat.beq d t with|false=>rfl|true=>exact absurd (Nat.eq_of_beq_eq_true hq) e
    simp only [look,hb,cond_false] at h
    rcases List.mem_cons.1 hj with rfl|hj
    ·rw [hdi] at hd;exact e (Option.some.inj hd)
    ·exact b9Q l t h j hj hd
theorem toks_congr {ω ω':Nat→V} {l:List Nat} (h:∀ i∈l,ω i=ω' i):G.toks ω l=G.toks ω' l:=by
 unfold Dag.toks
 induction l with
 | nil=>rfl
 | cons x l ih=>rw [List.flatMap_cons,List.flatMap_cons,h x (by simp),ih (fun i hi=>h i (by simp [hi]))]
theorem st_dag {id:Nat} (G:Dag V) (e0:Ev) (tab:List Row) (R:List Hl) (hm:P.follows .mixedOrders=true) (he:Covers e e0) (hrows:l.map (fun o=>(o.dst,edgesOf o,o.guard))=tab.map (fun r=>(r.dst,r.edges,r.guard)))
  (hok:dagOk n tab G.cons G.fin e0=true) (ω0:Nat→V) (hR:Ent H R)
  (hop:∀ (ω:Nat→V) (A:Hp→Prop) (i:Nat) (o:Oper),l[i]?=some o→O1 P o.op o.type n (G.env tab ω (cloAt tab i)++e0) (G.toks ω (G.cons i)++(R++[.any A])) (fun v H'=>∃ x,v=G.val i x∧Ent H' (G.out i x++(R++[.any A]))))
  (h:∀ ω:Nat→V,Nx P k n (G.env tab ω (List.range tab.length)++e) W (G.toks ω G.fin++R)):St P (.region id l.toArray true) k n e W H :=
 ⟨fun a w ho=>by
  simp only [dagOk,Bool.and_eq_true] at hok
  obtain ⟨ht,hdst,hgn,hcs,⟨hfn,hfi⟩,he0⟩:=hok
  have hlen:l.length=tab.length:=by simpa using congrArg List.length hrows
  obtain ⟨f1,f2,f3⟩:=tabOk.facts ht
  have hc1:∀ i,i<tab.length→(G.cons i).Nodup∧∀ j∈G.cons i,j∈cloAt tab i∧∀ k,k<tab.length→j∈G.cons k→k=i:=fun i hi=>by
   have:=List.all_eq_true.1 hcs i (List.mem_range.2 hi)
   simp only [Bool.and_eq_true,decide_eq_true_eq,List.all_eq_true,List.contains_eq_mem,Bool.or_eq_true,beq_iff_eq,Bool.not_eq_true',decide_eq_false_iff_not,List.mem_range] at this
   refine ⟨this.1,fun j hj=>⟨(this.2 j hj).1,fun k hk hjk=>?_⟩⟩
   rcases (this.2 j hj).2 k hk with q|q
   ·exact q
   ·exact absurd hjk q
  have hfi2:∀ i∈G.fin,i<tab.length∧∀ k,k<tab.length→i ∉ G.cons k:=fun i hi=>by
   have:=List.all_eq_true.1 hfi i hi
   simp only [Bool.and_eq_true,decide_eq_true_eq,List.all_eq_true,List.contains_eq_mem,Bool.not_eq_true',decide_eq_false_iff_not,List.mem_range] at this
   exact this
  have he02:∀ t v,look e0 t=some v→∀ i,dstAt tab i≠some t:=fun t v hv i hd=>by
   obtain ⟨x,hx,hxt⟩:∃ x∈e0,x.1=t:=look_mem hv
   have:=List.all_eq_true.1 he0 x hx
   cases hs:tab[i]? with
   | none=>simp [dstAt,hs] at hd
   | some r =>
    have h2:=List.all_eq_true.1 this r (List.mem_of_getElem? hs)
    simp only [dstAt,hs,Option.bind_some] at hd
    rw [hd,hxt] at h2
    simp at h2
  refine wp_region_any hm ?_
  refine b9Y ht hrows (MidG P n e tab G R W) (fun D i r hcl hi hr hre a w hm K hK=>?_) (fun D a w hall hm=>?_) _ _ [] _ _ List.nodup_nil (by simp) (by simp) (by simp) (fun i hi=>by simp [hi]) (Nat.le_trans (List.length_filter_le _ _) (by simp))
   ⟨ho.ev.size,ho.ev.defers,ho.ext.drew,by simp,fun t v hl _=>ho.ev.get t v hl,ω0,[],List.nodup_nil,by simp,by simp,by simp,ho.sat.mono (fun h hh=>hR.out h hh)⟩
  ·have hil:i<l.length:=by rw [hlen];exact (List.getElem?_eq_some_iff.1 hr).1
   have hilt:i<tab.length:=hlen ▸ hil
   have hoo:l[i]?=some l[i]:=List.getElem?_eq_getElem hil
   generalize l[i]=o at hoo
   have hrow:(o.dst,edgesOf o,o.guard)=(r.dst,r.edges,r.guard):=by
    have:=congrArg (fun x=>x[i]?) hrows
    simp only [List.getElem?_map,hoo,hr,Option.map_some,Option.some.injEq] at this
    exact this
   simp only [Prod.mk.injEq] at hrow
   obtain ⟨hd,hed,hg⟩:=hrow
   have hgr:r.guard=none:=by
    have:=List.all_eq_true.1 hgn r (List.mem_of_getElem? hr)
    simpa using this
   have hdn:∀ d,r.dst=some d→d<n:=by
    intro d hd
    have:=List.all_eq_true.1 hdst r (List.mem_of_getElem? hr)
    rw [hd] at this
    simpa [Nat.blt_eq] using this
   have hdi:dstAt tab i=r.dst:=by simp [dstAt,hr]
   have hci:cloAt tab i=r.clo:=by simp [cloAt,hr]
   have hcloD:∀ j∈cloAt tab i,j∈D:=by rw [hci];exact b3O ht hcl i r hr hre
   obtain ⟨ω,L,hLn,hLD,hDL,hat,hsat⟩:=hm.at_
   obtain ⟨cn,cc⟩:=hc1 i hilt
   obtain ⟨L',e1,e2,e3⟩:=b5R (o:=fun i=>G.out i (ω i)) (R:=R) (G.cons i) L cn hLn (fun j hj=>hDL j (hcloD j (cc j hj).1) (fun q hq hjq=>hi ((cc j hj).2 q (hm.inD q hq) hjq ▸ hq)))
   have hev:EvOk a n (G.env tab ω (cloAt tab i)++e0):=by
    refine ⟨hm.size,hm.defers,fun t v hl=>?_⟩
    rcases a7Q _ _ t v hl with hl|hl
    ·obtain ⟨j,hj,hjd,rfl⟩:=b5I _ t v hl
     exact hat j (hcloD j hj) t hjd
    ·exact hm.keep t v (he.look t v hl) fun j hj hd'=>he02 t v hl j hd'
   have hsat2:sat w (stars (G.toks ω (G.cons i)++(R++[.any (stars (G.toks ω L'))]))):=hsat.mono fun h hh=>toks_hide _ _ _ h (e3 h hh)
   have hwant:Region.wanted o (yielded l.toArray a.tmps)=true:=by
    unfold Region.wanted
    rw [hg,hgr]
   unfold wpOp
   simp only [List.getElem?_toArray,hoo]
   rw [hwant]
   simp only [if_true]
   left
   refine (hop ω _ i o hoo).out a w ⟨hev,hsat2⟩ o rfl rfl K _ fun v w' H' hc hx hs=>hK _ _ ?_
   obtain ⟨x,hv,hE⟩:=hc
   have q1:∀ t,r.dst≠some t→(a.put o.dst v).tmps[t]?=a.tmps[t]?:=by
    intro t ht'
    rw [hd]
    cases hrd:r.dst with
    | none=>rfl
    | some d =>
     have:d≠t:=fun e=>by subst e;exact ht' hrd
     simp [Act.put,this]
   have q2:∀ d,r.dst=some d→(a.put o.dst v).tmps[d]?=some v:=fun d hrd=>by
    rw [hd,hrd];simp [Act.put,hm.size,hdn d hrd]
   have hne:∀ q∈D,q≠i:=fun q hq e=>hi (e ▸ hq)
   refine ⟨?_,?_,hm.ext.trans hx,?_,?_,fun j=>if j=i then x else ω j,i::L',?_,?_,?_,?_,?_⟩
   ·rw [hd];cases r.dst <;> simp [Act.put,hm.size]
   ·rw [hd];cases r.dst <;> simp [Act.put,hm.defers]
   ·intro q hq
    rcases List.mem_cons.1 hq with rfl|hq
    ·exact hilt
    ·exact hm.inD q hq
   ·intro t u hl hn
    rw [q1 t (fun e=>hn i (by simp) (hdi.trans e))]
    exact hm.keep t u hl (fun j hj=>hn j (by simp [hj]))
   ·exact List.nodup_cons.2 ⟨fun h=>hi (hLD i ((e1 i).1 h).1),e2⟩
   ·intro q hq
    rcases List.mem_cons.1 hq with rfl|hq
    ·simp
    ·simp [hLD q ((e1 q).1 hq).1]
   ·intro q hq hnc
    rcases List.mem_cons.1 hq with rfl|hq
    ·simp
    ·have h1:=hDL q hq (fun j hj=>hnc j (by simp [hj]))
     have h2:=hnc i (by simp)
     simp [(e1 q).2 ⟨h1,h2⟩]
   ·intro q hq d hqd
    rcases List.mem_cons.1 hq with rfl|hq
    ·rw [q2 d (hdi.symm.trans hqd),hv]
     simp
    ·rw [q1 d (fun e=>hi (f1 i q d (hdi.trans e) hqd ▸ hq)),hat q hq d hqd]
     simp [hne q hq]
   ·have e5:G.toks (fun j=>if j=i then x else ω j) (i::L')=G.out i x++G.toks ω L':=by
     unfold Dag.toks
     rw [List.flatMap_cons]
     simp only [if_true]
     congr 1
     exact toks_congr (G:=G) (fun q hq=>if_neg (hne q (hLD q ((e1 q).1 hq).1)))
    rw [e5,List.append_assoc]
    exact hs.mono fun h hh=>toks_show _ _ _ h (hE.out h hh)
  ·obtain ⟨ω,L,hLn,hLD,hDL,hat,hsat⟩:=hm.at_
   have hin:∀ i,i<tab.length→i∈D:=fun i hi=>hall i (by omega)
   obtain ⟨L',e1,e2,e3⟩:=b5R (o:=fun i=>G.out i (ω i)) (R:=R) G.fin L (by simpa using hfn) hLn (fun j hj=>hDL j (hin j (hfi2 j hj).1) (fun q hq=>(hfi2 j hj).2 q (hm.inD q hq)))
   refine Nx.out (h ω) a w ⟨⟨hm.size,hm.defers,fun t v hl=>?_⟩,hm.ext,hsat.mono fun h hh=>toks_weak _ _ _ h (e3 h hh)⟩
   rcases a6U _ _ t v hl with hl|⟨hn,hl⟩
   ·obtain ⟨j,hj,hjd,rfl⟩:=b5I _ t v hl
    exact hat j (hin j (List.mem_range.1 hj)) t hjd
   ·exact hm.keep t v hl fun j hj hd'=>b9Q _ t hn j (List.mem_range.2 (hm.inD j hj)) hd'⟩
end
def allOps (Q:Nat→Oper→Prop):Nat→List Oper→Prop
 | _,[]=>True
 | m,o::l=>Q m o∧allOps Q (m+1) l
theorem allOps_out {Q:Nat→Oper→Prop}:∀ (l:List Oper) (m i:Nat) (o:Oper),allOps Q m l→l[i]?=some o→Q (m+i) o
 | [],m,i,o,_,h=>by simp at h
 | x::l,m,0,o,h,ho=>by
  simp at ho
  subst ho
  exact h.1
 | x::l,m,i+1,o,h,ho=>by
  have:=allOps_out l (m+1) i o h.2 (by simpa using ho)
  rw [show m+(i+1)=m+1+i by omega]
  exact this
theorem nx_cov {P:Program} {k:Kon} {n:Nat} {E E':Ev} {W:World} {H:List Hl} (hc:Covers E E') (h:Nx P k n E' W H):Nx P k n E W H:=⟨fun a w ho=>h.out a w ⟨⟨ho.ev.size,ho.ev.defers,fun t v hv=>ho.ev.get t v (hc.look t v hv)⟩,ho.ext,ho.sat⟩⟩
theorem O1.dag {P:Program} {op:Op} {ty:TypeId} {n:Nat} {E E':Ev} {H H':List Hl} {C:Value→List Hl→Prop} (hc:Covers E E') (hH:H=H') (h:O1 P op ty n E' H' C):O1 P op ty n E H C:=by
 subst hH
 exact ⟨fun a w ho=>h.out a w ⟨⟨ho.ev.size,ho.ev.defers,fun t v hv=>ho.ev.get t v (hc.look t v hv)⟩,ho.sat⟩⟩
section
variable {P:Program} {k:Kon} {n:Nat} {e:Ev} {W:World} {l:List Oper} {tab:List Row} {V:Type} {R H:List Hl}
theorem st_dags {id:Nat} (G:Dag V) (e0:Ev) (tab:List Row) (R:List Hl) (ω0:Nat→V) (hm:P.follows .mixedOrders=true) (he:Covers e e0) (hrows:l.map (fun o=>(o.dst,edgesOf o,o.guard))=tab.map (fun r=>(r.dst,r.edges,r.guard)))
  (hok:dagOk n tab G.cons G.fin e0=true) (hR:Ent H R)
  (hop:∀ (ω:Nat→V) (A:Hp→Prop),allOps (fun i o=>O1 P o.op o.type n (G.env tab ω (cloAt tab i)++e0) (G.toks ω (G.cons i)++(R++[.any A])) (fun v H'=>∃ x,v=G.val i x∧Ent H' (G.out i x++(R++[.any A])))) 0 l)
  (h:∀ ω:Nat→V,Nx P k n (G.env tab ω (List.range tab.length)++e) W (G.toks ω G.fin++R)):St P (.region id l.toArray true) k n e W H :=
 st_dag G e0 tab R hm he hrows hok ω0 hR (fun ω A i o ho=>by
  have:=allOps_out l 0 i o (hop ω A) ho
  rwa [Nat.zero_add] at this) h
end
open Go.RowKit Go.Proofs Sha
def imgTab:List Row:=[⟨some 6,[],[],none⟩,⟨some 7,[],[],none⟩,⟨some 8,[],[],none⟩,⟨some 9,[2],[2],none⟩,⟨some 10,[3],[2,3],none⟩,⟨some 11,[1,4],[1,2,3,4],none⟩,⟨some 12,[0,5],[0,1,2,3,4,5],none⟩,⟨some 13,[],[],none⟩,⟨some 14,[6,7,6],[0,1,2,3,4,5,6,7],none⟩,⟨some 15,[],[],none⟩,⟨some 16,[],[],none⟩,⟨some 17,[],[],none⟩,⟨some 18,[11],[11],none⟩,⟨some 19,[12],[11,12],none⟩,⟨some 20,[10,13],[10,11,12,13],none⟩,⟨some 21,[9,14,8],[0,1,2,3,4,5,6,7,8,9,10,11,12,13,14],none⟩,⟨some 22,[],[],none⟩,⟨some 23,[15,16,15],[0,1,2,3,4,5,6,7,8,9,10,11,12,13,14,15,16],none⟩,⟨some 4,[8,17,0,1,2,3,4,5,6,7,8],[0,1,2,3,4,5,6,7,8,9,10,11,12,13,14,15,16,17],none⟩,⟨some 5,[17,18,0,1,2,3,4,5,6,7,8,9,10,11,12,13,14,15,16,17,18],[0,1,2,3,4,5,6,7,8,9,10,11,12,13,14,15,16,17,18],none⟩]
abbrev ImV:=Nat × Option Addr × Nat
structure ImP where
 k1:Nat
 k2:Nat
 P1:List (BitVec 8)
 P2:List (BitVec 8)
 aa:Option Addr
 ac:Nat
 a:List (BitVec 8)
 ba:Option Addr
 bc:Nat
 b:List (BitVec 8)
def imgVal (q:ImP):Nat→ImV→Value
 | 0,x => .slice (some ⟨x.1,0,none⟩) 0 0
 | 1,_ => .slice q.aa q.a.length q.ac
 | 2,_ => .slice q.aa q.a.length q.ac
 | 3,_=>I q.a.length
 | 4,_=>I q.k1
 | 5,_ => .slice (cutA q.aa q.ac 0) q.P1.length (q.ac - 0)
 | 6,x => .slice x.2.1 (0+q.P1.length) x.2.2
 | 7,x => .slice (some ⟨x.1,0,none⟩) 1 1
 | 8,x => .slice x.2.1 (oneI q.a).length x.2.2
 | 9,x => .slice (some ⟨x.1,0,none⟩) 0 0
 | 10,_ => .slice q.ba q.b.length q.bc
 | 11,_ => .slice q.ba q.b.length q.bc
 | 12,_=>I q.b.length
 | 13,_=>I q.k2
 | 14,_ => .slice (cutA q.ba q.bc 0) q.P2.length (q.bc - 0)
 | 15,x => .slice x.2.1 (0+q.P2.length) x.2.2
 | 16,x => .slice (some ⟨x.1,0,none⟩) 1 1
 | 17,x => .slice x.2.1 (twoI q.b).length x.2.2
 | 18,x => .slice x.2.1 (oneI q.a).length x.2.2
 | 19,x => .slice x.2.1 (twoI q.b).length x.2.2
 | _,_=>undef
abbrev rowN (x:ImV) (n:Nat) (l:List (BitVec 8)):Hl := .row 5 1 (.slice x.2.1 n x.2.2) n (l.map B)
def imgOut (q:ImP):Nat→ImV→List Hl
 | 0,x=>[.box x.1 5 (([]:List (BitVec 8)).map B)]
 | 6,x=>[rowN x (0+q.P1.length) ([]++q.P1)]
 | 7,x=>[.box x.1 5 ([1#8].map B)]
 | 8,x=>[rowN x (oneI q.a).length (oneI q.a)]
 | 9,x=>[.box x.1 5 (([]:List (BitVec 8)).map B)]
 | 15,x=>[rowN x (0+q.P2.length) ([]++q.P2)]
 | 16,x=>[.box x.1 5 ([2#8].map B)]
 | 17,x=>[rowN x (twoI q.b).length (twoI q.b)]
 | 18,x=>[rowN x (oneI q.a).length (oneI q.a)]
 | 19,x=>[rowN x (twoI q.b).length (twoI q.b)]
 | _,_=>[]
def imgCons:Nat→List Nat
 | 6=>[0]
 | 8=>[6,7]
 | 15=>[9]
 | 17=>[15,16]
 | 18=>[8]
 | 19=>[17]
 | _=>[]
abbrev imgG (q:ImP):Dag ImV:=⟨imgVal q,imgOut q,imgCons,[18,19]⟩
theorem tp_images (H:List Hl) (aa ba:Option Addr) (ac bc:Nat) (a b:List (BitVec 8)) (ha:Rs (stars H) B aa ac a) (hb:Rs (stars H) B ba bc b) (hal:a.length≤4611686018427387904) (hbl:b.length≤4611686018427387904) :
  Spec Tryz.prog 10 [.slice aa a.length ac,.slice ba b.length bc] H (fun _:PA × PA=>True) (fun r => .tuple #[.slice r.1.1 (oneI a).length r.1.2,.slice r.2.1 (twoI b).length r.2.2]) (fun r=>rowB r.1 (oneI a)::rowB r.2 (twoI b)::H):=by
 refine sP (res:=fun r:PA × PA=>[rowB r.1 (oneI a),rowB r.2 (twoI b)]) H Tryz.func10 Tryz.ntmps10 fun W=>?_
 have hale:=ha.le
 have hble:=hb.le
 obtain ⟨k1,hk1⟩:∃ k,k=min a.length 60:=⟨_,rfl⟩
 obtain ⟨k2,hk2⟩:∃ k,k=min b.length 60:=⟨_,rfl⟩
 have et1:a.take k1=a.take 60:=by rw [hk1,Nat.min_comm,←List.take_take,List.take_length]
 have et2:b.take k2=b.take 60:=by rw [hk2,Nat.min_comm,←List.take_take,List.take_length]
 obtain ⟨P1,hP1⟩:∃ P,a.take 60=P:=⟨_,rfl⟩
 obtain ⟨P2,hP2⟩:∃ P,b.take 60=P:=⟨_,rfl⟩
 rw [hP1] at et1
 rw [hP2] at et2
 have hl1:P1.length≤60:=by rw [←hP1,List.length_take];omega
 have hl2:P2.length≤60:=by rw [←hP2,List.length_take];omega
 have hr1:=ha.cutv 0 k1 (Nat.zero_le _) (by omega)
 have hr2:=hb.cutv 0 k2 (Nat.zero_le _) (by omega)
 rw [et1,List.drop_zero] at hr1
 rw [et2,List.drop_zero] at hr2
 have ho1:([]++P1)++[1#8]=oneI a:=by rw [←hP1];rfl
 have ho2:([]++P2)++[2#8]=twoI b:=by rw [←hP2];rfl
 have hol1:0+P1.length+1=(oneI a).length:=by rw [←ho1];simp
 have hol2:0+P2.length+1=(twoI b).length:=by rw [←ho2];simp
 repeat' (first|intro _|refine wK ?_|refine wL ?_ ?_|fail)
 refine st_dags (imgG ⟨k1,k2,P1,P2,aa,ac,a,ba,bc,b⟩) [(0,.slice aa a.length ac),(1,.slice ba b.length bc)] imgTab [.any (stars H)] (fun _=>(0,none,0)) mixed cv (by kernel_rfl) (by kernel_rfl) ent ?_ ?_
 ·intro ω A
  refine ⟨?_,?_,?_,?_,?_,?_,?_,?_,?_,?_,?_,?_,?_,?_,?_,?_,?_,?_,?_,?_,trivial⟩
  ·refine O1.dag (E':=[]) (H':=[.any (stars H),.any A]) cv rfl ?_
   refine a0O (T:=22) B ([]:List (BitVec 8)) rfl rfl rfl (fun _=>rfl) rfl rfl rfl (fun bz=>?_)
   refine ⟨(bz,none,0),rfl,?_⟩
   show Ent _ [.box bz 5 ((([]:List (BitVec 8))).map B),.any (stars H),.any A]
   exact ent
  ·refine O1.dag (E':=[(0,.slice aa a.length ac)]) (H':=[.any (stars H),.any A]) cv rfl ?_
   refine a6F rfl ?_
   refine ⟨(0,none,0),rfl,?_⟩
   show Ent _ [.any (stars H),.any A]
   exact ent
  ·refine O1.dag (E':=[(0,.slice aa a.length ac)]) (H':=[.any (stars H),.any A]) cv rfl ?_
   refine a6F rfl ?_
   refine ⟨(0,none,0),rfl,?_⟩
   show Ent _ [.any (stars H),.any A]
   exact ent
  ·refine O1.dag (E':=[(8,.slice aa a.length ac)]) (H':=[.any (stars H),.any A]) cv rfl ?_
   refine c0G rfl ?_
   refine ⟨(0,none,0),rfl,?_⟩
   show Ent _ [.any (stars H),.any A]
   exact ent
  ·refine O1.dag (E':=[(9,I a.length)]) (H':=[.any (stars H),.any A]) cv rfl ?_
   refine b2W (r:=(k1:Int)) rfl rfl (by omega) ?_
   refine ⟨(0,none,0),rfl,?_⟩
   show Ent _ [.any (stars H),.any A]
   exact ent
  ·refine O1.dag (E':=[(7,.slice aa a.length ac),(10,I k1)]) (H':=[.any (stars H),.any A]) cv rfl ?_
   refine a5X (xs:=a) k1 rfl rfl rfl rfl hale (by omega) ?_
   rw [et1]
   refine ⟨(0,none,0),rfl,?_⟩
   show Ent _ [.any (stars H),.any A]
   exact ent
  ·refine O1.dag (E':=[(6,.slice (some ⟨(ω 0).1,0,none⟩) 0 0),(11,.slice (cutA aa ac 0) P1.length (ac - 0))]) (H':=[.box (ω 0).1 5 ((([]:List (BitVec 8))).map B),.any (stars H),.any A]) cv rfl ?_
   refine a2C (b:=(ω 0).1) (xs:=[]) (ys:=P1) rfl rfl rfl rfl (fun _=>hr1.up) rfl rfl (fun _=>rfl) (by simp;omega) (by simp;omega) (fun a19 c19=>?_)
   refine ⟨(0,a19,c19),rfl,?_⟩
   show Ent _ [.row 5 1 (.slice a19 (0+P1.length) c19) (0+P1.length) (([]++P1).map B),.any (stars H),.any A]
   exact ent
  ·refine O1.dag (E':=[]) (H':=[.any (stars H),.any A]) cv rfl ?_
   refine a0O B [1#8] rfl rfl rfl (fun _=>rfl) rfl rfl rfl (fun bz=>?_)
   refine ⟨(bz,none,0),rfl,?_⟩
   show Ent _ [.box bz 5 ([1#8].map B),.any (stars H),.any A]
   exact ent
  ·refine O1.dag (E':=[(12,.slice (ω 6).2.1 (0+P1.length) (ω 6).2.2),(13,.slice (some ⟨(ω 7).1,0,none⟩) 1 1)]) (H':=[.row 5 1 (.slice (ω 6).2.1 (0+P1.length) (ω 6).2.2) (0+P1.length) (([]++P1).map B),.box (ω 7).1 5 ([1#8].map B),.any (stars H),.any A]) cv rfl ?_
   refine a1H (ad:=(ω 6).2.1) (c:=(ω 6).2.2) (xs:=[]++P1) (ys:=[1#8]) rfl rfl (a2H (b:=(ω 7).1) rfl (by decide)) rfl rfl (fun _=>rfl) (by simp;omega) (by simp;omega) (fun a21 c21=>?_)
   rw [ho1,hol1]
   refine ⟨(0,a21,c21),rfl,?_⟩
   show Ent _ [.row 5 1 (.slice a21 (oneI a).length c21) (oneI a).length ((oneI a).map B),.any (stars H),.any A]
   exact ent
  ·refine O1.dag (E':=[]) (H':=[.any (stars H),.any A]) cv rfl ?_
   refine a0O (T:=22) B ([]:List (BitVec 8)) rfl rfl rfl (fun _=>rfl) rfl rfl rfl (fun bz=>?_)
   refine ⟨(bz,none,0),rfl,?_⟩
   show Ent _ [.box bz 5 ((([]:List (BitVec 8))).map B),.any (stars H),.any A]
   exact ent
  ·refine O1.dag (E':=[(1,.slice ba b.length bc)]) (H':=[.any (stars H),.any A]) cv rfl ?_
   refine a6F rfl ?_
   refine ⟨(0,none,0),rfl,?_⟩
   show Ent _ [.any (stars H),.any A]
   exact ent
  ·refine O1.dag (E':=[(1,.slice ba b.length bc)]) (H':=[.any (stars H),.any A]) cv rfl ?_
   refine a6F rfl ?_
   refine ⟨(0,none,0),rfl,?_⟩
   show Ent _ [.any (stars H),.any A]
   exact ent
  ·refine O1.dag (E':=[(17,.slice ba b.length bc)]) (H':=[.any (stars H),.any A]) cv rfl ?_
   refine c0G rfl ?_
   refine ⟨(0,none,0),rfl,?_⟩
   show Ent _ [.any (stars H),.any A]
   exact ent
  ·refine O1.dag (E':=[(18,I b.length)]) (H':=[.any (stars H),.any A]) cv rfl ?_
   refine b2W (r:=(k2:Int)) rfl rfl (by omega) ?_
   refine ⟨(0,none,0),rfl,?_⟩
   show Ent _ [.any (stars H),.any A]
   exact ent
  ·refine O1.dag (E':=[(16,.slice ba b.length bc),(19,I k2)]) (H':=[.any (stars H),.any A]) cv rfl ?_
   refine a5X (xs:=b) k2 rfl rfl rfl rfl hble (by omega) ?_
   rw [et2]
   refine ⟨(0,none,0),rfl,?_⟩
   show Ent _ [.any (stars H),.any A]
   exact ent
  ·refine O1.dag (E':=[(15,.slice (some ⟨(ω 9).1,0,none⟩) 0 0),(20,.slice (cutA ba bc 0) P2.length (bc - 0))]) (H':=[.box (ω 9).1 5 ((([]:List (BitVec 8))).map B),.any (stars H),.any A]) cv rfl ?_
   refine a2C (b:=(ω 9).1) (xs:=[]) (ys:=P2) rfl rfl rfl rfl (fun _=>hr2.up) rfl rfl (fun _=>rfl) (by simp;omega) (by simp;omega) (fun a19 c19=>?_)
   refine ⟨(0,a19,c19),rfl,?_⟩
   show Ent _ [.row 5 1 (.slice a19 (0+P2.length) c19) (0+P2.length) (([]++P2).map B),.any (stars H),.any A]
   exact ent
  ·refine O1.dag (E':=[]) (H':=[.any (stars H),.any A]) cv rfl ?_
   refine a0O B [2#8] rfl rfl rfl (fun _=>rfl) rfl rfl rfl (fun bz=>?_)
   refine ⟨(bz,none,0),rfl,?_⟩
   show Ent _ [.box bz 5 ([2#8].map B),.any (stars H),.any A]
   exact ent
  ·refine O1.dag (E':=[(21,.slice (ω 15).2.1 (0+P2.length) (ω 15).2.2),(22,.slice (some ⟨(ω 16).1,0,none⟩) 1 1)]) (H':=[.row 5 1 (.slice (ω 15).2.1 (0+P2.length) (ω 15).2.2) (0+P2.length) (([]++P2).map B),.box (ω 16).1 5 ([2#8].map B),.any (stars H),.any A]) cv rfl ?_
   refine a1H (ad:=(ω 15).2.1) (c:=(ω 15).2.2) (xs:=[]++P2) (ys:=[2#8]) rfl rfl (a2H (b:=(ω 16).1) rfl (by decide)) rfl rfl (fun _=>rfl) (by simp;omega) (by simp;omega) (fun a21 c21=>?_)
   rw [ho2,hol2]
   refine ⟨(0,a21,c21),rfl,?_⟩
   show Ent _ [.row 5 1 (.slice a21 (twoI b).length c21) (twoI b).length ((twoI b).map B),.any (stars H),.any A]
   exact ent
  ·refine O1.dag (E':=[(14,.slice (ω 8).2.1 (oneI a).length (ω 8).2.2)]) (H':=[.row 5 1 (.slice (ω 8).2.1 (oneI a).length (ω 8).2.2) (oneI a).length ((oneI a).map B),.any (stars H),.any A]) cv rfl ?_
   refine b0I rfl ?_
   refine ⟨ω 8,rfl,?_⟩
   show Ent _ [.row 5 1 (.slice (ω 8).2.1 (oneI a).length (ω 8).2.2) (oneI a).length ((oneI a).map B),.any (stars H),.any A]
   exact ent
  ·refine O1.dag (E':=[(23,.slice (ω 17).2.1 (twoI b).length (ω 17).2.2)]) (H':=[.row 5 1 (.slice (ω 17).2.1 (twoI b).length (ω 17).2.2) (twoI b).length ((twoI b).map B),.any (stars H),.any A]) cv rfl ?_
   refine b0I rfl ?_
   refine ⟨ω 17,rfl,?_⟩
   show Ent _ [.row 5 1 (.slice (ω 17).2.1 (twoI b).length (ω 17).2.2) (twoI b).length ((twoI b).map B),.any (stars H),.any A]
   exact ent
 ·intro ω
  refine b4Q (H2:=[rowB (ω 18).2 (oneI a),rowB (ω 19).2 (twoI b),.any (stars H)]) (fun h hh=>hh) ?_
  refine nx_cov (E':=[(4,.slice (ω 18).2.1 (oneI a).length (ω 18).2.2),(5,.slice (ω 19).2.1 (twoI b).length (ω 19).2.2)]) cv ?_
  repeat' (first|intro _|refine wK ?_|refine wL ?_ ?_|fail)
  refine a2U ((ω 18).2,(ω 19).2) rfl rfl rfl rfl trivial ?_
  exact ent
abbrev mOf (p:Prm) (v:BitVec 32) (im:List (BitVec 8)):ManD:=hdM p v im.length (sha im) (none,0)
abbrev fstP (p:Prm) (v:BitVec 32) (im:List (BitVec 8)):List (BitVec 8):=fstB keyT p v im.length (sha im)
theorem a9Y {p:Prm} {v:BitVec 32} {im:List (BitVec 8)} (h:HdOk keyT p im (sha im)):prM keyT (fstP p v im)=(mOf p v im,0):=by
 have hm:=h.may v (none,0)
 have:=(prM_by (key:=keyT) hm rfl rfl).1
 rw [(manO_by' hm).2] at this
 exact this
theorem b3B {p:Prm} {v:BitVec 32} {im:List (BitVec 8)} (h:HdOk keyT p im (sha im)):IsP (mOf p v im) p im.length:=⟨h.ok,rfl,rfl,rfl,rfl,h.ct⟩
abbrev hearS (s:StD) (p:Prm) (v:BitVec 32) (im:List (BitVec 8)):StD:=admitS s (mOf p v im) (none,0) (none,0) (none,0)
abbrev stoU (p:Prm) (g:BitVec 32) (im:List (BitVec 8)) (rdy:Int) (ids:List (BitVec 32)):Sto:=⟨p,g,im.length,rdy,ids.length,decU p im ids⟩
theorem top_hear_I {f:Fl} {n:Nat} {s:StD} {im:List (BitVec 8)} {p:Prm} {v:BitVec 32} {im2:List (BitVec 8)} (h:DevF f n s im) (hn:n<90) (hk:HdOk keyT p im2 (sha im2)) (he:errOf s (mOf p v im2)=0) :
  ∃ f1,DevF f1 (n+1) (hearS s p v im2) im∧∀ (H:List Hl) (db:Nat) (ad:Option Addr) (c:Nat),TabF (stars H)→Rs (stars H) B ad c (frameB 1#8 (fstP p v im2)) →
   Spec Tryz.prog 12 [.pointer (some ⟨db,0,none⟩),.slice ad 85 c] (.any (dvI keyT f s db)::H) (fun _:Unit=>True) (fun _=>I 0) (fun _ => .any (dvL keyT f1 (hearS s p v im2) (stoU p (s.g+1#32) im2 (-1) []) db)::H):=by
 obtain ⟨f1,h1,h2,h3,h4⟩:=dev_hear (m:=mOf p v im2) (len:=im2.length) h hn (hk.may v (none,0)) hk.ok (fun _=>[])
 refine ⟨f1,h2,fun H db ad c ht hb=>?_⟩
 have:=b4E H db keyT f s ad 85 c (fstP p v im2) hb (by rw [a7A hk]) (by rw [a7A hk];decide) (by rw [a7A hk];decide) hk.kl (mOf p v im2) p im2.length (fun _=>[]) f1 (a9Y hk) h.may (hk.may v (none,0)) he h.up (b3B hk) ht h1 h2.up (fun r hr=>by rw [h3] at hr;cases hr)
 rw [h4,←b9S p im2] at this
 exact this
theorem top_no_L {s:StD} {p:Prm} {v:BitVec 32} {im2:List (BitVec 8)} {e:Int} (hk:HdOk keyT p im2 (sha im2)) (he:errOf s (mOf p v im2)=e) (h0:e≠0) (h11:e≠11) (H:List Hl) (db:Nat) (f:Fl) (st:Sto) (ad:Option Addr) (c:Nat) (hb:Rs (stars H) B ad c (frameB 1#8 (fstP p v im2))) :
  Spec Tryz.prog 12 [.pointer (some ⟨db,0,none⟩),.slice ad 85 c] (.any (dvL keyT f s st db)::H) (fun _:Unit=>True) (fun _=>I e) (fun _ => .any (dvL keyT f s st db)::H) :=
 a9H H db keyT f s st ad 85 c (fstP p v im2) hb (by rw [a7A hk]) (by rw [a7A hk];decide) (by rw [a7A hk];decide) hk.kl (mOf p v im2) e (a9Y hk) he h0 h11
abbrev symP (p:Prm) (im:List (BitVec 8)) (id:BitVec 32):List (BitVec 8):=symB p.s id (datP p im (unitV p id))
theorem b0X (p:Prm) (im:List (BitVec 8)) (id:BitVec 32):(symP p im id).length=8+p.z:=by
 rw [symP,←b4U,a1K]
theorem b7X {f:Fl} {n:Nat} {s:StD} {im im2:List (BitVec 8)} {p:Prm} {rdy:Int} {ids:List (BitVec 32)} {id:BitVec 32} (h:DevF f n s im) (hn:n<90) (hk:HdOk keyT p im2 (sha im2)) (ho:s.on=true) (hp:IsP s.m p im2.length) (hL:LiveW f.bs s.g p.z rdy ids.length) (hids:∀ x∈ids,x.toNat<p.k) (hnd:ids.Nodup) (hid:id.toNat<p.k) (hnew:id ∉ ids) (hlt:ids.length+1<p.k) :
  ∃ f1,DevF f1 (n+1) s im∧LiveW f1.bs s.g p.z ((ids.length / plW p.z:Nat):Int) (ids++[id]).length∧∀ (H:List Hl) (db:Nat) (ad:Option Addr) (c:Nat),TabF (stars H)→Rs (stars H) B ad c (frameB 2#8 (symP p im2 id)) →
   Spec Tryz.prog 12 [.pointer (some ⟨db,0,none⟩),.slice ad (8+p.z+9) c] (.any (dvL keyT f s (stoU p s.g im2 rdy ids) db)::H) (fun _:Unit=>True) (fun _=>I 0) (fun _ => .any (dvL keyT f1 s (stoU p s.g im2 ((ids.length / plW p.z:Nat):Int) (ids++[id])) db)::H):=by
 obtain ⟨p1,p2,p3,p4,p5⟩:=hk.ok.out
 obtain ⟨f1,h1,h2,h3⟩:=dev_take (im2:=im2) (len:=im2.length) h hn hk.ok rfl hL hids hid hnew (by omega)
 refine ⟨f1,h2,h3,fun H db ad c ht hb=>?_⟩
 have hdl:(datP p im2 (unitV p id)).length=p.z:=a1K _ _ _
 have hc:cntS (decU p im2 ids).M=p.p+ids.length:=b9T ids hids hnd
 have hc1:cntS (decU p im2 (ids++[id])).M=p.p+ids.length+1:=by rw [(b3K (im:=im2) hids hid hnew).2.2,hc]
 have hpn:p.n=p.k+p.p:=rfl
 have hw8:=(plW_b p4 p5).1
 exact b8P H db keyT f s (stoU p s.g im2 rdy ids) ad (8+p.z+9) c (symP p im2 id) hb (by rw [b0X]) (by rw [b0X];omega) (by rw [b0X];omega) hk.kl p.s id (datP p im2 (unitV p id)) rfl (by omega) (by omega) im2.length (unitV p id) ho hp rfl hdl (b7C p im2 ids) (by show ids.length≤1000;omega) (b5B p id hk.ok hid) h.up (by show ids.length≤8*plW p.z;omega) ht f1 _ h1 hk.ok (by show cntS (decU p im2 (ids++[id])).M≤1000;omega) (by show ((p.n:Nat):Int) - (cntS (decU p im2 (ids++[id])).M:Nat)≠0;omega)
theorem top_fin {f:Fl} {n:Nat} {s:StD} {im im2:List (BitVec 8)} {p:Prm} {rdy:Int} {ids:List (BitVec 32)} {id:BitVec 32} (h:DevF f n s im) (hn:n<79) (hk:HdOk keyT p im2 (sha im2)) (ho:s.on=true) (htr:s.t=0) (hp:IsP s.m p im2.length) (hsh:s.m.h.l=sha im2) (hL:LiveW f.bs s.g p.z rdy ids.length) (hids:∀ x∈ids,x.toNat<p.k) (hnd:ids.Nodup) (hid:id.toNat<p.k) (hnew:id ∉ ids) (hlt:ids.length+1=p.k) (h1i:1≤im2.length) :
  ∃ f2,DevF f2 (n+4) (nf (actS s)) im2∧seg f2.bs (slotA s.a.toNat) im.length=im∧∀ (H:List Hl) (db:Nat) (ad:Option Addr) (c:Nat),TabF (stars H)→Rs (stars H) B ad c (frameB 2#8 (symP p im2 id)) →
   Spec Tryz.prog 12 [.pointer (some ⟨db,0,none⟩),.slice ad (8+p.z+9) c] (.any (dvL keyT f s (stoU p s.g im2 rdy ids) db)::H) (fun _:Unit=>True) (fun _=>I 0) (fun _ => .any (dvI keyT f2 (nf (actS s)) db)::H):=by
 obtain ⟨p1,p2,p3,p4,p5⟩:=hk.ok.out
 obtain ⟨f1,h1,h2,h3⟩:=dev_take (im2:=im2) (len:=im2.length) h (by omega) hk.ok rfl hL hids hid hnew (by omega)
 obtain ⟨f2,g1,g2,g3⟩:=dev_fin (im2:=im2) h2 (by omega) ho htr hp.en h1i hk.le
 refine ⟨f2,g2,g3,fun H db ad c ht hb=>?_⟩
 have hdl:(datP p im2 (unitV p id)).length=p.z:=a1K _ _ _
 have hc:cntS (decU p im2 ids).M=p.p+ids.length:=b9T ids hids hnd
 have hc1:cntS (decU p im2 (ids++[id])).M=p.p+ids.length+1:=by rw [(b3K (im:=im2) hids hid hnew).2.2,hc]
 have hpn:p.n=p.k+p.p:=rfl
 have hw8:=(plW_b p4 p5).1
 have hids2:∀ x∈ids++[id],x.toNat<p.k:=fun x hx=>by
  rcases List.mem_append.1 hx with q|q
  ·exact hids x q
  ·obtain rfl:x=id:=by simpa using q
   exact hid
 have hnd2:(ids++[id]).Nodup:=List.nodup_append.2 ⟨hnd,by simp,fun a ha b hb e=>by
  obtain rfl:b=id:=by simpa using hb
  exact hnew (e ▸ ha)⟩
 exact b0D H db keyT f s (stoU p s.g im2 rdy ids) ad (8+p.z+9) c (symP p im2 id) hb (by rw [b0X]) (by rw [b0X];omega) (by rw [b0X];omega) hk.kl p.s id (datP p im2 (unitV p id)) rfl (by omega) (by omega) im2.length (unitV p id) ho hp rfl hdl (b7C p im2 ids) (by show ids.length≤1000;omega) (b5B p id hk.ok hid) h.up (by show ids.length≤8*plW p.z;omega) ht f1 _ h1 hk.ok (by show cntS (decU p im2 (ids++[id])).M≤1000;omega) (by show cntS (decU p im2 (ids++[id])).M=p.n;omega) im2 (b7C p im2 _) hk.ct (decU_full hids2 hnd2 (by rw [List.length_append];exact hlt) hk.ct p1) h1i hk.le hsh.symm h2.up h.may htr f2 g1
end Go.Dp
