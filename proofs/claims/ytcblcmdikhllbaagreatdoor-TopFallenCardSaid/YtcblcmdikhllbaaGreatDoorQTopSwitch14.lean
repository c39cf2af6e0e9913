/-
  What is taken in, piece by piece, tells the image, plain.
  What programming and erasing come to, with and without power, plain.
  Sums tell every change of four bytes, plain.
  A cell is written: what cellW says. Found none, or one of both.
  The cell: what stands in it, whatever power does, plain.
  The cell is written, whatever power does, plain.
  The cell written: what comes of it, whatever power does, plain.
  Conditions: those that stand in each theorem.
-/
import Derived.Test.YtcblcmdikhllbaaGreatDoorQTopSwitch3
import Derived.Test.YtcblcmdikhllbaaGreatDoorQTopSwitch10
import Derived.Test.YtcblcmdikhllbaaGreatDoorQTopSwitch13
import Derived.Test.YtcblcmdikhllbaaGreatDoorQTopSwitch8
import Derived.Test.YtcblcmdikhllbaaGreatDoorQTopSwitch9
import Derived.Test.YtcblcmdikhllbaaGreatDoorQTopSwitch4
import Derived.Test.YtcblcmdikhllbaaGreatDoorQTopSwitch5
import Derived.Test.YtcblcmdikhllbaaGreatDoorQTopSwitch12
set_option linter.unusedVariables false
set_option linter.unusedSimpArgs false
namespace Go.Dp
def datD (L:List (List (BitVec 8))) (z:Nat) (v:List Bool):List (BitVec 8):=parS (at_ v) L z
theorem datD_len (L:List (List (BitVec 8))) (z:Nat) (v:List Bool):(datD L z v).length=z:=by simp [datD,parS]
theorem datD_lin (L:List (List (BitVec 8))) (z n:Nat):Lin n z (datD L z):=⟨fun v _=>datD_len L z v,fun a b ha hb=>by
 apply List.ext_getElem
 ·rw [xorL_len _ _ (by rw [datD_len,datD_len]),datD_len,datD_len]
 intro k h1 h2
 rw [datD_len] at h1
 have e:(xorL (datD L z a) (datD L z b))[k]=(datD L z a)[k]'(by rw [datD_len];exact h1) ^^^ (datD L z b)[k]'(by rw [datD_len];exact h1):=by simp [xorL]
 rw [e]
 simp only [datD,parS,List.getElem_map,List.getElem_range]
 rw [←xsum_xor]
 refine xsum_congr (fun i _=>?_)
 have:at_ (xorV a b) i=(at_ a i ^^ at_ b i):=xorV_getD (by omega) i
 rw [this]
 cases at_ a i <;> cases at_ b i <;> simp [pickB]⟩
theorem at8_lo' {s:BitVec 32} {K P z i k:Nat} {L:List (List (BitVec 8))} (hi:i<L.length):at8 (allP s K P z L) i k=at8 L i k:=by
 unfold at8 allP
 congr 1
 rw [List.getD_eq_getElem?_getD,List.getD_eq_getElem?_getD,List.getElem?_append_left hi]
theorem at8_hi' {s:BitVec 32} {K P z j k:Nat} {L:List (List (BitVec 8))} (hj:j<P):at8 (allP s K P z L) (L.length+j) k=(parS (parR s K j) L z).getD k 0#8:=by
 unfold at8 allP
 congr 1
 rw [List.getD_eq_getElem?_getD,List.getElem?_append_right (by omega),show L.length+j - L.length=j by omega]
 simp [hj]
theorem datD_par {s:BitVec 32} {K P Z j:Nat} {L:List (List (BitVec 8))} (hL:L.length=K) (hj:j<P):datD (allP s K P Z L) Z (rowR s (K+P) K j)=List.replicate Z 0#8:=by
 apply List.ext_getElem
 ·simp [datD_len]
 intro k h1 h2
 rw [datD_len] at h1
 rw [List.getElem_replicate]
 simp only [datD,parS,List.getElem_map,List.getElem_range]
 have hl:(allP s K P Z L).length=K+P:=by simp [allP,hL]
 rw [hl]
 have e1:=row_nothing K P j hj (fun i=>oddR (srcNew s (BitVec.ofNat 32 (2147483648+j))) i) (fun i=>at8 (allP s K P Z L) i k) (by
  have e2:=at8_hi' (s:=s) (K:=K) (z:=Z) (k:=k) (L:=L) hj
  rw [hL] at e2
  rw [e2,parS_at _ _ _ _ h1,hL]
  refine xsum_congr (fun i hi=>?_)
  rw [at8_lo' (by omega)]
  have : ¬ i=K+j:=by omega
  simp [parR,hi,this])
 rw [←e1]
 refine xsum_congr (fun i hi=>?_)
 congr 1
 exact rowR_at _ _ _ _ _ hi
theorem datD_unit {L:List (List (BitVec 8))} {z i:Nat} {v:List Bool} (hi:i<L.length) (hz:L[i].length=z) (h:∀ k,at_ v k=decide (k=i)):datD L z v=L[i]:=by
 apply List.ext_getElem
 ·rw [datD_len,hz]
 intro k h1 h2
 simp only [datD,parS,List.getElem_map,List.getElem_range]
 rw [xsum_one hi (fun j hj hne=>by rw [h j];simp [pickB,hne]),h i]
 simp [pickB,at8,List.getD_eq_getElem?_getD,hi,h2]
theorem full_app' {image:List (BitVec 8)} {m:Nat} (h:image.length≤m):full image m=image++List.replicate (m - image.length) 0#8:=by
 rw [full,List.take_of_length_le h];rfl
theorem count_ge' {l z n:Nat} (h:count l z=n) (hn:1≤n):l≤n*z:=by
 obtain ⟨p1,p2,p3,p4,p5,p6,p7⟩:=count_pos (l:=l) (s:=z) (by omega)
 have d1:(l:Int)+z - 1<((l+z - 1:Int) / z+1)*z:=Int.lt_ediv_add_one_mul_self _ (by omega)
 rw [←p5,h,Int.add_mul,Int.one_mul] at d1
 have hbi:((n*z:Nat):Int)=(n:Int)*z:=by push_cast;rfl
 omega
theorem pieA_len (p:Prm) (im:List (BitVec 8)):(pieA p im).length=p.n:=allP_n
theorem rowsL_len {s:BitVec 32} {K P:Nat}:∀ v∈rowsL s K P,v.length=K+P:=fun v hv=>by
 obtain ⟨j,_,rfl⟩:=List.mem_map.1 hv
 exact rowR_len _ _ _ _
theorem unitV_len (p:Prm) (id:BitVec 32):(unitV p id).length=p.n:=bitsOf_len _ _
theorem unitV_at (p:Prm) (id:BitVec 32) (k:Nat) (h:id.toNat<p.n):at_ (unitV p id) k=decide (k=id.toNat):=by
 by_cases hk:k<p.n
 ·have:=bitsOf_at p.n [(id.toNat:Int)] k hk
  show (bitsOf p.n [(id.toNat:Int)]).getD k false=_
  rw [this]
  simp
  omega
 ·have h1:at_ (unitV p id) k=false:=by
   unfold at_
   rw [List.getD_eq_getElem?_getD,List.getElem?_eq_none (by rw [unitV_len];omega)]
   rfl
  rw [h1]
  have : ¬ k=id.toNat:=by omega
  simp [this]
abbrev datP (p:Prm) (im:List (BitVec 8)):List Bool→List (BitVec 8):=datD (pieA p im) p.z
def rowsU (p:Prm) (ids:List (BitVec 32)):List (List Bool):=rowsL p.s p.k p.p++ids.map (unitV p)
def decU (p:Prm) (im:List (BitVec 8)) (ids:List (BitVec 32)):Dec:=⟨foldA p.n (datP p im) (rowsU p ids),ids.length⟩
theorem rowsU_len (p:Prm) (ids:List (BitVec 32)):∀ v∈rowsU p ids,v.length=p.n:=fun v hv=>by
 rcases List.mem_append.1 hv with h|h
 ·exact rowsL_len v h
 ·obtain ⟨id,_,rfl⟩:=List.mem_map.1 h
  exact unitV_len p id
theorem datP_par (p:Prm) (im:List (BitVec 8)):∀ v∈rowsL p.s p.k p.p,datP p im v=List.replicate p.z 0#8:=fun v hv=>by
 obtain ⟨j,hj,rfl⟩:=List.mem_map.1 hv
 exact datD_par (by simp [piecesL]) (List.mem_range.1 hj)
theorem rowsM_fold (p:Prm) (im:List (BitVec 8)):∀ l:List (List Bool),(∀ v∈l,datP p im v=List.replicate p.z 0#8)→rowsM p l=foldA p.n (datP p im) l:=fun l=>rev_ind (P:=fun l=>(∀ v∈l,datP p im v=List.replicate p.z 0#8)→rowsM p l=foldA p.n (datP p im) l) (fun _=>rfl) (fun l a ih h=>by
 rw [foldA_snoc,←ih (fun v hv=>h v (by simp [hv])),h a (by simp)]
 simp [rowsM]) l
theorem decU_nil (p:Prm) (im:List (BitVec 8)):decU p im []=newD p:=by
 unfold decU newD rowsU
 rw [List.map_nil,List.append_nil,rowsM_fold p im _ (datP_par p im)]
 rfl
theorem decU_RR (p:Prm) (im:List (BitVec 8)) (ids:List (BitVec 32)):RR p.n p.z (decU p im ids).M:=foldA_RR (fun v _=>datD_len _ _ v) _ (rowsU_len p ids)
theorem foldA_new {n z:Nat} {M:List (Option LN)} (h:RR n z M) {v:List Bool} {x:List (BitVec 8)} (hv:v.length=n) (hx:x.length=z) (hs : ¬ sp n M v):firstV (red M (v,x)).1 ≠ -1∧0≤firstV (red M (v,x)).1∧cntS (addF M (v,x))=cntS M+1:=by
 have h1:firstV (red M (v,x)).1 ≠ -1:=fun e=>hs ((sp_first h hv hx).1 e)
 rcases add_cases (v:=(v,x)) h hv hx with e|⟨a,e,_,_,e2⟩
 ·exact absurd e h1
 ·refine ⟨h1,by rw [e];omega,?_⟩
  rw [addF_new e,e2]
theorem at_zero (n k:Nat):at_ (List.replicate n false) k=false:=by
 unfold at_
 rw [List.getD_eq_getElem?_getD,List.getElem?_replicate]
 split <;> rfl
theorem at_xor {a b:List Bool} {n:Nat} (ha:a.length=n) (hb:b.length=n) (k:Nat):at_ (xorV a b) k=(at_ a k ^^ at_ b k):=xorV_getD (by omega) k
theorem rowR_par {s:BitVec 32} {K P j i:Nat} (hi:i<K+P):at_ (rowR s (K+P) K j) i=parR s K j i:=by
 show (rowR s (K+P) K j).getD i false=_
 rw [rowR_at _ _ _ _ _ hi]
theorem unit_new {p:Prm} {im:List (BitVec 8)} {ids:List (BitVec 32)} {id:BitVec 32} (hids:∀ x∈ids,x.toNat<p.k) (hid:id.toNat<p.k) (hn:id ∉ ids) : ¬ sp p.n (decU p im ids).M (unitV p id):=fun hs=>by
 have hnk:p.n=p.k+p.p:=rfl
 have:=foldA_sub (D:=datP p im) (n:=p.n) (z:=p.z) (fun v _=>datD_len _ _ v) (T:=fun w=>at_ w id.toNat=xsB (fun j=>at_ w (p.k+j) && parR p.s p.k j id.toNat) p.p)
  (by
   rw [at_zero,xsB_zero (fun j _=>by rw [at_zero];rfl)])
  (fun a b ha hb h1 h2=>by
   rw [at_xor ha hb,h1,h2,←xsB_xor]
   refine xsB_congr (fun j _=>?_)
   rw [at_xor ha hb]
   cases at_ a (p.k+j) <;> cases at_ b (p.k+j) <;> cases parR p.s p.k j id.toNat <;> rfl)
  (rowsU p ids) (fun v hv=>⟨rowsU_len p ids v hv,by
   rcases List.mem_append.1 hv with h|h
   ·obtain ⟨j,hj,rfl⟩:=List.mem_map.1 h
    have hj:=List.mem_range.1 hj
    rw [rowR_par (by omega),xsB_one hj (fun i hi hne=>?_),rowR_par (by omega)]
    ·have:parR p.s p.k j (p.k+j)=true:=by simp [parR]
     rw [this];rfl
    ·rw [rowR_par (by omega)]
     have:parR p.s p.k j (p.k+i)=false:=by
      have : ¬ (p.k+i=p.k+j):=by omega
      simp [parR]
      omega
     rw [this];rfl
   ·obtain ⟨u,hu,rfl⟩:=List.mem_map.1 h
    have hul:=hids u hu
    rw [unitV_at p u _ (by omega),xsB_zero (fun j hj=>by
     rw [unitV_at p u _ (by omega)]
     have : ¬ (p.k+j=u.toNat):=by omega
     simp [this])]
    have : ¬ (id.toNat=u.toNat):=fun e=>hn (by rw [BitVec.eq_of_toNat_eq e];exact hu)
    simp [this]⟩) (unitV p id) (unitV_len p id) hs
 rw [unitV_at p id _ (by omega),xsB_zero (fun j hj=>by
  rw [unitV_at p id _ (by omega)]
  have : ¬ (p.k+j=id.toNat):=by omega
  simp [this])] at this
 simp at this
theorem rowsU_snoc (p:Prm) (ids:List (BitVec 32)) (id:BitVec 32):rowsU p (ids++[id])=rowsU p ids++[unitV p id]:=by simp [rowsU]
theorem decU_take {p:Prm} {im:List (BitVec 8)} {ids:List (BitVec 32)} {id:BitVec 32} (hids:∀ x∈ids,x.toNat<p.k) (hid:id.toNat<p.k) (hn:id ∉ ids) :
  saysD p (decU p im ids) (unitV p id)=true∧takeD p (decU p im ids) (unitV p id) (datP p im (unitV p id))=decU p im (ids++[id])∧cntS (decU p im (ids++[id])).M=cntS (decU p im ids).M+1:=by
 have hs:=unit_new (im:=im) hids hid hn
 have hR:=decU_RR p im ids
 have h1:=foldA_new hR (unitV_len p id) (x:=List.replicate p.z 0#8) (by simp) hs
 have h2:=foldA_new hR (unitV_len p id) (x:=datP p im (unitV p id)) (datD_len _ _ _) hs
 have e:(decU p im (ids++[id])).M=addF (decU p im ids).M (unitV p id,datP p im (unitV p id)):=by
  unfold decU
  dsimp only
  rw [rowsU_snoc,foldA_snoc]
 refine ⟨?_,?_,?_⟩
 ·unfold saysD
  exact decide_eq_true h1.2.1
 ·unfold takeD
  rw [if_neg h2.1,←e]
  show (⟨(decU p im (ids++[id])).M,ids.length+1⟩:Dec)=decU p im (ids++[id])
  unfold decU
  rw [List.length_append]
  rfl
 ·rw [e];exact h2.2.2
theorem par_cnt (p:Prm) (im:List (BitVec 8)):∀ j,j≤p.p→cntS (foldA p.n (datP p im) ((List.range j).map (rowR p.s (p.k+p.p) p.k)))=j
 | 0,_=>by
  rw [List.range_zero,List.map_nil,foldA_nil,cntS_none]
 | j+1,hj=>by
  have hnk:p.n=p.k+p.p:=rfl
  have hrl:∀ v∈(List.range j).map (rowR p.s (p.k+p.p) p.k),v.length=p.n:=fun v hv=>by
   obtain ⟨i,_,rfl⟩:=List.mem_map.1 hv
   exact rowR_len _ _ _ _
  have hR:=foldA_RR (D:=datP p im) (z:=p.z) (fun v _=>datD_len _ _ v) _ hrl
  rw [List.range_succ,List.map_append,List.map_cons,List.map_nil,foldA_snoc]
  have hs : ¬ sp p.n (foldA p.n (datP p im) ((List.range j).map (rowR p.s (p.k+p.p) p.k))) (rowR p.s (p.k+p.p) p.k j):=fun hs=>by
   have:=foldA_sub (D:=datP p im) (n:=p.n) (z:=p.z) (fun v _=>datD_len _ _ v) (T:=fun w=>at_ w (p.k+j)=false) (at_zero _ _)
    (fun a b ha hb h1 h2=>by rw [at_xor ha hb,h1,h2];rfl)
    ((List.range j).map (rowR p.s (p.k+p.p) p.k)) (fun v hv=>⟨hrl v hv,by
     obtain ⟨i,hi,rfl⟩:=List.mem_map.1 hv
     have hi:=List.mem_range.1 hi
     rw [rowR_par (by omega)]
     simp [parR]
     omega⟩) _ (rowR_len _ _ _ _) hs
   rw [rowR_par (by omega)] at this
   simp [parR] at this
  have:=(foldA_new hR (rowR_len p.s (p.k+p.p) p.k j) (x:=datP p im (rowR p.s (p.k+p.p) p.k j)) (datD_len _ _ _) hs).2.2
  rw [this,par_cnt p im j (by omega)]
theorem decU_cnt {p:Prm} {im:List (BitVec 8)}:∀ ids:List (BitVec 32),(∀ x∈ids,x.toNat<p.k)→ids.Nodup→cntS (decU p im ids).M=p.p+ids.length:=fun ids=>rev_ind (P:=fun ids=>(∀ x∈ids,x.toNat<p.k)→ids.Nodup→cntS (decU p im ids).M=p.p+ids.length) (fun _ _=>by
  have:=par_cnt p im p.p (Nat.le_refl _)
  show cntS (foldA p.n (datP p im) (rowsU p []))=p.p+0
  rw [rowsU,List.map_nil,List.append_nil]
  exact this)
 (fun l a ih h hd=>by
  rw [List.nodup_append] at hd
  have hn:a ∉ l:=fun hm=>hd.2.2 a hm a (by simp) rfl
  have hl:∀ x∈l,x.toNat<p.k:=fun x hx=>h x (by simp [hx])
  rw [(decU_take (im:=im) hl (h a (by simp)) hn).2.2,ih hl hd.1,List.length_append]
  simp
  omega) ids
theorem piecesL_len {im:List (BitVec 8)} {n z:Nat}:(piecesL im n z).length=n:=by simp [piecesL]
theorem pieA_at {p:Prm} {im:List (BitVec 8)} {i:Nat} (h:i<p.n):((pieA p im)[i]'(by rw [pieA_len];exact h)).length=p.z:=allP_len _ (List.getElem_mem _)
theorem datP_unit {p:Prm} {im:List (BitVec 8)} {id:BitVec 32} (h:id.toNat<p.n):datP p im (unitV p id)=(pieA p im)[id.toNat]'(by rw [pieA_len];exact h) :=
 datD_unit (by rw [pieA_len];exact h) (pieA_at h) (fun k=>unitV_at p id k h)
theorem unit_places {f:Nat→Bool} {n i:Nat} (hi:i<n) (h:∀ k,f k=decide (k=i)):placesN f n=[i]:=by
 have h0:∀ m,m≤i→placesN f m=[]:=fun m=>by
  induction m with
  | zero=>intro _;rfl
  | succ m ih =>
   intro hm
   rw [places_succ,h m,ih (by omega)]
   have : ¬ m=i:=by omega
   simp [this]
 have h1:∀ m,i<m→placesN f m=[i]:=fun m=>by
  induction m with
  | zero=>intro hm;omega
  | succ m ih =>
   intro hm
   rw [places_succ,h m]
   by_cases e:m=i
   ·rw [h0 m (by omega)]
    simp [e]
   ·rw [ih (by omega)]
    simp [e]
 exact h1 n hi
theorem sumB_one (y:List (BitVec 8)):sumB [⟨none,0,y⟩]=y:=by
 rw [sumB_yes (n:=y.length) (by simp) (fun j hj=>by
  have:j=0:=by simp at hj;omega
  subst this;rfl)]
 show accL y.length [⟨none,0,y⟩] 1=y
 rw [accL_succ _ _ 0 (by simp),accL_zero]
 apply List.ext_getElem
 ·simp [xorL]
 intro k h1 h2
 simp [xorL]
theorem symD_unit {p:Prm} {im:List (BitVec 8)} {id:BitVec 32} (h:id.toNat<p.n):symD (pieA p im) (unitV p id)=datP p im (unitV p id):=by
 have e:placesN (at_ (unitV p id)) (unitV p id).length=[id.toNat]:=unit_places (by rw [unitV_len];exact h) (fun k=>unitV_at p id k h)
 rw [datP_unit h,symD,e]
 have hx:(pieA p im).getD id.toNat []=(pieA p im)[id.toNat]'(by rw [pieA_len];exact h):=by
  rw [List.getD_eq_getElem?_getD,List.getElem?_eq_getElem (by rw [pieA_len];exact h)];rfl
 rw [List.map_cons,List.map_nil,hx]
 exact sumB_one _
theorem decU_full {p:Prm} {im:List (BitVec 8)} {ids:List (BitVec 32)} (hids:∀ x∈ids,x.toNat<p.k) (hd:ids.Nodup) (hl:ids.length=p.k) (hc:count im.length p.z=p.k) (hk:1≤p.k):imgB p (decU p im ids) im.length=im:=by
 have hR:=decU_RR p im ids
 have hcnt:cntS (decU p im ids).M=p.n:=by rw [decU_cnt ids hids hd,hl,Nat.add_comm]
 have hML:(decU p im ids).M.length=p.n:=hR.lok.len
 have hD:=foldA_D (datD_lin (pieA p im) p.z p.n) (rowsU p ids) (rowsU_len p ids)
 have hsol:solD (decU p im ids).M=pieA p im:=by
  apply List.ext_getElem
  ·rw [solD,List.length_map,hML,pieA_len]
  intro i h1 h2
  rw [pieA_len] at h2
  obtain ⟨y,hy⟩:=full_some (by rw [hcnt,hML]) i (by rw [hML];exact h2)
  have hu:=full_unit hR hcnt hy
  have hyD:y.2=datP p im y.1:=hD y (List.mem_of_getElem? hy)
  have hg:(decU p im ids).M[i]'(by rw [hML];exact h2)=some y:=(List.getElem?_eq_some_iff.1 hy).2
  simp only [solD,List.getElem_map,hg]
  rw [hyD]
  exact datD_unit (by rw [pieA_len];exact h2) (pieA_at h2) hu
 have hcn:count (im.length:Int) p.z≠0:=by rw [hc];omega
 obtain ⟨c1,c2,c3,c4,c5,c6,c7⟩:=count_pos hcn
 have hge:=count_ge' hc hk
 unfold imgB
 rw [hsol]
 have ht:(pieA p im).take p.k=piecesL im p.k p.z:=List.take_left' piecesL_len
 rw [ht,piecesL,cat_pieces im (p.k*p.z) p.z p.k (Nat.le_refl _),List.take_of_length_le (by rw [full_len];exact Nat.le_refl _),joinL,if_pos ⟨c1,c2,by rw [full_len];exact_mod_cast hge⟩,full_app' hge]
 exact List.take_left' (by simp)
structure Few (f:Fl) (n:Nat):Prop where
 er:f.er.length=14
 bs:f.bs.length=3584
 le:∀ x∈f.er,x≤n
theorem Few.mono {f:Fl} {n m:Nat} (h:Few f n) (hm:n≤m):Few f m:=⟨h.er,h.bs,fun x hx=>Nat.le_trans (h.le x hx) hm⟩
theorem Few.get {f:Fl} {n:Nat} (h:Few f n) (s:Nat):f.er.getD s 0≤n:=by
 rw [List.getD_eq_getElem?_getD]
 cases hs:f.er[s]? with
 | none=>exact Nat.zero_le _
 | some x=>exact h.le x (List.mem_of_getElem? hs)
structure Stay (f f':Fl) (n:Nat):Prop where
 few:Few f' n
 wear:f'.wear=f.wear
 torn:f'.torn=f.torn
 on:f.pw = .on→f'.pw = .on
theorem Stay.refl {f:Fl} {n:Nat} (h:Few f n):Stay f f n:=⟨h,rfl,rfl,id⟩
theorem Stay.trans {f g h:Fl} {n m:Nat} (a:Stay f g n) (b:Stay g h m):Stay f h m:=⟨b.few,b.wear.trans a.wear,b.torn.trans a.torn,fun e=>b.on (a.on e)⟩
theorem Stay.mono {f g:Fl} {n m:Nat} (a:Stay f g n) (hm:n≤m):Stay f g m:=⟨a.few.mono hm,a.wear,a.torn,a.on⟩
theorem on_up {f:Fl} (h:f.pw = .on):f.pw.isDown=false:=by rw [h];rfl
theorem progF_out {f:Fl} {n a:Nat} {xs:List (BitVec 8)} (hf:Few f n) (ha:a+xs.length≤3584) (hd:f.pw.isDown=false) :
  Stay f (progF f a xs).1 n∧(((progF f a xs).2=0∧(progF f a xs).1.pw.isDown=false∧(progF f a xs).1.bs=progB f.bs a xs)∨((progF f a xs).2=11∧(progF f a xs).1.pw = .down none∧∃ j t,j<xs.length∧(progF f a xs).1.bs=progB f.bs a (xs.take j++[xs.getD j 0#8 ||| t]))):=by
 have hb:=hf.bs
 unfold progF
 cases hp:f.pw with
 | down q=>rw [hp] at hd;cases hd
 | on =>
  refine ⟨⟨⟨hf.er,?_,hf.le⟩,rfl,rfl,fun _=>rfl⟩,.inl ⟨rfl,rfl,rfl⟩⟩
  show (progB f.bs a xs).length=3584
  rw [progB_len (by omega),hb]
 | fuse k =>
  dsimp only
  by_cases hk:xs.length≤k
  ·rw [if_pos hk]
   refine ⟨⟨⟨hf.er,?_,hf.le⟩,rfl,rfl,fun e=>(by rw [hp] at e;cases e)⟩,.inl ⟨rfl,rfl,rfl⟩⟩
   show (progB f.bs a xs).length=3584
   rw [progB_len (by omega),hb]
  ·rw [if_neg hk]
   have hl:(xs.take k++[xs.getD k 0#8 ||| tornB f.torn]).length=k+1:=by simp;omega
   refine ⟨⟨⟨hf.er,?_,hf.le⟩,rfl,rfl,fun e=>(by rw [hp] at e;cases e)⟩,.inr ⟨rfl,rfl,k,tornB f.torn,by omega,rfl⟩⟩
   show (progB f.bs a (xs.take k++[xs.getD k 0#8 ||| tornB f.torn])).length=3584
   rw [progB_len (by omega),hb]
theorem eraseF_out {f:Fl} {n s:Nat} (hf:Few f n) (hs:s<14) (hw:n<f.wear) (hd:f.pw.isDown=false) :
  Stay f (eraseF f s).1 (n+1)∧(((eraseF f s).2=0∧(eraseF f s).1.pw.isDown=false∧(eraseF f s).1.bs=fillB f.bs (s*256) 256)∨((eraseF f s).2=11∧(eraseF f s).1.pw = .down none∧∃ m,m≤256∧(eraseF f s).1.bs=fillB f.bs (s*256) m)):=by
 have hb:=hf.bs
 have hg:=hf.get s
 have hler:∀ x∈f.er.set s (f.er.getD s 0+1),x≤n+1:=fun x hx=>by
  rcases List.mem_or_eq_of_mem_set hx with h|h
  ·exact Nat.le_succ_of_le (hf.le x h)
  ·omega
 have hlen:(f.er.set s (f.er.getD s 0+1)).length=14:=by rw [List.length_set,hf.er]
 have hfl:∀ m,m≤256→(fillB f.bs (s*256) m).length=3584:=fun m hm=>by rw [fillB_len (by omega),hb]
 unfold eraseF
 cases hp:f.pw with
 | down q=>rw [hp] at hd;cases hd
 | on =>
  dsimp only
  rw [if_neg (by omega)]
  refine ⟨⟨⟨hlen,hfl 256 (by omega),hler⟩,rfl,rfl,fun _=>rfl⟩,.inl ⟨rfl,rfl,rfl⟩⟩
 | fuse k =>
  dsimp only
  rw [if_neg (by omega)]
  cases k with
  | zero =>
   have hm:f.torn.toNat % 257≤256:=by omega
   exact ⟨⟨⟨hlen,hfl _ hm,hler⟩,rfl,rfl,fun e=>(by rw [hp] at e;cases e)⟩,.inr ⟨rfl,rfl,_,hm,rfl⟩⟩
  | succ k=>exact ⟨⟨⟨hlen,hfl 256 (by omega),hler⟩,rfl,rfl,fun e=>(by rw [hp] at e;cases e)⟩,.inl ⟨rfl,rfl,rfl⟩⟩
theorem clr1_out {f:Fl} {n s:Nat} (hf:Few f n) (hs:s<14) (hw:n<f.wear) (hd:f.pw.isDown=false) :
  Stay f (clr1 f s).1 (n+1)∧(∀ a m,a+m≤s*256∨s*256+256≤a→seg (clr1 f s).1.bs a m=seg f.bs a m)∧(((clr1 f s).2=0∧(clr1 f s).1.pw.isDown=false∧Blank (clr1 f s).1.bs (s*256) 256)∨((clr1 f s).2=11∧(clr1 f s).1.pw = .down none)):=by
 have hb:=hf.bs
 unfold clr1
 by_cases h:blankB (seg f.bs (s*256) 256)=true
 ·rw [if_pos h]
  exact ⟨(Stay.refl hf).mono (by omega),fun _ _ _=>rfl,.inl ⟨rfl,hd,(blankB_iff (l:=f.bs) (by omega)).1 h⟩⟩
 ·rw [if_neg h]
  obtain ⟨st,ho⟩:=eraseF_out hf hs hw hd
  rcases ho with ⟨e0,e1,e2⟩|⟨e0,e1,m,hm,e2⟩
  ·refine ⟨st,fun a m hh=>?_,.inl ⟨e0,e1,?_⟩⟩
   ·rw [e2,seg_fill_out (by omega) hh]
   ·show seg _ _ _=_
    rw [e2,seg_fill_in (by omega) (Nat.le_refl _) (Nat.le_refl _)]
  ·refine ⟨st,fun a m2 hh=>?_,.inr ⟨e0,e1⟩⟩
   rw [e2,seg_fill_out (by omega) (by omega)]
theorem Blank.keep {l l':List (BitVec 8)} {a n:Nat} (h:Blank l a n) (e:seg l' a n=seg l a n):Blank l' a n:=e.trans h
theorem Blank.join {l:List (BitVec 8)} {a n m:Nat} (h:Blank l a n) (k:Blank l (a+n) m):Blank l a (n+m):=by
 show seg _ _ _=_
 rw [seg_append,h,k,List.replicate_append_replicate]
theorem slotW_out {f:Fl} {n s:Nat} {x:List (BitVec 8)} (hf:Few f n) (hs:s<2) (hx:x.length≤512) (hw:n+1<f.wear) (hd:f.pw.isDown=false) :
  Stay f (slotW f s x).1 (n+2)∧(∀ a m,a+m≤slotA s∨slotA s+512≤a→seg (slotW f s x).1.bs a m=seg f.bs a m)∧(((slotW f s x).2=0∧(slotW f s x).1.pw.isDown=false∧seg (slotW f s x).1.bs (slotA s) x.length=x)∨((slotW f s x).2=11∧(slotW f s x).1.pw = .down none)):=by
 have hA:slotA s=(2+s*2)*256:=rfl
 obtain ⟨s1,o1,c1⟩:=clr1_out (s:=2+s*2) hf (by omega) (by omega) hd
 have e:slotW f s x=if (clr1 f (2+s*2)).2≠0 then clr1 f (2+s*2) else if (clr1 (clr1 f (2+s*2)).1 (2+s*2+1)).2≠0 then clr1 (clr1 f (2+s*2)).1 (2+s*2+1) else if (progF (clr1 (clr1 f (2+s*2)).1 (2+s*2+1)).1 (slotA s) x).2≠0 then progF (clr1 (clr1 f (2+s*2)).1 (2+s*2+1)).1 (slotA s) x else ((progF (clr1 (clr1 f (2+s*2)).1 (2+s*2+1)).1 (slotA s) x).1,if seg (progF (clr1 (clr1 f (2+s*2)).1 (2+s*2+1)).1 (slotA s) x).1.bs (slotA s) x.length=x then 0 else 13):=by
  unfold slotW
  cases hp:f.pw with
  | down q=>rw [hp] at hd;cases hd
  | on=>rfl
  | fuse k=>rfl
 rw [e]
 obtain ⟨⟨f1,v1⟩,hr1⟩:∃ r,clr1 f (2+s*2)=r:=⟨_,rfl⟩
 rw [hr1] at s1 o1 c1 ⊢
 dsimp only at s1 o1 c1 ⊢
 rcases c1 with ⟨q1,d1,b1⟩|⟨q1,d1⟩
 ·subst q1
  rw [if_neg (by simp)]
  obtain ⟨s2,o2,c2⟩:=clr1_out (s:=2+s*2+1) s1.few (by omega) (by rw [s1.wear];omega) d1
  obtain ⟨⟨f2,v2⟩,hr2⟩:∃ r,clr1 f1 (2+s*2+1)=r:=⟨_,rfl⟩
  rw [hr2] at s2 o2 c2 ⊢
  dsimp only at s2 o2 c2 ⊢
  have o12:∀ a m,a+m≤slotA s∨slotA s+512≤a→seg f2.bs a m=seg f.bs a m:=fun a m hh=>by rw [o2 a m (by omega),o1 a m (by omega)]
  rcases c2 with ⟨q2,d2,b2⟩|⟨q2,d2⟩
  ·subst q2
   rw [if_neg (by simp)]
   have hbl:Blank f2.bs (slotA s) 512:=by
    have k1:Blank f2.bs ((2+s*2)*256) 256:=b1.keep (o2 _ _ (by omega))
    rw [hA,show 512=256+256 from rfl]
    exact k1.join (by rw [show (2+s*2)*256+256=(2+s*2+1)*256 by omega];exact b2)
   have hb2:=s2.few.bs
   obtain ⟨s3,c3⟩:=progF_out (a:=slotA s) (xs:=x) s2.few (by omega) d2
   obtain ⟨⟨f3,v3⟩,hr3⟩:∃ r,progF f2 (slotA s) x=r:=⟨_,rfl⟩
   rw [hr3] at s3 c3 ⊢
   dsimp only at s3 c3 ⊢
   rcases c3 with ⟨q3,d3,b3⟩|⟨q3,d3,j,t,hj,b3⟩
   ·subst q3
    rw [if_neg (by simp)]
    have hin:seg f3.bs (slotA s) x.length=x:=by rw [b3,seg_prog_blank (by omega) (hbl.sub (Nat.le_refl _) (by omega))]
    refine ⟨(s1.trans s2).trans s3,fun a m hh=>?_,.inl ⟨if_pos hin,d3,hin⟩⟩
    dsimp only
    rw [b3,seg_prog_out (by omega) (by omega),o12 a m hh]
   ·subst q3
    rw [if_pos (by decide)]
    refine ⟨(s1.trans s2).trans s3,fun a m hh=>?_,.inr ⟨rfl,d3⟩⟩
    dsimp only
    have hl:(x.take j++[x.getD j 0#8 ||| t]).length=j+1:=by simp;omega
    rw [b3,seg_prog_out (by omega) (by omega),o12 a m hh]
  ·subst q2
   rw [if_pos (by decide)]
   exact ⟨s1.trans s2,o12,.inr ⟨rfl,d2⟩⟩
 ·subst q1
  rw [if_pos (by decide)]
  exact ⟨s1.mono (by omega),fun a m hh=>o1 a m (by omega),.inr ⟨rfl,d1⟩⟩
theorem crcMul (c:BitVec 32):0xedb88320#32*(c &&& 1#32)=if c.getLsbD 0=true then 0xedb88320#32 else 0#32:=by
 have e:c &&& 1#32=if c.getLsbD 0=true then 1#32 else 0#32:=by
  apply BitVec.eq_of_getLsbD_eq
  intro i hi
  cases h:c.getLsbD 0 <;> rcases Nat.eq_zero_or_pos i with rfl|hp <;> simp_all [BitVec.getLsbD_and,BitVec.getLsbD_one] <;> omega
 rw [e]
 split <;> simp
theorem crcBit_xor (a b:BitVec 32):crcBit (a ^^^ b)=crcBit a ^^^ crcBit b:=by
 unfold crcBit
 rw [crcMul,crcMul,crcMul,BitVec.ushiftRight_xor_distrib,BitVec.getLsbD_xor]
 have t:∀ (x y k:BitVec 32),x ^^^ y=x ^^^ k ^^^ (y ^^^ k):=fun x y k=>by
  rw [BitVec.xor_comm y k,←BitVec.xor_assoc,BitVec.xor_assoc x k k,BitVec.xor_self,BitVec.xor_zero]
 cases a.getLsbD 0 <;> cases b.getLsbD 0 <;> simp
 ·ac_rfl
 ·ac_rfl
 ·exact t _ _ _
theorem crcBits_xor (n:Nat) (a b:BitVec 32):crcBits n (a ^^^ b)=crcBits n a ^^^ crcBits n b:=by
 induction n with
 | zero=>rfl
 | succ n ih=>simp only [crcBits,ih,crcBit_xor]
theorem crcBit_inj0 {a:BitVec 32} (h:crcBit a=0#32):a=0#32:=by
 unfold crcBit at h
 rw [crcMul] at h
 have h0:a.getLsbD 0=false:=by
  have:=congrArg (fun z=>z.getLsbD 31) h
  cases h0:a.getLsbD 0
  ·rfl
  ·simp [BitVec.getLsbD_ushiftRight,h0] at this
 rw [h0] at h
 simp at h
 apply BitVec.eq_of_getLsbD_eq
 intro i hi
 cases i with
 | zero=>simpa using h0
 | succ i =>
  have:=congrArg (fun z=>z.getLsbD i) h
  simpa [BitVec.getLsbD_ushiftRight,Nat.add_comm] using this
theorem crcBits_inj0 (n:Nat) {a:BitVec 32} (h:crcBits n a=0#32):a=0#32:=by
 induction n with
 | zero=>exact h
 | succ n ih=>exact ih (crcBit_inj0 h)
theorem crcBits_inj {n:Nat} {a b:BitVec 32} (h:crcBits n a=crcBits n b):a=b:=by
 have:crcBits n (a ^^^ b)=0#32:=by rw [crcBits_xor,h,BitVec.xor_self]
 exact BitVec.xor_eq_zero_iff.1 (crcBits_inj0 n this)
theorem crcBit_up {y:BitVec 32} {k:Nat} (h:y.toNat*2 ^ (k+1)<4294967296):crcBit (y <<< (k+1))=y <<< k:=by
 unfold crcBit
 rw [crcMul]
 have h0:(y <<< (k+1)).getLsbD 0=false:=by simp
 rw [h0]
 apply BitVec.eq_of_toNat_eq
 have e:y.toNat*2 ^ (k+1)=y.toNat*2 ^ k*2:=by rw [Nat.pow_succ,Nat.mul_assoc]
 have e2:y.toNat*2 ^ k<4294967296:=by omega
 simp only [Bool.false_eq_true,if_false,BitVec.xor_zero,BitVec.toNat_ushiftRight,BitVec.toNat_shiftLeft,Nat.shiftLeft_eq,Nat.shiftRight_eq_div_pow]
 rw [Nat.mod_eq_of_lt h,Nat.mod_eq_of_lt e2,e]
 omega
theorem crcBits_up {y:BitVec 32} (h:y.toNat<16777216):crcBits 8 (y <<< 8)=y:=by
 have b:∀ k,k≤7→crcBit (y <<< (k+1))=y <<< k:=fun k hk=>crcBit_up (by
  have:2 ^ (k+1)≤2 ^ 8:=Nat.pow_le_pow_right (by decide) (by omega)
  calc y.toNat*2 ^ (k+1)≤y.toNat*2 ^ 8:=Nat.mul_le_mul_left _ this
   _<_:=by omega)
 simp only [crcBits]
 rw [b 7 (by omega),b 6 (by omega),b 5 (by omega),b 4 (by omega),b 3 (by omega),b 2 (by omega),b 1 (by omega),b 0 (by omega)]
 simp
theorem crcAll_inj {c d:BitVec 32}:∀ {l:List (BitVec 8)},crcAll c l=crcAll d l→c=d
 | [],h=>h
 | x::l,h=>by
  have h2:crcByte c x=crcByte d x:=crcAll_inj (l:=l) h
  have h3:=crcBits_inj h2
  have:(c ^^^ x.setWidth 32) ^^^ x.setWidth 32=(d ^^^ x.setWidth 32) ^^^ x.setWidth 32:=by rw [h3]
  simpa [BitVec.xor_assoc] using this
theorem crcByte_dif (c d:BitVec 32) (x y:BitVec 8):crcByte c x ^^^ crcByte d y=crcByte (c ^^^ d) (x ^^^ y):=by
 unfold crcByte
 rw [←crcBits_xor]
 congr 1
 rw [show (x ^^^ y).setWidth 32=x.setWidth 32 ^^^ y.setWidth 32 by simp]
 ac_rfl
theorem crc_step {e:BitVec 32} {x:BitVec 8} {y:BitVec 32} (hy:y.toNat<16777216) (h:crcByte e x=y):e=x.setWidth 32 ^^^ y <<< 8:=by
 have h2:=crcBits_inj (h.trans (crcBits_up hy).symm)
 rw [←h2,BitVec.xor_comm e,←BitVec.xor_assoc,BitVec.xor_self,BitVec.zero_xor]
theorem sw_lt (x:BitVec 8) (y:BitVec 32) (k:Nat) (hy:y.toNat*256<2 ^ k) (h8:8≤k) (hk:k≤32):(x.setWidth 32 ^^^ y <<< 8).toNat<2 ^ k:=by
 rw [BitVec.toNat_xor]
 refine Nat.xor_lt_two_pow ?_ ?_
 ·have:=x.isLt
  rw [BitVec.toNat_setWidth]
  have:2 ^ 8≤2 ^ k:=Nat.pow_le_pow_right (by decide) h8
  omega
 ·have:2 ^ k≤2 ^ 32:=Nat.pow_le_pow_right (by decide) hk
  rw [BitVec.toNat_shiftLeft,Nat.shiftLeft_eq]
  omega
theorem crc_four {a b c d:BitVec 8} (h:crcByte (crcByte (crcByte (crcByte 0#32 a) b) c) d=0#32):a=0#8∧b=0#8∧c=0#8∧d=0#8:=by
 have h4:=crc_step (y:=0#32) (by decide) h
 rw [show (0#32 <<< 8:BitVec 32)=0#32 by decide,BitVec.xor_zero] at h4
 have b4:(d.setWidth 32).toNat<2 ^ 8:=by have:=d.isLt;rw [BitVec.toNat_setWidth];omega
 have h3:=crc_step (by omega) h4
 have b3:=sw_lt c (d.setWidth 32) 16 (by omega) (by omega) (by omega)
 have h2:=crc_step (by omega) h3
 have b2:=sw_lt b _ 24 (show (c.setWidth 32 ^^^ d.setWidth 32 <<< 8).toNat*256<2 ^ 24 by omega) (by omega) (by omega)
 have h1:=crc_step (by omega) h2
 have bit:∀ i,i<32→(0#32).getLsbD i=(a.setWidth 32 ^^^ (b.setWidth 32 ^^^ (c.setWidth 32 ^^^ d.setWidth 32 <<< 8) <<< 8) <<< 8:BitVec 32).getLsbD i:=fun i _=>by rw [←h1]
 have z:∀ (x:BitVec 8) (j:Nat),8≤j→x.getLsbD j=false:=fun x j hj=>BitVec.getLsbD_of_ge x j hj
 have key:∀ (x:BitVec 8),(∀ i,i<8→x.getLsbD i=false)→x=0#8:=fun x hx=>BitVec.eq_of_getLsbD_eq (fun i hi=>by rw [hx i hi];simp)
 refine ⟨key a fun i hi=>?_,key b fun i hi=>?_,key c fun i hi=>?_,key d fun i hi=>?_⟩
 ·have:=bit i (by omega)
  simpa [BitVec.getLsbD_xor,BitVec.getLsbD_shiftLeft,hi,show i<32 by omega] using this.symm
 ·have:=bit (i+8) (by omega)
  simpa [BitVec.getLsbD_xor,BitVec.getLsbD_shiftLeft,hi,show i+8<32 by omega,show i<32 by omega,z a (i+8) (by omega)] using this.symm
 ·have:=bit (i+16) (by omega)
  simpa [BitVec.getLsbD_xor,BitVec.getLsbD_shiftLeft,hi,show i+16<32 by omega,show i+8<32 by omega,show i<32 by omega,show ¬ i+16<8 by omega,show i+16 - 8=i+8 by omega,z a (i+16) (by omega),z b (i+8) (by omega)] using this.symm
 ·have:=bit (i+24) (by omega)
  simpa [BitVec.getLsbD_xor,BitVec.getLsbD_shiftLeft,hi,show i+24<32 by omega,show i+16<32 by omega,show i+8<32 by omega,show i<32 by omega,show ¬ i+24<8 by omega,show i+24 - 8=i+16 by omega,show ¬ i+16<8 by omega,show i+16 - 8=i+8 by omega,z a (i+24) (by omega),z b (i+16) (by omega),z c (i+8) (by omega)] using this.symm
theorem crc_tells {s:BitVec 32} {l l' r:List (BitVec 8)} (h4:l.length=4) (h4':l'.length=4) (h:crcAll s (l++r)=crcAll s (l'++r)):l=l':=by
 have h1:crcAll (crcAll s l) r=crcAll (crcAll s l') r:=by simpa [crcAll] using h
 have h2:=crcAll_inj h1
 match l,l',h4,h4' with
 | [a,b,c,d],[a',b',c',d'],_,_ =>
  have h3:crcByte (crcByte (crcByte (crcByte s a) b) c) d ^^^ crcByte (crcByte (crcByte (crcByte s a') b') c') d'=0#32:=by
   have h2:crcByte (crcByte (crcByte (crcByte s a) b) c) d=crcByte (crcByte (crcByte (crcByte s a') b') c') d':=h2
   rw [h2,BitVec.xor_self]
  rw [crcByte_dif,crcByte_dif,crcByte_dif,crcByte_dif,BitVec.xor_self] at h3
  obtain ⟨e1,e2,e3,e4⟩:=crc_four h3
  rw [BitVec.xor_eq_zero_iff] at e1 e2 e3 e4
  rw [e1,e2,e3,e4]
open Go.RowKit Go.Proofs
def cellR (f:Fl) (k:BitVec 32) (to:Nat) (q:List (BitVec 8)):Fl × Int :=
 if k=4294967295#32 then (f,9) else
 if (eraseF f to).2≠0 then eraseF f to else
 if (progF (eraseF f to).1 (to*256) (copyB (k+1#32) q)).2≠0 then progF (eraseF f to).1 (to*256) (copyB (k+1#32) q) else
 progF (progF (eraseF f to).1 (to*256) (copyB (k+1#32) q)).1 (to*256+(copyB (k+1#32) q).length) [0#8]
theorem cellW_none {f:Fl} {q:List (BitVec 8)} (hq:q.length≤245) (hd:f.pw.isDown=false) (hf:foundC f.bs=none):cellW f q=cellR f 0#32 0 q:=by
 unfold cellW
 rw [if_neg (by omega)]
 cases hp:f.pw with
 | down z=>rw [hp] at hd;cases hd
 | on=>simp only [hf];rfl
 | fuse n=>simp only [hf];rfl
theorem cellW_some {f:Fl} {q r:List (BitVec 8)} {k:BitVec 32} {w:Nat} (hq:q.length≤245) (hd:f.pw.isDown=false) (hf:foundC f.bs=some ((k,r),w)):cellW f q=cellR f k (if w=0 then 1 else 0) q:=by
 have e:(if (some w:Option Nat)=some 0 then (1:Nat) else 0)=if w=0 then 1 else 0:=by
  by_cases h:w=0
  ·rw [if_pos h,if_pos (by rw [h])]
  ·rw [if_neg h,if_neg (fun h2=>h (Option.some.inj h2))]
 unfold cellW
 rw [if_neg (by omega)]
 cases hp:f.pw with
 | down z=>rw [hp] at hd;cases hd
 | on=>simp only [hf,Option.map_some,Option.getD_some,e];rfl
 | fuse n=>simp only [hf,Option.map_some,Option.getD_some,e];rfl
theorem copyB_len (k:BitVec 32) (q:List (BitVec 8)):(copyB k q).length=q.length+10:=by simp [copyB,crcPut_len,be4,be2]
theorem foundC_no {l:List (BitVec 8)} (h:foundC l=none):copyAt l 0=none∧copyAt l 1=none:=by
 unfold foundC at h
 cases h0:copyAt l 0 <;> cases h1:copyAt l 1 <;> rw [h0,h1] at h
 ·exact ⟨rfl,rfl⟩
 ·cases h
 ·cases h
 ·dsimp only at h
  split at h <;> cases h
set_option maxHeartbeats 8000000 in
theorem cl_Write_none (H:List Hl) (b:Nat) (ad:Option Addr) (c:Nat) (f:Fl) (h:Hid) (ad2:Option Addr) (c2:Nat) (q:List (BitVec 8)) (hk:FlOk f h) (hq:Rs (stars H) B ad2 c2 q) (hn:q.length≤245) (hd:f.pw.isDown=false) (h0:copyAt f.bs 0=none) (h1:copyAt f.bs 1=none) :
  Spec Tryz.prog 68 [.pointer (some ⟨b,0,none⟩),.slice ad2 q.length c2] (fB b ad c f h::fR ad c f::H) (fun h':Hid=>FlOk (cellR f 0#32 0 q).1 h') (fun _=>I (cellR f 0#32 0 q).2) (fun h'=>fB b ad c (cellR f 0#32 0 q).1 h'::fR ad c (cellR f 0#32 0 q).1::H):=by
 refine spec_fn (res:=fun h':Hid=>[fB b ad c (cellR f 0#32 0 q).1 h',fR ad c (cellR f 0#32 0 q).1]) [fB b ad c f h,fR ad c f] H Tryz.func68 rfl Tryz.ntmps68 (by kernel_rfl) rfl (fun W=>?_)
 dsimp only [List.cons_append,List.nil_append]
 have hbs:=hk.bs
 have b1:=hq.le
 have b2:=hq.big
 obtain ⟨k1,hk1⟩:∃ k1,0#32+1#32=k1:=⟨_,rfl⟩
 obtain ⟨h6,hh6⟩:∃ h6,[(k1 >>> 24).setWidth 8,(k1 >>> 16).setWidth 8,(k1 >>> 8).setWidth 8,k1.setWidth 8,BitVec.ofInt 8 ((q.length:Int) / 256),BitVec.ofInt 8 (q.length:Int)]=h6:=⟨_,rfl⟩
 have h6l:h6.length=6:=by rw [←hh6];rfl
 obtain ⟨Z,hZ⟩:∃ Z,h6++q=Z:=⟨_,rfl⟩
 have hZl:Z.length=6+q.length:=by rw [←hZ,List.length_append,h6l]
 obtain ⟨Q,hQ⟩:∃ Q,crcPut Z=Q:=⟨_,rfl⟩
 have hQl:Q.length=Z.length+4:=by rw [←hQ,crcPut_len]
 have hQc:copyB (0#32+1#32) q=Q:=by
  rw [←hQ,←hZ,←hh6,hk1]
  rfl
 have hQa:((0*256:Nat):Int)+(Q.length:Int)=((0*256+Q.length:Nat):Int):=by omega
 obtain ⟨⟨f1,e1⟩,hr1⟩:∃ r,eraseF f 0=r:=⟨_,rfl⟩
 obtain ⟨⟨f2,e2⟩,hr2⟩:∃ r,progF f1 (0*256) Q=r:=⟨_,rfl⟩
 obtain ⟨⟨f3,e3⟩,hr3⟩:∃ r,progF f2 (0*256+Q.length) [0#8]=r:=⟨_,rfl⟩
 repeat' (first|intro _|refine cw ?_|refine cw2 ?_ ?_|refine o1_peql rfl rfl ?_|(refine k_fn 91 ?_;(refine o1_call (fun hh=>cl_ready _ b ad c f (RdFl.own hk hh)) rfl (fun _ _=>?_);rw [hd,if_neg (by decide)]))|(refine k_fn 92 ?_;refine o1_call (fun hh=>cl_found_none _ b ad c f (RdFl.own hk hh) hd h0 h1) rfl (fun _ _=>?_))|(refine k_binOp .add ?_;first|(refine o1_add rfl rfl (by omega) ?_;(try rw [hQa]))|(refine o1_uadd (v:=1#32) rfl rfl ?_;rw [hk1]))|(refine k_fn 110 ?_;(refine o1_call_fl b ad c (fun _=>fl_Erase _ b ad c f h 0 hk (by decide)) rfl (fun h1 hk2=>?_);(rw [hr1] at hk2 ⊢;dsimp only at hk2 ⊢)))|(refine k_binOp .shr ?_;refine o1_ishr8 rfl rfl ?_)|(refine k_buildSlice ?_;first|refine o1_lit_enc (T:=22) B h6 rfl rfl (by rw [←hh6];rfl) (fun _=>rfl) rfl rfl rfl (fun b63=>?_)|refine o1_lit_enc (T:=22) B [0#8] rfl rfl rfl (fun _=>rfl) rfl rfl rfl (fun b81=>?_))|(refine k_call ?_;(refine ox_append_box (xs:=h6) (ys:=q) (b:=b63) rfl rfl h6l.symm h6l.symm (rx_any hq) rfl rfl (fun _=>rfl) (by omega) (by omega) (fun a65 c65=>?_);rw [hZ]))|(refine k_fn 83 ?_;(refine o1_call (fun hh=>crc_Put _ a65 (6+q.length) c65 Z (rx_row hh) hZl.symm (by omega)) rfl (fun ⟨a66,c66⟩ _=>?_);(try dsimp only);rw [hQ,←hQl]))|(refine k_fn 114 ?_;refine o1_call (fun _=>cl_at _ 0 (by decide)) rfl (fun _ _=>?_))|(refine k_fn 44 ?_;first|(refine o1_call_fl b ad c (fun hh=>fl_Program _ b ad c f2 h2 (0*256+Q.length) (some ⟨b81,0,none⟩) 1 1 [0#8] hk3 (rx_box rfl (by decide) (has_tail (has_tail hh))) rfl (by omega)) rfl (fun h3 hk4=>?_);(rw [hr3] at hk4 ⊢;dsimp only at hk4 ⊢))|(refine o1_call_fl b ad c (fun hh=>fl_Program _ b ad c f1 h1 (0*256) a66 Q.length c66 Q hk2 (rx_row (has_tail (has_tail hh))) rfl (by omega)) rfl (fun h2 hk3=>?_);(rw [hr2] at hk3 ⊢;dsimp only at hk3 ⊢)))|refine ow ?_|refine ow2 ?_ ?_|fail)
 ·rename_i hc
  have hkm:0#32=4294967295#32:=BitVec.eq_of_toNat_eq (by rw [show (4294967295#32).toNat=4294967295 from rfl];omega)
  have hR:cellR f 0#32 0 q=(f,9):=if_pos hkm
  rw [hR]
  refine rt_tmp h rfl rfl rfl hk ?_
  exact ent
 ·rename_i hc he
  have hkm : ¬ 0#32=4294967295#32:=fun h=>hc (by rw [h];rfl)
  have hR:cellR f 0#32 0 q=(f1,e1):=by
   rw [cellR,if_neg hkm,hr1,if_pos he]
  rw [hR]
  refine rt_tmp h1 rfl rfl rfl hk2 ?_
  exact ent
 ·rename_i hc he _ _ _ _ he2
  have hkm : ¬ 0#32=4294967295#32:=fun h=>hc (by rw [h];rfl)
  have hR:cellR f 0#32 0 q=(f2,e2):=by
   rw [cellR,if_neg hkm,hQc,hr1,if_neg (fun h=>h he)]
   dsimp only
   rw [hr2,if_pos he2]
  rw [hR]
  refine rt_tmp h2 rfl rfl rfl hk3 ?_
  exact ent
 ·rename_i hc he _ _ _ _ he2 _ _
  have hkm : ¬ 0#32=4294967295#32:=fun h=>hc (by rw [h];rfl)
  have hR:cellR f 0#32 0 q=(f3,e3):=by
   rw [cellR,if_neg hkm,hQc,hr1,if_neg (fun h=>h he)]
   dsimp only
   rw [hr2,if_neg (fun h=>h he2)]
   dsimp only
   rw [hr3]
  rw [hR]
  refine rt_tmp h3 rfl rfl rfl hk4 ?_
  exact ent
set_option maxHeartbeats 8000000 in
theorem cl_Write_0 (H:List Hl) (b:Nat) (ad:Option Addr) (c:Nat) (f:Fl) (h:Hid) (ad2:Option Addr) (c2:Nat) (q:List (BitVec 8)) (k:BitVec 32) (r:List (BitVec 8)) (hk:FlOk f h) (hq:Rs (stars H) B ad2 c2 q) (hn:q.length≤245) (hd:f.pw.isDown=false) (hf:foundC f.bs=some ((k,r),0)) :
  Spec Tryz.prog 68 [.pointer (some ⟨b,0,none⟩),.slice ad2 q.length c2] (fB b ad c f h::fR ad c f::H) (fun h':Hid=>FlOk (cellR f k 1 q).1 h') (fun _=>I (cellR f k 1 q).2) (fun h'=>fB b ad c (cellR f k 1 q).1 h'::fR ad c (cellR f k 1 q).1::H):=by
 refine spec_fn (res:=fun h':Hid=>[fB b ad c (cellR f k 1 q).1 h',fR ad c (cellR f k 1 q).1]) [fB b ad c f h,fR ad c f] H Tryz.func68 rfl Tryz.ntmps68 (by kernel_rfl) rfl (fun W=>?_)
 dsimp only [List.cons_append,List.nil_append]
 have hbs:=hk.bs
 have b1:=hq.le
 have b2:=hq.big
 obtain ⟨k1,hk1⟩:∃ k1,k+1#32=k1:=⟨_,rfl⟩
 obtain ⟨h6,hh6⟩:∃ h6,[(k1 >>> 24).setWidth 8,(k1 >>> 16).setWidth 8,(k1 >>> 8).setWidth 8,k1.setWidth 8,BitVec.ofInt 8 ((q.length:Int) / 256),BitVec.ofInt 8 (q.length:Int)]=h6:=⟨_,rfl⟩
 have h6l:h6.length=6:=by rw [←hh6];rfl
 obtain ⟨Z,hZ⟩:∃ Z,h6++q=Z:=⟨_,rfl⟩
 have hZl:Z.length=6+q.length:=by rw [←hZ,List.length_append,h6l]
 obtain ⟨Q,hQ⟩:∃ Q,crcPut Z=Q:=⟨_,rfl⟩
 have hQl:Q.length=Z.length+4:=by rw [←hQ,crcPut_len]
 have hQc:copyB (k+1#32) q=Q:=by
  rw [←hQ,←hZ,←hh6,hk1]
  rfl
 have hQa:((1*256:Nat):Int)+(Q.length:Int)=((1*256+Q.length:Nat):Int):=by omega
 obtain ⟨⟨f1,e1⟩,hr1⟩:∃ r,eraseF f 1=r:=⟨_,rfl⟩
 obtain ⟨⟨f2,e2⟩,hr2⟩:∃ r,progF f1 (1*256) Q=r:=⟨_,rfl⟩
 obtain ⟨⟨f3,e3⟩,hr3⟩:∃ r,progF f2 (1*256+Q.length) [0#8]=r:=⟨_,rfl⟩
 repeat' (first|intro _|refine cw ?_|refine cw2 ?_ ?_|refine o1_peql rfl rfl ?_|(refine k_fn 91 ?_;(refine o1_call (fun hh=>cl_ready _ b ad c f (RdFl.own hk hh)) rfl (fun _ _=>?_);rw [hd,if_neg (by decide)]))|(refine k_fn 92 ?_;(refine o1_call (fun hh=>cl_found _ b ad c f k r _ 0 (RdFl.own hk hh) hd hf rfl) rfl (fun ⟨a27,c27⟩ _=>?_);(try dsimp only)))|(refine k_binOp .add ?_;first|(refine o1_add rfl rfl (by omega) ?_;(try rw [hQa]))|(refine o1_uadd (v:=1#32) rfl rfl ?_;rw [hk1]))|(refine k_fn 110 ?_;(refine o1_call_fl b ad c (fun _=>fl_Erase _ b ad c f h 1 hk (by decide)) rfl (fun h1 hk2=>?_);(rw [hr1] at hk2 ⊢;dsimp only at hk2 ⊢)))|(refine k_binOp .shr ?_;refine o1_ishr8 rfl rfl ?_)|(refine k_buildSlice ?_;first|refine o1_lit_enc (T:=22) B h6 rfl rfl (by rw [←hh6];rfl) (fun _=>rfl) rfl rfl rfl (fun b63=>?_)|refine o1_lit_enc (T:=22) B [0#8] rfl rfl rfl (fun _=>rfl) rfl rfl rfl (fun b81=>?_))|(refine k_call ?_;(refine ox_append_box (xs:=h6) (ys:=q) (b:=b63) rfl rfl h6l.symm h6l.symm (rx_any hq) rfl rfl (fun _=>rfl) (by omega) (by omega) (fun a65 c65=>?_);rw [hZ]))|(refine k_fn 83 ?_;(refine o1_call (fun hh=>crc_Put _ a65 (6+q.length) c65 Z (rx_row hh) hZl.symm (by omega)) rfl (fun ⟨a66,c66⟩ _=>?_);(try dsimp only);rw [hQ,←hQl]))|(refine k_fn 114 ?_;refine o1_call (fun _=>cl_at _ 1 (by decide)) rfl (fun _ _=>?_))|(refine k_fn 44 ?_;first|(refine o1_call_fl b ad c (fun hh=>fl_Program _ b ad c f2 h2 (1*256+Q.length) (some ⟨b81,0,none⟩) 1 1 [0#8] hk3 (rx_box rfl (by decide) (has_tail (has_tail hh))) rfl (by omega)) rfl (fun h3 hk4=>?_);(rw [hr3] at hk4 ⊢;dsimp only at hk4 ⊢))|(refine o1_call_fl b ad c (fun hh=>fl_Program _ b ad c f1 h1 (1*256) a66 Q.length c66 Q hk2 (rx_row (has_tail (has_tail hh))) rfl (by omega)) rfl (fun h2 hk3=>?_);(rw [hr2] at hk3 ⊢;dsimp only at hk3 ⊢)))|refine ow ?_|refine ow2 ?_ ?_|fail)
 ·rename_i hc
  have hkm:k=4294967295#32:=BitVec.eq_of_toNat_eq (by rw [show (4294967295#32).toNat=4294967295 from rfl];omega)
  have hR:cellR f k 1 q=(f,9):=if_pos hkm
  rw [hR]
  refine rt_tmp h rfl rfl rfl hk ?_
  exact ent
 ·rename_i hc he
  have hkm : ¬ k=4294967295#32:=fun h=>hc (by rw [h];rfl)
  have hR:cellR f k 1 q=(f1,e1):=by
   rw [cellR,if_neg hkm,hr1,if_pos he]
  rw [hR]
  refine rt_tmp h1 rfl rfl rfl hk2 ?_
  exact ent
 ·rename_i hc he _ _ _ _ he2
  have hkm : ¬ k=4294967295#32:=fun h=>hc (by rw [h];rfl)
  have hR:cellR f k 1 q=(f2,e2):=by
   rw [cellR,if_neg hkm,hQc,hr1,if_neg (fun h=>h he)]
   dsimp only
   rw [hr2,if_pos he2]
  rw [hR]
  refine rt_tmp h2 rfl rfl rfl hk3 ?_
  exact ent
 ·rename_i hc he _ _ _ _ he2 _ _
  have hkm : ¬ k=4294967295#32:=fun h=>hc (by rw [h];rfl)
  have hR:cellR f k 1 q=(f3,e3):=by
   rw [cellR,if_neg hkm,hQc,hr1,if_neg (fun h=>h he)]
   dsimp only
   rw [hr2,if_neg (fun h=>h he2)]
   dsimp only
   rw [hr3]
  rw [hR]
  refine rt_tmp h3 rfl rfl rfl hk4 ?_
  exact ent
set_option maxHeartbeats 8000000 in
theorem cl_Write_1 (H:List Hl) (b:Nat) (ad:Option Addr) (c:Nat) (f:Fl) (h:Hid) (ad2:Option Addr) (c2:Nat) (q:List (BitVec 8)) (k:BitVec 32) (r:List (BitVec 8)) (hk:FlOk f h) (hq:Rs (stars H) B ad2 c2 q) (hn:q.length≤245) (hd:f.pw.isDown=false) (hf:foundC f.bs=some ((k,r),1)) :
  Spec Tryz.prog 68 [.pointer (some ⟨b,0,none⟩),.slice ad2 q.length c2] (fB b ad c f h::fR ad c f::H) (fun h':Hid=>FlOk (cellR f k 0 q).1 h') (fun _=>I (cellR f k 0 q).2) (fun h'=>fB b ad c (cellR f k 0 q).1 h'::fR ad c (cellR f k 0 q).1::H):=by
 refine spec_fn (res:=fun h':Hid=>[fB b ad c (cellR f k 0 q).1 h',fR ad c (cellR f k 0 q).1]) [fB b ad c f h,fR ad c f] H Tryz.func68 rfl Tryz.ntmps68 (by kernel_rfl) rfl (fun W=>?_)
 dsimp only [List.cons_append,List.nil_append]
 have hbs:=hk.bs
 have b1:=hq.le
 have b2:=hq.big
 obtain ⟨k1,hk1⟩:∃ k1,k+1#32=k1:=⟨_,rfl⟩
 obtain ⟨h6,hh6⟩:∃ h6,[(k1 >>> 24).setWidth 8,(k1 >>> 16).setWidth 8,(k1 >>> 8).setWidth 8,k1.setWidth 8,BitVec.ofInt 8 ((q.length:Int) / 256),BitVec.ofInt 8 (q.length:Int)]=h6:=⟨_,rfl⟩
 have h6l:h6.length=6:=by rw [←hh6];rfl
 obtain ⟨Z,hZ⟩:∃ Z,h6++q=Z:=⟨_,rfl⟩
 have hZl:Z.length=6+q.length:=by rw [←hZ,List.length_append,h6l]
 obtain ⟨Q,hQ⟩:∃ Q,crcPut Z=Q:=⟨_,rfl⟩
 have hQl:Q.length=Z.length+4:=by rw [←hQ,crcPut_len]
 have hQc:copyB (k+1#32) q=Q:=by
  rw [←hQ,←hZ,←hh6,hk1]
  rfl
 have hQa:((0*256:Nat):Int)+(Q.length:Int)=((0*256+Q.length:Nat):Int):=by omega
 obtain ⟨⟨f1,e1⟩,hr1⟩:∃ r,eraseF f 0=r:=⟨_,rfl⟩
 obtain ⟨⟨f2,e2⟩,hr2⟩:∃ r,progF f1 (0*256) Q=r:=⟨_,rfl⟩
 obtain ⟨⟨f3,e3⟩,hr3⟩:∃ r,progF f2 (0*256+Q.length) [0#8]=r:=⟨_,rfl⟩
 repeat' (first|intro _|refine cw ?_|refine cw2 ?_ ?_|refine o1_peql rfl rfl ?_|(refine k_fn 91 ?_;(refine o1_call (fun hh=>cl_ready _ b ad c f (RdFl.own hk hh)) rfl (fun _ _=>?_);rw [hd,if_neg (by decide)]))|(refine k_fn 92 ?_;(refine o1_call (fun hh=>cl_found _ b ad c f k r _ 1 (RdFl.own hk hh) hd hf rfl) rfl (fun ⟨a27,c27⟩ _=>?_);(try dsimp only)))|(refine k_binOp .add ?_;first|(refine o1_add rfl rfl (by omega) ?_;(try rw [hQa]))|(refine o1_uadd (v:=1#32) rfl rfl ?_;rw [hk1]))|(refine k_fn 110 ?_;(refine o1_call_fl b ad c (fun _=>fl_Erase _ b ad c f h 0 hk (by decide)) rfl (fun h1 hk2=>?_);(rw [hr1] at hk2 ⊢;dsimp only at hk2 ⊢)))|(refine k_binOp .shr ?_;refine o1_ishr8 rfl rfl ?_)|(refine k_buildSlice ?_;first|refine o1_lit_enc (T:=22) B h6 rfl rfl (by rw [←hh6];rfl) (fun _=>rfl) rfl rfl rfl (fun b63=>?_)|refine o1_lit_enc (T:=22) B [0#8] rfl rfl rfl (fun _=>rfl) rfl rfl rfl (fun b81=>?_))|(refine k_call ?_;(refine ox_append_box (xs:=h6) (ys:=q) (b:=b63) rfl rfl h6l.symm h6l.symm (rx_any hq) rfl rfl (fun _=>rfl) (by omega) (by omega) (fun a65 c65=>?_);rw [hZ]))|(refine k_fn 83 ?_;(refine o1_call (fun hh=>crc_Put _ a65 (6+q.length) c65 Z (rx_row hh) hZl.symm (by omega)) rfl (fun ⟨a66,c66⟩ _=>?_);(try dsimp only);rw [hQ,←hQl]))|(refine k_fn 114 ?_;refine o1_call (fun _=>cl_at _ 0 (by decide)) rfl (fun _ _=>?_))|(refine k_fn 44 ?_;first|(refine o1_call_fl b ad c (fun hh=>fl_Program _ b ad c f2 h2 (0*256+Q.length) (some ⟨b81,0,none⟩) 1 1 [0#8] hk3 (rx_box rfl (by decide) (has_tail (has_tail hh))) rfl (by omega)) rfl (fun h3 hk4=>?_);(rw [hr3] at hk4 ⊢;dsimp only at hk4 ⊢))|(refine o1_call_fl b ad c (fun hh=>fl_Program _ b ad c f1 h1 (0*256) a66 Q.length c66 Q hk2 (rx_row (has_tail (has_tail hh))) rfl (by omega)) rfl (fun h2 hk3=>?_);(rw [hr2] at hk3 ⊢;dsimp only at hk3 ⊢)))|refine ow ?_|refine ow2 ?_ ?_|fail)
 ·rename_i hc
  have hkm:k=4294967295#32:=BitVec.eq_of_toNat_eq (by rw [show (4294967295#32).toNat=4294967295 from rfl];omega)
  have hR:cellR f k 0 q=(f,9):=if_pos hkm
  rw [hR]
  refine rt_tmp h rfl rfl rfl hk ?_
  exact ent
 ·rename_i hc he
  have hkm : ¬ k=4294967295#32:=fun h=>hc (by rw [h];rfl)
  have hR:cellR f k 0 q=(f1,e1):=by
   rw [cellR,if_neg hkm,hr1,if_pos he]
  rw [hR]
  refine rt_tmp h1 rfl rfl rfl hk2 ?_
  exact ent
 ·rename_i hc he _ _ _ _ he2
  have hkm : ¬ k=4294967295#32:=fun h=>hc (by rw [h];rfl)
  have hR:cellR f k 0 q=(f2,e2):=by
   rw [cellR,if_neg hkm,hQc,hr1,if_neg (fun h=>h he)]
   dsimp only
   rw [hr2,if_pos he2]
  rw [hR]
  refine rt_tmp h2 rfl rfl rfl hk3 ?_
  exact ent
 ·rename_i hc he _ _ _ _ he2 _ _
  have hkm : ¬ k=4294967295#32:=fun h=>hc (by rw [h];rfl)
  have hR:cellR f k 0 q=(f3,e3):=by
   rw [cellR,if_neg hkm,hQc,hr1,if_neg (fun h=>h he)]
   dsimp only
   rw [hr2,if_neg (fun h=>h he2)]
   dsimp only
   rw [hr3]
  rw [hR]
  refine rt_tmp h3 rfl rfl rfl hk4 ?_
  exact ent
end Go.Dp
namespace Go.Dp
theorem copyB_eq (k:BitVec 32) (q:List (BitVec 8)):copyB k q=be4 k++(be2 (q.length:Int)++(q++be4 (crcAdd 0#32 (be4 k++(be2 (q.length:Int)++q))))):=by
 simp [copyB,crcPut]
theorem seg_app_r {l r:List (BitVec 8)} {a n:Nat} (h:l.length≤a):seg (l++r) a n=seg r (a - l.length) n:=by
 apply List.ext_getElem?
 intro i
 rw [seg_get,seg_get]
 split
 ·rw [List.getElem?_append_right (by omega)]
  congr 1;omega
 ·rfl
theorem seg_take {l:List (BitVec 8)} {a n m:Nat} (h:a+n≤m):seg (l.take m) a n=seg l a n:=by
 apply List.ext_getElem?
 intro i
 rw [seg_get,seg_get]
 split
 ·rw [List.getElem?_take,if_pos (by omega)]
 ·rfl
theorem seg_zero (l:List (BitVec 8)) (n:Nat):seg l 0 n=l.take n:=by simp [seg]
theorem numN_be2 {n:Nat} (h:n<65536):numN (be2 (n:Int))=n:=by
 have:=num32_be2 (n:Int) (by omega) (by omega)
 rw [num32_N _ (by simp [be2])] at this
 omega
theorem copyB_cut (k:BitVec 32) (q:List (BitVec 8)):(copyB k q).take 4=be4 k∧seg (copyB k q) 4 2=be2 (q.length:Int)∧seg (copyB k q) 6 q.length=q:=by
 have e:=copyB_eq k q
 refine ⟨?_,?_,?_⟩
 ·rw [e];exact List.take_left' (be4_len k)
 ·rw [e,seg_app_r (by rw [be4_len];exact Nat.le_refl _),be4_len]
  show seg _ 0 2=_
  rw [seg_zero];exact List.take_left' rfl
 ·rw [e,seg_app_r (by rw [be4_len];omega),be4_len]
  show seg _ 2 _=_
  rw [seg_app_r (by simp [be2])]
  show seg _ 0 _=_
  rw [seg_zero];exact List.take_left' rfl
theorem copyC_whole {S q:List (BitVec 8)} {k:BitVec 32} (hq:q.length≤245) (h1:S.take (q.length+10)=copyB k q) (h2:S.getD (q.length+10) 0#8=0#8):copyC S=some (k,q):=by
 obtain ⟨c1,c2,c3⟩:=copyB_cut k q
 have hn:numN (seg S 4 2)=q.length:=by
  rw [←seg_take (m:=q.length+10) (by omega),h1,c2,numN_be2 (by omega)]
 unfold copyC
 simp only [hn]
 rw [if_neg (by omega),if_neg (by simpa using h2),h1,if_pos (show crcOk (copyB k q)=true from crcOk_put _)]
 have e1:S.take 4=be4 k:=by rw [←c1,←h1,List.take_take,Nat.min_eq_left (by omega)]
 have e2:seg S 6 q.length=q:=by
  have:=c3
  rw [←h1,seg_take (by omega)] at this
  exact this
 rw [e1,num32_be4,e2]
def Dead (S:List (BitVec 8)) (k:Nat):Prop:=∀ m,m≤256→∀ c,copyC (fillB S 0 m)=some c→c.1.toNat<k
theorem fill_fill {S:List (BitVec 8)} (a b:Nat) (hS:S.length=256) (ha:a≤256) (hb:b≤256):fillB (fillB S 0 a) 0 b=fillB S 0 (max a b):=by
 apply List.ext_getElem?
 intro i
 rw [fillB_get (by rw [fillB_len (by omega)];omega),fillB_get (by omega),fillB_get (by omega)]
 by_cases h1:i<b
 ·rw [if_pos (by omega),if_pos (by omega)]
 ·rw [if_neg (by omega)]
  by_cases h2:i<a
  ·rw [if_pos (by omega),if_pos (by omega)]
  ·rw [if_neg (by omega),if_neg (by omega)]
theorem Dead.fill {S:List (BitVec 8)} {k:Nat} (h:Dead S k) (hS:S.length=256) {a:Nat} (ha:a≤256):Dead (fillB S 0 a) k:=fun m hm c hc=>by
 rw [fill_fill a m hS ha hm] at hc
 exact h _ (by omega) c hc
theorem Dead.mono {S:List (BitVec 8)} {k k':Nat} (h:Dead S k) (hk:k≤k'):Dead S k':=fun m hm c hc=>Nat.lt_of_lt_of_le (h m hm c hc) hk
theorem dead_of {S:List (BitVec 8)} (hS:S.length=256) (h:∀ m,m≤4→(let n:=numN (seg (fillB S 0 m) 4 2);245<n∨(fillB S 0 m).getD (n+10) 0#8≠0#8)) (k:Nat):Dead S k:=fun m hm c hc=>by
 exfalso
 by_cases hm4:m≤4
 ·rcases h m hm4 with hh|hh
  ·unfold copyC at hc
   dsimp only at hc
   rw [if_pos hh] at hc;cases hc
  ·unfold copyC at hc
   dsimp only at hc
   by_cases hx:245<numN (seg (fillB S 0 m) 4 2)
   ·rw [if_pos hx] at hc;cases hc
   ·rw [if_neg hx,if_pos hh] at hc;cases hc
 ·have g4:(fillB S 0 m)[4]?=some 0xff#8:=by rw [fillB_get (by omega),if_pos (by omega)]
  have hlen:(fillB S 0 m).length=256:=by rw [fillB_len (by omega),hS]
  have g5:∃ x,(fillB S 0 m)[5]?=some x:=⟨_,List.getElem?_eq_getElem (by omega)⟩
  obtain ⟨x,g5⟩:=g5
  have hn:=numN_two g4 g5
  have:245<numN (seg (fillB S 0 m) 4 2):=by rw [hn];have:=x.isLt;simp;omega
  unfold copyC at hc
  dsimp only at hc
  rw [if_pos this] at hc;cases hc
theorem copyC_some {S q:List (BitVec 8)} {k:BitVec 32} (h:copyC S=some (k,q)):numN (seg S 4 2)≤245∧S.getD (numN (seg S 4 2)+10) 0#8=0#8∧crcOk (S.take (numN (seg S 4 2)+10))=true∧num32 (S.take 4)=k∧seg S 6 (numN (seg S 4 2))=q:=by
 unfold copyC at h
 dsimp only at h
 split at h
 ·cases h
 rename_i h1
 split at h
 ·cases h
 rename_i h2
 split at h
 ·rename_i h3
  obtain ⟨e1,e2⟩:=Prod.mk.inj (Option.some.inj h)
  exact ⟨by omega,by simpa using h2,h3,e1,e2⟩
 ·cases h
theorem crcOk_eq {l:List (BitVec 8)} (h:crcOk l=true):4≤l.length∧crcPut (l.take (l.length - 4))=l:=by
 simpa [crcOk] using h
theorem crcOk_four {a b r:List (BitVec 8)} (ha:a.length=4) (hb:b.length=4) (hr:4≤r.length) (h1:crcOk (a++r)=true) (h2:crcOk (b++r)=true):a=b:=by
 obtain ⟨_,e1⟩:=crcOk_eq h1
 obtain ⟨_,e2⟩:=crcOk_eq h2
 have t:∀ x:List (BitVec 8),x.length=4→(x++r).take ((x++r).length - 4)=x++r.take (r.length - 4):=fun x hx=>by
  rw [List.take_append,List.take_of_length_le (by simp;omega)]
  congr 2;simp;omega
 rw [t a ha] at e1
 rw [t b hb] at e2
 have f:∀ x:List (BitVec 8),x.length=4→crcPut (x++r.take (r.length - 4))=x++r→be4 (crcAdd 0#32 (x++r.take (r.length - 4)))=r.drop (r.length - 4):=fun x hx e=>by
  have e3:=congrArg (fun z=>z.drop r.length) e
  simp only [crcPut] at e3
  rw [List.drop_left' (by simp;omega)] at e3
  rw [e3,List.drop_append,List.drop_eq_nil_of_le (by omega),hx]
  rfl
 have g:=be4_inj4 ((f a ha e1).trans (f b hb e2).symm)
 have g2:crcAll (~~~ 0#32) (a++r.take (r.length - 4))=crcAll (~~~ 0#32) (b++r.take (r.length - 4)):=by
  have:=congrArg (fun z => ~~~ z) g
  simpa [crcAdd] using this
 exact crc_tells ha hb g2
theorem dead_copy {S q:List (BitVec 8)} {k:BitVec 32} (hS:S.length=256) (h:copyC S=some (k,q)) (hk:k.toNat<16777216) {j:Nat} (hj:k.toNat<j):Dead S j:=fun m hm c hc=>by
 obtain ⟨c1,c2⟩:=c
 by_cases h0:m=0
 ·subst h0
  rw [fillB_zero,h] at hc
  obtain ⟨e1,e2⟩:=Prod.mk.inj (Option.some.inj hc)
  dsimp only
  rw [←e1];exact hj
 ·exfalso
  obtain ⟨p1,p2,p3,p4,p5⟩:=copyC_some h
  obtain ⟨r1,r2,r3,r4,r5⟩:=copyC_some hc
  have hfl:(fillB S 0 m).length=256:=by rw [fillB_len (by omega),hS]
  by_cases hm4:m≤4
  ·have hs:∀ a n,4≤a→seg (fillB S 0 m) a n=seg S a n:=fun a n ha=>seg_fill_out (by omega) (by omega)
   rw [hs 4 2 (by omega)] at r3
   obtain ⟨n,hn⟩:∃ n,numN (seg S 4 2)=n:=⟨_,rfl⟩
   rw [hn] at p1 p3 r3
   have sp:∀ X:List (BitVec 8),X.take (n+10)=X.take 4++seg X 4 (n+6):=fun X=>by
    rw [←seg_zero,←seg_zero,show n+10=4+(n+6) by omega,seg_append]
   rw [sp] at p3 r3
   rw [hs 4 _ (by omega)] at r3
   have e:=crcOk_four (by simp;omega) (by simp;omega) (by rw [seg_len (by omega)];omega) p3 r3
   have g0:(fillB S 0 m)[0]?=some 0xff#8:=by rw [fillB_get (by omega),if_pos (by omega)]
   have g1:S[0]?=some 0xff#8:=by
    have:=congrArg (fun z=>z[0]?) e
    simp only [List.getElem?_take] at this
    rw [if_pos (by omega),if_pos (by omega),g0] at this
    exact this
   obtain ⟨a,b,c,d,he⟩:∃ a b c d,S.take 4=[a,b,c,d]:=list4 (by simp;omega)
   have ha:a=0xff#8:=by
    have:(S.take 4)[0]?=some 0xff#8:=by rw [List.getElem?_take,if_pos (by omega),g1]
    rw [he] at this
    simpa using this
   have hk2:k.toNat=numN (S.take 4):=by rw [←p4,num32_N _ (by simp;omega)]
   rw [he,ha] at hk2
   have:=b.isLt;have:=c.isLt;have:=d.isLt
   simp only [numN,List.foldl_cons,List.foldl_nil] at hk2
   have:(0xff#8:BitVec 8).toNat=255:=rfl
   omega
  ·have g4:(fillB S 0 m)[4]?=some 0xff#8:=by rw [fillB_get (by omega),if_pos (by omega)]
   obtain ⟨x,g5⟩:∃ x,(fillB S 0 m)[5]?=some x:=⟨_,List.getElem?_eq_getElem (by omega)⟩
   have hn:=numN_two g4 g5
   have:(0xff#8:BitVec 8).toNat=255:=rfl
   omega
theorem dead_blank {S:List (BitVec 8)} (hS:S=List.replicate 256 0xff#8) (k:Nat):Dead S k:=by
 refine dead_of (by rw [hS];exact List.length_replicate) (fun m hm=>?_) k
 have hl:S.length=256:=by rw [hS];exact List.length_replicate
 have g:∀ i,i<256→(fillB S 0 m)[i]?=some 0xff#8:=fun i hi=>by
  rw [fillB_get (by omega)]
  split
  ·rfl
  ·rw [hS,List.getElem?_replicate,if_pos hi]
 have hn:=numN_two (g 4 (by omega)) (g 5 (by omega))
 have:(0xff#8:BitVec 8).toNat=255:=rfl
 left
 omega
theorem prog_get {l xs:List (BitVec 8)} {A:Nat} (hb:Blank l A 256) (hA:A+256≤l.length) (hx:xs.length≤256) (i:Nat) (hi:i<256):(seg (progB l A xs) A 256)[i]?=if i<xs.length then xs[i]? else some 0xff#8:=by
 rw [seg_get,if_pos hi,progB_get (by omega),hb.at (by omega) (by omega)]
 by_cases h:i<xs.length
 ·rw [if_pos (by omega),if_pos h,show A+i - A=i by omega,List.getElem?_eq_getElem h]
  simp [ff_and]
 ·rw [if_neg (by omega),if_neg h]
theorem or_ge (a b:BitVec 8):a.toNat≤(a ||| b).toNat:=by
 rw [BitVec.toNat_or];exact Nat.left_le_or
theorem dead_torn {S q:List (BitVec 8)} {k:BitVec 32} {j:Nat} {t:BitVec 8} (hS:S.length=256) (hq:q.length≤245) (hj:j<(copyB k q).length)
  (h:∀ i,i<256→S[i]?=if i<j+1 then ((copyB k q).take j++[(copyB k q).getD j 0#8 ||| t])[i]? else some 0xff#8) (n:Nat):Dead S n:=by
 rw [copyB_len] at hj
 have hcl:=copyB_len k q
 have g4:(copyB k q)[4]?=some 0#8:=by
  have:=congrArg (fun z=>z[0]?) (copyB_cut k q).2.1
  simp only [seg_get] at this
  rw [if_pos (by omega)] at this
  rw [show 4+0=4 from rfl] at this
  rw [this]
  have e0:(q.length:Int) / 256=0:=by omega
  simp only [be2,e0]
  rfl
 have g5:(copyB k q)[5]?=some (BitVec.ofNat 8 q.length):=by
  have:=congrArg (fun z=>z[1]?) (copyB_cut k q).2.1
  simp only [seg_get] at this
  rw [if_pos (by omega)] at this
  rw [show 4+1=5 from rfl] at this
  rw [this]
  simp [be2]
 have hc5:(BitVec.ofNat 8 q.length).toNat=q.length:=by rw [BitVec.toNat_ofNat];omega
 have at_:∀ i,i<256→i≤j→S[i]?=if i<j then (copyB k q)[i]? else some ((copyB k q).getD j 0#8 ||| t):=fun i hi hij=>by
  rw [h i hi,if_pos (by omega)]
  by_cases h1:i<j
  ·rw [if_pos h1,List.getElem?_append_left (by rw [List.length_take];omega),List.getElem?_take,if_pos h1]
  ·rw [if_neg h1,List.getElem?_append_right (by rw [List.length_take];omega)]
   have:i - ((copyB k q).take j).length=0:=by rw [List.length_take];omega
   rw [this];rfl
 have ff_:∀ i,i<256→j<i→S[i]?=some 0xff#8:=fun i hi hij=>by rw [h i hi,if_neg (by omega)]
 refine dead_of hS (fun m hm=>?_) n
 have fg:∀ i,4≤i→(fillB S 0 m)[i]?=S[i]?:=fun i hi=>by rw [fillB_get (by omega),if_neg (by omega)]
 have hff:(0xff#8:BitVec 8).toNat=255:=rfl
 obtain ⟨x4,h4⟩:∃ x,S[4]?=some x:=⟨_,List.getElem?_eq_getElem (by omega)⟩
 obtain ⟨x5,h5⟩:∃ x,S[5]?=some x:=⟨_,List.getElem?_eq_getElem (by omega)⟩
 have hn:=numN_two ((fg 4 (by omega)).trans h4) ((fg 5 (by omega)).trans h5)
 dsimp only
 rw [hn]
 by_cases hj5:j<5
 ·have:x5=0xff#8:=by rw [ff_ 5 (by omega) (by omega)] at h5;exact (Option.some.inj h5).symm
  left
  rw [this]
  omega
 ·have e4:x4=0#8:=by rw [at_ 4 (by omega) (by omega),if_pos (by omega),g4] at h4;exact (Option.some.inj h4).symm
  have e5:q.length≤x5.toNat∧(j≠5→x5.toNat=q.length):=by
   rw [at_ 5 (by omega) (by omega)] at h5
   by_cases h6:5<j
   ·rw [if_pos h6,g5] at h5
    have:=Option.some.inj h5
    rw [←this,hc5]
    exact ⟨Nat.le_refl _,fun _=>rfl⟩
   ·have hj6:j=5:=by omega
    rw [if_neg h6,hj6,List.getD_eq_getElem?_getD,g5] at h5
    have:=Option.some.inj h5
    rw [←this]
    refine ⟨?_,fun hh=>absurd hj6 hh⟩
    have:=or_ge (BitVec.ofNat 8 q.length) t
    rw [hc5] at this
    exact this
  have e40:x4.toNat=0:=by rw [e4];rfl
  rw [e40]
  by_cases h245:245<0*256+x5.toNat
  ·exact .inl h245
  ·right
   have hjx:j<0*256+x5.toNat+10:=by
    by_cases h5j:j=5
    ·omega
    ·have:=e5.2 h5j;omega
   have:=ff_ (0*256+x5.toNat+10) (by omega) hjx
   rw [List.getD_eq_getElem?_getD,fg _ (by omega),this]
   decide
theorem dead_mark {S q:List (BitVec 8)} {k:BitVec 32} {y:BitVec 8} (hS:S.length=256) (hq:q.length≤245) (hy:y≠0#8) (h1:S.take (q.length+10)=copyB k q) (h2:S[q.length+10]?=some y) (n:Nat):Dead S n:=by
 refine dead_of hS (fun m hm=>?_) n
 have fg:∀ i,4≤i→(fillB S 0 m)[i]?=S[i]?:=fun i hi=>by rw [fillB_get (by omega),if_neg (by omega)]
 have hs:seg (fillB S 0 m) 4 2=be2 (q.length:Int):=by
  rw [seg_fill_out (by omega) (by omega),←seg_take (m:=q.length+10) (by omega),h1]
  exact (copyB_cut k q).2.1
 dsimp only
 rw [hs,numN_be2 (by omega)]
 right
 rw [List.getD_eq_getElem?_getD,fg _ (by omega),h2]
 exact hy
theorem seg_fill_same {l:List (BitVec 8)} {A m:Nat} (hA:A+256≤l.length) (hm:m≤256):seg (fillB l A m) A 256=fillB (seg l A 256) 0 m:=by
 apply List.ext_getElem?
 intro i
 rw [seg_get,fillB_get (l:=l) (by omega),fillB_get (l:=seg l A 256) (by rw [seg_len hA];omega),seg_get]
 by_cases hi:i<256
 ·rw [if_pos hi,if_pos hi]
  by_cases h:i<m
  ·rw [if_pos (by omega),if_pos (by omega)]
  ·rw [if_neg (by omega),if_neg (by omega)]
 ·rw [if_neg hi,if_neg hi,if_neg (by omega)]
theorem prog2_get {l xs:List (BitVec 8)} {y:BitVec 8} {A:Nat} (hb:Blank l A 256) (hA:A+256≤l.length) (hx:xs.length<256) (i:Nat) (hi:i<256):(seg (progB (progB l A xs) (A+xs.length) [y]) A 256)[i]?=if i<xs.length then xs[i]? else if i=xs.length then some y else some 0xff#8:=by
 have hl:=progB_len (l:=l) (a:=A) (xs:=xs) (by omega)
 have g:=prog_get hb hA (Nat.le_of_lt hx) i hi
 rw [seg_get,if_pos hi] at g ⊢
 rw [progB_get (by rw [hl];simp;omega),g]
 by_cases h:i<xs.length
 ·rw [if_neg (by simp;omega),if_pos h,if_pos h]
 ·rw [if_neg h,if_neg h]
  by_cases he:i=xs.length
  ·rw [if_pos (by simp;omega),if_pos he,show A+i - (A+xs.length)=0 by omega]
   simp [ff_and]
  ·rw [if_neg (by simp;omega),if_neg he]
theorem cellR_out {f:Fl} {n to:Nat} {k:BitVec 32} {q:List (BitVec 8)} (hf:Few f n) (hw:n<f.wear) (hd:f.pw.isDown=false) (ht:to<2) (hq:q.length≤245) (hk:k.toNat<16777215) :
  Stay f (cellR f k to q).1 (n+1)∧(∀ a m,a+m≤to*256∨to*256+256≤a→seg (cellR f k to q).1.bs a m=seg f.bs a m) ∧
  (((cellR f k to q).2=0∧(cellR f k to q).1.pw.isDown=false∧copyAt (cellR f k to q).1.bs to=some (k+1#32,q)) ∨
   ((cellR f k to q).2=11∧(cellR f k to q).1.pw = .down none∧(copyAt (cellR f k to q).1.bs to=some (k+1#32,q)∨∀ j,Dead (seg f.bs (to*256) 256) j→Dead (seg (cellR f k to q).1.bs (to*256) 256) j))):=by
 have hb:=hf.bs
 have hlen:=copyB_len (k+1#32) q
 obtain ⟨C,hC⟩:∃ C,copyB (k+1#32) q=C:=⟨_,rfl⟩
 unfold cellR
 rw [if_neg (by intro e;rw [e] at hk;exact absurd hk (by decide)),hC]
 rw [hC] at hlen
 obtain ⟨s1,c1⟩:=eraseF_out (s:=to) hf (by omega) hw hd
 obtain ⟨⟨f1,v1⟩,hr1⟩:∃ r,eraseF f to=r:=⟨_,rfl⟩
 rw [hr1] at s1 c1 ⊢
 dsimp only at s1 c1 ⊢
 rcases c1 with ⟨q1,d1,b1⟩|⟨q1,d1,m,hm,b1⟩
 rotate_left
 ·subst q1
  rw [if_pos (by decide)]
  refine ⟨s1,fun a m2 hh=>?_,.inr ⟨rfl,d1,.inr fun j hj=>?_⟩⟩
  ·dsimp only
   rw [b1,seg_fill_out (by omega) (by omega)]
  ·dsimp only
   rw [b1,seg_fill_same (by omega) hm]
   exact hj.fill (seg_len (by omega)) hm
 subst q1
 rw [if_neg (by decide)]
 have hb1:=s1.few.bs
 have hbl:Blank f1.bs (to*256) 256:=by
  show seg _ _ _=_
  rw [b1,seg_fill_in (by omega) (Nat.le_refl _) (Nat.le_refl _)]
 have o1:∀ a m,a+m≤to*256∨to*256+256≤a→seg f1.bs a m=seg f.bs a m:=fun a m hh=>by rw [b1,seg_fill_out (by omega) (by omega)]
 obtain ⟨s2,c2⟩:=progF_out (a:=to*256) (xs:=C) s1.few (by omega) d1
 obtain ⟨⟨f2,v2⟩,hr2⟩:∃ r,progF f1 (to*256) C=r:=⟨_,rfl⟩
 rw [hr2] at s2 c2 ⊢
 dsimp only at s2 c2 ⊢
 rcases c2 with ⟨q2,d2,b2⟩|⟨q2,d2,j,t,hj,b2⟩
 rotate_left
 ·subst q2
  rw [if_pos (by decide)]
  have hl:(C.take j++[C.getD j 0#8 ||| t]).length=j+1:=by simp;omega
  refine ⟨s1.trans s2,fun a m2 hh=>?_,.inr ⟨rfl,d2,.inr fun n2 _=>?_⟩⟩
  ·dsimp only
   rw [b2,seg_prog_out (by omega) (by omega),o1 a m2 hh]
  ·dsimp only
   refine dead_torn (k:=k+1#32) (q:=q) (j:=j) (t:=t) (seg_len (by rw [b2,progB_len (by omega)];omega)) hq (by rw [hC];exact hj) (fun i hi=>?_) n2
   rw [hC,b2,prog_get hbl (by omega) (by omega) i hi,hl]
 subst q2
 rw [if_neg (by decide)]
 have hb2:=s2.few.bs
 have o2:∀ a m,a+m≤to*256∨to*256+256≤a→seg f2.bs a m=seg f.bs a m:=fun a m hh=>by rw [b2,seg_prog_out (by omega) (by omega),o1 a m hh]
 obtain ⟨s3,c3⟩:=progF_out (a:=to*256+C.length) (xs:=[0#8]) s2.few (by simp;omega) d2
 obtain ⟨⟨f3,v3⟩,hr3⟩:∃ r,progF f2 (to*256+C.length) [0#8]=r:=⟨_,rfl⟩
 rw [hr3] at s3 c3 ⊢
 dsimp only at s3 c3 ⊢
 have fin:∀ y:BitVec 8,f3.bs=progB f2.bs (to*256+C.length) [y]→(∀ a m,a+m≤to*256∨to*256+256≤a→seg f3.bs a m=seg f.bs a m)∧(y=0#8→copyAt f3.bs to=some (k+1#32,q))∧(y≠0#8→∀ j,Dead (seg f3.bs (to*256) 256) j):=fun y b3=>by
  have g:∀ i,i<256→(seg f3.bs (to*256) 256)[i]?=if i<C.length then C[i]? else if i=C.length then some y else some 0xff#8:=fun i hi=>by
   rw [b3,b2]
   exact prog2_get hbl (by omega) (by omega) i hi
  have hS:(seg f3.bs (to*256) 256).length=256:=seg_len (by rw [s3.few.bs];omega)
  have ht:(seg f3.bs (to*256) 256).take (q.length+10)=C:=by
   apply List.ext_getElem?
   intro i
   rw [List.getElem?_take]
   by_cases hi:i<q.length+10
   ·rw [if_pos hi,g i (by omega),if_pos (by omega)]
   ·rw [if_neg hi,List.getElem?_eq_none (by omega)]
  have hy:(seg f3.bs (to*256) 256)[q.length+10]?=some y:=by
   rw [g _ (by omega),if_neg (by omega),if_pos (by omega)]
  refine ⟨fun a m hh=>?_,fun hy0=>?_,fun hy0 j=>?_⟩
  ·have hy1:([y]:List (BitVec 8)).length=1:=rfl
   have h255:C.length+1≤256:=by omega
   have h1:to*256+C.length+[y].length≤f2.bs.length:=by rw [hy1,hb2];omega
   have h2:a+m≤to*256+C.length∨to*256+C.length+[y].length≤a:=hh.imp (fun h=>Nat.le_trans h (Nat.le_add_right _ _)) (fun h=>Nat.le_trans (by rw [hy1,Nat.add_assoc];exact Nat.add_le_add_left h255 _) h)
   rw [b3,seg_prog_out h1 h2,o2 a m hh]
  ·exact copyC_whole hq (by rw [ht,hC]) (by rw [List.getD_eq_getElem?_getD,hy,hy0];rfl)
  ·exact dead_mark hS hq hy0 (by rw [ht,hC]) hy j
 rcases c3 with ⟨q3,d3,b3⟩|⟨q3,d3,j,t,hj,b3⟩
 ·obtain ⟨w1,w2,w3⟩:=fin 0#8 b3
  exact ⟨(s1.trans s2).trans s3,w1,.inl ⟨q3,d3,w2 rfl⟩⟩
 ·have hj0:j=0:=by simp at hj;omega
  subst hj0
  obtain ⟨w1,w2,w3⟩:=fin _ b3
  refine ⟨(s1.trans s2).trans s3,w1,.inr ⟨q3,d3,?_⟩⟩
  by_cases hy:([0#8].getD 0 0#8 ||| t)=0#8
  ·exact .inl (w2 hy)
  ·exact .inr fun j _=>w3 hy j
structure CellIs (l:List (BitVec 8)) (k:Nat) (q:List (BitVec 8)) (w:Nat):Prop where
 w2:w<2
 at_:∃ kk:BitVec 32,kk.toNat=k∧copyAt l w=some (kk,q)
 dead:Dead (seg l ((1 - w)*256) 256) k
theorem CellIs.found {l:List (BitVec 8)} {k w:Nat} {q:List (BitVec 8)} (h:CellIs l k q w) (hl:l.length=3584):∃ kk:BitVec 32,kk.toNat=k∧foundC l=some ((kk,q),w):=by
 obtain ⟨kk,hk,ha⟩:=h.at_
 have hS:(seg l ((1 - w)*256) 256).length=256:=seg_len (by omega)
 have hdead:∀ c,copyAt l (1 - w)=some c→c.1.toNat<k:=fun c hc=>h.dead 0 (Nat.zero_le _) c (by rw [fillB_zero];exact hc)
 refine ⟨kk,hk,?_⟩
 have h2:=h.w2
 unfold foundC
 rcases (by omega:w=0∨w=1) with rfl|rfl
 ·rw [ha]
  cases h1:copyAt l 1 with
  | none=>rfl
  | some b =>
   have:=hdead b h1
   dsimp only
   rw [if_neg (by omega)]
 ·rw [ha]
  cases h1:copyAt l 0 with
  | none=>rfl
  | some b =>
   have:=hdead b h1
   dsimp only
   rw [if_pos (by omega)]
theorem CellIs.keep {l l':List (BitVec 8)} {k w:Nat} {q:List (BitVec 8)} (h:CellIs l k q w) (e:seg l' 0 512=seg l 0 512):CellIs l' k q w:=by
 have hs:∀ v,v<2→seg l' (v*256) 256=seg l (v*256) 256:=fun v hv=>by
  have:=congrArg (fun z=>seg z (v*256) 256) e
  rw [seg_seg (by omega),seg_seg (by omega),Nat.zero_add] at this
  exact this
 have h2:=h.w2
 obtain ⟨kk,hk,ha⟩:=h.at_
 refine ⟨h2,⟨kk,hk,?_⟩,?_⟩
 ·unfold copyAt at ha ⊢
  rw [hs w h2];exact ha
 ·rw [hs (1 - w) (by omega)];exact h.dead
theorem cellW_out {f:Fl} {n k w:Nat} {q q0:List (BitVec 8)} (hc:CellIs f.bs k q0 w) (hf:Few f n) (hw:n<f.wear) (hd:f.pw.isDown=false) (hq:q.length≤245) (hk:k<16777214) :
  Stay f (cellW f q).1 (n+1)∧(∀ a m,512≤a→seg (cellW f q).1.bs a m=seg f.bs a m) ∧
  (((cellW f q).2=0∧(cellW f q).1.pw.isDown=false∧CellIs (cellW f q).1.bs (k+1) q (1 - w)) ∨
   ((cellW f q).2=11∧(cellW f q).1.pw = .down none∧(CellIs (cellW f q).1.bs (k+1) q (1 - w)∨CellIs (cellW f q).1.bs k q0 w))):=by
 have hb:=hf.bs
 obtain ⟨kk,hkk,hfo⟩:=hc.found hb
 have h2:=hc.w2
 rw [cellW_some hq hd hfo,show (if w=0 then 1 else 0)=1 - w by split <;> omega]
 obtain ⟨st,so,sc⟩:=cellR_out (to:=1 - w) (k:=kk) (q:=q) hf hw hd (by omega) hq (by omega)
 have hk1:(kk+1#32).toNat=k+1:=by
  rw [BitVec.toNat_add]
  have:(1#32).toNat=1:=rfl
  omega
 have same:seg (cellR f kk (1 - w) q).1.bs (w*256) 256=seg f.bs (w*256) 256:=so _ _ (by omega)
 have new:copyAt (cellR f kk (1 - w) q).1.bs (1 - w)=some (kk+1#32,q)→CellIs (cellR f kk (1 - w) q).1.bs (k+1) q (1 - w):=fun h=>by
  refine ⟨by omega,⟨_,hk1,h⟩,?_⟩
  rw [show 1 - (1 - w)=w by omega,same]
  obtain ⟨k2,hk2,ha⟩:=hc.at_
  exact dead_copy (seg_len (by omega)) ha (by omega) (by omega)
 have old:(∀ j,Dead (seg f.bs ((1 - w)*256) 256) j→Dead (seg (cellR f kk (1 - w) q).1.bs ((1 - w)*256) 256) j)→CellIs (cellR f kk (1 - w) q).1.bs k q0 w:=fun h=>by
  obtain ⟨k2,hk2,ha⟩:=hc.at_
  refine ⟨h2,⟨k2,hk2,?_⟩,h _ hc.dead⟩
  unfold copyAt at ha ⊢
  rw [same];exact ha
 refine ⟨st,fun a m hh=>so a m (by omega),?_⟩
 rcases sc with ⟨e1,e2,e3⟩|⟨e1,e2,e3|e3⟩
 ·exact .inl ⟨e1,e2,new e3⟩
 ·exact .inr ⟨e1,e2,.inl (new e3)⟩
 ·exact .inr ⟨e1,e2,.inr (old e3)⟩
theorem cellW_first {f:Fl} {n:Nat} {q:List (BitVec 8)} (hc:Blank f.bs 0 512) (hf:Few f n) (hw:n<f.wear) (hp:f.pw = .on) (hq:q.length≤245) :
  Stay f (cellW f q).1 (n+1)∧(∀ a m,512≤a→seg (cellW f q).1.bs a m=seg f.bs a m)∧(cellW f q).2=0∧(cellW f q).1.pw = .on∧CellIs (cellW f q).1.bs 1 q 0:=by
 have hb:=hf.bs
 have hd:=on_up hp
 have hS:∀ v,v<2→seg f.bs (v*256) 256=List.replicate 256 0xff#8:=fun v hv=>hc.sub (by omega) (by omega)
 have hno:∀ v,v<2→copyAt f.bs v=none:=fun v hv=>by
  cases h:copyAt f.bs v with
  | none=>rfl
  | some c =>
   have:=dead_blank (hS v hv) 0 0 (by omega) c (by rw [fillB_zero];exact h)
   omega
 have hfo:foundC f.bs=none:=by unfold foundC;rw [hno 0 (by omega),hno 1 (by omega)]
 rw [cellW_none hq hd hfo]
 obtain ⟨st,so,sc⟩:=cellR_out (to:=0) (k:=0#32) (q:=q) hf hw hd (by omega) hq (by decide)
 have hon:=st.on hp
 refine ⟨st,fun a m hh=>so a m (by omega),?_⟩
 rcases sc with ⟨e1,e2,e3⟩|⟨e1,e2,e3⟩
 ·refine ⟨e1,hon,by omega,⟨_,rfl,e3⟩,?_⟩
  rw [so _ _ (by omega)]
  exact dead_blank (hS 1 (by omega)) _
 ·rw [hon] at e2;cases e2
end Go.Dp
