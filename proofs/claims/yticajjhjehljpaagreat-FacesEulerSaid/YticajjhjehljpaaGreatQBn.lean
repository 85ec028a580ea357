/-
  Parts of a proof. No condition.
-/
import Derived.Test.YticajjhjehljpaaGreatQBd
import Derived.Test.YticajjhjehljpaaGreatQBe
import Derived.Test.YticajjhjehljpaaGreatChecked
import Derived.Test.YticajjhjehljpaaGreatRows
import Derived.ProofKit
import Derived.Lib.SmallJoins
import Derived.Deep.Slices
import Derived.Deep.Fields
set_option linter.unusedSimpArgs false
set_option linter.unusedVariables false
noncomputable section
namespace Go.Proofs.YticajjhjehljpaaGreat
open Go.ChangeShapes Go.WideShapes Go.ChangeAt Go.RowKit Go.Joins
theorem dY {a b:Bool}(ha:a=true)(hb:b=true):(a&&b)=true:=by rw [ha,hb];rfl
theorem jf0:(Rows.facesEulerRow.wf (OpenSpec.ofChange Rows.facesEulerSpec))=true:=by kernel_rfl
theorem jf1:(laidOutB Tryz.prog)=true:=by kernel_rfl
theorem jf2:(mapsRowed Tryz.prog)=true:=by kernel_rfl
theorem jf3:(Tryz.f3.params.all (Tryz.prog.readableRec ·))=true:=by kernel_rfl
theorem jf4:(namedTie Tryz.prog Rows.facesEulerRow.named Rows.facesEulerSpec.vars)=true:=by kernel_rfl
theorem jf5:((Rows.facesEulerRow.stops == []))=true:=by kernel_rfl
theorem jf6:((Tryz.prog.stops == []))=true:=by kernel_rfl
theorem jf7:((Rows.facesEulerRow.knobs == []))=true:=by kernel_rfl
theorem jf8:((Tryz.prog.stopKnobs == []))=true:=by kernel_rfl
theorem jf9:((Rows.facesEulerRow.inPlace == Tryz.prog.inPlace 3))=true:=by kernel_rfl
theorem aJI:((Rows.facesEulerRow.unfollowed == Tryz.prog.unfollowed 3))=true:=by kernel_rfl
theorem aJP:((Rows.facesEulerRow.recurses == Tryz.prog.recurses 3))=true:=by kernel_rfl
theorem aJh:((Rows.facesEulerRow.named == Tryz.prog.varsNamed 3))=true:=by kernel_rfl
theorem aK1:((Rows.facesEulerRow.maps == (Tryz.f3.params.toList++Rows.facesEulerSpec.plain.varTypes Tryz.prog).any (Tryz.prog.mapsRec ·)))=true:=by kernel_rfl
theorem aJJ:((Rows.facesEulerRow.ifaces == (Tryz.f3.params.toList++Rows.facesEulerSpec.plain.varTypes Tryz.prog).any (Tryz.prog.ifacesRec ·)))=true:=by kernel_rfl
theorem aKu:((Rows.facesEulerRow.mapsOut == Tryz.prog.mapsAmong Tryz.f3.resultTypes.toList))=true:=by kernel_rfl
theorem aJr:((Rows.facesEulerRow.loops == (Tryz.f3.params.toList++Rows.facesEulerSpec.plain.varTypes Tryz.prog).any (Tryz.prog.loopsFrom ·)))=true:=by kernel_rfl
theorem aJL:((Rows.facesEulerRow.wideKeys == (Tryz.f3.params.toList++Rows.facesEulerSpec.plain.varTypes Tryz.prog++Tryz.f3.resultTypes.toList).any (Tryz.prog.wideKeysFrom ·)))=true:=by kernel_rfl
theorem aJs:(Rows.facesEulerSpec.vars.all (Tryz.prog.varReadable ·))=true:=by kernel_rfl
theorem aKt:(Tryz.f3.resultTypes.all (fun t=>Tryz.prog.readableRec t&&decide (t<Tryz.prog.types.size)))=true:=by kernel_rfl
theorem aKe:((Rows.facesEulerRow.ifacesOut == Tryz.f3.resultTypes.toList.any (Tryz.prog.ifacesRec ·)))=true:=by kernel_rfl
theorem aJC:((Rows.facesEulerRow.loopsOut == Tryz.f3.resultTypes.toList.any (Tryz.prog.loopsFrom ·)))=true:=by kernel_rfl
theorem aJu:((Rows.facesEulerRow.plainKeys == Tryz.prog.plainKeys))=true:=by kernel_rfl
theorem aKi:(Rows.facesEulerRow.shortTexts.isNone)=true:=by kernel_rfl
theorem aKf:(Tryz.prog.stopsHeard)=true:=by kernel_rfl
theorem aJE:(Tryz.prog.mayEnter)=true:=by kernel_rfl
theorem aKg:((Rows.facesEulerRow.lifted == Tryz.prog.liftsFinal))=true:=by kernel_rfl
theorem aJy:((Tryz.prog.make == some Rows.facesEulerRow.make))=true:=by kernel_rfl
theorem aJx:((Rows.facesEulerRow.pinned == Rows.facesEulerRow.pinnedBy))=true:=by kernel_rfl
theorem aJF:((Rows.facesEulerRow.veiled == (Tryz.f3.params.toList++Rows.facesEulerSpec.plain.varTypes Tryz.prog++Tryz.f3.resultTypes.toList).any (Tryz.prog.veiledRec ·)))=true:=by kernel_rfl
theorem aJG:(Rows.facesEulerRow.veiledFits Tryz.prog Tryz.f3.params.toList (Tryz.f3.params.toList++Rows.facesEulerSpec.plain.varTypes Tryz.prog++Tryz.f3.resultTypes.toList))=true:=by kernel_rfl
end Go.Proofs.YticajjhjehljpaaGreat
end

noncomputable section
namespace Go.Aw
set_option maxRecDepth 100000
section
variable {l:List Pt}{m:List Ed}{n:Int}
structure Hs (l:List Pt) (m:List Ed) (t:K7):Prop where
 seen:t.seen.length=2*m.length
 face:t.face.length=2*m.length
 cl:∀ i:Nat,i<2*m.length→cM t.seen i=true→cM t.seen (qV (aL l m m.length) (outs l m) i).toNat=true
 has:∀ f:Int,(1≤f∧f≤t.many)∨(f=0∧1≤t.out)→∃ i,i<2*m.length∧cM t.seen i=true∧aH t.face i=f
 low:0≤t.many
theorem IN {D:List Dt}{ls:List (List Int)}{d:Int}{t:Nat}(h:t<gB D ls d):aH (nS D ls d) t=iY D ls d t:=by
 unfold nS aH;rw [List.getD_eq_getElem?_getD,List.getElem?_map,List.getElem?_range h];rfl
theorem vO {D:List Dt}{ls:List (List Int)}{d:Int}:(nS D ls d).length=gB D ls d:=by simp [nS]
theorem aBp (hok:cL l m n=true){t:K7}(h:Hs l m t){d:Nat}(hd:d<2*m.length):Hs l m (jC l (aL l m m.length) (outs l m) t d):=by
 unfold jC;cases hs:cM t.seen d with
 |true=>rw [if_pos rfl];exact h
 |false =>
  rw [if_neg (by decide)];simp only;have hin:=qB hok (d:=(d:Int)) (by omega) (by omega);have hT:iY (aL l m m.length) (outs l m) d (gB (aL l m m.length) (outs l m) d)=d:=by
   have hw:=List.all_eq_true.1 (vK hok) d (List.mem_range.2 (by rw [aY];exact hd));exact of_decide_eq_true hw
  have hT1:1≤gB (aL l m m.length) (outs l m) d:=by
   have:=(gP (aL l m m.length) (outs l m) d (aL l m m.length).length 1).1;unfold gB;omega
  have hget:∀ k,k<gB (aL l m m.length) (outs l m) d→aH (nS (aL l m m.length) (outs l m) d) k=iY (aL l m m.length) (outs l m) d k:=fun k hk=>IN hk;have hlen:(nS (aL l m m.length) (outs l m) d).length=gB (aL l m m.length) (outs l m) d:=vO;generalize nS (aL l m m.length) (outs l m) d=W at hget hlen ⊢;generalize gB (aL l m m.length) (outs l m) d=T at *;have hr:∀ k,k<W.length→(aH W k).toNat<2*m.length:=fun k hk=>by
   rw [hget k (by omega)];have:=hin k;omega
  -- what was seen lies in no walk of what was not
  have hdis:∀ k,k<W.length→cM t.seen (aH W k).toNat=true→False:=fun k hk hsk=>by
   rw [hget k (by omega)] at hsk;have hf:∀ j,cM t.seen (iY (aL l m m.length) (outs l m) d (k+j)).toNat=true:=by
    intro j
    induction j with
    |zero=>exact hsk
    |succ j ih =>
     have hi:=hin (k+j);have:=h.cl (iY (aL l m m.length) (outs l m) d (k+j)).toNat (by omega) ih;rw [Int.toNat_of_nonneg hi.1] at this;exact this
   have:=hf (T - k);rw [show k+(T - k)=T by omega,hT,Int.toNat_natCast,hs] at this;cases this
  generalize GQ l (aL l m m.length) W W.length=A;have hsee:∀ i,(∃ k,k<W.length∧(aH W k).toNat=i)→cM (eN t.seen W W.length) i=true:=fun i hi=>(nH t.seen W (by rw [h.seen];exact hr) i _ (Nat.le_refl _)).1 hi;have hkeep:∀ i,cM t.seen i=true→cM (eN t.seen W W.length) i=true:=fun i hi=>by
   by_cases e:∃ k,k<W.length∧(aH W k).toNat=i
   ·exact hsee i e
   ·rw [(nH t.seen W (by rw [h.seen];exact hr) i _ (Nat.le_refl _)).2 e];exact hi
  have hold:∀ (fc f:Int),(∃ i,i<2*m.length∧cM t.seen i=true∧aH t.face i=f)→∃ i,i<2*m.length∧cM (eN t.seen W W.length) i=true∧aH (eU t.face W fc W.length) i=f:=fun fc f ⟨i,a1,a2,a3⟩=>by
   refine⟨i,a1,hkeep i a2,?_⟩;rw [(nM t.face W fc (by rw [h.face];exact hr) i _ (Nat.le_refl _)).2 fun ⟨k,b1,b2⟩=>hdis k b1 (by rw [b2];exact a2)];exact a3
  have hd0:∃ k,k<W.length∧(aH W k).toNat=d:=⟨0,by omega,by rw [hget 0 (by omega)];rfl⟩;have hnew:∀ fc:Int,∃ i,i<2*m.length∧cM (eN t.seen W W.length) i=true∧aH (eU t.face W fc W.length) i=fc:=fun fc =>
   ⟨d,hd,hsee d hd0,(nM t.face W fc (by rw [h.face];exact hr) d _ (Nat.le_refl _)).1 hd0⟩
  refine⟨by rw [jO];exact h.seen,by rw [iU];exact h.face,fun i hi hsi=>?_,fun f hf=>?_,?_⟩
  ·by_cases e:∃ k,k<W.length∧(aH W k).toNat=i
   ·obtain⟨k,b1,b2⟩:=e;have hk:=hin k;rw [hget k (by omega)] at b2;have e2:(i:Int)=iY (aL l m m.length) (outs l m) d k:=(by omega);rw [e2];show cM (eN t.seen W W.length) (iY (aL l m m.length) (outs l m) d (k+1)).toNat=true;by_cases hl:k+1=T
    ·rw [hl,hT,Int.toNat_natCast];exact hsee d hd0
    ·exact hsee _ ⟨k+1,by omega,by rw [hget (k+1) (by omega)]⟩
   ·have:=hsi;rw [(nH t.seen W (by rw [h.seen];exact hr) i _ (Nat.le_refl _)).2 e] at this;exact hkeep _ (h.cl i hi this)
  ·have hlow:=h.low;by_cases hA:0<A
   ·simp only [if_pos hA] at hf ⊢;rcases hf with ⟨f1,f2⟩|f2
    ·by_cases e:f=t.many+1
     ·rw [e];exact hnew _
     ·exact hold _ f (h.has f (.inl ⟨f1,by omega⟩))
    ·exact hold _ f (h.has f (.inr f2))
   ·simp only [if_neg hA] at hf ⊢;rcases hf with f2|⟨f1,f2⟩
    ·exact hold _ f (h.has f (.inl f2))
    ·rw [f1];exact hnew 0
  ·have:=h.low;show 0≤if 0<A then t.many+1 else t.many
   split <;> omega
theorem PN (hok:cL l m n=true):∀ d,d≤2*m.length→Hs l m (bS l (aL l m m.length) (outs l m) d)
 |0,_=>by
  refine⟨by simp [bS,aY],by simp [bS,aY],fun i hi h=>?_,fun f hf=>?_,Int.le_refl 0⟩
  ·unfold bS cM at h;rw [List.getD_eq_getElem?_getD,List.getElem?_replicate,aY,if_pos hi] at h;cases h
  ·have hf:(1≤f∧f≤0)∨(f=0∧(1:Int)≤0):=hf;omega
 |d+1,h=>aBp hok (PN hok d (by omega)) (by omega)
theorem MA (x:Int):∀ (L:List Int) (i:Nat),(∃ k,k<L.length∧aH L k=x)→∃ k,k<L.length∧aH L k=x∧(∀ j,j<k→aH L j≠x)∧oG x L i=((i+k:Nat):Int)
 |[],i,⟨k,h,_⟩=>by cases h
 |b::r,i,⟨k,h1,h2⟩=>by
  unfold oG;by_cases e:x=b
  ·rw [if_pos e];exact⟨0,Nat.succ_pos _,e.symm,fun j hj=>absurd hj (Nat.not_lt_zero j),rfl⟩
  ·rw [if_neg e];cases k with
   |zero=>exact absurd h2.symm e
   |succ k =>
    obtain⟨q,a1,a2,a3,a4⟩:=MA x r (i+1) ⟨k,by simpa using h1,h2⟩;refine⟨q+1,by simpa using a1,a2,fun j hj=>?_,by rw [a4];congr 1;omega⟩;cases j with
    |zero=>exact fun hb=>e hb.symm
    |succ j=>exact a3 j (by omega)
theorem xN (ho:cZ l m n=true){f:Int}(h0:0≤f)(h1:f≤n):∃ k,k<2*m.length∧aH (bX l m).face k=f∧(∀ j,j<k→aH (bX l m).face j≠f)∧oG f (bX l m).face 0=(k:Int):=by
 have ho':=ho;simp only [cZ,iP,Bool.and_eq_true,decide_eq_true_eq] at ho';obtain⟨⟨hok,_⟩,_,hn,hmn,_⟩:=ho';have hs:=PN hok (2*m.length) (Nat.le_refl _);have e:bS l (aL l m m.length) (outs l m) (2*m.length)=bX l m:=(by unfold bX nmD;rw [aY]);rw [e] at hs;simp only [vC,Bool.and_eq_true,decide_eq_true_eq] at hn;obtain⟨i,a1,a2,a3⟩:=hs.has f (by
  by_cases e0:f=0
  ·exact .inr ⟨e0,by omega⟩
  ·exact .inl ⟨by omega,by omega⟩)
 obtain⟨k,b1,b2,b3,b4⟩:=MA f (bX l m).face 0 ⟨i,by rw [hs.face];exact a1,a3⟩;exact⟨k,by rw [hs.face] at b1;exact b1,b2,b3,by rw [b4,Nat.zero_add]⟩
end
end Go.Aw
end

noncomputable section
namespace Go.Aw
set_option maxRecDepth 100000
set_option maxHeartbeats 2000000
structure WA (h:Heap) (p:Nat) (l:List Pt) (m:List Ed) (n:Int):Prop where
 ok:cZ l m n=true
 sm:l.length≤1000∧m.length≤1000
 ex:∃ k0 k1 kd kt kf nm c1 c2,uE h p k0 k1 kd kt kf nm l (aL l m m.length) (outs l m) m.length c1 c2 n (some ((aL l m m.length).length,(aL l m m.length).length)) ∧
  (∃ wr g sz cs,look h k1=some (.cells wr g sz cs)∧cs.take (flat aX.fl m).length=flat aX.fl m)∧(∃ wr g sz cs,look h kf=some (.cells wr g sz cs)∧cs.take (flat aU.fl (bX l m).face).length=flat aU.fl (bX l m).face)
theorem WA.ext {W h:Heap}{p:Nat}{l:List Pt}{m:List Ed}{n:Int}(hw:WA W p l m n)(hx:∀ k o,look W k=some o→look h k=some o):WA h p l m n:=by
 obtain⟨ok,sm,k0,k1,kd,kt,kf,nm,c1,c2,w,⟨w1,g1,s1,x1,a1,b1⟩,w2,g2,s2,x2,a2,b2⟩:=hw;obtain⟨⟨w3,g3,s3,a3⟩,⟨w4,g4,s4,x4,a4,b4⟩,⟨w5,g5,s5,x5,a5,b5⟩,⟨w6,g6,s6,a6⟩,h4⟩:=w;refine⟨ok,sm,k0,k1,kd,kt,kf,nm,c1,c2,⟨⟨_,_,_,hx _ _ a3⟩,⟨_,_,_,_,hx _ _ a4,b4⟩,⟨_,_,_,_,hx _ _ a5,b5⟩,⟨_,_,_,hx _ _ a6⟩,fun i hi h0=>?_⟩,⟨_,_,_,_,hx _ _ a1,b1⟩,_,_,_,_,hx _ _ a2,b2⟩;obtain⟨w7,g7,s7,x7,a7,b7⟩:=h4 i hi h0;exact⟨_,_,_,_,hx _ _ a7,b7⟩
def wH (nx:Nat)(l:List Pt)(m:List Ed)(c1 c2:Nat)(n:Int):Heap:=m8 nx (VT l m c1 c2 n)
theorem aFd {l:List Pt}{m:List Ed}{c1 c2:Nat}{n:Int}(hl:l.length≤1000){k:Nat}{o:aS}(hk:look (VT l m c1 c2 n) k=some o):k<2004 :=
 (KU hl k o (JQ k o hk)).1
theorem aHY {nx:Nat}{l:List Pt}{m:List Ed}{c1 c2:Nat}{n:Int}(hl:l.length≤1000){k:Nat}{o:aS}(hk:look (wH nx l m c1 c2 n) k=some o):nx≤k∧k<nx+2004:=by
 obtain⟨j,o',e1,e2,_⟩:=kW _ hk;have:=aFd hl e2;omega
theorem aEl {nx:Nat}{l:List Pt}{m:List Ed}{c1 c2:Nat}{n:Int}(hl:l.length≤1000){k:Nat}(hk:k<nx∨nx+2004≤k):look (wH nx l m c1 c2 n) k=none:=by
 cases h:look (wH nx l m c1 c2 n) k with
 |none=>rfl
 |some o=>exfalso;have:=aHY hl h;omega
theorem FI {nx:Nat}{l:List Pt}{m:List Ed}{c1 c2:Nat}{n:Int}{j:Nat}{o:aS}(h:look (tJ l m) j=some o)(h1:j≠4)(h2:j≠2000):look (wH nx l m c1 c2 n) (nx+(3+j))=some (V0 nx (V0 3 o)):=by
 refine jM _ ?_;unfold VT;rw [aZ (by omega),aZ (by omega)];exact jM _ h
theorem aIR {nx:Nat}{l:List Pt}{m:List Ed}{c1 c2:Nat}{n:Int}(ho:cZ l m n=true)(hs:l.length≤1000∧m.length≤1000):WA (wH nx l m c1 c2 n) (nx+7) l m n:=by
 have hfl:∀ {α:Type} (E:El α) (x:List α) (k:Nat),(flat E.fl x).map (bM fun i=>k+i)=flat E.fl x:=fun E x k=>bP (aF E x);have hst:look (wH nx l m c1 c2 n) (nx+7)=some (.cells true false 1 (FV (nx+3) (nx+4) (nx+9) (nx+8) (nx+2003) l.length m.length (aL l m m.length).length (outs l m).length c1 c2 n (some ((aL l m m.length).length,(aL l m m.length).length)))):=by
  refine (jM _ (o:=M5 (WH l m c1 c2 n) (.slice (some ⟨2003,0,none⟩) (aL l m m.length).length (aL l m m.length).length)) rfl).trans ?_;rfl
 refine⟨ho,hs,nx+3,nx+4,nx+9,nx+8,nx+2003,fun i=>nx+(3+(i+1000)),c1,c2,⟨⟨_,_,_,hst⟩,⟨_,_,_,_,FI (j:=0) rfl (by omega) (by omega),?_⟩,⟨_,_,_,_,FI (j:=6) rfl (by omega) (by omega),?_⟩,⟨true,false,1,?_⟩,fun i hi h0=>⟨true,false,1,flat aU.fl (bE (outs l m) i),?_,List.take_length⟩⟩,⟨_,_,_,_,FI (j:=1) rfl (by omega) (by omega),?_⟩,⟨true,false,1,flat aU.fl (bX l m).face,?_,List.take_length⟩⟩
 ·rw [hfl,hfl];exact List.take_length
 ·rw [hfl,hfl];exact List.take_length
 ·rw [FI (j:=5) (o:=.cells true false 1 (tC (outs l m).length (outs l m))) rfl (by omega) (by omega)];show some (aS.cells true false 1 (((tC (outs l m).length (outs l m)).map (bM fun k=>3+k)).map (bM fun k=>nx+k)))=_;unfold tC;rw [List.map_map,List.map_map];congr 2;refine List.map_congr_left fun i hi=>?_;show bM _ (bM _ (tV (tN (outs l m).length i) (bE (outs l m) i)))=_;rw [DF,DF];unfold tN;rw [if_neg (by have:=List.mem_range.1 hi;omega)]
 ·have hil:i<l.length:=(by rw [eJ] at hi;exact hi);have:look (tJ l m) (i+1000)=some (ob (bE (outs l m) i)):=by
   unfold tJ;rw [aZ (by omega),aZ (by omega),aZ (by omega),aZ (by omega)];exact jR (by omega) h0 hi
  rw [FI this (by omega) (by omega)];show some (aS.cells true false 1 (((flat aU.fl (bE (outs l m) i)).map (bM fun k=>3+k)).map (bM fun k=>nx+k)))=_;rw [hfl,hfl]
 ·rw [hfl,hfl];exact List.take_length
 ·refine (jM (VT l m c1 c2 n) (j:=2003) (o:=.cells true false 1 (flat aU.fl (bX l m).face)) rfl).trans ?_;show some (aS.cells true false 1 ((flat aU.fl (bX l m).face).map (bM fun k=>nx+k)))=_;rw [hfl]
def wN (nx:Nat)(l:List Pt)(m:List Ed)(c1 c2:Nat)(n:Int)(T:List Value)(W:Heap):Heap :=
 (nx+7,.cells true false 1 (FV (nx+3) (nx+4) (nx+9) (nx+8) (nx+2003) l.length m.length (aL l m m.length).length (outs l m).length c1 c2 n (some ((aL l m m.length).length,(aL l m m.length).length)))) ::
 (nx+2003,.cells true false 1 (flat aU.fl (bX l m).face))::(nx+9,.cells true false 5 (flat p0.fl (aL l m m.length)))::(nx+8,.cells true false 1 T)::(nx+3,.cells false true a8.sz (flat a8.fl l))::(nx+4,.cells false true aX.sz (flat aX.fl m))::W
def wTb (nx:Nat)(l:List Pt)(m:List Ed):List Value:=((tC (outs l m).length (outs l m)).map (bM fun k=>3+k)).map (bM fun k=>nx+k)
def wT (nx:Nat)(l:List Pt)(m:List Ed):Heap:=m8 nx (m8 3 (tH (outs l m).length (outs l m) (outs l m).length))
theorem R3 {nx:Nat}{l:List Pt}{m:List Ed}{c1 c2:Nat}{n:Int}:wH nx l m c1 c2 n=wN nx l m c1 c2 n (wTb nx l m) (wT nx l m):=by
 have hfl:∀ {α:Type} (E:El α) (x:List α) (k:Nat),(flat E.fl x).map (bM fun i=>k+i)=flat E.fl x:=fun E x k=>bP (aF E x);unfold wN;rw [show FV (nx+3) (nx+4) (nx+9) (nx+8) (nx+2003) l.length m.length (aL l m m.length).length (outs l m).length c1 c2 n (some ((aL l m m.length).length,(aL l m m.length).length))=(FV 3 4 9 8 2003 l.length m.length (aL l m m.length).length (outs l m).length c1 c2 n (some ((aL l m m.length).length,(aL l m m.length).length))).map (bM fun i=>nx+i) from rfl];have e1:=(hfl aU (bX l m).face nx).symm;have e2:flat p0.fl (aL l m m.length)=((flat p0.fl (aL l m m.length)).map (bM fun i=>3+i)).map (bM fun i=>nx+i):=(by rw [hfl,hfl]);have e3:flat a8.fl l=((flat a8.fl l).map (bM fun i=>3+i)).map (bM fun i=>nx+i):=(by rw [hfl,hfl]);have e4:flat aX.fl m=((flat aX.fl m).map (bM fun i=>3+i)).map (bM fun i=>nx+i):=(by rw [hfl,hfl]);rw [e1,e2,e3,e4];rfl
theorem aEC {nx:Nat}{l:List Pt}{m:List Ed}{c1 c2:Nat}{n:Int}(ho:cZ l m n=true)(hs:l.length≤1000∧m.length≤1000):WA (wN nx l m c1 c2 n (wTb nx l m) (wT nx l m)) (nx+7) l m n:=R3▸aIR ho hs
theorem aAj {nx:Nat}{l:List Pt}{m:List Ed}{c1 c2:Nat}{n:Int}(hl:l.length≤1000){k:Nat}(hk:k<nx∨nx+2004≤k):look (wN nx l m c1 c2 n (wTb nx l m) (wT nx l m)) k=none:=R3▸aEl hl hk
def aD2:Nat × XF:=(35,fun args h nx K=>∃ l m n p q,args=[mapA p q n]∧n9 a8 h p l∧n9 aX h q m∧(l.length≤1000∧m.length≤1000) ∧
 ((cZ l m n=true∧K (.tuple #[.pointer (some ⟨nx+7,0,none⟩),iv 0]) (app (dT h) (wN nx l m (oE p) (oE q) n (wTb nx l m) (wT nx l m))) (nx+2004))∨(cZ l m n=false∧K (.tuple #[.pointer none,iv 1]) h nx)))
theorem WQ {ι:Nat→Loc}{B:Nat}{h h':Heap}{nx:Nat}{w:World}(H:aO ι B h nx w)(e:∀ k,look h' k=look h k):aO ι B h' nx w :=
 ⟨fun k o hk=>H.obj k o (by rw [← e];exact hk),fun k k' o o' hk hk'=>H.sep k k' o o' (by rw [← e];exact hk) (by rw [← e];exact hk'),fun k o hk=>H.low k o (by rw [← e];exact hk),H.size,fun k o hk=>H.sc k o (by rw [← e];exact hk)⟩
theorem aIN:dK Go.Proofs.Tryz.prog aD2.1 aD2.2:=by
 refine⟨fun args h nx K hx ι B w H hs=>?_,fun args h nx K hx=>?_⟩
 ·obtain⟨l,m,n,p,q,rfl,hl,hm,hlm,hx⟩:=hx;rw [← R3] at hx;have h0:=aHz.1 [mapA p q n] h nx (fun v h' nx'=>∃ h'',(∀ k,look h'' k=look h' k)∧K v h'' nx') ⟨l,m,n,p,q,rfl,hl,hm,hlm,by
   rcases hx with ⟨ho,hx⟩|⟨ho,hx⟩
   ·refine .inl ⟨ho,_,fun k=>?_,hx⟩;rw [gD,gD,jD];cases e1:look h k with
    |none =>
     show look (wH nx l m (oE p) (oE q) n) k=_;cases e2:look (m8 nx (VT l m (oE p) (oE q) n)) k with
     |none=>exact e2
     |some o=>exact e2
    |some o =>
     have hlow:=H.low k o e1;have e2:look (m8 nx (VT l m (oE p) (oE q) n)) k=none:=aEl hlm.1 (.inl hlow);rw [e2];rfl
   ·exact .inr ⟨ho,_,fun k=>rfl,hx⟩⟩ ι B w H hs
  refine⟨h0.1,CallsIn.mono h0.2 fun e w' hr=>?_⟩;cases e with
  |returned u =>
   obtain⟨v,h1,nx1,ι1,⟨h2,e2,hk⟩,a1,a2,a3,a4,a5,a6⟩:=hr;exact⟨v,h2,nx1,ι1,hk,a1,WQ a2 e2,a3,a4,a5,a6⟩
  |_=>exact hr.elim
 ·obtain⟨l,m,n,p,q,rfl,hl,hm,hlm,hx⟩:=hx;rcases hx with ⟨ho,hx⟩|⟨ho,hx⟩
  ·exact⟨_,_,_,hx,fun K' hk=>⟨l,m,n,p,q,rfl,hl,hm,hlm,.inl ⟨ho,hk⟩⟩⟩
  ·exact⟨_,_,_,hx,fun K' hk=>⟨l,m,n,p,q,rfl,hl,hm,hlm,.inr ⟨ho,hk⟩⟩⟩
def foM (l:List Pt)(m:List Ed):Option (Nat × Nat):=some ((aL l m m.length).length,(aL l m m.length).length)
def wR (l:List Pt)(m:List Ed)(n:Int)(c1 c2:Nat)(s:Nat):Heap :=
 (5,.cells false true aX.sz (flat aX.fl m))::(6,.cells false true 1 (flat aU.fl (bX l m).face))::eP l (aL l m m.length) (outs l m) m.length c1 c2 n (foM l m) s
theorem OG {h:Heap}{p:Nat}{l:List Pt}{m:List Ed}{n:Int}(hw:WA h p l m n)(k3 s:Nat):∃ c1 c2,∃ ρ:Nat→Nat,ρ 0=p∧ρ 3=k3 ∧
  ∀ k o,look (wR l m n c1 c2 s) k=some o→k<2000∧∃ g sz cs0,o=.cells false g sz cs0∧sz≠0∧(g=true→dE cs0=true)∧(∀ v∈cs0,BR 2000 v)∧∃ wr g' sz' cs,look h (ρ k)=some (.cells wr g' sz' cs)∧cs.take cs0.length=cs0.map (bM ρ):=by
 obtain⟨ok,sm,k0,k1,kd,kt,kf,nm,c1,c2,w,⟨w1,g1,s1,x1,a1,b1⟩,w2,g2,s2,x2,a2,b2⟩:=hw;refine⟨c1,c2,rhW p k0 k1 kd kt kf k3 nm s,rfl,rfl,fun k o hk=>?_⟩;unfold wR at hk;rw [aB] at hk;split at hk
 ·rename_i hb;injection hk with hk;subst hk;have:=beq_true hb;subst this;exact⟨by omega,true,aX.sz,_,rfl,by decide,fun _=>aF aX m,fun v hv=>cD (a9 (aF aX m) hv),w1,g1,s1,x1,a1,by rw [b1];exact (bP (aF aX m)).symm⟩
 ·rw [aB] at hk;split at hk
  ·rename_i hb;injection hk with hk;subst hk;have:=beq_true hb;subst this;exact⟨by omega,true,1,_,rfl,by omega,fun _=>aF aU _,fun v hv=>cD (a9 (aF aU _) hv),w2,g2,s2,x2,a2,by rw [b2];exact (bP (aF aU _)).symm⟩
  ·exact KM w (by rw [eJ];exact sm.1) s k o hk
theorem aHW {h:Heap}{p:Nat}{l:List Pt}{m:List Ed}{n:Int}(hw:WA h p l m n)(s:Nat){r:List Value}(hr:eY r=true){nx:Nat}:∃ c1 c2,In (.pointer (some ⟨0,0,none⟩)::r) (wR l m n c1 c2 s) 2000 (.pointer (some ⟨p,0,none⟩)::r) h nx:=by
 obtain⟨c1,c2,ρ,e0,_,ho⟩:=OG hw 0 s;refine⟨c1,c2,vN ρ ?_ ?_ ho⟩
 ·rw [List.map_cons];congr 1
  ·show _=Value.pointer (some ⟨ρ 0,0+0,none⟩);rw [e0]
  ·conv=>lhs;rw [← List.map_id r]
   exact List.map_congr_left fun v hv=>by rw [iM,fU (bV hr hv)];rfl
 ·exact List.forall_mem_cons.2 ⟨⟨Nat.le_of_ble_eq_true rfl,rfl⟩,fun v hv=>dD (bV hr hv)⟩
theorem aEY {h:Heap}{p k3:Nat}{l:List Pt}{m:List Ed}{n:Int}(hw:WA h p l m n)(s:Nat){L:List Int}{c:Nat}(hL:∃ wr g sz cs,look h k3=some (.cells wr g sz cs)∧cs.take (flat aU.fl L).length=flat aU.fl L){nx:Nat} :
  ∃ c1 c2,In [.pointer (some ⟨0,0,none⟩),.slice (some ⟨3,0,none⟩) L.length c] ((3,.cells false true 1 (flat aU.fl L))::wR l m n c1 c2 s) 2000 [.pointer (some ⟨p,0,none⟩),.slice (some ⟨k3,0,none⟩) L.length c] h nx:=by
 obtain⟨c1,c2,ρ,e0,e3,ho⟩:=OG hw k3 s;refine⟨c1,c2,vN ρ ?_ ?_ fun k o hk=>?_⟩
 ·show _=[Value.pointer (some ⟨ρ 0,0+0,none⟩),.slice (some ⟨ρ 3,0+0,none⟩) L.length c];rw [e0,e3]
 ·exact List.forall_mem_cons.2 ⟨⟨Nat.le_of_ble_eq_true rfl,rfl⟩,List.forall_mem_cons.2 ⟨⟨Nat.le_of_ble_eq_true rfl,fun h=>by cases h⟩,fun _ h=>(by cases h)⟩⟩
 ·rw [aB] at hk;split at hk
  ·rename_i hb;injection hk with hk;subst hk;have:=beq_true hb;subst this;obtain⟨wr,g,sz,cs,h1,h2⟩:=hL;exact⟨by omega,true,1,_,rfl,by omega,fun _=>aF aU L,fun v hv=>cD (a9 (aF aU L) hv),wr,g,sz,cs,by rw [e3];exact h1,by rw [h2];exact (bP (aF aU L)).symm⟩
  ·exact ho k o hk
def wcX (s:List Pt→List Ed→Int→List Value→Option (Bool × Value)):XF:=fun args h nx K =>
 ∃ p r l m n,args=.pointer (some ⟨p,0,none⟩)::r∧WA h p l m n∧(match s l m n r with|some pr=>dI pr.1 (K pr.2 h nx)|none=>False)
theorem aFU {P:Program}{C:VC}{f:Nat}{s:List Pt→List Ed→Int→List Value→Option (Bool × Value)}(hC:bF P C)
  (hs:∀ l m n r v,s l m n r=some (true,v)→cZ l m n=true→l.length≤1000∧m.length≤1000→eY r=true∧gT v=true∧∃ s0,∀ c1 c2,C f (.pointer (some ⟨0,0,none⟩)::r) (wR l m n c1 c2 s0) 2000 (fun u _ _=>u=v)):dK P f (wcX s):=by
 refine (jU (S:=fun args0 h0 n0 v1 h1 k=>gT v1=true∧C f args0 h0 n0 (fun u _ _=>u=v1)∧h1=[]∧k=0) hC ?_).mono ?_ ?_
 ·rintro args0 h0 n0 v1 h1 k ⟨e2,e3,rfl,rfl⟩;exact⟨rfl,_,e3,fun v h nx e=>by rw [e];exact mJ e2⟩
 ·rintro args h nx K ⟨p,r,l,m,n,rfl,hw,hx⟩;split at hx
  case h_2=>exact hx.elim
  rename_i pr e1;obtain⟨bb,u⟩:=pr;obtain⟨rfl,hx⟩:=aD.1 hx;obtain⟨a1,a2,s0,a4⟩:=hs l m n r u e1 hw.ok hw.sm;obtain⟨c1,c2,i⟩:=aHW hw s0 a1 (nx:=nx);refine⟨_,_,2000,u,[],0,⟨a2,a4 c1 c2,rfl,rfl⟩,i,?_⟩;simp only [qH,wQ,m8,nJ,sI a2,Nat.add_zero];exact hx
 ·rintro args h nx K ⟨p,r,l,m,n,rfl,hw,hx⟩;split at hx
  case h_2=>exact hx.elim
  rename_i pr e1;obtain⟨hb,hx⟩:=aD.1 hx;exact⟨pr.2,h,nx,hx,fun K' hk=>⟨p,r,l,m,n,rfl,hw,by rw [e1];exact aJ hb hk⟩⟩
def aHZ (s:List Pt→List Ed→Int→List Int→Option (Bool × Value)):XF:=fun args h nx K =>
 ∃ p k3 l m n L c,args=[.pointer (some ⟨p,0,none⟩),.slice (some ⟨k3,0,none⟩) L.length c]∧WA h p l m n∧(∃ wr g sz cs,look h k3=some (.cells wr g sz cs)∧cs.take (flat aU.fl L).length=flat aU.fl L)∧(match s l m n L with|some pr=>dI pr.1 (K pr.2 h nx)|none=>False)
theorem aCC {P:Program}{C:VC}{f:Nat}{s:List Pt→List Ed→Int→List Int→Option (Bool × Value)}(hC:bF P C)
  (hs:∀ l m n L v,s l m n L=some (true,v)→cZ l m n=true→l.length≤1000∧m.length≤1000→gT v=true∧∃ s0,∀ c1 c2 c,C f [.pointer (some ⟨0,0,none⟩),.slice (some ⟨3,0,none⟩) L.length c] ((3,.cells false true 1 (flat aU.fl L))::wR l m n c1 c2 s0) 2000 (fun u _ _=>u=v)):dK P f (aHZ s):=by
 refine (jU (S:=fun args0 h0 n0 v1 h1 k=>gT v1=true∧C f args0 h0 n0 (fun u _ _=>u=v1)∧h1=[]∧k=0) hC ?_).mono ?_ ?_
 ·rintro args0 h0 n0 v1 h1 k ⟨e2,e3,rfl,rfl⟩;exact⟨rfl,_,e3,fun v h nx e=>by rw [e];exact mJ e2⟩
 ·rintro args h nx K ⟨p,k3,l,m,n,L,c,rfl,hw,hL,hx⟩;split at hx
  case h_2=>exact hx.elim
  rename_i pr e1;obtain⟨bb,u⟩:=pr;obtain⟨rfl,hx⟩:=aD.1 hx;obtain⟨a2,s0,a4⟩:=hs l m n L u e1 hw.ok hw.sm;obtain⟨c1,c2,i⟩:=aEY hw s0 hL (c:=c) (nx:=nx);refine⟨_,_,2000,u,[],0,⟨a2,a4 c1 c2 c,rfl,rfl⟩,i,?_⟩;simp only [qH,wQ,m8,nJ,sI a2,Nat.add_zero];exact hx
 ·rintro args h nx K ⟨p,k3,l,m,n,L,c,rfl,hw,hL,hx⟩;split at hx
  case h_2=>exact hx.elim
  rename_i pr e1;obtain⟨hb,hx⟩:=aD.1 hx;exact⟨pr.2,h,nx,hx,fun K' hk=>⟨p,k3,l,m,n,L,c,rfl,hw,hL,by rw [e1];exact aJ hb hk⟩⟩
theorem aCR {s:List Pt→List Ed→Int→List Value→Option (Bool × Value)}:∀ args h nx,eL (wcX s args h nx):=by
 rintro args h nx K ⟨p,r,l,m,n,rfl,hw,hx⟩;split at hx
 case h_2=>exact hx.elim
 rename_i pr e1;obtain⟨hb,hx⟩:=aD.1 hx;exact⟨pr.2,h,nx,hx,fun K' hk=>⟨p,r,l,m,n,rfl,hw,by rw [e1];exact aJ hb hk⟩⟩
def ofW {ρ:Type}(s:List Pt→List Dt→List (List Int)→ρ):List Pt→List Ed→Int→ρ:=fun l m _=>s l (aL l m m.length) (outs l m)
theorem aG6 {P:Program}{f:Nat}{s:List Pt→List Dt→List (List Int)→List Value→Option (Bool × Value)}(h:dK P f (wbX s)):dK P f (wcX (ofW s)):=by
 refine h.mono ?_ aCR;rintro args h nx K ⟨p,r,l,m,n,rfl,hw,hx⟩;obtain⟨ok,sm,k0,k1,kd,kt,kf,nm,c1,c2,w,_⟩:=hw;exact⟨p,r,k0,k1,kd,kt,kf,nm,l,_,_,_,c1,c2,n,_,rfl,w,hx⟩
def aIA (s:List Pt→List Ed→Int→List Value→YS Int):XF:=fun args h nx K =>
 ∃ p r l m n,args=.pointer (some ⟨p,0,none⟩)::r∧WA h p l m n∧(match s l m n r with|some pr=>dI pr.1 (K (ylV pr.2.1 pr.2.2 nx) (cC h nx (.cells true false 1 (flat aU.fl pr.2.1))) (nx+1))|none=>False)
theorem aDi {P:Program}{f:Nat}{s:List Pt→List Dt→List (List Int)→List Value→YS Int}(h:dK P f (aEM s)):dK P f (aIA (ofW s)):=by
 refine h.mono ?_ ?_
 ·rintro args h nx K ⟨p,r,l,m,n,rfl,hw,hx⟩;obtain⟨ok,sm,k0,k1,kd,kt,kf,nm,c1,c2,w,_⟩:=hw;exact⟨p,r,k0,k1,kd,kt,kf,nm,l,_,_,_,c1,c2,n,_,rfl,w,hx⟩
 ·rintro args h nx K ⟨p,r,l,m,n,rfl,hw,hx⟩;split at hx
  case h_2=>exact hx.elim
  rename_i pr e1;obtain⟨hb,hx⟩:=aD.1 hx;exact⟨_,_,_,hx,fun K' hk=>⟨p,r,l,m,n,rfl,hw,by rw [e1];exact aJ hb hk⟩⟩
def YH (nx:Nat):Heap→Bool
 |[]=>true
 |(k,_)::r=>Nat.blt k nx&&YH nx r
theorem zK {nx:Nat}:∀ {H:Heap},YH nx H=true→∀ k o,look H k=some o→k<nx
 |[],_,k,o,h=>by cases h
 |(j,q)::r,hl,k,o,h=>by
  simp only [YH,Bool.and_eq_true] at hl;rw [aB] at h;split at h
  ·rename_i hb;rw [← beq_true hb];exact Nat.le_of_ble_eq_true hl.1
  ·exact zK hl.2 k o h
theorem ZB {H W:Heap}{p nx:Nat}{l:List Pt}{m:List Ed}{n:Int}(hw:WA W p l m n)(hno:∀ k,k<nx→look W k=none)(hH:YH nx H=true):WA (app H W) p l m n :=
 hw.ext fun k o hk=>by
  rw [gD];cases hh:look H k with
  |none=>exact hk
  |some o'=>rw [hno k (zK hH k o' hh)] at hk;cases hk
theorem PZ {h:Heap}{p q:Nat}{v:aS}{l:List Pt}{m:List Ed}{n:Int}(hw:WA h p l m n)(hq:look h q=none):WA (cC h q v) p l m n:=hw.ext (ext_cons (fun _ _ h=>h) hq)
theorem aD6 {H W:Heap}{nx k:Nat}(hH:YH nx H=true)(hk:nx≤k)(hW:look W k=none):look (app H W) k=none:=by
 rw [gD];cases hh:look H k with
 |none=>exact hW
 |some o'=>have:=zK hH k o' hh;omega
def RS (xl:List (Nat × XF))(k:Nat):B9:={ aA with X:=look xl,M:=k }
theorem CO {xl:List (Nat × XF)}(h:lB xl)(k:Nat):oS Go.Proofs.Tryz.prog (RS xl k) where
 ar:=fN.ar
 tab:=fN.tab
 mixed:=fN.mixed
 funcs:=fN.funcs
 xs:=h.look
def GB (n a:Int):Bool:=decide (0≤a)&&decide (a≤n)
def aF0 (l:List Pt)(m:List Ed)(n:Int):List Int→Option (Bool × Value)
 |[a]=>some (true,.bool (GB n a))
 |[a,b]=>some (true,.bool (GB n a&&GB n b))
 |_=>none
def aDe:Nat × XF:=(41,aHZ aF0)
theorem aJK:dK Go.Proofs.Tryz.prog aDe.1 aDe.2:=aCC (f:=41) (s:=aF0) (iX (CO (xl:=[]) .nil 4) 6).1 fun l m n L v hs ho hm=>by
 have:(∃ a,L=[a]∧v=.bool (GB n a))∨(∃ a b,L=[a,b]∧v=.bool (GB n a&&GB n b)):=by
  unfold aF0 at hs;split at hs
  ·injection hs with hs;injection hs with h1 h2;exact .inl ⟨_,rfl,h2.symm⟩
  ·injection hs with hs;injection hs with h1 h2;exact .inr ⟨_,_,rfl,h2.symm⟩
  ·cases hs
 clear hs;rcases this with ⟨a,rfl,rfl⟩|⟨a,b,rfl,rfl⟩
 ·refine⟨rfl,0,fun c1 c2 c=>?_⟩;unfold GB;unfold wR eP FV
  repeat' (((conv=>whnf);refine bm (fun g=>?_) (fun g=>?_)))
  all_goals (conv=>whnf)
  all_goals (show Value.bool _=Value.bool _;congr 1;simp [RS,aA,aG] at *;try omega)
 ·refine⟨rfl,0,fun c1 c2 c=>?_⟩;unfold GB;unfold wR eP FV
  repeat' (((conv=>whnf);refine bm (fun g=>?_) (fun g=>?_)))
  all_goals (conv=>whnf)
  all_goals (show Value.bool _=Value.bool _;congr 1;simp [RS,aA,aG] at *;try omega)
theorem YK (l:List Pt)(m:List Ed):(bX l m).face.length=(aL l m m.length).length:=(lV l (aL l m m.length) (outs l m) (aL l m m.length).length).1
def lsS (l:List Pt)(m:List Ed)(n:Int):List Value→Option (Bool × Value)
 |[.int .i64 f]=>some (true,iv (oG f (bX l m).face 0))
 |_=>none
def aCV:Nat × XF:=(43,wcX lsS)
theorem aJt:dK Go.Proofs.Tryz.prog aCV.1 aCV.2:=aFU (f:=43) (s:=lsS) (iX (CO (xl:=[qC]) (.cons aEB .nil) 4) 6).1 fun l m n r v hs ho hm=>by
 have:∃ f,r=[iv f]∧v=iv (oG f (bX l m).face 0):=by
  unfold lsS at hs;split at hs
  ·injection hs with hs;injection hs with h1 h2;exact⟨_,rfl,h2.symm⟩
  ·cases hs
 obtain⟨f,rfl,rfl⟩:=this;refine⟨rfl,rfl,0,fun c1 c2=>?_⟩;have hl:=YK l m;have hd:=aY l m m.length;unfold wR eP FV foM;rw [← hl];(conv=>whnf);refine⟨(bX l m).face,bJ aU rfl,?_⟩;((conv=>whnf);refine bm (fun g=>?_) (fun g=>?_))
 ·(conv=>whnf)
 ·exfalso;have g:decide ((bX l m).face.length≤1000000)=false:=g;rw [decide_eq_true (by omega)] at g;cases g
theorem kD {l:List Pt}{m:List Ed}{n:Int}(h:cZ l m n=true):cL l m n=true:=by
 simp only [cZ,iP,Bool.and_eq_true] at h;exact h.1.1
def aFk:Nat × XF:=(46,wcX (ofW nxS))
theorem aKB:dK Go.Proofs.Tryz.prog aFk.1 aFk.2:=aG6 aHF
def FN (l:List Pt)(m:List Ed)(n d:Int):Bool:=cZ l m n&&(decide (0≤d)&&decide (d<2*m.length))
def nxP (l:List Pt)(m:List Ed)(n:Int):List Value→Option (Bool × Value)
 |[.int .i64 d]=>some (decide (l.length≤1000)&&decide (m.length≤1000),.tuple #[iv (if FN l m n d=true then qV (aL l m m.length) (outs l m) d else 0),iv (if FN l m n d=true then 0 else 1)])
 |_=>none
def aGb:Nat × XF:=(13,mX a8 aX nxP)
theorem aJN:dK Go.Proofs.Tryz.prog aGb.1 aGb.2:=AQ a8 aX (iX (CO (xl:=[aD2,aFk]) (.cons aIN (.cons aKB .nil)) 4) 6).1 fun l m n r v hs=>by
 have:∃ d,r=[iv d]∧(l.length≤1000∧m.length≤1000)∧v=.tuple #[iv (if FN l m n d=true then qV (aL l m m.length) (outs l m) d else 0),iv (if FN l m n d=true then 0 else 1)]:=by
  unfold nxP at hs;split at hs
  ·injection hs with hs;injection hs with h1 h2;simp only [Bool.and_eq_true,decide_eq_true_eq] at h1;exact⟨_,rfl,h1,h2.symm⟩
  ·cases hs
 obtain⟨d,rfl,hlm,rfl⟩:=this;clear hs;refine⟨rfl,rfl,fun c1 c2=>?_⟩;(conv=>whnf);refine⟨l,m,n,.slice (some ⟨0,0,none⟩) l.length c1,.slice (some ⟨1,0,none⟩) m.length c2,rfl,bJ a8 rfl,bJ aX rfl,hlm,?_⟩;have hlst:=fun ho=>EP (kD (l:=l) (m:=m) (n:=n) ho);have hd:=aY l m m.length;have hnb:FN l m n d=(cZ l m n&&(decide (0≤d)&&decide (d<2*m.length))):=rfl;cases ho:cZ l m n with
 |false =>
  rw [ho,Bool.false_and] at hnb;refine .inr ⟨rfl,?_⟩;(conv=>whnf);rw [hnb];rfl
 |true =>
  rw [ho,Bool.true_and] at hnb;have hw:=hlst ho;refine .inl ⟨rfl,?_⟩;have hW:WA _ (2+1+1+1+7) l m n:=aEC (nx:=2+1+1+1) (c1:=c1) (c2:=c2) ho hlm;have hno:∀ k,k<2+1+1+1→_:=fun k hk=>aAj (nx:=2+1+1+1) (m:=m) (c1:=c1) (c2:=c2) (n:=n) hlm.1 (.inl hk);generalize wT _ l m=W at hW hno ⊢;generalize wTb _ l m=TB at hW hno ⊢;((conv=>whnf);refine bm (fun g1=>?_) (fun g1=>?_))
  ·have g1:0≤d:=(by simp [RS,aA,aG] at g1;omega);((conv=>whnf);refine bm (fun g2=>?_) (fun g2=>?_))
   ·have g2:2*(m.length:Int)≤d:=(by simp [RS,aA,aG,hd] at g2;omega);(conv=>whnf);rw [hnb,decide_eq_false (show ¬ d<2*(m.length:Int) by omega),Bool.and_false];rfl
   ·have g2:d<2*(m.length:Int):=(by simp [RS,aA,aG,hd] at g2;omega);(conv=>whnf);refine⟨_,_,l,m,n,rfl,ZB hW hno rfl,?_⟩;((conv=>whnf);refine bm (fun g3=>?_) (fun g3=>?_))
    ·(conv=>whnf);rw [hnb,decide_eq_true g1,decide_eq_true g2];rfl
    ·exfalso;have g3:nxB (aL l m m.length) (outs l m) d=false:=g3;rw [(CN hw g1 (by rw [hd];omega)).1] at g3;cases g3
  ·have g1:d<0:=(by simp [RS,aA,aG] at g1;omega);(conv=>whnf);rw [hnb,decide_eq_false (show ¬ 0≤d by omega),Bool.false_and];rfl
def aCP:Nat × XF:=(42,aIA (ofW wkS))
theorem aK5:dK Go.Proofs.Tryz.prog aCP.1 aCP.2:=aDi aIS
def GI (l:List Pt)(m:List Ed)(f:Int):List Int:=nS (aL l m m.length) (outs l m) (oG f (bX l m).face 0)
def xS (l:List Pt)(m:List Ed)(n f:Int):Bool:=cZ l m n&&(decide (0≤f)&&decide (f≤n))
theorem Y2 {l:List Pt}{m:List Ed}{n f:Int}(ho:cZ l m n=true)(h0:0≤f)(h1:f≤n):∃ d:Int,oG f (bX l m).face 0=d∧0≤d∧d<2*m.length∧rE l (aL l m m.length) (outs l m)=true∧iY (aL l m m.length) (outs l m) d (gB (aL l m m.length) (outs l m) d)=d∧XP (aL l m m.length) (nS (aL l m m.length) (outs l m) d)=true∧1≤(nS (aL l m m.length) (outs l m) d).length∧(nS (aL l m m.length) (outs l m) d).length≤2*m.length+1:=by
 obtain⟨k,b1,b2,b3,b4⟩:=xN ho h0 h1;have hok:=kD ho;have hw:=List.all_eq_true.1 (vK hok) k (List.mem_range.2 (by rw [aY];exact b1));have w:=QB (l:=l) (EP hok) (d:=k) (by rw [aY];exact b1);have p:=gP (aL l m m.length) (outs l m) k (aL l m m.length).length 1;refine⟨k,b4,by omega,by omega,EP hok,of_decide_eq_true hw,w.1,?_,?_⟩
 ·exact w.2.2
 ·have:=w.2.1;rw [aY] at this;exact this
end Go.Aw
end
