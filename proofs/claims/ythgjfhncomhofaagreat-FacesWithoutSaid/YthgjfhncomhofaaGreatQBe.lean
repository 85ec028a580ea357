/-
  FacesWithout No condition.
-/
import Derived.Test.YthgjfhncomhofaaGreatQAi
import Derived.Test.YthgjfhncomhofaaGreatQAk
import Derived.Test.YthgjfhncomhofaaGreatQAo
import Derived.Test.YthgjfhncomhofaaGreatQAy
import Derived.Test.YthgjfhncomhofaaGreatQAz
import Derived.Test.YthgjfhncomhofaaGreatQBb
import Derived.Test.YthgjfhncomhofaaGreatQBd
set_option linter.unusedSimpArgs false
set_option linter.unusedVariables false
noncomputable section
namespace Go.Aw
open Proofs
set_option maxRecDepth 100000
section
variable {l:List Pt}{m:List Ed}{n ln:Int}
theorem aJG (hp:fE l m n=true){k:Nat}(hk:k<m.length):vO l m (bB l m k)=k:=by
 have hok:=eC hp;obtain⟨r1,l1⟩:=sY hok hk;have hb:wF l m (bB l m k) k=true:=by
  have r2:=r1;simp only[c8,af]at r2;unfold wF OnR;rw[r1,r2.1.1,r2.1.2,lO (bB l m k) _ (.inl rfl),lO (bB l m k) _ (.inr rfl)];rfl
 have hno:∀ j,j<m.length->j≠k->wF l m (bB l m k) j=false:=fun j hj hne=>by
  cases hq:wF l m (bB l m k) j with
  |false=>rfl
  |true =>
   exfalso;simp only[wF,OnR,af]at hq;obtain⟨r3,l3⟩:=sY hok hj;have h1:(bB l m k).1∈l7 (bB l m k) (bB l m j):=U0.2 ⟨.inl rfl,lO (bB l m k) _ (.inl rfl),hq.1.2⟩;have h2:(bB l m k).2∈l7 (bB l m k) (bB l m j):=U0.2 ⟨.inr (.inl rfl),lO (bB l m k) _ (.inr rfl),hq.2.2⟩;have h3:=aGx r1 r3 h1 h2 (fun e=>by rw[e,m6]at l1;cases l1);have h4:=J5 hp hk hj (fun e=>hne e.symm);unfold dW at h4;rw[if_pos ⟨r1,r3⟩]at h4;omega
 have key:∀ d i,i+d=k->∀ N,N=m.length - i->M1 l m (bB l m k) N i=k:=by
  intro d
  induction d with
  |zero =>
   intro i hi N hN;obtain⟨N',rfl⟩:∃ N',N=N'+1:=⟨N - 1,aa⟩;rw[M1,if_pos (by rw[(aa:i=k)];exact hb)];omega
  |succ d ih =>
   intro i hi N hN;obtain⟨N',rfl⟩:∃ N',N=N'+1:=⟨N - 1,aa⟩;rw[M1,if_neg (by rw[hno i aa aa];decide)];exact ih (i+1) aa N' aa
 exact key k 0 aa _ aa
theorem IE (L:List Int)(a b:Int):∀ k,k<=L.length->∀ f,f<L.length->aG (jT L a b k) f=if f<k/\aG L f=b then a else aG L f
 |0,_,f,_=>by rw[if_neg aa];rfl
 |k+1,hk,f,hf=>by
  have ih:=IE L a b k aa;have hkk:=ih k aa;rw[if_neg aa]at hkk;unfold jT;rw[hkk];by_cases hb:aG L k=b
  ·rw[if_pos hb,lR _ _ _ _ (by rw[tU];omega)];by_cases e:f=k
   ·rw[if_pos e,if_pos ⟨aa,by rw[e];exact hb⟩]
   rw[if_neg e,ih f hf];by_cases q:f<k/\aG L f=b
   ·rw[if_pos q,if_pos ⟨aa,q.2⟩]
   rw[if_neg q,if_neg fun h=>q ⟨aa,h.2⟩]
  rw[if_neg hb,ih f hf];by_cases q:f<k/\aG L f=b
  ·rw[if_pos q,if_pos ⟨aa,q.2⟩]
  rw[if_neg q,if_neg fun h=>q ⟨by
   have:f≠k:=fun e=>hb (by rw[<- e];exact h.2);omega,h.2⟩]
theorem SN (L:List Int)(a b:Int):∀ k,k<=L.length->∀ f,f<L.length->aG (uL L a b k) f=if f<k/\(aG L f=a\/aG L f=b)then WH a b else aG L f
 |0,_,f,_=>by rw[if_neg aa];rfl
 |k+1,hk,f,hf=>by
  have ih:=SN L a b k aa;have hkk:=ih k aa;rw[if_neg aa]at hkk;unfold uL;rw[hkk];by_cases hb:aG L k=a\/aG L k=b
  ·rw[if_pos hb,lR _ _ _ _ (by rw[tW];omega)];by_cases e:f=k
   ·rw[if_pos e,if_pos ⟨aa,by rw[e];exact hb⟩]
   rw[if_neg e,ih f hf];by_cases q:f<k/\(aG L f=a\/aG L f=b)
   ·rw[if_pos q,if_pos ⟨aa,q.2⟩]
   rw[if_neg q,if_neg fun h=>q ⟨aa,h.2⟩]
  rw[if_neg hb,ih f hf];by_cases q:f<k/\(aG L f=a\/aG L f=b)
  ·rw[if_pos q,if_pos ⟨aa,q.2⟩]
  rw[if_neg q,if_neg fun h=>q ⟨by
   have:f≠k:=fun e=>hb (by rw[<- e];exact h.2);omega,h.2⟩]
def FcR (m:List Ed)(N:Nat):Prop:=∀ i,i<m.length->(0<=(aU m i).l/\(aU m i).l<N)/\(0<=(aU m i).r/\(aU m i).r<N)
theorem IN {N:Nat}(hF:FcR m N):∀ i,i<=m.length->∀ f,f<N->0<=aG (bW m ln N i) f/\aG (bW m ln N i) f<N
 |0,_,f,hf=>by
  show 0<=aG (fM N) f/\aG (fM N) f<N;rw[I5 hf];omega
 |i+1,hi,f,hf=>by
  have ih:=IN hF i aa;obtain⟨⟨h1,h2⟩,h3,h4⟩:=hF i aa;have hl:=rC m ln N i;unfold bW;split
  ·rw[IE _ _ _ _ aa _ aa];split
   ·exact ih _ aa
   exact ih f hf
  exact ih f hf
theorem aPY (a b:Int):WH a b=a\/WH a b=b:=by unfold WH;split <;> simp
theorem SC {N:Nat}(hF:FcR m N):∀ i,i<=m.length->∀ f g,f<N->g<N->(aG (bW m ln N i) f=aG (bW m ln N i) g↔aG (lC m ln N i) f=aG (lC m ln N i) g)
 |0,_,f,g,hf,hg=>Iff.rfl
 |i+1,hi,f,g,hf,hg=>by
  have ih:=SC hF i aa;obtain⟨⟨h1,h2⟩,h3,h4⟩:=hF i aa;have hl:=rC m ln N i;have hl2:=yC m ln N i;by_cases hn:(aU m i).n=ln
  ·rw[show bW m ln N (i+1)=jT (bW m ln N i) (aG (bW m ln N i) (aU m i).l.toNat) (aG (bW m ln N i) (aU m i).r.toNat) N from if_pos hn,MN hn];rw[IE _ _ _ _ aa _ aa,IE _ _ _ _ aa _ aa,SN _ _ _ _ aa _ aa,SN _ _ _ _ aa _ aa];have i1:=ih f g hf hg;have i2:=ih f (aU m i).l.toNat hf aa;have i3:=ih f (aU m i).r.toNat hf aa;have i4:=ih g (aU m i).l.toNat hg aa;have i5:=ih g (aU m i).r.toNat hg aa;have hm:=aPY (aG (lC m ln N i) (aU m i).l.toNat) (aG (lC m ln N i) (aU m i).r.toNat);generalize WH (aG (lC m ln N i) (aU m i).l.toNat) (aG (lC m ln N i) (aU m i).r.toNat)=z at hm;generalize aG (lC m ln N i) (aU m i).l.toNat=ca at *;generalize aG (lC m ln N i) (aU m i).r.toNat=cb at *;generalize aG (bW m ln N i) (aU m i).l.toNat=oa at *;generalize aG (bW m ln N i) (aU m i).r.toNat=ob at *;generalize aG (bW m ln N i) f=of at *;generalize aG (bW m ln N i) g=og at *;generalize aG (lC m ln N i) f=cf at *;generalize aG (lC m ln N i) g=cg at *;simp only[hf,hg,true_and];clear ih
   grind
  rw[show bW m ln N (i+1)=bW m ln N i from if_neg hn,RA hn];exact ih f g hf hg
theorem aBq (cls L:List Int)(a b nl nr:Int):∀ k,k<=L.length->∀ f,f<L.length->aG (qA cls L a b nl nr k) f=if f<k then(if aG cls f=b then nr else if aG cls f=a then nl else aG L f)else aG L f
 |0,_,f,_=>by rw[if_neg aa];rfl
 |k+1,hk,f,hf=>by
  have ih:=aBq cls L a b nl nr k aa;have hl:=D9 cls L a b nl nr k;have hkk:=ih k aa;rw[if_neg aa]at hkk;by_cases e:f=k
  ·subst e;rw[if_pos aa];by_cases hb:aG cls f=b
   ·by_cases ha:aG cls f=a
    ·rw[QE ha hb,lR _ _ _ _ (by rw[List.length_set];omega),if_pos rfl,if_pos hb]
    rw[QU ha hb,lR _ _ _ _ aa,if_pos rfl,if_pos hb]
   by_cases ha:aG cls f=a
   ·rw[P0 ha hb,lR _ _ _ _ aa,if_pos rfl,if_neg hb,if_pos ha]
   rw[RP ha hb,hkk,if_neg hb,if_neg ha]
  have hgo:aG (qA cls L a b nl nr (k+1)) f=aG (qA cls L a b nl nr k) f:=by
   by_cases hb:aG cls k=b
   ·by_cases ha:aG cls k=a
    ·rw[QE ha hb,lR _ _ _ _ (by rw[List.length_set];omega),if_neg e,lR _ _ _ _ aa,if_neg e]
    rw[QU ha hb,lR _ _ _ _ aa,if_neg e]
   by_cases ha:aG cls k=a
   ·rw[P0 ha hb,lR _ _ _ _ aa,if_neg e]
   rw[RP ha hb]
  rw[hgo,ih f hf];by_cases q:f<k
  ·rw[if_pos q,if_pos (aa:f<k+1)]
  rw[if_neg q,if_neg (aa:¬ f<k+1)]
end
section
variable {l:List Pt}{m:List Ed}{n ln:Int}
theorem aBf (hok:eO l m n=true):rP l m ln=(cY l m ln).map HO:=aBE hok m.length (ah _)
theorem XV (m:List Ed)(fc:List Int):∀ i,i<=m.length->∀ k,(aU (wP m fc i) k).a=(aU m k).a/\(aU (wP m fc i) k).b=(aU m k).b/\(aU (wP m fc i) k).n=(aU m k).n
 |0,_,k=>⟨rfl,rfl,rfl⟩
 |i+1,hi,k=>by
  have ih:=XV m fc i aa k;have hl:=vJ m fc i;unfold wP;by_cases e:k=i
  ·subst e;have:aU ((wP m fc k).set k ⟨(aU m k).a,(aU m k).b,aG fc (2*k),aG fc (2*k+1),(aU m k).n⟩) k=⟨(aU m k).a,(aU m k).b,aG fc (2*k),aG fc (2*k+1),(aU m k).n⟩:=by
    rw[u7 (by rw[List.length_set];omega),List.getElem_set_self]
   rw[this];exact⟨rfl,rfl,rfl⟩
  have:aU ((wP m fc i).set i ⟨(aU m i).a,(aU m i).b,aG fc (2*i),aG fc (2*i+1),(aU m i).n⟩) k=aU (wP m fc i) k:=by
   unfold aU;rw[List.getD_eq_getElem?_getD,List.getElem?_set,if_neg (fun h=>e h.symm),<- List.getD_eq_getElem?_getD]
  rw[this];exact ih
theorem aHU (l:List Pt)(m:List Ed)(fc:List Int)(k:Nat):bB l (wP m fc m.length) k=bB l m k:=by
 obtain⟨h1,h2,_⟩:=XV m fc m.length (ah _) k;unfold bB;rw[h1,h2]
theorem aIZ (hp:fE l m n=true)(hm:m.length<=60)(h1:1<=(cY l m ln).length):(bG (aQ (cY l m ln)) (aR (cY l m ln))).many<=100:=by
 have hle:=RH (l:=l) (m:=m) (ln:=ln);have hel:=m4 (cY l m ln);by_cases h3:3<=(cY l m ln).length
 ·have:=aIL (aF5 (qR hp h1) h3);omega
 have:=(mD (aQ (cY l m ln)) (bA (aQ (cY l m ln)) (aR (cY l m ln)) (aR (cY l m ln)).length) (outs (aQ (cY l m ln)) (aR (cY l m ln))) (bA (aQ (cY l m ln)) (aR (cY l m ln)) (aR (cY l m ln)).length).length).2.2.2.1;rw[bT]at this;unfold bG ZW;rw[bT];omega
theorem CC (hp:fE l m n=true)(hm:m.length<=60)(h1:1<=(cY l m ln).length):(CM (cY l m ln)=0↔(mK (z8 l m ln) (oL (rP l m ln))=true/\vC (cQ (z8 l m ln) (oL (rP l m ln)))=true/\3<=(rP l m ln).length)) /\
  (CM (cY l m ln)=0->KQ l m ln=lQ (cY l m ln)/\mdN (z8 l m ln) (oL (rP l m ln))=(bG (aQ (cY l m ln)) (aR (cY l m ln))).many)/\z8 l m ln=aQ (cY l m ln)/\oL (rP l m ln)=aR (cY l m ln)/\MX (rP l m ln):=by
 have hg:=qR hp h1;have hP:((cY l m ln).map HO).Perm (rP l m ln):=(by rw[aBf (eC hp)]);have ha:=aD1 hg hP (fun i k hi hk hne=>aGm hp hi hk hne) (aIZ hp hm h1);exact⟨ha.1,ha.2,X2 hg hP,aHe hg hP,(ZM hg hP).2⟩
theorem IY (hok:eO l m n=true):(rP l m ln).length=(cY l m ln).length:=by rw[aBf hok,List.length_map]
theorem aIa (hp:fE l m n=true)(hm:m.length<=60):C1 (rP l m ln)=true↔CM (cY l m ln)≠0:=by
 have hlen:=IY (ln:=ln) (eC hp);by_cases h1:1<=(cY l m ln).length
 ·have ha:=(CC (ln:=ln) hp hm h1).1;rw[ne_eq,ha];unfold C1;show(_ || (!mK (z8 l m ln) (oL (rP l m ln)) || (!vC (cQ (z8 l m ln) (oL (rP l m ln))) || _)))=true↔_;simp only[Bool.or_eq_true,ag,Bool.not_eq_true'];cases hc:mK (z8 l m ln) (oL (rP l m ln)) <;> cases hf:vC (cQ (z8 l m ln) (oL (rP l m ln))) <;> simp[-List.length_eq_zero_iff] <;> omega
 have h0:(cY l m ln).length=0:=aa;have:(rP l m ln).length=0:=aa;unfold C1 CM;rw[this,if_pos h0];simp
theorem aKw (hm:m.length<=60):woC l m n ln=E3 l m n ln:=by
 unfold woC E3;have hv:=W4 l m n;cases ho:iY l m n with
 |false =>
  rw[if_neg (by decide),if_pos (.inl (by rw[<- hv];exact ho))]
 |true =>
  have hp:fE l m n=true:=(by simp only[iY,af]at ho;exact ho.1);rw[if_pos rfl];unfold GL;by_cases hl:ln<0\/200<=ln
  ·rw[if_pos hl,if_pos (.inr hl)]
  rw[if_neg hl,if_neg (show ¬(sP l m n=false\/ln<0\/200<=ln)from fun h=>h.elim (fun h=>by rw[<- hv,ho]at h;cases h) hl),IY (eC hp)];have hb:=aIa (ln:=ln) hp hm;by_cases h5:(cY l m ln).length=m.length
  ·rw[if_pos h5,if_pos h5]
  rw[if_neg h5,if_neg h5];by_cases hx:CM (cY l m ln)≠0
  ·rw[if_pos hx,if_pos (hb.2 hx)]
  rw[if_neg hx,if_neg (fun h=>hx (hb.1 h))]
theorem vP (ho:iY l m n=true):fE l m n=true:=by simp only[iY,af]at ho;exact ho.1
theorem QT (ho:iY l m n=true):FcR m (n+1).toNat:=fun i hi=>by
 have:=CG ho hi;omega
theorem XQ (hok:eO l m n=true){i:Nat}(hi:i<(cY l m ln).length):0<=(gF (cY l m ln) i).fm/\(gF (cY l m ln) i).fm<m.length:=by
 obtain⟨k,hk,_,e,_⟩:=kZ hok hi;rw[e];show(0:Int)<=((k:Nat):Int)/\((k:Nat):Int)<_;omega
theorem aMQ (ho:iY l m n=true):okW l m n ln:=by
 have hp:=vP ho;have hok:=eC hp;obtain⟨hM,h3,h4,h5,h6,h7,h8⟩:=qG hok;refine⟨hM,⟨aa,h6⟩,⟨aa,aa⟩,fun i hi=>CG ho hi,IN (QT ho),fun h1=>aLJ (qR hp h1),fun i hi=>XQ hok hi,fun i hi=>?_⟩;have:=QL hp (ln:=ln) aa hi;rw[this];omega
theorem aJH {l:List Pt}{m:List Ed}(h:jS l m=true)(fc:List Int):jS l (wP m fc m.length)=true:=by
 have hl:=vJ m fc m.length;have h0:=h;simp only[jS,af,ag]at h0 ⊢;refine⟨⟨⟨h0.1.1.1,List.all_eq_true.2 fun e he=>?_⟩,by rw[hl];exact h0.1.2⟩,h0.2⟩;obtain⟨i,hi,rfl⟩:=List.getElem_of_mem he;have hi':i<m.length:=(by rw[hl]at hi;exact hi);have ha:=XV m fc m.length (ah _) i;rw[u7 hi]at ha;have:=List.all_eq_true.1 h0.1.1.2 _ (List.getElem_mem hi');rw[<- u7 hi']at this;rw[ha.1,ha.2.1];exact this
theorem aCb {Q:List Pt}{E:List Ed}(h:jS Q E=true):jS Q (SB Q E)=true:=by
 unfold SB;split
 ·exact aJH h _
 exact h
theorem aJV (Q:List Pt)(E:List Ed)(k:Nat):bB Q (SB Q E) k=bB Q E k:=by
 unfold SB;split
 ·exact aHU _ _ _ _
 rfl
theorem aBo (hp:fE l m n=true)(h1:1<=(cY l m ln).length)(hm:m.length<=60){i:Nat}(hi:i<(cY l m ln).length):vO l m (bB (z8 l m ln) (KQ l m ln) i)=(gF (cY l m ln) i).fm:=by
 have hw:=CC (ln:=ln) hp hm h1;have hg:=qR hp h1;unfold KQ;show vO l m (bB (z8 l m ln) (SB (z8 l m ln) (oL (rP l m ln))) i)=_;rw[aJV,hw.2.2.1,hw.2.2.2.1,aGk hg hi,QL hp h1 hi,Int.toNat_natCast];obtain⟨k,hk,_,e,_⟩:=kZ (eC hp) hi;rw[e];exact aJG hp hk
theorem QC (hok:eO l m n=true):(KQ l m ln).length=(cY l m ln).length:=by
 unfold KQ;rw[aBl,aBT,IY hok]
theorem aLB (hv:sP l m n=true)(hm:m.length<=60)(h1:1<=(cY l m ln).length):OkR l m n ln:=by
 have ho:iY l m n=true:=(by rw[W4];exact hv);have hp:=vP ho;have hok:=eC hp;obtain⟨hM,h3,h4,h5,h6,h7,h8⟩:=qG hok;obtain⟨_,_,e1,e2,hs⟩:=CC (ln:=ln) hp hm h1;have hMA:jS (z8 l m ln) (oL (rP l m ln))=true:=(by rw[e1,e2];exact(sE (YL (qR hp h1))).1);refine⟨hM,⟨aa,h6⟩,⟨aa,aa⟩,fun i hi=>CG ho hi,hs,hMA,aCb hMA,fun i hi=>?_⟩;rw[QC hok]at hi;rw[aBo hp h1 hm hi];exact(XQ hok hi).1
end
section
variable {l:List Pt}{m:List Ed}{n ln:Int}
theorem aF6 {N f:Nat}(h:f<N):aG (List.replicate N (0:Int)) f=0:=by
 unfold aG;rw[List.getD_eq_getElem?_getD,List.getElem?_replicate,if_pos h];rfl
theorem aAP (one now:List Int)(N:Nat):∀ k,k<=N->∀ f,f<k->aG (FD one now N k) f=aG now (aG one f).toNat
 |0,_,f,hf=>by omega
 |k+1,hk,f,hf=>by
  have hl:=xA one now N k;rw[aH6,lR _ _ _ _ aa];by_cases e:f=k
  ·rw[if_pos e,e]
  rw[if_neg e];exact aAP one now N k aa f aa
theorem ZA {a b:List Int}(h:a.length=b.length)(he:∀ i,i<a.length->aG a i=aG b i):a=b:=by
 refine List.ext_getElem h fun i h1 h2=>?_;have:=he i h1
 rwa [fK h1,fK h2]at this
theorem aB7 (ho:iY l m n=true)(hm:m.length<=60)(h1:1<=(cY l m ln).length)(hF:KQ l m ln=lQ (cY l m ln)){N:Nat}(hN:N=(n+1).toNat):∀ i,i<=(cY l m ln).length->∀ f,f<N ->
  aG (BI (bW m ln N m.length) m (lQ (cY l m ln)) (cY l m ln) (cL (cY l m ln)) N i) (aG (bW m ln N m.length) f).toNat=aG (QK (lC m ln N m.length) l m (z8 l m ln) (KQ l m ln) N i) f
 |0,_,f,hf=>by
  have hr:=IN (m:=m) (ln:=ln) (by rw[hN];exact QT ho) m.length (ah _) f hf;show aG (List.replicate N 0) _=aG (List.replicate N 0) _;rw[aF6 hf,aF6 aa]
 |i+1,hi,f,hf=>by
  have hp:=vP ho;have hfc:FcR m N:=(by rw[hN];exact QT ho);have ih:=aB7 ho hm h1 hF hN i aa f hf;have hr:=IN (ln:=ln) hfc m.length (ah _);have hold:=aBo (ln:=ln) hp h1 hm (i:=i) aa;have hord:=QL hp h1 (i:=i) aa;have hfm:=XQ (ln:=ln) (eC hp) (i:=i) aa;rw[aFx,QK,hold,hord,Int.toNat_natCast];have hk:(gF (cY l m ln) i).fm.toNat<m.length:=aa;obtain⟨⟨e1,e2⟩,e3,e4⟩:=hfc _ hk;have hnl:=KF (bW m ln N m.length) m (lQ (cY l m ln)) (cY l m ln) (cL (cY l m ln)) N i;have hfl:=DL (lC m ln N m.length) l m (z8 l m ln) (KQ l m ln) N i;generalize(gF (cY l m ln) i).fm.toNat=k at *;have r1:=hr f hf;have r2:=hr (aU m k).l.toNat aa;have r3:=hr (aU m k).r.toNat aa;have q1:=SC (ln:=ln) hfc m.length (ah _) f (aU m k).l.toNat hf aa;have q2:=SC (ln:=ln) hfc m.length (ah _) f (aU m k).r.toNat hf aa;rw[lR _ _ _ _ (by rw[List.length_set];omega),lR _ _ _ _ aa,aBq _ _ _ _ _ _ _ aa _ aa,if_pos (show f<N from hf),ih,hF];have k1:(aG (bW m ln N m.length) f).toNat=(aG (bW m ln N m.length) (aU m k).r.toNat).toNat↔aG (lC m ln N m.length) f=aG (lC m ln N m.length) (aU m k).r.toNat:=(by rw[<- q2];omega);have k2:(aG (bW m ln N m.length) f).toNat=(aG (bW m ln N m.length) (aU m k).l.toNat).toNat↔aG (lC m ln N m.length) f=aG (lC m ln N m.length) (aU m k).l.toNat:=(by rw[<- q1];omega);simp only[k1,k2]
theorem aIw (ho:iY l m n=true)(hm:m.length<=60)(h1:1<=(cY l m ln).length)(hF:KQ l m ln=lQ (cY l m ln)):wtO l m ln (n+1).toNat=rwO l m ln (n+1).toNat:=by
 have hl1:(wtO l m ln (n+1).toNat).length=(n+1).toNat:=xA _ _ _ _;have hl2:(rwO l m ln (n+1).toNat).length=(n+1).toNat:=DL _ _ _ _ _ _ _;refine ZA (by rw[hl1,hl2]) fun f hf=>?_;rw[hl1]at hf;unfold wtO rwO;rw[aAP _ _ _ _ (ah _) f hf,gU,QC (eC (vP ho))];exact aB7 ho hm h1 hF rfl _ (ah _) f hf
theorem aIV (hm:m.length<=60)(h0:E3 l m n ln=0):iY l m n=true/\1<=(cY l m ln).length/\z8 l m ln=aQ (cY l m ln)/\KQ l m ln=lQ (cY l m ln)/\mdN (z8 l m ln) (oL (rP l m ln))=(bG (aQ (cY l m ln)) (aR (cY l m ln))).many/\rwO l m ln (n+1).toNat=wtO l m ln (n+1).toNat:=by
 have h0':=h0;rw[<- aKw hm]at h0';unfold woC at h0';split at h0'
 case isFalse=>cases h0'
 rename_i ho;have hp:=vP ho;unfold GL at h0';split at h0'
 ·cases h0'
 split at h0'
 ·cases h0'
 split at h0'
 ·cases h0'
 rename_i hx;have hx:CM (cY l m ln)=0:=Classical.not_not.1 hx;have h1:1<=(cY l m ln).length:=by
  by_cases hz:(cY l m ln).length=0
  ·rw[CM,if_pos hz]at hx;cases hx
  omega
 have ha:=CC (ln:=ln) hp hm h1;have hF:=(ha.2.1 hx).1;exact⟨ho,h1,ha.2.2.1,hF,(ha.2.1 hx).2,(aIw ho hm h1 hF).symm⟩
end
set_option maxHeartbeats 2000000
theorem aJv {A0 A a0 b0 a b:Value}{n:Int}{h0 h:Heap}{n0 nx:Nat}(i:In [A0,a0,b0] h0 n0 [A,a,b] h nx)(ha:∃ x y z,a0=.slice x y z)(hb:∃ x y z,b0=.slice x y z) :
  In [A0,.agg #[a0,b0,.int .i64 n]] h0 n0 [A,.agg #[a,b,.int .i64 n]] h nx:=by
 intro ι B w H hs;have hag:mS ι nx (.agg #[a,b,.int .i64 n]):=hs _ (.tail _ (.head _));have sa:jJ ι nx a:=hag a (by simp);have sb:jJ ι nx b:=hag b (by simp);obtain⟨ι0,e1,e2,e3⟩:=i ι B w H (fun v hv=>by
  simp only[List.mem_cons,List.not_mem_nil,or_false]at hv;rcases hv with rfl|rfl|rfl
  ·exact hs _ (.head _)
  ·exact lF (dH sa)
  exact lF (dH sb))
 simp only[List.map_cons,List.map_nil,List.cons.injEq,and_true]at e1;obtain⟨x,y,z,rfl⟩:=ha;obtain⟨x',y',z',rfl⟩:=hb;have t1:tr ι a=cF ι a:=(by rw[r8 (dH sa),uM sa]);have t2:tr ι b=cF ι b:=(by rw[r8 (dH sb),uM sb]);refine⟨ι0,?_,?_,e3⟩
 ·rw[List.map_cons,List.map_cons,List.map_cons,List.map_cons,List.map_nil,List.map_nil];rw[e1.1];congr 2;show Value.agg (Array.map (cF ι) #[a,b,.int .i64 n])=Value.agg (Array.map (cF ι0) #[_,_,.int .i64 n]);simp only[List.map_toArray,List.map_cons,List.map_nil];rw[<- t1,<- t2,e1.2.1,e1.2.2];rfl
 intro v hv;cases hv with
 |head=>exact e2 _ (.head _)
 |tail _ hm =>
  cases hm with
  |head =>
   intro u hu;simp only[List.mem_cons,List.not_mem_nil,or_false]at hu;rcases hu with rfl|rfl|rfl
   ·exact e2 _ (.tail _ (.head _))
   ·exact e2 _ (.tail _ (.tail _ (.head _)))
   exact bM rfl
  |tail _ hm=>cases hm
def OM (l:List Pt)(m:List Ed)(l':List Pt)(m':List Ed):Heap:=[(0,au 2 (flat aX.fl l)),(1,au 5 (flat bS.fl m)),(2,au 2 (flat aX.fl l')),(3,au 5 (flat bS.fl m'))]
def aGE (n m c1 c2:Nat)(k:Int):Value:=.agg #[ak 2 n c1,ak 3 m c2,.int .i64 k]
theorem aEO {p q p' q':Value}{n:Int}{h:Heap}{nx:Nat}{l l':List Pt}{m m':List Ed}(hl:eY aX h p l)(hm:eY bS h q m)(hl':eY aX h p' l')(hm':eY bS h q' m') :
  ∃ c1 c2 c3 c4,In [fH l.length m.length c1 c2 n,aGE l'.length m'.length c3 c4 n] (OM l m l' m') 4 [mapA p q n,mapA p' q' n] h nx:=by
 obtain⟨c1,c2,i⟩:=SE (n:=n) (r:=[]) (nx:=nx) aX bS rfl hl hm;obtain⟨c3,i3⟩:=KD (nx:=nx) aX hl';obtain⟨c4,i4⟩:=KD (nx:=nx) bS hm';have j1:=X5 i (aC aX l') i3 fun j ob hj=>by
  unfold aS at hj;rw[aD]at hj;split at hj
  ·injection hj with hj;subst hj;rfl
  rw[aD]at hj;split at hj
  ·injection hj with hj;subst hj;rfl
  exact cA hj
 have j2:=X5 j1 (aC bS m') i4 fun j ob hj=>by
  unfold aS at hj;simp only[app]at hj;rw[aD]at hj;split at hj
  ·injection hj with hj;subst hj;rfl
  rw[aD]at hj;split at hj
  ·injection hj with hj;subst hj;rfl
  rw[aD]at hj;split at hj
  ·injection hj with hj;subst hj;rfl
  exact cA hj
 exact⟨c1,c2,c3,c4,aJv j2 ⟨_,_,_,rfl⟩ ⟨_,_,_,rfl⟩⟩
def e14 (j:Int):List (Nat × Value):=[(2,pV 4),(3,pV 5),(5,iv j)]
def aOL (j:Int):List (Nat × Value):=[(2,pV 4),(3,pV 5),(6,iv j)]
def h14 (l:List Pt)(m:List Ed)(n:Int)(c1 c2 c3 c4:Nat):Heap:=(5,aq 1 [ak 2 l.length c3,ak 3 m.length c4,iv n])::(4,aq 1 [ak 0 l.length c1,ak 1 m.length c2,iv n])::OM l m l m
theorem w14 (l:List Pt)(m:List Ed)(n:Int)(c1 c2 c3 c4:Nat)(hl:l.length<=1000000/\m.length<=1000000):body [] 14 [fH l.length m.length c1 c2 n,aGE l.length m.length c3 c4 n] (OM l m l m) 4 (fun v _ _=>v=.bool true):=by
 repeat' first
  |(((conv=>whnf);apply bm<;>intro g))
 all_goals first
  |(exfalso;simp[aB,aF,aN]at g;done)
  |skip
 (conv=>whnf);refine⟨fun q e h nx=>∃(i:Nat) (j:Int),j=i/\i<=l.length/\q=l.length - i/\e=e14 j/\h=h14 l m n c1 c2 c3 c4/\nx=6,⟨l.length,?_⟩,?_⟩
 ·exact aJ (h0:=h14 l m n c1 c2 c3 c4) (n0:=6) ⟨0,0,rfl,Nat.zero_le _,rfl,rfl,rfl,rfl⟩
 rintro q e h nx ⟨i,j,hj,hi,rfl,rfl,rfl,rfl⟩;unfold e14 h14 OM;((conv=>whnf);apply bm<;>intro h1)
 ·have hlt:i<l.length:=by simp[aB,aF]at h1;omega
  repeat' first
   |(((conv=>whnf);apply bm<;>intro g))
   |((conv=>whnf)
     refine eZ (eU l (i:=i) aa ?_) ?_
     ·show _+Int.toNat j*2=_;omega)
  all_goals first
   |(exfalso;simp[aB,aF,aN,fS]at g;omega)
   |(exfalso;simp[aB,aF,aN,fS]at g;done)
   |skip
  (conv=>whnf);refine⟨l.length - (i+1),aa,?_⟩;exact aJ (h0:=h14 l m n c1 c2 c3 c4) (n0:=6) ⟨i+1,j+1,aa,aa,rfl,rfl,rfl,rfl⟩
 (conv=>whnf);refine⟨fun q e h nx=>∃(i:Nat) (j:Int),j=i/\i<=m.length/\q=m.length - i/\e=aOL j/\h=h14 l m n c1 c2 c3 c4/\nx=6,⟨m.length,?_⟩,?_⟩
 ·exact aJ (h0:=h14 l m n c1 c2 c3 c4) (n0:=6) ⟨0,0,rfl,Nat.zero_le _,rfl,rfl,rfl,rfl⟩
 rintro q e h nx ⟨i,j,hj,hi,rfl,rfl,rfl,rfl⟩;unfold aOL h14 OM;((conv=>whnf);apply bm<;>intro h1);rotate_left
 ·(conv=>whnf)
 have hlt:i<m.length:=by simp[aB,aF]at h1;omega
 repeat' first
  |(((conv=>whnf);apply bm<;>intro g))
  |((conv=>whnf)
    refine eZ (BE m (i:=i) aa ?_) ?_
    ·show _+Int.toNat j*5=_;omega)
 all_goals first
  |(exfalso;simp[aB,aF,aN,fS]at g;omega)
  |(exfalso;simp[aB,aF,aN,fS]at g;done)
  |skip
 (conv=>whnf);refine⟨m.length - (i+1),aa,?_⟩;exact aJ (h0:=h14 l m n c1 c2 c3 c4) (n0:=6) ⟨i+1,j+1,aa,aa,rfl,rfl,rfl,rfl⟩
def aMW:Nat × XF:=(14,fun args h nx K=>∃ p q n p' q' l m,args=[mapA p q n,mapA p' q' n]/\eY aX h p l/\eY bS h q m/\eY aX h p' l/\eY bS h q' m/\(l.length<=1000000/\m.length<=1000000)/\K (.bool true) h nx)
theorem aQZ:c7 Tryz.prog aMW.1 aMW.2:=by
 refine(eJ (S:=fun args0 h0 n0 v1 h1 j=>∃ l m n c1 c2 c3 c4,(l.length<=1000000/\m.length<=1000000)/\args0=[fH l.length m.length c1 c2 n,aGE l.length m.length c3 c4 n]/\h0=OM l m l m/\n0=4/\v1=.bool true/\h1=[]/\j=0) (aL (xl:=[]) .nil) ?_).mono ?_ ?_
 ·rintro args0 h0 n0 v1 h1 j ⟨l,m,n,c1,c2,c3,c4,hlm,rfl,rfl,rfl,rfl,rfl,rfl⟩;exact⟨rfl,_,w14 l m n c1 c2 c3 c4 hlm,fun v h nx e=>by rw[e];exact gM rfl⟩
 ·rintro args h nx K ⟨p,q,n,p',q',l,m,rfl,hl,hm,hl',hm',hlm,hx⟩;obtain⟨c1,c2,c3,c4,i⟩:=aEO (n:=n) (nx:=nx) hl hm hl' hm';refine⟨_,_,4,_,[],0,⟨l,m,n,c1,c2,c3,c4,hlm,rfl,rfl,rfl,rfl,rfl,rfl⟩,i,?_⟩;simp only[qY,pF,nK,lL,Nat.add_zero];rw[lJ rfl];exact hx
 rintro args h nx K ⟨p,q,n,p',q',l,m,rfl,hl,hm,hl',hm',hlm,hx⟩;exact⟨_,_,_,hx,fun K' hk=>⟨p,q,n,p',q',l,m,rfl,hl,hm,hl',hm',hlm,hk⟩⟩
def aHS (nx a b N:Nat)(F:Int):Value:=.tuple #[.agg #[bX nx a,bX (nx+1) b,iv F],bX (nx+2) N,iv 0]
theorem aJu (nx a b N:Nat)(F:Int):fJ (fun k=>nx+k) (vW3 a b N F)=aHS nx a b N F:=by
 unfold vW3 aHS;simp[bX,fJ,tr,eK,cF,eM,j4]
 first|rfl|exact⟨rfl,rfl⟩
def aNp:Nat × XF:=(13,fun args h nx K=>∃ l m n p q ln,args=[mapA p q n,iv ln]/\eY aX h p l/\eY bS h q m/\(l.length<=1000/\m.length<=1000)/\(sP l m n=true->OkR l m n ln) /\
 ((E3 l m n ln≠0/\K (HA (E3 l m n ln)) h nx)\/(E3 l m n ln=0/\K (aHS nx (z8 l m ln).length (KQ l m ln).length (n+1).toNat (mdN (z8 l m ln) (oL (rP l m ln)))) (app (nK nx (hW3 (z8 l m ln) (KQ l m ln) (rwO l m ln (n+1).toNat))) h) (nx+3))))
theorem aR9:c7 Tryz.prog aNp.1 aNp.2:=by
 refine(eJ (S:=fun args0 h0 n0 v1 h1 j=>∃ l m n ln c1 c2,(l.length<=1000/\m.length<=1000)/\(sP l m n=true->OkR l m n ln)/\args0=[fH l.length m.length c1 c2 n,iv ln]/\h0=aS aX bS l m/\n0=2 /\
  ((E3 l m n ln≠0/\v1=HA (E3 l m n ln)/\h1=[]/\j=0)\/(E3 l m n ln=0/\v1=vW3 (z8 l m ln).length (KQ l m ln).length (n+1).toNat (mdN (z8 l m ln) (oL (rP l m ln)))/\h1=hW3 (z8 l m ln) (KQ l m ln) (rwO l m ln (n+1).toNat)/\j=3))) (aL aIU) ?_).mono ?_ ?_
 ·rintro args0 h0 n0 v1 h1 j ⟨l,m,n,ln,c1,c2,hlm,hok,rfl,rfl,rfl,hc⟩;have hw:=w13 l m n ln c1 c2 _ hlm rfl hok;rcases hc with⟨ho,rfl,rfl,rfl⟩|⟨ho,rfl,rfl,rfl⟩
  ·refine⟨rfl,_,hw,fun v h nx e=>?_⟩;rcases e with⟨_,rfl⟩|⟨e,_⟩
   ·exact gM rfl
   exact absurd e ho
  refine⟨rfl,_,hw,fun v h nx e=>?_⟩;rcases e with⟨e,_⟩|⟨_,e⟩
  ·exact absurd ho e
  exact e
 ·rintro args h nx K ⟨l,m,n,p,q,ln,rfl,hl,hm,hlm,hok,hx⟩;rcases hx with⟨ho,hx⟩|⟨ho,hx⟩
  ·refine⟨_,_,2,_,[],0,⟨l,m,n,ln,oO p,oO q,hlm,hok,rfl,rfl,rfl,.inl ⟨ho,rfl,rfl,rfl⟩⟩,rQ aX bS rfl hl hm,?_⟩;simp only[qY,pF,nK,lL,Nat.add_zero];rw[lJ rfl];exact hx
  refine⟨_,_,2,_,_,_,⟨l,m,n,ln,oO p,oO q,hlm,hok,rfl,rfl,rfl,.inr ⟨ho,rfl,rfl,rfl⟩⟩,rQ aX bS rfl hl hm,?_⟩;rw[aJu];exact hx
 rintro args h nx K ⟨l,m,n,p,q,ln,rfl,hl,hm,hlm,hok,hx⟩;rcases hx with⟨ho,hx⟩|⟨ho,hx⟩
 ·exact⟨_,_,_,hx,fun K' hk=>⟨l,m,n,p,q,ln,rfl,hl,hm,hlm,hok,.inl ⟨ho,hk⟩⟩⟩
 exact⟨_,_,_,hx,fun K' hk=>⟨l,m,n,p,q,ln,rfl,hl,hm,hlm,hok,.inr ⟨ho,hk⟩⟩⟩
def smI (l1 l2:List Int):Bool:=decide (l1=l2)
def smS (l1 l2:List Int):Option (Bool × Value):=some (decide (l1.length<=1000000),.bool (smI l1 l2))
def e21 (l1 l2:List Int)(c1 c2:Nat)(j:Int):List (Nat × Value):=[(0,ak 0 l1.length c1),(1,ak 1 l2.length c2),(5,iv j)]
def h21 (l1 l2:List Int):Heap:=[(0,au 1 (flat aW.fl l1)),(1,au 1 (flat aW.fl l2))]
theorem aMG {l1 l2:List Int}(hl:l1.length=l2.length)(h:∀ k,k<l1.length->aG l1 k=aG l2 k):l1=l2:=by
 refine List.ext_getElem hl fun k h1 h2=>?_;have:=h k h1;rw[fK h1,fK h2]at this;exact this
def aM4:Nat × XF:=(15,l2X aW smS)
theorem aSN:c7 Tryz.prog aM4.1 aM4.2:=aLF aW (f:=15) (s:=smS) (aL (xl:=[]) .nil) fun l1 l2 v hs=>by
 have hs':l1.length<=1000000/\v=.bool (smI l1 l2):=by
  unfold smS at hs;injection hs with hs;injection hs with h1 h2;exact⟨by simpa using h1,h2.symm⟩
 obtain⟨hlen,rfl⟩:=hs';refine⟨rfl,fun c1 c2=>?_⟩;((conv=>whnf);apply bm<;>intro h1)
 ·(conv=>whnf);have hne:l1≠l2:=by
   intro e;simp[aB,aF,e]at h1
  show Value.bool false=.bool (decide (l1=l2));rw[aj hne]
 have hll:l1.length=l2.length:=(by simp[aB,aF]at h1;omega);(conv=>whnf);refine⟨fun n e h nx=>∃(i:Nat) (j:Int),j=i/\i<=l1.length/\n=l1.length - i/\(∀ k,k<i->aG l1 k=aG l2 k)/\e=e21 l1 l2 c1 c2 j/\h=h21 l1 l2/\nx=2,⟨l1.length,?_⟩,?_⟩
 ·exact aJ (h0:=h21 l1 l2) (n0:=2) ⟨0,0,rfl,Nat.zero_le _,rfl,fun k h=>absurd h (Nat.not_lt_zero k),rfl,rfl,rfl⟩
 rintro n e h nx ⟨i,j,hj,hi,rfl,hb,rfl,rfl,rfl⟩;unfold e21 h21;((conv=>whnf);apply bm<;>intro g1);rotate_left
 ·have hge:i=l1.length:=(by simp[aB,aF]at g1;omega);(conv=>whnf);show Value.bool true=.bool (decide (l1=l2));rw[ai (aMG hll fun k hk=>hb k aa)]
 have hlt:i<l1.length:=(by simp[aB,aF]at g1;omega);(conv=>whnf);refine bt ?_;(conv=>whnf);refine fD (dY l1 hlt ?_) ?_
 ·show _+Int.toNat j*1=_;omega
 (conv=>whnf);refine bt ?_;(conv=>whnf);refine fD (dY l2 (i:=i) aa ?_) ?_
 ·show _+Int.toNat j*1=_;omega
 ((conv=>whnf);apply bm<;>intro g4)
 ·(conv=>whnf);have hne:l1≠l2:=by
   intro e;simp[aB,aF,e]at g4
  show Value.bool false=.bool (decide (l1=l2));rw[aj hne]
 have g4:aG l1 i=aG l2 i:=(by simpa[aB,aF]using g4);(conv=>whnf);refine bt ?_;(conv=>whnf);refine⟨l1.length - (i+1),aa,?_⟩;refine cU (e0:=e21 l1 l2 c1 c2 (j+1)) (h0:=h21 l1 l2) (n0:=2) ⟨i+1,j+1,aa,hlt,rfl,fun k hk=>?_,rfl,rfl,rfl⟩ ?_ ?_ (by decide)
 ·by_cases hki:k=i
  ·rw[hki];exact g4
  exact hb k aa
 ·unfold e21;exact xE
 unfold h21;exact xI
theorem aN7 {l:List Pt}{m:List Ed}(h1:(!(decide ((l.length:Int)<=60)&&decide ((m.length:Int)<=60)))=false):l.length<=1000/\m.length<=1000:=by
 have h1:(decide ((l.length:Int)<=60)&&decide ((m.length:Int)<=60))=true:=(by simpa using h1);simp only[af,ag]at h1;omega
theorem zJ {α:Type}(E:El α){h:Heap}{k:Nat}{l:List α}{wr g:Bool}{sz:Nat}{f:Nat->Nat}(hk:aw h k=some (.cells wr g sz ((flat E.fl l).map (cB f)))):eY E h (bX k l.length) l :=
 ⟨rfl,_,_,_,_,hk,by
  have e:(flat E.fl l).map (cB f)=flat E.fl l:=bK (aC E l);rw[e,List.drop_zero,List.take_length]⟩
theorem aA0 {l:List Pt}{m:List Ed}{n ln:Int}(hm:m.length<=60)(hv:sP l m n=true):OkR l m n ln:=by
 by_cases h1:1<=(cY l m ln).length
 ·exact aLB hv hm h1
 have ho:iY l m n=true:=(by rw[W4];exact hv);have hp:=vP ho;have hok:=eC hp;obtain⟨hM,h3,h4,h5,h6,h7,h8⟩:=qG hok;have hz:rP l m ln=[]:=List.eq_nil_of_length_eq_zero (by rw[IY hok];omega);refine⟨hM,⟨aa,h6⟩,⟨aa,aa⟩,fun i hi=>CG ho hi,?_,?_,?_,fun i hi=>?_⟩
 ·rw[hz];exact fun k hk=>absurd hk (Nat.not_lt_zero k)
 ·unfold z8;rw[hz];rfl
 ·unfold z8 KQ;rw[hz];exact aCb rfl
 rw[QC hok]at hi;omega
theorem w3 (l:List Pt)(m:List Ed)(n:Int)(c1 c2:Nat)(ln:Int):body [aN8,X16,aN3,aNp,aMW,aM4] 3 [fH l.length m.length c1 c2 n,iv ln] (aS aX bS l m) 2 (fun v _ _=>v=.bool true):=by
 (conv=>whnf);refine⟨l,m,aP aX rfl,aP bS rfl,?_⟩;((conv=>whnf);apply bm<;>intro h1)
 ·(conv=>whnf)
 have hlm:l.length<=1000/\m.length<=1000:=aN7 h1;have hm6:m.length<=60:=by
  have h1:(!(decide ((l.length:Int)<=60)&&decide ((m.length:Int)<=60)))=false:=h1;have h1:(decide ((l.length:Int)<=60)&&decide ((m.length:Int)<=60))=true:=(by simpa using h1);simp only[af,ag]at h1;omega
 have hwo:=aKw (l:=l) (n:=n) (ln:=ln) hm6;(conv=>whnf);refine⟨l,m,n,_,_,ln,rfl,aP aX rfl,aP bS rfl,hlm,fun ho=>aMQ ho,?_⟩;rw[hwo];by_cases hz:E3 l m n ln=0
 ·obtain⟨ho,hp1,e1,e2,e3,e4⟩:=aIV hm6 hz;have hwl:=RH (l:=l) (m:=m) (ln:=ln);have hg:=qR (vP ho) hp1;have hq1:(aQ (cY l m ln)).length<=1000000:=(by have:=hg.few;omega);have hq2:(lQ (cY l m ln)).length=(aR (cY l m ln)).length:=(by rw[JX,m4]);have hq3:(lQ (cY l m ln)).length<=1000000:=(by rw[JX];omega);have hq4:(wtO l m ln (n+1).toNat).length=(n+1).toNat:=xA _ _ _ _;have hq5:(n+1).toNat<=1000000:=(by have:=aQ4 ho;omega);refine .inr ⟨hz,?_⟩;unfold aIP hWo;rw[<- hq2];generalize hQ:aQ (cY l m ln)=Q at *;generalize hE:lQ (cY l m ln)=E at *;generalize hO:wtO l m ln (n+1).toNat=O at *;generalize(bG Q (aR (cY l m ln))).many=F at *;(conv=>whnf);refine⟨l,m,n,_,_,ln,rfl,aP aX rfl,aP bS rfl,hlm,fun hv=>aA0 hm6 hv,?_⟩;refine .inr ⟨hz,?_⟩;unfold aHS hW3;rw[e3,e4,e1,e2,<- hq4];(conv=>whnf)
  repeat' first
   |(((conv=>whnf);apply bm<;>intro g))
  all_goals first
   |(exfalso;simp[aB,aF]at g;done)
   |skip
  (conv=>whnf);refine⟨_,_,F,_,_,Q,E,rfl,zJ aX rfl,zJ bS rfl,zJ aX rfl,zJ bS rfl,⟨hq1,hq3⟩,?_⟩;(conv=>whnf);refine⟨O,O,zJ aW rfl,zJ aW rfl,?_⟩;refine aM (ai (aa:O.length<=1000000)) ?_;rw[show smI O O=true from ai rfl];(conv=>whnf)
 refine .inl ⟨hz,?_⟩;unfold HA;(conv=>whnf);refine⟨l,m,n,_,_,ln,rfl,aP aX rfl,aP bS rfl,hlm,fun hv=>aA0 hm6 hv,?_⟩;refine .inl ⟨hz,?_⟩;generalize E3 l m n ln=e at *;unfold HA
 repeat' first
  |(((conv=>whnf);apply bm<;>intro g))
 all_goals first
  |(exfalso;simp[aB,aF]at g;done)
  |skip
 (conv=>whnf);refine⟨_,_,0,_,_,[],[],rfl,⟨rfl,rfl,rfl⟩,⟨rfl,rfl,rfl⟩,⟨rfl,rfl,rfl⟩,⟨rfl,rfl,rfl⟩,⟨Nat.zero_le _,Nat.zero_le _⟩,?_⟩;(conv=>whnf);refine⟨[],[],⟨rfl,rfl,rfl⟩,⟨rfl,rfl,rfl⟩,?_⟩;(conv=>whnf);rfl
end Go.Aw
end

noncomputable section
namespace Go.Proofs.YthgjfhncomhofaaGreat
open Go.ChangeShapes Go.WideShapes Go.ChangeAt Go.RowKit Go.Aw Go.Joins
set_option maxRecDepth 100000 in
theorem M8 (os:Os)(started:os.Started)(H:Type)(enc:TypeId × Value->H) :
  ReturnsInHanded {} Tryz.checked os 3 .any (Rows.facesWithoutSpec.pre6 enc Tryz.prog Tryz.f3 Rows.facesWithoutRow.domain false) (Rows.facesWithoutSpec.post enc Tryz.prog Tryz.f3 false true false false):=by
 refine returnsInHanded_of_change (C:=Tryz.checked) Tryz.own started (by kernel_rfl) Tryz.func3
  (ChangeSpec.witness6 (enc:=enc) (C:=Tryz.checked) false ⟨#[],#[.agg #[.slice none 0 0,.slice none 0 0,.int .i64 0],.int .i64 0],[]⟩ 3 (by kernel_rfl) (by kernel_rfl) (by kernel_rfl) (by kernel_rfl)) ?_
 intro W base args ds gs before hval0 hW hcnd _;have hval:∀(j:Nat) t v,Tryz.f3.params[j]? = some t->args[j]? = some v->Value.okWide Tryz.prog W .any base t v:=hval0;have hW':=hW;obtain⟨p,q,hA0,hV,rfl,hfz,hnd⟩:=hW;have hA:DataW.TrodAll enc Tryz.prog W 0 (fun _=>true) true Tryz.f3.params.toList args.toList ds p:=hA0;rw[Tryz.params3]at hA hval;obtain⟨v0,v1,d0,d1,p0,p1,rfl,rfl,rfl,h0,h1⟩:=trodAll_two hA;obtain⟨rfl,rfl⟩:=trodVars_none hV;obtain⟨cs,rfl,hsz⟩:=okWide_struct Tryz.underlying25 (hval 0 25 v0 rfl rfl);have h0':=h0;obtain⟨fuel,hf0⟩:=h0';obtain⟨xs,fu,_,_,hlen,hxl,hf⟩:=DataW.trod_struct Tryz.underlying25 hf0;rw[Tryz.aIk]at hlen;have hcs:∃ a b c,cs.toList=[a,b,c]:=aOI hlen;obtain⟨a,b,c,hcs⟩:=hcs;have ecs:cs=#[a,b,c]:=Array.ext' hcs;subst ecs;obtain⟨x0,x1,x2,rfl⟩:=aOI hxl;obtain⟨l,c1,loc1,a1,a2,a3⟩:=O2 aX (by decide) Tryz.underlying22 Tryz.aAs aPu (show DataW.trod enc Tryz.prog W 0 (fun _=>true) true fu 22 [a]=some x0 by simpa[Tryz.aK2,Value.cells]using hf 0 _ rfl);obtain⟨m,c2,loc2,b1,b2,b3⟩:=O2 bS (by decide) Tryz.underlying23 Tryz.aAf aPd (show DataW.trod enc Tryz.prog W 0 (fun _=>true) true fu 23 [b]=some x1 by simpa[Tryz.aJS,Value.cells]using hf 1 _ rfl);obtain⟨n,e1⟩:=oF (show DataW.trod enc Tryz.prog W 0 (fun _=>true) true fu 3 [c]=some x2 by simpa[Tryz.yQ,Value.cells]using hf 2 _ rfl);subst e1;obtain⟨z0,rfl⟩:=okWide_int Tryz.underlying3 (hval 1 3 v1 rfl rfl);clear hA0 hval0;simp only[List.append_nil,List.append_assoc]at hW';have hlt:∀ x∈p0++p1,x.block<W.heap.size:=fun x hx=>(by simpa using hW'.lt x hx);refine(VX (r:=[iv z0]) (.cons aRK (.cons x16 (.cons aSM (.cons aR9 (.cons aQZ (.cons aSN .nil)))))) rfl (w3 l m n c1 c2 z0) rfl a1 b1 a2 b2 a3 b3).mono fun e W' ⟨he,hb⟩=>?_;subst he;refine⟨_,rfl,_,_,_,[],p0++p1,[],hW',trodAll_mk1 (aEB true),?_,rfl,hb.frame _,fun h=>by cases h⟩;exact trodAll_mk2 (Below.trod Tryz.laidOut (by kernel_rfl) (of_decide_eq_true (by kernel_rfl)) h0 hb (fun x hx=>hlt x (List.mem_append.2 (.inl hx)))) (Below.trod Tryz.laidOut (by kernel_rfl) (of_decide_eq_true (by kernel_rfl)) h1 hb (fun x hx=>hlt x (List.mem_append.2 (.inr hx))))
set_option maxRecDepth 100000 in
theorem jf:joinedFacts Tryz.prog 3 Tryz.f3 Rows.facesWithoutSpec Rows.facesWithoutRow=true:=by
 unfold joinedFacts;exact(fY (fY (fY (fY (fY (fY (fY (fY (fY (fY (fY (fY (fY (fY (fY (fY (fY (fY (fY (fY (fY (fY (fY (fY (fY (fY (fY (fY (fY (fY (fY jf0 jf1) jf2) jf3) jf4) jf5) jf6) jf7) jf8) jf9) aRw) aRE) aRC) aSp) aR6) aRi) aRc) aSn) aRk) aSq) aSB) aRR) aRz) aS9) aRt) aSf) aRW) aS1) (by kernel_rfl)) aRl) aRY) aRI)
theorem without_holds:Rows.FacesWithoutSaid :=
 OpenClaim.holds_of_wide 3 Tryz.f3 rfl rfl rfl rfl rfl rfl rfl ⟨rfl,rfl,rfl,rfl,rfl⟩ rfl rfl rfl rfl rfl (by kernel_rfl) Tryz.func3 jf
  (of_decide_eq_true (by kernel_rfl)) (by unfold Func.isWrapper;first|(rw[if_pos (by decide +kernel)];kernel_rfl)|(rw[if_neg (by decide +kernel)];exact⟨rfl,rfl⟩))
  (fun os started H enc _=>M8 os started H enc)
#print axioms without_holds
end Go.Proofs.YthgjfhncomhofaaGreat
end
