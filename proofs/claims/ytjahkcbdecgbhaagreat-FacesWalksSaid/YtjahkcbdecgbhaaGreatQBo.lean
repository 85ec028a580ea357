/-
  Parts of the proof, put together. No condition.
-/
import Derived.Test.YtjahkcbdecgbhaaGreatQAw
import Derived.Test.YtjahkcbdecgbhaaGreatQBl
import Derived.Test.YtjahkcbdecgbhaaGreatQBn
set_option linter.unusedSimpArgs false
set_option linter.unusedVariables false
noncomputable section
namespace Go.Aw
set_option maxRecDepth 100000
theorem LU (v u w x:Pt):pP v u w x=true↔GQ (r5 u v) (r5 w v) (r5 x v):=by
 have h1:∀ a b,A4 v a b=rk (r5 a v) (r5 b v):=fun a b=>rfl;unfold pP GQ;rw [h1,h1,D7];split
 ·rename_i e;rw [decide_eq_true_iff];constructor
  ·exact fun h=>.inr ⟨e,h⟩
  ·rintro (h|⟨_,h⟩)
   ·omega
   ·exact h
 ·rename_i e;rw [decide_eq_true_iff];constructor
  ·exact fun h=>.inl h
  ·rintro (h|⟨h,_⟩)
   ·exact h
   ·exact absurd h e
section
variable {l:List Pt}{m:List Ed}{n:Int}
abbrev G3 (l:List Pt)(m:List Ed)(x:Int):V2:=eG (bR (aW l m m.length) x.toNat)
theorem aAM (hp:fS l m n=true){s:Nat}(hs:s<l.length){i j:Nat}(hij:i<j)(hj:j<(bK (outs l m) s).length):wQ (G3 l m (aN (bK (outs l m) s) i)) (G3 l m (aN (bK (outs l m) s) j)):=by
 have hok:=mC hp;have hso:=(yY hok hs).1 i j (Nat.zero_le _) hij hj;obtain⟨a,a1,a2,a3⟩:=(jK hok hs).1 (at_mem (show i<(bK (outs l m) s).length by omega));obtain⟨b,b1,b2,b3⟩:=(jK hok hs).1 (at_mem hj);have hne:a≠b:=fun e=>by
  have:=N5 (DU hok hs) (show i<_ by omega) hj (by rw [a2,b2,e]);omega
 have hM:=(gY hok).1;have fa:=lM (l:=l) hM a1;have fb:=lM (l:=l) hM b1;have na:=AG hok a1;have nb:=AG hok b1;unfold AS at hso;rw [a2,b2] at hso ⊢;show wQ (eG (bR (aW l m m.length) ((a:Int)).toNat)) (eG (bR (aW l m m.length) ((b:Int)).toNat));rw [Int.toNat_natCast,Int.toNat_natCast];rcases U6 na nb (fun hr=>hne (aCq hp a1 b1 (by omega) hr)) with h|h
 ·exact h
 ·exfalso;rw [(tS _ _ _).2 (by rw [Int.toNat_natCast,Int.toNat_natCast];exact h)] at hso;cases hso
theorem aDu (hp:fS l m n=true){d:Int}(h0:0≤d)(h1:d<(2*m.length:Nat)){x:Nat}(hx:x<2*m.length)(hfx:(bR (aW l m m.length) x).fr=(bR (aW l m m.length) d.toNat).tt)(hne:(x:Int)≠yL (aW l m m.length) (outs l m) d) :
  GQ (G3 l m (eU d)) (G3 l m (yL (aW l m m.length) (outs l m) d)) (G3 l m x):=by
 have hok:=mC hp;obtain⟨s,a,e1,hs,e2,ha,e3,e4,e5⟩:=rX hok h0 h1;have hb:=C1 (E:=m.length) h0 h1;have hmem:(x:Int)∈bK (outs l m) s:=(jK hok hs).2 ⟨x,hx,rfl,by rw [hfx,e1]⟩;obtain⟨q,hq,hqe⟩:=List.getElem_of_mem hmem;rw [← gK hq] at hqe;have hord:∀ {i j:Nat},i<j→j<(bK (outs l m) s).length→wQ (G3 l m (aN (bK (outs l m) s) i)) (G3 l m (aN (bK (outs l m) s) j)):=fun hij hj=>aAM hp hs hij hj;have hnz:∀ {i:Nat},i<(bK (outs l m) s).length→nz (G3 l m (aN (bK (outs l m) s) i)):=fun {i} hi=>by
  obtain⟨c,c1,c2,_⟩:=(jK hok hs).1 (at_mem hi);rw [c2];show nz (eG (bR (aW l m m.length) ((c:Int)).toNat));rw [Int.toNat_natCast];exact AG hok c1
 rw [e5] at hne ⊢;rw [← e4,← hqe];rw [← hqe] at hne;generalize bK (outs l m) s=L at *;by_cases ha0:a=0
 ·rw [if_pos ha0] at hne ⊢;have hqn:q≠L.length - 1:=fun e=>hne (by rw [e]);subst ha0;by_cases hq0:q=0
  ·rw [hq0];exact HM (hnz ha) (hnz (by omega)) (.inl (hord (by omega) (by omega)))
  ·exact three (hnz ha) (hnz (by omega)) (hnz hq) (.inl ⟨hord (by omega) hq,hord (by omega) (by omega),hord (by omega) (by omega)⟩)
 ·rw [if_neg ha0] at hne ⊢;have hqn:q≠a - 1:=fun e=>hne (by rw [e]);by_cases hqa:q=a
  ·rw [hqa];exact HM (hnz ha) (hnz (by omega)) (.inr (hord (by omega) ha))
  ·rcases Nat.lt_or_ge q a with h|h
   ·exact three (hnz ha) (hnz (by omega)) (hnz hq) (.inr (.inr ⟨hord (by omega) (by omega),hord (by omega) ha,hord (by omega) ha⟩))
   ·exact three (hnz ha) (hnz (by omega)) (hnz hq) (.inr (.inl ⟨hord (by omega) ha,hord (by omega) hq,hord (by omega) hq⟩))
theorem yX (l:List Pt)(m:List Ed){d:Int}(h0:0≤d)(h1:d<(2*m.length:Nat)):bL m d=(bR (aW l m m.length) d.toNat).fr∧gI m d=(bR (aW l m m.length) d.toNat).tt:=by
 have key:∀ {e:Int},0≤e→e<(2*m.length:Nat)→bL m e=(bR (aW l m m.length) e.toNat).fr:=fun {e} he0 he1=>by
  unfold bL;rcases mG (l:=l) (m:=m) (N:=m.length) (i:=e.toNat) (by omega) with ⟨x,h⟩|⟨x,h⟩
  ·rw [h,if_pos (by omega),show (e / 2).toNat=e.toNat / 2 by omega];rfl
  ·rw [h,if_neg (by omega),show (e / 2).toNat=e.toNat / 2 by omega];rfl
 refine⟨key h0 h1,?_⟩;have hb:=C1 (E:=m.length) h0 h1;unfold gI;rw [show d+1 - 2*(d % 2)=eU d by unfold eU;split <;> omega,key hb.1 hb.2];exact (JK l m h0 h1).1
theorem OT (hp:fS l m n=true){d:Int}(h0:0≤d)(h1:d<(2*m.length:Nat)){k:List Bool}(hk:∀ i,i<2*m.length→cQ k i=true):fF l m k d (2*m.length)=yL (aW l m m.length) (outs l m) d:=by
 have hok:=mC hp;have hM:=(gY hok).1;have hn:=ML hok h0 h1;have hfd:=yX l m h0 h1;have hbd:=JK l m h0 h1;have hb:=C1 (E:=m.length) h0 h1;have hfr:=lM (l:=l) hM (i:=d.toNat) (by omega);obtain⟨Y,hY⟩:∃ Y:Nat,yL (aW l m m.length) (outs l m) d=Y:=⟨(yL (aW l m m.length) (outs l m) d).toNat,by omega⟩;have hYl:Y<2*m.length:=(by omega);have hYf:=lM (l:=l) hM hYl;have hfY:(bR (aW l m m.length) Y).fr=(bR (aW l m m.length) d.toNat).tt:=by
  have:=hn.2.2;rw [hY,Int.toNat_natCast] at this;omega
 -- a dart's direction from the point
 have hv:∀ {x:Nat},x<2*m.length→(bR (aW l m m.length) x).fr=(bR (aW l m m.length) d.toNat).tt→r5 (dN l (gI m x)) (dN l (gI m d))=G3 l m x:=fun {x} hx hf=>by
  have e:=yX l m (d:=(x:Int)) (by omega) (by omega);have e2:=KK l m hx;rw [hf] at e2;show _=eG (bR (aW l m m.length) ((x:Int)).toNat);rw [Int.toNat_natCast,e2,e.2,hfd.2,Int.toNat_natCast]
 have hu:r5 (dN l (bL m d)) (dN l (gI m d))=G3 l m (eU d):=by
  have e2:=KK l m (i:=(eU d).toNat) (by omega);rw [hbd.1,hbd.2.1] at e2;rw [hfd.1,hfd.2];exact e2.symm
 have hc:∀ {x:Nat},x<2*m.length→(bL m x=gI m d↔(bR (aW l m m.length) x).fr=(bR (aW l m m.length) d.toNat).tt):=fun {x} hx=>by
  rw [(yX l m (d:=(x:Int)) (by omega) (by omega)).1,hfd.2,Int.toNat_natCast]
 have hsoon:∀ {x:Nat},x<2*m.length→(bR (aW l m m.length) x).fr=(bR (aW l m m.length) d.toNat).tt→x≠Y→pP (dN l (gI m d)) (dN l (bL m d)) (dN l (gI m Y)) (dN l (gI m x))=true∧pP (dN l (gI m d)) (dN l (bL m d)) (dN l (gI m x)) (dN l (gI m Y))=false:=fun {x} hx hf hne=>by
  have h:=aDu hp h0 h1 hx hf (by rw [hY];omega);rw [hY] at h;refine⟨(LU _ _ _ _).2 (by rw [hu,hv hYl hfY,hv hx hf];exact h),?_⟩;cases hq:pP (dN l (gI m d)) (dN l (bL m d)) (dN l (gI m x)) (dN l (gI m Y)) with
  |false=>rfl
  |true =>
   have:=(LU _ _ _ _).1 hq;rw [hu,hv hYl hfY,hv hx hf] at this;exact absurd this (QP h)
 have key:∀ j,j≤2*m.length→(Y<j→fF l m k d j=Y)∧(j≤Y→fF l m k d j = -1∨∃ c:Nat,c<j∧fF l m k d j=c∧(bR (aW l m m.length) c).fr=(bR (aW l m m.length) d.toNat).tt):=by
  intro j
  induction j with
  |zero=>exact fun _=>⟨fun h=>by omega,fun _=>.inl rfl⟩
  |succ j ih =>
   intro hj;obtain⟨i1,i2⟩:=ih (by omega);rcases Nat.lt_trichotomy j Y with h|h|h
   ·refine⟨fun h'=>by omega,fun _=>?_⟩;unfold fF;split
    ·rename_i hc';exact .inr ⟨j,Nat.lt_succ_self j,rfl,(hc (by omega)).1 hc'.1.2⟩
    ·rcases i2 (by omega) with e|⟨c,c1,c2,c3⟩
     ·exact .inl e
     ·exact .inr ⟨c,by omega,c2,c3⟩
   ·subst h;refine⟨fun _=>?_,fun h'=>by omega⟩;refine aG9 ⟨⟨hk j hYl,(hc hYl).2 hfY⟩,?_⟩;rcases i2 (Nat.le_refl _) with e|⟨c,c1,c2,c3⟩
    ·exact .inl (by omega)
    ·rw [c2];exact .inr (hsoon (by omega) c3 (by omega)).1
   ·refine⟨fun _=>?_,fun h'=>by omega⟩;rw [aCh (fun hh=>?_),i1 h];obtain⟨⟨_,q1⟩,q2⟩:=hh;rw [i1 h] at q2;rcases q2 with q2|q2
    ·omega
    ·rw [(hsoon (by omega) ((hc (by omega)).1 q1) (by omega)).2] at q2;cases q2
 rw [(key _ (Nat.le_refl _)).1 hYl,hY]
end
theorem yT (of w:List Int)(fc:Int)(hw:∀ t,t<w.length→(aN w t).toNat<of.length)(i:Nat):∀ k,k≤w.length→((∃ t,t<k∧(aN w t).toNat=i)→aN (dM of w fc k) i=fc)∧((¬ ∃ t,t<k∧(aN w t).toNat=i)→aN (dM of w fc k) i=aN of i)
 |0,_=>⟨fun ⟨t,h,_⟩=>by omega,fun _=>rfl⟩
 |k+1,hk=>by
  obtain⟨i1,i2⟩:=yT of w fc hw i k (by omega);have hs:=PA (dM of w fc k) (aN w k).toNat fc i (by rw [eV];exact hw k (by omega));unfold dM;rw [hs];by_cases e:i=(aN w k).toNat
  ·rw [if_pos e];exact⟨fun _=>rfl,fun h=>absurd ⟨k,Nat.lt_succ_self k,e.symm⟩ h⟩
  ·rw [if_neg e];refine⟨fun ⟨t,h1,h2⟩=>i1 ⟨t,?_,h2⟩,fun h=>i2 fun ⟨t,h1,h2⟩=>h ⟨t,by omega,h2⟩⟩;rcases Nat.lt_or_ge t k with h|h
   ·exact h
   ·exact absurd (by rw [← h2,show t=k by omega]) e
theorem qO (L:List Bool)(x:Nat)(v:Bool)(i:Nat)(hx:x<L.length):cQ (L.set x v) i=if i=x then v else cQ L i:=by
 unfold cQ;rw [List.getD_eq_getElem?_getD,List.getD_eq_getElem?_getD,List.getElem?_set];by_cases h:x=i
 ·subst h;simp [hx]
 ·rw [if_neg h,if_neg (fun e=>h e.symm)]
theorem qP (s:List Bool)(w:List Int)(hw:∀ t,t<w.length→(aN w t).toNat<s.length)(i:Nat):∀ k,k≤w.length→((∃ t,t<k∧(aN w t).toNat=i)→cQ (fH s w k) i=true)∧((¬ ∃ t,t<k∧(aN w t).toNat=i)→cQ (fH s w k) i=cQ s i)
 |0,_=>⟨fun ⟨t,h,_⟩=>by omega,fun _=>rfl⟩
 |k+1,hk=>by
  obtain⟨i1,i2⟩:=qP s w hw i k (by omega);have hs:=qO (fH s w k) (aN w k).toNat true i (by rw [kB];exact hw k (by omega));unfold fH;rw [hs];by_cases e:i=(aN w k).toNat
  ·rw [if_pos e];exact⟨fun _=>rfl,fun h=>absurd ⟨k,Nat.lt_succ_self k,e.symm⟩ h⟩
  ·rw [if_neg e];refine⟨fun ⟨t,h1,h2⟩=>i1 ⟨t,?_,h2⟩,fun h=>i2 fun ⟨t,h1,h2⟩=>h ⟨t,by omega,h2⟩⟩;rcases Nat.lt_or_ge t k with h|h
   ·exact h
   ·exact absurd (by rw [← h2,show t=k by omega]) e
theorem T6 {f:Int→Int}{d:Int}{N T:Nat}:∀ {k i:Nat},i≤T→T≤i+k→(∀ t,i≤t→t<T→lY f d N t=true)→lY f d N T=false→tF f d N k i=T
 |0,i,h1,h2,_,_=>by unfold tF;omega
 |k+1,i,h1,h2,h3,h4=>by
  unfold tF;by_cases e:i=T
  ·rw [e,h4];rfl
  ·rw [h3 i (Nat.le_refl _) (by omega),if_pos rfl];exact T6 (by omega) (by omega) (fun t a b=>h3 t (by omega) b) h4
section
variable {l:List Pt}{m:List Ed}{n:Int}
theorem Q2 {E i:Nat}(h:i<E):cQ (List.replicate E true) i=true:=by
 unfold cQ;rw [List.getD_eq_getElem?_getD,List.getElem?_replicate,if_pos h];rfl
theorem LQ (hp:fS l m n=true){d:Nat}(hd:d<2*m.length):jI l m (List.replicate (2*m.length) true) d=uJ (aW l m m.length) (outs l m) d:=by
 have hok:=mC hp;have hin:=BG hok (d:=(d:Int)) (by omega) (by omega);have hx:∀ i,oM (FD l m (List.replicate (2*m.length) true)) d i=oA (aW l m m.length) (outs l m) d (i+1):=by
  intro i
  induction i with
  |zero=>exact OT hp (by omega) (by omega) (fun i hi=>Q2 hi)
  |succ i ih =>
   unfold oM;rw [ih];have:=hin (i+1);exact OT hp this.1 this.2 (fun i hi=>Q2 hi)
 have hw:=List.all_eq_true.1 (J3 hok) d (List.mem_range.2 (by rw [bI];exact hd));have hw:=of_decide_eq_true hw;obtain⟨p1,p2,p3⟩:=m7 (aW l m m.length) (outs l m) d (aW l m m.length).length 1;unfold uJ;unfold mZ at hw ⊢;generalize FR (aW l m m.length) (outs l m) d (aW l m m.length).length 1=T at *;rw [bI] at p2;have hN:tF (FD l m (List.replicate (2*m.length) true)) d (2*m.length) (2*m.length+2) 0=T - 1:=by
  refine T6 (Nat.zero_le _) (by omega) (fun t _ ht=>?_) ?_
  ·unfold lY;rw [hx];have a:=hin (t+1);have b:=p3 (t+1) (by omega) (by omega);rw [decide_eq_false b,decide_eq_true a.1,decide_eq_true (show t≤2*m.length by omega)];rfl
  ·unfold lY;rw [hx,show T - 1+1=T by omega,hw,decide_eq_true rfl];rfl
 unfold jI;rw [hN];unfold B5;apply List.ext_getElem?;intro i;cases i with
 |zero =>
  rw [List.getElem?_cons_zero,List.getElem?_map,List.getElem?_range (by omega)];rfl
 |succ i =>
  rw [List.getElem?_cons_succ,List.getElem?_map,List.getElem?_map];by_cases h:i<T - 1
  ·rw [List.getElem?_range h,List.getElem?_range (by omega)];simp only [Option.map_some];rw [hx]
  ·rw [List.getElem?_eq_none (by rw [List.length_range];omega),List.getElem?_eq_none (by rw [List.length_range];omega)];rfl
theorem KJ (l:List Pt)(m:List Ed){w:List Int}(hw:eM (aW l m m.length) w=true):∀ k,k≤w.length→lK l m w k=F5 l (aW l m m.length) w k
 |0,_=>rfl
 |k+1,h=>by
  unfold lK F5;rw [KJ l m hw k (by omega)];have hk:=iH hw (i:=k) (by omega);rw [bI] at hk;have:=yX l m hk.1 (by omega);unfold LF crI dN;rw [this.1,this.2]
structure Fre (m:List Ed) (s:Fst) (t:OO):Prop where
 len:s.of.length=2*m.length
 seen:t.seen.length=2*m.length
 face:t.face.length=2*m.length
 of:∀ i,i<2*m.length→(cQ t.seen i=true∧0≤aN s.of i∧aN s.of i=aN t.face i)∨(cQ t.seen i=false∧aN s.of i<0)
 many:s.faces=t.many
 low:0≤t.many
 out:s.outside=t.out
 ok:s.ok=!t.flat
theorem aAh (hp:fS l m n=true){s:Fst}{t:OO}(h:Fre m s t){d:Nat}(hd:d<2*m.length):Fre m (oQ l m s d) (mR l (aW l m m.length) (outs l m) t d)∧cQ (mR l (aW l m m.length) (outs l m) t d).seen d=true∧∀ i,cQ t.seen i=true→i<2*m.length→cQ (mR l (aW l m m.length) (outs l m) t d).seen i=true:=by
 have hok:=mC hp;unfold oQ mR;rcases h.of d hd with ⟨h1,h2,h3⟩|⟨h1,h2⟩
 ·rw [if_pos h2,if_pos h1];exact⟨h,h1,fun i hi _=>hi⟩
 ·rw [if_neg (by omega),if_neg (by rw [h1];decide)];simp only;rw [LQ hp hd];have w:=PE (l:=l) (EZ hok) (d:=d) (by rw [bI];exact hd);have hfirst:aN (uJ (aW l m m.length) (outs l m) d) 0=d:=by
   unfold uJ;unfold aN;rw [List.getD_eq_getElem?_getD,List.getElem?_map,List.getElem?_range (by
    have:=(m7 (aW l m m.length) (outs l m) d (aW l m m.length).length 1).1;unfold mZ;omega)]
   rfl
  generalize uJ (aW l m m.length) (outs l m) d=W at w hfirst ⊢;rw [KJ l m w.1 _ (Nat.le_refl _),h.many,h.out,h.ok];generalize F5 l (aW l m m.length) W W.length=A;have hr:∀ t,t<W.length→(aN W t).toNat<2*m.length:=fun t ht=>by
   have:=iH w.1 (i:=t) ht;rw [bI] at this;omega
  have hset:∀ fc:Int,0≤fc→∀ i,i<2*m.length→(cQ (fH t.seen W W.length) i=true∧0≤aN (dM s.of W fc W.length) i∧aN (dM s.of W fc W.length) i=aN (dM t.face W fc W.length) i)∨(cQ (fH t.seen W W.length) i=false∧aN (dM s.of W fc W.length) i<0):=fun fc hfc i hi=>by
   obtain⟨a1,a2⟩:=yT s.of W fc (by rw [h.len];exact hr) i _ (Nat.le_refl _);obtain⟨b1,b2⟩:=yT t.face W fc (by rw [h.face];exact hr) i _ (Nat.le_refl _);obtain⟨c1,c2⟩:=qP t.seen W (by rw [h.seen];exact hr) i _ (Nat.le_refl _);by_cases e:∃ k,k<W.length∧(aN W k).toNat=i
   ·rw [a1 e,b1 e,c1 e];exact .inl ⟨rfl,hfc,rfl⟩
   ·rw [a2 e,b2 e,c2 e];exact h.of i hi
  refine⟨⟨by rw [eV];exact h.len,by rw [kB];exact h.seen,by rw [eV];exact h.face,?_,rfl,?_,?_,?_⟩,?_,?_⟩
  ·have:=h.low;by_cases hA:0<A
   ·simp only [if_pos hA];exact hset _ (by omega)
   ·simp only [if_neg hA];exact hset _ (by omega)
  ·have:=h.low;show 0≤if 0<A then t.many+1 else t.many
   split <;> omega
  ·show (if A<0 then t.out+1 else t.out)=if 0<A then t.out else if A<0 then t.out+1 else t.out
   split <;> split <;> (first|rfl|omega)
  ·show (if A=0 then false else !t.flat)=!(if 0<A then t.flat else if A<0 then t.flat else true);by_cases hA:0<A
   ·rw [if_pos hA,if_neg (by omega)]
   ·by_cases hA2:A<0
    ·rw [if_neg hA,if_pos hA2,if_neg (by omega)]
    ·rw [if_neg hA,if_neg hA2,if_pos (by omega)];rfl
  ·exact (qP t.seen W (by rw [h.seen];exact hr) d _ (Nat.le_refl _)).1 ⟨0,by omega,by rw [hfirst];rfl⟩
  ·intro i hi hi2;obtain⟨c1,c2⟩:=qP t.seen W (by rw [h.seen];exact hr) i _ (Nat.le_refl _);by_cases e:∃ k,k<W.length∧(aN W k).toNat=i
   ·exact c1 e
   ·show cQ (fH t.seen W W.length) i=true;rw [c2 e];exact hi
theorem T9 (hp:fS l m n=true):∀ d,d≤2*m.length→Fre m (jM l m d) (c8 l (aW l m m.length) (outs l m) d)∧∀ i,i<d→cQ (c8 l (aW l m m.length) (outs l m) d).seen i=true
 |0,_=>by
  refine⟨⟨by simp [jM],by simp [c8,bI],by simp [c8,bI],fun i hi=>.inr ?_,rfl,Int.le_refl 0,rfl,rfl⟩,fun i hi=>by omega⟩;unfold jM c8 cQ aN;rw [List.getD_eq_getElem?_getD,List.getD_eq_getElem?_getD,List.getElem?_replicate,List.getElem?_replicate,bI,if_pos hi,if_pos hi];exact⟨rfl,by decide⟩
 |d+1,h=>by
  obtain⟨i1,i2⟩:=T9 hp d (by omega);obtain⟨a1,a2,a3⟩:=aAh hp i1 (d:=d) (by omega);refine⟨a1,fun i hi=>?_⟩;by_cases e:i=d
  ·rw [e];exact a2
  ·exact a3 i (i2 i (by omega)) (by omega)
theorem Q1 {f g:Nat→Bool}{n:Nat}(h:∀ i,i<n→f i=g i):mQ f n=mQ g n:=by
 rw [Bool.eq_iff_iff];exact⟨fun a=>eN fun i hi=>by rw [← h i hi];exact fI a hi,fun a=>eN fun i hi=>by rw [h i hi];exact fI a hi⟩
theorem aCa (hp:fS l m n=true):(zU (c9 l m)&&(decide ((c9 l m).many=n)&&mQ (C9 l m) m.length))=(KV (dZ l m)&&(decide ((dZ l m).faces=n)&&mQ (faB m (dZ l m).of) m.length)):=by
 obtain⟨_,_,_,_,_,hn,_⟩:=gY (mC hp);obtain⟨h1,h2⟩:=T9 hp (2*m.length) (Nat.le_refl _);have e:c9 l m=c8 l (aW l m m.length) (outs l m) (2*m.length):=by
  unfold c9 nmD;rw [bI]
 have hof:∀ i,i<2*m.length→aN (dZ l m).of i=aN (c9 l m).face i:=fun i hi=>by
  rw [e];rcases h1.of i hi with ⟨_,_,h⟩|⟨h,_⟩
  ·exact h
  ·rw [h2 i hi] at h;cases h
 have hall:mQ (C9 l m) m.length=mQ (faB m (dZ l m).of) m.length:=by
  refine Q1 fun i hi=>?_;unfold C9 faB;rw [hof (2*i) (by omega),hof (2*i+1) (by omega)]
 rw [hall];unfold zU KV;have k1:(dZ l m).faces=(c9 l m).many:=(by rw [e];exact h1.many);have k2:(dZ l m).outside=(c9 l m).out:=(by rw [e];exact h1.out);have k3:(dZ l m).ok=!(c9 l m).flat:=(by rw [e];exact h1.ok);rw [k1,k2,k3];by_cases hc:(c9 l m).many=n
 ·rw [decide_eq_true hc,decide_eq_true (show 1≤(c9 l m).many by omega)];cases decide ((c9 l m).out=1) <;> cases (c9 l m).flat <;> rfl
 ·rw [decide_eq_false hc];simp
end
def DY (S T:List Bool):Prop:=∀ i,cQ S i=true→cQ T i=true
theorem DY.refl (S:List Bool):DY S S:=fun _ h=>h
theorem DY.trans {A B C:List Bool}(h1:DY A B)(h2:DY B C):DY A C:=fun i h=>h2 i (h1 i h)
theorem SX:∀ {S T:List Bool},T.length=S.length→DY S T→fW T≤fW S∧(fW T=fW S→T=S)
 |[],[],_,_=>⟨Nat.le_refl _,fun _=>rfl⟩
 |[],_::_,h,_=>by simp at h
 |_::_,[],h,_=>by simp at h
 |a::S,b::T,hl,h=>by
  obtain⟨i1,i2⟩:=SX (S:=S) (T:=T) (by simpa using hl) fun i hi=>h (i+1) hi;have h0:a=true→b=true:=h 0;unfold fW at *;simp only [List.countP_cons];cases a <;> cases b <;> simp at h0 ⊢
  ·exact⟨by omega,fun e=>i2 (by omega)⟩
  ·omega
  ·exact⟨i1,i2⟩
theorem VM {S:List Bool}{i:Nat}(h:S.length≤i):cQ S i=false:=by
 unfold cQ;rw [List.getD_eq_getElem?_getD,List.getElem?_eq_none h];rfl
theorem KG (S:List Bool)(p:Nat):DY S (S.set p true):=fun i hi=>by
 by_cases h:p<S.length
 ·rw [qO _ _ _ _ h];split
  ·rfl
  ·exact hi
 ·rw [List.set_eq_of_length_le (by omega)];exact hi
section
variable {D:List Dt}{ls:List (List Int)}{nP:Nat}
theorem IT (hL:∀ q,∀ x∈bK ls q,mE D x<nP):∀ (n:Nat) (S:List Bool) (p:Nat),S.length=nP→p<nP→cQ S p=false→fW S≤n →
  DY S (CP D ls n S p)∧cQ (CP D ls n S p) p=true∧∀ q,cQ (CP D ls n S p) q=true→cQ S q=false→∀ x∈bK ls q,cQ (CP D ls n S p) (mE D x)=true
 |0,S,p,h1,h2,h3,h4=>by have:=R5 (by omega) h3;omega
 |n+1,S,p,h1,h2,h3,h4=>by
  have hcs:=KA (S:=S) (p:=p) (by omega) h3
  have key:∀ (L:List Int) (M:List Bool),M.length=nP→fW M≤n→(∀ x∈L,mE D x<nP) →
    DY M (L.foldl (fun S x=>if cQ S (mE D x)=true then S else CP D ls n S (mE D x)) M)∧(∀ x∈L,cQ (L.foldl (fun S x=>if cQ S (mE D x)=true then S else CP D ls n S (mE D x)) M) (mE D x)=true) ∧
    ∀ q,cQ (L.foldl (fun S x=>if cQ S (mE D x)=true then S else CP D ls n S (mE D x)) M) q=true→cQ M q=false→∀ x∈bK ls q,cQ (L.foldl (fun S x=>if cQ S (mE D x)=true then S else CP D ls n S (mE D x)) M) (mE D x)=true:=by
   intro L
   induction L with
   |nil=>exact fun M _ _ _=>⟨DY.refl M,fun x hx=>(by cases hx),fun q hq hf=>by rw [List.foldl_nil] at hq;rw [hq] at hf;cases hf⟩
   |cons y r ih =>
    intro M hM hc hr;rw [List.foldl_cons];by_cases hy:cQ M (mE D y)=true
    ·rw [if_pos hy];obtain⟨k1,k2,k3⟩:=ih M hM hc fun x hx=>hr x (.tail _ hx);refine⟨k1,fun x hx=>?_,k3⟩;rcases List.mem_cons.1 hx with rfl|hx
     ·exact k1 _ hy
     ·exact k2 x hx
    ·rw [if_neg hy];have hyf:cQ M (mE D y)=false:=(by simpa using hy);obtain⟨v1,v2,v3⟩:=IT hL n M (mE D y) hM (hr y (.head _)) hyf hc;obtain⟨c1,c2⟩:=FP D ls n M (mE D y);obtain⟨k1,k2,k3⟩:=ih (CP D ls n M (mE D y)) (by omega) (by omega) fun x hx=>hr x (.tail _ hx);refine⟨v1.trans k1,fun x hx=>?_,fun q hq hf x hx=>?_⟩
     ·rcases List.mem_cons.1 hx with rfl|hx
      ·exact k1 _ v2
      ·exact k2 x hx
     ·cases hv:cQ (CP D ls n M (mE D y)) q with
      |true=>exact k1 _ (v3 q hv hf x hx)
      |false=>exact k3 q hq hv x hx
  obtain⟨k1,k2,k3⟩:=key (bK ls p) (S.set p true) (by rw [List.length_set];exact h1) (by omega) (hL p);have hp0:cQ (S.set p true) p=true:=(by rw [qO _ _ _ _ (by omega),if_pos rfl]);show DY S ((bK ls p).foldl _ (S.set p true))∧cQ ((bK ls p).foldl _ (S.set p true)) p=true∧∀ q,cQ ((bK ls p).foldl _ (S.set p true)) q=true→_;refine⟨(KG S p).trans k1,k1 _ hp0,fun q hq hf x hx=>?_⟩;by_cases e:q=p
  ·rw [e] at hx;exact k2 x hx
  ·exact k3 q hq (by rw [qO _ _ _ _ (by omega),if_neg e];exact hf) x hx
theorem SQ {Z:Nat→Prop}(hZ:∀ q,Z q→∀ x∈bK ls q,Z (mE D x)):∀ (n:Nat) (S:List Bool) (p:Nat),(∀ i,cQ S i=true→Z i)→Z p→∀ i,cQ (CP D ls n S p) i=true→Z i
 |0,S,p,h1,h2=>h1
 |n+1,S,p,h1,h2=>by
  have key:∀ (L:List Int) (M:List Bool),(∀ i,cQ M i=true→Z i)→(∀ x∈L,Z (mE D x))→∀ i,cQ (L.foldl (fun S x=>if cQ S (mE D x)=true then S else CP D ls n S (mE D x)) M) i=true→Z i:=by
   intro L
   induction L with
   |nil=>exact fun M h _=>h
   |cons y r ih =>
    intro M hM hr;rw [List.foldl_cons];split
    ·exact ih M hM fun x hx=>hr x (.tail _ hx)
    ·exact ih _ (SQ hZ n M (mE D y) hM (hr y (.head _))) fun x hx=>hr x (.tail _ hx)
  exact key (bK ls p) (S.set p true) (fun i hi=>by
   rcases yC _ _ _ hi with e|h
   ·rw [e];exact h2
   ·exact h1 i h) (hZ p h2)
end
theorem aDc (s:List Bool)(e:Ed):DY s (uV s e):=by
 unfold uV;split
 ·exact (KG s _).trans (KG _ _)
 ·exact DY.refl s
theorem yK (m:List Ed)(s:List Bool):∀ {i j:Nat},i≤j→DY (mA m s i) (mA m s j)
 |i,0,h=>by rw [show i=0 by omega];exact DY.refl _
 |i,j+1,h=>by
  by_cases e:i=j+1
  ·rw [e];exact DY.refl _
  ·exact (yK m s (show i≤j by omega)).trans (aDc _ _)
theorem A0 (l:List Pt)(m:List Ed):∀ k,(mA m (dI l m k) m.length=dI l m k)∨fW (dI l m k)+k≤fW (dI l m 0)
 |0=>.inr (Nat.le_refl _)
 |k+1=>by
  rcases A0 l m k with h|h
  ·left;have:dI l m (k+1)=dI l m k:=h;rw [this];exact h
  ·have hl:=rT m (dI l m k) m.length;obtain⟨c1,c2⟩:=SX hl (yK m (dI l m k) (Nat.zero_le _));by_cases e:fW (mA m (dI l m k) m.length)=fW (dI l m k)
   ·left;have:dI l m (k+1)=dI l m k:=c2 e;rw [this];exact c2 e
   ·right;show fW (mA m (dI l m k) m.length)+(k+1)≤_;have c1':fW (mA m (dI l m k) m.length)≤fW (dI l m k):=c1;omega
theorem aC2 {n:Nat}(h:1≤n):fW (lN n)+1≤n:=by
 have h1:=rP n;have h2:fW (lN n)≤(lN n).length:=List.countP_le_length;rcases Nat.lt_or_ge (fW (lN n)) n with h3|h3
 ·omega
 ·exfalso;have h4:cQ (lN n) 0=true:=by
   unfold lN cQ;rw [List.getD_eq_getElem?_getD,List.getElem?_map,List.getElem?_range (by omega)];rfl
  have h5:fW (lN n)=(lN n).length:=(by omega);have h6:=(List.countP_eq_length.1 h5) _ (List.getElem_mem (l:=lN n) (n:=0) (by omega));rw [qW (by omega)] at h4;rw [h4] at h6;cases h6
section
variable {l:List Pt}{m:List Ed}{n:Int}
theorem aGg (hok:cV l m n=true):NG l m=KF l m:=by
 obtain⟨hM,h3,h1l,h4,h6,_,_⟩:=gY hok;have hdt:∀ {i:Nat},i<2*m.length→0≤(bR (aW l m m.length) i).fr∧(bR (aW l m m.length) i).fr<l.length∧0≤(bR (aW l m m.length) i).tt∧(bR (aW l m m.length) i).tt<l.length:=fun {i} hi=>by
  have:=lM (l:=l) hM hi;omega
 have hls:∀ q,∀ x∈bK (outs l m) q,∃ i:Nat,i<2*m.length∧x=i∧(bR (aW l m m.length) i).fr.toNat=q∧q<l.length:=fun q x hx=>by
  by_cases hq:q<l.length
  ·obtain⟨i,a,b,c⟩:=(jK hok hq).1 hx;exact⟨i,a,b,c,hq⟩
  ·exfalso;unfold bK at hx;rw [List.getD_eq_getElem?_getD,List.getElem?_eq_none (by rw [eP];omega)] at hx;cases hx
 have hL:∀ q,∀ x∈bK (outs l m) q,mE (aW l m m.length) x<l.length:=fun q x hx=>by
  obtain⟨i,a,b,_,_⟩:=hls q x hx;have:=hdt a;unfold mE;rw [b,Int.toNat_natCast];omega
 have hS0:∀ i,cQ (List.replicate (outs l m).length false) i=false:=fun i=>by
  unfold cQ;rw [List.getD_eq_getElem?_getD,List.getElem?_replicate];split <;> rfl
 have hcnt:fW (List.replicate (outs l m).length false)≤1000:=by
  have:fW (List.replicate (outs l m).length false)≤(List.replicate (outs l m).length false).length:=List.countP_le_length;have e:=eP l m;rw [List.length_replicate] at this;omega
 obtain⟨v1,v2,v3⟩:=IT (nP:=l.length) hL 1000 (List.replicate (outs l m).length false) 0 (by rw [List.length_replicate,eP]) (by omega) (hS0 0) hcnt;have hlen:(eJ (aW l m m.length) (outs l m)).length=l.length:=by
  unfold eJ;rw [(FP _ _ _ _ _).2,List.length_replicate,eP]
 have hR:∀ q,cQ (eJ (aW l m m.length) (outs l m)) q=true→∀ x∈bK (outs l m) q,cQ (eJ (aW l m m.length) (outs l m)) (mE (aW l m m.length) x)=true:=fun q hq x hx=>v3 q hq (hS0 q) x hx
 -- along an edge,both ways
 have hedge:∀ {e:Nat},e<m.length→(2*e:Nat)<2*m.length∧((2*e:Nat):Int)∈bK (outs l m) (cW m e).a.toNat∧mE (aW l m m.length) ((2*e:Nat):Int)=(cW m e).b.toNat∧((2*e+1:Nat):Int)∈bK (outs l m) (cW m e).b.toNat∧mE (aW l m m.length) ((2*e+1:Nat):Int)=(cW m e).a.toNat:=fun {e} he=>by
  obtain⟨d1,d2⟩:=FA l m he;have hE:=KH hok he;refine⟨by omega,(jK hok (by omega)).2 ⟨2*e,by omega,rfl,by rw [d1];rfl⟩,?_,(jK hok (by omega)).2 ⟨2*e+1,by omega,rfl,by rw [d2];rfl⟩,?_⟩
  ·unfold mE;rw [Int.toNat_natCast,d1];rfl
  ·unfold mE;rw [Int.toNat_natCast,d2];rfl
 have hcR:∀ {e:Nat},e<m.length→(cQ (eJ (aW l m m.length) (outs l m)) (cW m e).a.toNat=true∨cQ (eJ (aW l m m.length) (outs l m)) (cW m e).b.toNat=true)→cQ (eJ (aW l m m.length) (outs l m)) (cW m e).a.toNat=true∧cQ (eJ (aW l m m.length) (outs l m)) (cW m e).b.toNat=true:=fun {e} he h=>by
  obtain⟨_,a1,a2,a3,a4⟩:=hedge he;rcases h with h|h
  ·exact⟨h,by rw [← a2];exact hR _ h _ a1⟩
  ·exact⟨by rw [← a4];exact hR _ h _ a3,h⟩
 -- the reference's lie in the program's
 have hsub:∀ k,DY (dI l m k) (eJ (aW l m m.length) (outs l m)):=by
  intro k
  induction k with
  |zero =>
   intro i hi;have:i=0:=by
    change cQ (lN l.length) i=true at hi;by_cases hil:i<l.length
    ·unfold lN cQ at hi;rw [List.getD_eq_getElem?_getD,List.getElem?_map,List.getElem?_range hil] at hi;simp at hi;exact hi
    ·rw [VM (by rw [rP];omega)] at hi;cases hi
   rw [this];exact v2
  |succ k ih =>
   have key:∀ j,j≤m.length→DY (mA m (dI l m k) j) (eJ (aW l m m.length) (outs l m)):=by
    intro j
    induction j with
    |zero=>exact fun _=>ih
    |succ j jh =>
     intro hj i hi;have jh:=jh (by omega);unfold mA uV at hi;split at hi
     ·rename_i hc;have hc:=hcR (e:=j) (by omega) (by
       rcases Bool.or_eq_true_iff.1 hc with hc|hc
       ·exact .inl (jh _ hc)
       ·exact .inr (jh _ hc))
      rcases yC _ _ _ hi with e|hi
      ·rw [e];exact hc.2
      ·rcases yC _ _ _ hi with e|hi
       ·rw [e];exact hc.1
       ·exact jh _ hi
     ·exact jh _ hi
   exact key m.length (Nat.le_refl _)
 -- the program's lie in the reference's
 have hst:mA m (dI l m l.length) m.length=dI l m l.length:=by
  rcases A0 l m l.length with h|h
  ·exact h
  ·exfalso;have:=aC2 h1l;have h2:fW (dI l m l.length)+l.length≤fW (lN l.length):=h;omega
 have hcC:∀ {e:Nat},e<m.length→(cQ (dI l m l.length) (cW m e).a.toNat=true∨cQ (dI l m l.length) (cW m e).b.toNat=true)→cQ (dI l m l.length) (cW m e).a.toNat=true∧cQ (dI l m l.length) (cW m e).b.toNat=true:=fun {e} he h=>by
  have hE:=KH hok he;have h1:=yK m (dI l m l.length) (Nat.zero_le e);have h2:=yK m (dI l m l.length) (show e+1≤m.length by omega);rw [hst] at h2;have hlen':(mA m (dI l m l.length) e).length=l.length:=(by rw [rT,xV]);have h3:mA m (dI l m l.length) (e+1)=uV (mA m (dI l m l.length) e) (cW m e):=rfl;have hc:(cQ (mA m (dI l m l.length) e) (cW m e).a.toNat || cQ (mA m (dI l m l.length) e) (cW m e).b.toNat)=true:=by
   rcases h with h|h
   ·rw [h1 _ h];rfl
   ·rw [h1 _ h,Bool.or_true]
  rw [h3,uV,if_pos hc] at h2;exact⟨h2 _ (by rw [qO _ _ _ _ (by rw [List.length_set];omega)];split <;> first|rfl|rw [qO _ _ _ _ (by omega),if_pos rfl]),h2 _ (by rw [qO _ _ _ _ (by rw [List.length_set];omega),if_pos rfl])⟩
 have hsup:DY (eJ (aW l m m.length) (outs l m)) (dI l m l.length):=by
  refine SQ (Z:=fun i=>cQ (dI l m l.length) i=true) (fun q hq x hx=>?_) 1000 _ 0 (fun i hi=>by rw [hS0] at hi;cases hi) ?_
  ·obtain⟨i,a,b,c,d⟩:=hls q x hx;rw [b];show cQ (dI l m l.length) (mE (aW l m m.length) (i:Int))=true;unfold mE;rw [Int.toNat_natCast];rcases mG (l:=l) (m:=m) a with ⟨_,h⟩|⟨_,h⟩
   ·rw [h] at c ⊢;exact (hcC (e:=i / 2) (by omega) (.inl (by rw [show (cW m (i / 2)).a.toNat=q from c];exact hq))).2
   ·rw [h] at c ⊢;exact (hcC (e:=i / 2) (by omega) (.inr (by rw [show (cW m (i / 2)).b.toNat=q from c];exact hq))).1
  ·have h0:DY (dI l m 0) (dI l m l.length):=by
    have:∀ k,DY (dI l m 0) (dI l m k):=by
     intro k
     induction k with
     |zero=>exact DY.refl _
     |succ k ih=>exact ih.trans (yK m (dI l m k) (Nat.zero_le _))
    exact this _
   refine h0 0 ?_;show cQ (lN l.length) 0=true;unfold lN cQ;rw [List.getD_eq_getElem?_getD,List.getElem?_map,List.getElem?_range (by omega)];rfl
 have hall:∀ {S:List Bool},S.length=l.length→(S.all id=true↔∀ i,i<l.length→cQ S i=true):=fun {S} hS=>by
  rw [List.all_eq_true];constructor
  ·intro h i hi;rw [qW (by omega)];exact h _ (List.getElem_mem _)
  ·intro h b hb;obtain⟨i,hi,rfl⟩:=List.getElem_of_mem hb;rw [← qW hi];exact h i (by omega)
 unfold NG KF;rw [Bool.eq_iff_iff,hall hlen,hall (xV l m _)];exact⟨fun h i hi=>hsup i (h i hi),fun h i hi=>hsub _ i (h i hi)⟩
theorem X5 (l:List Pt)(m:List Ed)(n:Int):cX l m n=GU l m n:=by
 unfold cX GU;cases hp:fS l m n with
 |false=>rfl
 |true=>rw [aGg (mC hp),aCa hp]
end
end Go.Aw
end
