/-
  Parts of the proof, put together. No condition.
-/
import Derived.Test.YtjahkcbdecgbhaaGreatQAw
import Derived.Test.YtjahkcbdecgbhaaGreatQBl
import Derived.Test.YtjahkcbdecgbhaaGreatQBn
set_option linter.unusedSimpArgs false
set_option linter.unusedVariables false
noncomputable section
namespace Go.Aw
set_option maxRecDepth 100000
theorem OO (v u w x:Pt):pN v u w x=true↔G6 (sK u v) (sK w v) (sK x v):=by
 have h1:∀ a b,BC v a b=rk (sK a v) (sK b v):=fun a b=>rfl;unfold pN G6;rw [h1,h1,DV];split
 ·rename_i e;rw [decide_eq_true_iff];constructor
  ·exact fun h=>.inr ⟨e,h⟩
  ·rintro (h|⟨_,h⟩)
   ·omega
   ·exact h
 ·rename_i e;rw [decide_eq_true_iff];constructor
  ·exact fun h=>.inl h
  ·rintro (h|⟨h,_⟩)
   ·exact h
   ·exact absurd h e
section
variable {l:List Pt}{m:List Ed}{n:Int}
abbrev GR (l:List Pt)(m:List Ed)(x:Int):V2:=eL (bX (a9 l m m.length) x.toNat)
theorem aB0 (hp:iA l m n=true){s:Nat}(hs:s<l.length){i j:Nat}(hij:i<j)(hj:j<(bK (outs l m) s).length):xA (GR l m (aN (bK (outs l m) s) i)) (GR l m (aN (bK (outs l m) s) j)):=by
 have hok:=mI hp;have hso:=(y8 hok hs).1 i j (Nat.zero_le _) hij hj;obtain⟨a,a1,a2,a3⟩:=(jO hok hs).1 (at_mem (show i<(bK (outs l m) s).length by omega));obtain⟨b,b1,b2,b3⟩:=(jO hok hs).1 (at_mem hj);have hne:a≠b:=fun e=>by
  have:=OQ (D7 hok hs) (show i<_ by omega) hj (by rw [a2,b2,e]);omega
 have hM:=(jX hok).1;have fa:=mC (l:=l) hM a1;have fb:=mC (l:=l) hM b1;have na:=A3 hok a1;have nb:=A3 hok b1;unfold AG at hso;rw [a2,b2] at hso ⊢;show xA (eL (bX (a9 l m m.length) ((a:Int)).toNat)) (eL (bX (a9 l m m.length) ((b:Int)).toNat));rw [Int.toNat_natCast,Int.toNat_natCast];rcases WE na nb (fun hr=>hne (aD8 hp a1 b1 (by omega) hr)) with h|h
 ·exact h
 ·exfalso;rw [(uM _ _ _).2 (by rw [Int.toNat_natCast,Int.toNat_natCast];exact h)] at hso;cases hso
theorem aC9 (hp:iA l m n=true){d:Int}(h0:0≤d)(h1:d<(2*m.length:Nat)){x:Nat}(hx:x<2*m.length)(hfx:(bX (a9 l m m.length) x).fr=(bX (a9 l m m.length) d.toNat).tt)(hne:(x:Int)≠BZ (a9 l m m.length) (outs l m) d) :
  G6 (GR l m (eU d)) (GR l m (BZ (a9 l m m.length) (outs l m) d)) (GR l m x):=by
 have hok:=mI hp;obtain⟨s,a,e1,hs,e2,ha,e3,e4,e5⟩:=s8 hok h0 h1;have hb:=DF (E:=m.length) h0 h1;have hmem:(x:Int)∈bK (outs l m) s:=(jO hok hs).2 ⟨x,hx,rfl,by rw [hfx,e1]⟩;obtain⟨q,hq,hqe⟩:=List.getElem_of_mem hmem;rw [← gP hq] at hqe;have hord:∀ {i j:Nat},i<j→j<(bK (outs l m) s).length→xA (GR l m (aN (bK (outs l m) s) i)) (GR l m (aN (bK (outs l m) s) j)):=fun hij hj=>aB0 hp hs hij hj;have hnz:∀ {i:Nat},i<(bK (outs l m) s).length→nz (GR l m (aN (bK (outs l m) s) i)):=fun {i} hi=>by
  obtain⟨c,c1,c2,_⟩:=(jO hok hs).1 (at_mem hi);rw [c2];show nz (eL (bX (a9 l m m.length) ((c:Int)).toNat));rw [Int.toNat_natCast];exact A3 hok c1
 rw [e5] at hne ⊢;rw [← e4,← hqe];rw [← hqe] at hne;generalize bK (outs l m) s=L at *;by_cases ha0:a=0
 ·rw [if_pos ha0] at hne ⊢;have hqn:q≠L.length - 1:=fun e=>hne (by rw [e]);subst ha0;by_cases hq0:q=0
  ·rw [hq0];exact I5 (hnz ha) (hnz (by omega)) (.inl (hord (by omega) (by omega)))
  ·exact three (hnz ha) (hnz (by omega)) (hnz hq) (.inl ⟨hord (by omega) hq,hord (by omega) (by omega),hord (by omega) (by omega)⟩)
 ·rw [if_neg ha0] at hne ⊢;have hqn:q≠a - 1:=fun e=>hne (by rw [e]);by_cases hqa:q=a
  ·rw [hqa];exact I5 (hnz ha) (hnz (by omega)) (.inr (hord (by omega) ha))
  ·rcases Nat.lt_or_ge q a with h|h
   ·exact three (hnz ha) (hnz (by omega)) (hnz hq) (.inr (.inr ⟨hord (by omega) (by omega),hord (by omega) ha,hord (by omega) ha⟩))
   ·exact three (hnz ha) (hnz (by omega)) (hnz hq) (.inr (.inl ⟨hord (by omega) ha,hord (by omega) hq,hord (by omega) hq⟩))
theorem DI (l:List Pt)(m:List Ed){d:Int}(h0:0≤d)(h1:d<(2*m.length:Nat)):cD m d=(bX (a9 l m m.length) d.toNat).fr∧gQ m d=(bX (a9 l m m.length) d.toNat).tt:=by
 have key:∀ {e:Int},0≤e→e<(2*m.length:Nat)→cD m e=(bX (a9 l m m.length) e.toNat).fr:=fun {e} he0 he1=>by
  unfold cD;rcases mM (l:=l) (m:=m) (N:=m.length) (i:=e.toNat) (by omega) with ⟨x,h⟩|⟨x,h⟩
  ·rw [h,if_pos (by omega),show (e / 2).toNat=e.toNat / 2 by omega];rfl
  ·rw [h,if_neg (by omega),show (e / 2).toNat=e.toNat / 2 by omega];rfl
 refine⟨key h0 h1,?_⟩;have hb:=DF (E:=m.length) h0 h1;unfold gQ;rw [show d+1 - 2*(d % 2)=eU d by unfold eU;split <;> omega,key hb.1 hb.2];exact (KP l m h0 h1).1
theorem Y4 (hp:iA l m n=true){d:Int}(h0:0≤d)(h1:d<(2*m.length:Nat)){k:List Bool}(hk:∀ i,i<2*m.length→cV k i=true):fU l m k d (2*m.length)=BZ (a9 l m m.length) (outs l m) d:=by
 have hok:=mI hp;have hM:=(jX hok).1;have hn:=OZ hok h0 h1;have hfd:=DI l m h0 h1;have hbd:=KP l m h0 h1;have hb:=DF (E:=m.length) h0 h1;have hfr:=mC (l:=l) hM (i:=d.toNat) (by omega);obtain⟨Y,hY⟩:∃ Y:Nat,BZ (a9 l m m.length) (outs l m) d=Y:=⟨(BZ (a9 l m m.length) (outs l m) d).toNat,by omega⟩;have hYl:Y<2*m.length:=(by omega);have hYf:=mC (l:=l) hM hYl;have hfY:(bX (a9 l m m.length) Y).fr=(bX (a9 l m m.length) d.toNat).tt:=by
  have:=hn.2.2;rw [hY,Int.toNat_natCast] at this;omega
 -- a dart's direction from the point
 have hv:∀ {x:Nat},x<2*m.length→(bX (a9 l m m.length) x).fr=(bX (a9 l m m.length) d.toNat).tt→sK (dQ l (gQ m x)) (dQ l (gQ m d))=GR l m x:=fun {x} hx hf=>by
  have e:=DI l m (d:=(x:Int)) (by omega) (by omega);have e2:=KD l m hx;rw [hf] at e2;show _=eL (bX (a9 l m m.length) ((x:Int)).toNat);rw [Int.toNat_natCast,e2,e.2,hfd.2,Int.toNat_natCast]
 have hu:sK (dQ l (cD m d)) (dQ l (gQ m d))=GR l m (eU d):=by
  have e2:=KD l m (i:=(eU d).toNat) (by omega);rw [hbd.1,hbd.2.1] at e2;rw [hfd.1,hfd.2];exact e2.symm
 have hc:∀ {x:Nat},x<2*m.length→(cD m x=gQ m d↔(bX (a9 l m m.length) x).fr=(bX (a9 l m m.length) d.toNat).tt):=fun {x} hx=>by
  rw [(DI l m (d:=(x:Int)) (by omega) (by omega)).1,hfd.2,Int.toNat_natCast]
 have hsoon:∀ {x:Nat},x<2*m.length→(bX (a9 l m m.length) x).fr=(bX (a9 l m m.length) d.toNat).tt→x≠Y→pN (dQ l (gQ m d)) (dQ l (cD m d)) (dQ l (gQ m Y)) (dQ l (gQ m x))=true∧pN (dQ l (gQ m d)) (dQ l (cD m d)) (dQ l (gQ m x)) (dQ l (gQ m Y))=false:=fun {x} hx hf hne=>by
  have h:=aC9 hp h0 h1 hx hf (by rw [hY];omega);rw [hY] at h;refine⟨(OO _ _ _ _).2 (by rw [hu,hv hYl hfY,hv hx hf];exact h),?_⟩;cases hq:pN (dQ l (gQ m d)) (dQ l (cD m d)) (dQ l (gQ m x)) (dQ l (gQ m Y)) with
  |false=>rfl
  |true =>
   have:=(OO _ _ _ _).1 hq;rw [hu,hv hYl hfY,hv hx hf] at this;exact absurd this (QW h)
 have key:∀ j,j≤2*m.length→(Y<j→fU l m k d j=Y)∧(j≤Y→fU l m k d j = -1∨∃ c:Nat,c<j∧fU l m k d j=c∧(bX (a9 l m m.length) c).fr=(bX (a9 l m m.length) d.toNat).tt):=by
  intro j
  induction j with
  |zero=>exact fun _=>⟨fun h=>by omega,fun _=>.inl rfl⟩
  |succ j ih =>
   intro hj;obtain⟨i1,i2⟩:=ih (by omega);rcases Nat.lt_trichotomy j Y with h|h|h
   ·refine⟨fun h'=>by omega,fun _=>?_⟩;unfold fU;split
    ·rename_i hc';exact .inr ⟨j,Nat.lt_succ_self j,rfl,(hc (by omega)).1 hc'.1.2⟩
    ·rcases i2 (by omega) with e|⟨c,c1,c2,c3⟩
     ·exact .inl e
     ·exact .inr ⟨c,by omega,c2,c3⟩
   ·subst h;refine⟨fun _=>?_,fun h'=>by omega⟩;refine aGZ ⟨⟨hk j hYl,(hc hYl).2 hfY⟩,?_⟩;rcases i2 (Nat.le_refl _) with e|⟨c,c1,c2,c3⟩
    ·exact .inl (by omega)
    ·rw [c2];exact .inr (hsoon (by omega) c3 (by omega)).1
   ·refine⟨fun _=>?_,fun h'=>by omega⟩;rw [aBV (fun hh=>?_),i1 h];obtain⟨⟨_,q1⟩,q2⟩:=hh;rw [i1 h] at q2;rcases q2 with q2|q2
    ·omega
    ·rw [(hsoon (by omega) ((hc (by omega)).1 q1) (by omega)).2] at q2;cases q2
 rw [(key _ (Nat.le_refl _)).1 hYl,hY]
end
theorem zD (of w:List Int)(fc:Int)(hw:∀ t,t<w.length→(aN w t).toNat<of.length)(i:Nat):∀ k,k≤w.length→((∃ t,t<k∧(aN w t).toNat=i)→aN (dN of w fc k) i=fc)∧((¬ ∃ t,t<k∧(aN w t).toNat=i)→aN (dN of w fc k) i=aN of i)
 |0,_=>⟨fun ⟨t,h,_⟩=>by omega,fun _=>rfl⟩
 |k+1,hk=>by
  obtain⟨i1,i2⟩:=zD of w fc hw i k (by omega);have hs:=P5 (dN of w fc k) (aN w k).toNat fc i (by rw [eX];exact hw k (by omega));unfold dN;rw [hs];by_cases e:i=(aN w k).toNat
  ·rw [if_pos e];exact⟨fun _=>rfl,fun h=>absurd ⟨k,Nat.lt_succ_self k,e.symm⟩ h⟩
  ·rw [if_neg e];refine⟨fun ⟨t,h1,h2⟩=>i1 ⟨t,?_,h2⟩,fun h=>i2 fun ⟨t,h1,h2⟩=>h ⟨t,by omega,h2⟩⟩;rcases Nat.lt_or_ge t k with h|h
   ·exact h
   ·exact absurd (by rw [← h2,show t=k by omega]) e
theorem rA (L:List Bool)(x:Nat)(v:Bool)(i:Nat)(hx:x<L.length):cV (L.set x v) i=if i=x then v else cV L i:=by
 unfold cV;rw [List.getD_eq_getElem?_getD,List.getD_eq_getElem?_getD,List.getElem?_set];by_cases h:x=i
 ·subst h;simp [hx]
 ·rw [if_neg h,if_neg (fun e=>h e.symm)]
theorem rK (s:List Bool)(w:List Int)(hw:∀ t,t<w.length→(aN w t).toNat<s.length)(i:Nat):∀ k,k≤w.length→((∃ t,t<k∧(aN w t).toNat=i)→cV (fL s w k) i=true)∧((¬ ∃ t,t<k∧(aN w t).toNat=i)→cV (fL s w k) i=cV s i)
 |0,_=>⟨fun ⟨t,h,_⟩=>by omega,fun _=>rfl⟩
 |k+1,hk=>by
  obtain⟨i1,i2⟩:=rK s w hw i k (by omega);have hs:=rA (fL s w k) (aN w k).toNat true i (by rw [kN];exact hw k (by omega));unfold fL;rw [hs];by_cases e:i=(aN w k).toNat
  ·rw [if_pos e];exact⟨fun _=>rfl,fun h=>absurd ⟨k,Nat.lt_succ_self k,e.symm⟩ h⟩
  ·rw [if_neg e];refine⟨fun ⟨t,h1,h2⟩=>i1 ⟨t,?_,h2⟩,fun h=>i2 fun ⟨t,h1,h2⟩=>h ⟨t,by omega,h2⟩⟩;rcases Nat.lt_or_ge t k with h|h
   ·exact h
   ·exact absurd (by rw [← h2,show t=k by omega]) e
theorem TG {f:Int→Int}{d:Int}{N T:Nat}:∀ {k i:Nat},i≤T→T≤i+k→(∀ t,i≤t→t<T→mF f d N t=true)→mF f d N T=false→sF f d N k i=T
 |0,i,h1,h2,_,_=>by unfold sF;omega
 |k+1,i,h1,h2,h3,h4=>by
  unfold sF;by_cases e:i=T
  ·rw [e,h4];rfl
  ·rw [h3 i (Nat.le_refl _) (by omega),if_pos rfl];exact TG (by omega) (by omega) (fun t a b=>h3 t (by omega) b) h4
section
variable {l:List Pt}{m:List Ed}{n:Int}
theorem aAr {E i:Nat}(h:i<E):cV (List.replicate E true) i=true:=by
 unfold cV;rw [List.getD_eq_getElem?_getD,List.getElem?_replicate,if_pos h];rfl
theorem Z0 (hp:iA l m n=true){d:Nat}(hd:d<2*m.length):kC l m (List.replicate (2*m.length) true) d=xB (a9 l m m.length) (outs l m) d:=by
 have hok:=mI hp;have hin:=BL hok (d:=(d:Int)) (by omega) (by omega);have hx:∀ i,pE (FU l m (List.replicate (2*m.length) true)) d i=pH (a9 l m m.length) (outs l m) d (i+1):=by
  intro i
  induction i with
  |zero=>exact Y4 hp (by omega) (by omega) (fun i hi=>aAr hi)
  |succ i ih =>
   unfold pE;rw [ih];have:=hin (i+1);exact Y4 hp this.1 this.2 (fun i hi=>aAr hi)
 have hw:=List.all_eq_true.1 (KZ hok) d (List.mem_range.2 (by rw [bP];exact hd));have hw:=of_decide_eq_true hw;obtain⟨p1,p2,p3⟩:=oA (a9 l m m.length) (outs l m) d (a9 l m m.length).length 1;unfold xB;unfold o6 at hw ⊢;generalize FX (a9 l m m.length) (outs l m) d (a9 l m m.length).length 1=T at *;rw [bP] at p2;have hN:sF (FU l m (List.replicate (2*m.length) true)) d (2*m.length) (2*m.length+2) 0=T - 1:=by
  refine TG (Nat.zero_le _) (by omega) (fun t _ ht=>?_) ?_
  ·unfold mF;rw [hx];have a:=hin (t+1);have b:=p3 (t+1) (by omega) (by omega);rw [decide_eq_false b,decide_eq_true a.1,decide_eq_true (show t≤2*m.length by omega)];rfl
  ·unfold mF;rw [hx,show T - 1+1=T by omega,hw,decide_eq_true rfl];rfl
 unfold kC;rw [hN];unfold CE;apply List.ext_getElem?;intro i;cases i with
 |zero =>
  rw [List.getElem?_cons_zero,List.getElem?_map,List.getElem?_range (by omega)];rfl
 |succ i =>
  rw [List.getElem?_cons_succ,List.getElem?_map,List.getElem?_map];by_cases h:i<T - 1
  ·rw [List.getElem?_range h,List.getElem?_range (by omega)];simp only [Option.map_some];rw [hx]
  ·rw [List.getElem?_eq_none (by rw [List.length_range];omega),List.getElem?_eq_none (by rw [List.length_range];omega)];rfl
theorem J8 (l:List Pt)(m:List Ed){w:List Int}(hw:eT (a9 l m m.length) w=true):∀ k,k≤w.length→mE l m w k=I6 l (a9 l m m.length) w k
 |0,_=>rfl
 |k+1,h=>by
  unfold mE I6;rw [J8 l m hw k (by omega)];have hk:=jJ hw (i:=k) (by omega);rw [bP] at hk;have:=DI l m hk.1 (by omega);unfold M3 ZF dQ;rw [this.1,this.2]
structure Fre (m:List Ed) (s:Fst) (t:PA):Prop where
 len:s.of.length=2*m.length
 seen:t.seen.length=2*m.length
 face:t.face.length=2*m.length
 of:∀ i,i<2*m.length→(cV t.seen i=true∧0≤aN s.of i∧aN s.of i=aN t.face i)∨(cV t.seen i=false∧aN s.of i<0)
 many:s.faces=t.many
 low:0≤t.many
 out:s.outside=t.out
 ok:s.ok=!t.flat
theorem aBf (hp:iA l m n=true){s:Fst}{t:PA}(h:Fre m s t){d:Nat}(hd:d<2*m.length):Fre m (oY l m s d) (nF l (a9 l m m.length) (outs l m) t d)∧cV (nF l (a9 l m m.length) (outs l m) t d).seen d=true∧∀ i,cV t.seen i=true→i<2*m.length→cV (nF l (a9 l m m.length) (outs l m) t d).seen i=true:=by
 have hok:=mI hp;unfold oY nF;rcases h.of d hd with ⟨h1,h2,h3⟩|⟨h1,h2⟩
 ·rw [if_pos h2,if_pos h1];exact⟨h,h1,fun i hi _=>hi⟩
 ·rw [if_neg (by omega),if_neg (by rw [h1];decide)];simp only;rw [Z0 hp hd];have w:=RG (l:=l) (JK hok) (d:=d) (by rw [bP];exact hd);have hfirst:aN (xB (a9 l m m.length) (outs l m) d) 0=d:=by
   unfold xB;unfold aN;rw [List.getD_eq_getElem?_getD,List.getElem?_map,List.getElem?_range (by
    have:=(oA (a9 l m m.length) (outs l m) d (a9 l m m.length).length 1).1;unfold o6;omega)]
   rfl
  generalize xB (a9 l m m.length) (outs l m) d=W at w hfirst ⊢;rw [J8 l m w.1 _ (Nat.le_refl _),h.many,h.out,h.ok];generalize I6 l (a9 l m m.length) W W.length=A;have hr:∀ t,t<W.length→(aN W t).toNat<2*m.length:=fun t ht=>by
   have:=jJ w.1 (i:=t) ht;rw [bP] at this;omega
  have hset:∀ fc:Int,0≤fc→∀ i,i<2*m.length→(cV (fL t.seen W W.length) i=true∧0≤aN (dN s.of W fc W.length) i∧aN (dN s.of W fc W.length) i=aN (dN t.face W fc W.length) i)∨(cV (fL t.seen W W.length) i=false∧aN (dN s.of W fc W.length) i<0):=fun fc hfc i hi=>by
   obtain⟨a1,a2⟩:=zD s.of W fc (by rw [h.len];exact hr) i _ (Nat.le_refl _);obtain⟨b1,b2⟩:=zD t.face W fc (by rw [h.face];exact hr) i _ (Nat.le_refl _);obtain⟨c1,c2⟩:=rK t.seen W (by rw [h.seen];exact hr) i _ (Nat.le_refl _);by_cases e:∃ k,k<W.length∧(aN W k).toNat=i
   ·rw [a1 e,b1 e,c1 e];exact .inl ⟨rfl,hfc,rfl⟩
   ·rw [a2 e,b2 e,c2 e];exact h.of i hi
  refine⟨⟨by rw [eX];exact h.len,by rw [kN];exact h.seen,by rw [eX];exact h.face,?_,rfl,?_,?_,?_⟩,?_,?_⟩
  ·have:=h.low;by_cases hA:0<A
   ·simp only [if_pos hA];exact hset _ (by omega)
   ·simp only [if_neg hA];exact hset _ (by omega)
  ·have:=h.low;show 0≤if 0<A then t.many+1 else t.many
   split <;> omega
  ·show (if A<0 then t.out+1 else t.out)=if 0<A then t.out else if A<0 then t.out+1 else t.out
   split <;> split <;> (first|rfl|omega)
  ·show (if A=0 then false else !t.flat)=!(if 0<A then t.flat else if A<0 then t.flat else true);by_cases hA:0<A
   ·rw [if_pos hA,if_neg (by omega)]
   ·by_cases hA2:A<0
    ·rw [if_neg hA,if_pos hA2,if_neg (by omega)]
    ·rw [if_neg hA,if_neg hA2,if_pos (by omega)];rfl
  ·exact (rK t.seen W (by rw [h.seen];exact hr) d _ (Nat.le_refl _)).1 ⟨0,by omega,by rw [hfirst];rfl⟩
  ·intro i hi hi2;obtain⟨c1,c2⟩:=rK t.seen W (by rw [h.seen];exact hr) i _ (Nat.le_refl _);by_cases e:∃ k,k<W.length∧(aN W k).toNat=i
   ·exact c1 e
   ·show cV (fL t.seen W W.length) i=true;rw [c2 e];exact hi
theorem VJ (hp:iA l m n=true):∀ d,d≤2*m.length→Fre m (jT l m d) (c8 l (a9 l m m.length) (outs l m) d)∧∀ i,i<d→cV (c8 l (a9 l m m.length) (outs l m) d).seen i=true
 |0,_=>by
  refine⟨⟨by simp [jT],by simp [c8,bP],by simp [c8,bP],fun i hi=>.inr ?_,rfl,Int.le_refl 0,rfl,rfl⟩,fun i hi=>by omega⟩;unfold jT c8 cV aN;rw [List.getD_eq_getElem?_getD,List.getD_eq_getElem?_getD,List.getElem?_replicate,List.getElem?_replicate,bP,if_pos hi,if_pos hi];exact⟨rfl,by decide⟩
 |d+1,h=>by
  obtain⟨i1,i2⟩:=VJ hp d (by omega);obtain⟨a1,a2,a3⟩:=aBf hp i1 (d:=d) (by omega);refine⟨a1,fun i hi=>?_⟩;by_cases e:i=d
  ·rw [e];exact a2
  ·exact a3 i (i2 i (by omega)) (by omega)
theorem Q2 {f g:Nat→Bool}{n:Nat}(h:∀ i,i<n→f i=g i):nU f n=nU g n:=by
 rw [Bool.eq_iff_iff];exact⟨fun a=>eS fun i hi=>by rw [← h i hi];exact gG a hi,fun a=>eS fun i hi=>by rw [h i hi];exact gG a hi⟩
theorem aCN (hp:iA l m n=true):(A0 (dO l m)&&(decide ((dO l m).many=n)&&nU (GY l m) m.length))=(KA (eC l m)&&(decide ((eC l m).faces=n)&&nU (faB m (eC l m).of) m.length)):=by
 obtain⟨_,_,_,_,_,hn,_⟩:=jX (mI hp);obtain⟨h1,h2⟩:=VJ hp (2*m.length) (Nat.le_refl _);have e:dO l m=c8 l (a9 l m m.length) (outs l m) (2*m.length):=by
  unfold dO nmD;rw [bP]
 have hof:∀ i,i<2*m.length→aN (eC l m).of i=aN (dO l m).face i:=fun i hi=>by
  rw [e];rcases h1.of i hi with ⟨_,_,h⟩|⟨h,_⟩
  ·exact h
  ·rw [h2 i hi] at h;cases h
 have hall:nU (GY l m) m.length=nU (faB m (eC l m).of) m.length:=by
  refine Q2 fun i hi=>?_;unfold GY faB;rw [hof (2*i) (by omega),hof (2*i+1) (by omega)]
 rw [hall];unfold A0 KA;have k1:(eC l m).faces=(dO l m).many:=(by rw [e];exact h1.many);have k2:(eC l m).outside=(dO l m).out:=(by rw [e];exact h1.out);have k3:(eC l m).ok=!(dO l m).flat:=(by rw [e];exact h1.ok);rw [k1,k2,k3];by_cases hc:(dO l m).many=n
 ·rw [decide_eq_true hc,decide_eq_true (show 1≤(dO l m).many by omega)];cases decide ((dO l m).out=1) <;> cases (dO l m).flat <;> rfl
 ·rw [decide_eq_false hc];simp
end
def FM (S T:List Bool):Prop:=∀ i,cV S i=true→cV T i=true
theorem FM.refl (S:List Bool):FM S S:=fun _ h=>h
theorem FM.trans {A B C:List Bool}(h1:FM A B)(h2:FM B C):FM A C:=fun i h=>h2 i (h1 i h)
theorem TE:∀ {S T:List Bool},T.length=S.length→FM S T→gD T≤gD S∧(gD T=gD S→T=S)
 |[],[],_,_=>⟨Nat.le_refl _,fun _=>rfl⟩
 |[],_::_,h,_=>by simp at h
 |_::_,[],h,_=>by simp at h
 |a::S,b::T,hl,h=>by
  obtain⟨i1,i2⟩:=TE (S:=S) (T:=T) (by simpa using hl) fun i hi=>h (i+1) hi;have h0:a=true→b=true:=h 0;unfold gD at *;simp only [List.countP_cons];cases a <;> cases b <;> simp at h0 ⊢
  ·exact⟨by omega,fun e=>i2 (by omega)⟩
  ·omega
  ·exact⟨i1,i2⟩
theorem WV {S:List Bool}{i:Nat}(h:S.length≤i):cV S i=false:=by
 unfold cV;rw [List.getD_eq_getElem?_getD,List.getElem?_eq_none h];rfl
theorem JH (S:List Bool)(p:Nat):FM S (S.set p true):=fun i hi=>by
 by_cases h:p<S.length
 ·rw [rA _ _ _ _ h];split
  ·rfl
  ·exact hi
 ·rw [List.set_eq_of_length_le (by omega)];exact hi
section
variable {D:List Dt}{ls:List (List Int)}{nP:Nat}
theorem IZ (hL:∀ q,∀ x∈bK ls q,mT D x<nP):∀ (n:Nat) (S:List Bool) (p:Nat),S.length=nP→p<nP→cV S p=false→gD S≤n →
  FM S (C8 D ls n S p)∧cV (C8 D ls n S p) p=true∧∀ q,cV (C8 D ls n S p) q=true→cV S q=false→∀ x∈bK ls q,cV (C8 D ls n S p) (mT D x)=true
 |0,S,p,h1,h2,h3,h4=>by have:=SQ (by omega) h3;omega
 |n+1,S,p,h1,h2,h3,h4=>by
  have hcs:=LW (S:=S) (p:=p) (by omega) h3
  have key:∀ (L:List Int) (M:List Bool),M.length=nP→gD M≤n→(∀ x∈L,mT D x<nP) →
    FM M (L.foldl (fun S x=>if cV S (mT D x)=true then S else C8 D ls n S (mT D x)) M)∧(∀ x∈L,cV (L.foldl (fun S x=>if cV S (mT D x)=true then S else C8 D ls n S (mT D x)) M) (mT D x)=true) ∧
    ∀ q,cV (L.foldl (fun S x=>if cV S (mT D x)=true then S else C8 D ls n S (mT D x)) M) q=true→cV M q=false→∀ x∈bK ls q,cV (L.foldl (fun S x=>if cV S (mT D x)=true then S else C8 D ls n S (mT D x)) M) (mT D x)=true:=by
   intro L
   induction L with
   |nil=>exact fun M _ _ _=>⟨FM.refl M,fun x hx=>(by cases hx),fun q hq hf=>by rw [List.foldl_nil] at hq;rw [hq] at hf;cases hf⟩
   |cons y r ih =>
    intro M hM hc hr;rw [List.foldl_cons];by_cases hy:cV M (mT D y)=true
    ·rw [if_pos hy];obtain⟨k1,k2,k3⟩:=ih M hM hc fun x hx=>hr x (.tail _ hx);refine⟨k1,fun x hx=>?_,k3⟩;rcases List.mem_cons.1 hx with rfl|hx
     ·exact k1 _ hy
     ·exact k2 x hx
    ·rw [if_neg hy];have hyf:cV M (mT D y)=false:=(by simpa using hy);obtain⟨v1,v2,v3⟩:=IZ hL n M (mT D y) hM (hr y (.head _)) hyf hc;obtain⟨c1,c2⟩:=D0 D ls n M (mT D y);obtain⟨k1,k2,k3⟩:=ih (C8 D ls n M (mT D y)) (by omega) (by omega) fun x hx=>hr x (.tail _ hx);refine⟨v1.trans k1,fun x hx=>?_,fun q hq hf x hx=>?_⟩
     ·rcases List.mem_cons.1 hx with rfl|hx
      ·exact k1 _ v2
      ·exact k2 x hx
     ·cases hv:cV (C8 D ls n M (mT D y)) q with
      |true=>exact k1 _ (v3 q hv hf x hx)
      |false=>exact k3 q hq hv x hx
  obtain⟨k1,k2,k3⟩:=key (bK ls p) (S.set p true) (by rw [List.length_set];exact h1) (by omega) (hL p);have hp0:cV (S.set p true) p=true:=(by rw [rA _ _ _ _ (by omega),if_pos rfl]);show FM S ((bK ls p).foldl _ (S.set p true))∧cV ((bK ls p).foldl _ (S.set p true)) p=true∧∀ q,cV ((bK ls p).foldl _ (S.set p true)) q=true→_;refine⟨(JH S p).trans k1,k1 _ hp0,fun q hq hf x hx=>?_⟩;by_cases e:q=p
  ·rw [e] at hx;exact k2 x hx
  ·exact k3 q hq (by rw [rA _ _ _ _ (by omega),if_neg e];exact hf) x hx
theorem TN {Z:Nat→Prop}(hZ:∀ q,Z q→∀ x∈bK ls q,Z (mT D x)):∀ (n:Nat) (S:List Bool) (p:Nat),(∀ i,cV S i=true→Z i)→Z p→∀ i,cV (C8 D ls n S p) i=true→Z i
 |0,S,p,h1,h2=>h1
 |n+1,S,p,h1,h2=>by
  have key:∀ (L:List Int) (M:List Bool),(∀ i,cV M i=true→Z i)→(∀ x∈L,Z (mT D x))→∀ i,cV (L.foldl (fun S x=>if cV S (mT D x)=true then S else C8 D ls n S (mT D x)) M) i=true→Z i:=by
   intro L
   induction L with
   |nil=>exact fun M h _=>h
   |cons y r ih =>
    intro M hM hr;rw [List.foldl_cons];split
    ·exact ih M hM fun x hx=>hr x (.tail _ hx)
    ·exact ih _ (TN hZ n M (mT D y) hM (hr y (.head _))) fun x hx=>hr x (.tail _ hx)
  exact key (bK ls p) (S.set p true) (fun i hi=>by
   rcases yX _ _ _ hi with e|h
   ·rw [e];exact h2
   ·exact h1 i h) (hZ p h2)
end
theorem aCV (s:List Bool)(e:Ed):FM s (vC s e):=by
 unfold vC;split
 ·exact (JH s _).trans (JH _ _)
 ·exact FM.refl s
theorem yF (m:List Ed)(s:List Bool):∀ {i j:Nat},i≤j→FM (mO m s i) (mO m s j)
 |i,0,h=>by rw [show i=0 by omega];exact FM.refl _
 |i,j+1,h=>by
  by_cases e:i=j+1
  ·rw [e];exact FM.refl _
  ·exact (yF m s (show i≤j by omega)).trans (aCV _ _)
theorem BF (l:List Pt)(m:List Ed):∀ k,(mO m (dJ l m k) m.length=dJ l m k)∨gD (dJ l m k)+k≤gD (dJ l m 0)
 |0=>.inr (Nat.le_refl _)
 |k+1=>by
  rcases BF l m k with h|h
  ·left;have:dJ l m (k+1)=dJ l m k:=h;rw [this];exact h
  ·have hl:=sL m (dJ l m k) m.length;obtain⟨c1,c2⟩:=TE hl (yF m (dJ l m k) (Nat.zero_le _));by_cases e:gD (mO m (dJ l m k) m.length)=gD (dJ l m k)
   ·left;have:dJ l m (k+1)=dJ l m k:=c2 e;rw [this];exact c2 e
   ·right;show gD (mO m (dJ l m k) m.length)+(k+1)≤_;have c1':gD (mO m (dJ l m k) m.length)≤gD (dJ l m k):=c1;omega
theorem aCe {n:Nat}(h:1≤n):gD (lY n)+1≤n:=by
 have h1:=tS n;have h2:gD (lY n)≤(lY n).length:=List.countP_le_length;rcases Nat.lt_or_ge (gD (lY n)) n with h3|h3
 ·omega
 ·exfalso;have h4:cV (lY n) 0=true:=by
   unfold lY cV;rw [List.getD_eq_getElem?_getD,List.getElem?_map,List.getElem?_range (by omega)];rfl
  have h5:gD (lY n)=(lY n).length:=(by omega);have h6:=(List.countP_eq_length.1 h5) _ (List.getElem_mem (l:=lY n) (n:=0) (by omega));rw [rC (by omega)] at h4;rw [h4] at h6;cases h6
section
variable {l:List Pt}{m:List Ed}{n:Int}
theorem aFJ (hok:cY l m n=true):OU l m=JG l m:=by
 obtain⟨hM,h3,h1l,h4,h6,_,_⟩:=jX hok;have hdt:∀ {i:Nat},i<2*m.length→0≤(bX (a9 l m m.length) i).fr∧(bX (a9 l m m.length) i).fr<l.length∧0≤(bX (a9 l m m.length) i).tt∧(bX (a9 l m m.length) i).tt<l.length:=fun {i} hi=>by
  have:=mC (l:=l) hM hi;omega
 have hls:∀ q,∀ x∈bK (outs l m) q,∃ i:Nat,i<2*m.length∧x=i∧(bX (a9 l m m.length) i).fr.toNat=q∧q<l.length:=fun q x hx=>by
  by_cases hq:q<l.length
  ·obtain⟨i,a,b,c⟩:=(jO hok hq).1 hx;exact⟨i,a,b,c,hq⟩
  ·exfalso;unfold bK at hx;rw [List.getD_eq_getElem?_getD,List.getElem?_eq_none (by rw [eY];omega)] at hx;cases hx
 have hL:∀ q,∀ x∈bK (outs l m) q,mT (a9 l m m.length) x<l.length:=fun q x hx=>by
  obtain⟨i,a,b,_,_⟩:=hls q x hx;have:=hdt a;unfold mT;rw [b,Int.toNat_natCast];omega
 have hS0:∀ i,cV (List.replicate (outs l m).length false) i=false:=fun i=>by
  unfold cV;rw [List.getD_eq_getElem?_getD,List.getElem?_replicate];split <;> rfl
 have hcnt:gD (List.replicate (outs l m).length false)≤1000:=by
  have:gD (List.replicate (outs l m).length false)≤(List.replicate (outs l m).length false).length:=List.countP_le_length;have e:=eY l m;rw [List.length_replicate] at this;omega
 obtain⟨v1,v2,v3⟩:=IZ (nP:=l.length) hL 1000 (List.replicate (outs l m).length false) 0 (by rw [List.length_replicate,eY]) (by omega) (hS0 0) hcnt;have hlen:(eO (a9 l m m.length) (outs l m)).length=l.length:=by
  unfold eO;rw [(D0 _ _ _ _ _).2,List.length_replicate,eY]
 have hR:∀ q,cV (eO (a9 l m m.length) (outs l m)) q=true→∀ x∈bK (outs l m) q,cV (eO (a9 l m m.length) (outs l m)) (mT (a9 l m m.length) x)=true:=fun q hq x hx=>v3 q hq (hS0 q) x hx
 -- along an edge,both ways
 have hedge:∀ {e:Nat},e<m.length→(2*e:Nat)<2*m.length∧((2*e:Nat):Int)∈bK (outs l m) (cN m e).a.toNat∧mT (a9 l m m.length) ((2*e:Nat):Int)=(cN m e).b.toNat∧((2*e+1:Nat):Int)∈bK (outs l m) (cN m e).b.toNat∧mT (a9 l m m.length) ((2*e+1:Nat):Int)=(cN m e).a.toNat:=fun {e} he=>by
  obtain⟨d1,d2⟩:=E8 l m he;have hE:=J0 hok he;refine⟨by omega,(jO hok (by omega)).2 ⟨2*e,by omega,rfl,by rw [d1];rfl⟩,?_,(jO hok (by omega)).2 ⟨2*e+1,by omega,rfl,by rw [d2];rfl⟩,?_⟩
  ·unfold mT;rw [Int.toNat_natCast,d1];rfl
  ·unfold mT;rw [Int.toNat_natCast,d2];rfl
 have hcR:∀ {e:Nat},e<m.length→(cV (eO (a9 l m m.length) (outs l m)) (cN m e).a.toNat=true∨cV (eO (a9 l m m.length) (outs l m)) (cN m e).b.toNat=true)→cV (eO (a9 l m m.length) (outs l m)) (cN m e).a.toNat=true∧cV (eO (a9 l m m.length) (outs l m)) (cN m e).b.toNat=true:=fun {e} he h=>by
  obtain⟨_,a1,a2,a3,a4⟩:=hedge he;rcases h with h|h
  ·exact⟨h,by rw [← a2];exact hR _ h _ a1⟩
  ·exact⟨by rw [← a4];exact hR _ h _ a3,h⟩
 -- the reference's lie in the program's
 have hsub:∀ k,FM (dJ l m k) (eO (a9 l m m.length) (outs l m)):=by
  intro k
  induction k with
  |zero =>
   intro i hi;have:i=0:=by
    change cV (lY l.length) i=true at hi;by_cases hil:i<l.length
    ·unfold lY cV at hi;rw [List.getD_eq_getElem?_getD,List.getElem?_map,List.getElem?_range hil] at hi;simp at hi;exact hi
    ·rw [WV (by rw [tS];omega)] at hi;cases hi
   rw [this];exact v2
  |succ k ih =>
   have key:∀ j,j≤m.length→FM (mO m (dJ l m k) j) (eO (a9 l m m.length) (outs l m)):=by
    intro j
    induction j with
    |zero=>exact fun _=>ih
    |succ j jh =>
     intro hj i hi;have jh:=jh (by omega);unfold mO vC at hi;split at hi
     ·rename_i hc;have hc:=hcR (e:=j) (by omega) (by
       rcases Bool.or_eq_true_iff.1 hc with hc|hc
       ·exact .inl (jh _ hc)
       ·exact .inr (jh _ hc))
      rcases yX _ _ _ hi with e|hi
      ·rw [e];exact hc.2
      ·rcases yX _ _ _ hi with e|hi
       ·rw [e];exact hc.1
       ·exact jh _ hi
     ·exact jh _ hi
   exact key m.length (Nat.le_refl _)
 -- the program's lie in the reference's
 have hst:mO m (dJ l m l.length) m.length=dJ l m l.length:=by
  rcases BF l m l.length with h|h
  ·exact h
  ·exfalso;have:=aCe h1l;have h2:gD (dJ l m l.length)+l.length≤gD (lY l.length):=h;omega
 have hcC:∀ {e:Nat},e<m.length→(cV (dJ l m l.length) (cN m e).a.toNat=true∨cV (dJ l m l.length) (cN m e).b.toNat=true)→cV (dJ l m l.length) (cN m e).a.toNat=true∧cV (dJ l m l.length) (cN m e).b.toNat=true:=fun {e} he h=>by
  have hE:=J0 hok he;have h1:=yF m (dJ l m l.length) (Nat.zero_le e);have h2:=yF m (dJ l m l.length) (show e+1≤m.length by omega);rw [hst] at h2;have hlen':(mO m (dJ l m l.length) e).length=l.length:=(by rw [sL,yJ]);have h3:mO m (dJ l m l.length) (e+1)=vC (mO m (dJ l m l.length) e) (cN m e):=rfl;have hc:(cV (mO m (dJ l m l.length) e) (cN m e).a.toNat || cV (mO m (dJ l m l.length) e) (cN m e).b.toNat)=true:=by
   rcases h with h|h
   ·rw [h1 _ h];rfl
   ·rw [h1 _ h,Bool.or_true]
  rw [h3,vC,if_pos hc] at h2;exact⟨h2 _ (by rw [rA _ _ _ _ (by rw [List.length_set];omega)];split <;> first|rfl|rw [rA _ _ _ _ (by omega),if_pos rfl]),h2 _ (by rw [rA _ _ _ _ (by rw [List.length_set];omega),if_pos rfl])⟩
 have hsup:FM (eO (a9 l m m.length) (outs l m)) (dJ l m l.length):=by
  refine TN (Z:=fun i=>cV (dJ l m l.length) i=true) (fun q hq x hx=>?_) 1000 _ 0 (fun i hi=>by rw [hS0] at hi;cases hi) ?_
  ·obtain⟨i,a,b,c,d⟩:=hls q x hx;rw [b];show cV (dJ l m l.length) (mT (a9 l m m.length) (i:Int))=true;unfold mT;rw [Int.toNat_natCast];rcases mM (l:=l) (m:=m) a with ⟨_,h⟩|⟨_,h⟩
   ·rw [h] at c ⊢;exact (hcC (e:=i / 2) (by omega) (.inl (by rw [show (cN m (i / 2)).a.toNat=q from c];exact hq))).2
   ·rw [h] at c ⊢;exact (hcC (e:=i / 2) (by omega) (.inr (by rw [show (cN m (i / 2)).b.toNat=q from c];exact hq))).1
  ·have h0:FM (dJ l m 0) (dJ l m l.length):=by
    have:∀ k,FM (dJ l m 0) (dJ l m k):=by
     intro k
     induction k with
     |zero=>exact FM.refl _
     |succ k ih=>exact ih.trans (yF m (dJ l m k) (Nat.zero_le _))
    exact this _
   refine h0 0 ?_;show cV (lY l.length) 0=true;unfold lY cV;rw [List.getD_eq_getElem?_getD,List.getElem?_map,List.getElem?_range (by omega)];rfl
 have hall:∀ {S:List Bool},S.length=l.length→(S.all id=true↔∀ i,i<l.length→cV S i=true):=fun {S} hS=>by
  rw [List.all_eq_true];constructor
  ·intro h i hi;rw [rC (by omega)];exact h _ (List.getElem_mem _)
  ·intro h b hb;obtain⟨i,hi,rfl⟩:=List.getElem_of_mem hb;rw [← rC hi];exact h i (by omega)
 unfold OU JG;rw [Bool.eq_iff_iff,hall hlen,hall (yJ l m _)];exact⟨fun h i hi=>hsup i (h i hi),fun h i hi=>hsub _ i (h i hi)⟩
theorem aAU (l:List Pt)(m:List Ed)(n:Int):dE l m n=G8 l m n:=by
 unfold dE G8;cases hp:iA l m n with
 |false=>rfl
 |true=>rw [aFJ (mI hp),aCN hp]
end
end Go.Aw
end
