/-
  Parts of a proof. No condition.
-/
import Derived.Test.YtjahkcbdecgbhaaGreatQBc
set_option linter.unusedSimpArgs false
set_option linter.unusedVariables false
noncomputable section
namespace Go.Aw
set_option maxRecDepth 100000
def EX (S T:List Bool):Prop:=∀ i,dF S i=true→dF T i=true
theorem EX.refl (S:List Bool):EX S S:=fun _ h=>h
theorem EX.trans {A B C:List Bool}(h1:EX A B)(h2:EX B C):EX A C:=fun i h=>h2 i (h1 i h)
theorem U0:∀ {S T:List Bool},T.length=S.length→EX S T→fU T≤fU S∧(fU T=fU S→T=S)
 |[],[],_,_=>⟨Nat.le_refl _,fun _=>rfl⟩
 |[],_::_,h,_=>by simp at h
 |_::_,[],h,_=>by simp at h
 |a::S,b::T,hl,h=>by
  obtain⟨i1,i2⟩:=U0 (S:=S) (T:=T) (by simpa using hl) fun i hi=>h (i+1) hi;have h0:a=true→b=true:=h 0;unfold fU at *;simp only [List.countP_cons];cases a <;> cases b <;> simp at h0 ⊢
  ·exact⟨by omega,fun e=>i2 (by omega)⟩
  ·omega
  ·exact⟨i1,i2⟩
theorem WY {S:List Bool}{i:Nat}(h:S.length≤i):dF S i=false:=by
 unfold dF;rw [List.getD_eq_getElem?_getD,List.getElem?_eq_none h];rfl
theorem L5 (S:List Bool)(p:Nat):EX S (S.set p true):=fun i hi=>by
 by_cases h:p<S.length
 ·rw [pT _ _ _ _ h];split
  ·rfl
  ·exact hi
 ·rw [List.set_eq_of_length_le (by omega)];exact hi
section
variable {D:List Dt}{ls:List (List Int)}{nP:Nat}
theorem IH (hL:∀ q,∀ x∈bK ls q,lY D x<nP):∀ (n:Nat) (S:List Bool) (p:Nat),S.length=nP→p<nP→dF S p=false→fU S≤n →
  EX S (CL D ls n S p)∧dF (CL D ls n S p) p=true∧∀ q,dF (CL D ls n S p) q=true→dF S q=false→∀ x∈bK ls q,dF (CL D ls n S p) (lY D x)=true
 |0,S,p,h1,h2,h3,h4=>by have:=UO (by omega) h3;omega
 |n+1,S,p,h1,h2,h3,h4=>by
  have hcs:=KO (S:=S) (p:=p) (by omega) h3
  have key:∀ (L:List Int) (M:List Bool),M.length=nP→fU M≤n→(∀ x∈L,lY D x<nP) →
    EX M (L.foldl (fun S x=>if dF S (lY D x)=true then S else CL D ls n S (lY D x)) M)∧(∀ x∈L,dF (L.foldl (fun S x=>if dF S (lY D x)=true then S else CL D ls n S (lY D x)) M) (lY D x)=true) ∧
    ∀ q,dF (L.foldl (fun S x=>if dF S (lY D x)=true then S else CL D ls n S (lY D x)) M) q=true→dF M q=false→∀ x∈bK ls q,dF (L.foldl (fun S x=>if dF S (lY D x)=true then S else CL D ls n S (lY D x)) M) (lY D x)=true:=by
   intro L
   induction L with
   |nil=>exact fun M _ _ _=>⟨EX.refl M,fun x hx=>(by cases hx),fun q hq hf=>by rw [List.foldl_nil] at hq;rw [hq] at hf;cases hf⟩
   |cons y r ih =>
    intro M hM hc hr;rw [List.foldl_cons];by_cases hy:dF M (lY D y)=true
    ·rw [if_pos hy];obtain⟨k1,k2,k3⟩:=ih M hM hc fun x hx=>hr x (.tail _ hx);refine⟨k1,fun x hx=>?_,k3⟩;rcases List.mem_cons.1 hx with rfl|hx
     ·exact k1 _ hy
     ·exact k2 x hx
    ·rw [if_neg hy];have hyf:dF M (lY D y)=false:=(by simpa using hy);obtain⟨v1,v2,v3⟩:=IH hL n M (lY D y) hM (hr y (.head _)) hyf hc;obtain⟨c1,c2⟩:=FV D ls n M (lY D y);obtain⟨k1,k2,k3⟩:=ih (CL D ls n M (lY D y)) (by omega) (by omega) fun x hx=>hr x (.tail _ hx);refine⟨v1.trans k1,fun x hx=>?_,fun q hq hf x hx=>?_⟩
     ·rcases List.mem_cons.1 hx with rfl|hx
      ·exact k1 _ v2
      ·exact k2 x hx
     ·cases hv:dF (CL D ls n M (lY D y)) q with
      |true=>exact k1 _ (v3 q hv hf x hx)
      |false=>exact k3 q hq hv x hx
  obtain⟨k1,k2,k3⟩:=key (bK ls p) (S.set p true) (by rw [List.length_set];exact h1) (by omega) (hL p);have hp0:dF (S.set p true) p=true:=(by rw [pT _ _ _ _ (by omega),if_pos rfl]);show EX S ((bK ls p).foldl _ (S.set p true))∧dF ((bK ls p).foldl _ (S.set p true)) p=true∧∀ q,dF ((bK ls p).foldl _ (S.set p true)) q=true→_;refine⟨(L5 S p).trans k1,k1 _ hp0,fun q hq hf x hx=>?_⟩;by_cases e:q=p
  ·rw [e] at hx;exact k2 x hx
  ·exact k3 q hq (by rw [pT _ _ _ _ (by omega),if_neg e];exact hf) x hx
theorem VU {Z:Nat→Prop}(hZ:∀ q,Z q→∀ x∈bK ls q,Z (lY D x)):∀ (n:Nat) (S:List Bool) (p:Nat),(∀ i,dF S i=true→Z i)→Z p→∀ i,dF (CL D ls n S p) i=true→Z i
 |0,S,p,h1,h2=>h1
 |n+1,S,p,h1,h2=>by
  have key:∀ (L:List Int) (M:List Bool),(∀ i,dF M i=true→Z i)→(∀ x∈L,Z (lY D x))→∀ i,dF (L.foldl (fun S x=>if dF S (lY D x)=true then S else CL D ls n S (lY D x)) M) i=true→Z i:=by
   intro L
   induction L with
   |nil=>exact fun M h _=>h
   |cons y r ih =>
    intro M hM hr;rw [List.foldl_cons];split
    ·exact ih M hM fun x hx=>hr x (.tail _ hx)
    ·exact ih _ (VU hZ n M (lY D y) hM (hr y (.head _))) fun x hx=>hr x (.tail _ hx)
  exact key (bK ls p) (S.set p true) (fun i hi=>by
   rcases yO _ _ _ hi with e|h
   ·rw [e];exact h2
   ·exact h1 i h) (hZ p h2)
end
theorem aDt (s:List Bool)(e:Ed):EX s (PE s e):=by
 unfold PE;split
 ·exact (L5 s _).trans (L5 _ _)
 ·exact EX.refl s
theorem wW (m:List Ed)(s:List Bool):∀ {i j:Nat},i≤j→EX (qX m s i) (qX m s j)
 |i,0,h=>by rw [show i=0 by omega];exact EX.refl _
 |i,j+1,h=>by
  by_cases e:i=j+1
  ·rw [e];exact EX.refl _
  ·exact (wW m s (show i≤j by omega)).trans (aDt _ _)
theorem AU (l:List Pt)(m:List Ed):∀ k,(qX m (eT l m k) m.length=eT l m k)∨fU (eT l m k)+k≤fU (eT l m 0)
 |0=>.inr (Nat.le_refl _)
 |k+1=>by
  rcases AU l m k with h|h
  ·left;have:eT l m (k+1)=eT l m k:=h;rw [this];exact h
  ·have hl:=yB m (eT l m k) m.length;obtain⟨c1,c2⟩:=U0 hl (wW m (eT l m k) (Nat.zero_le _));by_cases e:fU (qX m (eT l m k) m.length)=fU (eT l m k)
   ·left;have:eT l m (k+1)=eT l m k:=c2 e;rw [this];exact c2 e
   ·right;show fU (qX m (eT l m k) m.length)+(k+1)≤_;have c1':fU (qX m (eT l m k) m.length)≤fU (eT l m k):=c1;omega
theorem aD3 {n:Nat}(h:1≤n):fU (rU n)+1≤n:=by
 have h1:=E8 n;have h2:fU (rU n)≤(rU n).length:=List.countP_le_length;rcases Nat.lt_or_ge (fU (rU n)) n with h3|h3
 ·omega
 ·exfalso;have h4:dF (rU n) 0=true:=by
   unfold rU dF;rw [List.getD_eq_getElem?_getD,List.getElem?_map,List.getElem?_range (by omega)];rfl
  have h5:fU (rU n)=(rU n).length:=(by omega);have h6:=(List.countP_eq_length.1 h5) _ (List.getElem_mem (l:=rU n) (n:=0) (by omega));rw [vZ (by omega)] at h4;rw [h4] at h6;cases h6
section
variable {l:List Pt}{m:List Ed}{n:Int}
theorem aFP (hok:dH l m n=true):OO l m=aG1 l m:=by
 obtain⟨hM,h3,h1l,h4,h6,_,_⟩:=kN hok;have hdt:∀ {i:Nat},i<2*m.length→0≤(bV (aV l m m.length) i).fr∧(bV (aV l m m.length) i).fr<l.length∧0≤(bV (aV l m m.length) i).tt∧(bV (aV l m m.length) i).tt<l.length:=fun {i} hi=>by
  have:=lK (l:=l) hM hi;omega
 have hls:∀ q,∀ x∈bK (outs l m) q,∃ i:Nat,i<2*m.length∧x=i∧(bV (aV l m m.length) i).fr.toNat=q∧q<l.length:=fun q x hx=>by
  by_cases hq:q<l.length
  ·obtain⟨i,a,b,c⟩:=(iV hok hq).1 hx;exact⟨i,a,b,c,hq⟩
  ·exfalso;unfold bK at hx;rw [List.getD_eq_getElem?_getD,List.getElem?_eq_none (by rw [eL];omega)] at hx;cases hx
 have hL:∀ q,∀ x∈bK (outs l m) q,lY (aV l m m.length) x<l.length:=fun q x hx=>by
  obtain⟨i,a,b,_,_⟩:=hls q x hx;have:=hdt a;unfold lY;rw [b,Int.toNat_natCast];omega
 have hS0:∀ i,dF (List.replicate (outs l m).length false) i=false:=fun i=>by
  unfold dF;rw [List.getD_eq_getElem?_getD,List.getElem?_replicate];split <;> rfl
 have hcnt:fU (List.replicate (outs l m).length false)≤1000:=by
  have:fU (List.replicate (outs l m).length false)≤(List.replicate (outs l m).length false).length:=List.countP_le_length;have e:=eL l m;rw [List.length_replicate] at this;omega
 obtain⟨v1,v2,v3⟩:=IH (nP:=l.length) hL 1000 (List.replicate (outs l m).length false) 0 (by rw [List.length_replicate,eL]) (by omega) (hS0 0) hcnt;have hlen:(eH (aV l m m.length) (outs l m)).length=l.length:=by
  unfold eH;rw [(FV _ _ _ _ _).2,List.length_replicate,eL]
 have hR:∀ q,dF (eH (aV l m m.length) (outs l m)) q=true→∀ x∈bK (outs l m) q,dF (eH (aV l m m.length) (outs l m)) (lY (aV l m m.length) x)=true:=fun q hq x hx=>v3 q hq (hS0 q) x hx
 -- along an edge,both ways
 have hedge:∀ {e:Nat},e<m.length→(2*e:Nat)<2*m.length∧((2*e:Nat):Int)∈bK (outs l m) (cX m e).a.toNat∧lY (aV l m m.length) ((2*e:Nat):Int)=(cX m e).b.toNat∧((2*e+1:Nat):Int)∈bK (outs l m) (cX m e).b.toNat∧lY (aV l m m.length) ((2*e+1:Nat):Int)=(cX m e).a.toNat:=fun {e} he=>by
  obtain⟨d1,d2⟩:=F9 l m he;have hE:=J6 hok he;refine⟨by omega,(iV hok (by omega)).2 ⟨2*e,by omega,rfl,by rw [d1];rfl⟩,?_,(iV hok (by omega)).2 ⟨2*e+1,by omega,rfl,by rw [d2];rfl⟩,?_⟩
  ·unfold lY;rw [Int.toNat_natCast,d1];rfl
  ·unfold lY;rw [Int.toNat_natCast,d2];rfl
 have hcR:∀ {e:Nat},e<m.length→(dF (eH (aV l m m.length) (outs l m)) (cX m e).a.toNat=true∨dF (eH (aV l m m.length) (outs l m)) (cX m e).b.toNat=true)→dF (eH (aV l m m.length) (outs l m)) (cX m e).a.toNat=true∧dF (eH (aV l m m.length) (outs l m)) (cX m e).b.toNat=true:=fun {e} he h=>by
  obtain⟨_,a1,a2,a3,a4⟩:=hedge he;rcases h with h|h
  ·exact⟨h,by rw [← a2];exact hR _ h _ a1⟩
  ·exact⟨by rw [← a4];exact hR _ h _ a3,h⟩
 -- the reference's lie in the program's
 have hsub:∀ k,EX (eT l m k) (eH (aV l m m.length) (outs l m)):=by
  intro k
  induction k with
  |zero =>
   intro i hi;have:i=0:=by
    change dF (rU l.length) i=true at hi;by_cases hil:i<l.length
    ·unfold rU dF at hi;rw [List.getD_eq_getElem?_getD,List.getElem?_map,List.getElem?_range hil] at hi;simp at hi;exact hi
    ·rw [WY (by rw [E8];omega)] at hi;cases hi
   rw [this];exact v2
  |succ k ih =>
   have key:∀ j,j≤m.length→EX (qX m (eT l m k) j) (eH (aV l m m.length) (outs l m)):=by
    intro j
    induction j with
    |zero=>exact fun _=>ih
    |succ j jh =>
     intro hj i hi;have jh:=jh (by omega);unfold qX PE at hi;split at hi
     ·rename_i hc;have hc:=hcR (e:=j) (by omega) (by
       rcases Bool.or_eq_true_iff.1 hc with hc|hc
       ·exact .inl (jh _ hc)
       ·exact .inr (jh _ hc))
      rcases yO _ _ _ hi with e|hi
      ·rw [e];exact hc.2
      ·rcases yO _ _ _ hi with e|hi
       ·rw [e];exact hc.1
       ·exact jh _ hi
     ·exact jh _ hi
   exact key m.length (Nat.le_refl _)
 -- the program's lie in the reference's
 have hst:qX m (eT l m l.length) m.length=eT l m l.length:=by
  rcases AU l m l.length with h|h
  ·exact h
  ·exfalso;have:=aD3 h1l;have h2:fU (eT l m l.length)+l.length≤fU (rU l.length):=h;omega
 have hcC:∀ {e:Nat},e<m.length→(dF (eT l m l.length) (cX m e).a.toNat=true∨dF (eT l m l.length) (cX m e).b.toNat=true)→dF (eT l m l.length) (cX m e).a.toNat=true∧dF (eT l m l.length) (cX m e).b.toNat=true:=fun {e} he h=>by
  have hE:=J6 hok he;have h1:=wW m (eT l m l.length) (Nat.zero_le e);have h2:=wW m (eT l m l.length) (show e+1≤m.length by omega);rw [hst] at h2;have hlen':(qX m (eT l m l.length) e).length=l.length:=(by rw [yB,DT]);have h3:qX m (eT l m l.length) (e+1)=PE (qX m (eT l m l.length) e) (cX m e):=rfl;have hc:(dF (qX m (eT l m l.length) e) (cX m e).a.toNat || dF (qX m (eT l m l.length) e) (cX m e).b.toNat)=true:=by
   rcases h with h|h
   ·rw [h1 _ h];rfl
   ·rw [h1 _ h,Bool.or_true]
  rw [h3,PE,if_pos hc] at h2;exact⟨h2 _ (by rw [pT _ _ _ _ (by rw [List.length_set];omega)];split <;> first|rfl|rw [pT _ _ _ _ (by omega),if_pos rfl]),h2 _ (by rw [pT _ _ _ _ (by rw [List.length_set];omega),if_pos rfl])⟩
 have hsup:EX (eH (aV l m m.length) (outs l m)) (eT l m l.length):=by
  refine VU (Z:=fun i=>dF (eT l m l.length) i=true) (fun q hq x hx=>?_) 1000 _ 0 (fun i hi=>by rw [hS0] at hi;cases hi) ?_
  ·obtain⟨i,a,b,c,d⟩:=hls q x hx;rw [b];show dF (eT l m l.length) (lY (aV l m m.length) (i:Int))=true;unfold lY;rw [Int.toNat_natCast];rcases lQ (l:=l) (m:=m) a with ⟨_,h⟩|⟨_,h⟩
   ·rw [h] at c ⊢;exact (hcC (e:=i / 2) (by omega) (.inl (by rw [show (cX m (i / 2)).a.toNat=q from c];exact hq))).2
   ·rw [h] at c ⊢;exact (hcC (e:=i / 2) (by omega) (.inr (by rw [show (cX m (i / 2)).b.toNat=q from c];exact hq))).1
  ·have h0:EX (eT l m 0) (eT l m l.length):=by
    have:∀ k,EX (eT l m 0) (eT l m k):=by
     intro k
     induction k with
     |zero=>exact EX.refl _
     |succ k ih=>exact ih.trans (wW m (eT l m k) (Nat.zero_le _))
    exact this _
   refine h0 0 ?_;show dF (rU l.length) 0=true;unfold rU dF;rw [List.getD_eq_getElem?_getD,List.getElem?_map,List.getElem?_range (by omega)];rfl
 have hall:∀ {S:List Bool},S.length=l.length→(S.all id=true↔∀ i,i<l.length→dF S i=true):=fun {S} hS=>by
  rw [List.all_eq_true];constructor
  ·intro h i hi;rw [vZ (by omega)];exact h _ (List.getElem_mem _)
  ·intro h b hb;obtain⟨i,hi,rfl⟩:=List.getElem_of_mem hb;rw [← vZ hi];exact h i (by omega)
 unfold OO aG1;rw [Bool.eq_iff_iff,hall hlen,hall (DT l m _)];exact⟨fun h i hi=>hsup i (h i hi),fun h i hi=>hsub _ i (h i hi)⟩
theorem aG4 (l:List Pt)(m:List Ed)(n:Int):cN l m n=aCr l m n:=by
 unfold cN aCr;cases hp:mE l m n with
 |false=>rfl
 |true=>rw [aFP (nW hp),aDE hp]
end
end Go.Aw
end
