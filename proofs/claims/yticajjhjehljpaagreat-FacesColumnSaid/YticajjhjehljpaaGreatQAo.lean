/-
  Parts of a proof. No condition.
-/
import Derived.Test.YticajjhjehljpaaGreatQAn
set_option linter.unusedSimpArgs false
set_option linter.unusedVariables false
noncomputable section
namespace Go.Aw
set_option maxRecDepth 100000
def EU (S T:List Bool):Prop:=∀ i,cV S i=true→cV T i=true
theorem EU.refl (S:List Bool):EU S S:=fun _ h=>h
theorem EU.trans {A B C:List Bool}(h1:EU A B)(h2:EU B C):EU A C:=fun i h=>h2 i (h1 i h)
theorem XL:∀ {S T:List Bool},T.length=S.length→EU S T→fU T≤fU S∧(fU T=fU S→T=S)
 |[],[],_,_=>⟨Nat.le_refl _,fun _=>rfl⟩
 |[],_::_,h,_=>by simp at h
 |_::_,[],h,_=>by simp at h
 |a::S,b::T,hl,h=>by
  obtain⟨i1,i2⟩:=XL (S:=S) (T:=T) (by simpa using hl) fun i hi=>h (i+1) hi;have h0:a=true→b=true:=h 0;unfold fU at *;simp only [List.countP_cons];cases a <;> cases b <;> simp at h0 ⊢
  ·exact⟨by omega,fun e=>i2 (by omega)⟩
  ·omega
  exact⟨i1,i2⟩
theorem aA9 {S:List Bool}{i:Nat}(h:S.length≤i):cV S i=false:=by
 unfold cV;rw [List.getD_eq_getElem?_getD,List.getElem?_eq_none h];rfl
theorem LQ (S:List Bool)(p:Nat):EU S (S.set p true):=fun i hi=>by
 by_cases h:p<S.length
 ·rw [m0 _ _ _ _ h];split
  ·rfl
  exact hi
 rw [List.set_eq_of_length_le (by omega)];exact hi
section
variable {D:List Dt}{ls:List (List Int)}{nP:Nat}
theorem KY (hL:∀ q,∀ x∈bE ls q,mO D x<nP):∀ (n:Nat) (S:List Bool) (p:Nat),S.length=nP→p<nP→cV S p=false→fU S≤n →
  EU S (DN D ls n S p)∧cV (DN D ls n S p) p=true∧∀ q,cV (DN D ls n S p) q=true→cV S q=false→∀ x∈bE ls q,cV (DN D ls n S p) (mO D x)=true
 |0,S,p,h1,h2,h3,h4=>by have:=WB (by omega) h3;omega
 |n+1,S,p,h1,h2,h3,h4=>by
  have hcs:=K6 (S:=S) (p:=p) (by omega) h3
  have key:∀ (L:List Int) (M:List Bool),M.length=nP→fU M≤n→(∀ x∈L,mO D x<nP) →
    EU M (L.foldl (fun S x=>if cV S (mO D x)=true then S else DN D ls n S (mO D x)) M)∧(∀ x∈L,cV (L.foldl (fun S x=>if cV S (mO D x)=true then S else DN D ls n S (mO D x)) M) (mO D x)=true) ∧
    ∀ q,cV (L.foldl (fun S x=>if cV S (mO D x)=true then S else DN D ls n S (mO D x)) M) q=true→cV M q=false→∀ x∈bE ls q,cV (L.foldl (fun S x=>if cV S (mO D x)=true then S else DN D ls n S (mO D x)) M) (mO D x)=true:=by
   intro L
   induction L with
   |nil=>exact fun M _ _ _=>⟨EU.refl M,fun x hx=>(by cases hx),fun q hq hf=>by rw [List.foldl_nil] at hq;rw [hq] at hf;cases hf⟩
   |cons y r ih =>
    intro M hM hc hr;rw [List.foldl_cons];by_cases hy:cV M (mO D y)=true
    ·rw [if_pos hy];obtain⟨k1,k2,k3⟩:=ih M hM hc fun x hx=>hr x (.tail _ hx);refine⟨k1,fun x hx=>?_,k3⟩;rcases List.mem_cons.1 hx with rfl|hx
     ·exact k1 _ hy
     exact k2 x hx
    rw [if_neg hy];have hyf:cV M (mO D y)=false:=(by simpa using hy);obtain⟨v1,v2,v3⟩:=KY hL n M (mO D y) hM (hr y (.head _)) hyf hc;obtain⟨c1,c2⟩:=FL D ls n M (mO D y);obtain⟨k1,k2,k3⟩:=ih (DN D ls n M (mO D y)) (by omega) (by omega) fun x hx=>hr x (.tail _ hx);refine⟨v1.trans k1,fun x hx=>?_,fun q hq hf x hx=>?_⟩
    ·rcases List.mem_cons.1 hx with rfl|hx
     ·exact k1 _ v2
     exact k2 x hx
    ·cases hv:cV (DN D ls n M (mO D y)) q with
     |true=>exact k1 _ (v3 q hv hf x hx)
     |false=>exact k3 q hq hv x hx
  obtain⟨k1,k2,k3⟩:=key (bE ls p) (S.set p true) (by rw [List.length_set];exact h1) (by omega) (hL p);have hp0:cV (S.set p true) p=true:=(by rw [m0 _ _ _ _ (by omega),if_pos rfl]);show EU S ((bE ls p).foldl _ (S.set p true))∧cV ((bE ls p).foldl _ (S.set p true)) p=true∧∀ q,cV ((bE ls p).foldl _ (S.set p true)) q=true→_;refine⟨(LQ S p).trans k1,k1 _ hp0,fun q hq hf x hx=>?_⟩;by_cases e:q=p
  ·rw [e] at hx;exact k2 x hx
  exact k3 q hq (by rw [m0 _ _ _ _ (by omega),if_neg e];exact hf) x hx
theorem VW {Z:Nat→Prop}(hZ:∀ q,Z q→∀ x∈bE ls q,Z (mO D x)):∀ (n:Nat) (S:List Bool) (p:Nat),(∀ i,cV S i=true→Z i)→Z p→∀ i,cV (DN D ls n S p) i=true→Z i
 |0,S,p,h1,h2=>h1
 |n+1,S,p,h1,h2=>by
  have key:∀ (L:List Int) (M:List Bool),(∀ i,cV M i=true→Z i)→(∀ x∈L,Z (mO D x))→∀ i,cV (L.foldl (fun S x=>if cV S (mO D x)=true then S else DN D ls n S (mO D x)) M) i=true→Z i:=by
   intro L
   induction L with
   |nil=>exact fun M h _=>h
   |cons y r ih =>
    intro M hM hr;rw [List.foldl_cons];split
    ·exact ih M hM fun x hx=>hr x (.tail _ hx)
    exact ih _ (VW hZ n M (mO D y) hM (hr y (.head _))) fun x hx=>hr x (.tail _ hx)
  exact key (bE ls p) (S.set p true) (fun i hi=>by
   rcases yV _ _ _ hi with e|h
   ·rw [e];exact h2
   exact h1 i h) (hZ p h2)
end
theorem aF0 (s:List Bool)(e:Ed):EU s (LO s e):=by
 unfold LO;split
 ·exact (LQ s _).trans (LQ _ _)
 exact EU.refl s
theorem zG (m:List Ed)(s:List Bool):∀ {i j:Nat},i≤j→EU (pY m s i) (pY m s j)
 |i,0,h=>by rw [show i=0 by omega];exact EU.refl _
 |i,j+1,h=>by
  by_cases e:i=j+1
  ·rw [e];exact EU.refl _
  exact (zG m s (show i≤j by omega)).trans (aF0 _ _)
theorem CY (l:List Pt)(m:List Ed):∀ k,(pY m (eN l m k) m.length=eN l m k)∨fU (eN l m k)+k≤fU (eN l m 0)
 |0=>.inr (Nat.le_refl _)
 |k+1=>by
  rcases CY l m k with h|h
  ·left;have:eN l m (k+1)=eN l m k:=h;rw [this];exact h
  have hl:=tJ m (eN l m k) m.length;obtain⟨c1,c2⟩:=XL hl (zG m (eN l m k) (Nat.zero_le _));by_cases e:fU (pY m (eN l m k) m.length)=fU (eN l m k)
  ·left;have:eN l m (k+1)=eN l m k:=c2 e;rw [this];exact c2 e
  right;show fU (pY m (eN l m k) m.length)+(k+1)≤_;have c1':fU (pY m (eN l m k) m.length)≤fU (eN l m k):=c1;omega
theorem aFG {n:Nat}(h:1≤n):fU (r6 n)+1≤n:=by
 have h1:=HY n;have h2:fU (r6 n)≤(r6 n).length:=List.countP_le_length;rcases Nat.lt_or_ge (fU (r6 n)) n with h3|h3
 ·omega
 exfalso;have h4:cV (r6 n) 0=true:=by
  unfold r6 cV;rw [List.getD_eq_getElem?_getD,List.getElem?_map,List.getElem?_range (by omega)];rfl
 have h5:fU (r6 n)=(r6 n).length:=(by omega);have h6:=(List.countP_eq_length.1 h5) _ (List.getElem_mem (l:=r6 n) (n:=0) (by omega));rw [tB (by omega)] at h4;rw [h4] at h6;cases h6
section
variable {l:List Pt}{m:List Ed}{n:Int}
theorem aIH (hok:cM l m n=true):QZ l m=TN l m:=by
 obtain⟨hM,h3,h1l,h4,h6,_,_⟩:=dM hok;have hdt:∀ {i:Nat},i<2*m.length→0≤(bL (aO l m m.length) i).fr∧(bL (aO l m m.length) i).fr<l.length∧0≤(bL (aO l m m.length) i).tt∧(bL (aO l m m.length) i).tt<l.length:=fun {i} hi=>by
  have:=eM (l:=l) hM hi;omega
 have hls:∀ q,∀ x∈bE (outs l m) q,∃ i:Nat,i<2*m.length∧x=i∧(bL (aO l m m.length) i).fr.toNat=q∧q<l.length:=fun q x hx=>by
  by_cases hq:q<l.length
  ·obtain⟨i,a,b,c⟩:=(iL hok hq).1 hx;exact⟨i,a,b,c,hq⟩
  exfalso;unfold bE at hx;rw [List.getD_eq_getElem?_getD,List.getElem?_eq_none (by rw [eZ];omega)] at hx;cases hx
 have hL:∀ q,∀ x∈bE (outs l m) q,mO (aO l m m.length) x<l.length:=fun q x hx=>by
  obtain⟨i,a,b,_,_⟩:=hls q x hx;have:=hdt a;unfold mO;rw [b,Int.toNat_natCast];omega
 have hS0:∀ i,cV (List.replicate (outs l m).length false) i=false:=fun i=>by
  unfold cV;rw [List.getD_eq_getElem?_getD,List.getElem?_replicate];split <;> rfl
 have hcnt:fU (List.replicate (outs l m).length false)≤1000:=by
  have:fU (List.replicate (outs l m).length false)≤(List.replicate (outs l m).length false).length:=List.countP_le_length;have e:=eZ l m;rw [List.length_replicate] at this;omega
 obtain⟨v1,v2,v3⟩:=KY (nP:=l.length) hL 1000 (List.replicate (outs l m).length false) 0 (by rw [List.length_replicate,eZ]) (by omega) (hS0 0) hcnt;have hlen:(eS (aO l m m.length) (outs l m)).length=l.length:=by
  unfold eS;rw [(FL _ _ _ _ _).2,List.length_replicate,eZ]
 have hR:∀ q,cV (eS (aO l m m.length) (outs l m)) q=true→∀ x∈bE (outs l m) q,cV (eS (aO l m m.length) (outs l m)) (mO (aO l m m.length) x)=true:=fun q hq x hx=>v3 q hq (hS0 q) x hx
 -- along an edge,both ways
 have hedge:∀ {e:Nat},e<m.length→(2*e:Nat)<2*m.length∧((2*e:Nat):Int)∈bE (outs l m) (cN m e).a.toNat∧mO (aO l m m.length) ((2*e:Nat):Int)=(cN m e).b.toNat∧((2*e+1:Nat):Int)∈bE (outs l m) (cN m e).b.toNat∧mO (aO l m m.length) ((2*e+1:Nat):Int)=(cN m e).a.toNat:=fun {e} he=>by
  obtain⟨d1,d2⟩:=GU l m he;have hE:=sK hok he;refine⟨by omega,(iL hok (by omega)).2 ⟨2*e,by omega,rfl,by rw [d1];rfl⟩,?_,(iL hok (by omega)).2 ⟨2*e+1,by omega,rfl,by rw [d2];rfl⟩,?_⟩
  ·unfold mO;rw [Int.toNat_natCast,d1];rfl
  unfold mO;rw [Int.toNat_natCast,d2];rfl
 have hcR:∀ {e:Nat},e<m.length→(cV (eS (aO l m m.length) (outs l m)) (cN m e).a.toNat=true∨cV (eS (aO l m m.length) (outs l m)) (cN m e).b.toNat=true)→cV (eS (aO l m m.length) (outs l m)) (cN m e).a.toNat=true∧cV (eS (aO l m m.length) (outs l m)) (cN m e).b.toNat=true:=fun {e} he h=>by
  obtain⟨_,a1,a2,a3,a4⟩:=hedge he;rcases h with h|h
  ·exact⟨h,by rw [← a2];exact hR _ h _ a1⟩
  exact⟨by rw [← a4];exact hR _ h _ a3,h⟩
 -- the reference's lie in the program's
 have hsub:∀ k,EU (eN l m k) (eS (aO l m m.length) (outs l m)):=by
  intro k
  induction k with
  |zero =>
   intro i hi;have:i=0:=by
    change cV (r6 l.length) i=true at hi;by_cases hil:i<l.length
    ·unfold r6 cV at hi;rw [List.getD_eq_getElem?_getD,List.getElem?_map,List.getElem?_range hil] at hi;simp at hi;exact hi
    rw [aA9 (by rw [HY];omega)] at hi;cases hi
   rw [this];exact v2
  |succ k ih =>
   have key:∀ j,j≤m.length→EU (pY m (eN l m k) j) (eS (aO l m m.length) (outs l m)):=by
    intro j
    induction j with
    |zero=>exact fun _=>ih
    |succ j jh =>
     intro hj i hi;have jh:=jh (by omega);unfold pY LO at hi;split at hi
     ·rename_i hc;have hc:=hcR (e:=j) (by omega) (by
       rcases Bool.or_eq_true_iff.1 hc with hc|hc
       ·exact .inl (jh _ hc)
       exact .inr (jh _ hc))
      rcases yV _ _ _ hi with e|hi
      ·rw [e];exact hc.2
      ·rcases yV _ _ _ hi with e|hi
       ·rw [e];exact hc.1
       exact jh _ hi
     exact jh _ hi
   exact key m.length (Nat.le_refl _)
 -- the program's lie in the reference's
 have hst:pY m (eN l m l.length) m.length=eN l m l.length:=by
  rcases CY l m l.length with h|h
  ·exact h
  exfalso;have:=aFG h1l;have h2:fU (eN l m l.length)+l.length≤fU (r6 l.length):=h;omega
 have hcC:∀ {e:Nat},e<m.length→(cV (eN l m l.length) (cN m e).a.toNat=true∨cV (eN l m l.length) (cN m e).b.toNat=true)→cV (eN l m l.length) (cN m e).a.toNat=true∧cV (eN l m l.length) (cN m e).b.toNat=true:=fun {e} he h=>by
  have hE:=sK hok he;have h1:=zG m (eN l m l.length) (Nat.zero_le e);have h2:=zG m (eN l m l.length) (show e+1≤m.length by omega);rw [hst] at h2;have hlen':(pY m (eN l m l.length) e).length=l.length:=(by rw [tJ,sH]);have h3:pY m (eN l m l.length) (e+1)=LO (pY m (eN l m l.length) e) (cN m e):=rfl;have hc:(cV (pY m (eN l m l.length) e) (cN m e).a.toNat || cV (pY m (eN l m l.length) e) (cN m e).b.toNat)=true:=by
   rcases h with h|h
   ·rw [h1 _ h];rfl
   rw [h1 _ h,Bool.or_true]
  rw [h3,LO,if_pos hc] at h2;exact⟨h2 _ (by rw [m0 _ _ _ _ (by rw [List.length_set];omega)];split <;> first|rfl|rw [m0 _ _ _ _ (by omega),if_pos rfl]),h2 _ (by rw [m0 _ _ _ _ (by rw [List.length_set];omega),if_pos rfl])⟩
 have hsup:EU (eS (aO l m m.length) (outs l m)) (eN l m l.length):=by
  refine VW (Z:=fun i=>cV (eN l m l.length) i=true) (fun q hq x hx=>?_) 1000 _ 0 (fun i hi=>by rw [hS0] at hi;cases hi) ?_
  ·obtain⟨i,a,b,c,d⟩:=hls q x hx;rw [b];show cV (eN l m l.length) (mO (aO l m m.length) (i:Int))=true;unfold mO;rw [Int.toNat_natCast];rcases jU (l:=l) (m:=m) a with ⟨_,h⟩|⟨_,h⟩
   ·rw [h] at c ⊢;exact (hcC (e:=i / 2) (by omega) (.inl (by rw [show (cN m (i / 2)).a.toNat=q from c];exact hq))).2
   rw [h] at c ⊢;exact (hcC (e:=i / 2) (by omega) (.inr (by rw [show (cN m (i / 2)).b.toNat=q from c];exact hq))).1
  have h0:EU (eN l m 0) (eN l m l.length):=by
   have:∀ k,EU (eN l m 0) (eN l m k):=by
    intro k
    induction k with
    |zero=>exact EU.refl _
    |succ k ih=>exact ih.trans (zG m (eN l m k) (Nat.zero_le _))
   exact this _
  refine h0 0 ?_;show cV (r6 l.length) 0=true;unfold r6 cV;rw [List.getD_eq_getElem?_getD,List.getElem?_map,List.getElem?_range (by omega)];rfl
 have hall:∀ {S:List Bool},S.length=l.length→(S.all id=true↔∀ i,i<l.length→cV S i=true):=fun {S} hS=>by
  rw [List.all_eq_true];constructor
  ·intro h i hi;rw [tB (by omega)];exact h _ (List.getElem_mem _)
  intro h b hb;obtain⟨i,hi,rfl⟩:=List.getElem_of_mem hb;rw [← tB hi];exact h i (by omega)
 unfold QZ TN;rw [Bool.eq_iff_iff,hall hlen,hall (sH l m _)];exact⟨fun h i hi=>hsup i (h i hi),fun h i hi=>hsub _ i (h i hi)⟩
theorem aJF (l:List Pt)(m:List Ed)(n:Int):aY l m n=aIk l m n:=by
 unfold aY aIk;cases hp:gW l m n with
 |false=>rfl
 |true=>rw [aIH (cH hp),aEh hp]
end
end Go.Aw
end
