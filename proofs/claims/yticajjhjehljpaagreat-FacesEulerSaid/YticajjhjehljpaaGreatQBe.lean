/-
  Parts of a proof. No condition.
-/
import Derived.Test.YticajjhjehljpaaGreatQBd
set_option linter.unusedSimpArgs false
set_option linter.unusedVariables false
noncomputable section
namespace Go.Aw
set_option maxRecDepth 100000
def E8 (S T:List Bool):Prop:=∀ i,cM S i=true→cM T i=true
theorem E8.refl (S:List Bool):E8 S S:=fun _ h=>h
theorem E8.trans {A B C:List Bool}(h1:E8 A B)(h2:E8 B C):E8 A C:=fun i h=>h2 i (h1 i h)
theorem S3:∀ {S T:List Bool},T.length=S.length→E8 S T→fI T≤fI S∧(fI T=fI S→T=S)
 |[],[],_,_=>⟨Nat.le_refl _,fun _=>rfl⟩
 |[],_::_,h,_=>by simp at h
 |_::_,[],h,_=>by simp at h
 |a::S,b::T,hl,h=>by
  obtain⟨i1,i2⟩:=S3 (S:=S) (T:=T) (by simpa using hl) fun i hi=>h (i+1) hi;have h0:a=true→b=true:=h 0;unfold fI at *;simp only [List.countP_cons];cases a <;> cases b <;> simp at h0 ⊢
  ·exact⟨by omega,fun e=>i2 (by omega)⟩
  ·omega
  ·exact⟨i1,i2⟩
theorem VD {S:List Bool}{i:Nat}(h:S.length≤i):cM S i=false:=by
 unfold cM;rw [List.getD_eq_getElem?_getD,List.getElem?_eq_none h];rfl
theorem KD (S:List Bool)(p:Nat):E8 S (S.set p true):=fun i hi=>by
 by_cases h:p<S.length
 ·rw [kT _ _ _ _ h];split
  ·rfl
  ·exact hi
 ·rw [List.set_eq_of_length_le (by omega)];exact hi
section
variable {D:List Dt}{ls:List (List Int)}{nP:Nat}
theorem ID (hL:∀ q,∀ x∈bE ls q,lQ D x<nP):∀ (n:Nat) (S:List Bool) (p:Nat),S.length=nP→p<nP→cM S p=false→fI S≤n →
  E8 S (CB D ls n S p)∧cM (CB D ls n S p) p=true∧∀ q,cM (CB D ls n S p) q=true→cM S q=false→∀ x∈bE ls q,cM (CB D ls n S p) (lQ D x)=true
 |0,S,p,h1,h2,h3,h4=>by have:=SZ (by omega) h3;omega
 |n+1,S,p,h1,h2,h3,h4=>by
  have hcs:=KI (S:=S) (p:=p) (by omega) h3
  have key:∀ (L:List Int) (M:List Bool),M.length=nP→fI M≤n→(∀ x∈L,lQ D x<nP) →
    E8 M (L.foldl (fun S x=>if cM S (lQ D x)=true then S else CB D ls n S (lQ D x)) M)∧(∀ x∈L,cM (L.foldl (fun S x=>if cM S (lQ D x)=true then S else CB D ls n S (lQ D x)) M) (lQ D x)=true) ∧
    ∀ q,cM (L.foldl (fun S x=>if cM S (lQ D x)=true then S else CB D ls n S (lQ D x)) M) q=true→cM M q=false→∀ x∈bE ls q,cM (L.foldl (fun S x=>if cM S (lQ D x)=true then S else CB D ls n S (lQ D x)) M) (lQ D x)=true:=by
   intro L
   induction L with
   |nil=>exact fun M _ _ _=>⟨E8.refl M,fun x hx=>(by cases hx),fun q hq hf=>by rw [List.foldl_nil] at hq;rw [hq] at hf;cases hf⟩
   |cons y r ih =>
    intro M hM hc hr;rw [List.foldl_cons];by_cases hy:cM M (lQ D y)=true
    ·rw [if_pos hy];obtain⟨k1,k2,k3⟩:=ih M hM hc fun x hx=>hr x (.tail _ hx);refine⟨k1,fun x hx=>?_,k3⟩;rcases List.mem_cons.1 hx with rfl|hx
     ·exact k1 _ hy
     ·exact k2 x hx
    ·rw [if_neg hy];have hyf:cM M (lQ D y)=false:=(by simpa using hy);obtain⟨v1,v2,v3⟩:=ID hL n M (lQ D y) hM (hr y (.head _)) hyf hc;obtain⟨c1,c2⟩:=EI D ls n M (lQ D y);obtain⟨k1,k2,k3⟩:=ih (CB D ls n M (lQ D y)) (by omega) (by omega) fun x hx=>hr x (.tail _ hx);refine⟨v1.trans k1,fun x hx=>?_,fun q hq hf x hx=>?_⟩
     ·rcases List.mem_cons.1 hx with rfl|hx
      ·exact k1 _ v2
      ·exact k2 x hx
     ·cases hv:cM (CB D ls n M (lQ D y)) q with
      |true=>exact k1 _ (v3 q hv hf x hx)
      |false=>exact k3 q hq hv x hx
  obtain⟨k1,k2,k3⟩:=key (bE ls p) (S.set p true) (by rw [List.length_set];exact h1) (by omega) (hL p);have hp0:cM (S.set p true) p=true:=(by rw [kT _ _ _ _ (by omega),if_pos rfl]);show E8 S ((bE ls p).foldl _ (S.set p true))∧cM ((bE ls p).foldl _ (S.set p true)) p=true∧∀ q,cM ((bE ls p).foldl _ (S.set p true)) q=true→_;refine⟨(KD S p).trans k1,k1 _ hp0,fun q hq hf x hx=>?_⟩;by_cases e:q=p
  ·rw [e] at hx;exact k2 x hx
  ·exact k3 q hq (by rw [kT _ _ _ _ (by omega),if_neg e];exact hf) x hx
theorem SV {Z:Nat→Prop}(hZ:∀ q,Z q→∀ x∈bE ls q,Z (lQ D x)):∀ (n:Nat) (S:List Bool) (p:Nat),(∀ i,cM S i=true→Z i)→Z p→∀ i,cM (CB D ls n S p) i=true→Z i
 |0,S,p,h1,h2=>h1
 |n+1,S,p,h1,h2=>by
  have key:∀ (L:List Int) (M:List Bool),(∀ i,cM M i=true→Z i)→(∀ x∈L,Z (lQ D x))→∀ i,cM (L.foldl (fun S x=>if cM S (lQ D x)=true then S else CB D ls n S (lQ D x)) M) i=true→Z i:=by
   intro L
   induction L with
   |nil=>exact fun M h _=>h
   |cons y r ih =>
    intro M hM hr;rw [List.foldl_cons];split
    ·exact ih M hM fun x hx=>hr x (.tail _ hx)
    ·exact ih _ (SV hZ n M (lQ D y) hM (hr y (.head _))) fun x hx=>hr x (.tail _ hx)
  exact key (bE ls p) (S.set p true) (fun i hi=>by
   rcases yE _ _ _ hi with e|h
   ·rw [e];exact h2
   ·exact h1 i h) (hZ p h2)
end
theorem aC9 (s:List Bool)(e:Ed):E8 s (J0 s e):=by
 unfold J0;split
 ·exact (KD s _).trans (KD _ _)
 ·exact E8.refl s
theorem xM (m:List Ed)(s:List Bool):∀ {i j:Nat},i≤j→E8 (oY m s i) (oY m s j)
 |i,0,h=>by rw [show i=0 by omega];exact E8.refl _
 |i,j+1,h=>by
  by_cases e:i=j+1
  ·rw [e];exact E8.refl _
  ·exact (xM m s (show i≤j by omega)).trans (aC9 _ _)
theorem AE (l:List Pt)(m:List Ed):∀ k,(oY m (dV l m k) m.length=dV l m k)∨fI (dV l m k)+k≤fI (dV l m 0)
 |0=>.inr (Nat.le_refl _)
 |k+1=>by
  rcases AE l m k with h|h
  ·left;have:dV l m (k+1)=dV l m k:=h;rw [this];exact h
  ·have hl:=qT m (dV l m k) m.length;obtain⟨c1,c2⟩:=S3 hl (xM m (dV l m k) (Nat.zero_le _));by_cases e:fI (oY m (dV l m k) m.length)=fI (dV l m k)
   ·left;have:dV l m (k+1)=dV l m k:=c2 e;rw [this];exact c2 e
   ·right;show fI (oY m (dV l m k) m.length)+(k+1)≤_;have c1':fI (oY m (dV l m k) m.length)≤fI (dV l m k):=c1;omega
theorem aDD {n:Nat}(h:1≤n):fI (qJ n)+1≤n:=by
 have h1:=ER n;have h2:fI (qJ n)≤(qJ n).length:=List.countP_le_length;rcases Nat.lt_or_ge (fI (qJ n)) n with h3|h3
 ·omega
 ·exfalso;have h4:cM (qJ n) 0=true:=by
   unfold qJ cM;rw [List.getD_eq_getElem?_getD,List.getElem?_map,List.getElem?_range (by omega)];rfl
  have h5:fI (qJ n)=(qJ n).length:=(by omega);have h6:=(List.countP_eq_length.1 h5) _ (List.getElem_mem (l:=qJ n) (n:=0) (by omega));rw [qQ (by omega)] at h4;rw [h4] at h6;cases h6
section
variable {l:List Pt}{m:List Ed}{n:Int}
theorem aFW (hok:cL l m n=true):LN l m=VO l m:=by
 obtain⟨hM,h3,h1l,h4,h6,_,_⟩:=fC hok;have hdt:∀ {i:Nat},i<2*m.length→0≤(bK (aL l m m.length) i).fr∧(bK (aL l m m.length) i).fr<l.length∧0≤(bK (aL l m m.length) i).tt∧(bK (aL l m m.length) i).tt<l.length:=fun {i} hi=>by
  have:=eR (l:=l) hM hi;omega
 have hls:∀ q,∀ x∈bE (outs l m) q,∃ i:Nat,i<2*m.length∧x=i∧(bK (aL l m m.length) i).fr.toNat=q∧q<l.length:=fun q x hx=>by
  by_cases hq:q<l.length
  ·obtain⟨i,a,b,c⟩:=(gG hok hq).1 hx;exact⟨i,a,b,c,hq⟩
  ·exfalso;unfold bE at hx;rw [List.getD_eq_getElem?_getD,List.getElem?_eq_none (by rw [eJ];omega)] at hx;cases hx
 have hL:∀ q,∀ x∈bE (outs l m) q,lQ (aL l m m.length) x<l.length:=fun q x hx=>by
  obtain⟨i,a,b,_,_⟩:=hls q x hx;have:=hdt a;unfold lQ;rw [b,Int.toNat_natCast];omega
 have hS0:∀ i,cM (List.replicate (outs l m).length false) i=false:=fun i=>by
  unfold cM;rw [List.getD_eq_getElem?_getD,List.getElem?_replicate];split <;> rfl
 have hcnt:fI (List.replicate (outs l m).length false)≤1000:=by
  have:fI (List.replicate (outs l m).length false)≤(List.replicate (outs l m).length false).length:=List.countP_le_length;have e:=eJ l m;rw [List.length_replicate] at this;omega
 obtain⟨v1,v2,v3⟩:=ID (nP:=l.length) hL 1000 (List.replicate (outs l m).length false) 0 (by rw [List.length_replicate,eJ]) (by omega) (hS0 0) hcnt;have hlen:(eF (aL l m m.length) (outs l m)).length=l.length:=by
  unfold eF;rw [(EI _ _ _ _ _).2,List.length_replicate,eJ]
 have hR:∀ q,cM (eF (aL l m m.length) (outs l m)) q=true→∀ x∈bE (outs l m) q,cM (eF (aL l m m.length) (outs l m)) (lQ (aL l m m.length) x)=true:=fun q hq x hx=>v3 q hq (hS0 q) x hx
 -- along an edge,both ways
 have hedge:∀ {e:Nat},e<m.length→(2*e:Nat)<2*m.length∧((2*e:Nat):Int)∈bE (outs l m) (dG m e).a.toNat∧lQ (aL l m m.length) ((2*e:Nat):Int)=(dG m e).b.toNat∧((2*e+1:Nat):Int)∈bE (outs l m) (dG m e).b.toNat∧lQ (aL l m m.length) ((2*e+1:Nat):Int)=(dG m e).a.toNat:=fun {e} he=>by
  obtain⟨d1,d2⟩:=FE l m he;have hE:=o9 hok he;refine⟨by omega,(gG hok (by omega)).2 ⟨2*e,by omega,rfl,by rw [d1];rfl⟩,?_,(gG hok (by omega)).2 ⟨2*e+1,by omega,rfl,by rw [d2];rfl⟩,?_⟩
  ·unfold lQ;rw [Int.toNat_natCast,d1];rfl
  ·unfold lQ;rw [Int.toNat_natCast,d2];rfl
 have hcR:∀ {e:Nat},e<m.length→(cM (eF (aL l m m.length) (outs l m)) (dG m e).a.toNat=true∨cM (eF (aL l m m.length) (outs l m)) (dG m e).b.toNat=true)→cM (eF (aL l m m.length) (outs l m)) (dG m e).a.toNat=true∧cM (eF (aL l m m.length) (outs l m)) (dG m e).b.toNat=true:=fun {e} he h=>by
  obtain⟨_,a1,a2,a3,a4⟩:=hedge he;rcases h with h|h
  ·exact⟨h,by rw [← a2];exact hR _ h _ a1⟩
  ·exact⟨by rw [← a4];exact hR _ h _ a3,h⟩
 -- the reference's lie in the program's
 have hsub:∀ k,E8 (dV l m k) (eF (aL l m m.length) (outs l m)):=by
  intro k
  induction k with
  |zero =>
   intro i hi;have:i=0:=by
    change cM (qJ l.length) i=true at hi;by_cases hil:i<l.length
    ·unfold qJ cM at hi;rw [List.getD_eq_getElem?_getD,List.getElem?_map,List.getElem?_range hil] at hi;simp at hi;exact hi
    ·rw [VD (by rw [ER];omega)] at hi;cases hi
   rw [this];exact v2
  |succ k ih =>
   have key:∀ j,j≤m.length→E8 (oY m (dV l m k) j) (eF (aL l m m.length) (outs l m)):=by
    intro j
    induction j with
    |zero=>exact fun _=>ih
    |succ j jh =>
     intro hj i hi;have jh:=jh (by omega);unfold oY J0 at hi;split at hi
     ·rename_i hc;have hc:=hcR (e:=j) (by omega) (by
       rcases Bool.or_eq_true_iff.1 hc with hc|hc
       ·exact .inl (jh _ hc)
       ·exact .inr (jh _ hc))
      rcases yE _ _ _ hi with e|hi
      ·rw [e];exact hc.2
      ·rcases yE _ _ _ hi with e|hi
       ·rw [e];exact hc.1
       ·exact jh _ hi
     ·exact jh _ hi
   exact key m.length (Nat.le_refl _)
 -- the program's lie in the reference's
 have hst:oY m (dV l m l.length) m.length=dV l m l.length:=by
  rcases AE l m l.length with h|h
  ·exact h
  ·exfalso;have:=aDD h1l;have h2:fI (dV l m l.length)+l.length≤fI (qJ l.length):=h;omega
 have hcC:∀ {e:Nat},e<m.length→(cM (dV l m l.length) (dG m e).a.toNat=true∨cM (dV l m l.length) (dG m e).b.toNat=true)→cM (dV l m l.length) (dG m e).a.toNat=true∧cM (dV l m l.length) (dG m e).b.toNat=true:=fun {e} he h=>by
  have hE:=o9 hok he;have h1:=xM m (dV l m l.length) (Nat.zero_le e);have h2:=xM m (dV l m l.length) (show e+1≤m.length by omega);rw [hst] at h2;have hlen':(oY m (dV l m l.length) e).length=l.length:=(by rw [qT,rJ]);have h3:oY m (dV l m l.length) (e+1)=J0 (oY m (dV l m l.length) e) (dG m e):=rfl;have hc:(cM (oY m (dV l m l.length) e) (dG m e).a.toNat || cM (oY m (dV l m l.length) e) (dG m e).b.toNat)=true:=by
   rcases h with h|h
   ·rw [h1 _ h];rfl
   ·rw [h1 _ h,Bool.or_true]
  rw [h3,J0,if_pos hc] at h2;exact⟨h2 _ (by rw [kT _ _ _ _ (by rw [List.length_set];omega)];split <;> first|rfl|rw [kT _ _ _ _ (by omega),if_pos rfl]),h2 _ (by rw [kT _ _ _ _ (by rw [List.length_set];omega),if_pos rfl])⟩
 have hsup:E8 (eF (aL l m m.length) (outs l m)) (dV l m l.length):=by
  refine SV (Z:=fun i=>cM (dV l m l.length) i=true) (fun q hq x hx=>?_) 1000 _ 0 (fun i hi=>by rw [hS0] at hi;cases hi) ?_
  ·obtain⟨i,a,b,c,d⟩:=hls q x hx;rw [b];show cM (dV l m l.length) (lQ (aL l m m.length) (i:Int))=true;unfold lQ;rw [Int.toNat_natCast];rcases kN (l:=l) (m:=m) a with ⟨_,h⟩|⟨_,h⟩
   ·rw [h] at c ⊢;exact (hcC (e:=i / 2) (by omega) (.inl (by rw [show (dG m (i / 2)).a.toNat=q from c];exact hq))).2
   ·rw [h] at c ⊢;exact (hcC (e:=i / 2) (by omega) (.inr (by rw [show (dG m (i / 2)).b.toNat=q from c];exact hq))).1
  ·have h0:E8 (dV l m 0) (dV l m l.length):=by
    have:∀ k,E8 (dV l m 0) (dV l m k):=by
     intro k
     induction k with
     |zero=>exact E8.refl _
     |succ k ih=>exact ih.trans (xM m (dV l m k) (Nat.zero_le _))
    exact this _
   refine h0 0 ?_;show cM (qJ l.length) 0=true;unfold qJ cM;rw [List.getD_eq_getElem?_getD,List.getElem?_map,List.getElem?_range (by omega)];rfl
 have hall:∀ {S:List Bool},S.length=l.length→(S.all id=true↔∀ i,i<l.length→cM S i=true):=fun {S} hS=>by
  rw [List.all_eq_true];constructor
  ·intro h i hi;rw [qQ (by omega)];exact h _ (List.getElem_mem _)
  ·intro h b hb;obtain⟨i,hi,rfl⟩:=List.getElem_of_mem hb;rw [← qQ hi];exact h i (by omega)
 unfold LN VO;rw [Bool.eq_iff_iff,hall hlen,hall (rJ l m _)];exact⟨fun h i hi=>hsup i (h i hi),fun h i hi=>hsub _ i (h i hi)⟩
theorem aGW (l:List Pt)(m:List Ed)(n:Int):cZ l m n=aFS l m n:=by
 unfold cZ aFS;cases hp:iP l m n with
 |false=>rfl
 |true=>rw [aFW (cN hp),aCF hp]
end
end Go.Aw
end
