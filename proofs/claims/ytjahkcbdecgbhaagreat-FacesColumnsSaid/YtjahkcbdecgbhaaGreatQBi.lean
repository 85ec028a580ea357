/-
  Parts of a proof. No condition.
-/
import Derived.Test.YtjahkcbdecgbhaaGreatQBh
set_option linter.unusedSimpArgs false
set_option linter.unusedVariables false
noncomputable section
namespace Go.Aw
set_option maxRecDepth 100000
def GC (S T:List Bool):Prop:=∀ i,cU S i=true→cU T i=true
theorem GC.refl (S:List Bool):GC S S:=fun _ h=>h
theorem GC.trans {A B C:List Bool}(h1:GC A B)(h2:GC B C):GC A C:=fun i h=>h2 i (h1 i h)
theorem SQ:∀ {S T:List Bool},T.length=S.length→GC S T→gB T≤gB S∧(gB T=gB S→T=S)
 |[],[],_,_=>⟨Nat.le_refl _,fun _=>rfl⟩
 |[],_::_,h,_=>by simp at h
 |_::_,[],h,_=>by simp at h
 |a::S,b::T,hl,h=>by
  obtain⟨i1,i2⟩:=SQ (S:=S) (T:=T) (by simpa using hl) fun i hi=>h (i+1) hi;have h0:a=true→b=true:=h 0;unfold gB at *;simp only [List.countP_cons];cases a <;> cases b <;> simp at h0 ⊢
  ·exact⟨by omega,fun e=>i2 (by omega)⟩
  ·omega
  ·exact⟨i1,i2⟩
theorem XO {S:List Bool}{i:Nat}(h:S.length≤i):cU S i=false:=by
 unfold cU;rw [List.getD_eq_getElem?_getD,List.getElem?_eq_none h];rfl
theorem L6 (S:List Bool)(p:Nat):GC S (S.set p true):=fun i hi=>by
 by_cases h:p<S.length
 ·rw [rC _ _ _ _ h];split
  ·rfl
  ·exact hi
 ·rw [List.set_eq_of_length_le (by omega)];exact hi
section
variable {D:List Dt}{ls:List (List Int)}{nP:Nat}
theorem JF (hL:∀ q,∀ x∈bK ls q,mK D x<nP):∀ (n:Nat) (S:List Bool) (p:Nat),S.length=nP→p<nP→cU S p=false→gB S≤n →
  GC S (C9 D ls n S p)∧cU (C9 D ls n S p) p=true∧∀ q,cU (C9 D ls n S p) q=true→cU S q=false→∀ x∈bK ls q,cU (C9 D ls n S p) (mK D x)=true
 |0,S,p,h1,h2,h3,h4=>by have:=UX (by omega) h3;omega
 |n+1,S,p,h1,h2,h3,h4=>by
  have hcs:=K7 (S:=S) (p:=p) (by omega) h3
  have key:∀ (L:List Int) (M:List Bool),M.length=nP→gB M≤n→(∀ x∈L,mK D x<nP) →
    GC M (L.foldl (fun S x=>if cU S (mK D x)=true then S else C9 D ls n S (mK D x)) M)∧(∀ x∈L,cU (L.foldl (fun S x=>if cU S (mK D x)=true then S else C9 D ls n S (mK D x)) M) (mK D x)=true) ∧
    ∀ q,cU (L.foldl (fun S x=>if cU S (mK D x)=true then S else C9 D ls n S (mK D x)) M) q=true→cU M q=false→∀ x∈bK ls q,cU (L.foldl (fun S x=>if cU S (mK D x)=true then S else C9 D ls n S (mK D x)) M) (mK D x)=true:=by
   intro L
   induction L with
   |nil=>exact fun M _ _ _=>⟨GC.refl M,fun x hx=>(by cases hx),fun q hq hf=>by rw [List.foldl_nil] at hq;rw [hq] at hf;cases hf⟩
   |cons y r ih =>
    intro M hM hc hr;rw [List.foldl_cons];by_cases hy:cU M (mK D y)=true
    ·rw [if_pos hy];obtain⟨k1,k2,k3⟩:=ih M hM hc fun x hx=>hr x (.tail _ hx);refine⟨k1,fun x hx=>?_,k3⟩;rcases List.mem_cons.1 hx with rfl|hx
     ·exact k1 _ hy
     ·exact k2 x hx
    ·rw [if_neg hy];have hyf:cU M (mK D y)=false:=(by simpa using hy);obtain⟨v1,v2,v3⟩:=JF hL n M (mK D y) hM (hr y (.head _)) hyf hc;obtain⟨c1,c2⟩:=DP D ls n M (mK D y);obtain⟨k1,k2,k3⟩:=ih (C9 D ls n M (mK D y)) (by omega) (by omega) fun x hx=>hr x (.tail _ hx);refine⟨v1.trans k1,fun x hx=>?_,fun q hq hf x hx=>?_⟩
     ·rcases List.mem_cons.1 hx with rfl|hx
      ·exact k1 _ v2
      ·exact k2 x hx
     ·cases hv:cU (C9 D ls n M (mK D y)) q with
      |true=>exact k1 _ (v3 q hv hf x hx)
      |false=>exact k3 q hq hv x hx
  obtain⟨k1,k2,k3⟩:=key (bK ls p) (S.set p true) (by rw [List.length_set];exact h1) (by omega) (hL p);have hp0:cU (S.set p true) p=true:=(by rw [rC _ _ _ _ (by omega),if_pos rfl]);show GC S ((bK ls p).foldl _ (S.set p true))∧cU ((bK ls p).foldl _ (S.set p true)) p=true∧∀ q,cU ((bK ls p).foldl _ (S.set p true)) q=true→_;refine⟨(L6 S p).trans k1,k1 _ hp0,fun q hq hf x hx=>?_⟩;by_cases e:q=p
  ·rw [e] at hx;exact k2 x hx
  ·exact k3 q hq (by rw [rC _ _ _ _ (by omega),if_neg e];exact hf) x hx
theorem SW {Z:Nat→Prop}(hZ:∀ q,Z q→∀ x∈bK ls q,Z (mK D x)):∀ (n:Nat) (S:List Bool) (p:Nat),(∀ i,cU S i=true→Z i)→Z p→∀ i,cU (C9 D ls n S p) i=true→Z i
 |0,S,p,h1,h2=>h1
 |n+1,S,p,h1,h2=>by
  have key:∀ (L:List Int) (M:List Bool),(∀ i,cU M i=true→Z i)→(∀ x∈L,Z (mK D x))→∀ i,cU (L.foldl (fun S x=>if cU S (mK D x)=true then S else C9 D ls n S (mK D x)) M) i=true→Z i:=by
   intro L
   induction L with
   |nil=>exact fun M h _=>h
   |cons y r ih =>
    intro M hM hr;rw [List.foldl_cons];split
    ·exact ih M hM fun x hx=>hr x (.tail _ hx)
    ·exact ih _ (SW hZ n M (mK D y) hM (hr y (.head _))) fun x hx=>hr x (.tail _ hx)
  exact key (bK ls p) (S.set p true) (fun i hi=>by
   rcases xM _ _ _ hi with e|h
   ·rw [e];exact h2
   ·exact h1 i h) (hZ p h2)
end
theorem aDk (s:List Bool)(e:Ed):GC s (uZ s e):=by
 unfold uZ;split
 ·exact (L6 s _).trans (L6 _ _)
 ·exact GC.refl s
theorem xJ (m:List Ed)(s:List Bool):∀ {i j:Nat},i≤j→GC (mM m s i) (mM m s j)
 |i,0,h=>by rw [show i=0 by omega];exact GC.refl _
 |i,j+1,h=>by
  by_cases e:i=j+1
  ·rw [e];exact GC.refl _
  ·exact (xJ m s (show i≤j by omega)).trans (aDk _ _)
theorem BX (l:List Pt)(m:List Ed):∀ k,(mM m (dO l m k) m.length=dO l m k)∨gB (dO l m k)+k≤gB (dO l m 0)
 |0=>.inr (Nat.le_refl _)
 |k+1=>by
  rcases BX l m k with h|h
  ·left;have:dO l m (k+1)=dO l m k:=h;rw [this];exact h
  ·have hl:=s9 m (dO l m k) m.length;obtain⟨c1,c2⟩:=SQ hl (xJ m (dO l m k) (Nat.zero_le _));by_cases e:gB (mM m (dO l m k) m.length)=gB (dO l m k)
   ·left;have:dO l m (k+1)=dO l m k:=c2 e;rw [this];exact c2 e
   ·right;show gB (mM m (dO l m k) m.length)+(k+1)≤_;have c1':gB (mM m (dO l m k) m.length)≤gB (dO l m k):=c1;omega
theorem aDp {n:Nat}(h:1≤n):gB (l8 n)+1≤n:=by
 have h1:=sC n;have h2:gB (l8 n)≤(l8 n).length:=List.countP_le_length;rcases Nat.lt_or_ge (gB (l8 n)) n with h3|h3
 ·omega
 ·exfalso;have h4:cU (l8 n) 0=true:=by
   unfold l8 cU;rw [List.getD_eq_getElem?_getD,List.getElem?_map,List.getElem?_range (by omega)];rfl
  have h5:gB (l8 n)=(l8 n).length:=(by omega);have h6:=(List.countP_eq_length.1 h5) _ (List.getElem_mem (l:=l8 n) (n:=0) (by omega));rw [qL (by omega)] at h4;rw [h4] at h6;cases h6
section
variable {l:List Pt}{m:List Ed}{n:Int}
theorem aFx (hok:cX l m n=true):PC l m=L4 l m:=by
 obtain⟨hM,h3,h1l,h4,h6,_,_⟩:=jF hok;have hdt:∀ {i:Nat},i<2*m.length→0≤(cA (bC l m m.length) i).fr∧(cA (bC l m m.length) i).fr<l.length∧0≤(cA (bC l m m.length) i).tt∧(cA (bC l m m.length) i).tt<l.length:=fun {i} hi=>by
  have:=l9 (l:=l) hM hi;omega
 have hls:∀ q,∀ x∈bK (outs l m) q,∃ i:Nat,i<2*m.length∧x=i∧(cA (bC l m m.length) i).fr.toNat=q∧q<l.length:=fun q x hx=>by
  by_cases hq:q<l.length
  ·obtain⟨i,a,b,c⟩:=(jS hok hq).1 hx;exact⟨i,a,b,c,hq⟩
  ·exfalso;unfold bK at hx;rw [List.getD_eq_getElem?_getD,List.getElem?_eq_none (by rw [fK];omega)] at hx;cases hx
 have hL:∀ q,∀ x∈bK (outs l m) q,mK (bC l m m.length) x<l.length:=fun q x hx=>by
  obtain⟨i,a,b,_,_⟩:=hls q x hx;have:=hdt a;unfold mK;rw [b,Int.toNat_natCast];omega
 have hS0:∀ i,cU (List.replicate (outs l m).length false) i=false:=fun i=>by
  unfold cU;rw [List.getD_eq_getElem?_getD,List.getElem?_replicate];split <;> rfl
 have hcnt:gB (List.replicate (outs l m).length false)≤1000:=by
  have:gB (List.replicate (outs l m).length false)≤(List.replicate (outs l m).length false).length:=List.countP_le_length;have e:=fK l m;rw [List.length_replicate] at this;omega
 obtain⟨v1,v2,v3⟩:=JF (nP:=l.length) hL 1000 (List.replicate (outs l m).length false) 0 (by rw [List.length_replicate,fK]) (by omega) (hS0 0) hcnt;have hlen:(eR (bC l m m.length) (outs l m)).length=l.length:=by
  unfold eR;rw [(DP _ _ _ _ _).2,List.length_replicate,fK]
 have hR:∀ q,cU (eR (bC l m m.length) (outs l m)) q=true→∀ x∈bK (outs l m) q,cU (eR (bC l m m.length) (outs l m)) (mK (bC l m m.length) x)=true:=fun q hq x hx=>v3 q hq (hS0 q) x hx
 -- along an edge,both ways
 have hedge:∀ {e:Nat},e<m.length→(2*e:Nat)<2*m.length∧((2*e:Nat):Int)∈bK (outs l m) (cC m e).a.toNat∧mK (bC l m m.length) ((2*e:Nat):Int)=(cC m e).b.toNat∧((2*e+1:Nat):Int)∈bK (outs l m) (cC m e).b.toNat∧mK (bC l m m.length) ((2*e+1:Nat):Int)=(cC m e).a.toNat:=fun {e} he=>by
  obtain⟨d1,d2⟩:=FN l m he;have hE:=KJ hok he;refine⟨by omega,(jS hok (by omega)).2 ⟨2*e,by omega,rfl,by rw [d1];rfl⟩,?_,(jS hok (by omega)).2 ⟨2*e+1,by omega,rfl,by rw [d2];rfl⟩,?_⟩
  ·unfold mK;rw [Int.toNat_natCast,d1];rfl
  ·unfold mK;rw [Int.toNat_natCast,d2];rfl
 have hcR:∀ {e:Nat},e<m.length→(cU (eR (bC l m m.length) (outs l m)) (cC m e).a.toNat=true∨cU (eR (bC l m m.length) (outs l m)) (cC m e).b.toNat=true)→cU (eR (bC l m m.length) (outs l m)) (cC m e).a.toNat=true∧cU (eR (bC l m m.length) (outs l m)) (cC m e).b.toNat=true:=fun {e} he h=>by
  obtain⟨_,a1,a2,a3,a4⟩:=hedge he;rcases h with h|h
  ·exact⟨h,by rw [← a2];exact hR _ h _ a1⟩
  ·exact⟨by rw [← a4];exact hR _ h _ a3,h⟩
 -- the reference's lie in the program's
 have hsub:∀ k,GC (dO l m k) (eR (bC l m m.length) (outs l m)):=by
  intro k
  induction k with
  |zero =>
   intro i hi;have:i=0:=by
    change cU (l8 l.length) i=true at hi;by_cases hil:i<l.length
    ·unfold l8 cU at hi;rw [List.getD_eq_getElem?_getD,List.getElem?_map,List.getElem?_range hil] at hi;simp at hi;exact hi
    ·rw [XO (by rw [sC];omega)] at hi;cases hi
   rw [this];exact v2
  |succ k ih =>
   have key:∀ j,j≤m.length→GC (mM m (dO l m k) j) (eR (bC l m m.length) (outs l m)):=by
    intro j
    induction j with
    |zero=>exact fun _=>ih
    |succ j jh =>
     intro hj i hi;have jh:=jh (by omega);unfold mM uZ at hi;split at hi
     ·rename_i hc;have hc:=hcR (e:=j) (by omega) (by
       rcases Bool.or_eq_true_iff.1 hc with hc|hc
       ·exact .inl (jh _ hc)
       ·exact .inr (jh _ hc))
      rcases xM _ _ _ hi with e|hi
      ·rw [e];exact hc.2
      ·rcases xM _ _ _ hi with e|hi
       ·rw [e];exact hc.1
       ·exact jh _ hi
     ·exact jh _ hi
   exact key m.length (Nat.le_refl _)
 -- the program's lie in the reference's
 have hst:mM m (dO l m l.length) m.length=dO l m l.length:=by
  rcases BX l m l.length with h|h
  ·exact h
  ·exfalso;have:=aDp h1l;have h2:gB (dO l m l.length)+l.length≤gB (l8 l.length):=h;omega
 have hcC:∀ {e:Nat},e<m.length→(cU (dO l m l.length) (cC m e).a.toNat=true∨cU (dO l m l.length) (cC m e).b.toNat=true)→cU (dO l m l.length) (cC m e).a.toNat=true∧cU (dO l m l.length) (cC m e).b.toNat=true:=fun {e} he h=>by
  have hE:=KJ hok he;have h1:=xJ m (dO l m l.length) (Nat.zero_le e);have h2:=xJ m (dO l m l.length) (show e+1≤m.length by omega);rw [hst] at h2;have hlen':(mM m (dO l m l.length) e).length=l.length:=(by rw [s9,yF]);have h3:mM m (dO l m l.length) (e+1)=uZ (mM m (dO l m l.length) e) (cC m e):=rfl;have hc:(cU (mM m (dO l m l.length) e) (cC m e).a.toNat || cU (mM m (dO l m l.length) e) (cC m e).b.toNat)=true:=by
   rcases h with h|h
   ·rw [h1 _ h];rfl
   ·rw [h1 _ h,Bool.or_true]
  rw [h3,uZ,if_pos hc] at h2;exact⟨h2 _ (by rw [rC _ _ _ _ (by rw [List.length_set];omega)];split <;> first|rfl|rw [rC _ _ _ _ (by omega),if_pos rfl]),h2 _ (by rw [rC _ _ _ _ (by rw [List.length_set];omega),if_pos rfl])⟩
 have hsup:GC (eR (bC l m m.length) (outs l m)) (dO l m l.length):=by
  refine SW (Z:=fun i=>cU (dO l m l.length) i=true) (fun q hq x hx=>?_) 1000 _ 0 (fun i hi=>by rw [hS0] at hi;cases hi) ?_
  ·obtain⟨i,a,b,c,d⟩:=hls q x hx;rw [b];show cU (dO l m l.length) (mK (bC l m m.length) (i:Int))=true;unfold mK;rw [Int.toNat_natCast];rcases mO (l:=l) (m:=m) a with ⟨_,h⟩|⟨_,h⟩
   ·rw [h] at c ⊢;exact (hcC (e:=i / 2) (by omega) (.inl (by rw [show (cC m (i / 2)).a.toNat=q from c];exact hq))).2
   ·rw [h] at c ⊢;exact (hcC (e:=i / 2) (by omega) (.inr (by rw [show (cC m (i / 2)).b.toNat=q from c];exact hq))).1
  ·have h0:GC (dO l m 0) (dO l m l.length):=by
    have:∀ k,GC (dO l m 0) (dO l m k):=by
     intro k
     induction k with
     |zero=>exact GC.refl _
     |succ k ih=>exact ih.trans (xJ m (dO l m k) (Nat.zero_le _))
    exact this _
   refine h0 0 ?_;show cU (l8 l.length) 0=true;unfold l8 cU;rw [List.getD_eq_getElem?_getD,List.getElem?_map,List.getElem?_range (by omega)];rfl
 have hall:∀ {S:List Bool},S.length=l.length→(S.all id=true↔∀ i,i<l.length→cU S i=true):=fun {S} hS=>by
  rw [List.all_eq_true];constructor
  ·intro h i hi;rw [qL (by omega)];exact h _ (List.getElem_mem _)
  ·intro h b hb;obtain⟨i,hi,rfl⟩:=List.getElem_of_mem hb;rw [← qL hi];exact h i (by omega)
 unfold PC L4;rw [Bool.eq_iff_iff,hall hlen,hall (yF l m _)];exact⟨fun h i hi=>hsup i (h i hi),fun h i hi=>hsub _ i (h i hi)⟩
theorem aB0 (l:List Pt)(m:List Ed)(n:Int):eK l m n=HW l m n:=by
 unfold eK HW;cases hp:gI l m n with
 |false=>rfl
 |true=>rw [aFx (lE hp),aE4 hp]
end
end Go.Aw
end
