/-
  Parts of a proof. No condition.
-/
import Derived.Test.YtjahkcbdecgbhaaGreatQBh
set_option linter.unusedSimpArgs false
set_option linter.unusedVariables false
noncomputable section
namespace Go.Aw
set_option maxRecDepth 100000
def GW (S T:List Bool):Prop:=∀ i,cG S i=true→cG T i=true
theorem GW.refl (S:List Bool):GW S S:=fun _ h=>h
theorem GW.trans {A B C:List Bool}(h1:GW A B)(h2:GW B C):GW A C:=fun i h=>h2 i (h1 i h)
theorem XD:∀ {S T:List Bool},T.length=S.length→GW S T→gQ T≤gQ S∧(gQ T=gQ S→T=S)
 |[],[],_,_=>⟨Nat.le_refl _,fun _=>rfl⟩
 |[],_::_,h,_=>by simp at h
 |_::_,[],h,_=>by simp at h
 |a::S,b::T,hl,h=>by
  obtain⟨i1,i2⟩:=XD (S:=S) (T:=T) (by simpa using hl) fun i hi=>h (i+1) hi;have h0:a=true→b=true:=h 0;unfold gQ at *;simp only [List.countP_cons];cases a <;> cases b <;> simp at h0 ⊢
  ·exact⟨by omega,fun e=>i2 (by omega)⟩
  ·omega
  ·exact⟨i1,i2⟩
theorem ZE {S:List Bool}{i:Nat}(h:S.length≤i):cG S i=false:=by
 unfold cG;rw [List.getD_eq_getElem?_getD,List.getElem?_eq_none h];rfl
theorem M3 (S:List Bool)(p:Nat):GW S (S.set p true):=fun i hi=>by
 by_cases h:p<S.length
 ·rw [oO _ _ _ _ h];split
  ·rfl
  ·exact hi
 ·rw [List.set_eq_of_length_le (by omega)];exact hi
section
variable {D:List Dt}{ls:List (List Int)}{nP:Nat}
theorem KF (hL:∀ q,∀ x∈bO ls q,mZ D x<nP):∀ (n:Nat) (S:List Bool) (p:Nat),S.length=nP→p<nP→cG S p=false→gQ S≤n →
  GW S (EB D ls n S p)∧cG (EB D ls n S p) p=true∧∀ q,cG (EB D ls n S p) q=true→cG S q=false→∀ x∈bO ls q,cG (EB D ls n S p) (mZ D x)=true
 |0,S,p,h1,h2,h3,h4=>by have:=UN (by omega) h3;omega
 |n+1,S,p,h1,h2,h3,h4=>by
  have hcs:=MZ (S:=S) (p:=p) (by omega) h3
  have key:∀ (L:List Int) (M:List Bool),M.length=nP→gQ M≤n→(∀ x∈L,mZ D x<nP) →
    GW M (L.foldl (fun S x=>if cG S (mZ D x)=true then S else EB D ls n S (mZ D x)) M)∧(∀ x∈L,cG (L.foldl (fun S x=>if cG S (mZ D x)=true then S else EB D ls n S (mZ D x)) M) (mZ D x)=true) ∧
    ∀ q,cG (L.foldl (fun S x=>if cG S (mZ D x)=true then S else EB D ls n S (mZ D x)) M) q=true→cG M q=false→∀ x∈bO ls q,cG (L.foldl (fun S x=>if cG S (mZ D x)=true then S else EB D ls n S (mZ D x)) M) (mZ D x)=true:=by
   intro L
   induction L with
   |nil=>exact fun M _ _ _=>⟨GW.refl M,fun x hx=>(by cases hx),fun q hq hf=>by rw [List.foldl_nil] at hq;rw [hq] at hf;cases hf⟩
   |cons y r ih =>
    intro M hM hc hr;rw [List.foldl_cons];by_cases hy:cG M (mZ D y)=true
    ·rw [if_pos hy];obtain⟨k1,k2,k3⟩:=ih M hM hc fun x hx=>hr x (.tail _ hx);refine⟨k1,fun x hx=>?_,k3⟩;rcases List.mem_cons.1 hx with rfl|hx
     ·exact k1 _ hy
     ·exact k2 x hx
    ·rw [if_neg hy];have hyf:cG M (mZ D y)=false:=(by simpa using hy);obtain⟨v1,v2,v3⟩:=KF hL n M (mZ D y) hM (hr y (.head _)) hyf hc;obtain⟨c1,c2⟩:=E0 D ls n M (mZ D y);obtain⟨k1,k2,k3⟩:=ih (EB D ls n M (mZ D y)) (by omega) (by omega) fun x hx=>hr x (.tail _ hx);refine⟨v1.trans k1,fun x hx=>?_,fun q hq hf x hx=>?_⟩
     ·rcases List.mem_cons.1 hx with rfl|hx
      ·exact k1 _ v2
      ·exact k2 x hx
     ·cases hv:cG (EB D ls n M (mZ D y)) q with
      |true=>exact k1 _ (v3 q hv hf x hx)
      |false=>exact k3 q hq hv x hx
  obtain⟨k1,k2,k3⟩:=key (bO ls p) (S.set p true) (by rw [List.length_set];exact h1) (by omega) (hL p);have hp0:cG (S.set p true) p=true:=(by rw [oO _ _ _ _ (by omega),if_pos rfl]);show GW S ((bO ls p).foldl _ (S.set p true))∧cG ((bO ls p).foldl _ (S.set p true)) p=true∧∀ q,cG ((bO ls p).foldl _ (S.set p true)) q=true→_;refine⟨(M3 S p).trans k1,k1 _ hp0,fun q hq hf x hx=>?_⟩;by_cases e:q=p
  ·rw [e] at hx;exact k2 x hx
  ·exact k3 q hq (by rw [oO _ _ _ _ (by omega),if_neg e];exact hf) x hx
theorem U7 {Z:Nat→Prop}(hZ:∀ q,Z q→∀ x∈bO ls q,Z (mZ D x)):∀ (n:Nat) (S:List Bool) (p:Nat),(∀ i,cG S i=true→Z i)→Z p→∀ i,cG (EB D ls n S p) i=true→Z i
 |0,S,p,h1,h2=>h1
 |n+1,S,p,h1,h2=>by
  have key:∀ (L:List Int) (M:List Bool),(∀ i,cG M i=true→Z i)→(∀ x∈L,Z (mZ D x))→∀ i,cG (L.foldl (fun S x=>if cG S (mZ D x)=true then S else EB D ls n S (mZ D x)) M) i=true→Z i:=by
   intro L
   induction L with
   |nil=>exact fun M h _=>h
   |cons y r ih =>
    intro M hM hr;rw [List.foldl_cons];split
    ·exact ih M hM fun x hx=>hr x (.tail _ hx)
    ·exact ih _ (U7 hZ n M (mZ D y) hM (hr y (.head _))) fun x hx=>hr x (.tail _ hx)
  exact key (bO ls p) (S.set p true) (fun i hi=>by
   rcases zF _ _ _ hi with e|h
   ·rw [e];exact h2
   ·exact h1 i h) (hZ p h2)
end
theorem aEa (s:List Bool)(e:Ed):GW s (vU s e):=by
 unfold vU;split
 ·exact (M3 s _).trans (M3 _ _)
 ·exact GW.refl s
theorem yO (m:List Ed)(s:List Bool):∀ {i j:Nat},i≤j→GW (nB m s i) (nB m s j)
 |i,0,h=>by rw [show i=0 by omega];exact GW.refl _
 |i,j+1,h=>by
  by_cases e:i=j+1
  ·rw [e];exact GW.refl _
  ·exact (yO m s (show i≤j by omega)).trans (aEa _ _)
theorem CL (l:List Pt)(m:List Ed):∀ k,(nB m (dQ l m k) m.length=dQ l m k)∨gQ (dQ l m k)+k≤gQ (dQ l m 0)
 |0=>.inr (Nat.le_refl _)
 |k+1=>by
  rcases CL l m k with h|h
  ·left;have:dQ l m (k+1)=dQ l m k:=h;rw [this];exact h
  ·have hl:=uP m (dQ l m k) m.length;obtain⟨c1,c2⟩:=XD hl (yO m (dQ l m k) (Nat.zero_le _));by_cases e:gQ (nB m (dQ l m k) m.length)=gQ (dQ l m k)
   ·left;have:dQ l m (k+1)=dQ l m k:=c2 e;rw [this];exact c2 e
   ·right;show gQ (nB m (dQ l m k) m.length)+(k+1)≤_;have c1':gQ (nB m (dQ l m k) m.length)≤gQ (dQ l m k):=c1;omega
theorem aFr {n:Nat}(h:1≤n):gQ (mP n)+1≤n:=by
 have h1:=tR n;have h2:gQ (mP n)≤(mP n).length:=List.countP_le_length;rcases Nat.lt_or_ge (gQ (mP n)) n with h3|h3
 ·omega
 ·exfalso;have h4:cG (mP n) 0=true:=by
   unfold mP cG;rw [List.getD_eq_getElem?_getD,List.getElem?_map,List.getElem?_range (by omega)];rfl
  have h5:gQ (mP n)=(mP n).length:=(by omega);have h6:=(List.countP_eq_length.1 h5) _ (List.getElem_mem (l:=mP n) (n:=0) (by omega));rw [qX (by omega)] at h4;rw [h4] at h6;cases h6
section
variable {l:List Pt}{m:List Ed}{n:Int}
theorem aHf (hok:cX l m n=true):P5 l m=KV l m:=by
 obtain⟨hM,h3,h1l,h4,h6,_,_⟩:=iI hok;have hdt:∀ {i:Nat},i<2*m.length→0≤(bY (aR l m m.length) i).fr∧(bY (aR l m m.length) i).fr<l.length∧0≤(bY (aR l m m.length) i).tt∧(bY (aR l m m.length) i).tt<l.length:=fun {i} hi=>by
  have:=mM (l:=l) hM hi;omega
 have hls:∀ q,∀ x∈bO (outs l m) q,∃ i:Nat,i<2*m.length∧x=i∧(bY (aR l m m.length) i).fr.toNat=q∧q<l.length:=fun q x hx=>by
  by_cases hq:q<l.length
  ·obtain⟨i,a,b,c⟩:=(j1 hok hq).1 hx;exact⟨i,a,b,c,hq⟩
  ·exfalso;unfold bO at hx;rw [List.getD_eq_getElem?_getD,List.getElem?_eq_none (by rw [fF];omega)] at hx;cases hx
 have hL:∀ q,∀ x∈bO (outs l m) q,mZ (aR l m m.length) x<l.length:=fun q x hx=>by
  obtain⟨i,a,b,_,_⟩:=hls q x hx;have:=hdt a;unfold mZ;rw [b,Int.toNat_natCast];omega
 have hS0:∀ i,cG (List.replicate (outs l m).length false) i=false:=fun i=>by
  unfold cG;rw [List.getD_eq_getElem?_getD,List.getElem?_replicate];split <;> rfl
 have hcnt:gQ (List.replicate (outs l m).length false)≤1000:=by
  have:gQ (List.replicate (outs l m).length false)≤(List.replicate (outs l m).length false).length:=List.countP_le_length;have e:=fF l m;rw [List.length_replicate] at this;omega
 obtain⟨v1,v2,v3⟩:=KF (nP:=l.length) hL 1000 (List.replicate (outs l m).length false) 0 (by rw [List.length_replicate,fF]) (by omega) (hS0 0) hcnt;have hlen:(eX (aR l m m.length) (outs l m)).length=l.length:=by
  unfold eX;rw [(E0 _ _ _ _ _).2,List.length_replicate,fF]
 have hR:∀ q,cG (eX (aR l m m.length) (outs l m)) q=true→∀ x∈bO (outs l m) q,cG (eX (aR l m m.length) (outs l m)) (mZ (aR l m m.length) x)=true:=fun q hq x hx=>v3 q hq (hS0 q) x hx
 -- along an edge,both ways
 have hedge:∀ {e:Nat},e<m.length→(2*e:Nat)<2*m.length∧((2*e:Nat):Int)∈bO (outs l m) (cO m e).a.toNat∧mZ (aR l m m.length) ((2*e:Nat):Int)=(cO m e).b.toNat∧((2*e+1:Nat):Int)∈bO (outs l m) (cO m e).b.toNat∧mZ (aR l m m.length) ((2*e+1:Nat):Int)=(cO m e).a.toNat:=fun {e} he=>by
  obtain⟨d1,d2⟩:=GK l m he;have hE:=M6 hok he;refine⟨by omega,(j1 hok (by omega)).2 ⟨2*e,by omega,rfl,by rw [d1];rfl⟩,?_,(j1 hok (by omega)).2 ⟨2*e+1,by omega,rfl,by rw [d2];rfl⟩,?_⟩
  ·unfold mZ;rw [Int.toNat_natCast,d1];rfl
  ·unfold mZ;rw [Int.toNat_natCast,d2];rfl
 have hcR:∀ {e:Nat},e<m.length→(cG (eX (aR l m m.length) (outs l m)) (cO m e).a.toNat=true∨cG (eX (aR l m m.length) (outs l m)) (cO m e).b.toNat=true)→cG (eX (aR l m m.length) (outs l m)) (cO m e).a.toNat=true∧cG (eX (aR l m m.length) (outs l m)) (cO m e).b.toNat=true:=fun {e} he h=>by
  obtain⟨_,a1,a2,a3,a4⟩:=hedge he;rcases h with h|h
  ·exact⟨h,by rw [← a2];exact hR _ h _ a1⟩
  ·exact⟨by rw [← a4];exact hR _ h _ a3,h⟩
 -- the reference's lie in the program's
 have hsub:∀ k,GW (dQ l m k) (eX (aR l m m.length) (outs l m)):=by
  intro k
  induction k with
  |zero =>
   intro i hi;have:i=0:=by
    change cG (mP l.length) i=true at hi;by_cases hil:i<l.length
    ·unfold mP cG at hi;rw [List.getD_eq_getElem?_getD,List.getElem?_map,List.getElem?_range hil] at hi;simp at hi;exact hi
    ·rw [ZE (by rw [tR];omega)] at hi;cases hi
   rw [this];exact v2
  |succ k ih =>
   have key:∀ j,j≤m.length→GW (nB m (dQ l m k) j) (eX (aR l m m.length) (outs l m)):=by
    intro j
    induction j with
    |zero=>exact fun _=>ih
    |succ j jh =>
     intro hj i hi;have jh:=jh (by omega);unfold nB vU at hi;split at hi
     ·rename_i hc;have hc:=hcR (e:=j) (by omega) (by
       rcases Bool.or_eq_true_iff.1 hc with hc|hc
       ·exact .inl (jh _ hc)
       ·exact .inr (jh _ hc))
      rcases zF _ _ _ hi with e|hi
      ·rw [e];exact hc.2
      ·rcases zF _ _ _ hi with e|hi
       ·rw [e];exact hc.1
       ·exact jh _ hi
     ·exact jh _ hi
   exact key m.length (Nat.le_refl _)
 -- the program's lie in the reference's
 have hst:nB m (dQ l m l.length) m.length=dQ l m l.length:=by
  rcases CL l m l.length with h|h
  ·exact h
  ·exfalso;have:=aFr h1l;have h2:gQ (dQ l m l.length)+l.length≤gQ (mP l.length):=h;omega
 have hcC:∀ {e:Nat},e<m.length→(cG (dQ l m l.length) (cO m e).a.toNat=true∨cG (dQ l m l.length) (cO m e).b.toNat=true)→cG (dQ l m l.length) (cO m e).a.toNat=true∧cG (dQ l m l.length) (cO m e).b.toNat=true:=fun {e} he h=>by
  have hE:=M6 hok he;have h1:=yO m (dQ l m l.length) (Nat.zero_le e);have h2:=yO m (dQ l m l.length) (show e+1≤m.length by omega);rw [hst] at h2;have hlen':(nB m (dQ l m l.length) e).length=l.length:=(by rw [uP,yX]);have h3:nB m (dQ l m l.length) (e+1)=vU (nB m (dQ l m l.length) e) (cO m e):=rfl;have hc:(cG (nB m (dQ l m l.length) e) (cO m e).a.toNat || cG (nB m (dQ l m l.length) e) (cO m e).b.toNat)=true:=by
   rcases h with h|h
   ·rw [h1 _ h];rfl
   ·rw [h1 _ h,Bool.or_true]
  rw [h3,vU,if_pos hc] at h2;exact⟨h2 _ (by rw [oO _ _ _ _ (by rw [List.length_set];omega)];split <;> first|rfl|rw [oO _ _ _ _ (by omega),if_pos rfl]),h2 _ (by rw [oO _ _ _ _ (by rw [List.length_set];omega),if_pos rfl])⟩
 have hsup:GW (eX (aR l m m.length) (outs l m)) (dQ l m l.length):=by
  refine U7 (Z:=fun i=>cG (dQ l m l.length) i=true) (fun q hq x hx=>?_) 1000 _ 0 (fun i hi=>by rw [hS0] at hi;cases hi) ?_
  ·obtain⟨i,a,b,c,d⟩:=hls q x hx;rw [b];show cG (dQ l m l.length) (mZ (aR l m m.length) (i:Int))=true;unfold mZ;rw [Int.toNat_natCast];rcases mV (l:=l) (m:=m) a with ⟨_,h⟩|⟨_,h⟩
   ·rw [h] at c ⊢;exact (hcC (e:=i / 2) (by omega) (.inl (by rw [show (cO m (i / 2)).a.toNat=q from c];exact hq))).2
   ·rw [h] at c ⊢;exact (hcC (e:=i / 2) (by omega) (.inr (by rw [show (cO m (i / 2)).b.toNat=q from c];exact hq))).1
  ·have h0:GW (dQ l m 0) (dQ l m l.length):=by
    have:∀ k,GW (dQ l m 0) (dQ l m k):=by
     intro k
     induction k with
     |zero=>exact GW.refl _
     |succ k ih=>exact ih.trans (yO m (dQ l m k) (Nat.zero_le _))
    exact this _
   refine h0 0 ?_;show cG (mP l.length) 0=true;unfold mP cG;rw [List.getD_eq_getElem?_getD,List.getElem?_map,List.getElem?_range (by omega)];rfl
 have hall:∀ {S:List Bool},S.length=l.length→(S.all id=true↔∀ i,i<l.length→cG S i=true):=fun {S} hS=>by
  rw [List.all_eq_true];constructor
  ·intro h i hi;rw [qX (by omega)];exact h _ (List.getElem_mem _)
  ·intro h b hb;obtain⟨i,hi,rfl⟩:=List.getElem_of_mem hb;rw [← qX hi];exact h i (by omega)
 unfold P5 KV;rw [Bool.eq_iff_iff,hall hlen,hall (yX l m _)];exact⟨fun h i hi=>hsup i (h i hi),fun h i hi=>hsub _ i (h i hi)⟩
theorem aCV (l:List Pt)(m:List Ed)(n:Int):cF l m n=IJ l m n:=by
 unfold cF IJ;cases hp:gG l m n with
 |false=>rfl
 |true=>rw [aHf (mW hp),aFb hp]
end
end Go.Aw
end
