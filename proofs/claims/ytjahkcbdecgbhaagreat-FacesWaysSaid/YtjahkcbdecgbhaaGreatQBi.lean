/-
  Parts of a proof. No condition.
-/
import Derived.Test.YtjahkcbdecgbhaaGreatQBh
set_option linter.unusedSimpArgs false
set_option linter.unusedVariables false
noncomputable section
namespace Go.Aw
set_option maxRecDepth 100000
def GL (S T:List Bool):Prop:=∀ i,dD S i=true→dD T i=true
theorem GL.refl (S:List Bool):GL S S:=fun _ h=>h
theorem GL.trans {A B C:List Bool}(h1:GL A B)(h2:GL B C):GL A C:=fun i h=>h2 i (h1 i h)
theorem WO:∀ {S T:List Bool},T.length=S.length→GL S T→gO T≤gO S∧(gO T=gO S→T=S)
 |[],[],_,_=>⟨Nat.le_refl _,fun _=>rfl⟩
 |[],_::_,h,_=>by simp at h
 |_::_,[],h,_=>by simp at h
 |a::S,b::T,hl,h=>by
  obtain⟨i1,i2⟩:=WO (S:=S) (T:=T) (by simpa using hl) fun i hi=>h (i+1) hi;have h0:a=true→b=true:=h 0;unfold gO at *;simp only [List.countP_cons];cases a <;> cases b <;> simp at h0 ⊢
  ·exact⟨by omega,fun e=>i2 (by omega)⟩
  ·omega
  exact⟨i1,i2⟩
theorem aA9 {S:List Bool}{i:Nat}(h:S.length≤i):dD S i=false:=by
 unfold dD;rw [List.getD_eq_getElem?_getD,List.getElem?_eq_none h];rfl
theorem MH (S:List Bool)(p:Nat):GL S (S.set p true):=fun i hi=>by
 by_cases h:p<S.length
 ·rw [rC _ _ _ _ h];split
  ·rfl
  exact hi
 rw [List.set_eq_of_length_le (by omega)];exact hi
section
variable {D:List Dt}{ls:List (List Int)}{nP:Nat}
theorem JR (hL:∀ q,∀ x∈bR ls q,m6 D x<nP):∀ (n:Nat) (S:List Bool) (p:Nat),S.length=nP→p<nP→dD S p=false→gO S≤n →
  GL S (DW D ls n S p)∧dD (DW D ls n S p) p=true∧∀ q,dD (DW D ls n S p) q=true→dD S q=false→∀ x∈bR ls q,dD (DW D ls n S p) (m6 D x)=true
 |0,S,p,h1,h2,h3,h4=>by have:=XX (by omega) h3;omega
 |n+1,S,p,h1,h2,h3,h4=>by
  have hcs:=LQ (S:=S) (p:=p) (by omega) h3
  have key:∀ (L:List Int) (M:List Bool),M.length=nP→gO M≤n→(∀ x∈L,m6 D x<nP) →
    GL M (L.foldl (fun S x=>if dD S (m6 D x)=true then S else DW D ls n S (m6 D x)) M)∧(∀ x∈L,dD (L.foldl (fun S x=>if dD S (m6 D x)=true then S else DW D ls n S (m6 D x)) M) (m6 D x)=true) ∧
    ∀ q,dD (L.foldl (fun S x=>if dD S (m6 D x)=true then S else DW D ls n S (m6 D x)) M) q=true→dD M q=false→∀ x∈bR ls q,dD (L.foldl (fun S x=>if dD S (m6 D x)=true then S else DW D ls n S (m6 D x)) M) (m6 D x)=true:=by
   intro L
   induction L with
   |nil=>exact fun M _ _ _=>⟨GL.refl M,fun x hx=>(by cases hx),fun q hq hf=>by rw [List.foldl_nil] at hq;rw [hq] at hf;cases hf⟩
   |cons y r ih =>
    intro M hM hc hr;rw [List.foldl_cons];by_cases hy:dD M (m6 D y)=true
    ·rw [if_pos hy];obtain⟨k1,k2,k3⟩:=ih M hM hc fun x hx=>hr x (.tail _ hx);refine⟨k1,fun x hx=>?_,k3⟩;rcases List.mem_cons.1 hx with rfl|hx
     ·exact k1 _ hy
     exact k2 x hx
    rw [if_neg hy];have hyf:dD M (m6 D y)=false:=(by simpa using hy);obtain⟨v1,v2,v3⟩:=JR hL n M (m6 D y) hM (hr y (.head _)) hyf hc;obtain⟨c1,c2⟩:=H7 D ls n M (m6 D y);obtain⟨k1,k2,k3⟩:=ih (DW D ls n M (m6 D y)) (by omega) (by omega) fun x hx=>hr x (.tail _ hx);refine⟨v1.trans k1,fun x hx=>?_,fun q hq hf x hx=>?_⟩
    ·rcases List.mem_cons.1 hx with rfl|hx
     ·exact k1 _ v2
     exact k2 x hx
    ·cases hv:dD (DW D ls n M (m6 D y)) q with
     |true=>exact k1 _ (v3 q hv hf x hx)
     |false=>exact k3 q hq hv x hx
  obtain⟨k1,k2,k3⟩:=key (bR ls p) (S.set p true) (by rw [List.length_set];exact h1) (by omega) (hL p);have hp0:dD (S.set p true) p=true:=(by rw [rC _ _ _ _ (by omega),if_pos rfl]);show GL S ((bR ls p).foldl _ (S.set p true))∧dD ((bR ls p).foldl _ (S.set p true)) p=true∧∀ q,dD ((bR ls p).foldl _ (S.set p true)) q=true→_;refine⟨(MH S p).trans k1,k1 _ hp0,fun q hq hf x hx=>?_⟩;by_cases e:q=p
  ·rw [e] at hx;exact k2 x hx
  exact k3 q hq (by rw [rC _ _ _ _ (by omega),if_neg e];exact hf) x hx
theorem VX {Z:Nat→Prop}(hZ:∀ q,Z q→∀ x∈bR ls q,Z (m6 D x)):∀ (n:Nat) (S:List Bool) (p:Nat),(∀ i,dD S i=true→Z i)→Z p→∀ i,dD (DW D ls n S p) i=true→Z i
 |0,S,p,h1,h2=>h1
 |n+1,S,p,h1,h2=>by
  have key:∀ (L:List Int) (M:List Bool),(∀ i,dD M i=true→Z i)→(∀ x∈L,Z (m6 D x))→∀ i,dD (L.foldl (fun S x=>if dD S (m6 D x)=true then S else DW D ls n S (m6 D x)) M) i=true→Z i:=by
   intro L
   induction L with
   |nil=>exact fun M h _=>h
   |cons y r ih =>
    intro M hM hr;rw [List.foldl_cons];split
    ·exact ih M hM fun x hx=>hr x (.tail _ hx)
    exact ih _ (VX hZ n M (m6 D y) hM (hr y (.head _))) fun x hx=>hr x (.tail _ hx)
  exact key (bR ls p) (S.set p true) (fun i hi=>by
   rcases yR _ _ _ hi with e|h
   ·rw [e];exact h2
   exact h1 i h) (hZ p h2)
end
theorem aEI (s:List Bool)(e:Ed):GL s (wM s e):=by
 unfold wM;split
 ·exact (MH s _).trans (MH _ _)
 exact GL.refl s
theorem zI (m:List Ed)(s:List Bool):∀ {i j:Nat},i≤j→GL (m0 m s i) (m0 m s j)
 |i,0,h=>by rw [show i=0 by omega];exact GL.refl _
 |i,j+1,h=>by
  by_cases e:i=j+1
  ·rw [e];exact GL.refl _
  exact (zI m s (show i≤j by omega)).trans (aEI _ _)
theorem CM (l:List Pt)(m:List Ed):∀ k,(m0 m (dR l m k) m.length=dR l m k)∨gO (dR l m k)+k≤gO (dR l m 0)
 |0=>.inr (Nat.le_refl _)
 |k+1=>by
  rcases CM l m k with h|h
  ·left;have:dR l m (k+1)=dR l m k:=h;rw [this];exact h
  have hl:=uC m (dR l m k) m.length;obtain⟨c1,c2⟩:=WO hl (zI m (dR l m k) (Nat.zero_le _));by_cases e:gO (m0 m (dR l m k) m.length)=gO (dR l m k)
  ·left;have:dR l m (k+1)=dR l m k:=c2 e;rw [this];exact c2 e
  right;show gO (m0 m (dR l m k) m.length)+(k+1)≤_;have c1':gO (m0 m (dR l m k) m.length)≤gO (dR l m k):=c1;omega
theorem aEp {n:Nat}(h:1≤n):gO (mP n)+1≤n:=by
 have h1:=tO n;have h2:gO (mP n)≤(mP n).length:=List.countP_le_length;rcases Nat.lt_or_ge (gO (mP n)) n with h3|h3
 ·omega
 exfalso;have h4:dD (mP n) 0=true:=by
  unfold mP dD;rw [List.getD_eq_getElem?_getD,List.getElem?_map,List.getElem?_range (by omega)];rfl
 have h5:gO (mP n)=(mP n).length:=(by omega);have h6:=(List.countP_eq_length.1 h5) _ (List.getElem_mem (l:=mP n) (n:=0) (by omega));rw [rX (by omega)] at h4;rw [h4] at h6;cases h6
section
variable {l:List Pt}{m:List Ed}{n:Int}
theorem aIL (hok:dG l m n=true):QJ l m=NR l m:=by
 obtain⟨hM,h3,h1l,h4,h6,_,_⟩:=kW hok;have hdt:∀ {i:Nat},i<2*m.length→0≤(cB (bD l m m.length) i).fr∧(cB (bD l m m.length) i).fr<l.length∧0≤(cB (bD l m m.length) i).tt∧(cB (bD l m m.length) i).tt<l.length:=fun {i} hi=>by
  have:=mN (l:=l) hM hi;omega
 have hls:∀ q,∀ x∈bR (outs l m) q,∃ i:Nat,i<2*m.length∧x=i∧(cB (bD l m m.length) i).fr.toNat=q∧q<l.length:=fun q x hx=>by
  by_cases hq:q<l.length
  ·obtain⟨i,a,b,c⟩:=(j3 hok hq).1 hx;exact⟨i,a,b,c,hq⟩
  exfalso;unfold bR at hx;rw [List.getD_eq_getElem?_getD,List.getElem?_eq_none (by rw [gY];omega)] at hx;cases hx
 have hL:∀ q,∀ x∈bR (outs l m) q,m6 (bD l m m.length) x<l.length:=fun q x hx=>by
  obtain⟨i,a,b,_,_⟩:=hls q x hx;have:=hdt a;unfold m6;rw [b,Int.toNat_natCast];omega
 have hS0:∀ i,dD (List.replicate (outs l m).length false) i=false:=fun i=>by
  unfold dD;rw [List.getD_eq_getElem?_getD,List.getElem?_replicate];split <;> rfl
 have hcnt:gO (List.replicate (outs l m).length false)≤1000:=by
  have:gO (List.replicate (outs l m).length false)≤(List.replicate (outs l m).length false).length:=List.countP_le_length;have e:=gY l m;rw [List.length_replicate] at this;omega
 obtain⟨v1,v2,v3⟩:=JR (nP:=l.length) hL 1000 (List.replicate (outs l m).length false) 0 (by rw [List.length_replicate,gY]) (by omega) (hS0 0) hcnt;have hlen:(fB (bD l m m.length) (outs l m)).length=l.length:=by
  unfold fB;rw [(H7 _ _ _ _ _).2,List.length_replicate,gY]
 have hR:∀ q,dD (fB (bD l m m.length) (outs l m)) q=true→∀ x∈bR (outs l m) q,dD (fB (bD l m m.length) (outs l m)) (m6 (bD l m m.length) x)=true:=fun q hq x hx=>v3 q hq (hS0 q) x hx
 -- along an edge,both ways
 have hedge:∀ {e:Nat},e<m.length→(2*e:Nat)<2*m.length∧((2*e:Nat):Int)∈bR (outs l m) (cH m e).a.toNat∧m6 (bD l m m.length) ((2*e:Nat):Int)=(cH m e).b.toNat∧((2*e+1:Nat):Int)∈bR (outs l m) (cH m e).b.toNat∧m6 (bD l m m.length) ((2*e+1:Nat):Int)=(cH m e).a.toNat:=fun {e} he=>by
  obtain⟨d1,d2⟩:=GD l m he;have hE:=K6 hok he;refine⟨by omega,(j3 hok (by omega)).2 ⟨2*e,by omega,rfl,by rw [d1];rfl⟩,?_,(j3 hok (by omega)).2 ⟨2*e+1,by omega,rfl,by rw [d2];rfl⟩,?_⟩
  ·unfold m6;rw [Int.toNat_natCast,d1];rfl
  unfold m6;rw [Int.toNat_natCast,d2];rfl
 have hcR:∀ {e:Nat},e<m.length→(dD (fB (bD l m m.length) (outs l m)) (cH m e).a.toNat=true∨dD (fB (bD l m m.length) (outs l m)) (cH m e).b.toNat=true)→dD (fB (bD l m m.length) (outs l m)) (cH m e).a.toNat=true∧dD (fB (bD l m m.length) (outs l m)) (cH m e).b.toNat=true:=fun {e} he h=>by
  obtain⟨_,a1,a2,a3,a4⟩:=hedge he;rcases h with h|h
  ·exact⟨h,by rw [← a2];exact hR _ h _ a1⟩
  exact⟨by rw [← a4];exact hR _ h _ a3,h⟩
 -- the reference's lie in the program's
 have hsub:∀ k,GL (dR l m k) (fB (bD l m m.length) (outs l m)):=by
  intro k
  induction k with
  |zero =>
   intro i hi;have:i=0:=by
    change dD (mP l.length) i=true at hi;by_cases hil:i<l.length
    ·unfold mP dD at hi;rw [List.getD_eq_getElem?_getD,List.getElem?_map,List.getElem?_range hil] at hi;simp at hi;exact hi
    rw [aA9 (by rw [tO];omega)] at hi;cases hi
   rw [this];exact v2
  |succ k ih =>
   have key:∀ j,j≤m.length→GL (m0 m (dR l m k) j) (fB (bD l m m.length) (outs l m)):=by
    intro j
    induction j with
    |zero=>exact fun _=>ih
    |succ j jh =>
     intro hj i hi;have jh:=jh (by omega);unfold m0 wM at hi;split at hi
     ·rename_i hc;have hc:=hcR (e:=j) (by omega) (by
       rcases Bool.or_eq_true_iff.1 hc with hc|hc
       ·exact .inl (jh _ hc)
       exact .inr (jh _ hc))
      rcases yR _ _ _ hi with e|hi
      ·rw [e];exact hc.2
      ·rcases yR _ _ _ hi with e|hi
       ·rw [e];exact hc.1
       exact jh _ hi
     exact jh _ hi
   exact key m.length (Nat.le_refl _)
 -- the program's lie in the reference's
 have hst:m0 m (dR l m l.length) m.length=dR l m l.length:=by
  rcases CM l m l.length with h|h
  ·exact h
  exfalso;have:=aEp h1l;have h2:gO (dR l m l.length)+l.length≤gO (mP l.length):=h;omega
 have hcC:∀ {e:Nat},e<m.length→(dD (dR l m l.length) (cH m e).a.toNat=true∨dD (dR l m l.length) (cH m e).b.toNat=true)→dD (dR l m l.length) (cH m e).a.toNat=true∧dD (dR l m l.length) (cH m e).b.toNat=true:=fun {e} he h=>by
  have hE:=K6 hok he;have h1:=zI m (dR l m l.length) (Nat.zero_le e);have h2:=zI m (dR l m l.length) (show e+1≤m.length by omega);rw [hst] at h2;have hlen':(m0 m (dR l m l.length) e).length=l.length:=(by rw [uC,yQ]);have h3:m0 m (dR l m l.length) (e+1)=wM (m0 m (dR l m l.length) e) (cH m e):=rfl;have hc:(dD (m0 m (dR l m l.length) e) (cH m e).a.toNat || dD (m0 m (dR l m l.length) e) (cH m e).b.toNat)=true:=by
   rcases h with h|h
   ·rw [h1 _ h];rfl
   rw [h1 _ h,Bool.or_true]
  rw [h3,wM,if_pos hc] at h2;exact⟨h2 _ (by rw [rC _ _ _ _ (by rw [List.length_set];omega)];split <;> first|rfl|rw [rC _ _ _ _ (by omega),if_pos rfl]),h2 _ (by rw [rC _ _ _ _ (by rw [List.length_set];omega),if_pos rfl])⟩
 have hsup:GL (fB (bD l m m.length) (outs l m)) (dR l m l.length):=by
  refine VX (Z:=fun i=>dD (dR l m l.length) i=true) (fun q hq x hx=>?_) 1000 _ 0 (fun i hi=>by rw [hS0] at hi;cases hi) ?_
  ·obtain⟨i,a,b,c,d⟩:=hls q x hx;rw [b];show dD (dR l m l.length) (m6 (bD l m m.length) (i:Int))=true;unfold m6;rw [Int.toNat_natCast];rcases m9 (l:=l) (m:=m) a with ⟨_,h⟩|⟨_,h⟩
   ·rw [h] at c ⊢;exact (hcC (e:=i / 2) (by omega) (.inl (by rw [show (cH m (i / 2)).a.toNat=q from c];exact hq))).2
   rw [h] at c ⊢;exact (hcC (e:=i / 2) (by omega) (.inr (by rw [show (cH m (i / 2)).b.toNat=q from c];exact hq))).1
  have h0:GL (dR l m 0) (dR l m l.length):=by
   have:∀ k,GL (dR l m 0) (dR l m k):=by
    intro k
    induction k with
    |zero=>exact GL.refl _
    |succ k ih=>exact ih.trans (zI m (dR l m k) (Nat.zero_le _))
   exact this _
  refine h0 0 ?_;show dD (mP l.length) 0=true;unfold mP dD;rw [List.getD_eq_getElem?_getD,List.getElem?_map,List.getElem?_range (by omega)];rfl
 have hall:∀ {S:List Bool},S.length=l.length→(S.all id=true↔∀ i,i<l.length→dD S i=true):=fun {S} hS=>by
  rw [List.all_eq_true];constructor
  ·intro h i hi;rw [rX (by omega)];exact h _ (List.getElem_mem _)
  intro h b hb;obtain⟨i,hi,rfl⟩:=List.getElem_of_mem hb;rw [← rX hi];exact h i (by omega)
 unfold QJ NR;rw [Bool.eq_iff_iff,hall hlen,hall (yQ l m _)];exact⟨fun h i hi=>hsup i (h i hi),fun h i hi=>hsub _ i (h i hi)⟩
theorem aBC (l:List Pt)(m:List Ed)(n:Int):c9 l m n=IG l m n:=by
 unfold c9 IG;cases hp:iD l m n with
 |false=>rfl
 |true=>rw [aIL (nC hp),aED hp]
end
end Go.Aw
end
