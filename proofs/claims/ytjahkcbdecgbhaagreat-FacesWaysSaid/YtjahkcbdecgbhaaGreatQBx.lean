/-
  FacesWays No condition.
-/
import Derived.Test.YtjahkcbdecgbhaaGreatQBq
import Derived.Test.YtjahkcbdecgbhaaGreatQBr
import Derived.Test.YtjahkcbdecgbhaaGreatQBv
import Derived.Test.YtjahkcbdecgbhaaGreatQBw
set_option linter.unusedSimpArgs false
set_option linter.unusedVariables false
noncomputable section
namespace Go.Aw
set_option maxRecDepth 100000
section
variable {m:List Ed}{n b:Int}{T:Nat}
open Classical in
theorem J9 (hTn:(T:Int)=n+1)(hE:HJ m n){now S:List Int}{v:Int}(hv:0<v)(hS:S.length=T)(hnow:∀ t,t<now.length→(0≤aD now t∧aD now t<T)∧aD S (aD now t).toNat=v):∀ i,i≤now.length→(fS m b now (S,[]) i).1.length=T∧(∀ g:Nat,g<T→aD (fS m b now (S,[]) i).1 g=if aD S g=0∧HW m b (fun f=>∃ t,t<i∧aD now t=f) g then v+1 else aD S g)∧∀ x:Int,x∈(fS m b now (S,[]) i).2↔(0≤x∧x<T∧aD S x.toNat=0∧HW m b (fun f=>∃ t,t<i∧aD now t=f) x)
 |0,_=>⟨hS,fun g hg=>by rw [if_neg (by rintro ⟨_,f,⟨t,h,_⟩,_⟩;omega)];rfl,fun x=>⟨fun h=>(by cases h),fun h=>(by obtain⟨_,_,_,f,⟨t,h,_⟩,_⟩:=h;omega)⟩⟩
 |i+1,hi=>by
  obtain⟨h1,h2,h3⟩:=J9 hTn hE hv hS hnow i (by omega);obtain⟨hf,hfv⟩:=hnow i (by omega);have hcase:∀ g:Int,HW m b (fun f=>∃ t,t<i+1∧aD now t=f) g↔(HW m b (fun f=>∃ t,t<i∧aD now t=f) g∨(¬ (aD now i=0∧aD now i≠b)∧g∈dS m (aD now i))):=fun g=>by
   constructor
   ·rintro ⟨f,⟨t,ht,e⟩,a4,a5⟩;by_cases ht2:t=i
    ·subst ht2;subst e;exact .inr ⟨a4,a5⟩
    exact .inl ⟨f,⟨t,by omega,e⟩,a4,a5⟩
   rintro (⟨f,⟨t,ht,e⟩,a4,a5⟩|⟨a4,a5⟩)
   ·exact⟨f,⟨t,by omega,e⟩,a4,a5⟩
   exact⟨_,⟨i,by omega,rfl⟩,a4,a5⟩
  unfold fS;by_cases hc:aD now i=0∧aD now i≠b
  ·rw [if_pos hc];have hiff:∀ g:Int,HW m b (fun f=>∃ t,t<i+1∧aD now t=f) g↔HW m b (fun f=>∃ t,t<i∧aD now t=f) g:=fun g=>by
    rw [hcase];exact⟨fun h=>h.elim id fun h=>absurd hc h.1,.inl⟩
   refine⟨h1,fun g hg=>?_,fun x=>?_⟩
   ·rw [h2 g hg];have:=hiff g;by_cases hr:aD S g=0∧HW m b (fun f=>∃ t,t<i∧aD now t=f) g
    ·rw [if_pos hr,if_pos ⟨hr.1,this.2 hr.2⟩]
    rw [if_neg hr,if_neg (fun h=>hr ⟨h.1,this.1 h.2⟩)]
   rw [h3 x,hiff x]
  rw [if_neg hc];have hfs:=h2 (aD now i).toNat (by omega);rw [hfv,if_neg (fun h=>by omega)] at hfs;obtain⟨c1,c2,c3⟩:=JY (T:=T) (dS m (aD now i)) (aD now i) v hv (fS m b now (S,[]) i) h1 hf hfs (fun k hk=>by have:=gU hE hk;omega) _ (Nat.le_refl _);have hme:∀ x:Int,(∃ t,t<(dS m (aD now i)).length∧aD (dS m (aD now i)) t=x)↔x∈dS m (aD now i):=fun x=>xX;refine⟨c1,fun g hg=>?_,fun x=>?_⟩
  ·have c2g:=c2 g hg;have h2g:=h2 g hg;have hmg:=hme g;have hcg:=hcase g;generalize aD (fS m b now (S,[]) i).1 g=V at *;by_cases hS0:aD S g=0
   ·by_cases hr:HW m b (fun f=>∃ t,t<i∧aD now t=f) g
    ·rw [if_pos ⟨hS0,hr⟩] at h2g;rw [if_neg (fun h=>by omega)] at c2g;rw [if_pos ⟨hS0,hcg.2 (.inl hr)⟩];omega
    rw [if_neg (fun h=>hr h.2)] at h2g;by_cases hx:(g:Int)∈dS m (aD now i)
    ·rw [if_pos ⟨by omega,hmg.2 hx⟩] at c2g;rw [if_pos ⟨hS0,hcg.2 (.inr ⟨hc,hx⟩)⟩];exact c2g
    rw [if_neg (fun h=>hx (hmg.1 h.2))] at c2g;rw [if_neg (fun h=>(hcg.1 h.2).elim hr fun h=>hx h.2)];omega
   rw [if_neg (fun h=>hS0 h.1)] at h2g;rw [if_neg (fun h=>by omega)] at c2g;rw [if_neg (fun h=>hS0 h.1)];omega
  rw [c3 x,h3 x,hme x,hcase x];constructor
  ·rintro (⟨a1,a2,a3,a4⟩|⟨a1,a2,a3,a4⟩)
   ·exact⟨a1,a2,a3,.inl a4⟩
   have h2g:=h2 x.toNat (by omega);rw [a3] at h2g;by_cases hr:aD S x.toNat=0∧HW m b (fun f=>∃ t,t<i∧aD now t=f) x.toNat
   ·rw [if_pos hr] at h2g;omega
   rw [if_neg hr] at h2g;exact⟨a1,a2,h2g.symm,.inr ⟨hc,a4⟩⟩
  rintro ⟨a1,a2,a3,a4⟩;by_cases hr:HW m b (fun f=>∃ t,t<i∧aD now t=f) x
  ·exact .inl ⟨a1,a2,a3,hr⟩
  ·rcases a4 with a4|⟨_,a4⟩
   ·exact absurd a4 hr
   refine .inr ⟨a1,a2,?_,a4⟩;rw [h2 x.toNat (by omega),if_neg (by rw [Int.toNat_of_nonneg a1];exact fun h=>hr h.2)];exact a3
def uE (m:List Ed)(n b:Int):Nat→DP
 |0=>w0 n b
 |k+1=>H9 m b (uE m n b k)
theorem VE (hT:(n+1).toNat=T)(hTn:(T:Int)=n+1)(hE:HJ m n)(hb:0≤b∧b<T):∀ k:Nat,(uE m n b k).1.length=T∧(∀ g:Nat,g<T→aD (uE m n b k).1 g=aD (fJ m n b k) g+1)∧∀ x:Int,x∈(uE m n b k).2↔(0≤x∧x<T∧aD (fJ m n b k) x.toNat=k)
 |0=>by
  have h0:=(P9 (m:=m) hT hb).2;have hl:((List.replicate (n+1).toNat (0:Int)).set b.toNat 1).length=T:=(by rw [List.length_set,List.length_replicate,hT]);refine⟨hl,fun g hg=>?_,fun x=>?_⟩
  ·rw [h0 g hg];show aD ((List.replicate (n+1).toNat 0).set b.toNat 1) g=_;rw [mZ,List.length_replicate,hT];have:aD (List.replicate T (0:Int)) g=0:=by
    unfold aD;rw [List.getD_eq_getElem?_getD,List.getElem?_replicate];split <;> rfl
   rw [hT] at *;rw [this];by_cases h:b.toNat=g
   ·rw [if_pos ⟨h,by omega⟩,if_pos (by omega)];rfl
   rw [if_neg (fun h'=>h h'.1),if_neg (by omega)];rfl
  show x∈[b]↔_;rw [List.mem_singleton];constructor
  ·intro e;rw [e,h0 b.toNat (by omega),if_pos (by omega)];exact⟨hb.1,hb.2,rfl⟩
  rintro ⟨a1,a2,a3⟩;rw [h0 x.toNat (by omega)] at a3;split at a3
  ·omega
  omega
 |k+1=>by
  obtain⟨h1,h2,h3⟩:=VE hT hTn hE hb k;have hs:=(J5 hT hTn hE (G9 hT hTn hE hb k)).2;have hr:=fun {g:Nat} (hg:g<T)=>J1 hT hTn hE hb hg k;obtain⟨c1,c2,c3⟩:=J9 (m:=m) (b:=b) (now:=(uE m n b k).2) (S:=(uE m n b k).1) (v:=k+1) hTn hE (by omega) h1 (fun t ht=>by
   obtain⟨a1,a2,a3⟩:=(h3 _).1 (D8 ht);exact⟨⟨a1,a2⟩,by rw [h2 _ (by omega),a3]⟩) _ (Nat.le_refl _)
  have hme:∀ x:Int,(∃ t,t<(uE m n b k).2.length∧aD (uE m n b k).2 t=x)↔(0≤x∧x<T∧aD (fJ m n b k) x.toNat=k):=fun x=>xX.trans (h3 x);have hR:∀ g:Int,HW m b (fun f=>∃ t,t<(uE m n b k).2.length∧aD (uE m n b k).2 t=f) g↔HW m b (fun f=>0≤f∧f<T∧aD (fJ m n b k) f.toNat=k) g:=fun g =>
   ⟨fun ⟨f,a,c,d⟩=>⟨f,(hme f).1 a,c,d⟩,fun ⟨f,a,c,d⟩=>⟨f,(hme f).2 a,c,d⟩⟩
  have hit:uE m n b (k+1)=fS m b (uE m n b k).2 ((uE m n b k).1,[]) (uE m n b k).2.length:=rfl;rw [hit];refine⟨c1,fun g hg=>?_,fun x=>?_⟩
  ·have c2g:=c2 g hg;have hsg:=hs g hg;have hg2:=h2 g hg;have hrg:=hr hg;by_cases hc:aD (fJ m n b k) g<0∧HW m b (fun f=>0≤f∧f<T∧aD (fJ m n b k) f.toNat=k) g
   ·rw [if_pos hc] at hsg;rw [if_pos ⟨by omega,(hR g).2 hc.2⟩] at c2g;rw [c2g,hsg]
   rw [if_neg hc] at hsg;rw [if_neg (fun h=>hc ⟨by omega,(hR g).1 h.2⟩)] at c2g;rw [c2g,hsg,hg2]
  rw [c3 x];constructor
  ·rintro ⟨a1,a2,a3,a4⟩;refine⟨a1,a2,?_⟩;have hg2:=h2 x.toNat (by omega);rw [hs x.toNat (by omega),if_pos ⟨by omega,by rw [Int.toNat_of_nonneg a1];exact (hR x).1 a4⟩];omega
  rintro ⟨a1,a2,a3⟩;refine⟨a1,a2,?_⟩;have hg2:=h2 x.toNat (by omega);have hrg:=hr (g:=x.toNat) (by omega);have hsg:=hs x.toNat (by omega);by_cases hc:aD (fJ m n b k) x.toNat<0∧HW m b (fun f=>0≤f∧f<T∧aD (fJ m n b k) f.toNat=k) x.toNat
  ·rw [Int.toNat_of_nonneg a1] at hc;exact⟨by omega,(hR x).2 hc.2⟩
  rw [if_neg hc] at hsg;omega
theorem TL (hT:(n+1).toNat=T)(hTn:(T:Int)=n+1)(hE:HJ m n)(hb:0≤b∧b<T):∀ k,YP T n (uE m n b k)
 |0=>(aCV hT (by omega) ⟨hb.1,by omega⟩).1
 |k+1=>WL hTn hE (TL hT hTn hE hb k)
theorem VN (hT:(n+1).toNat=T)(hTn:(T:Int)=n+1)(hE:HJ m n)(hb:0≤b∧b<T)(a:Int):∀ k K,RY (uE m n b K)≤k→∃ K',LH m a b k (uE m n b K)=uE m n b K'∧oQ a (uE m n b K')=true
 |0,K,h=>by
  refine⟨K,rfl,?_⟩;unfold RY at h;split at h
  ·rename_i e;unfold oQ;rw [decide_eq_true e];rfl
  omega
 |k+1,K,h=>by
  cases hs:oQ a (uE m n b K) with
  |true=>exact⟨K,B5 hs _,hs⟩
  |false =>
   rw [XN hs];have hne:(uE m n b K).2≠[]:=fun e=>(by unfold oQ at hs;rw [decide_eq_true e] at hs;cases hs);have:=aCt (b:=b) hTn hE (TL hT hTn hE hb K) hne;exact VN hT hTn hE hb a k (K+1) (by show RY (H9 m b (uE m n b K))≤k;omega)
theorem aE6 {S F:List Int}{f:Int}{nb:List Int}(hp:∀ t,t<nb.length→0≤aD nb t)(he:∀ t,t<nb.length→N5 S f b (aD nb t)=VJ F f b (aD nb t))(hg:0≤A0 F f b nb nb.length):DI S f b nb=some (A0 F f b nb nb.length):=by
 rcases E8 (F:=F) (f:=f) (b:=b) hp nb.length (Nat.le_refl _) with ⟨e,_⟩|⟨t,ht,e1,e2,e3⟩
 ·omega
 rw [e1];exact D2 ht (fun i hi=>by rw [he i (by omega)];exact e3 i hi) (by rw [he t ht];exact e2)
end
section
variable {l:List Pt}{m:List Ed}{n b:Int}
theorem aIb (ho:c9 l m n=true){a:Int}(ha:0≤a∧a≤n)(hb:0≤b∧b≤n):TK m n a b=if aD (fF m n b) a.toNat<0 then none else some (yW m (fF m n b) b ((n+1).toNat+1) a [a]):=by
 obtain⟨hTn,hE,hb2⟩:=oT ho hb;have hn:=C4 ho;obtain⟨T,hT⟩:∃ T:Nat,(n+1).toNat=T:=⟨_,rfl⟩;have hgd:=fun {f:Int} (h1:0≤f∧f≤n) (h2:f≠b) (h3:0≤aD (fF m n b) f.toNat)=>aBm ho hb h1 h2 h3;rw [hT] at hTn hb2;obtain⟨K,hK,hstop⟩:=VN hT hTn hE hb2 a (2*T) 0 (aCV hT (by omega) hb).2;have hwF:wF m n a b=uE m n b K:=(by unfold wF;rw [hT];exact hK);obtain⟨r1,r2,r3⟩:=VE hT hTn hE hb2 K;have hok:=TL hT hTn hE hb2 K;have hF:fF m n b=fJ m n b T:=(by unfold fF;rw [hT]);unfold TK;rw [hwF,hT];rw [hF] at hgd ⊢
 -- what is reached by round K stays so
 have hkeep:∀ x:Nat,x<T→0≤aD (fJ m n b K) x→aD (fJ m n b T) x=aD (fJ m n b K) x:=fun x hx h0=>by
  have hle:=(hok.rng x hx).2;rw [r2 x hx] at hle;by_cases hKT:K≤T
  ·obtain⟨d,rfl⟩:∃ d,T=K+d:=⟨T - K,by omega⟩;rcases uF hT hTn hE hb2 hx K d with h|⟨h,_⟩
   ·exact h
   omega
  obtain⟨d,rfl⟩:∃ d,K=T+d:=⟨K - T,by omega⟩;rcases uF hT hTn hE hb2 hx T d with h|⟨h,h'⟩
  ·exact h.symm
  omega
 have hnew:∀ x:Nat,x<T→aD (fJ m n b K) x<0→aD (fJ m n b T) x<0∨(K:Int)<aD (fJ m n b T) x:=fun x hx h0=>by
  by_cases hKT:K≤T
  ·obtain⟨d,rfl⟩:∃ d,T=K+d:=⟨T - K,by omega⟩;rcases uF hT hTn hE hb2 hx K d with h|⟨_,h⟩
   ·exact .inl (by omega)
   exact .inr h
  obtain⟨d,rfl⟩:∃ d,K=T+d:=⟨K - T,by omega⟩;rcases uF hT hTn hE hb2 hx T d with h|⟨h,_⟩
  ·exact .inl (by omega)
  exact .inl h
 by_cases hs0:aD (uE m n b K).1 a.toNat=0
 ·rw [if_pos hs0];have hnil:(uE m n b K).2=[]:=by
   unfold oQ at hstop;simp only [Bool.or_eq_true,decide_eq_true_eq] at hstop;exact hstop.resolve_right fun h=>h hs0
  have hsame:∀ d:Nat,∀ x:Nat,x<T→aD (fJ m n b (K+d)) x=aD (fJ m n b K) x:=fun d=>by
   induction d with
   |zero=>intro x _;rfl
   |succ d ih =>
    intro x hx;have hs:=(J5 hT hTn hE (G9 hT hTn hE hb2 (K+d))).2 x hx;have e:fJ m n b (K+(d+1))=fJ m n b (K+d+1):=rfl;rw [e,hs,if_neg]
    ·exact ih x hx
    rintro ⟨_,f,⟨f1,f2,f3⟩,_⟩;have h1:=ih f.toNat (by omega);have h2:=J1 hT hTn hE hb2 (g:=f.toNat) (by omega) K;have h3:f∈(uE m n b K).2:=(r3 f).2 ⟨f1,f2,by omega⟩;rw [hnil] at h3;cases h3
  have ha2:aD (fJ m n b K) a.toNat<0:=(by have:=r2 a.toNat (by omega);omega);have haT:aD (fJ m n b T) a.toNat<0:=by
   by_cases hKT:K≤T
   ·obtain⟨d,hd⟩:∃ d,T=K+d:=⟨T - K,by omega⟩;have:=hsame d a.toNat (by omega);rw [← hd] at this;omega
   obtain⟨d,hd⟩:∃ d,K=T+d:=⟨K - T,by omega⟩;rcases uF hT hTn hE hb2 (g:=a.toNat) (by omega) T d with h|⟨h,_⟩
   ·rw [← hd] at h;omega
   exact h
  rw [if_pos haT]
 rw [if_neg hs0];have ha2:0≤aD (fJ m n b K) a.toNat:=by
  have h1:=r2 a.toNat (by omega);have h2:=J1 hT hTn hE hb2 (g:=a.toNat) (by omega) K;omega
 have haT:=hkeep a.toNat (by omega) ha2;rw [if_neg (by omega)];have hpath:∀ k:Nat,∀ f:Int,∀ out:List Int,0≤f→f≤n→0≤aD (fJ m n b K) f.toNat→aD (fJ m n b K) f.toNat+1≤k→nO m (uE m n b K).1 b k f out=some (yW m (fJ m n b T) b k f out):=fun k=>by
  induction k with
  |zero=>intro f out h0 h1 h2 h3;omega
  |succ k ih =>
   intro f out h0 h1 h2 h3;have hkf:=hkeep f.toNat (by omega) h2;by_cases hfb:f=b
   ·unfold nO yW;rw [if_pos hfb,if_pos hfb]
   obtain⟨g1,g2,g3,g4⟩:=hgd ⟨h0,h1⟩ hfb (by omega);have hfr:=J1 hT hTn hE hb2 (g:=f.toNat) (by omega) K;have hrf:=r2 f.toNat (by omega);have hw:=aE6 (S:=(uE m n b K).1) (F:=fJ m n b T) (f:=f) (b:=b) (nb:=dS m f) (fun t ht=>(gU hE ht).1) (fun t ht=>by
    obtain⟨t1,t2⟩:=gU hE ht;have hrx:=r2 (aD (dS m f) t).toNat (by omega);have hx:(aD (uE m n b K).1 (aD (dS m f) t).toNat=aD (uE m n b K).1 f.toNat - 1∧0<aD (uE m n b K).1 (aD (dS m f) t).toNat)↔aD (fJ m n b T) (aD (dS m f) t).toNat=aD (fJ m n b T) f.toNat - 1:=by
     by_cases h:0≤aD (fJ m n b K) (aD (dS m f) t).toNat
     ·have:=hkeep _ (by omega) h;constructor
      ·intro h;omega
      intro h;omega
     have:=hnew (aD (dS m f) t).toNat (by omega) (by omega);constructor
     ·intro h;omega
     intro h;omega
    unfold N5 VJ;rw [← Bool.and_assoc];congr 1;rw [Bool.eq_iff_iff];simp only [Bool.and_eq_true,decide_eq_true_eq];exact hx) g1.1
   have e1:nO m (uE m n b K).1 b (k+1) f out=(match DI (uE m n b K).1 f b (dS m f) with|some g=>nO m (uE m n b K).1 b k g (out++[g])|none=>none):=NS hfb;have e2:yW m (fJ m n b T) b (k+1) f out=yW m (fJ m n b T) b k (A0 (fJ m n b T) f b (dS m f) (dS m f).length) (out++[A0 (fJ m n b T) f b (dS m f) (dS m f).length]):=by
    show (if _ then _ else _)=_;rw [if_neg hfb]
   rw [e1,e2,hw];show nO m (uE m n b K).1 b k _ _=_;generalize A0 (fJ m n b T) f b (dS m f) (dS m f).length=g at *;have hgK:0≤aD (fJ m n b K) g.toNat∧aD (fJ m n b K) g.toNat+1≤k:=by
    by_cases h:0≤aD (fJ m n b K) g.toNat
    ·have:=hkeep g.toNat (by omega) h;omega
    have:=hnew g.toNat (by omega) (by omega);omega
   exact ih g _ g1.1 g1.2 hgK.1 hgK.2
 refine hpath (T+1) a [a] ha.1 ha.2 ha2 ?_;have:=(hok.rng a.toNat (by omega)).2;have:=r2 a.toNat (by omega);omega
theorem aDr (ho:c9 l m n=true)(a:Int):SR m n a b=rwL m n a b∧S8 m n a b=rwE m n a b:=by
 unfold SR rwL S8 rwE;by_cases h:(sU n a&&sU n b)=true
 ·rw [if_pos h,if_pos h,if_pos h,if_pos h];simp only [sU,Bool.and_eq_true,decide_eq_true_eq] at h;rw [aIb ho h.1 h.2];split <;> exact⟨rfl,rfl⟩
 rw [if_neg h,if_neg h,if_neg h,if_neg h];exact⟨rfl,rfl⟩
end
end Go.Aw
end

noncomputable section
namespace Go.Aw
set_option maxRecDepth 100000
set_option maxHeartbeats 2000000
theorem OR {m:List Ed}{F:List Int}{b:Int}:∀ (k:Nat) (f:Int) (out:List Int),(yW m F b k f out).length≤out.length+k
 |0,f,out=>Nat.le_refl _
 |k+1,f,out=>by
  unfold yW;split
  ·omega
  have:=OR (m:=m) (F:=F) (b:=b) k (A0 F f b (dS m f) (dS m f).length) (out++[A0 F f b (dS m f) (dS m f).length]);rw [List.length_append,List.length_singleton] at this;omega
theorem aFe {m:List Ed}{n a b:Int}(hn:n≤100):(rwL m n a b).length≤1000:=by
 unfold rwL;split
 ·split
  ·exact Nat.zero_le _
  have:=OR (m:=m) (F:=fF m n b) (b:=b) ((n+1).toNat+1) a [a];rw [List.length_singleton] at this;omega
 exact Nat.zero_le _
theorem w10 (l:List Pt)(m:List Ed)(n:Int)(c1 c2:Nat)(a b:Int):body [aAA,X16,aDO,aH0,aIK] 10 [aG l.length m.length c1 c2 n,iv a,iv b] (aB aT aW l m) 2 (fun v _ _=>v=.bool true):=by
 (conv=>whnf);refine⟨l,m,aJ aT rfl,aJ aW rfl,?_⟩;((conv=>whnf);apply bm<;>intro h1)
 ·(conv=>whnf)
 have hlm:l.length≤1000∧m.length≤1000:=aBM h1;have hsm:=smB hlm;obtain⟨O,hO⟩:∃ O,(if c9 l m n=true then rwL m n a b else [])=O:=⟨_,rfl⟩;obtain⟨E,hEE⟩:∃ E,(if c9 l m n=true then rwE m n a b else 1)=E:=⟨_,rfl⟩;have hOl:O.length≤1000000:=by
  rw [← hO];split
  ·rename_i ho;have:=aFe (m:=m) (a:=a) (b:=b) (C4 ho).2;omega
  exact Nat.zero_le _
 have h43:wyP l m n [iv a,iv b]=some (decide (l.length≤1000)&&decide (m.length≤1000),O,some E):=by
  show some (_,(if c9 l m n=true then SR m n a b else []),some (if c9 l m n=true then S8 m n a b else 1))=_;rw [← hO,← hEE];by_cases ho:c9 l m n=true
  ·obtain⟨e1,e2⟩:=aDr (b:=b) ho a;rw [if_pos ho,if_pos ho,if_pos ho,if_pos ho,e1,e2]
  rw [if_neg ho,if_neg ho,if_neg ho,if_neg ho]
 have h44:rwP l m n [iv a,iv b]=some (decide (l.length≤1000)&&decide (m.length≤1000),O,some E):=by
  show some (_,(if c9 l m n=true then rwL m n a b else []),some (if c9 l m n=true then rwE m n a b else 1))=_;rw [hO,hEE]
 clear hO hEE;have hsame:smI O O=true:=decide_eq_true rfl;(conv=>whnf);refine⟨_,_,_,[iv a,iv b],l,m,rfl,aJ aT rfl,aJ aW rfl,?_⟩;rw [h43];refine aM hsm ?_;cases O with
 |nil =>
  (conv=>whnf);refine⟨_,_,_,[iv a,iv b],l,m,rfl,aJ aT rfl,aJ aW rfl,?_⟩;rw [h44];refine aM hsm ?_
  repeat' (((conv=>whnf);apply bm<;>intro g))
  all_goals (conv=>whnf)
  all_goals first
   |(exfalso;simp [aA,aC] at g;done)
   |(refine⟨[],[],⟨rfl,rfl,rfl⟩,⟨rfl,rfl,rfl⟩,?_⟩
     refine aM (decide_eq_true hOl) ?_;rw [hsame];(conv=>whnf))
 |cons x t =>
  (conv=>whnf);refine⟨_,_,_,[iv a,iv b],l,m,rfl,aJ aT rfl,aJ aW rfl,?_⟩;rw [h44];refine aM hsm ?_
  repeat' (((conv=>whnf);apply bm<;>intro g))
  all_goals (conv=>whnf)
  all_goals first
   |(exfalso;simp [aA,aC] at g;done)
   |(refine⟨x::t,x::t,aJ aP rfl,aJ aP rfl,?_⟩
     refine aM (decide_eq_true hOl) ?_;rw [hsame];(conv=>whnf))
end Go.Aw
end

noncomputable section
namespace Go.Proofs.YtjahkcbdecgbhaaGreat
open Go.ChangeShapes Go.WideShapes Go.ChangeAt Go.RowKit Go.Aw Go.Joins
set_option maxRecDepth 100000 in
theorem QP (os:Os)(started:os.Started)(H:Type)(enc:TypeId × Value→H) :
  ReturnsInHanded {} Tryz.checked os 10 .any (Rows.facesWaysSpec.pre6 enc Tryz.prog Tryz.f10 Rows.facesWaysRow.domain false) (Rows.facesWaysSpec.post enc Tryz.prog Tryz.f10 false true false false):=by
 refine returnsInHanded_of_change (C:=Tryz.checked) Tryz.own started (by kernel_rfl) Tryz.func10
  (ChangeSpec.witness6 (enc:=enc) (C:=Tryz.checked) false ⟨#[],#[.agg #[.slice none 0 0,.slice none 0 0,.int .i64 0],.int .i64 0,.int .i64 0],[]⟩ 3 (by kernel_rfl) (by kernel_rfl) (by kernel_rfl) (by kernel_rfl)) ?_
 intro W base args ds gs before hval0 hW hcnd _;have hval:∀ (j:Nat) t v,Tryz.f10.params[j]? = some t→args[j]? = some v→Value.okWide Tryz.prog W .any base t v:=hval0;have hW':=hW;obtain⟨p,q,hA0,hV,rfl,hfz,hnd⟩:=hW;have hA:DataW.TrodAll enc Tryz.prog W 0 (fun _=>true) true Tryz.f10.params.toList args.toList ds p:=hA0;rw [Tryz.params10] at hA hval;obtain⟨v0,v1,v2,d0,d1,d2,p0,p1,p2,rfl,rfl,rfl,h0,h1,h2⟩:=trodAll_three hA;obtain⟨rfl,rfl⟩:=trodVars_none hV;obtain⟨cs,rfl,hsz⟩:=okWide_struct Tryz.underlying25 (hval 0 25 v0 rfl rfl);have h0':=h0;obtain⟨fuel,hf0⟩:=h0';obtain⟨xs,fu,_,_,hlen,hxl,hf⟩:=DataW.trod_struct Tryz.underlying25 hf0;rw [Tryz.aFw] at hlen;have hcs:∃ a b c,cs.toList=[a,b,c]:=aJP hlen;obtain⟨a,b,c,hcs⟩:=hcs;have ecs:cs=#[a,b,c]:=Array.ext' hcs;subst ecs;obtain⟨x0,x1,x2,rfl⟩:=aJP hxl;obtain⟨l,c1,loc1,a1,a2,a3⟩:=JQ aT (by decide) Tryz.underlying22 Tryz.WZ aJg (show DataW.trod enc Tryz.prog W 0 (fun _=>true) true fu 22 [a]=some x0 by simpa [Tryz.aEB,Value.cells] using hf 0 _ rfl);obtain⟨m,c2,loc2,b1,b2,b3⟩:=JQ aW (by decide) Tryz.underlying23 Tryz.VL aKs (show DataW.trod enc Tryz.prog W 0 (fun _=>true) true fu 23 [b]=some x1 by simpa [Tryz.aEV,Value.cells] using hf 1 _ rfl);obtain⟨n,e1⟩:=lZ (show DataW.trod enc Tryz.prog W 0 (fun _=>true) true fu 3 [c]=some x2 by simpa [Tryz.tG,Value.cells] using hf 2 _ rfl);subst e1;obtain⟨z0,rfl⟩:=okWide_int Tryz.underlying3 (hval 1 3 v1 rfl rfl);obtain⟨z1,rfl⟩:=okWide_int Tryz.underlying3 (hval 2 3 v2 rfl rfl);clear hA0 hval0;simp only [List.append_nil,List.append_assoc] at hW';have hlt:∀ x∈p0++(p1++p2),x.block<W.heap.size:=fun x hx=>(by simpa using hW'.lt x hx);refine (N6 (r:=[iv z0,iv z1]) (.cons aMC (.cons x16 (.cons aLx (.cons aMh (.cons aMa .nil))))) rfl (w10 l m n c1 c2 z0 z1) rfl a1 b1 a2 b2 a3 b3).mono fun e W' ⟨he,hb⟩=>?_;subst he;refine⟨_,rfl,_,_,_,[],p0++(p1++p2),[],hW',trodAll_mk1 (aCJ true),?_,rfl,hb.frame _,fun h=>by cases h⟩;exact trodAll_mk3 (Below.trod Tryz.laidOut (by kernel_rfl) (of_decide_eq_true (by kernel_rfl)) h0 hb (fun x hx=>hlt x (List.mem_append.2 (.inl hx)))) (Below.trod Tryz.laidOut (by kernel_rfl) (of_decide_eq_true (by kernel_rfl)) h1 hb (fun x hx=>hlt x (List.mem_append.2 (.inr (List.mem_append.2 (.inl hx)))))) (Below.trod Tryz.laidOut (by kernel_rfl) (of_decide_eq_true (by kernel_rfl)) h2 hb (fun x hx=>hlt x (List.mem_append.2 (.inr (List.mem_append.2 (.inr hx))))))
set_option maxRecDepth 100000 in
theorem jf:joinedFacts Tryz.prog 10 Tryz.f10 Rows.facesWaysSpec Rows.facesWaysRow=true:=by
 unfold joinedFacts;exact (eP (eP (eP (eP (eP (eP (eP (eP (eP (eP (eP (eP (eP (eP (eP (eP (eP (eP (eP (eP (eP (eP (eP (eP (eP (eP (eP (eP (eP (eP (eP jf0 jf1) jf2) jf3) jf4) jf5) jf6) jf7) jf8) jf9) aLd) aMH) aLq) aLS) aMO) aM6) aMJ) aLM) aM5) aM9) aMN) aL7) aLT) aLt) aLG) aMz) aLw) aMM) (by kernel_rfl)) aMn) aM1) aLp)
theorem ways_holds:Rows.FacesWaysSaid :=
 OpenClaim.holds_of_wide 10 Tryz.f10 rfl rfl rfl rfl rfl rfl rfl ⟨rfl,rfl,rfl,rfl,rfl⟩ rfl rfl rfl rfl rfl (by kernel_rfl) Tryz.func10 jf
  (of_decide_eq_true (by kernel_rfl)) (by unfold Func.isWrapper;first|(rw [if_pos (by decide +kernel)];kernel_rfl)|(rw [if_neg (by decide +kernel)];exact⟨rfl,rfl⟩))
  (fun os started H enc _=>QP os started H enc)
#print axioms ways_holds
end Go.Proofs.YtjahkcbdecgbhaaGreat
end
