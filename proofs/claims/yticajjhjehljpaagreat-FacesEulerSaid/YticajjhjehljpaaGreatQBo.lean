/-
  Parts of a proof. No condition.
-/
import Derived.Test.YticajjhjehljpaaGreatQAo
import Derived.Test.YticajjhjehljpaaGreatQAp
import Derived.Test.YticajjhjehljpaaGreatQBn
set_option linter.unusedSimpArgs false
set_option linter.unusedVariables false
noncomputable section
namespace Go.Aw
set_option maxRecDepth 100000
section
variable {l:List Pt}{m:List Ed}{n:Int}
theorem NZ (hok:cL l m n=true):∀ d,d≤2*m.length→∀ i,i<2*m.length→0≤aH (bS l (aL l m m.length) (outs l m) d).face i∧aH (bS l (aL l m m.length) (outs l m) d).face i≤(bS l (aL l m m.length) (outs l m) d).many
 |0,_,i,hi=>by
  unfold bS aH;rw [List.getD_eq_getElem?_getD,List.getElem?_replicate,aY,if_pos hi];exact⟨Int.le_refl _,Int.le_refl _⟩
 |d+1,h,i,hi=>by
  have ih:=NZ hok d (by omega) i hi;have hinv:=lV l (aL l m m.length) (outs l m) d;rw [aY] at hinv;rw [show bS l (aL l m m.length) (outs l m) (d+1)=jC l (aL l m m.length) (outs l m) (bS l (aL l m m.length) (outs l m) d) d from rfl];generalize bS l (aL l m m.length) (outs l m) d=t at *;unfold jC;split
  ·exact ih
  ·simp only;have hin:=qB hok (d:=(d:Int)) (by omega) (by omega);have hr:∀ k,k<(nS (aL l m m.length) (outs l m) d).length→(aH (nS (aL l m m.length) (outs l m) d) k).toNat<t.face.length:=fun k hk=>by
    rw [hinv.1];rw [vO] at hk;rw [IN hk];have:=hin k;omega
   generalize nS (aL l m m.length) (outs l m) d=W at *;generalize GQ l (aL l m m.length) W W.length=A;have hs:=nM t.face W (if 0<A then t.many+1 else 0) hr i _ (Nat.le_refl _);by_cases hc:∃ k,k<W.length∧(aH W k).toNat=i
   ·rw [hs.1 hc];split <;> omega
   ·rw [hs.2 hc];split <;> omega
theorem uP (ho:cZ l m n=true){i:Nat}(hi:i<2*m.length):0≤aH (bX l m).face i∧aH (bX l m).face i≤n:=by
 have ho':=ho;simp only [cZ,iP,Bool.and_eq_true,decide_eq_true_eq] at ho';have:=NZ ho'.1.1 (2*m.length) (Nat.le_refl _) i hi;have e:bS l (aL l m m.length) (outs l m) (2*m.length)=bX l m:=(by unfold bX nmD;rw [aY]);rw [e,ho'.2.2.2.1] at this;exact this
theorem aEn (ho:cZ l m n=true):1≤n∧n≤100:=(fC (kD ho)).2.2.2.2.2
end
theorem J1 (D:List Dt)(ls:List (List Int))(d:Int)(a:Nat):∀ b,iY D ls (iY D ls d a) b=iY D ls d (a+b)
 |0=>rfl
 |b+1=>by
  show qV D ls (iY D ls (iY D ls d a) b)=qV D ls (iY D ls d (a+b));rw [J1 D ls d a b]
section
variable {l:List Pt}{m:List Ed}{n:Int}
structure Ow (l:List Pt) (m:List Ed) (t:K7):Prop where
 orb:∀ i j:Nat,i<2*m.length→j<2*m.length→cM t.seen i=true→cM t.seen j=true→aH t.face i=aH t.face j→(aH t.face i≠0∨(t.out≤1∧t.flat=false))→∃ k,iY (aL l m m.length) (outs l m) i k=j
 con:∀ i:Nat,i<2*m.length→cM t.seen i=true→aH t.face (qV (aL l m m.length) (outs l m) i).toNat=aH t.face i
 zer:∀ i:Nat,i<2*m.length→cM t.seen i=true→aH t.face i=0→1≤t.out∨t.flat=true
 rng:∀ i:Nat,i<2*m.length→aH t.face i≤t.many
theorem aCE (hok:cL l m n=true){t:K7}(h:Hs l m t)(o:Ow l m t)(hout:0≤t.out){d:Nat}(hd:d<2*m.length):Ow l m (jC l (aL l m m.length) (outs l m) t d):=by
 unfold jC;cases hs:cM t.seen d with
 |true=>rw [if_pos rfl];exact o
 |false =>
  rw [if_neg (by decide)];simp only;have hin:=qB hok (d:=(d:Int)) (by omega) (by omega);have hT:iY (aL l m m.length) (outs l m) d (gB (aL l m m.length) (outs l m) d)=d:=by
   have hw:=List.all_eq_true.1 (vK hok) d (List.mem_range.2 (by rw [aY];exact hd));exact of_decide_eq_true hw
  have hT1:1≤gB (aL l m m.length) (outs l m) d:=by
   have:=(gP (aL l m m.length) (outs l m) d (aL l m m.length).length 1).1;unfold gB;omega
  have hget:∀ k,k<gB (aL l m m.length) (outs l m) d→aH (nS (aL l m m.length) (outs l m) d) k=iY (aL l m m.length) (outs l m) d k:=fun k hk=>IN hk;have hlen:(nS (aL l m m.length) (outs l m) d).length=gB (aL l m m.length) (outs l m) d:=vO;generalize nS (aL l m m.length) (outs l m) d=W at hget hlen ⊢;generalize gB (aL l m m.length) (outs l m) d=T at *;have hr:∀ k,k<W.length→(aH W k).toNat<2*m.length:=fun k hk=>by
   rw [hget k (by omega)];have:=hin k;omega
  have hdis:∀ k,k<W.length→cM t.seen (aH W k).toNat=true→False:=fun k hk hsk=>by
   rw [hget k (by omega)] at hsk;have hf:∀ j,cM t.seen (iY (aL l m m.length) (outs l m) d (k+j)).toNat=true:=by
    intro j
    induction j with
    |zero=>exact hsk
    |succ j ih =>
     have hi:=hin (k+j);have:=h.cl (iY (aL l m m.length) (outs l m) d (k+j)).toNat (by omega) ih;rw [Int.toNat_of_nonneg hi.1] at this;exact this
   have:=hf (T - k);rw [show k+(T - k)=T by omega,hT,Int.toNat_natCast,hs] at this;cases this
  generalize GQ l (aL l m m.length) W W.length=A
  -- which darts lie in the walk
  have hsee:∀ i,cM (eN t.seen W W.length) i=true→(∃ k,k<W.length∧(aH W k).toNat=i)∨(cM t.seen i=true∧¬ ∃ k,k<W.length∧(aH W k).toNat=i):=fun i hi=>by
   by_cases e:∃ k,k<W.length∧(aH W k).toNat=i
   ·exact .inl e
   ·rw [(nH t.seen W (by rw [h.seen];exact hr) i _ (Nat.le_refl _)).2 e] at hi;exact .inr ⟨hi,e⟩
  have hnew:∀ (fc:Int) i,(∃ k,k<W.length∧(aH W k).toNat=i)→aH (eU t.face W fc W.length) i=fc:=fun fc i hi=>(nM t.face W fc (by rw [h.face];exact hr) i _ (Nat.le_refl _)).1 hi;have hold:∀ (fc:Int) i,(¬ ∃ k,k<W.length∧(aH W k).toNat=i)→aH (eU t.face W fc W.length) i=aH t.face i:=fun fc i hi=>(nM t.face W fc (by rw [h.face];exact hr) i _ (Nat.le_refl _)).2 hi;have hwi:∀ i:Nat,(∃ k,k<W.length∧(aH W k).toNat=i)→∃ k,k<T∧iY (aL l m m.length) (outs l m) d k=i:=fun i ⟨k,b1,b2⟩=>by
   refine⟨k,by omega,?_⟩;rw [hget k (by omega)] at b2;have:=hin k;omega
  have hiw:∀ k,k≤T→∃ q,q<W.length∧(aH W q).toNat=(iY (aL l m m.length) (outs l m) d k).toNat:=fun k hk=>by
   rcases Nat.lt_or_ge k T with hk2|hk2
   ·exact⟨k,by omega,by rw [hget k hk2]⟩
   ·refine⟨0,by omega,?_⟩;rw [hget 0 (by omega),show k=T by omega,hT];rfl
  have hmany:=h.low;refine⟨fun i j hi hj hsi hsj hf hc=>?_,fun i hi hsi=>?_,fun i hi hsi hz=>?_,fun i hi=>?_⟩
  ·rcases hsee i hsi with ei|⟨oi,ni⟩ <;> rcases hsee j hsj with ej|⟨oj,nj⟩
   ·obtain⟨a,a1,a2⟩:=hwi i ei;obtain⟨b,b1,b2⟩:=hwi j ej;refine⟨T - a+b,?_⟩;rw [← a2,J1,show a+(T - a+b)=T+b by omega,← J1,hT,b2]
   ·exfalso;simp only at hf hc;rw [hnew _ i ei] at hf hc;rw [hold _ j nj] at hf;have:=o.rng j hj;have hz:=o.zer j hj oj;by_cases hA:0<A
    ·rw [if_pos hA] at hf;omega
    ·rw [if_neg hA] at hf hc;simp only [if_neg hA] at hc;have hz:=hz hf.symm;rcases hc with hc|⟨c1,c2⟩
     ·exact hc rfl
     ·by_cases hA2:A<0
      ·rw [if_pos hA2] at c1 c2;rcases hz with hz|hz
       ·omega
       ·rw [hz] at c2;cases c2
      ·rw [if_neg hA2] at c2;cases c2
   ·exfalso;simp only at hf hc;rw [hnew _ j ej] at hf;rw [hold _ i ni] at hf hc;have:=o.rng i hi;have hz:=o.zer i hi oi;by_cases hA:0<A
    ·rw [if_pos hA] at hf;omega
    ·rw [if_neg hA] at hf;simp only [if_neg hA] at hc;have hz:=hz hf;rcases hc with hc|⟨c1,c2⟩
     ·exact hc hf
     ·by_cases hA2:A<0
      ·rw [if_pos hA2] at c1 c2;rcases hz with hz|hz
       ·omega
       ·rw [hz] at c2;cases c2
      ·rw [if_neg hA2] at c2;cases c2
   ·simp only at hf hc;rw [hold _ i ni] at hf hc;rw [hold _ j nj] at hf;refine o.orb i j hi hj oi oj hf ?_;rcases hc with hc|⟨c1,c2⟩
    ·exact .inl hc
    ·refine .inr ?_;by_cases hA:0<A
     ·rw [if_pos hA] at c1 c2;exact⟨c1,c2⟩
     ·rw [if_neg hA] at c1 c2;by_cases hA2:A<0
      ·rw [if_pos hA2] at c1 c2;exact⟨by omega,c2⟩
      ·rw [if_neg hA2] at c2;cases c2
  ·rcases hsee i hsi with ei|⟨oi,ni⟩
   ·have e1:=hnew (if 0<A then t.many+1 else 0) i ei;simp only;rw [e1];obtain⟨a,a1,a2⟩:=hwi i ei;refine hnew _ _ ?_;have:=hiw (a+1) (by omega);rw [show iY (aL l m m.length) (outs l m) d (a+1)=qV (aL l m m.length) (outs l m) i from by rw [← a2];rfl] at this;exact this
   ·simp only;rw [hold _ i ni,← o.con i hi oi];refine hold _ _ fun ⟨k,b1,b2⟩=>?_;have hc:=h.cl i hi oi;rw [← b2] at hc;exact hdis k b1 hc
  ·simp only at hz ⊢;rcases hsee i hsi with ei|⟨oi,ni⟩
   ·rw [hnew _ i ei] at hz;by_cases hA:0<A
    ·rw [if_pos hA] at hz;omega
    ·rw [if_neg hA,if_neg hA];by_cases hA2:A<0
     ·rw [if_pos hA2];exact .inl (by omega)
     ·rw [if_neg hA2,if_neg hA2];exact .inr rfl
   ·rw [hold _ i ni] at hz;have hz:=o.zer i hi oi hz;by_cases hA:0<A
    ·rw [if_pos hA,if_pos hA];exact hz
    ·rw [if_neg hA,if_neg hA];by_cases hA2:A<0
     ·rw [if_pos hA2,if_pos hA2];exact hz.imp (fun h=>by omega) id
     ·rw [if_neg hA2,if_neg hA2];exact .inr rfl
  ·simp only;by_cases ei:∃ k,k<W.length∧(aH W k).toNat=i
   ·rw [hnew _ i ei];split <;> omega
   ·rw [hold _ i ei];have:=o.rng i hi;split <;> omega
theorem QF (hok:cL l m n=true):∀ d,d≤2*m.length→Ow l m (bS l (aL l m m.length) (outs l m) d)
 |0,_=>by
  have hz:∀ i,cM (bS l (aL l m m.length) (outs l m) 0).seen i=true→False:=fun i h=>by
   unfold bS cM at h;rw [List.getD_eq_getElem?_getD,List.getElem?_replicate] at h;split at h <;> cases h
  refine⟨fun i j _ _ hs=>(hz i hs).elim,fun i _ hs=>(hz i hs).elim,fun i _ hs=>(hz i hs).elim,fun i hi=>?_⟩;unfold bS aH;rw [List.getD_eq_getElem?_getD,List.getElem?_replicate,aY,if_pos hi];exact Int.le_refl _
 |d+1,h=>aCE hok (PN hok d (by omega)) (QF hok d (by omega)) (lV l (aL l m m.length) (outs l m) d).2.2.2.2.1 (by omega)
theorem aB0 (ho:cZ l m n=true){f:Int}(h0:0≤f)(h1:f≤n){d:Nat}(hd:d<2*m.length):((d:Int)∈GI l m f↔aH (bX l m).face d=f):=by
 have ho':=ho;simp only [cZ,iP,Bool.and_eq_true,decide_eq_true_eq] at ho';obtain⟨⟨hok,hpl⟩,_,hn,hmn,_⟩:=ho';have hp:iP l m n=true:=(by simp only [cZ,Bool.and_eq_true] at ho;exact ho.1);have o:=QF hok (2*m.length) (Nat.le_refl _);have hsn:=(BS hp (2*m.length) (Nat.le_refl _)).2;have e:bS l (aL l m m.length) (outs l m) (2*m.length)=bX l m:=(by unfold bX nmD;rw [aY]);rw [e] at o hsn;simp only [vC,Bool.and_eq_true,decide_eq_true_eq,Bool.not_eq_true'] at hn;obtain⟨k,b1,b2,b3,b4⟩:=xN ho h0 h1;have hw:=List.all_eq_true.1 (vK hok) k (List.mem_range.2 (by rw [aY];exact b1));have hT:iY (aL l m m.length) (outs l m) k (gB (aL l m m.length) (outs l m) k)=k:=of_decide_eq_true hw;have hT1:1≤gB (aL l m m.length) (outs l m) k:=by
  have:=(gP (aL l m m.length) (outs l m) k (aL l m m.length).length 1).1;unfold gB;omega
 have hin:=qB hok (d:=(k:Int)) (by omega) (by omega);have hfw:GI l m f=nS (aL l m m.length) (outs l m) k:=(by unfold GI;rw [b4]);have hcon:∀ q,aH (bX l m).face (iY (aL l m m.length) (outs l m) k q).toNat=f:=by
  intro q
  induction q with
  |zero=>exact b2
  |succ q ih =>
   have hi:=hin q;have:=o.con (iY (aL l m m.length) (outs l m) k q).toNat (by omega) (hsn _ (by omega));rw [Int.toNat_of_nonneg hi.1,ih] at this;exact this
 rw [hfw];constructor
 ·intro hm;unfold nS at hm;obtain⟨q,_,hq⟩:=List.mem_map.1 hm;have:=hcon q;rw [hq,Int.toNat_natCast] at this;exact this
 ·intro hf;obtain⟨q,hq⟩:=o.orb k d b1 hd (hsn k b1) (hsn d hd) (by rw [b2,hf]) (.inr ⟨by omega,hn.2⟩);obtain⟨T,hTd⟩:∃ T,gB (aL l m m.length) (outs l m) k=T:=⟨_,rfl⟩;rw [hTd] at hT hT1;have hmod:iY (aL l m m.length) (outs l m) k (q % T)=d:=by
   have:∀ c,iY (aL l m m.length) (outs l m) k (T*c+q % T)=iY (aL l m m.length) (outs l m) k (q % T):=by
    intro c
    induction c with
    |zero=>rw [Nat.mul_zero,Nat.zero_add]
    |succ c ih =>
     rw [show T*(c+1)+q % T=T+(T*c+q % T) by rw [Nat.mul_succ];omega,← J1,hT];exact ih
   rw [← this (q / T),Nat.div_add_mod];exact hq
  have hlt:q % T<T:=Nat.mod_lt _ hT1;unfold nS;rw [hTd];exact List.mem_map.2 ⟨q % T,List.mem_range.2 hlt,hmod⟩
end
end Go.Aw
end

noncomputable section
namespace Go.Aw
abbrev Pq:=Int × Int
def XN (N x y:Int)(p q:Pq):Prop:=∃ α β:Int,0≤α∧0≤β∧α+β=N∧x=α*p.1+β*q.1∧y=α*p.2+β*q.2
def okP (e f:Pq × Pq):Prop:=∀ N x y:Int,0<N→XN N x y e.1 e.2→XN N x y f.1 f.2→∃ z:Pq,(z=e.1∨z=e.2)∧(z=f.1∨z=f.2)∧x=N*z.1∧y=N*z.2
theorem KN {N x y:Int}{p q:Pq}(h:XN N x y p q):XN N x y q p:=by
 obtain⟨α,β,h1,h2,h3,h4,h5⟩:=h;exact⟨β,α,h2,h1,by omega,by omega,by omega⟩
theorem EA {e f:Pq × Pq}(h:okP e f):okP f e:=fun N x y hN he hf=>by
 obtain⟨z,h1,h2,h3⟩:=h N x y hN hf he;exact⟨z,h2,h1,h3⟩
theorem RV {e f:Pq × Pq}(h:okP e f):okP (e.2,e.1) f:=fun N x y hN he hf=>by
 obtain⟨z,h1,h2,h3⟩:=h N x y hN (KN he) hf;exact⟨z,h1.symm,h2,h3⟩
def e3 (F:Int × Int × Int)(N x y:Int):Int:=F.1*N+F.2.1*x+F.2.2*y
theorem cO {a b:Int}(h:a*b=0):a=0∨b=0:=Int.mul_eq_zero.1 h
def pe:List Pq→List (Pq × Pq)
 |a::b::r=>(a,b)::pe (b::r)
 |_=>[]
def cl:List Pq→List (Pq × Pq)
 |[]=>[]
 |p::r=>pe (p::r++[p])
def cY (p q:Pq):Int:=p.1*q.2 - q.1*p.2
def aHX:List (Pq × Pq)→Int
 |[]=>0
 |e::r=>cY e.1 e.2+aHX r
def ar (P:List Pq):Int:=aHX (cl P)
theorem aDg (p q:Pq):cY p q = -cY q p:=by
 unfold cY;omega
def lxp (x y:Int):Prop:=0<x∨(x=0∧0<y)
def lx (p q:Pq):Prop:=lxp (q.1 - p.1) (q.2 - p.2)
theorem T2 {w a b:Pq}{N k:Int}(h0:0≤k)(h1:k≤N)(e1:N*(a.1 - w.1)=k*(b.1 - w.1))(e2:N*(a.2 - w.2)=k*(b.2 - w.2)):XN N (N*a.1) (N*a.2) w b :=
 ⟨N - k,k,by omega,h0,by omega,by grind,by grind⟩
def hd (L:List Pq)(z:Pq):Pq:=match L with
 |[]=>z
 |x::_=>x
def kE (f:Pq × Pq→Int):List (Pq × Pq)→Int
 |[]=>0
 |e::r=>f e+kE f r
def fs (f:Pq × Pq→Int)(P:List Pq):Int:=kE f (cl P)
theorem NY (f:Pq × Pq→Int):∀ (A B:List (Pq × Pq)),kE f (A++B)=kE f A+kE f B
 |[],B=>by simp [kE]
 |e::A,B=>by
  have:=NY f A B;simp only [List.cons_append,kE];omega
def rI (A B α:Int):Int:=if A≤0∧0<B then (if 0<α then 1 else 0) else if 0<A∧B≤0 then (if α<0 then -1 else 0) else 0
def vec (N:Int)(p a:Pq):Pq:=(N*a.1 - p.1,N*a.2 - p.2)
def wn (u:Pq)(N:Int)(p:Pq)(e:Pq × Pq):Int:=rI (cY u (vec N p e.1)) (cY u (vec N p e.2)) (cY (vec N p e.1) (vec N p e.2))
theorem AY (a:Int):0≤a*a:=by
 rcases Int.le_total 0 a with h|h
 ·exact Int.mul_nonneg h h
 ·exact Int.mul_nonneg_of_nonpos_of_nonpos h h
theorem sq_pos {x y:Int}(h:¬ (x=0∧y=0)):0<x*x+y*y:=by
 by_cases hx:x=0
 ·have hy:y≠0:=fun e=>h ⟨hx,e⟩;have:=AY x;have h2:0<y*y:=by
   rcases Int.lt_or_lt_of_ne hy with g|g
   ·exact Int.mul_pos_of_neg_of_neg g g
   ·exact Int.mul_pos g g
  omega
 ·have:=AY y;have h2:0<x*x:=by
   rcases Int.lt_or_lt_of_ne hx with g|g
   ·exact Int.mul_pos_of_neg_of_neg g g
   ·exact Int.mul_pos g g
  omega
def lf (f:Pq)(a z:Pq):Int:=f.1*(z.1 - a.1)+f.2*(z.2 - a.2)
def pos (f g a z:Pq):Prop:=lxp (lf f a z) (lf g a z)
theorem MO {s:Sg}(h:dJ s=true):∃ a b:Pq,((a=s.1∧b=s.2)∨(a=s.2∧b=s.1))∧key a<key b∧bH s=(a,b)∧aW a=true∧aW b=true:=by
 obtain⟨r1,r2,ns⟩:=l8 h;have nk:key s.1≠key s.2:=(DQ r1 r2).1 ((gJ _ _).2 ns);unfold bH;simp only [fW r1 r2,PM];by_cases hk:key s.2<key s.1
 ·rw [if_pos hk];exact⟨s.2,s.1,.inr ⟨rfl,rfl⟩,hk,rfl,r2,r1⟩
 ·rw [if_neg hk];exact⟨s.1,s.2,.inl ⟨rfl,rfl⟩,by omega,rfl,r1,r2⟩
theorem V8 {s t:Sg}(h:aT s.1 s.2 t.1=0∧aT s.1 s.2 t.2=0){a b c d:Pq}(hs:bH s=(a,b))(ht:bH t=(c,d))(ra:aW a=true)(rb:aW b=true)(rc:aW c=true)(rd:aW d=true) :
  kX s t=if (if key a<key c then key c else key a)<(if key d<key b then key d else key b) then 4 else if (if key a<key c then key c else key a)=(if key d<key b then key d else key b) then 1 else 0:=by
 unfold kX;rw [if_pos h];unfold IS xO;rw [hs,ht];simp only [fW ra rc,fW rd rb,QX];by_cases h1:key a<key c
 ·by_cases h2:key d<key b
  ·simp only [if_pos h1,if_pos h2];rw [fW rc rd,xG]
  ·simp only [if_pos h1,if_neg h2];rw [fW rc rb,xG]
 ·by_cases h2:key d<key b
  ·simp only [if_neg h1,if_pos h2];rw [fW ra rd,xG]
  ·simp only [if_neg h1,if_neg h2];rw [fW ra rb,xG]
theorem NK {N x y:Int}{s:Sg}{a b:Pq}(h:(a=s.1∧b=s.2)∨(a=s.2∧b=s.1)):XN N x y s.1 s.2↔XN N x y a b:=by
 rcases h with ⟨rfl,rfl⟩|⟨rfl,rfl⟩
 ·exact Iff.rfl
 ·exact⟨KN,KN⟩
theorem UA {N x y:Int}{a b:Pq}(h:XN N x y a b)(hk:key a≤key b):N*key a≤x*100000+y∧x*100000+y≤N*key b:=by
 obtain⟨α,β,h1,h2,h3,h4,h5⟩:=h;have e:x*100000+y=α*key a+β*key b:=by
  unfold key;rw [h4,h5]
  grind
 have m1:=Int.mul_le_mul_of_nonneg_left hk h1;have m2:=Int.mul_le_mul_of_nonneg_left hk h2;rw [e,← h3,Int.add_mul,Int.add_mul];omega
theorem S0 {N x y:Int}{a b:Pq}(h:XN N x y a b)(hk:key a<key b)(e:x*100000+y=N*key a):x=N*a.1∧y=N*a.2:=by
 obtain⟨α,β,h1,h2,h3,h4,h5⟩:=h;have e2:x*100000+y=α*key a+β*key b:=by
  unfold key;rw [h4,h5]
  grind
 rw [e,← h3,Int.add_mul] at e2;have e3:β*(key b - key a)=0:=(by rw [Int.mul_sub];omega);have hb:β=0:=(cO e3).resolve_right (by omega);subst hb;rw [Int.add_zero] at h3;subst h3;simp only [Int.zero_mul,Int.add_zero] at h4 h5;exact⟨h4,h5⟩
theorem OS {N x y:Int}{a b:Pq}(h:XN N x y a b)(hk:key a<key b)(e:x*100000+y=N*key b):x=N*b.1∧y=N*b.2:=by
 obtain⟨α,β,h1,h2,h3,h4,h5⟩:=h;have e2:x*100000+y=α*key a+β*key b:=by
  unfold key;rw [h4,h5]
  grind
 rw [e,← h3,Int.add_mul] at e2;have e3:α*(key b - key a)=0:=(by rw [Int.mul_sub];omega);have hb:α=0:=(cO e3).resolve_right (by omega);subst hb;rw [Int.zero_add] at h3;subst h3;simp only [Int.zero_mul,Int.zero_add] at h4 h5;exact⟨h4,h5⟩
theorem yN {N:Int}(hN:0<N){p q:Pq}(h1:N*p.1=N*q.1)(h2:N*p.2=N*q.2):p=q :=
 Prod.ext (Int.eq_of_mul_eq_mul_left (by omega) h1) (Int.eq_of_mul_eq_mul_left (by omega) h2)
theorem MQ {N x y α β:Int}{p q a b:Pq}(h3:α+β=N)(h4:x=α*p.1+β*q.1)(h5:y=α*p.2+β*q.2) :
  α*aV a b p+β*aV a b q=(b.1 - a.1)*(y - N*a.2) - (b.2 - a.2)*(x - N*a.1):=by
 subst h3 h4 h5;unfold aV
 grind
theorem HF {N x y:Int}{a b:Pq}(h:XN N x y a b):(b.1 - a.1)*(y - N*a.2) - (b.2 - a.2)*(x - N*a.1)=0:=by
 obtain⟨α,β,h1,h2,h3,h4,h5⟩:=h;subst h3 h4 h5
 grind
theorem OK (A B:Int):0<U5 A*U5 B↔0<A*B:=by
 unfold U5;by_cases a0:A<0
 ·by_cases b0:B<0
  ·have:=Int.mul_pos_of_neg_of_neg a0 b0;simp [a0,b0];omega
  ·by_cases b1:0<B
   ·have:=Int.mul_neg_of_neg_of_pos a0 b1;simp [a0,b0,b1];omega
   ·have:B=0:=(by omega);subst this;simp [a0]
 ·by_cases a1:0<A
  ·by_cases b0:B<0
   ·have:=Int.mul_neg_of_pos_of_neg a1 b0;simp [a0,a1,b0];omega
   ·by_cases b1:0<B
    ·have:=Int.mul_pos a1 b1;simp [a0,a1,b0,b1];omega
    ·have:B=0:=(by omega);subst this;simp [a0,a1]
  ·have:A=0:=(by omega);subst this;simp
theorem ME {γ δ A B N:Int}(h1:0≤γ)(h2:0≤δ)(h3:γ+δ=N)(hN:0<N)(h:γ*A+δ*B=0)(hp:0<A*B):False:=by
 rcases Int.lt_or_lt_of_ne (show A≠0 from fun e=>by rw [e,Int.zero_mul] at hp;omega) with hA|hA
 ·have hB:B<0:=Int.not_le.1 fun hB=>by
   have:=Int.mul_nonpos_of_nonpos_of_nonneg (show A≤0 by omega) hB;omega
  have m1:γ*A≤0:=Int.mul_nonpos_of_nonneg_of_nonpos h1 (by omega);have m2:δ*B≤0:=Int.mul_nonpos_of_nonneg_of_nonpos h2 (by omega);have g0:=(cO (show γ*A=0 by omega)).resolve_right (by omega);have d0:=(cO (show δ*B=0 by omega)).resolve_right (by omega);omega
 ·have hB:0<B:=Int.not_le.1 fun hB=>by
   have:=Int.mul_nonpos_of_nonneg_of_nonpos (show 0≤A by omega) hB;omega
  have m1:0≤γ*A:=Int.mul_nonneg h1 (by omega);have m2:0≤δ*B:=Int.mul_nonneg h2 (by omega);have g0:=(cO (show γ*A=0 by omega)).resolve_right (by omega);have d0:=(cO (show δ*B=0 by omega)).resolve_right (by omega);omega
theorem N2 {γ δ A B N x y:Int}{p q:Pq}(h3:γ+δ=N)(hx:x=γ*p.1+δ*q.1)(hy:y=γ*p.2+δ*q.2)(h:γ*A+δ*B=0)(h0:A=0∨B=0)(hn:¬ (A=0∧B=0)):∃ z:Pq,(z=p∨z=q)∧x=N*z.1∧y=N*z.2:=by
 rcases h0 with rfl|rfl
 ·have hd:=(cO (show δ*B=0 by omega)).resolve_right (fun e=>hn ⟨rfl,e⟩);subst hd;refine⟨p,.inl rfl,?_,?_⟩
  ·rw [hx,← h3];grind
  ·rw [hy,← h3];grind
 ·have hd:=(cO (show γ*A=0 by omega)).resolve_right (fun e=>hn ⟨e,rfl⟩);subst hd;refine⟨q,.inr rfl,?_,?_⟩
  ·rw [hx,← h3];grind
  ·rw [hy,← h3];grind
theorem aDk {s t:Sg}(hs:dJ s=true)(ht:dJ t=true)(h:kX s t=0∨kX s t=1):okP s t:=by
 intro N x y hN h1 h2;by_cases hl:aT s.1 s.2 t.1=0∧aT s.1 s.2 t.2=0
 ·obtain⟨a,b,eab,kab,esa,ra,rb⟩:=MO hs;obtain⟨c,d,ecd,kcd,esc,rc,rd⟩:=MO ht;rw [V8 hl esa esc ra rb rc rd] at h;have o1:=(NK eab).1 h1;have o2:=(NK ecd).1 h2;obtain⟨k1,k2⟩:=UA o1 (Int.le_of_lt kab);obtain⟨k3,k4⟩:=UA o2 (Int.le_of_lt kcd);have i1:key a≤key d:=Int.le_of_mul_le_mul_left (Int.le_trans k1 k4) hN;have i2:key c≤key b:=Int.le_of_mul_le_mul_left (Int.le_trans k3 k2) hN;have sa:a=s.1∨a=s.2:=eab.elim (fun e=>.inl e.1) (fun e=>.inr e.1);have sb:b=s.1∨b=s.2:=eab.elim (fun e=>.inr e.2) (fun e=>.inl e.2);have tc:c=t.1∨c=t.2:=ecd.elim (fun e=>.inl e.1) (fun e=>.inr e.1);have td:d=t.1∨d=t.2:=ecd.elim (fun e=>.inr e.2) (fun e=>.inl e.2);have q:key a=key d∨key c=key b:=by
   by_cases g1:key a<key c <;> by_cases g2:key d<key b <;> simp only [g1,g2,if_true,if_false] at h <;> split at h <;> (try split at h) <;> omega
  rcases q with q|q
  ·obtain⟨x1,y1⟩:=S0 o1 kab (by rw [q] at k1 ⊢;omega);obtain⟨x2,y2⟩:=OS o2 kcd (by rw [q] at k1;omega);have e:=yN hN (x1.symm.trans x2) (y1.symm.trans y2);exact⟨a,sa,by rw [e];exact td,x1,y1⟩
  ·obtain⟨x1,y1⟩:=OS o1 kab (by rw [q] at k3;omega);obtain⟨x2,y2⟩:=S0 o2 kcd (by rw [q] at k3 ⊢;omega);have e:=yN hN (x1.symm.trans x2) (y1.symm.trans y2);exact⟨b,sb,by rw [e];exact tc,x1,y1⟩
 ·have hl':¬ (aT t.1 t.2 s.1=0∧aT t.1 t.2 s.2=0):=fun g=>hl (zM s t (l8 ht).2.2 g);rw [kX,if_neg hl] at h;have c1:=HF h1;have c2:=HF h2;obtain⟨α,β,p1,p2,p3,p4,p5⟩:=h1;obtain⟨γ,δ,q1,q2,q3,q4,q5⟩:=h2;have m1:=MQ (a:=t.1) (b:=t.2) p3 p4 p5;have m2:=MQ (a:=s.1) (b:=s.2) q3 q4 q5;rw [c2] at m1;rw [c1] at m2;unfold L7 at h;by_cases g:0<aT s.1 s.2 t.1*aT s.1 s.2 t.2∨0<aT t.1 t.2 s.1*aT t.1 t.2 s.2
  ·exfalso;rcases g with g|g
   ·exact ME q1 q2 q3 hN m2 ((OK _ _).1 g)
   ·exact ME p1 p2 p3 hN m1 ((OK _ _).1 g)
  ·rw [if_neg g] at h;by_cases g2:(aT t.1 t.2 s.1=0∨aT t.1 t.2 s.2=0)∧(aT s.1 s.2 t.1=0∨aT s.1 s.2 t.2=0)
   ·simp only [lA] at g2 hl hl';obtain⟨z,z1,z2,z3⟩:=N2 p3 p4 p5 m1 g2.1 hl';obtain⟨w,w1,w2,w3⟩:=N2 q3 q4 q5 m2 g2.2 hl;have e:=yN hN (z2.symm.trans w2) (z3.symm.trans w3);exact⟨z,z1,by rw [e];exact w1,z2,z3⟩
   ·rw [if_neg g2] at h;split at h <;> omega
def O7 (A A':Int):Int:=if 0<A∧A'≤0 then 1 else 0
theorem aIM {A B A' B' C D:Int}(hD:0<D)(h:D*C=A*B' - B*A')(h0:C=0→(0<A↔0<B)∧(0<A'↔0<B')):rI A B C - rI A' B' C=O7 B B' - O7 A A':=by
 have k1:A≤0→0<B→A'≤0→B'≤0→0<C:=fun a b a' b'=>Int.not_le.1 fun hc=>by
  have m1:=Int.mul_nonneg_of_nonpos_of_nonpos a b';have m2:=Int.mul_nonpos_of_nonneg_of_nonpos (Int.le_of_lt b) a';have m3:=Int.mul_nonpos_of_nonneg_of_nonpos (Int.le_of_lt hD) hc;have:C=0:=(cO (show D*C=0 by omega)).resolve_left (by omega);have:=h0 this;omega
 have k2:A≤0→0<B→0<A'→0<B'→C<0:=fun a b a' b'=>Int.not_le.1 fun hc=>by
  have m1:=Int.mul_nonpos_of_nonpos_of_nonneg a (Int.le_of_lt b');have m2:=Int.mul_pos b a';have m3:=Int.mul_nonneg (Int.le_of_lt hD) hc;omega
 have k3:0<A→B≤0→A'≤0→B'≤0→C<0:=fun a b a' b'=>Int.not_le.1 fun hc=>by
  have m1:=Int.mul_nonpos_of_nonneg_of_nonpos (Int.le_of_lt a) b';have m2:=Int.mul_nonneg_of_nonpos_of_nonpos b a';have m3:=Int.mul_nonneg (Int.le_of_lt hD) hc;have:C=0:=(cO (show D*C=0 by omega)).resolve_left (by omega);have:=h0 this;omega
 have k4:0<A→B≤0→0<A'→0<B'→0<C:=fun a b a' b'=>Int.not_le.1 fun hc=>by
  have m1:=Int.mul_pos a b';have m2:=Int.mul_nonpos_of_nonpos_of_nonneg b (Int.le_of_lt a');have m3:=Int.mul_nonpos_of_nonneg_of_nonpos (Int.le_of_lt hD) hc;omega
 have k5:A≤0→B≤0→A'≤0→0<B'→C≤0:=fun a b a' b'=>Int.not_lt.1 fun hc=>by
  have m1:=Int.mul_nonpos_of_nonpos_of_nonneg a (Int.le_of_lt b');have m2:=Int.mul_nonneg_of_nonpos_of_nonpos b a';have m3:=Int.mul_pos hD hc;omega
 have k6:A≤0→B≤0→0<A'→B'≤0→0≤C:=fun a b a' b'=>Int.not_lt.1 fun hc=>by
  have m1:=Int.mul_nonneg_of_nonpos_of_nonpos a b';have m2:=Int.mul_nonpos_of_nonpos_of_nonneg b (Int.le_of_lt a');have m3:=Int.mul_neg_of_pos_of_neg hD hc;omega
 have k7:0<A→0<B→A'≤0→0<B'→0<C:=fun a b a' b'=>Int.not_le.1 fun hc=>by
  have m1:=Int.mul_pos a b';have m2:=Int.mul_nonpos_of_nonneg_of_nonpos (Int.le_of_lt b) a';have m3:=Int.mul_nonpos_of_nonneg_of_nonpos (Int.le_of_lt hD) hc;omega
 have k8:0<A→0<B→0<A'→B'≤0→C<0:=fun a b a' b'=>Int.not_le.1 fun hc=>by
  have m1:=Int.mul_nonpos_of_nonneg_of_nonpos (Int.le_of_lt a) b';have m2:=Int.mul_pos b a';have m3:=Int.mul_nonneg (Int.le_of_lt hD) hc;omega
 have k0:C=0∨C<0∨0<C:=(by omega);clear h;unfold rI O7
 by_cases a:0<A <;> by_cases b:0<B <;> by_cases a':0<A' <;> by_cases b':0<B' <;>
  simp only [a,b,a',b',← Int.not_lt,not_true_eq_false,not_false_eq_true,and_true,and_false,true_and,false_and,and_self,if_true,if_false,forall_const,true_implies,false_implies,iff_true,true_iff,iff_false,false_iff,imp_false] at*<;>
  (repeat' split) <;> omega
def aI6 (N:Int)(p:Pq)(e:Pq × Pq):Prop:=¬ ∃ M:Int,0<M∧XN (M*N) (M*p.1) (M*p.2) e.1 e.2
theorem NM {N:Int}(hN:0<N){p a b:Pq}(hoff:aI6 N p (a,b))(h0:cY (vec N p a) (vec N p b)=0)(u:Pq):(0<cY u (vec N p a)↔0<cY u (vec N p b)):=by
 -- the point is beyond both,on their line
 have key:¬ (vec N p a).1*(vec N p b).1+(vec N p a).2*(vec N p b).2≤0:=fun hle=>hoff (by
  by_cases ha:vec N p a=(0,0)
  ·refine⟨1,by decide,N,0,by omega,by decide,by omega,?_,?_⟩
   ·have:=congrArg Prod.fst ha;simp only [vec] at this;simp only;omega
   ·have:=congrArg Prod.snd ha;simp only [vec] at this;simp only;omega
  ·have hpos:0<(vec N p a).1*(vec N p a).1+(vec N p a).2*(vec N p a).2:=sq_pos fun g=>ha (Prod.ext g.1 g.2);generalize hS:(vec N p a).1*(vec N p a).1+(vec N p a).2*(vec N p a).2=S at hpos;generalize hk:(vec N p a).1*(vec N p b).1+(vec N p a).2*(vec N p b).2=k at hle;refine⟨S - k,by omega,N * -k,N*S,Int.mul_nonneg (by omega) (by omega),Int.mul_nonneg (by omega) (by omega),by rw [← Int.mul_add,Int.mul_comm,Int.sub_eq_add_neg,Int.add_comm],?_,?_⟩
   ·have e1:S*(vec N p b).1=k*(vec N p a).1:=by
     rw [← hS,← hk];unfold cY at h0;clear hoff hS hk;generalize (vec N p a).1=x1 at *;generalize (vec N p a).2=x2 at *;generalize (vec N p b).1=y1 at *;generalize (vec N p b).2=y2 at *
     grind
    simp only [vec] at e1;simp only;clear hS hk hoff h0
    grind
   ·have e1:S*(vec N p b).2=k*(vec N p a).2:=by
     rw [← hS,← hk];unfold cY at h0;clear hoff hS hk;generalize (vec N p a).1=x1 at *;generalize (vec N p a).2=x2 at *;generalize (vec N p b).1=y1 at *;generalize (vec N p b).2=y2 at *
     grind
    simp only [vec] at e1;simp only;clear hS hk hoff h0
    grind)
 have hk:0<(vec N p a).1*(vec N p b).1+(vec N p a).2*(vec N p b).2:=(by omega);generalize vec N p a=x at *;generalize vec N p b=y at *;have e:(x.1*y.1+x.2*y.2)*cY u x=(x.1*x.1+x.2*x.2)*cY u y:=by
  unfold cY at *;clear key hk
  grind
 have hx:0<x.1*x.1+x.2*x.2:=sq_pos fun g=>(by rw [g.1,g.2] at hk;simp at hk);constructor
 ·intro h;have:=Int.mul_pos hk h;exact Int.not_le.1 fun g=>by
   have:=Int.mul_nonpos_of_nonneg_of_nonpos (Int.le_of_lt hx) g;omega
 ·intro h;have:=Int.mul_pos hx h;exact Int.not_le.1 fun g=>by
   have:=Int.mul_nonpos_of_nonneg_of_nonpos (Int.le_of_lt hk) g;omega
end Go.Aw
end
