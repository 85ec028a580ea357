/-
  Parts of a proof. No condition.
-/
import Derived.Test.YticajjhjehljpaaGreatQAi
import Derived.Test.YticajjhjehljpaaGreatQAk
import Derived.Test.YticajjhjehljpaaGreatQAm
set_option linter.unusedSimpArgs false
set_option linter.unusedVariables false
noncomputable section
namespace Go.Aw
theorem TR (L:List Int)(x:Nat)(v:Int)(i:Nat)(hx:x<L.length):aE (L.set x v) i=if i=x then v else aE L i:=by
 unfold aE;rw [List.getD_eq_getElem?_getD,List.getD_eq_getElem?_getD,List.getElem?_set];by_cases h:x=i
 ·subst h;simp [hx]
 rw [if_neg h,if_neg (fun e=>h e.symm)]
theorem GY {L:List Int}{x y:Nat}(hx:x<L.length)(hy:y<L.length)(i:Nat):aE (m9 L x y) i=if i=y then aE L x else if i=x then aE L y else aE L i:=by
 unfold m9;rw [TR _ _ _ _ (by rw [List.length_set];exact hy),TR _ _ _ _ hx]
theorem M3 {L:List Int}{a b:Nat}:∀ (n:Nat),a+n≤b→b+n≤L.length→∀ i,aE (pE L a b n) i=if a≤i∧i<a+n then aE L (i - a+b) else if b≤i∧i<b+n then aE L (i - b+a) else aE L i
 |0,_,_,i=>by
  rw [if_neg (by omega),if_neg (by omega)];rfl
 |n+1,h1,h2,i=>by
  have hl:=iH L a b n;have ih:=M3 (L:=L) (a:=a) (b:=b) n (by omega) (by omega);unfold pE;rw [GY (by omega) (by omega),ih,ih,ih];by_cases h3:i=b+n
  ·subst h3;rw [if_pos rfl,if_neg (by omega),if_neg (by omega),if_neg (by omega),if_pos (by omega)];congr 1;omega
  rw [if_neg h3];by_cases h4:i=a+n
  ·subst h4;rw [if_pos rfl,if_neg (by omega),if_neg (by omega),if_pos (by omega)];congr 1;omega
  rw [if_neg h4];by_cases h5:a≤i∧i<a+n
  ·rw [if_pos h5,if_pos (by omega)]
  rw [if_neg h5,if_neg (c:=a≤i∧i<a+(n+1)) (by omega)];by_cases h6:b≤i∧i<b+n
  ·rw [if_pos h6,if_pos (by omega)]
  rw [if_neg h6,if_neg (by omega)]
theorem L9 (m:Nat):∀ (k:Nat) (L:List Int) (i j:Nat),1≤i→1≤j→i≤m→m+j≤L.length→i+j≤k→∀ t,aE (jE m k L i j) t=if t<m - i then aE L t else if t<m - i+j then aE L (t - (m - i)+m) else if t<m+j then aE L (t - j) else aE L t
 |0,L,i,j,h1,h2,h3,h4,h5,t=>by omega
 |k+1,L,i,j,h1,h2,h3,h4,h5,t=>by
  unfold jE;by_cases e1:i=j
  ·rw [if_pos e1,M3 i (by omega) (by omega)];by_cases q1:t<m - i
   ·rw [if_pos q1,if_neg (by omega),if_neg (by omega)]
   rw [if_neg q1];by_cases q2:t<m - i+j
   ·rw [if_pos q2,if_pos (by omega)]
   rw [if_neg q2,if_neg (by omega)];by_cases q3:t<m+j
   ·rw [if_pos q3,if_pos (by omega)];congr 1;omega
   rw [if_neg q3,if_neg (by omega)]
  rw [if_neg e1];by_cases e2:j<i
  ·rw [if_pos e2,L9 m k _ (i - j) j (by omega) h2 (by omega) (by rw [iH];exact h4) (by omega) t];simp only [M3 (L:=L) (a:=m - i) (b:=m) j (by omega) (by omega)];by_cases q1:t<m - i
   ·rw [if_pos (by omega),if_neg (by omega),if_neg (by omega),if_pos q1]
   rw [if_neg q1];by_cases q2:t<m - i+j
   ·rw [if_pos (by omega),if_pos (by omega),if_pos q2]
   rw [if_neg q2];by_cases q3:t<m+j
   ·rw [if_pos q3,if_neg (by omega)];by_cases q4:t<m - (i - j)+j
    ·rw [if_pos q4,if_neg (by omega),if_pos (by omega)];rw [if_pos q3];exact congrArg (aE L) (by omega)
    rw [if_neg q4,if_pos q3,if_neg (by omega),if_neg (by omega)]
   rw [if_neg q3,if_neg (by omega),if_neg (by omega),if_neg q3,if_neg (by omega),if_neg (by omega)]
  rw [if_neg e2,L9 m k _ i (j - i) h1 (by omega) h3 (by rw [iH];omega) (by omega) t];simp only [M3 (L:=L) (a:=m - i) (b:=m+j - i) i (by omega) (by omega)];by_cases q1:t<m - i
  ·rw [if_pos q1,if_neg (by omega),if_neg (by omega),if_pos q1]
  rw [if_neg q1,if_neg q1];by_cases q2:t<m - i+j
  ·rw [if_pos q2];by_cases q5:t<m - i+(j - i)
   ·rw [if_pos q5,if_neg (by omega),if_neg (by omega)]
   rw [if_neg q5,if_pos (by omega),if_pos (by omega)];congr 1;omega
  rw [if_neg q2,if_neg (by omega),if_neg (by omega)];by_cases q3:t<m+j
  ·rw [if_pos q3,if_neg (by omega),if_pos (by omega)];congr 1;omega
  rw [if_neg q3,if_neg (by omega),if_neg (by omega)]
theorem R8 {L:List Int}{a:Nat}:∀ (n:Nat),a+n<L.length→∀ s,aE (swU L a n) s=if s<a then aE L s else if s<a+n then aE L (s+1) else if s=a+n then aE L a else aE L s
 |0,h,s=>by
  by_cases q1:s<a
  ·rw [if_pos q1];rfl
  rw [if_neg q1,if_neg (by omega)];by_cases q2:s=a
  ·rw [if_pos (by omega),q2];rfl
  rw [if_neg (by omega)];rfl
 |n+1,h,s=>by
  have hl:=(aBl L a n (by omega)).len;have ih:=R8 (L:=L) (a:=a) n (by omega);unfold swU;rw [GY (by omega) (by omega),ih,ih,ih];by_cases q1:s<a
  ·rw [if_neg (by omega),if_neg (by omega),if_pos q1,if_pos q1]
  rw [if_neg q1,if_neg q1];by_cases q2:s=a+n+1
  ·rw [if_pos q2,if_neg (by omega),if_neg (by omega),if_pos rfl,if_neg (by omega),if_pos (by omega)]
  rw [if_neg q2];by_cases q3:s=a+n
  ·rw [if_pos q3,if_neg (by omega),if_neg (by omega),if_neg (by omega),if_pos (by omega),q3]
  rw [if_neg q3];by_cases q4:s<a+n
  ·rw [if_pos q4,if_pos (by omega)]
  rw [if_neg q4,if_neg q3,if_neg (by omega),if_neg (by omega)]
theorem US {L:List Int}{m:Nat}(hm:m<L.length):∀ (n:Nat),n≤m→∀ s,aE (ZV L m n) s=if s<m - n then aE L s else if s=m - n then aE L m else if s≤m then aE L (s - 1) else aE L s
 |0,h,s=>by
  by_cases q1:s<m
  ·rw [if_pos (by omega)];rfl
  rw [if_neg (by omega)];by_cases q2:s=m
  ·rw [if_pos (by omega),q2];rfl
  rw [if_neg (by omega),if_neg (by omega)];rfl
 |n+1,h,s=>by
  have hl:=(aBK L m hm n).len;have ih:=US (L:=L) (m:=m) hm n (by omega);unfold ZV;rw [GY (by omega) (by omega),ih,ih,ih];by_cases q1:s=m - n - 1
  ·rw [if_pos q1,if_neg (by omega),if_pos rfl,if_neg (by omega),if_pos (by omega)]
  rw [if_neg q1];by_cases q2:s=m - n
  ·rw [if_pos q2,if_pos (by omega),if_neg (by omega),if_neg (by omega),if_pos (by omega)];congr 1;omega
  rw [if_neg q2];by_cases q3:s<m - n
  ·rw [if_pos q3,if_pos (by omega)]
  rw [if_neg q3,if_neg q2];by_cases q4:s≤m
  ·rw [if_pos q4,if_neg (by omega),if_neg (by omega)]
  rw [if_neg q4,if_neg (by omega),if_neg (by omega)]
theorem OF {f:Nat→Bool}:∀ {k i j:Nat},j - i≤k→(∀ s t,i≤s→s≤t→t<j→f s=true→f t=true)→(∀ t,i≤t→t<wL f k i j→f t=false)∧(∀ t,wL f k i j≤t→t<j→f t=true)
 |0,i,j,hk,hm=>by
  unfold wL;exact⟨fun t h1 h2=>by omega,fun t h1 h2=>by omega⟩
 |k+1,i,j,hk,hm=>by
  unfold wL;by_cases h1:i<j
  ·rw [if_pos h1];cases hf:f ((i+j) / 2) with
   |true =>
    rw [if_pos rfl];have ih:=OF (f:=f) (k:=k) (i:=i) (j:=(i+j) / 2) (by omega) fun s t a b c=>hm s t a b (by omega);refine⟨ih.1,fun t h2 h3=>?_⟩;by_cases h4:t<(i+j) / 2
    ·exact ih.2 t h2 h4
    exact hm _ _ (by omega) (by omega) h3 hf
   |false =>
    rw [if_neg (by decide)];have ih:=OF (f:=f) (k:=k) (i:=(i+j) / 2+1) (j:=j) (by omega) fun s t a b c=>hm s t (by omega) b c;refine⟨fun t h2 h3=>?_,ih.2⟩;by_cases h4:t≤(i+j) / 2
    ·cases hq:f t with
     |false=>rfl
     |true=>have:=hm t _ h2 h4 (by omega) hq;rw [hf] at this;cases this
    exact ih.1 t (by omega) h3
  rw [if_neg h1];exact⟨fun t h2 h3=>by omega,fun t h2 h3=>by omega⟩
structure uT (a b:Nat) (L M:List Int):Prop where
 len:M.length=L.length
 out:∀ t,t<a∨b≤t→aE M t=aE L t
 inn:∀ t,a≤t→t<b→∃ s,a≤s∧s<b∧aE M t=aE L s
theorem uT.refl (a b:Nat)(L:List Int):uT a b L L:=⟨rfl,fun _ _=>rfl,fun t h1 h2=>⟨t,h1,h2,rfl⟩⟩
theorem uT.trans {a b:Nat}{L M N:List Int}(h1:uT a b L M)(h2:uT a b M N):uT a b L N :=
 ⟨h2.len.trans h1.len,fun t h=>(h2.out t h).trans (h1.out t h),fun t q1 q2=>by
  obtain⟨s,s1,s2,s3⟩:=h2.inn t q1 q2;obtain⟨u,u1,u2,u3⟩:=h1.inn s s1 s2;exact⟨u,u1,u2,s3.trans u3⟩⟩
theorem uT.wide {a b c d:Nat}{L M:List Int}(h:uT c d L M)(h1:a≤c)(h2:d≤b):uT a b L M :=
 ⟨h.len,fun t q=>h.out t (by omega),fun t q1 q2=>by
  by_cases hc:c≤t∧t<d
  ·obtain⟨s,s1,s2,s3⟩:=h.inn t hc.1 hc.2;exact⟨s,by omega,by omega,s3⟩
  exact⟨t,q1,q2,h.out t (by omega)⟩⟩
theorem aG9 {L:List Int}{a b x y:Nat}(h1:a≤x)(h2:x<b)(h3:a≤y)(h4:y<b)(h5:b≤L.length):uT a b L (m9 L x y):=by
 have hx:=GY (L:=L) (x:=x) (y:=y) (by omega) (by omega);refine⟨iI _ _ _,fun t h=>?_,fun t q1 q2=>?_⟩
 ·rw [hx,if_neg (by omega),if_neg (by omega)]
 rw [hx];by_cases e1:t=y
 ·rw [if_pos e1];exact⟨x,h1,h2,rfl⟩
 rw [if_neg e1];by_cases e2:t=x
 ·rw [if_pos e2];exact⟨y,h3,h4,rfl⟩
 rw [if_neg e2];exact⟨t,q1,q2,rfl⟩
theorem XT {m k:Nat}{L:List Int}{i j a b:Nat}(h1:1≤i)(h2:1≤j)(h3:i≤m)(h4:m+j≤L.length)(h5:i+j≤k)(h6:a≤m - i)(h7:m+j≤b)(hl:(jE m k L i j).length=L.length):uT a b L (jE m k L i j):=by
 have hx:=L9 m k L i j h1 h2 h3 h4 h5;refine⟨hl,fun t h=>?_,fun t q1 q2=>?_⟩
 ·rw [hx];by_cases e1:t<m - i
  ·rw [if_pos e1]
  rw [if_neg e1,if_neg (by omega),if_neg (by omega)]
 rw [hx];by_cases e1:t<m - i
 ·rw [if_pos e1];exact⟨t,q1,q2,rfl⟩
 rw [if_neg e1];by_cases e2:t<m - i+j
 ·rw [if_pos e2];exact⟨_,by omega,by omega,rfl⟩
 rw [if_neg e2];by_cases e3:t<m+j
 ·rw [if_pos e3];exact⟨_,by omega,by omega,rfl⟩
 rw [if_neg e3];exact⟨t,q1,q2,rfl⟩
theorem aLS {L:List Int}{a b n:Nat}(h1:a+n<b)(h2:b≤L.length):uT a b L (swU L a n):=by
 have hx:=R8 (L:=L) (a:=a) n (by omega);refine⟨(aBl L a n (by omega)).len,fun t h=>?_,fun t q1 q2=>?_⟩
 ·rw [hx];by_cases e1:t<a
  ·rw [if_pos e1]
  rw [if_neg e1,if_neg (by omega),if_neg (by omega)]
 rw [hx,if_neg (by omega)];by_cases e2:t<a+n
 ·rw [if_pos e2];exact⟨_,by omega,by omega,rfl⟩
 rw [if_neg e2];by_cases e3:t=a+n
 ·rw [if_pos e3];exact⟨a,by omega,by omega,rfl⟩
 rw [if_neg e3];exact⟨t,q1,q2,rfl⟩
theorem aLj {L:List Int}{a b m n:Nat}(h1:a+n≤m)(h3:m<b)(h2:b≤L.length):uT a b L (ZV L m n):=by
 have hx:=US (L:=L) (m:=m) (by omega) n (by omega);refine⟨(aBK L m (by omega) n).len,fun t h=>?_,fun t q1 q2=>?_⟩
 ·rw [hx];by_cases e1:t<m - n
  ·rw [if_pos e1]
  rw [if_neg e1,if_neg (by omega),if_neg (by omega)]
 rw [hx];by_cases e1:t<m - n
 ·rw [if_pos e1];exact⟨t,q1,q2,rfl⟩
 rw [if_neg e1];by_cases e2:t=m - n
 ·rw [if_pos e2];exact⟨m,by omega,by omega,rfl⟩
 rw [if_neg e2];by_cases e3:t≤m
 ·rw [if_pos e3];exact⟨_,by omega,by omega,rfl⟩
 rw [if_neg e3];exact⟨t,q1,q2,rfl⟩
theorem uY (D:CW):∀ (k:Nat) (L:List Int) (a m b:Nat),a<m→m<b→b≤L.length→uT a b L (eT D k L a m b)
 |0,L,a,_,b,_,_,_=>.refl a b L
 |k+1,L,a,m,b,h1,h2,h3=>by
  unfold eT;split
  ·have:=lP (f:=fun h=>!(jH D (aE L h) (aE L a))) (k:=b - m) (i:=m) (j:=b) (by omega);exact aLS (by omega) h3
  split
  ·have:=lP (f:=fun h=>jH D (aE L m) (aE L h)) (k:=m - a) (i:=a) (j:=m) (by omega);exact aLj (by omega) (by omega) h3
  have lo:=z8 (D:=D) (L:=L) h1 h2;simp only;generalize stM D L a m b=st at lo;generalize he:(a+b) / 2+m - st=en at *;obtain⟨l1,l2,l3,l4,l5,l6⟩:=lo;have s1:uT a b L (if st<m∧m<en then jE m (m - st+(en - m)) L (m - st) (en - m) else L):=by
   split
   ·exact XT (by omega) (by omega) (by omega) (by omega) (by omega) (by omega) (by omega) (sL _ _ _ _ _ (by omega) (by omega)).len
   exact .refl a b L
  generalize (if st<m∧m<en then jE m (m - st+(en - m)) L (m - st) (en - m) else L)=L1 at s1;have s2:uT a b L (if a<st∧st<(a+b) / 2 then eT D k L1 a st ((a+b) / 2) else L1):=by
   split
   ·exact s1.trans ((uY D k L1 _ _ _ (by omega) (by omega) (by have:=s1.len;omega)).wide (by omega) (by omega))
   exact s1
  generalize (if a<st∧st<(a+b) / 2 then eT D k L1 a st ((a+b) / 2) else L1)=L2 at s2;split
  ·exact s2.trans ((uY D k L2 _ _ _ (by omega) (by omega) (by have:=s2.len;omega)).wide (by omega) (by omega))
  exact s2
def x8 (D:CW)(x y:Int):Prop:=jH D y x=false
def So (D:CW)(L:List Int)(a b:Nat):Prop:=∀ i j,a≤i→i<j→j<b→x8 D (aE L i) (aE L j)
structure Ord (D:CW) (U:Int→Prop):Prop where
 trans:∀ x y z,U x→U y→U z→x8 D x y→x8 D y z→x8 D x z
 asym:∀ x y,U x→U y→jH D x y=true→x8 D x y
def IW (U:Int→Prop)(L:List Int)(a b:Nat):Prop:=∀ i,a≤i→i<b→U (aE L i)
theorem uT.GI {U:Int→Prop}{L M:List Int}{a b:Nat}(h:uT a b L M)(hU:IW U L a b):IW U M a b:=fun i h1 h2=>by
 obtain⟨s,s1,s2,s3⟩:=h.inn i h1 h2;rw [s3];exact hU s s1 s2
theorem So.nar {D:CW}{L:List Int}{a b c d:Nat}(h:So D L a b)(h1:a≤c)(h2:d≤b):So D L c d:=fun i j q1 q2 q3=>h i j (by omega) q2 (by omega)
theorem So.congr {D:CW}{L M:List Int}{a b:Nat}(h:So D L a b)(he:∀ i,a≤i→i<b→aE M i=aE L i):So D M a b:=fun i j q1 q2 q3=>by
 rw [he i q1 (by omega),he j (by omega) q3];exact h i j q1 q2 q3
theorem Ord.aH0 {D:CW}{U:Int→Prop}(hO:Ord D U){x y z:Int}(hx:U x)(hy:U y)(hz:U z)(h1:jH D x y=true)(h2:x8 D y z):jH D x z=true:=by
 cases h:jH D x z with
 |true=>rfl
 |false =>
  have:x8 D y x:=hO.trans y z x hy hz hx h2 h;unfold x8 at this;rw [h1] at this;cases this
theorem Ord.aKJ {D:CW}{U:Int→Prop}(hO:Ord D U){x y z:Int}(hx:U x)(hy:U y)(hz:U z)(h1:x8 D x y)(h2:jH D y z=true):jH D x z=true:=by
 cases h:jH D x z with
 |true=>rfl
 |false =>
  have:x8 D z y:=hO.trans z x y hz hx hy h h1;unfold x8 at this;rw [h2] at this;cases this
section
variable {D:CW}{U:Int→Prop}
theorem U8 (hO:Ord D U)(a J:Nat):∀ (j:Nat) (L:List Int),a≤j→j≤J→J<L.length→IW U L a (J+1) →
  (∀ p q,a≤p→p<q→q≤J→p≠j→q≠j→x8 D (aE L p) (aE L q))→(∀ q,j<q→q≤J→x8 D (aE L j) (aE L q))→So D (vM D a L j) a (J+1)∧uT a (J+1) L (vM D a L j)
 |0,L,h1,h2,h3,hU,hA,hB=>by
  unfold vM;refine⟨fun i j q1 q2 q3=>?_,.refl _ _ _⟩;by_cases e:i=0
  ·subst e;exact hB j q2 (by omega)
  exact hA i j q1 q2 (by omega) e (by omega)
 |j+1,L,h1,h2,h3,hU,hA,hB=>by
  unfold vM;split
  ·rename_i hc;have hs:=GY (L:=L) (x:=j+1) (y:=j) (by omega) (by omega);have hg:uT a (J+1) L (m9 L (j+1) j):=aG9 (by omega) (by omega) (by omega) (by omega) (by omega);have ih:=U8 hO a J j (m9 L (j+1) j) (by omega) (by omega) (by rw [iI];exact h3) (hg.GI hU) ?_ ?_
   ·exact⟨ih.1,hg.trans ih.2⟩
   ·intro p q q1 q2 q3 q4 q5;rw [hs,hs,if_neg q4,if_neg q5];by_cases e1:q=j+1
    ·rw [if_pos e1,if_neg (by omega)];exact hA p j q1 (by omega) (by omega) (by omega) (by omega)
    rw [if_neg e1];by_cases e2:p=j+1
    ·rw [if_pos e2];exact hA j q (by omega) (by omega) q3 (by omega) e1
    rw [if_neg e2];exact hA p q q1 q2 q3 e2 e1
   intro q q1 q2;rw [hs,hs,if_pos rfl,if_neg (by omega)];by_cases e1:q=j+1
   ·rw [if_pos e1];exact hO.asym _ _ (hU _ (by omega) (by omega)) (hU _ (by omega) (by omega)) hc.2
   rw [if_neg e1];exact hB q (by omega) q2
  rename_i hc;refine⟨fun p q q1 q2 q3=>?_,.refl _ _ _⟩;by_cases e1:p=j+1
  ·subst e1;exact hB q q2 (by omega)
  by_cases e2:q=j+1
  ·subst e2;have hle:x8 D (aE L j) (aE L (j+1)):=by
    cases hq:jH D (aE L (j+1)) (aE L j) with
    |false=>exact hq
    |true=>exact absurd ⟨by omega,hq⟩ hc
   by_cases e3:p=j
   ·subst e3;exact hle
   exact hO.trans _ _ _ (hU _ q1 (by omega)) (hU _ (by omega) (by omega)) (hU _ (by omega) (by omega)) (hA p j q1 (by omega) (by omega) e1 (by omega)) hle
  exact hA p q q1 q2 (by omega) e1 e2
theorem NM (hO:Ord D U)(a:Nat)(L:List Int):∀ t,a+t<L.length→IW U L a (a+t+1)→So D (jO D a L t) a (a+t+1)∧uT a (a+t+1) L (jO D a L t)
 |0,h,hU=>⟨fun i j q1 q2 q3=>by omega,.refl _ _ _⟩
 |t+1,h,hU=>by
  obtain⟨i1,i2⟩:=NM hO a L t (by omega) fun i q1 q2=>hU i q1 (by omega);unfold jO;have g2:uT a (a+(t+1)+1) L (jO D a L t):=i2.wide (Nat.le_refl _) (by omega);have:=U8 hO a (a+1+t) (a+1+t) (jO D a L t) (by omega) (Nat.le_refl _) (by rw [i2.len];omega) (fun i q1 q2=>g2.GI hU i q1 (by omega)) (fun p q q1 q2 q3 q4 q5=>i1 p q q1 q2 (by omega)) (fun q q1 q2=>by omega);rw [show a+(t+1)+1=a+1+t+1 by omega] at *;exact⟨this.1,g2.trans this.2⟩
theorem LD (hO:Ord D U):∀ (k:Nat) (L:List Int) (a m b:Nat),a<m→m<b→b≤L.length→b - a≤k→IW U L a b→So D L a m→So D L m b→So D (eT D k L a m b) a b
 |0,L,a,m,b,h1,h2,h3,h4,_,_,_=>by omega
 |k+1,L,a,m,b,h1,h2,h3,h4,hU,sA,sB=>by
  unfold eT;split
  ·rename_i c1;have lo:=lP (f:=fun h=>!(jH D (aE L h) (aE L a))) (k:=b - m) (i:=m) (j:=b) (by omega);have sp:=OF (f:=fun h=>!(jH D (aE L h) (aE L a))) (k:=b - m) (i:=m) (j:=b) (Nat.le_refl _) (by
    intro s t q1 q2 q3 q4;have q4:jH D (aE L s) (aE L a)=false:=(by simpa using q4);show (!(jH D (aE L t) (aE L a)))=true;rw [show jH D (aE L t) (aE L a)=false from ?_]
    ·rfl
    by_cases e:s=t
    ·rw [← e];exact q4
    exact hO.trans (aE L a) (aE L s) (aE L t) (hU _ (by omega) (by omega)) (hU _ (by omega) (by omega)) (hU _ (by omega) (by omega)) q4 (sB s t q1 (by omega) q3))
   generalize wL (fun h=>!(jH D (aE L h) (aE L a))) (b - m) m b=r at lo sp ⊢;have hx:=R8 (L:=L) (a:=a) (r - 1 - a) (by omega);have hlow:∀ t,m≤t→t<r→x8 D (aE L t) (aE L a):=fun t q1 q2=>by
    have:=sp.1 t q1 q2;simp only [Bool.not_eq_false'] at this;exact hO.asym _ _ (hU _ (by omega) (by omega)) (hU _ (by omega) (by omega)) this
   have hhi:∀ t,r≤t→t<b→x8 D (aE L a) (aE L t):=fun t q1 q2=>by
    have:=sp.2 t q1 q2;simp only [Bool.not_eq_true'] at this;exact this
   intro i j q1 q2 q3;rw [hx,hx,if_neg (c:=i<a) (by omega),if_neg (c:=j<a) (by omega)];by_cases e1:i<a+(r - 1 - a)
   ·rw [if_pos e1];by_cases e2:j<a+(r - 1 - a)
    ·rw [if_pos e2];exact sB _ _ (by omega) (by omega) (by omega)
    rw [if_neg e2];by_cases e3:j=a+(r - 1 - a)
    ·rw [if_pos e3];exact hlow _ (by omega) (by omega)
    rw [if_neg e3];exact sB _ _ (by omega) (by omega) (by omega)
   rw [if_neg e1,if_neg (c:=j<a+(r - 1 - a)) (by omega),if_neg (c:=j=a+(r - 1 - a)) (by omega)];by_cases e3:i=a+(r - 1 - a)
   ·rw [if_pos e3];exact hhi _ (by omega) (by omega)
   rw [if_neg e3];exact sB _ _ (by omega) (by omega) (by omega)
  rename_i c1;split
  ·rename_i c2;have lo:=lP (f:=fun h=>jH D (aE L m) (aE L h)) (k:=m - a) (i:=a) (j:=m) (by omega);have sp:=OF (f:=fun h=>jH D (aE L m) (aE L h)) (k:=m - a) (i:=a) (j:=m) (Nat.le_refl _) (by
    intro s t q1 q2 q3 q4;by_cases e:s=t
    ·rw [← e];exact q4
    exact hO.aH0 (hU _ (by omega) (by omega)) (hU _ (by omega) (by omega)) (hU _ (by omega) (by omega)) q4 (sA s t q1 (by omega) q3))
   generalize wL (fun h=>jH D (aE L m) (aE L h)) (m - a) a m=r at lo sp ⊢;have hx:=US (L:=L) (m:=m) (by omega) (m - r) (by omega);have hlow:∀ t,a≤t→t<r→x8 D (aE L t) (aE L m):=fun t q1 q2=>sp.1 t q1 q2;have hhi:∀ t,r≤t→t<m→x8 D (aE L m) (aE L t):=fun t q1 q2=>hO.asym _ _ (hU _ (by omega) (by omega)) (hU _ (by omega) (by omega)) (sp.2 t q1 q2);intro i j q1 q2 q3;rw [hx,hx];by_cases e1:i<m - (m - r)
   ·rw [if_pos e1];by_cases e2:j<m - (m - r)
    ·rw [if_pos e2];exact sA _ _ (by omega) (by omega) (by omega)
    rw [if_neg e2];by_cases e3:j=m - (m - r)
    ·rw [if_pos e3];exact hlow _ (by omega) (by omega)
    rw [if_neg e3,if_pos (by omega)];exact sA _ _ (by omega) (by omega) (by omega)
   rw [if_neg e1,if_neg (c:=j<m - (m - r)) (by omega),if_neg (c:=j=m - (m - r)) (by omega),if_pos (c:=j≤m) (by omega)];by_cases e3:i=m - (m - r)
   ·rw [if_pos e3];exact hhi _ (by omega) (by omega)
   rw [if_neg e3,if_pos (by omega)];exact sA _ _ (by omega) (by omega) (by omega)
  rename_i c2;have lo:=z8 (D:=D) (L:=L) h1 h2
  -- what the search warrants
  have sp:(∀ c,a≤c→c<stM D L a m b→(a+b) / 2+m - stM D L a m b<b→x8 D (aE L c) (aE L ((a+b) / 2+m - stM D L a m b)))∧(stM D L a m b<m→m<(a+b) / 2+m - stM D L a m b→jH D (aE L ((a+b) / 2+m - stM D L a m b - 1)) (aE L (stM D L a m b))=true):=by
   have hmono:∀ lo hi:Nat,a≤lo→(a+b) / 2+m - b≤lo→hi≤m→hi≤(a+b) / 2→∀ s t,lo≤s→s≤t→t<hi→jH D (aE L ((a+b) / 2+m - 1 - s)) (aE L s)=true→jH D (aE L ((a+b) / 2+m - 1 - t)) (aE L t)=true:=by
    intro lo hi g1 g2 g3 g4 s t q1 q2 q3 q4;by_cases e:s=t
    ·rw [← e];exact q4
    have u1:=hO.aH0 (hU _ (by omega) (by omega)) (hU _ (by omega) (by omega)) (hU _ (by omega) (by omega)) q4 (sA s t (by omega) (by omega) (by omega));exact hO.aKJ (hU _ (by omega) (by omega)) (hU _ (by omega) (by omega)) (hU _ (by omega) (by omega)) (sB ((a+b) / 2+m - 1 - t) ((a+b) / 2+m - 1 - s) (by omega) (by omega) (by omega)) u1
   have key:∀ lo hi st:Nat,a≤lo→(a+b) / 2+m - b≤lo→lo≤hi→hi≤m→hi≤(a+b) / 2→(lo=a∨lo=(a+b) / 2+m - b)→(hi=m∨hi=(a+b) / 2)→st=wL (fun c=>jH D (aE L ((a+b) / 2+m - 1 - c)) (aE L c)) (hi - lo) lo hi →
     (∀ c,a≤c→c<st→(a+b) / 2+m - st<b→x8 D (aE L c) (aE L ((a+b) / 2+m - st)))∧(st<m→m<(a+b) / 2+m - st→jH D (aE L ((a+b) / 2+m - st - 1)) (aE L st)=true):=by
    intro lo hi st g1 g2 g3 g4 g5 g6 g7 g8;have l0:=lP (f:=fun c=>jH D (aE L ((a+b) / 2+m - 1 - c)) (aE L c)) (k:=hi - lo) (i:=lo) (j:=hi) g3;have b0:=OF (f:=fun c=>jH D (aE L ((a+b) / 2+m - 1 - c)) (aE L c)) (k:=hi - lo) (i:=lo) (j:=hi) (Nat.le_refl _) (hmono lo hi g1 g2 g4 g5);rw [← g8] at l0 b0;refine⟨fun c q1 q2 q3=>?_,fun q1 q2=>?_⟩
    ·have u:=b0.1 (st - 1) (by omega) (by omega);have u:jH D (aE L ((a+b) / 2+m - 1 - (st - 1))) (aE L (st - 1))=false:=u;rw [show (a+b) / 2+m - 1 - (st - 1)=(a+b) / 2+m - st by omega] at u;by_cases e:c=st - 1
     ·rw [e];exact u
     exact hO.trans _ (aE L (st - 1)) _ (hU _ (by omega) (by omega)) (hU _ (by omega) (by omega)) (hU _ (by omega) (by omega)) (sA c (st - 1) q1 (by omega) (by omega)) u
    have u:=b0.2 st (Nat.le_refl _) (by omega);have u:jH D (aE L ((a+b) / 2+m - 1 - st)) (aE L st)=true:=u;rw [show (a+b) / 2+m - 1 - st=(a+b) / 2+m - st - 1 by omega] at u;exact u
   by_cases hc:(a+b) / 2<m
   ·exact key ((a+b) / 2+m - b) ((a+b) / 2) _ (by omega) (Nat.le_refl _) (by omega) (by omega) (Nat.le_refl _) (.inr rfl) (.inr rfl) (by unfold stM;simp only [if_pos hc])
   exact key a m _ (Nat.le_refl _) (by omega) (by omega) (Nat.le_refl _) (by omega) (.inl rfl) (.inl rfl) (by unfold stM;simp only [if_neg hc])
  simp only;generalize stM D L a m b=st at lo sp;generalize he:(a+b) / 2+m - st=en at *;obtain⟨l1,l2,l3,l4,l5,l6⟩:=lo;generalize hmid:(a+b) / 2=mid at *;have hlen1:(if st<m∧m<en then jE m (m - st+(en - m)) L (m - st) (en - m) else L).length=L.length:=by
   split
   ·exact (sL _ _ _ _ _ (by omega) (by omega)).len
   rfl
  have v1:∀ t,aE (if st<m∧m<en then jE m (m - st+(en - m)) L (m - st) (en - m) else L) t=if t<st then aE L t else if t<mid then aE L (t - st+m) else if t<en then aE L (t - (mid - st)) else aE L t:=by
   intro t;split
   ·rename_i hc;rw [L9 m _ L (m - st) (en - m) (by omega) (by omega) (by omega) (by omega) (Nat.le_refl _) t];rw [show m - (m - st)=st by omega,show st+(en - m)=mid by omega,show m+(en - m)=en by omega,show en - m=mid - st by omega]
   rename_i hc;by_cases e1:t<st
   ·rw [if_pos e1]
   rw [if_neg e1];by_cases e2:t<mid
   ·rw [if_pos e2,show t - st+m=t by omega]
   rw [if_neg e2];by_cases e3:t<en
   ·rw [if_pos e3,show t - (mid - st)=t by omega]
   rw [if_neg e3]
  have s1:uT a b L (if st<m∧m<en then jE m (m - st+(en - m)) L (m - st) (en - m) else L):=by
   split
   ·exact XT (by omega) (by omega) (by omega) (by omega) (by omega) (by omega) (by omega) (sL _ _ _ _ _ (by omega) (by omega)).len
   exact .refl a b L
  generalize (if st<m∧m<en then jE m (m - st+(en - m)) L (m - st) (en - m) else L)=L1 at s1 hlen1 v1;have U1:=s1.GI hU
  -- both halves,and what lies between them
  have cross:∀ i j,a≤i→i<mid→mid≤j→j<b→x8 D (aE L1 i) (aE L1 j):=by
   intro i j q1 q2 q3 q4;have hij:∀ x y,a≤x→x<m→m≤y→y<b→x<st→en≤y→x8 D (aE L x) (aE L y):=by
    intro x y z1 z2 z3 z4 z5 z6;by_cases e:y=en
    ·rw [e];exact sp.1 x z1 z5 (by omega)
    exact hO.trans _ (aE L en) _ (hU _ z1 (by omega)) (hU _ (by omega) (by omega)) (hU _ (by omega) z4) (sp.1 x z1 z5 (by omega)) (sB en y (by omega) (by omega) z4)
   have hji:∀ y x,m≤y→y<en→st≤x→x<m→x8 D (aE L y) (aE L x):=by
    intro y x z1 z2 z3 z4;have u:=hO.asym _ _ (hU _ (by omega) (by omega)) (hU _ (by omega) (by omega)) (sp.2 (by omega) (by omega));have u1:x8 D (aE L y) (aE L st):=by
     by_cases e:y=en - 1
     ·rw [e];exact u
     exact hO.trans _ (aE L (en - 1)) _ (hU _ (by omega) (by omega)) (hU _ (by omega) (by omega)) (hU _ (by omega) (by omega)) (sB y (en - 1) z1 (by omega) (by omega)) u
    by_cases e:x=st
    ·rw [e];exact u1
    exact hO.trans _ (aE L st) _ (hU _ (by omega) (by omega)) (hU _ (by omega) (by omega)) (hU _ (by omega) (by omega)) u1 (sA st x (by omega) (by omega) z4)
   rw [v1,v1,if_neg (c:=j<st) (by omega),if_neg (c:=j<mid) (by omega)];by_cases e1:i<st
   ·rw [if_pos e1];by_cases e2:j<en
    ·rw [if_pos e2];exact sA _ _ q1 (by omega) (by omega)
    rw [if_neg e2];exact hij i j q1 (by omega) (by omega) q4 e1 (by omega)
   rw [if_neg e1,if_pos q2];by_cases e2:j<en
   ·rw [if_pos e2];exact hji _ _ (by omega) (by omega) (by omega) (by omega)
   rw [if_neg e2];exact sB _ _ (by omega) (by omega) q4
  have p1:So D L1 a st:=sA.nar (Nat.le_refl _) l2 |>.congr fun i q1 q2=>by rw [v1,if_pos q2]
  have p2:So D L1 st mid:=fun i j q1 q2 q3=>by
   rw [v1,v1,if_neg (c:=i<st) (by omega),if_neg (c:=j<st) (by omega),if_pos (c:=i<mid) (by omega),if_pos (c:=j<mid) q3];exact sB _ _ (by omega) (by omega) (by omega)
  have p3:So D L1 mid en:=fun i j q1 q2 q3=>by
   rw [v1,v1,if_neg (c:=i<st) (by omega),if_neg (c:=i<mid) (by omega),if_neg (c:=j<st) (by omega),if_neg (c:=j<mid) (by omega),if_pos (c:=i<en) (by omega),if_pos (c:=j<en) q3];exact sA _ _ (by omega) (by omega) (by omega)
  have p4:So D L1 en b:=sB.nar l4 (Nat.le_refl _) |>.congr fun i q1 q2=>by rw [v1,if_neg (by omega),if_neg (by omega),if_neg (by omega)]
  have w2:uT a mid L1 (if a<st∧st<mid then eT D k L1 a st mid else L1)∧So D (if a<st∧st<mid then eT D k L1 a st mid else L1) a mid:=by
   split
   ·exact⟨uY D k L1 _ _ _ (by omega) (by omega) (by omega),LD hO k L1 a st mid (by omega) (by omega) (by omega) (by omega) (fun i q1 q2=>U1 i q1 (by omega)) p1 p2⟩
   refine⟨.refl _ _ _,?_⟩;by_cases e:a<st
   ·rw [show mid=st by omega];exact p1
   rw [show a=st by omega];exact p2
  generalize (if a<st∧st<mid then eT D k L1 a st mid else L1)=L2 at w2;obtain⟨g2,o2⟩:=w2;have w3:uT mid b L2 (if mid<en∧en<b then eT D k L2 mid en b else L2)∧So D (if mid<en∧en<b then eT D k L2 mid en b else L2) mid b:=by
   have p3':So D L2 mid en:=p3.congr fun i q1 q2=>g2.out i (by omega);have p4':So D L2 en b:=p4.congr fun i q1 q2=>g2.out i (by omega);have hl2:=g2.len;split
   ·exact⟨uY D k L2 _ _ _ (by omega) (by omega) (by omega),LD hO k L2 mid en b (by omega) (by omega) (by omega) (by omega) (fun i q1 q2=>by rw [g2.out i (by omega)];exact U1 i (by omega) q2) p3' p4'⟩
   refine⟨.refl _ _ _,?_⟩;by_cases e:mid<en
   ·rw [show b=en by omega];exact p3'
   rw [show mid=en by omega];exact p4'
  generalize (if mid<en∧en<b then eT D k L2 mid en b else L2)=L3 at w3;obtain⟨g3,o3⟩:=w3;intro i j q1 q2 q3;by_cases e1:j<mid
  ·rw [g3.out i (by omega),g3.out j (by omega)];exact o2 i j q1 q2 e1
  by_cases e2:mid≤i
  ·exact o3 i j e2 q2 q3
  rw [g3.out i (by omega)];obtain⟨s,z1,z2,z3⟩:=g2.inn i q1 (by omega);obtain⟨u,y1,y2,y3⟩:=g3.inn j (by omega) q3;rw [z3,y3,g2.out u (by omega)];exact cross s u z1 z2 y1 y2
end
theorem aDo {L:List Int}{x y:Nat}(hx:x<L.length)(hy:y<L.length):(m9 L x y).Perm L:=by
 unfold m9;rw [bX hx,bX hy];exact List.set_set_perm hx hy
theorem Sw.perm {L M:List Int}(h:Sw L M):M.Perm L:=by
 induction h with
 |refl=>exact .refl _
 |step x y _ hx hy ih=>exact (aDo hx hy).trans ih
inductive Bl (D:CW) (L:List Int) (bs n:Nat):Nat→Prop where
 |fin (a:Nat):n≤a→Bl D L bs n a
 |step (a:Nat):So D L a (min (a+bs) n)→Bl D L bs n (a+bs)→Bl D L bs n a
inductive Bp (D:CW) (L:List Int) (bs:Nat):Nat→Prop where
 |zero:Bp D L bs 0
 |step (a:Nat):Bp D L bs a→So D L a (a+bs)→Bp D L bs (a+bs)
section
variable {D:CW}{U:Int→Prop}{L M:List Int}{bs n a:Nat}
theorem Bl.congr (h:Bl D L bs n a)(he:∀ i,a≤i→aE M i=aE L i):Bl D M bs n a:=by
 induction h with
 |fin a h=>exact .fin a h
 |step a h1 h2 ih=>exact .step a (h1.congr fun i q1 q2=>he i q1) (ih fun i q=>he i (by omega))
theorem Bp.congr (h:Bp D L bs a)(he:∀ i,i<a→aE M i=aE L i):Bp D M bs a:=by
 induction h with
 |zero=>exact .zero
 |step a h1 h2 ih=>exact .step a (ih fun i q=>he i (by omega)) (h2.congr fun i q1 q2=>he i q2)
theorem Bp.join (h:Bp D L bs a):Bl D L bs n a→Bl D L bs n 0:=by
 induction h with
 |zero=>exact id
 |step a h1 h2 ih=>exact fun h=>ih (.step a (h2.nar (Nat.le_refl _) (Nat.min_le_left _ _)) h)
theorem Bl.head (h:Bl D L bs n a):So D L a (min (a+bs) n):=by
 cases h with
 |fin _ h=>exact fun i j q1 q2 q3=>by omega
 |step _ h1 h2=>exact h1
theorem Bl.tail (h:Bl D L bs n a):Bl D L bs n (a+bs):=by
 cases h with
 |fin _ h=>exact .fin _ (by omega)
 |step _ h1 h2=>exact h2
theorem uT.low {b:Nat}(h:uT a b L M)(i:Nat)(hi:i<a):aE M i=aE L i:=h.out i (.inl hi)
theorem uT.high {b:Nat}(h:uT a b L M)(i:Nat)(hi:b≤i):aE M i=aE L i:=h.out i (.inr hi)
theorem XX (hO:Ord D U):∀ (k:Nat) (L:List Int) (a:Nat),n=L.length→IW U L 0 n→a≤n→n+1 - a≤k→Bp D L 20 a →
  (pH D n k L a).2≤n∧n<(pH D n k L a).2+20∧Bp D (pH D n k L a).1 20 (pH D n k L a).2∧uT 0 n L (pH D n k L a).1∧Sw L (pH D n k L a).1
 |0,L,a,hn,hU,ha,hk,hB=>by omega
 |k+1,L,a,hn,hU,ha,hk,hB=>by
  unfold pH;split
  ·rename_i hc;have h1:=NM hO a L 19 (by omega) (fun i q1 q2=>hU i (by omega) (by omega));have e:a+20 - 1 - a=19:=(by omega);rw [e];have g:=h1.2.wide (a:=0) (b:=n) (by omega) (by omega);have ih:=XX hO k (jO D a L 19) (a+20) (by rw [h1.2.len];exact hn) (g.GI hU) hc (by omega) (.step a (hB.congr fun i q=>h1.2.low i q) h1.1);exact⟨ih.1,ih.2.1,ih.2.2.1,g.trans ih.2.2.2.1,(LS D a L 19 (by omega)).trans ih.2.2.2.2⟩
  exact⟨ha,by omega,hB,.refl _ _ _,.refl _⟩
theorem UX (hO:Ord D U){f:Nat}(hf:n≤f)(hb:1≤bs):∀ (k:Nat) (L:List Int) (a:Nat),n=L.length→IW U L 0 n→a≤n→n+1 - a≤k→Bp D L (2*bs) a→Bl D L bs n a →
  (rX D f n bs k L a).2≤n∧n<(rX D f n bs k L a).2+2*bs∧Bp D (rX D f n bs k L a).1 (2*bs) (rX D f n bs k L a).2∧Bl D (rX D f n bs k L a).1 bs n (rX D f n bs k L a).2∧uT 0 n L (rX D f n bs k L a).1∧Sw L (rX D f n bs k L a).1
 |0,L,a,hn,hU,ha,hk,hB,hC=>by omega
 |k+1,L,a,hn,hU,ha,hk,hB,hC=>by
  unfold rX;split
  ·rename_i hc;have s1:=hC.head;have s2:=hC.tail.head;have g1:=uY D f L a (a+bs) (a+2*bs) (by omega) (by omega) (by omega);have o1:=LD hO f L a (a+bs) (a+2*bs) (by omega) (by omega) (by omega) (by omega) (fun i q1 q2=>hU i (by omega) (by omega)) (s1.nar (Nat.le_refl _) (by omega)) (s2.nar (Nat.le_refl _) (by omega));have w1:=uK D f L a (a+bs) (a+2*bs) (by omega) (by omega) (by omega);generalize eT D f L a (a+bs) (a+2*bs)=L1 at g1 o1 w1;have g:=g1.wide (a:=0) (b:=n) (by omega) (by omega);have ht:=hC.tail.tail;rw [show a+bs+bs=a+2*bs by omega] at ht;have ih:=UX hO hf hb k L1 (a+2*bs) (by rw [g1.len];exact hn) (g.GI hU) hc (by omega) (.step a (hB.congr fun i q=>g1.low i q) o1) (ht.congr fun i q=>g1.high i q);exact⟨ih.1,ih.2.1,ih.2.2.1,ih.2.2.2.1,g.trans ih.2.2.2.2.1,w1.trans ih.2.2.2.2.2⟩
  exact⟨ha,by omega,hB,hC,.refl _ _ _,.refl _⟩
theorem aEb (hO:Ord D U){f:Nat}(hf:n≤f)(hb:1≤bs){L:List Int}{a:Nat}(hn:n=L.length)(hU:IW U L 0 n)(ha:a≤n)(hn2:n<a+2*bs)(hB:Bp D L (2*bs) a)(hC:Bl D L bs n a) :
  Bl D (xM D f n bs (L,a)) (2*bs) n 0∧uT 0 n L (xM D f n bs (L,a))∧Sw L (xM D f n bs (L,a)):=by
 unfold xM;split
 ·rename_i hc;simp only at hc;have s1:=hC.head;have s2:=hC.tail.head;have g1:=uY D f L a (a+bs) n (by omega) (by omega) (by omega);have o1:=LD hO f L a (a+bs) n (by omega) (by omega) (by omega) (by omega) (fun i q1 q2=>hU i (by omega) (by omega)) (s1.nar (Nat.le_refl _) (by omega)) (s2.nar (Nat.le_refl _) (by omega));have w1:=uK D f L a (a+bs) n (by omega) (by omega) (by omega);generalize eT D f L a (a+bs) n=L1 at g1 o1 w1;exact⟨(hB.congr fun i q=>g1.low i q).join (.step a (o1.nar (Nat.le_refl _) (Nat.min_le_right _ _)) (.fin _ (by omega))),g1.wide (by omega) (Nat.le_refl _),w1⟩
 rename_i hc;simp only at hc;exact⟨hB.join (.step a (hC.head.nar (Nat.le_refl _) (by omega)) (.fin _ (by omega))),.refl _ _ _,.refl _⟩
theorem XI (hO:Ord D U){f:Nat}(hf:n≤f):∀ (k:Nat) (L:List Int) (bs:Nat),1≤bs→n≤bs+k→n=L.length→IW U L 0 n→Bl D L bs n 0→So D (ES D f n k L bs) 0 n∧uT 0 n L (ES D f n k L bs)∧Sw L (ES D f n k L bs)
 |0,L,bs,hb,hk,hn,hU,hB=>⟨hB.head.nar (Nat.le_refl _) (by omega),.refl _ _ _,.refl _⟩
 |k+1,L,bs,hb,hk,hn,hU,hB=>by
  unfold ES;split
  ·have h1:=UX hO hf hb (n+1) L 0 hn hU (Nat.zero_le _) (by omega) .zero hB;generalize rX D f n bs (n+1) L 0=r at h1;obtain⟨L1,a⟩:=r;obtain⟨p1,p2,p3,p4,p5,p6⟩:=h1;have h2:=aEb hO hf hb (by rw [p5.len];exact hn) (p5.GI hU) p1 p2 p3 p4;obtain⟨r1,r2,r3⟩:=h2;rw [show bs*2=2*bs by omega];have ih:=XI hO hf k (xM D f n bs (L1,a)) (2*bs) (by omega) (by omega) (by rw [r2.len,p5.len];exact hn) (r2.GI (p5.GI hU)) r1;exact⟨ih.1,(p5.trans r2).trans ih.2.1,(p6.trans r3).trans ih.2.2⟩
  exact⟨hB.head.nar (Nat.le_refl _) (by omega),.refl _ _ _,.refl _⟩
theorem V8 (hO:Ord D U){f:Nat}{L:List Int}(hf:L.length≤f)(hU:IW U L 0 L.length):So D (oQ D f L) 0 L.length∧(oQ D f L).Perm L:=by
 unfold oQ;have h1:=XX hO (L.length+1) L 0 rfl hU (Nat.zero_le _) (by omega) .zero;generalize pH D L.length (L.length+1) L 0=r at h1;obtain⟨L1,a⟩:=r;obtain⟨p1,p2,p3,p4,p5⟩:=h1;simp only at *;have h2:So D (jO D a L1 (L.length - 1 - a)) a L.length∧uT a L.length L1 (jO D a L1 (L.length - 1 - a))∧Sw L1 (jO D a L1 (L.length - 1 - a)):=by
  by_cases e:a=L.length
  ·rw [show L.length - 1 - a=0 by omega];exact⟨fun i j q1 q2 q3=>by omega,.refl _ _ _,.refl _⟩
  have:=NM hO a L1 (L.length - 1 - a) (by rw [p4.len];omega) (fun i q1 q2=>p4.GI hU i (by omega) (by omega));rw [show a+(L.length - 1 - a)+1=L.length by omega] at this;exact⟨this.1,this.2,LS D a L1 _ (by rw [p4.len];omega)⟩
 generalize jO D a L1 (L.length - 1 - a)=L2 at h2;obtain⟨o2,g2,w2⟩:=h2
 have h3:=XI hO hf (L.length+1) L2 20 (by omega) (by omega) (by rw [g2.len,p4.len]) ((g2.wide (Nat.zero_le _) (Nat.le_refl _)).GI (p4.GI hU))
  ((p3.congr fun i q=>g2.low i q).join (.step a (o2.nar (Nat.le_refl _) (Nat.min_le_right _ _)) (.fin _ (by omega))))
 exact⟨h3.1,((p5.trans w2).trans h3.2.2).perm⟩
end
end Go.Aw
end

namespace Go.Aw
abbrev V2:=Int × Int
def cr (a b:V2):Int:=a.1*b.2 - a.2*b.1
def dt (a b:V2):Int:=a.1*b.1+a.2*b.2
def AM (a:V2):V2:=(-a.1,-a.2)
def up (a:V2):Prop:=0<a.2∨a.2=0∧0<a.1
def lo (a:V2):Prop:=a.2<0∨a.2=0∧a.1<0
instance (a:V2):Decidable (lo a):=inferInstanceAs (Decidable (_∨_))
theorem fA (a b:V2):cr b a = - cr a b:=by unfold cr;rw [Int.mul_comm b.1,Int.mul_comm b.2];omega
theorem aIK {a:V2}(h:lo a):up (AM a):=by unfold up AM;unfold lo at h;simp only;omega
theorem D8 (a b:V2):cr (AM a) b = - cr a b:=by unfold cr AM;simp only [Int.neg_mul];omega
theorem DZ (a b:V2):cr a (AM b) = - cr a b:=by unfold cr AM;simp only [Int.mul_neg];omega
theorem MP (a b:V2):dt (AM a) b = - dt a b:=by unfold dt AM;simp only [Int.neg_mul];omega
theorem M7 (a b:V2):dt a (AM b) = - dt a b:=by unfold dt AM;simp only [Int.mul_neg];omega
theorem vT {a b:Int}(hb:0<b)(h:0≤a*b):0≤a:=by
 rcases Int.lt_or_le a 0 with h1|h1
 ·have:=Int.mul_neg_of_neg_of_pos h1 hb;omega
 exact h1
theorem aM6 (a b c:V2):cr a c*b.2=cr a b*c.2+cr b c*a.2:=by
 unfold cr;simp only [Int.sub_mul];have e1:a.1*c.2*b.2=a.1*b.2*c.2:=(by rw [Int.mul_assoc,Int.mul_comm c.2,← Int.mul_assoc]);have e2:a.2*c.1*b.2=b.2*c.1*a.2:=(by rw [Int.mul_comm (b.2*c.1),Int.mul_assoc,Int.mul_comm c.1]);have e3:a.2*b.1*c.2=b.1*c.2*a.2:=(by rw [Int.mul_assoc,Int.mul_comm]);omega
theorem FP {a b c:V2}(ha:up a)(hb:up b)(hc:up c)(h1:0≤cr a b)(h2:0≤cr b c):0≤cr a c:=by
 have hid:=aM6 a b c;have a2:0≤a.2:=(by unfold up at ha;omega);have c2:0≤c.2:=(by unfold up at hc;omega);rcases hb with hb|⟨hb,hb1⟩
 ·refine vT hb ?_;rw [hid];have:=Int.mul_nonneg h1 c2;have:=Int.mul_nonneg h2 a2;omega
 have e1:cr a b = -(a.2*b.1):=(by unfold cr;rw [hb];omega);rw [e1] at h1;have:a.2=0:=by
  rcases Int.lt_or_le 0 a.2 with h|h
  ·have:=Int.mul_pos h hb1;omega
  omega
 have a1:0<a.1:=(by unfold up at ha;omega);unfold cr;rw [this];have:=Int.mul_nonneg (Int.le_of_lt a1) c2;omega
theorem lG {a b c:V2}(ha:up a)(hb:up b)(hc:up c)(h1:0≤cr a b)(h2:0≤cr b c)(h3:cr a c≤0):cr a b=0∧cr b c=0:=by
 have h4:0≤cr c a:=(by rw [fA];omega);have k1:=FP hb hc ha h2 h4;have k2:=FP hc ha hb h4 h1;rw [fA] at k1;rw [fA] at k2;omega
theorem K2 {a b:V2}(ha:up a)(hb:up b)(h:cr a b=0):0<dt a b:=by
 unfold cr at h;unfold dt;rcases ha with ha|⟨ha,ha1⟩ <;> rcases hb with hb|⟨hb,hb1⟩
 ·-- a.1 b.2=a.2 b.1:same signs of a.1 and b.1
  have h2:=Int.mul_pos ha hb;have:0≤a.1*b.1:=by
   rcases Int.lt_or_le b.1 0 with h1|h1
   ·have:=Int.mul_neg_of_pos_of_neg ha h1;have h3:a.1<0:=by
     rcases Int.lt_or_le a.1 0 with h4|h4
     ·exact h4
     have:=Int.mul_nonneg h4 (Int.le_of_lt hb);omega
    exact Int.mul_nonneg_of_nonpos_of_nonpos (Int.le_of_lt h3) (Int.le_of_lt h1)
   have:=Int.mul_nonneg (Int.le_of_lt ha) h1;have h3:0≤a.1:=by
    refine vT hb ?_;omega
   exact Int.mul_nonneg h3 h1
  omega
 ·rw [hb] at h;have:=Int.mul_pos ha hb1;omega
 ·rw [ha] at h;have:=Int.mul_pos ha1 hb;omega
 have:=Int.mul_pos ha1 hb1;rw [ha];omega
def x9 (a b:V2):Prop:=(¬ lo a∧lo b)∨((lo a↔lo b)∧0<cr a b)
def rk (u w:V2):Int:=if cr u w<0 then 0 else if 0<cr u w then 2 else if dt u w<0 then 1 else 3
def BJ (u w x:V2):Prop:=rk u w<rk u x∨rk u w=rk u x∧cr w x<0
def nz (a:V2):Prop:=¬ (a.1=0∧a.2=0)
theorem aMo {a:V2}(h:nz a)(hl:¬ lo a):up a:=by unfold nz at h;unfold lo at hl;unfold up;omega
def uv (a:V2):V2:=if lo a then AM a else a
theorem wM {a:V2}(h:nz a):up (uv a):=by
 unfold uv;split
 ·rename_i hl;exact aIK hl
 rename_i hl;exact aMo h hl
theorem three {u y x:V2}(hu:nz u)(hy:nz y)(hx:nz x) :
  (x9 u x∧x9 x y∧x9 u y)∨(x9 y u∧x9 u x∧x9 y x)∨(x9 x y∧x9 y u∧x9 x u)→BJ u y x:=by
 have hU:=wM hu;have hY:=wM hy;have hX:=wM hx;have f1:=fun h1 h2 h3=>lG hU hY hX h1 h2 h3;have f2:=fun h1 h2 h3=>lG hU hX hY h1 h2 h3;have f3:=fun h1 h2 h3=>lG hY hU hX h1 h2 h3;have f4:=fun h1 h2 h3=>lG hY hX hU h1 h2 h3;have f5:=fun h1 h2 h3=>lG hX hU hY h1 h2 h3;have f6:=fun h1 h2 h3=>lG hX hY hU h1 h2 h3;have d1:=fun h=>K2 hU hY h;have d2:=fun h=>K2 hU hX h;have n1:=fA (uv u) (uv y);have n2:=fA (uv u) (uv x);have n3:=fA (uv y) (uv x);have n4:=fA u y;have n5:=fA u x;have n6:=fA y x;unfold x9 BJ rk
 by_cases lu:lo u <;> by_cases ly:lo y <;> by_cases lx:lo x <;>
  simp only [uv,lu,ly,lx,if_true,if_false,D8,DZ,MP,M7,not_true,not_false_iff,true_and,false_and,and_false,and_true,iff_true,true_iff,iff_false,false_or,or_false,not_false_eq_true,Int.neg_neg] at f1 f2 f3 f4 f5 f6 d1 d2 n1 n2 n3 ⊢ <;>
  (generalize cr u y=c1 at *;generalize cr u x=c2 at *;generalize cr y x=c3 at *;generalize dt u y=e1 at *;generalize dt u x=e2 at *;intro h;repeat' split) <;> omega
theorem aFi (a:V2):cr a a=0:=by unfold cr;rw [Int.mul_comm];omega
theorem ZO {a b:V2}(h:x9 a b):¬ x9 b a:=by
 unfold x9 at *;have:=fA a b;rintro (⟨h1,h2⟩|⟨h2,h3⟩) <;> rcases h with ⟨h4,h5⟩|⟨h5,h6⟩
 ·exact h1 h5
 ·exact h1 (h5.1 h2)
 ·exact h4 (h2.1 h5)
 omega
theorem TO {a b c:V2}(ha:nz a)(hb:nz b)(hc:nz c)(h1:¬ x9 b a)(h2:¬ x9 c b):¬ x9 c a:=by
 have hA:=wM ha;have hB:=wM hb;have hC:=wM hc;have f1:=fun h1 h2=>FP hA hB hC h1 h2;have g1:=fun h1 h2 h3=>lG hA hB hC h1 h2 h3;have n1:=fA a b;have n2:=fA a c;have n3:=fA b c;unfold x9 at *
 by_cases la:lo a <;> by_cases lb:lo b <;> by_cases lc:lo c <;>
  simp only [uv,la,lb,lc,if_true,if_false,D8,DZ,not_true,not_false_iff,true_and,false_and,and_false,and_true,iff_true,true_iff,iff_false,false_or,or_false,true_or,or_true,Int.neg_neg] at f1 g1 h1 h2 ⊢ <;> omega
def ray (a b:V2):Prop:=cr a b=0∧0<dt a b
theorem Y6 {a b:V2}(ha:nz a)(hb:nz b)(h:¬ ray a b):x9 a b∨x9 b a:=by
 have hA:=wM ha;have hB:=wM hb;have d:=fun h=>K2 hA hB h;have n:=fA a b;unfold ray at h;unfold x9
 by_cases la:lo a <;> by_cases lb:lo b <;>
  simp only [uv,la,lb,if_true,if_false,D8,DZ,MP,M7,not_true,not_false_iff,true_and,false_and,and_false,and_true,iff_true,true_iff,iff_false,false_or,or_false,true_or,or_true,Int.neg_neg] at d h ⊢ <;> omega
theorem sq0 (a:Int):0≤a*a:=by
 rcases Int.le_total 0 a with h|h
 ·exact Int.mul_nonneg h h
 exact Int.mul_nonneg_of_nonpos_of_nonpos h h
theorem J5 {u y:V2}(hu:nz u)(hy:nz y)(h:x9 u y∨x9 y u):BJ u y u:=by
 have hU:=wM hu;have hY:=wM hy;have d:=fun h=>K2 hU hY h;have d2:0<dt u u:=by
  unfold dt;unfold nz at hu;have h1:=sq0 u.1;have h2:=sq0 u.2;by_cases h3:u.1=0
  ·have h4:u.2≠0:=fun h=>hu ⟨h3,h⟩;have:u.2*u.2≠0:=Int.mul_ne_zero h4 h4;omega
  have:u.1*u.1≠0:=Int.mul_ne_zero h3 h3;omega
 have n:=fA u y;have c0:=aFi u;unfold BJ rk;unfold x9 at h;rw [c0]
 by_cases lu:lo u <;> by_cases ly:lo y <;>
  simp only [uv,lu,ly,if_true,if_false,D8,DZ,MP,M7,not_true,not_false_iff,true_and,false_and,and_false,and_true,iff_true,true_iff,iff_false,false_or,or_false,true_or,or_true,Int.neg_neg] at d h ⊢ <;> (repeat' split) <;> omega
theorem wU {u y x:V2}(h:BJ u y x):¬ BJ u x y:=by
 unfold BJ at *;have:=fA x y;omega
end Go.Aw

noncomputable section
namespace Go.Aw
set_option maxRecDepth 100000
theorem vL (D:List Dt)(x y:Int):jH D x y=true↔x9 (eE (bL D x.toNat)) (eE (bL D y.toNat)):=by
 show decide (Z9 D x y<0)=true↔_;unfold Z9;generalize eE (bL D x.toNat)=u;generalize eE (bL D y.toNat)=v;rw [decide_eq_true_iff];have hu:C5 u=true↔lo u:=(by unfold C5 lo;simp);have hv:C5 v=true↔lo v:=(by unfold C5 lo;simp);have hc:crP u v=cr u v:=rfl;unfold T2 x9 gB;rw [hc];cases h1:C5 u <;> cases h2:C5 v <;> rw [h1] at hu <;> rw [h2] at hv <;> simp only [Bool.false_eq_true,false_iff,true_iff,if_true,if_false] at hu hv ⊢ <;> simp only [hu,hv,not_true,not_false_iff,true_and,false_and,false_or,or_false,and_false,iff_true,true_iff,iff_false,not_false_eq_true]
 ·split <;> (try split) <;> omega
 ·simp
 ·simp
 split <;> (try split) <;> omega
theorem T9 {a b c:Pt}(h1:fJ a b=true)(h2:fJ b c=true):fJ a c=true:=by
 simp only [fJ,Bool.or_eq_true,Bool.and_eq_true,decide_eq_true_eq] at *;omega
section
variable {l:List Pt}{m:List Ed}{n:Int}
theorem H9 (hok:cM l m n=true):∀ {j i:Nat},i<j→j<l.length→fJ (mL l i) (mL l j)=true
 |0,i,h,_=>by omega
 |j+1,i,h,hj=>by
  simp only [cM,Bool.and_eq_true] at hok;have h1:=dU hok.2.1 hj;simp only [SM,Bool.and_eq_true,Bool.or_eq_true,decide_eq_true_eq] at h1;have h2:fJ (mL l j) (mL l (j+1))=true:=by
   rcases h1.2 with h|h
   ·omega
   exact h
  by_cases e:i=j
  ·rw [e];exact h2
  exact T9 (H9 (by simp only [cM,Bool.and_eq_true];exact hok) (show i<j by omega) (by omega)) h2
theorem sK (hok:cM l m n=true){i:Nat}(hi:i<m.length):0≤(cN m i).a∧(cN m i).a<(cN m i).b∧(cN m i).b<l.length:=by
 simp only [cM,Bool.and_eq_true] at hok;have h1:=dU hok.2.2.1 hi;simp only [UJ,Bool.and_eq_true,decide_eq_true_eq] at h1;exact⟨h1.1.1.1.1.1,h1.1.1.1.1.2,h1.1.1.1.2⟩
theorem AZ (hok:cM l m n=true){i:Nat}(hi:i<2*m.length):nz (eE (bL (aO l m m.length) i)):=by
 obtain⟨h1,h2,h3⟩:=sK hok (i:=i / 2) (by omega);have h4:=H9 hok (i:=(cN m (i / 2)).a.toNat) (j:=(cN m (i / 2)).b.toNat) (by omega) (by omega);simp only [fJ,Bool.or_eq_true,Bool.and_eq_true,decide_eq_true_eq] at h4;unfold nz;rcases jU (l:=l) (m:=m) hi with ⟨e,h⟩|⟨e,h⟩
 ·rw [h];simp only [eE,dA,kA];omega
 rw [h];simp only [eE,dB,kA];omega
theorem aFz (hok:cM l m n=true):Ord (aO l m m.length) (fun x=>0≤x∧x<(2*m.length:Nat)) where
 trans:=fun x y z hx hy hz h1 h2=>by
  have nx:=AZ hok (i:=x.toNat) (by omega);have ny:=AZ hok (i:=y.toNat) (by omega);have nz':=AZ hok (i:=z.toNat) (by omega);unfold x8 at *;have b1:¬ x9 (eE (bL (aO l m m.length) y.toNat)) (eE (bL (aO l m m.length) x.toNat)):=fun h=>(by rw [(vL _ _ _).2 h] at h1;cases h1);have b2:¬ x9 (eE (bL (aO l m m.length) z.toNat)) (eE (bL (aO l m m.length) y.toNat)):=fun h=>(by rw [(vL _ _ _).2 h] at h2;cases h2);cases h:jH (aO l m m.length) z x with
  |false=>rfl
  |true=>exact absurd ((vL _ _ _).1 h) (TO nx ny nz' b1 b2)
 asym:=fun x y hx hy h=>by
  unfold x8;cases h2:jH (aO l m m.length) y x with
  |false=>rfl
  |true=>exact absurd ((vL _ _ _).1 h2) (ZO ((vL _ _ _).1 h))
theorem Z8 (D:List Dt)(s j:Nat):(TU D s j).Nodup:=by
 unfold TU;unfold List.Nodup;rw [List.pairwise_map];have h:List.Pairwise (fun a b:Nat=>a≠b) ((List.range j).filter fun i=>decide ((bL D i).fr.toNat=s)):=List.Pairwise.filter _ List.nodup_range;exact h.imp fun {a b} h e=>h (Int.ofNat.inj e)
theorem K3 (D:List Dt)(s j:Nat):(TU D s j).length≤j:=by
 unfold TU;rw [List.length_map];exact Nat.le_trans (List.length_filter_le _ _) (by rw [List.length_range];exact Nat.le_refl _)
theorem aFM (hok:cM l m n=true){s:Nat}(hs:s<l.length):bE (outs l m) s=oQ (aO l m m.length) 1000 (TU (aO l m m.length) s (2*m.length)):=by
 have hM:=(dM hok).1;have hfr:∀ i,i<2*m.length→(bL (aO l m m.length) i).fr.toNat<l.length∧(bL (aO l m m.length) i).no=i:=fun i hi=>by
  have:=eM (l:=l) hM hi;omega
 unfold outs;rw [SE _ _ (by rw [oE];exact Nat.le_refl _),if_pos hs,ED _ hfr]
theorem yM (hok:cM l m n=true){s:Nat}(hs:s<l.length):So (aO l m m.length) (bE (outs l m) s) 0 (bE (outs l m) s).length∧(bE (outs l m) s).Perm (TU (aO l m m.length) s (2*m.length)):=by
 obtain⟨hM,h3,h1,h4,h5,_,_⟩:=dM hok;rw [aFM hok hs];have hl:=K3 (aO l m m.length) s (2*m.length);have:=V8 (aFz hok) (f:=1000) (L:=TU (aO l m m.length) s (2*m.length)) (by omega) (fun i _ hi=>by
  have hm:aE (TU (aO l m m.length) s (2*m.length)) i∈TU (aO l m m.length) s (2*m.length):=by
   rw [bX hi];exact List.getElem_mem hi
  obtain⟨k,hk,e,_⟩:=NG hm;rw [e];omega)
 rw [qH];exact this
theorem iL (hok:cM l m n=true){s:Nat}(hs:s<l.length){x:Int}:x∈bE (outs l m) s↔∃ i:Nat,i<2*m.length∧x=i∧(bL (aO l m m.length) i).fr.toNat=s:=by
 rw [(yM hok hs).2.mem_iff];exact⟨NG,fun ⟨i,h1,h2,h3⟩=>by rw [h2];exact SU h1 h3⟩
theorem xQ (hok:cM l m n=true){s:Nat}(hs:s<l.length):(bE (outs l m) s).Nodup:=(yM hok hs).2.symm.nodup (Z8 _ _ _)
theorem vA {d:Int}{E:Nat}(h0:0≤d)(h1:d<(2*E:Nat)):0≤dO d∧dO d<(2*E:Nat):=by unfold dO;split <;> omega
theorem AW {d:Int}(h0:0≤d):dO (dO d)=d:=by unfold dO;split <;> split <;> omega
theorem yX (l:List Pt)(m:List Ed){d:Int}(h0:0≤d)(h1:d<(2*m.length:Nat)):(bL (aO l m m.length) (dO d).toNat).fr=(bL (aO l m m.length) d.toNat).tt∧(bL (aO l m m.length) (dO d).toNat).tt=(bL (aO l m m.length) d.toNat).fr∧eE (bL (aO l m m.length) (dO d).toNat)=AM (eE (bL (aO l m m.length) d.toNat)):=by
 obtain⟨hd1,hd2⟩:=GU l m (N:=m.length) (i:=d.toNat / 2) (by omega);unfold dO;by_cases e:d % 2=0
 ·rw [if_pos e,show (d+1).toNat=2*(d.toNat / 2)+1 by omega,show bL (aO l m m.length) d.toNat=dA l m (d.toNat / 2) by rw [← hd1];congr 1;omega,hd2];refine⟨rfl,rfl,?_⟩;simp only [eE,dA,dB,AM,Prod.mk.injEq];omega
 rw [if_neg e,show (d - 1).toNat=2*(d.toNat / 2) by omega,show bL (aO l m m.length) d.toNat=dB l m (d.toNat / 2) by rw [← hd2];congr 1;omega,hd1];refine⟨rfl,rfl,?_⟩;simp only [eE,dA,dB,AM,Prod.mk.injEq];omega
theorem JN {x:Int}:∀ {L:List Int} {i:Nat},x∈L→∃ k,k<L.length∧tD x L i=((i+k:Nat):Int)∧aE L k=x
 |[],i,h=>by cases h
 |b::r,i,h=>by
  unfold tD;by_cases e:x=b
  ·rw [if_pos e];exact⟨0,Nat.succ_pos _,rfl,e.symm⟩
  rw [if_neg e];rcases List.mem_cons.1 h with h|h
  ·exact absurd h e
  obtain⟨k,h1,h2,h3⟩:=JN (L:=r) (i:=i+1) h;refine⟨k+1,by simpa using h1,by rw [h2];congr 1;omega,?_⟩;rw [← h3];rfl
theorem qN (hok:cM l m n=true){d:Int}(h0:0≤d)(h1:d<(2*m.length:Nat)):∃ (s a:Nat),s=(bL (aO l m m.length) d.toNat).tt.toNat∧s<l.length∧UE (aO l m m.length) (outs l m) d=bE (outs l m) s∧a<(bE (outs l m) s).length ∧
  tD (dO d) (bE (outs l m) s) 0=a∧aE (bE (outs l m) s) a=dO d∧vU (aO l m m.length) (outs l m) d=aE (bE (outs l m) s) (if a=0 then (bE (outs l m) s).length - 1 else a - 1):=by
 obtain⟨hM,h3,h5,h4,h6,_,_⟩:=dM hok;have hf:=eM (l:=l) hM (i:=d.toNat) (by omega);have hb:=vA (E:=m.length) h0 h1;have hbd:=yX l m h0 h1;refine⟨(bL (aO l m m.length) d.toNat).tt.toNat,?_⟩;have hs:(bL (aO l m m.length) d.toNat).tt.toNat<l.length:=(by omega);have hmem:dO d∈bE (outs l m) (bL (aO l m m.length) d.toNat).tt.toNat:=(iL hok hs).2 ⟨(dO d).toNat,by omega,by omega,by rw [hbd.1]⟩;obtain⟨k,k1,k2,k3⟩:=JN (i:=0) hmem;rw [Nat.zero_add] at k2;refine⟨k,rfl,hs,rfl,k1,k2,k3,?_⟩;unfold vU UE;rw [k2];congr 1;split
 ·rename_i e;rw [e];have:((0:Nat):Int) - 1+((bE (outs l m) (bL (aO l m m.length) d.toNat).tt.toNat).length:Int)=(((bE (outs l m) (bL (aO l m m.length) d.toNat).tt.toNat).length - 1:Nat):Int):=(by omega);rw [this,Int.emod_eq_of_lt (by omega) (by omega)];rfl
 have:(k:Int) - 1+((bE (outs l m) (bL (aO l m m.length) d.toNat).tt.toNat).length:Int)=((k - 1:Nat):Int)+(bE (outs l m) (bL (aO l m m.length) d.toNat).tt.toNat).length:=(by omega);rw [this,Int.add_emod_right,Int.emod_eq_of_lt (by omega) (by omega)];rfl
theorem at_mem {L:List Int}{i:Nat}(h:i<L.length):aE L i∈L:=by rw [bX h];exact List.getElem_mem h
theorem IF (hok:cM l m n=true){d:Int}(h0:0≤d)(h1:d<(2*m.length:Nat)):0≤vU (aO l m m.length) (outs l m) d∧vU (aO l m m.length) (outs l m) d<(2*m.length:Nat)∧(bL (aO l m m.length) (vU (aO l m m.length) (outs l m) d).toNat).fr.toNat=(bL (aO l m m.length) d.toNat).tt.toNat:=by
 obtain⟨s,a,e1,hs,e2,ha,e3,e4,e5⟩:=qN hok h0 h1;rw [e5];have hi:(if a=0 then (bE (outs l m) s).length - 1 else a - 1)<(bE (outs l m) s).length:=(by split <;> omega);obtain⟨i,i1,i2,i3⟩:=(iL hok hs).1 (at_mem hi);rw [i2];exact⟨by omega,by omega,by rw [← e1];exact i3⟩
theorem yB {L:List Int}(h:L.Nodup){i j:Nat}(hi:i<L.length)(hj:j<L.length)(e:aE L i=aE L j):i=j:=by
 rw [bX hi,bX hj] at e;exact (List.getElem_inj h).1 e
theorem aHX (hok:cM l m n=true){d d':Int}(h0:0≤d)(h1:d<(2*m.length:Nat))(h0':0≤d')(h1':d'<(2*m.length:Nat))(e:vU (aO l m m.length) (outs l m) d=vU (aO l m m.length) (outs l m) d'):d=d':=by
 have hn:=(IF hok h0 h1).2.2;have hn':=(IF hok h0' h1').2.2;obtain⟨s,a,e1,hs,e2,ha,e3,e4,e5⟩:=qN hok h0 h1;obtain⟨s',a',e1',hs',e2',ha',e3',e4',e5'⟩:=qN hok h0' h1';have hss:s=s':=(by rw [e1,e1',← hn,← hn',e]);subst hss;rw [e5,e5'] at e;have:=yB (xQ hok hs) (by split <;> omega) (by split <;> omega) e;have haa:a=a':=by
  split at this <;> split at this <;> omega
 have hb:dO d=dO d':=(by rw [← e4,← e4',haa]);rw [← AW h0,hb,AW h0']
theorem aCH:∀ (n:Nat) (f:Nat→Nat),(∀ i,i≤n→f i<n)→∃ i j,i<j∧j≤n∧f i=f j
 |0,f,h=>by have:=h 0 (Nat.le_refl 0);omega
 |n+1,f,h=>by
  by_cases hc:∃ i,i≤n∧f i=f (n+1)
  ·obtain⟨i,h1,h2⟩:=hc;exact⟨i,n+1,by omega,Nat.le_refl _,h2⟩
  have hne:∀ i,i≤n→f i≠f (n+1):=fun i hi e=>hc ⟨i,hi,e⟩;obtain⟨i,j,h1,h2,h3⟩:=aCH n (fun i=>if f (n+1)<f i then f i - 1 else f i) (fun i hi=>by
   have a1:=h i (by omega);have a2:=h (n+1) (Nat.le_refl _);have a3:=hne i hi;show (if f (n+1)<f i then f i - 1 else f i)<n;split <;> omega)
  refine⟨i,j,h1,by omega,?_⟩;have a1:=hne i (by omega);have a2:=hne j h2;have h3:(if f (n+1)<f i then f i - 1 else f i)=(if f (n+1)<f j then f j - 1 else f j):=h3;split at h3 <;> split at h3 <;> omega
theorem p9 (hok:cM l m n=true){d:Int}(h0:0≤d)(h1:d<(2*m.length:Nat)):∀ i,0≤jT (aO l m m.length) (outs l m) d i∧jT (aO l m m.length) (outs l m) d i<(2*m.length:Nat)
 |0=>⟨h0,h1⟩
 |i+1=>by
  have ih:=p9 hok h0 h1 i;have:=IF hok ih.1 ih.2;exact⟨this.1,this.2.1⟩
theorem MT (hok:cM l m n=true){d:Int}(h0:0≤d)(h1:d<(2*m.length:Nat)):∀ (i k:Nat),jT (aO l m m.length) (outs l m) d i=jT (aO l m m.length) (outs l m) d (i+k)→d=jT (aO l m m.length) (outs l m) d k
 |0,k,h=>by rw [Nat.zero_add] at h;exact h
 |i+1,k,h=>by
  refine MT hok h0 h1 i k ?_;have a:=p9 hok h0 h1 i;have b:=p9 hok h0 h1 (i+k);refine aHX hok a.1 a.2 b.1 b.2 ?_;rw [show i+1+k=i+k+1 by omega] at h;exact h
theorem O9 (D:List Dt)(ls:List (List Int))(d:Int):∀ (k i N:Nat),i≤N→N<i+k→jT D ls d N=d→jT D ls d (GL D ls d k i)=d
 |0,i,N,h1,h2,_=>by omega
 |k+1,i,N,h1,h2,h3=>by
  unfold GL;split
  ·assumption
  rename_i h;refine O9 D ls d k (i+1) N ?_ (by omega) h3;rcases Nat.lt_or_ge i N with h4|h4
  ·exact h4
  exact absurd (by rw [show i=N by omega];exact h3) h
theorem BY (hok:cM l m n=true):aAR (aO l m m.length) (outs l m)=true:=by
 refine List.all_eq_true.2 fun d hd=>decide_eq_true ?_;have hd:=List.mem_range.1 hd;rw [a9] at hd;obtain⟨i,j,h1,h2,h3⟩:=aCH (2*m.length) (fun i=>(jT (aO l m m.length) (outs l m) d i).toNat) (fun i _=>by
  have:=p9 hok (d:=d) (by omega) (by omega) i;show (jT (aO l m m.length) (outs l m) d i).toNat<2*m.length;omega)
 have a:=p9 hok (d:=(d:Int)) (by omega) (by omega) i;have b:=p9 hok (d:=(d:Int)) (by omega) (by omega) j;have e:=MT hok (d:=(d:Int)) (by omega) (by omega) i (j - i) (by rw [show i+(j - i)=j by omega];have h3:(jT (aO l m m.length) (outs l m) d i).toNat=(jT (aO l m m.length) (outs l m) d j).toNat:=h3;omega);unfold iT;rw [a9];exact O9 _ _ _ _ 1 (j - i) (by omega) (by omega) e.symm
theorem aMi (hok:cM l m n=true):IJ l (aO l m m.length) (outs l m)=true:=by
 obtain⟨hM,h3,h5,h4,h6,_,_⟩:=dM hok;simp only [IJ,Bool.and_eq_true,decide_eq_true_eq];refine⟨⟨⟨⟨List.all_eq_true.2 fun p hp=>?_,List.all_eq_true.2 fun e he=>?_⟩,by rw [a9];omega⟩,eZ l m⟩,by omega⟩
 ·obtain⟨i,hi,rfl⟩:=List.getElem_of_mem hp;have:=mI hok hi;rw [E5 hi] at this;unfold wide;simp only [Bool.and_eq_true,decide_eq_true_eq];omega
 obtain⟨i,hi,rfl⟩:=List.getElem_of_mem he;rw [← pG hi];rw [a9] at hi;have:=eM (l:=l) hM hi;simp only [Bool.and_eq_true,decide_eq_true_eq];omega
theorem aBr (hok:cM l m n=true):xH l (aO l m m.length) (outs l m)=true:=by
 obtain⟨hM,h3,h5,h4,h6,_,_⟩:=dM hok;unfold xH;rw [aMi hok,Bool.true_and];refine List.all_eq_true.2 fun i hi=>?_;have hi:=List.mem_range.1 hi;rw [a9] at hi;have hn:=IF hok (d:=(i:Int)) (by omega) (by omega);obtain⟨s,a,e1,hs,e2,ha,e3,e4,e5⟩:=qN hok (d:=(i:Int)) (by omega) (by omega);have hf:=eM (l:=l) hM (i:=i) hi;have hlen:(bE (outs l m) s).length≤1000:=by
  have h7:=(yM hok hs).2.length_eq;have h8:=K3 (aO l m m.length) s (2*m.length);omega
 simp only [Bool.and_eq_true,decide_eq_true_eq];refine⟨?_,hn.1,by rw [a9];omega⟩;unfold nxB;rw [e2,e3,a9,eZ];simp only [Bool.and_eq_true,decide_eq_true_eq,Int.toNat_natCast];omega
theorem aJc (hok:cM l m n=true):Y5 (aO l m m.length) (outs l m)=true:=by
 obtain⟨hM,h3,h5,h4,h6,_,_⟩:=dM hok;refine List.all_eq_true.2 fun L hL=>?_;obtain⟨s,hs,rfl⟩:=List.getElem_of_mem hL;have hs':=hs;rw [eZ] at hs';have e:(outs l m)[s]=bE (outs l m) s:=by
  unfold bE;rw [List.getD_eq_getElem?_getD,List.getElem?_eq_getElem hs];rfl
 rw [e];have h7:=(yM hok hs').2.length_eq;have h8:=K3 (aO l m m.length) s (2*m.length);have h9:=WQ hok hs';simp only [Bool.and_eq_true,decide_eq_true_eq];refine⟨⟨by omega,by omega⟩,List.all_eq_true.2 fun x hx=>?_⟩;obtain⟨i,i1,i2,_⟩:=(iL hok hs').1 hx;simp only [Bool.and_eq_true,decide_eq_true_eq,a9];omega
end
set_option maxHeartbeats 2000000
theorem BW (n:Nat):∀ {h:Heap},gH h=true→gH (oP n h)=true
 |[],_=>rfl
 |(k,o)::r,h=>by
  simp only [gH,Bool.and_eq_true] at h;simp only [oP,gH,Bool.and_eq_true];refine⟨?_,BW n h.2⟩;cases o with
  |cells wr g sz cs=>rfl
  |_=>exact h.1
def aLO:Nat × XF:=(35,fun args h nx K=>∃ l m n p q,args=[mapA p q n]∧oM dC h p l∧oM dP h q m∧(l.length≤1000∧m.length≤1000) ∧
 ((aY l m n=true∧K (.tuple #[.pointer (some ⟨nx+7,0,none⟩),iv 0]) (app (oP nx (ZH l m (pL p) (pL q) n)) (eI h)) (nx+2004))∨(aY l m n=false∧K (.tuple #[.pointer none,iv 1]) h nx)))
theorem aN1:dJ Go.Proofs.Tryz.prog aLO.1 aLO.2:=by
 refine (jD (S:=fun args0 h0 n0 v1 h1 j=>∃ l m n c1 c2,(l.length≤1000∧m.length≤1000)∧args0=[l8 l.length m.length c1 c2 n]∧h0=bR dC dP l m∧n0=2 ∧
  ((aY l m n=true∧v1=.tuple #[.pointer (some ⟨7,0,none⟩),iv 0]∧h1=ZH l m c1 c2 n∧j=2004)∨(aY l m n=false∧v1=.tuple #[.pointer none,iv 1]∧h1=[]∧j=0))) (aK (xl:=[W4,K7,VF,YF,WR,(83,aI9)]) (.cons aMe (.cons aFF (.cons aHM (.cons aMg (.cons aM0 (.cons aLB .nil))))))) ?_).mono ?_ ?_
 ·rintro args0 h0 n0 v1 h1 j ⟨l,m,n,c1,c2,⟨hl,hm⟩,rfl,rfl,rfl,hc⟩;have hw:=w69 l m n c1 c2 hl hm fun hok=>⟨aBr hok,BY hok,aJc hok,(dM hok).2.2.1⟩;rcases hc with ⟨ho,rfl,rfl,rfl⟩|⟨ho,rfl,rfl,rfl⟩
  ·refine⟨BW 3 rM,_,hw,fun v h nx e=>?_⟩;rcases e with ⟨_,e⟩|⟨e,_⟩
   ·exact e
   rw [ho] at e;cases e
  refine⟨rfl,_,hw,fun v h nx e=>?_⟩;rcases e with ⟨e,_⟩|⟨_,rfl⟩
  ·rw [ho] at e;cases e
  exact lJ rfl
 ·rintro args h nx K ⟨l,m,n,p,q,rfl,hl,hm,hlm,hx⟩;rcases hx with ⟨ho,hx⟩|⟨ho,hx⟩
  ·refine⟨_,_,2,_,_,_,⟨l,m,n,pL p,pL q,hlm,rfl,rfl,rfl,.inl ⟨ho,rfl,rfl,rfl⟩⟩,M8 dC dP rfl hl hm,?_⟩;have e:fL (fun k=>nx+k) (.tuple #[.pointer (some ⟨7,0,none⟩),iv 0])=.tuple #[.pointer (some ⟨nx+7,0,none⟩),iv 0]:=(by simp [fL,tr,dW,bO,dY,jR];rfl);rw [e];exact hx
  refine⟨_,_,2,_,[],0,⟨l,m,n,pL p,pL q,hlm,rfl,rfl,rfl,.inr ⟨ho,rfl,rfl,rfl⟩⟩,M8 dC dP rfl hl hm,?_⟩;simp only [rZ,zL,oP,o5,Nat.add_zero];rw [iQ rfl];exact hx
 rintro args h nx K ⟨l,m,n,p,q,rfl,hl,hm,hlm,hx⟩;rcases hx with ⟨ho,hx⟩|⟨ho,hx⟩
 ·exact⟨_,_,_,hx,fun K' hk=>⟨l,m,n,p,q,rfl,hl,hm,hlm,.inl ⟨ho,hk⟩⟩⟩
 exact⟨_,_,_,hx,fun K' hk=>⟨l,m,n,p,q,rfl,hl,hm,hlm,.inr ⟨ho,hk⟩⟩⟩
def tU (p q:Pt):V2:=(p.1 - q.1,p.2 - q.2)
theorem HA (v a b:Pt):aL v a b=cr (tU a v) (tU b v):=rfl
theorem sM {a b:Pt}(h:fJ a b=true):jK a b = -1:=by
 rw [zN] at h;have h:=of_decide_eq_true h;rcases y9 a b with e|e|e <;> omega
theorem P8 (a:Pt):jK a a=0:=by
 unfold jK ZW gB;simp
theorem uN {s:Sg}(h:fJ s.1 s.2=true):bD s=s:=by
 have:=sM h;unfold bD;rw [this];simp
theorem aFn (a b:Pt):aL a b a=0:=by unfold aL;simp
theorem YD (a b:Pt):aL a b b=0:=by unfold aL;rw [Int.mul_comm];omega
theorem SO {s t:Sg}(h1:dR s=true)(h2:dR t=true)(l1:fJ s.1 s.2=true)(l2:fJ t.1 t.2=true)(e:s.1=t.1)(hc:aL s.1 s.2 t.2=0):iO s t=4:=by
 unfold iO;rw [if_pos ⟨h1,h2⟩];unfold fR aS;rw [hc,← e,aFn];rw [if_pos ⟨rfl,rfl⟩];unfold GM sJ;rw [uN l1,uN l2,← e,P8,if_neg (by omega)];split
 ·rw [e,sM l2];rfl
 rw [sM l1];rfl
theorem V1 {s t:Sg}(h1:dR s=true)(h2:dR t=true)(l1:fJ s.1 s.2=true)(l2:fJ t.1 t.2=true)(e:s.2=t.2)(hc:aL s.1 s.2 t.1=0):iO s t=4:=by
 unfold iO;rw [if_pos ⟨h1,h2⟩];unfold fR aS;rw [hc,← e,YD];rw [if_pos ⟨rfl,rfl⟩];unfold GM sJ;rw [uN l1,uN l2,show jK t.2 s.2=0 by rw [← e];exact P8 _,if_neg (c:=(0:Int)<0) (by omega)];split
 ·rw [e,sM l2];rfl
 rw [sM l1];rfl
section
variable {l:List Pt}{m:List Ed}{n:Int}
theorem kQ (hok:cM l m n=true){i:Nat}(hi:i<m.length):dR (aP l m i)=true∧fJ (aP l m i).1 (aP l m i).2=true:=by
 obtain⟨h1,h2,h3⟩:=sK hok hi;have h4:=H9 hok (i:=(cN m i).a.toNat) (j:=(cN m i).b.toNat) (by omega) (by omega);have pa:=mI hok (i:=(cN m i).a.toNat) (by omega);have pb:=mI hok (i:=(cN m i).b.toNat) (by omega);refine⟨?_,h4⟩;unfold dR aI;have hne:kT (aP l m i).1 (aP l m i).2=false:=by
  rw [iD];intro e;have h4:fJ (aP l m i).1 (aP l m i).2=true:=h4;rw [e] at h4;simp [fJ] at h4
 rw [hne];simp only [Bool.and_eq_true,decide_eq_true_eq,Bool.not_false,and_true];simp only [aP,kA];omega
theorem aAM (hp:gW l m n=true){i k:Nat}(hi:i<m.length)(hk:k<m.length)(hne:i≠k):iO (aP l m i) (aP l m k)≠4∨iO (aP l m k) (aP l m i)≠4:=by
 simp only [gW,Bool.and_eq_true] at hp;rcases Nat.lt_or_ge k i with h|h
 ·have:=dU (f:=fun k=>F6 l m i k) (dU (f:=fun i=>mW (fun k=>F6 l m i k) i) hp.2 hi) h;simp only [F6,Bool.or_eq_true,decide_eq_true_eq] at this;exact .inl (by omega)
 have:=dU (f:=fun i=>F6 l m k i) (dU (f:=fun i=>mW (fun k=>F6 l m i k) i) hp.2 hk) (show i<k by omega);simp only [F6,Bool.or_eq_true,decide_eq_true_eq] at this;exact .inr (by omega)
theorem xU (l:List Pt)(m:List Ed){i:Nat}(hi:i<2*m.length):eE (bL (aO l m m.length) i)=tU (kA l (bL (aO l m m.length) i).tt) (kA l (bL (aO l m m.length) i).fr):=by
 rcases jU (l:=l) (m:=m) hi with ⟨e,h⟩|⟨e,h⟩
 ·rw [h];rfl
 rw [h];rfl
theorem W7 {a b:V2}(h:ray a b):(0<a.1∨a.1=0∧0<a.2)→¬ (b.1<0∨b.1=0∧b.2<0):=by
 obtain⟨h1,h2⟩:=h;unfold cr at h1;unfold dt at h2;rintro h3 h4;rcases h3 with h3|⟨h3,h3'⟩
 ·rcases h4 with h4|⟨h4,h4'⟩
  ·-- b=(b1/a1) a,so that both products are negative
   have k1:a.1*b.1<0:=Int.mul_neg_of_pos_of_neg h3 h4;have k2:a.1*(a.2*b.2)=a.2*a.2*b.1:=by
    have:a.1*b.2=a.2*b.1:=(by omega);rw [Int.mul_left_comm,this,← Int.mul_assoc]
   have k3:a.2*a.2*b.1≤0:=Int.mul_nonpos_of_nonneg_of_nonpos (sq0 a.2) (Int.le_of_lt h4);have k4:0<a.2*b.2:=(by omega);have k5:=Int.mul_pos h3 k4;omega
  rw [h4] at h1 h2;have:a.1*b.2<0:=Int.mul_neg_of_pos_of_neg h3 h4';simp only [Int.mul_zero] at h1;omega
 rw [h3] at h1 h2;rcases h4 with h4|⟨h4,h4'⟩
 ·have:a.2*b.1<0:=Int.mul_neg_of_pos_of_neg h3' h4;simp only [Int.zero_mul] at h1;omega
 have:a.2*b.2<0:=Int.mul_neg_of_pos_of_neg h3' h4';simp only [Int.zero_mul] at h2;omega
theorem V9 (hok:cM l m n=true){i:Nat}(hi:i<2*m.length):(i % 2=0→0<(eE (bL (aO l m m.length) i)).1∨(eE (bL (aO l m m.length) i)).1=0∧0<(eE (bL (aO l m m.length) i)).2)∧(i % 2=1→(eE (bL (aO l m m.length) i)).1<0∨(eE (bL (aO l m m.length) i)).1=0∧(eE (bL (aO l m m.length) i)).2<0):=by
 have h4:=(kQ hok (i:=i / 2) (by omega)).2;unfold fJ at h4;simp only [Bool.or_eq_true,Bool.and_eq_true,decide_eq_true_eq] at h4;simp only [aP] at h4;rcases jU (l:=l) (m:=m) hi with ⟨e,h⟩|⟨e,h⟩
 ·rw [h];simp only [eE,dA];omega
 rw [h];simp only [eE,dB];omega
theorem LA {a b:V2}(h:ray a b):ray b a:=by
 obtain⟨h1,h2⟩:=h;refine⟨by rw [fA];omega,?_⟩;unfold dt at *;rw [Int.mul_comm b.1,Int.mul_comm b.2];exact h2
theorem aGh (hp:gW l m n=true){i k:Nat}(hi:i<2*m.length)(hk:k<2*m.length)(hf:(bL (aO l m m.length) i).fr=(bL (aO l m m.length) k).fr)(hr:ray (eE (bL (aO l m m.length) i)) (eE (bL (aO l m m.length) k))):i=k:=by
 have hok:=cH hp;have x1:=V9 hok hi;have x2:=V9 hok hk;have r1:=W7 hr;have r2:=W7 (LA hr);obtain⟨o1,o2⟩:=kQ hok (i:=i / 2) (by omega);obtain⟨o3,o4⟩:=kQ hok (i:=k / 2) (by omega);have par:i % 2=k % 2:=by
  rcases Nat.mod_two_eq_zero_or_one i with e|e <;> rcases Nat.mod_two_eq_zero_or_one k with e'|e'
  ·omega
  ·exact absurd (x2.2 e') (r1 (x1.1 e))
  ·exact absurd (x1.2 e) (r2 (x2.1 e'))
  omega
 by_cases he:i / 2=k / 2
 ·omega
 exfalso;have hm:=aAM hp (i:=i / 2) (k:=k / 2) (by omega) (by omega) he;have d1:=xU l m hi;have d2:=xU l m hk;rcases jU (l:=l) (m:=m) hi with ⟨e,h⟩|⟨e,h⟩ <;> rcases jU (l:=l) (m:=m) hk with ⟨e',h'⟩|⟨e',h'⟩
 ·rw [h,h'] at hf hr;have hv:(aP l m (i / 2)).1=(aP l m (k / 2)).1:=(by show kA l _=kA l _;exact congrArg (kA l) hf);have hc:aL (aP l m (i / 2)).1 (aP l m (i / 2)).2 (aP l m (k / 2)).2=0:=by
   rw [HA];have:=hr.1;rw [show tU (aP l m (k / 2)).2 (aP l m (i / 2)).1=eE (dA l m (k / 2)) by rw [hv];rfl];exact this
  have hc':aL (aP l m (k / 2)).1 (aP l m (k / 2)).2 (aP l m (i / 2)).2=0:=by
   rw [HA];have:=(LA hr).1;rw [show tU (aP l m (i / 2)).2 (aP l m (k / 2)).1=eE (dA l m (i / 2)) by rw [← hv];rfl];exact this
  rcases hm with hm|hm
  ·exact hm (SO o1 o3 o2 o4 hv hc)
  exact hm (SO o3 o1 o4 o2 hv.symm hc')
 ·omega
 ·omega
 rw [h,h'] at hf hr;have hv:(aP l m (i / 2)).2=(aP l m (k / 2)).2:=(by show kA l _=kA l _;exact congrArg (kA l) hf);have key:∀ (v a b:Pt),cr (tU a v) (tU b v)=0→aL a v b=0:=fun v a b hh=>by
  unfold cr tU at hh;unfold aL;simp only [Int.mul_sub,Int.sub_mul] at *;rw [Int.mul_comm v.2 v.1,Int.mul_comm v.2 b.1,Int.mul_comm v.2 a.1] at *;rw [Int.mul_comm a.2 b.1] at *;rw [Int.mul_comm a.2 v.1] at *;rw [Int.mul_comm a.2 a.1] at *;omega
 have hc:aL (aP l m (i / 2)).1 (aP l m (i / 2)).2 (aP l m (k / 2)).1=0:=by
  refine key _ _ _ ?_;have:=hr.1;rw [show tU (aP l m (k / 2)).1 (aP l m (i / 2)).2=eE (dB l m (k / 2)) by rw [hv];rfl];exact this
 have hc':aL (aP l m (k / 2)).1 (aP l m (k / 2)).2 (aP l m (i / 2)).1=0:=by
  refine key _ _ _ ?_;have:=(LA hr).1;rw [show tU (aP l m (i / 2)).1 (aP l m (k / 2)).2=eE (dB l m (i / 2)) by rw [← hv];rfl];exact this
 rcases hm with hm|hm
 ·exact hm (V1 o1 o3 o2 o4 hv hc)
 exact hm (V1 o3 o1 o4 o2 hv.symm hc')
end
theorem OP (v u w x:Pt):CK v u w x=true↔BJ (tU u v) (tU w v) (tU x v):=by
 have h1:∀ a b,QP v a b=rk (tU a v) (tU b v):=fun a b=>rfl;unfold CK BJ;rw [h1,h1,HA];split
 ·rename_i e;rw [decide_eq_true_iff];constructor
  ·exact fun h=>.inr ⟨e,h⟩
  rintro (h|⟨_,h⟩)
  ·omega
  exact h
 rename_i e;rw [decide_eq_true_iff];constructor
 ·exact fun h=>.inl h
 rintro (h|⟨h,_⟩)
 ·exact h
 exact absurd h e
section
variable {l:List Pt}{m:List Ed}{n:Int}
abbrev B2 (l:List Pt)(m:List Ed)(x:Int):V2:=eE (bL (aO l m m.length) x.toNat)
theorem aCy (hp:gW l m n=true){s:Nat}(hs:s<l.length){i j:Nat}(hij:i<j)(hj:j<(bE (outs l m) s).length):x9 (B2 l m (aE (bE (outs l m) s) i)) (B2 l m (aE (bE (outs l m) s) j)):=by
 have hok:=cH hp;have hso:=(yM hok hs).1 i j (Nat.zero_le _) hij hj;obtain⟨a,a1,a2,a3⟩:=(iL hok hs).1 (at_mem (show i<(bE (outs l m) s).length by omega));obtain⟨b,b1,b2,b3⟩:=(iL hok hs).1 (at_mem hj);have hne:a≠b:=fun e=>by
  have:=yB (xQ hok hs) (show i<_ by omega) hj (by rw [a2,b2,e]);omega
 have hM:=(dM hok).1;have fa:=eM (l:=l) hM a1;have fb:=eM (l:=l) hM b1;have na:=AZ hok a1;have nb:=AZ hok b1;unfold x8 at hso;rw [a2,b2] at hso ⊢;show x9 (eE (bL (aO l m m.length) ((a:Int)).toNat)) (eE (bL (aO l m m.length) ((b:Int)).toNat));rw [Int.toNat_natCast,Int.toNat_natCast];rcases Y6 na nb (fun hr=>hne (aGh hp a1 b1 (by omega) hr)) with h|h
 ·exact h
 exfalso;rw [(vL _ _ _).2 (by rw [Int.toNat_natCast,Int.toNat_natCast];exact h)] at hso;cases hso
theorem UZ (hp:gW l m n=true){d:Int}(h0:0≤d)(h1:d<(2*m.length:Nat)){x:Nat}(hx:x<2*m.length)(hfx:(bL (aO l m m.length) x).fr=(bL (aO l m m.length) d.toNat).tt)(hne:(x:Int)≠vU (aO l m m.length) (outs l m) d) :
  BJ (B2 l m (dO d)) (B2 l m (vU (aO l m m.length) (outs l m) d)) (B2 l m x):=by
 have hok:=cH hp;obtain⟨s,a,e1,hs,e2,ha,e3,e4,e5⟩:=qN hok h0 h1;have hb:=vA (E:=m.length) h0 h1;have hmem:(x:Int)∈bE (outs l m) s:=(iL hok hs).2 ⟨x,hx,rfl,by rw [hfx,e1]⟩;obtain⟨q,hq,hqe⟩:=List.getElem_of_mem hmem;rw [← bX hq] at hqe;have hord:∀ {i j:Nat},i<j→j<(bE (outs l m) s).length→x9 (B2 l m (aE (bE (outs l m) s) i)) (B2 l m (aE (bE (outs l m) s) j)):=fun hij hj=>aCy hp hs hij hj;have hnz:∀ {i:Nat},i<(bE (outs l m) s).length→nz (B2 l m (aE (bE (outs l m) s) i)):=fun {i} hi=>by
  obtain⟨c,c1,c2,_⟩:=(iL hok hs).1 (at_mem hi);rw [c2];show nz (eE (bL (aO l m m.length) ((c:Int)).toNat));rw [Int.toNat_natCast];exact AZ hok c1
 rw [e5] at hne ⊢;rw [← e4,← hqe];rw [← hqe] at hne;generalize bE (outs l m) s=L at *;by_cases ha0:a=0
 ·rw [if_pos ha0] at hne ⊢;have hqn:q≠L.length - 1:=fun e=>hne (by rw [e]);subst ha0;by_cases hq0:q=0
  ·rw [hq0];exact J5 (hnz ha) (hnz (by omega)) (.inl (hord (by omega) (by omega)))
  exact three (hnz ha) (hnz (by omega)) (hnz hq) (.inl ⟨hord (by omega) hq,hord (by omega) (by omega),hord (by omega) (by omega)⟩)
 rw [if_neg ha0] at hne ⊢;have hqn:q≠a - 1:=fun e=>hne (by rw [e]);by_cases hqa:q=a
 ·rw [hqa];exact J5 (hnz ha) (hnz (by omega)) (.inr (hord (by omega) ha))
 ·rcases Nat.lt_or_ge q a with h|h
  ·exact three (hnz ha) (hnz (by omega)) (hnz hq) (.inr (.inr ⟨hord (by omega) (by omega),hord (by omega) ha,hord (by omega) ha⟩))
  exact three (hnz ha) (hnz (by omega)) (hnz hq) (.inr (.inl ⟨hord (by omega) ha,hord (by omega) hq,hord (by omega) hq⟩))
theorem EB (l:List Pt)(m:List Ed){d:Int}(h0:0≤d)(h1:d<(2*m.length:Nat)):lS m d=(bL (aO l m m.length) d.toNat).fr∧AF m d=(bL (aO l m m.length) d.toNat).tt:=by
 have key:∀ {e:Int},0≤e→e<(2*m.length:Nat)→lS m e=(bL (aO l m m.length) e.toNat).fr:=fun {e} he0 he1=>by
  unfold lS;rcases jU (l:=l) (m:=m) (N:=m.length) (i:=e.toNat) (by omega) with ⟨x,h⟩|⟨x,h⟩
  ·rw [h,if_pos (by omega),show (e / 2).toNat=e.toNat / 2 by omega];rfl
  rw [h,if_neg (by omega),show (e / 2).toNat=e.toNat / 2 by omega];rfl
 refine⟨key h0 h1,?_⟩;have hb:=vA (E:=m.length) h0 h1;unfold AF;rw [show d+1 - 2*(d % 2)=dO d by unfold dO;split <;> omega,key hb.1 hb.2];exact (yX l m h0 h1).1
theorem aBn (hp:gW l m n=true){d:Int}(h0:0≤d)(h1:d<(2*m.length:Nat)){k:List Bool}(hk:∀ i,i<2*m.length→cV k i=true):rY l m k d (2*m.length)=vU (aO l m m.length) (outs l m) d:=by
 have hok:=cH hp;have hM:=(dM hok).1;have hn:=IF hok h0 h1;have hfd:=EB l m h0 h1;have hbd:=yX l m h0 h1;have hb:=vA (E:=m.length) h0 h1;have hfr:=eM (l:=l) hM (i:=d.toNat) (by omega);obtain⟨Y,hY⟩:∃ Y:Nat,vU (aO l m m.length) (outs l m) d=Y:=⟨(vU (aO l m m.length) (outs l m) d).toNat,by omega⟩;have hYl:Y<2*m.length:=(by omega);have hYf:=eM (l:=l) hM hYl;have hfY:(bL (aO l m m.length) Y).fr=(bL (aO l m m.length) d.toNat).tt:=by
  have:=hn.2.2;rw [hY,Int.toNat_natCast] at this;omega
 -- a dart's direction from the point
 have hv:∀ {x:Nat},x<2*m.length→(bL (aO l m m.length) x).fr=(bL (aO l m m.length) d.toNat).tt→tU (kA l (AF m x)) (kA l (AF m d))=B2 l m x:=fun {x} hx hf=>by
  have e:=EB l m (d:=(x:Int)) (by omega) (by omega);have e2:=xU l m hx;rw [hf] at e2;show _=eE (bL (aO l m m.length) ((x:Int)).toNat);rw [Int.toNat_natCast,e2,e.2,hfd.2,Int.toNat_natCast]
 have hu:tU (kA l (lS m d)) (kA l (AF m d))=B2 l m (dO d):=by
  have e2:=xU l m (i:=(dO d).toNat) (by omega);rw [hbd.1,hbd.2.1] at e2;rw [hfd.1,hfd.2];exact e2.symm
 have hc:∀ {x:Nat},x<2*m.length→(lS m x=AF m d↔(bL (aO l m m.length) x).fr=(bL (aO l m m.length) d.toNat).tt):=fun {x} hx=>by
  rw [(EB l m (d:=(x:Int)) (by omega) (by omega)).1,hfd.2,Int.toNat_natCast]
 have hsoon:∀ {x:Nat},x<2*m.length→(bL (aO l m m.length) x).fr=(bL (aO l m m.length) d.toNat).tt→x≠Y→CK (kA l (AF m d)) (kA l (lS m d)) (kA l (AF m Y)) (kA l (AF m x))=true∧CK (kA l (AF m d)) (kA l (lS m d)) (kA l (AF m x)) (kA l (AF m Y))=false:=fun {x} hx hf hne=>by
  have h:=UZ hp h0 h1 hx hf (by rw [hY];omega);rw [hY] at h;refine⟨(OP _ _ _ _).2 (by rw [hu,hv hYl hfY,hv hx hf];exact h),?_⟩;cases hq:CK (kA l (AF m d)) (kA l (lS m d)) (kA l (AF m x)) (kA l (AF m Y)) with
  |false=>rfl
  |true =>
   have:=(OP _ _ _ _).1 hq;rw [hu,hv hYl hfY,hv hx hf] at this;exact absurd this (wU h)
 have key:∀ j,j≤2*m.length→(Y<j→rY l m k d j=Y)∧(j≤Y→rY l m k d j = -1∨∃ c:Nat,c<j∧rY l m k d j=c∧(bL (aO l m m.length) c).fr=(bL (aO l m m.length) d.toNat).tt):=by
  intro j
  induction j with
  |zero=>exact fun _=>⟨fun h=>by omega,fun _=>.inl rfl⟩
  |succ j ih =>
   intro hj;obtain⟨i1,i2⟩:=ih (by omega);rcases Nat.lt_trichotomy j Y with h|h|h
   ·refine⟨fun h'=>by omega,fun _=>?_⟩;unfold rY;split
    ·rename_i hc';exact .inr ⟨j,Nat.lt_succ_self j,rfl,(hc (by omega)).1 hc'.1.2⟩
    ·rcases i2 (by omega) with e|⟨c,c1,c2,c3⟩
     ·exact .inl e
     exact .inr ⟨c,by omega,c2,c3⟩
   ·subst h;refine⟨fun _=>?_,fun h'=>by omega⟩;refine aMY ⟨⟨hk j hYl,(hc hYl).2 hfY⟩,?_⟩;rcases i2 (Nat.le_refl _) with e|⟨c,c1,c2,c3⟩
    ·exact .inl (by omega)
    rw [c2];exact .inr (hsoon (by omega) c3 (by omega)).1
   refine⟨fun _=>?_,fun h'=>by omega⟩;rw [aOd (fun hh=>?_),i1 h];obtain⟨⟨_,q1⟩,q2⟩:=hh;rw [i1 h] at q2;rcases q2 with q2|q2
   ·omega
   rw [(hsoon (by omega) ((hc (by omega)).1 q1) (by omega)).2] at q2;cases q2
 rw [(key _ (Nat.le_refl _)).1 hYl,hY]
end
theorem m8 (of w:List Int)(fc:Int)(hw:∀ t,t<w.length→(aE w t).toNat<of.length)(i:Nat):∀ k,k≤w.length→((∃ t,t<k∧(aE w t).toNat=i)→aE (fI of w fc k) i=fc)∧((¬ ∃ t,t<k∧(aE w t).toNat=i)→aE (fI of w fc k) i=aE of i)
 |0,_=>⟨fun ⟨t,h,_⟩=>by omega,fun _=>rfl⟩
 |k+1,hk=>by
  obtain⟨i1,i2⟩:=m8 of w fc hw i k (by omega);have hs:=TR (fI of w fc k) (aE w k).toNat fc i (by rw [jJ];exact hw k (by omega));unfold fI;rw [hs];by_cases e:i=(aE w k).toNat
  ·rw [if_pos e];exact⟨fun _=>rfl,fun h=>absurd ⟨k,Nat.lt_succ_self k,e.symm⟩ h⟩
  rw [if_neg e];refine⟨fun ⟨t,h1,h2⟩=>i1 ⟨t,?_,h2⟩,fun h=>i2 fun ⟨t,h1,h2⟩=>h ⟨t,by omega,h2⟩⟩;rcases Nat.lt_or_ge t k with h|h
  ·exact h
  exact absurd (by rw [← h2,show t=k by omega]) e
theorem m0 (L:List Bool)(x:Nat)(v:Bool)(i:Nat)(hx:x<L.length):cV (L.set x v) i=if i=x then v else cV L i:=by
 unfold cV;rw [List.getD_eq_getElem?_getD,List.getD_eq_getElem?_getD,List.getElem?_set];by_cases h:x=i
 ·subst h;simp [hx]
 rw [if_neg h,if_neg (fun e=>h e.symm)]
theorem mT (s:List Bool)(w:List Int)(hw:∀ t,t<w.length→(aE w t).toNat<s.length)(i:Nat):∀ k,k≤w.length→((∃ t,t<k∧(aE w t).toNat=i)→cV (fF s w k) i=true)∧((¬ ∃ t,t<k∧(aE w t).toNat=i)→cV (fF s w k) i=cV s i)
 |0,_=>⟨fun ⟨t,h,_⟩=>by omega,fun _=>rfl⟩
 |k+1,hk=>by
  obtain⟨i1,i2⟩:=mT s w hw i k (by omega);have hs:=m0 (fF s w k) (aE w k).toNat true i (by rw [kJ];exact hw k (by omega));unfold fF;rw [hs];by_cases e:i=(aE w k).toNat
  ·rw [if_pos e];exact⟨fun _=>rfl,fun h=>absurd ⟨k,Nat.lt_succ_self k,e.symm⟩ h⟩
  rw [if_neg e];refine⟨fun ⟨t,h1,h2⟩=>i1 ⟨t,?_,h2⟩,fun h=>i2 fun ⟨t,h1,h2⟩=>h ⟨t,by omega,h2⟩⟩;rcases Nat.lt_or_ge t k with h|h
  ·exact h
  exact absurd (by rw [← h2,show t=k by omega]) e
theorem W5 {f:Int→Int}{d:Int}{N T:Nat}:∀ {k i:Nat},i≤T→T≤i+k→(∀ t,i≤t→t<T→QG f d N t=true)→QG f d N T=false→aA8 f d N k i=T
 |0,i,h1,h2,_,_=>by unfold aA8;omega
 |k+1,i,h1,h2,h3,h4=>by
  unfold aA8;by_cases e:i=T
  ·rw [e,h4];rfl
  rw [h3 i (Nat.le_refl _) (by omega),if_pos rfl];exact W5 (by omega) (by omega) (fun t a b=>h3 t (by omega) b) h4
section
variable {l:List Pt}{m:List Ed}{n:Int}
theorem aAV {E i:Nat}(h:i<E):cV (List.replicate E true) i=true:=by
 unfold cV;rw [List.getD_eq_getElem?_getD,List.getElem?_replicate,if_pos h];rfl
theorem aCV (hp:gW l m n=true){d:Nat}(hd:d<2*m.length):R4 l m (List.replicate (2*m.length) true) d=kS (aO l m m.length) (outs l m) d:=by
 have hok:=cH hp;have hin:=p9 hok (d:=(d:Int)) (by omega) (by omega);have hx:∀ i,aAd (aFr l m (List.replicate (2*m.length) true)) d i=jT (aO l m m.length) (outs l m) d (i+1):=by
  intro i
  induction i with
  |zero=>exact aBn hp (by omega) (by omega) (fun i hi=>aAV hi)
  |succ i ih =>
   unfold aAd;rw [ih];have:=hin (i+1);exact aBn hp this.1 this.2 (fun i hi=>aAV hi)
 have hw:=List.all_eq_true.1 (BY hok) d (List.mem_range.2 (by rw [a9];exact hd));have hw:=of_decide_eq_true hw;obtain⟨p1,p2,p3⟩:=jI (aO l m m.length) (outs l m) d (aO l m m.length).length 1;unfold kS;unfold iT at hw ⊢;generalize GL (aO l m m.length) (outs l m) d (aO l m m.length).length 1=T at *;rw [a9] at p2;have hN:aA8 (aFr l m (List.replicate (2*m.length) true)) d (2*m.length) (2*m.length+2) 0=T - 1:=by
  refine W5 (Nat.zero_le _) (by omega) (fun t _ ht=>?_) ?_
  ·unfold QG;rw [hx];have a:=hin (t+1);have b:=p3 (t+1) (by omega) (by omega);rw [decide_eq_false b,decide_eq_true a.1,decide_eq_true (show t≤2*m.length by omega)];rfl
  unfold QG;rw [hx,show T - 1+1=T by omega,hw,decide_eq_true rfl];rfl
 unfold R4;rw [hN];unfold aLM;apply List.ext_getElem?;intro i;cases i with
 |zero =>
  rw [List.getElem?_cons_zero,List.getElem?_map,List.getElem?_range (by omega)];rfl
 |succ i =>
  rw [List.getElem?_cons_succ,List.getElem?_map,List.getElem?_map];by_cases h:i<T - 1
  ·rw [List.getElem?_range h,List.getElem?_range (by omega)];simp only [Option.map_some];rw [hx]
  rw [List.getElem?_eq_none (by rw [List.length_range];omega),List.getElem?_eq_none (by rw [List.length_range];omega)];rfl
theorem YA (l:List Pt)(m:List Ed){w:List Int}(hw:inR (aO l m m.length) w=true):∀ k,k≤w.length→WG l m w k=BH l (aO l m m.length) w k
 |0,_=>rfl
 |k+1,h=>by
  unfold WG BH;rw [YA l m hw k (by omega)];have hk:=sO hw (i:=k) (by omega);rw [a9] at hk;have:=EB l m hk.1 (by omega);unfold aHr LJ kA;rw [this.1,this.2]
structure Fre (m:List Ed) (s:Fst) (t:L6):Prop where
 len:s.of.length=2*m.length
 seen:t.seen.length=2*m.length
 face:t.face.length=2*m.length
 of:∀ i,i<2*m.length→(cV t.seen i=true∧0≤aE s.of i∧aE s.of i=aE t.face i)∨(cV t.seen i=false∧aE s.of i<0)
 many:s.faces=t.many
 low:0≤t.many
 out:s.outside=t.out
 ok:s.ok=!t.flat
theorem aBW (hp:gW l m n=true){s:Fst}{t:L6}(h:Fre m s t){d:Nat}(hd:d<2*m.length):Fre m (RV l m s d) (gI l (aO l m m.length) (outs l m) t d)∧cV (gI l (aO l m m.length) (outs l m) t d).seen d=true∧∀ i,cV t.seen i=true→i<2*m.length→cV (gI l (aO l m m.length) (outs l m) t d).seen i=true:=by
 have hok:=cH hp;unfold RV gI;rcases h.of d hd with ⟨h1,h2,h3⟩|⟨h1,h2⟩
 ·rw [if_pos h2,if_pos h1];exact⟨h,h1,fun i hi _=>hi⟩
 rw [if_neg (by omega),if_neg (by rw [h1];decide)];simp only;rw [aCV hp hd];have w:=aCq (l:=l) (aBr hok) (d:=d) (by rw [a9];exact hd);have hfirst:aE (kS (aO l m m.length) (outs l m) d) 0=d:=by
  unfold kS;unfold aE;rw [List.getD_eq_getElem?_getD,List.getElem?_map,List.getElem?_range (by
   have:=(jI (aO l m m.length) (outs l m) d (aO l m m.length).length 1).1;unfold iT;omega)]
  rfl
 generalize kS (aO l m m.length) (outs l m) d=W at w hfirst ⊢;rw [YA l m w.1 _ (Nat.le_refl _),h.many,h.out,h.ok];generalize BH l (aO l m m.length) W W.length=A;have hr:∀ t,t<W.length→(aE W t).toNat<2*m.length:=fun t ht=>by
  have:=sO w.1 (i:=t) ht;rw [a9] at this;omega
 have hset:∀ fc:Int,0≤fc→∀ i,i<2*m.length→(cV (fF t.seen W W.length) i=true∧0≤aE (fI s.of W fc W.length) i∧aE (fI s.of W fc W.length) i=aE (fI t.face W fc W.length) i)∨(cV (fF t.seen W W.length) i=false∧aE (fI s.of W fc W.length) i<0):=fun fc hfc i hi=>by
  obtain⟨a1,a2⟩:=m8 s.of W fc (by rw [h.len];exact hr) i _ (Nat.le_refl _);obtain⟨b1,b2⟩:=m8 t.face W fc (by rw [h.face];exact hr) i _ (Nat.le_refl _);obtain⟨c1,c2⟩:=mT t.seen W (by rw [h.seen];exact hr) i _ (Nat.le_refl _);by_cases e:∃ k,k<W.length∧(aE W k).toNat=i
  ·rw [a1 e,b1 e,c1 e];exact .inl ⟨rfl,hfc,rfl⟩
  rw [a2 e,b2 e,c2 e];exact h.of i hi
 refine⟨⟨by rw [jJ];exact h.len,by rw [kJ];exact h.seen,by rw [jJ];exact h.face,?_,rfl,?_,?_,?_⟩,?_,?_⟩
 ·have:=h.low;by_cases hA:0<A
  ·simp only [if_pos hA];exact hset _ (by omega)
  simp only [if_neg hA];exact hset _ (by omega)
 ·have:=h.low;show 0≤if 0<A then t.many+1 else t.many
  split <;> omega
 ·show (if A<0 then t.out+1 else t.out)=if 0<A then t.out else if A<0 then t.out+1 else t.out
  split <;> split <;> (first|rfl|omega)
 ·show (if A=0 then false else !t.flat)=!(if 0<A then t.flat else if A<0 then t.flat else true);by_cases hA:0<A
  ·rw [if_pos hA,if_neg (by omega)]
  by_cases hA2:A<0
  ·rw [if_neg hA,if_pos hA2,if_neg (by omega)]
  rw [if_neg hA,if_neg hA2,if_pos (by omega)];rfl
 ·exact (mT t.seen W (by rw [h.seen];exact hr) d _ (Nat.le_refl _)).1 ⟨0,by omega,by rw [hfirst];rfl⟩
 intro i hi hi2;obtain⟨c1,c2⟩:=mT t.seen W (by rw [h.seen];exact hr) i _ (Nat.le_refl _);by_cases e:∃ k,k<W.length∧(aE W k).toNat=i
 ·exact c1 e
 show cV (fF t.seen W W.length) i=true;rw [c2 e];exact hi
theorem EI (hp:gW l m n=true):∀ d,d≤2*m.length→Fre m (PY l m d) (bK l (aO l m m.length) (outs l m) d)∧∀ i,i<d→cV (bK l (aO l m m.length) (outs l m) d).seen i=true
 |0,_=>by
  refine⟨⟨by simp [PY],by simp [bK,a9],by simp [bK,a9],fun i hi=>.inr ?_,rfl,Int.le_refl 0,rfl,rfl⟩,fun i hi=>by omega⟩;unfold PY bK cV aE;rw [List.getD_eq_getElem?_getD,List.getD_eq_getElem?_getD,List.getElem?_replicate,List.getElem?_replicate,a9,if_pos hi,if_pos hi];exact⟨rfl,by decide⟩
 |d+1,h=>by
  obtain⟨i1,i2⟩:=EI hp d (by omega);obtain⟨a1,a2,a3⟩:=aBW hp i1 (d:=d) (by omega);refine⟨a1,fun i hi=>?_⟩;by_cases e:i=d
  ·rw [e];exact a2
  exact a3 i (i2 i (by omega)) (by omega)
theorem TJ {f g:Nat→Bool}{n:Nat}(h:∀ i,i<n→f i=g i):mW f n=mW g n:=by
 rw [Bool.eq_iff_iff];exact⟨fun a=>lD fun i hi=>by rw [← h i hi];exact dU a hi,fun a=>lD fun i hi=>by rw [h i hi];exact dU a hi⟩
theorem aEh (hp:gW l m n=true):(zY (dE l m)&&(decide ((dE l m).many=n)&&mW (G3 l m) m.length))=(aIX (nZ l m)&&(decide ((nZ l m).faces=n)&&mW (faB m (nZ l m).of) m.length)):=by
 obtain⟨_,_,_,_,_,hn,_⟩:=dM (cH hp);obtain⟨h1,h2⟩:=EI hp (2*m.length) (Nat.le_refl _);have e:dE l m=bK l (aO l m m.length) (outs l m) (2*m.length):=by
  unfold dE nmD;rw [a9]
 have hof:∀ i,i<2*m.length→aE (nZ l m).of i=aE (dE l m).face i:=fun i hi=>by
  rw [e];rcases h1.of i hi with ⟨_,_,h⟩|⟨h,_⟩
  ·exact h
  rw [h2 i hi] at h;cases h
 have hall:mW (G3 l m) m.length=mW (faB m (nZ l m).of) m.length:=by
  refine TJ fun i hi=>?_;unfold G3 faB;rw [hof (2*i) (by omega),hof (2*i+1) (by omega)]
 rw [hall];unfold zY aIX;have k1:(nZ l m).faces=(dE l m).many:=(by rw [e];exact h1.many);have k2:(nZ l m).outside=(dE l m).out:=(by rw [e];exact h1.out);have k3:(nZ l m).ok=!(dE l m).flat:=(by rw [e];exact h1.ok);rw [k1,k2,k3];by_cases hc:(dE l m).many=n
 ·rw [decide_eq_true hc,decide_eq_true (show 1≤(dE l m).many by omega)];cases decide ((dE l m).out=1) <;> cases (dE l m).flat <;> rfl
 rw [decide_eq_false hc];simp
end
end Go.Aw
end
