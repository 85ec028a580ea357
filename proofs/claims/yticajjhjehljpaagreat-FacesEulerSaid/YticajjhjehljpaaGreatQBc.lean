/-
  Parts of a proof. No condition.
-/
import Derived.Test.YticajjhjehljpaaGreatQAv
set_option linter.unusedSimpArgs false
set_option linter.unusedVariables false
noncomputable section
namespace Go.Aw
theorem PX (L:List Int)(x:Nat)(v:Int)(i:Nat)(hx:x<L.length):aH (L.set x v) i=if i=x then v else aH L i:=by
 unfold aH;rw [List.getD_eq_getElem?_getD,List.getD_eq_getElem?_getD,List.getElem?_set];by_cases h:x=i
 ·subst h;simp [hx]
 ·rw [if_neg h,if_neg (fun e=>h e.symm)]
theorem CT {L:List Int}{x y:Nat}(hx:x<L.length)(hy:y<L.length)(i:Nat):aH (lS L x y) i=if i=y then aH L x else if i=x then aH L y else aH L i:=by
 unfold lS;rw [PX _ _ _ _ (by rw [List.length_set];exact hy),PX _ _ _ _ hx]
theorem J6 {L:List Int}{a b:Nat}:∀ (n:Nat),a+n≤b→b+n≤L.length→∀ i,aH (nZ L a b n) i=if a≤i∧i<a+n then aH L (i - a+b) else if b≤i∧i<b+n then aH L (i - b+a) else aH L i
 |0,_,_,i=>by
  rw [if_neg (by omega),if_neg (by omega)];rfl
 |n+1,h1,h2,i=>by
  have hl:=gI L a b n;have ih:=J6 (L:=L) (a:=a) (b:=b) n (by omega) (by omega);unfold nZ;rw [CT (by omega) (by omega),ih,ih,ih];by_cases h3:i=b+n
  ·subst h3;rw [if_pos rfl,if_neg (by omega),if_neg (by omega),if_neg (by omega),if_pos (by omega)];congr 1;omega
  ·rw [if_neg h3];by_cases h4:i=a+n
   ·subst h4;rw [if_pos rfl,if_neg (by omega),if_neg (by omega),if_pos (by omega)];congr 1;omega
   ·rw [if_neg h4];by_cases h5:a≤i∧i<a+n
    ·rw [if_pos h5,if_pos (by omega)]
    ·rw [if_neg h5,if_neg (c:=a≤i∧i<a+(n+1)) (by omega)];by_cases h6:b≤i∧i<b+n
     ·rw [if_pos h6,if_pos (by omega)]
     ·rw [if_neg h6,if_neg (by omega)]
theorem J7 (m:Nat):∀ (k:Nat) (L:List Int) (i j:Nat),1≤i→1≤j→i≤m→m+j≤L.length→i+j≤k→∀ t,aH (bO m k L i j) t=if t<m - i then aH L t else if t<m - i+j then aH L (t - (m - i)+m) else if t<m+j then aH L (t - j) else aH L t
 |0,L,i,j,h1,h2,h3,h4,h5,t=>by omega
 |k+1,L,i,j,h1,h2,h3,h4,h5,t=>by
  unfold bO;by_cases e1:i=j
  ·rw [if_pos e1,J6 i (by omega) (by omega)];by_cases q1:t<m - i
   ·rw [if_pos q1,if_neg (by omega),if_neg (by omega)]
   ·rw [if_neg q1];by_cases q2:t<m - i+j
    ·rw [if_pos q2,if_pos (by omega)]
    ·rw [if_neg q2,if_neg (by omega)];by_cases q3:t<m+j
     ·rw [if_pos q3,if_pos (by omega)];congr 1;omega
     ·rw [if_neg q3,if_neg (by omega)]
  ·rw [if_neg e1];by_cases e2:j<i
   ·rw [if_pos e2,J7 m k _ (i - j) j (by omega) h2 (by omega) (by rw [gI];exact h4) (by omega) t];simp only [J6 (L:=L) (a:=m - i) (b:=m) j (by omega) (by omega)];by_cases q1:t<m - i
    ·rw [if_pos (by omega),if_neg (by omega),if_neg (by omega),if_pos q1]
    ·rw [if_neg q1];by_cases q2:t<m - i+j
     ·rw [if_pos (by omega),if_pos (by omega),if_pos q2]
     ·rw [if_neg q2];by_cases q3:t<m+j
      ·rw [if_pos q3,if_neg (by omega)];by_cases q4:t<m - (i - j)+j
       ·rw [if_pos q4,if_neg (by omega),if_pos (by omega)];rw [if_pos q3];exact congrArg (aH L) (by omega)
       ·rw [if_neg q4,if_pos q3,if_neg (by omega),if_neg (by omega)]
      ·rw [if_neg q3,if_neg (by omega),if_neg (by omega),if_neg q3,if_neg (by omega),if_neg (by omega)]
   ·rw [if_neg e2,J7 m k _ i (j - i) h1 (by omega) h3 (by rw [gI];omega) (by omega) t];simp only [J6 (L:=L) (a:=m - i) (b:=m+j - i) i (by omega) (by omega)];by_cases q1:t<m - i
    ·rw [if_pos q1,if_neg (by omega),if_neg (by omega),if_pos q1]
    ·rw [if_neg q1,if_neg q1];by_cases q2:t<m - i+j
     ·rw [if_pos q2];by_cases q5:t<m - i+(j - i)
      ·rw [if_pos q5,if_neg (by omega),if_neg (by omega)]
      ·rw [if_neg q5,if_pos (by omega),if_pos (by omega)];congr 1;omega
     ·rw [if_neg q2,if_neg (by omega),if_neg (by omega)];by_cases q3:t<m+j
      ·rw [if_pos q3,if_neg (by omega),if_pos (by omega)];congr 1;omega
      ·rw [if_neg q3,if_neg (by omega),if_neg (by omega)]
theorem QZ {L:List Int}{a:Nat}:∀ (n:Nat),a+n<L.length→∀ s,aH (WM L a n) s=if s<a then aH L s else if s<a+n then aH L (s+1) else if s=a+n then aH L a else aH L s
 |0,h,s=>by
  by_cases q1:s<a
  ·rw [if_pos q1];rfl
  ·rw [if_neg q1,if_neg (by omega)];by_cases q2:s=a
   ·rw [if_pos (by omega),q2];rfl
   ·rw [if_neg (by omega)];rfl
 |n+1,h,s=>by
  have hl:=(Y9 L a n (by omega)).len;have ih:=QZ (L:=L) (a:=a) n (by omega);unfold WM;rw [CT (by omega) (by omega),ih,ih,ih];by_cases q1:s<a
  ·rw [if_neg (by omega),if_neg (by omega),if_pos q1,if_pos q1]
  ·rw [if_neg q1,if_neg q1];by_cases q2:s=a+n+1
   ·rw [if_pos q2,if_neg (by omega),if_neg (by omega),if_pos rfl,if_neg (by omega),if_pos (by omega)]
   ·rw [if_neg q2];by_cases q3:s=a+n
    ·rw [if_pos q3,if_neg (by omega),if_neg (by omega),if_neg (by omega),if_pos (by omega),q3]
    ·rw [if_neg q3];by_cases q4:s<a+n
     ·rw [if_pos q4,if_pos (by omega)]
     ·rw [if_neg q4,if_neg q3,if_neg (by omega),if_neg (by omega)]
theorem PT {L:List Int}{m:Nat}(hm:m<L.length):∀ (n:Nat),n≤m→∀ s,aH (VM L m n) s=if s<m - n then aH L s else if s=m - n then aH L m else if s≤m then aH L (s - 1) else aH L s
 |0,h,s=>by
  by_cases q1:s<m
  ·rw [if_pos (by omega)];rfl
  ·rw [if_neg (by omega)];by_cases q2:s=m
   ·rw [if_pos (by omega),q2];rfl
   ·rw [if_neg (by omega),if_neg (by omega)];rfl
 |n+1,h,s=>by
  have hl:=(aBb L m hm n).len;have ih:=PT (L:=L) (m:=m) hm n (by omega);unfold VM;rw [CT (by omega) (by omega),ih,ih,ih];by_cases q1:s=m - n - 1
  ·rw [if_pos q1,if_neg (by omega),if_pos rfl,if_neg (by omega),if_pos (by omega)]
  ·rw [if_neg q1];by_cases q2:s=m - n
   ·rw [if_pos q2,if_pos (by omega),if_neg (by omega),if_neg (by omega),if_pos (by omega)];congr 1;omega
   ·rw [if_neg q2];by_cases q3:s<m - n
    ·rw [if_pos q3,if_pos (by omega)]
    ·rw [if_neg q3,if_neg q2];by_cases q4:s≤m
     ·rw [if_pos q4,if_neg (by omega),if_neg (by omega)]
     ·rw [if_neg q4,if_neg (by omega),if_neg (by omega)]
theorem MT {f:Nat→Bool}:∀ {k i j:Nat},j - i≤k→(∀ s t,i≤s→s≤t→t<j→f s=true→f t=true)→(∀ t,i≤t→t<tU f k i j→f t=false)∧(∀ t,tU f k i j≤t→t<j→f t=true)
 |0,i,j,hk,hm=>by
  unfold tU;exact⟨fun t h1 h2=>by omega,fun t h1 h2=>by omega⟩
 |k+1,i,j,hk,hm=>by
  unfold tU;by_cases h1:i<j
  ·rw [if_pos h1];cases hf:f ((i+j) / 2) with
   |true =>
    rw [if_pos rfl];have ih:=MT (f:=f) (k:=k) (i:=i) (j:=(i+j) / 2) (by omega) fun s t a b c=>hm s t a b (by omega);refine⟨ih.1,fun t h2 h3=>?_⟩;by_cases h4:t<(i+j) / 2
    ·exact ih.2 t h2 h4
    ·exact hm _ _ (by omega) (by omega) h3 hf
   |false =>
    rw [if_neg (by decide)];have ih:=MT (f:=f) (k:=k) (i:=(i+j) / 2+1) (j:=j) (by omega) fun s t a b c=>hm s t (by omega) b c;refine⟨fun t h2 h3=>?_,ih.2⟩;by_cases h4:t≤(i+j) / 2
    ·cases hq:f t with
     |false=>rfl
     |true=>have:=hm t _ h2 h4 (by omega) hq;rw [hf] at this;cases this
    ·exact ih.1 t (by omega) h3
  ·rw [if_neg h1];exact⟨fun t h2 h3=>by omega,fun t h2 h3=>by omega⟩
structure sX (a b:Nat) (L M:List Int):Prop where
 len:M.length=L.length
 out:∀ t,t<a∨b≤t→aH M t=aH L t
 inn:∀ t,a≤t→t<b→∃ s,a≤s∧s<b∧aH M t=aH L s
theorem sX.refl (a b:Nat)(L:List Int):sX a b L L:=⟨rfl,fun _ _=>rfl,fun t h1 h2=>⟨t,h1,h2,rfl⟩⟩
theorem sX.trans {a b:Nat}{L M N:List Int}(h1:sX a b L M)(h2:sX a b M N):sX a b L N :=
 ⟨h2.len.trans h1.len,fun t h=>(h2.out t h).trans (h1.out t h),fun t q1 q2=>by
  obtain⟨s,s1,s2,s3⟩:=h2.inn t q1 q2;obtain⟨u,u1,u2,u3⟩:=h1.inn s s1 s2;exact⟨u,u1,u2,s3.trans u3⟩⟩
theorem sX.wide {a b c d:Nat}{L M:List Int}(h:sX c d L M)(h1:a≤c)(h2:d≤b):sX a b L M :=
 ⟨h.len,fun t q=>h.out t (by omega),fun t q1 q2=>by
  by_cases hc:c≤t∧t<d
  ·obtain⟨s,s1,s2,s3⟩:=h.inn t hc.1 hc.2;exact⟨s,by omega,by omega,s3⟩
  ·exact⟨t,q1,q2,h.out t (by omega)⟩⟩
theorem aCl {L:List Int}{a b x y:Nat}(h1:a≤x)(h2:x<b)(h3:a≤y)(h4:y<b)(h5:b≤L.length):sX a b L (lS L x y):=by
 have hx:=CT (L:=L) (x:=x) (y:=y) (by omega) (by omega);refine⟨gL _ _ _,fun t h=>?_,fun t q1 q2=>?_⟩
 ·rw [hx,if_neg (by omega),if_neg (by omega)]
 ·rw [hx];by_cases e1:t=y
  ·rw [if_pos e1];exact⟨x,h1,h2,rfl⟩
  ·rw [if_neg e1];by_cases e2:t=x
   ·rw [if_pos e2];exact⟨y,h3,h4,rfl⟩
   ·rw [if_neg e2];exact⟨t,q1,q2,rfl⟩
theorem T4 {m k:Nat}{L:List Int}{i j a b:Nat}(h1:1≤i)(h2:1≤j)(h3:i≤m)(h4:m+j≤L.length)(h5:i+j≤k)(h6:a≤m - i)(h7:m+j≤b)(hl:(bO m k L i j).length=L.length):sX a b L (bO m k L i j):=by
 have hx:=J7 m k L i j h1 h2 h3 h4 h5;refine⟨hl,fun t h=>?_,fun t q1 q2=>?_⟩
 ·rw [hx];by_cases e1:t<m - i
  ·rw [if_pos e1]
  ·rw [if_neg e1,if_neg (by omega),if_neg (by omega)]
 ·rw [hx];by_cases e1:t<m - i
  ·rw [if_pos e1];exact⟨t,q1,q2,rfl⟩
  ·rw [if_neg e1];by_cases e2:t<m - i+j
   ·rw [if_pos e2];exact⟨_,by omega,by omega,rfl⟩
   ·rw [if_neg e2];by_cases e3:t<m+j
    ·rw [if_pos e3];exact⟨_,by omega,by omega,rfl⟩
    ·rw [if_neg e3];exact⟨t,q1,q2,rfl⟩
theorem aIv {L:List Int}{a b n:Nat}(h1:a+n<b)(h2:b≤L.length):sX a b L (WM L a n):=by
 have hx:=QZ (L:=L) (a:=a) n (by omega);refine⟨(Y9 L a n (by omega)).len,fun t h=>?_,fun t q1 q2=>?_⟩
 ·rw [hx];by_cases e1:t<a
  ·rw [if_pos e1]
  ·rw [if_neg e1,if_neg (by omega),if_neg (by omega)]
 ·rw [hx,if_neg (by omega)];by_cases e2:t<a+n
  ·rw [if_pos e2];exact⟨_,by omega,by omega,rfl⟩
  ·rw [if_neg e2];by_cases e3:t=a+n
   ·rw [if_pos e3];exact⟨a,by omega,by omega,rfl⟩
   ·rw [if_neg e3];exact⟨t,q1,q2,rfl⟩
theorem aIj {L:List Int}{a b m n:Nat}(h1:a+n≤m)(h3:m<b)(h2:b≤L.length):sX a b L (VM L m n):=by
 have hx:=PT (L:=L) (m:=m) (by omega) n (by omega);refine⟨(aBb L m (by omega) n).len,fun t h=>?_,fun t q1 q2=>?_⟩
 ·rw [hx];by_cases e1:t<m - n
  ·rw [if_pos e1]
  ·rw [if_neg e1,if_neg (by omega),if_neg (by omega)]
 ·rw [hx];by_cases e1:t<m - n
  ·rw [if_pos e1];exact⟨t,q1,q2,rfl⟩
  ·rw [if_neg e1];by_cases e2:t=m - n
   ·rw [if_pos e2];exact⟨m,by omega,by omega,rfl⟩
   ·rw [if_neg e2];by_cases e3:t≤m
    ·rw [if_pos e3];exact⟨_,by omega,by omega,rfl⟩
    ·rw [if_neg e3];exact⟨t,q1,q2,rfl⟩
theorem tD (D:CW):∀ (k:Nat) (L:List Int) (a m b:Nat),a<m→m<b→b≤L.length→sX a b L (aP D k L a m b)
 |0,L,a,_,b,_,_,_=>.refl a b L
 |k+1,L,a,m,b,h1,h2,h3=>by
  unfold aP;split
  ·have:=kO (f:=fun h=>!(iS D (aH L h) (aH L a))) (k:=b - m) (i:=m) (j:=b) (by omega);exact aIv (by omega) h3
  ·split
   ·have:=kO (f:=fun h=>iS D (aH L m) (aH L h)) (k:=m - a) (i:=a) (j:=m) (by omega);exact aIj (by omega) (by omega) h3
   ·have lo:=wK (D:=D) (L:=L) h1 h2;simp only;generalize stM D L a m b=st at lo;generalize he:(a+b) / 2+m - st=en at *;obtain⟨l1,l2,l3,l4,l5,l6⟩:=lo;have s1:sX a b L (if st<m∧m<en then bO m (m - st+(en - m)) L (m - st) (en - m) else L):=by
     split
     ·exact T4 (by omega) (by omega) (by omega) (by omega) (by omega) (by omega) (by omega) (rG _ _ _ _ _ (by omega) (by omega)).len
     ·exact .refl a b L
    generalize (if st<m∧m<en then bO m (m - st+(en - m)) L (m - st) (en - m) else L)=L1 at s1;have s2:sX a b L (if a<st∧st<(a+b) / 2 then aP D k L1 a st ((a+b) / 2) else L1):=by
     split
     ·exact s1.trans ((tD D k L1 _ _ _ (by omega) (by omega) (by have:=s1.len;omega)).wide (by omega) (by omega))
     ·exact s1
    generalize (if a<st∧st<(a+b) / 2 then aP D k L1 a st ((a+b) / 2) else L1)=L2 at s2;split
    ·exact s2.trans ((tD D k L2 _ _ _ (by omega) (by omega) (by have:=s2.len;omega)).wide (by omega) (by omega))
    ·exact s2
def yT (D:CW)(x y:Int):Prop:=iS D y x=false
def So (D:CW)(L:List Int)(a b:Nat):Prop:=∀ i j,a≤i→i<j→j<b→yT D (aH L i) (aH L j)
structure Ord (D:CW) (U:Int→Prop):Prop where
 trans:∀ x y z,U x→U y→U z→yT D x y→yT D y z→yT D x z
 asym:∀ x y,U x→U y→iS D x y=true→yT D x y
def GX (U:Int→Prop)(L:List Int)(a b:Nat):Prop:=∀ i,a≤i→i<b→U (aH L i)
theorem sX.EU {U:Int→Prop}{L M:List Int}{a b:Nat}(h:sX a b L M)(hU:GX U L a b):GX U M a b:=fun i h1 h2=>by
 obtain⟨s,s1,s2,s3⟩:=h.inn i h1 h2;rw [s3];exact hU s s1 s2
theorem So.XQ {D:CW}{L:List Int}{a b c d:Nat}(h:So D L a b)(h1:a≤c)(h2:d≤b):So D L c d:=fun i j q1 q2 q3=>h i j (by omega) q2 (by omega)
theorem So.congr {D:CW}{L M:List Int}{a b:Nat}(h:So D L a b)(he:∀ i,a≤i→i<b→aH M i=aH L i):So D M a b:=fun i j q1 q2 q3=>by
 rw [he i q1 (by omega),he j (by omega) q3];exact h i j q1 q2 q3
theorem Ord.aEb {D:CW}{U:Int→Prop}(hO:Ord D U){x y z:Int}(hx:U x)(hy:U y)(hz:U z)(h1:iS D x y=true)(h2:yT D y z):iS D x z=true:=by
 cases h:iS D x z with
 |true=>rfl
 |false =>
  have:yT D y x:=hO.trans y z x hy hz hx h2 h;unfold yT at this;rw [h1] at this;cases this
theorem Ord.aHq {D:CW}{U:Int→Prop}(hO:Ord D U){x y z:Int}(hx:U x)(hy:U y)(hz:U z)(h1:yT D x y)(h2:iS D y z=true):iS D x z=true:=by
 cases h:iS D x z with
 |true=>rfl
 |false =>
  have:yT D z y:=hO.trans z x y hz hx hy h h1;unfold yT at this;rw [h2] at this;cases this
section
variable {D:CW}{U:Int→Prop}
theorem S9 (hO:Ord D U)(a J:Nat):∀ (j:Nat) (L:List Int),a≤j→j≤J→J<L.length→GX U L a (J+1) →
  (∀ p q,a≤p→p<q→q≤J→p≠j→q≠j→yT D (aH L p) (aH L q))→(∀ q,j<q→q≤J→yT D (aH L j) (aH L q))→So D (tK D a L j) a (J+1)∧sX a (J+1) L (tK D a L j)
 |0,L,h1,h2,h3,hU,hA,hB=>by
  unfold tK;refine⟨fun i j q1 q2 q3=>?_,.refl _ _ _⟩;by_cases e:i=0
  ·subst e;exact hB j q2 (by omega)
  ·exact hA i j q1 q2 (by omega) e (by omega)
 |j+1,L,h1,h2,h3,hU,hA,hB=>by
  unfold tK;split
  ·rename_i hc;have hs:=CT (L:=L) (x:=j+1) (y:=j) (by omega) (by omega);have hg:sX a (J+1) L (lS L (j+1) j):=aCl (by omega) (by omega) (by omega) (by omega) (by omega);have ih:=S9 hO a J j (lS L (j+1) j) (by omega) (by omega) (by rw [gL];exact h3) (hg.EU hU) ?_ ?_
   ·exact⟨ih.1,hg.trans ih.2⟩
   ·intro p q q1 q2 q3 q4 q5;rw [hs,hs,if_neg q4,if_neg q5];by_cases e1:q=j+1
    ·rw [if_pos e1,if_neg (by omega)];exact hA p j q1 (by omega) (by omega) (by omega) (by omega)
    ·rw [if_neg e1];by_cases e2:p=j+1
     ·rw [if_pos e2];exact hA j q (by omega) (by omega) q3 (by omega) e1
     ·rw [if_neg e2];exact hA p q q1 q2 q3 e2 e1
   ·intro q q1 q2;rw [hs,hs,if_pos rfl,if_neg (by omega)];by_cases e1:q=j+1
    ·rw [if_pos e1];exact hO.asym _ _ (hU _ (by omega) (by omega)) (hU _ (by omega) (by omega)) hc.2
    ·rw [if_neg e1];exact hB q (by omega) q2
  ·rename_i hc;refine⟨fun p q q1 q2 q3=>?_,.refl _ _ _⟩;by_cases e1:p=j+1
   ·subst e1;exact hB q q2 (by omega)
   ·by_cases e2:q=j+1
    ·subst e2;have hle:yT D (aH L j) (aH L (j+1)):=by
      cases hq:iS D (aH L (j+1)) (aH L j) with
      |false=>exact hq
      |true=>exact absurd ⟨by omega,hq⟩ hc
     by_cases e3:p=j
     ·subst e3;exact hle
     ·exact hO.trans _ _ _ (hU _ q1 (by omega)) (hU _ (by omega) (by omega)) (hU _ (by omega) (by omega)) (hA p j q1 (by omega) (by omega) e1 (by omega)) hle
    ·exact hA p q q1 q2 (by omega) e1 e2
theorem IW (hO:Ord D U)(a:Nat)(L:List Int):∀ t,a+t<L.length→GX U L a (a+t+1)→So D (iR D a L t) a (a+t+1)∧sX a (a+t+1) L (iR D a L t)
 |0,h,hU=>⟨fun i j q1 q2 q3=>by omega,.refl _ _ _⟩
 |t+1,h,hU=>by
  obtain⟨i1,i2⟩:=IW hO a L t (by omega) fun i q1 q2=>hU i q1 (by omega);unfold iR;have g2:sX a (a+(t+1)+1) L (iR D a L t):=i2.wide (Nat.le_refl _) (by omega);have:=S9 hO a (a+1+t) (a+1+t) (iR D a L t) (by omega) (Nat.le_refl _) (by rw [i2.len];omega) (fun i q1 q2=>g2.EU hU i q1 (by omega)) (fun p q q1 q2 q3 q4 q5=>i1 p q q1 q2 (by omega)) (fun q q1 q2=>by omega);rw [show a+(t+1)+1=a+1+t+1 by omega] at *;exact⟨this.1,g2.trans this.2⟩
theorem JR (hO:Ord D U):∀ (k:Nat) (L:List Int) (a m b:Nat),a<m→m<b→b≤L.length→b - a≤k→GX U L a b→So D L a m→So D L m b→So D (aP D k L a m b) a b
 |0,L,a,m,b,h1,h2,h3,h4,_,_,_=>by omega
 |k+1,L,a,m,b,h1,h2,h3,h4,hU,sA,sB=>by
  unfold aP;split
  ·rename_i c1;have lo:=kO (f:=fun h=>!(iS D (aH L h) (aH L a))) (k:=b - m) (i:=m) (j:=b) (by omega);have sp:=MT (f:=fun h=>!(iS D (aH L h) (aH L a))) (k:=b - m) (i:=m) (j:=b) (Nat.le_refl _) (by
    intro s t q1 q2 q3 q4;have q4:iS D (aH L s) (aH L a)=false:=(by simpa using q4);show (!(iS D (aH L t) (aH L a)))=true;rw [show iS D (aH L t) (aH L a)=false from ?_]
    ·rfl
    by_cases e:s=t
    ·rw [← e];exact q4
    ·exact hO.trans (aH L a) (aH L s) (aH L t) (hU _ (by omega) (by omega)) (hU _ (by omega) (by omega)) (hU _ (by omega) (by omega)) q4 (sB s t q1 (by omega) q3))
   generalize tU (fun h=>!(iS D (aH L h) (aH L a))) (b - m) m b=r at lo sp ⊢;have hx:=QZ (L:=L) (a:=a) (r - 1 - a) (by omega);have hlow:∀ t,m≤t→t<r→yT D (aH L t) (aH L a):=fun t q1 q2=>by
    have:=sp.1 t q1 q2;simp only [Bool.not_eq_false'] at this;exact hO.asym _ _ (hU _ (by omega) (by omega)) (hU _ (by omega) (by omega)) this
   have hhi:∀ t,r≤t→t<b→yT D (aH L a) (aH L t):=fun t q1 q2=>by
    have:=sp.2 t q1 q2;simp only [Bool.not_eq_true'] at this;exact this
   intro i j q1 q2 q3;rw [hx,hx,if_neg (c:=i<a) (by omega),if_neg (c:=j<a) (by omega)];by_cases e1:i<a+(r - 1 - a)
   ·rw [if_pos e1];by_cases e2:j<a+(r - 1 - a)
    ·rw [if_pos e2];exact sB _ _ (by omega) (by omega) (by omega)
    ·rw [if_neg e2];by_cases e3:j=a+(r - 1 - a)
     ·rw [if_pos e3];exact hlow _ (by omega) (by omega)
     ·rw [if_neg e3];exact sB _ _ (by omega) (by omega) (by omega)
   ·rw [if_neg e1,if_neg (c:=j<a+(r - 1 - a)) (by omega),if_neg (c:=j=a+(r - 1 - a)) (by omega)];by_cases e3:i=a+(r - 1 - a)
    ·rw [if_pos e3];exact hhi _ (by omega) (by omega)
    ·rw [if_neg e3];exact sB _ _ (by omega) (by omega) (by omega)
  ·rename_i c1;split
   ·rename_i c2;have lo:=kO (f:=fun h=>iS D (aH L m) (aH L h)) (k:=m - a) (i:=a) (j:=m) (by omega);have sp:=MT (f:=fun h=>iS D (aH L m) (aH L h)) (k:=m - a) (i:=a) (j:=m) (Nat.le_refl _) (by
     intro s t q1 q2 q3 q4;by_cases e:s=t
     ·rw [← e];exact q4
     ·exact hO.aEb (hU _ (by omega) (by omega)) (hU _ (by omega) (by omega)) (hU _ (by omega) (by omega)) q4 (sA s t q1 (by omega) q3))
    generalize tU (fun h=>iS D (aH L m) (aH L h)) (m - a) a m=r at lo sp ⊢;have hx:=PT (L:=L) (m:=m) (by omega) (m - r) (by omega);have hlow:∀ t,a≤t→t<r→yT D (aH L t) (aH L m):=fun t q1 q2=>sp.1 t q1 q2;have hhi:∀ t,r≤t→t<m→yT D (aH L m) (aH L t):=fun t q1 q2=>hO.asym _ _ (hU _ (by omega) (by omega)) (hU _ (by omega) (by omega)) (sp.2 t q1 q2);intro i j q1 q2 q3;rw [hx,hx];by_cases e1:i<m - (m - r)
    ·rw [if_pos e1];by_cases e2:j<m - (m - r)
     ·rw [if_pos e2];exact sA _ _ (by omega) (by omega) (by omega)
     ·rw [if_neg e2];by_cases e3:j=m - (m - r)
      ·rw [if_pos e3];exact hlow _ (by omega) (by omega)
      ·rw [if_neg e3,if_pos (by omega)];exact sA _ _ (by omega) (by omega) (by omega)
    ·rw [if_neg e1,if_neg (c:=j<m - (m - r)) (by omega),if_neg (c:=j=m - (m - r)) (by omega),if_pos (c:=j≤m) (by omega)];by_cases e3:i=m - (m - r)
     ·rw [if_pos e3];exact hhi _ (by omega) (by omega)
     ·rw [if_neg e3,if_pos (by omega)];exact sA _ _ (by omega) (by omega) (by omega)
   ·rename_i c2;have lo:=wK (D:=D) (L:=L) h1 h2
    -- what the search warrants
    have sp:(∀ c,a≤c→c<stM D L a m b→(a+b) / 2+m - stM D L a m b<b→yT D (aH L c) (aH L ((a+b) / 2+m - stM D L a m b)))∧(stM D L a m b<m→m<(a+b) / 2+m - stM D L a m b→iS D (aH L ((a+b) / 2+m - stM D L a m b - 1)) (aH L (stM D L a m b))=true):=by
     have hmono:∀ lo hi:Nat,a≤lo→(a+b) / 2+m - b≤lo→hi≤m→hi≤(a+b) / 2→∀ s t,lo≤s→s≤t→t<hi→iS D (aH L ((a+b) / 2+m - 1 - s)) (aH L s)=true→iS D (aH L ((a+b) / 2+m - 1 - t)) (aH L t)=true:=by
      intro lo hi g1 g2 g3 g4 s t q1 q2 q3 q4;by_cases e:s=t
      ·rw [← e];exact q4
      ·have u1:=hO.aEb (hU _ (by omega) (by omega)) (hU _ (by omega) (by omega)) (hU _ (by omega) (by omega)) q4 (sA s t (by omega) (by omega) (by omega));exact hO.aHq (hU _ (by omega) (by omega)) (hU _ (by omega) (by omega)) (hU _ (by omega) (by omega)) (sB ((a+b) / 2+m - 1 - t) ((a+b) / 2+m - 1 - s) (by omega) (by omega) (by omega)) u1
     have key:∀ lo hi st:Nat,a≤lo→(a+b) / 2+m - b≤lo→lo≤hi→hi≤m→hi≤(a+b) / 2→(lo=a∨lo=(a+b) / 2+m - b)→(hi=m∨hi=(a+b) / 2)→st=tU (fun c=>iS D (aH L ((a+b) / 2+m - 1 - c)) (aH L c)) (hi - lo) lo hi →
       (∀ c,a≤c→c<st→(a+b) / 2+m - st<b→yT D (aH L c) (aH L ((a+b) / 2+m - st)))∧(st<m→m<(a+b) / 2+m - st→iS D (aH L ((a+b) / 2+m - st - 1)) (aH L st)=true):=by
      intro lo hi st g1 g2 g3 g4 g5 g6 g7 g8;have l0:=kO (f:=fun c=>iS D (aH L ((a+b) / 2+m - 1 - c)) (aH L c)) (k:=hi - lo) (i:=lo) (j:=hi) g3;have b0:=MT (f:=fun c=>iS D (aH L ((a+b) / 2+m - 1 - c)) (aH L c)) (k:=hi - lo) (i:=lo) (j:=hi) (Nat.le_refl _) (hmono lo hi g1 g2 g4 g5);rw [← g8] at l0 b0;refine⟨fun c q1 q2 q3=>?_,fun q1 q2=>?_⟩
      ·have u:=b0.1 (st - 1) (by omega) (by omega);have u:iS D (aH L ((a+b) / 2+m - 1 - (st - 1))) (aH L (st - 1))=false:=u;rw [show (a+b) / 2+m - 1 - (st - 1)=(a+b) / 2+m - st by omega] at u;by_cases e:c=st - 1
       ·rw [e];exact u
       ·exact hO.trans _ (aH L (st - 1)) _ (hU _ (by omega) (by omega)) (hU _ (by omega) (by omega)) (hU _ (by omega) (by omega)) (sA c (st - 1) q1 (by omega) (by omega)) u
      ·have u:=b0.2 st (Nat.le_refl _) (by omega);have u:iS D (aH L ((a+b) / 2+m - 1 - st)) (aH L st)=true:=u;rw [show (a+b) / 2+m - 1 - st=(a+b) / 2+m - st - 1 by omega] at u;exact u
     by_cases hc:(a+b) / 2<m
     ·exact key ((a+b) / 2+m - b) ((a+b) / 2) _ (by omega) (Nat.le_refl _) (by omega) (by omega) (Nat.le_refl _) (.inr rfl) (.inr rfl) (by unfold stM;simp only [if_pos hc])
     ·exact key a m _ (Nat.le_refl _) (by omega) (by omega) (Nat.le_refl _) (by omega) (.inl rfl) (.inl rfl) (by unfold stM;simp only [if_neg hc])
    simp only;generalize stM D L a m b=st at lo sp;generalize he:(a+b) / 2+m - st=en at *;obtain⟨l1,l2,l3,l4,l5,l6⟩:=lo;generalize hmid:(a+b) / 2=mid at *;have hlen1:(if st<m∧m<en then bO m (m - st+(en - m)) L (m - st) (en - m) else L).length=L.length:=by
     split
     ·exact (rG _ _ _ _ _ (by omega) (by omega)).len
     ·rfl
    have v1:∀ t,aH (if st<m∧m<en then bO m (m - st+(en - m)) L (m - st) (en - m) else L) t=if t<st then aH L t else if t<mid then aH L (t - st+m) else if t<en then aH L (t - (mid - st)) else aH L t:=by
     intro t;split
     ·rename_i hc;rw [J7 m _ L (m - st) (en - m) (by omega) (by omega) (by omega) (by omega) (Nat.le_refl _) t];rw [show m - (m - st)=st by omega,show st+(en - m)=mid by omega,show m+(en - m)=en by omega,show en - m=mid - st by omega]
     ·rename_i hc;by_cases e1:t<st
      ·rw [if_pos e1]
      ·rw [if_neg e1];by_cases e2:t<mid
       ·rw [if_pos e2,show t - st+m=t by omega]
       ·rw [if_neg e2];by_cases e3:t<en
        ·rw [if_pos e3,show t - (mid - st)=t by omega]
        ·rw [if_neg e3]
    have s1:sX a b L (if st<m∧m<en then bO m (m - st+(en - m)) L (m - st) (en - m) else L):=by
     split
     ·exact T4 (by omega) (by omega) (by omega) (by omega) (by omega) (by omega) (by omega) (rG _ _ _ _ _ (by omega) (by omega)).len
     ·exact .refl a b L
    generalize (if st<m∧m<en then bO m (m - st+(en - m)) L (m - st) (en - m) else L)=L1 at s1 hlen1 v1;have U1:=s1.EU hU
    -- both halves,and what lies between them
    have cross:∀ i j,a≤i→i<mid→mid≤j→j<b→yT D (aH L1 i) (aH L1 j):=by
     intro i j q1 q2 q3 q4;have hij:∀ x y,a≤x→x<m→m≤y→y<b→x<st→en≤y→yT D (aH L x) (aH L y):=by
      intro x y z1 z2 z3 z4 z5 z6;by_cases e:y=en
      ·rw [e];exact sp.1 x z1 z5 (by omega)
      ·exact hO.trans _ (aH L en) _ (hU _ z1 (by omega)) (hU _ (by omega) (by omega)) (hU _ (by omega) z4) (sp.1 x z1 z5 (by omega)) (sB en y (by omega) (by omega) z4)
     have hji:∀ y x,m≤y→y<en→st≤x→x<m→yT D (aH L y) (aH L x):=by
      intro y x z1 z2 z3 z4;have u:=hO.asym _ _ (hU _ (by omega) (by omega)) (hU _ (by omega) (by omega)) (sp.2 (by omega) (by omega));have u1:yT D (aH L y) (aH L st):=by
       by_cases e:y=en - 1
       ·rw [e];exact u
       ·exact hO.trans _ (aH L (en - 1)) _ (hU _ (by omega) (by omega)) (hU _ (by omega) (by omega)) (hU _ (by omega) (by omega)) (sB y (en - 1) z1 (by omega) (by omega)) u
      by_cases e:x=st
      ·rw [e];exact u1
      ·exact hO.trans _ (aH L st) _ (hU _ (by omega) (by omega)) (hU _ (by omega) (by omega)) (hU _ (by omega) (by omega)) u1 (sA st x (by omega) (by omega) z4)
     rw [v1,v1,if_neg (c:=j<st) (by omega),if_neg (c:=j<mid) (by omega)];by_cases e1:i<st
     ·rw [if_pos e1];by_cases e2:j<en
      ·rw [if_pos e2];exact sA _ _ q1 (by omega) (by omega)
      ·rw [if_neg e2];exact hij i j q1 (by omega) (by omega) q4 e1 (by omega)
     ·rw [if_neg e1,if_pos q2];by_cases e2:j<en
      ·rw [if_pos e2];exact hji _ _ (by omega) (by omega) (by omega) (by omega)
      ·rw [if_neg e2];exact sB _ _ (by omega) (by omega) q4
    have p1:So D L1 a st:=sA.XQ (Nat.le_refl _) l2 |>.congr fun i q1 q2=>by rw [v1,if_pos q2]
    have p2:So D L1 st mid:=fun i j q1 q2 q3=>by
     rw [v1,v1,if_neg (c:=i<st) (by omega),if_neg (c:=j<st) (by omega),if_pos (c:=i<mid) (by omega),if_pos (c:=j<mid) q3];exact sB _ _ (by omega) (by omega) (by omega)
    have p3:So D L1 mid en:=fun i j q1 q2 q3=>by
     rw [v1,v1,if_neg (c:=i<st) (by omega),if_neg (c:=i<mid) (by omega),if_neg (c:=j<st) (by omega),if_neg (c:=j<mid) (by omega),if_pos (c:=i<en) (by omega),if_pos (c:=j<en) q3];exact sA _ _ (by omega) (by omega) (by omega)
    have p4:So D L1 en b:=sB.XQ l4 (Nat.le_refl _) |>.congr fun i q1 q2=>by rw [v1,if_neg (by omega),if_neg (by omega),if_neg (by omega)]
    have w2:sX a mid L1 (if a<st∧st<mid then aP D k L1 a st mid else L1)∧So D (if a<st∧st<mid then aP D k L1 a st mid else L1) a mid:=by
     split
     ·exact⟨tD D k L1 _ _ _ (by omega) (by omega) (by omega),JR hO k L1 a st mid (by omega) (by omega) (by omega) (by omega) (fun i q1 q2=>U1 i q1 (by omega)) p1 p2⟩
     ·refine⟨.refl _ _ _,?_⟩;by_cases e:a<st
      ·rw [show mid=st by omega];exact p1
      ·rw [show a=st by omega];exact p2
    generalize (if a<st∧st<mid then aP D k L1 a st mid else L1)=L2 at w2;obtain⟨g2,o2⟩:=w2;have w3:sX mid b L2 (if mid<en∧en<b then aP D k L2 mid en b else L2)∧So D (if mid<en∧en<b then aP D k L2 mid en b else L2) mid b:=by
     have p3':So D L2 mid en:=p3.congr fun i q1 q2=>g2.out i (by omega);have p4':So D L2 en b:=p4.congr fun i q1 q2=>g2.out i (by omega);have hl2:=g2.len;split
     ·exact⟨tD D k L2 _ _ _ (by omega) (by omega) (by omega),JR hO k L2 mid en b (by omega) (by omega) (by omega) (by omega) (fun i q1 q2=>by rw [g2.out i (by omega)];exact U1 i (by omega) q2) p3' p4'⟩
     ·refine⟨.refl _ _ _,?_⟩;by_cases e:mid<en
      ·rw [show b=en by omega];exact p3'
      ·rw [show mid=en by omega];exact p4'
    generalize (if mid<en∧en<b then aP D k L2 mid en b else L2)=L3 at w3;obtain⟨g3,o3⟩:=w3;intro i j q1 q2 q3;by_cases e1:j<mid
    ·rw [g3.out i (by omega),g3.out j (by omega)];exact o2 i j q1 q2 e1
    ·by_cases e2:mid≤i
     ·exact o3 i j e2 q2 q3
     ·rw [g3.out i (by omega)];obtain⟨s,z1,z2,z3⟩:=g2.inn i q1 (by omega);obtain⟨u,y1,y2,y3⟩:=g3.inn j (by omega) q3;rw [z3,y3,g2.out u (by omega)];exact cross s u z1 z2 y1 y2
end
theorem aA2 {L:List Int}{x y:Nat}(hx:x<L.length)(hy:y<L.length):(lS L x y).Perm L:=by
 unfold lS;rw [jQ hx,jQ hy];exact List.set_set_perm hx hy
theorem Sw.perm {L M:List Int}(h:Sw L M):M.Perm L:=by
 induction h with
 |refl=>exact .refl _
 |step x y _ hx hy ih=>exact (aA2 hx hy).trans ih
inductive Bl (D:CW) (L:List Int) (bs n:Nat):Nat→Prop where
 |fin (a:Nat):n≤a→Bl D L bs n a
 |step (a:Nat):So D L a (min (a+bs) n)→Bl D L bs n (a+bs)→Bl D L bs n a
inductive Bp (D:CW) (L:List Int) (bs:Nat):Nat→Prop where
 |zero:Bp D L bs 0
 |step (a:Nat):Bp D L bs a→So D L a (a+bs)→Bp D L bs (a+bs)
section
variable {D:CW}{U:Int→Prop}{L M:List Int}{bs n a:Nat}
theorem Bl.congr (h:Bl D L bs n a)(he:∀ i,a≤i→aH M i=aH L i):Bl D M bs n a:=by
 induction h with
 |fin a h=>exact .fin a h
 |step a h1 h2 ih=>exact .step a (h1.congr fun i q1 q2=>he i q1) (ih fun i q=>he i (by omega))
theorem Bp.congr (h:Bp D L bs a)(he:∀ i,i<a→aH M i=aH L i):Bp D M bs a:=by
 induction h with
 |zero=>exact .zero
 |step a h1 h2 ih=>exact .step a (ih fun i q=>he i (by omega)) (h2.congr fun i q1 q2=>he i q2)
theorem Bp.join (h:Bp D L bs a):Bl D L bs n a→Bl D L bs n 0:=by
 induction h with
 |zero=>exact id
 |step a h1 h2 ih=>exact fun h=>ih (.step a (h2.XQ (Nat.le_refl _) (Nat.min_le_left _ _)) h)
theorem Bl.head (h:Bl D L bs n a):So D L a (min (a+bs) n):=by
 cases h with
 |fin _ h=>exact fun i j q1 q2 q3=>by omega
 |step _ h1 h2=>exact h1
theorem Bl.tail (h:Bl D L bs n a):Bl D L bs n (a+bs):=by
 cases h with
 |fin _ h=>exact .fin _ (by omega)
 |step _ h1 h2=>exact h2
theorem sX.low {b:Nat}(h:sX a b L M)(i:Nat)(hi:i<a):aH M i=aH L i:=h.out i (.inl hi)
theorem sX.high {b:Nat}(h:sX a b L M)(i:Nat)(hi:b≤i):aH M i=aH L i:=h.out i (.inr hi)
theorem UB (hO:Ord D U):∀ (k:Nat) (L:List Int) (a:Nat),n=L.length→GX U L 0 n→a≤n→n+1 - a≤k→Bp D L 20 a →
  (nX D n k L a).2≤n∧n<(nX D n k L a).2+20∧Bp D (nX D n k L a).1 20 (nX D n k L a).2∧sX 0 n L (nX D n k L a).1∧Sw L (nX D n k L a).1
 |0,L,a,hn,hU,ha,hk,hB=>by omega
 |k+1,L,a,hn,hU,ha,hk,hB=>by
  unfold nX;split
  ·rename_i hc;have h1:=IW hO a L 19 (by omega) (fun i q1 q2=>hU i (by omega) (by omega));have e:a+20 - 1 - a=19:=(by omega);rw [e];have g:=h1.2.wide (a:=0) (b:=n) (by omega) (by omega);have ih:=UB hO k (iR D a L 19) (a+20) (by rw [h1.2.len];exact hn) (g.EU hU) hc (by omega) (.step a (hB.congr fun i q=>h1.2.low i q) h1.1);exact⟨ih.1,ih.2.1,ih.2.2.1,g.trans ih.2.2.2.1,(IL D a L 19 (by omega)).trans ih.2.2.2.2⟩
  ·exact⟨ha,by omega,hB,.refl _ _ _,.refl _⟩
theorem S5 (hO:Ord D U){f:Nat}(hf:n≤f)(hb:1≤bs):∀ (k:Nat) (L:List Int) (a:Nat),n=L.length→GX U L 0 n→a≤n→n+1 - a≤k→Bp D L (2*bs) a→Bl D L bs n a →
  (qG D f n bs k L a).2≤n∧n<(qG D f n bs k L a).2+2*bs∧Bp D (qG D f n bs k L a).1 (2*bs) (qG D f n bs k L a).2∧Bl D (qG D f n bs k L a).1 bs n (qG D f n bs k L a).2∧sX 0 n L (qG D f n bs k L a).1∧Sw L (qG D f n bs k L a).1
 |0,L,a,hn,hU,ha,hk,hB,hC=>by omega
 |k+1,L,a,hn,hU,ha,hk,hB,hC=>by
  unfold qG;split
  ·rename_i hc;have s1:=hC.head;have s2:=hC.tail.head;have g1:=tD D f L a (a+bs) (a+2*bs) (by omega) (by omega) (by omega);have o1:=JR hO f L a (a+bs) (a+2*bs) (by omega) (by omega) (by omega) (by omega) (fun i q1 q2=>hU i (by omega) (by omega)) (s1.XQ (Nat.le_refl _) (by omega)) (s2.XQ (Nat.le_refl _) (by omega));have w1:=lK D f L a (a+bs) (a+2*bs) (by omega) (by omega) (by omega);generalize aP D f L a (a+bs) (a+2*bs)=L1 at g1 o1 w1;have g:=g1.wide (a:=0) (b:=n) (by omega) (by omega);have ht:=hC.tail.tail;rw [show a+bs+bs=a+2*bs by omega] at ht;have ih:=S5 hO hf hb k L1 (a+2*bs) (by rw [g1.len];exact hn) (g.EU hU) hc (by omega) (.step a (hB.congr fun i q=>g1.low i q) o1) (ht.congr fun i q=>g1.high i q);exact⟨ih.1,ih.2.1,ih.2.2.1,ih.2.2.2.1,g.trans ih.2.2.2.2.1,w1.trans ih.2.2.2.2.2⟩
  ·exact⟨ha,by omega,hB,hC,.refl _ _ _,.refl _⟩
theorem aBV (hO:Ord D U){f:Nat}(hf:n≤f)(hb:1≤bs){L:List Int}{a:Nat}(hn:n=L.length)(hU:GX U L 0 n)(ha:a≤n)(hn2:n<a+2*bs)(hB:Bp D L (2*bs) a)(hC:Bl D L bs n a) :
  Bl D (u6 D f n bs (L,a)) (2*bs) n 0∧sX 0 n L (u6 D f n bs (L,a))∧Sw L (u6 D f n bs (L,a)):=by
 unfold u6;split
 ·rename_i hc;simp only at hc;have s1:=hC.head;have s2:=hC.tail.head;have g1:=tD D f L a (a+bs) n (by omega) (by omega) (by omega);have o1:=JR hO f L a (a+bs) n (by omega) (by omega) (by omega) (by omega) (fun i q1 q2=>hU i (by omega) (by omega)) (s1.XQ (Nat.le_refl _) (by omega)) (s2.XQ (Nat.le_refl _) (by omega));have w1:=lK D f L a (a+bs) n (by omega) (by omega) (by omega);generalize aP D f L a (a+bs) n=L1 at g1 o1 w1;exact⟨(hB.congr fun i q=>g1.low i q).join (.step a (o1.XQ (Nat.le_refl _) (Nat.min_le_right _ _)) (.fin _ (by omega))),g1.wide (by omega) (Nat.le_refl _),w1⟩
 ·rename_i hc;simp only at hc;exact⟨hB.join (.step a (hC.head.XQ (Nat.le_refl _) (by omega)) (.fin _ (by omega))),.refl _ _ _,.refl _⟩
theorem TN (hO:Ord D U){f:Nat}(hf:n≤f):∀ (k:Nat) (L:List Int) (bs:Nat),1≤bs→n≤bs+k→n=L.length→GX U L 0 n→Bl D L bs n 0→So D (DC D f n k L bs) 0 n∧sX 0 n L (DC D f n k L bs)∧Sw L (DC D f n k L bs)
 |0,L,bs,hb,hk,hn,hU,hB=>⟨hB.head.XQ (Nat.le_refl _) (by omega),.refl _ _ _,.refl _⟩
 |k+1,L,bs,hb,hk,hn,hU,hB=>by
  unfold DC;split
  ·have h1:=S5 hO hf hb (n+1) L 0 hn hU (Nat.zero_le _) (by omega) .zero hB;generalize qG D f n bs (n+1) L 0=r at h1;obtain⟨L1,a⟩:=r;obtain⟨p1,p2,p3,p4,p5,p6⟩:=h1;have h2:=aBV hO hf hb (by rw [p5.len];exact hn) (p5.EU hU) p1 p2 p3 p4;obtain⟨r1,r2,r3⟩:=h2;rw [show bs*2=2*bs by omega];have ih:=TN hO hf k (u6 D f n bs (L1,a)) (2*bs) (by omega) (by omega) (by rw [r2.len,p5.len];exact hn) (r2.EU (p5.EU hU)) r1;exact⟨ih.1,(p5.trans r2).trans ih.2.1,(p6.trans r3).trans ih.2.2⟩
  ·exact⟨hB.head.XQ (Nat.le_refl _) (by omega),.refl _ _ _,.refl _⟩
theorem aCr (hO:Ord D U){f:Nat}{L:List Int}(hf:L.length≤f)(hU:GX U L 0 L.length):So D (qE D f L) 0 L.length∧(qE D f L).Perm L:=by
 unfold qE;have h1:=UB hO (L.length+1) L 0 rfl hU (Nat.zero_le _) (by omega) .zero;generalize nX D L.length (L.length+1) L 0=r at h1;obtain⟨L1,a⟩:=r;obtain⟨p1,p2,p3,p4,p5⟩:=h1;simp only at *;have h2:So D (iR D a L1 (L.length - 1 - a)) a L.length∧sX a L.length L1 (iR D a L1 (L.length - 1 - a))∧Sw L1 (iR D a L1 (L.length - 1 - a)):=by
  by_cases e:a=L.length
  ·rw [show L.length - 1 - a=0 by omega];exact⟨fun i j q1 q2 q3=>by omega,.refl _ _ _,.refl _⟩
  ·have:=IW hO a L1 (L.length - 1 - a) (by rw [p4.len];omega) (fun i q1 q2=>p4.EU hU i (by omega) (by omega));rw [show a+(L.length - 1 - a)+1=L.length by omega] at this;exact⟨this.1,this.2,IL D a L1 _ (by rw [p4.len];omega)⟩
 generalize iR D a L1 (L.length - 1 - a)=L2 at h2;obtain⟨o2,g2,w2⟩:=h2
 have h3:=TN hO hf (L.length+1) L2 20 (by omega) (by omega) (by rw [g2.len,p4.len]) ((g2.wide (Nat.zero_le _) (Nat.le_refl _)).EU (p4.EU hU))
  ((p3.congr fun i q=>g2.low i q).join (.step a (o2.XQ (Nat.le_refl _) (Nat.min_le_right _ _)) (.fin _ (by omega))))
 exact⟨h3.1,((p5.trans w2).trans h3.2.2).perm⟩
end
end Go.Aw
end

namespace Go.Aw
abbrev V2:=Int × Int
def cr (a b:V2):Int:=a.1*b.2 - a.2*b.1
def dt (a b:V2):Int:=a.1*b.1+a.2*b.2
def yD (a:V2):V2:=(-a.1,-a.2)
def up (a:V2):Prop:=0<a.2∨a.2=0∧0<a.1
def lo (a:V2):Prop:=a.2<0∨a.2=0∧a.1<0
instance (a:V2):Decidable (lo a):=inferInstanceAs (Decidable (_∨_))
theorem eK (a b:V2):cr b a = - cr a b:=by unfold cr;rw [Int.mul_comm b.1,Int.mul_comm b.2];omega
theorem aFh {a:V2}(h:lo a):up (yD a):=by unfold up yD;unfold lo at h;simp only;omega
theorem B2 (a b:V2):cr (yD a) b = - cr a b:=by unfold cr yD;simp only [Int.neg_mul];omega
theorem BZ (a b:V2):cr a (yD b) = - cr a b:=by unfold cr yD;simp only [Int.mul_neg];omega
theorem JB (a b:V2):dt (yD a) b = - dt a b:=by unfold dt yD;simp only [Int.neg_mul];omega
theorem JC (a b:V2):dt a (yD b) = - dt a b:=by unfold dt yD;simp only [Int.mul_neg];omega
theorem tQ {a b:Int}(hb:0<b)(h:0≤a*b):0≤a:=by
 rcases Int.lt_or_le a 0 with h1|h1
 ·have:=Int.mul_neg_of_neg_of_pos h1 hb;omega
 ·exact h1
theorem aHU (a b c:V2):cr a c*b.2=cr a b*c.2+cr b c*a.2:=by
 unfold cr;simp only [Int.sub_mul];have e1:a.1*c.2*b.2=a.1*b.2*c.2:=(by rw [Int.mul_assoc,Int.mul_comm c.2,← Int.mul_assoc]);have e2:a.2*c.1*b.2=b.2*c.1*a.2:=(by rw [Int.mul_comm (b.2*c.1),Int.mul_assoc,Int.mul_comm c.1]);have e3:a.2*b.1*c.2=b.1*c.2*a.2:=(by rw [Int.mul_assoc,Int.mul_comm]);omega
theorem E9 {a b c:V2}(ha:up a)(hb:up b)(hc:up c)(h1:0≤cr a b)(h2:0≤cr b c):0≤cr a c:=by
 have hid:=aHU a b c;have a2:0≤a.2:=(by unfold up at ha;omega);have c2:0≤c.2:=(by unfold up at hc;omega);rcases hb with hb|⟨hb,hb1⟩
 ·refine tQ hb ?_;rw [hid];have:=Int.mul_nonneg h1 c2;have:=Int.mul_nonneg h2 a2;omega
 ·have e1:cr a b = -(a.2*b.1):=(by unfold cr;rw [hb];omega);rw [e1] at h1;have:a.2=0:=by
   rcases Int.lt_or_le 0 a.2 with h|h
   ·have:=Int.mul_pos h hb1;omega
   ·omega
  have a1:0<a.1:=(by unfold up at ha;omega);unfold cr;rw [this];have:=Int.mul_nonneg (Int.le_of_lt a1) c2;omega
theorem kK {a b c:V2}(ha:up a)(hb:up b)(hc:up c)(h1:0≤cr a b)(h2:0≤cr b c)(h3:cr a c≤0):cr a b=0∧cr b c=0:=by
 have h4:0≤cr c a:=(by rw [eK];omega);have k1:=E9 hb hc ha h2 h4;have k2:=E9 hc ha hb h4 h1;rw [eK] at k1;rw [eK] at k2;omega
theorem KY {a b:V2}(ha:up a)(hb:up b)(h:cr a b=0):0<dt a b:=by
 unfold cr at h;unfold dt;rcases ha with ha|⟨ha,ha1⟩ <;> rcases hb with hb|⟨hb,hb1⟩
 ·-- a.1 b.2=a.2 b.1:same signs of a.1 and b.1
  have h2:=Int.mul_pos ha hb;have:0≤a.1*b.1:=by
   rcases Int.lt_or_le b.1 0 with h1|h1
   ·have:=Int.mul_neg_of_pos_of_neg ha h1;have h3:a.1<0:=by
     rcases Int.lt_or_le a.1 0 with h4|h4
     ·exact h4
     ·have:=Int.mul_nonneg h4 (Int.le_of_lt hb);omega
    exact Int.mul_nonneg_of_nonpos_of_nonpos (Int.le_of_lt h3) (Int.le_of_lt h1)
   ·have:=Int.mul_nonneg (Int.le_of_lt ha) h1;have h3:0≤a.1:=by
     refine tQ hb ?_;omega
    exact Int.mul_nonneg h3 h1
  omega
 ·rw [hb] at h;have:=Int.mul_pos ha hb1;omega
 ·rw [ha] at h;have:=Int.mul_pos ha1 hb;omega
 ·have:=Int.mul_pos ha1 hb1;rw [ha];omega
def vU (a b:V2):Prop:=(¬ lo a∧lo b)∨((lo a↔lo b)∧0<cr a b)
def rk (u w:V2):Int:=if cr u w<0 then 0 else if 0<cr u w then 2 else if dt u w<0 then 1 else 3
def z8 (u w x:V2):Prop:=rk u w<rk u x∨rk u w=rk u x∧cr w x<0
def nz (a:V2):Prop:=¬ (a.1=0∧a.2=0)
theorem aIe {a:V2}(h:nz a)(hl:¬ lo a):up a:=by unfold nz at h;unfold lo at hl;unfold up;omega
def uv (a:V2):V2:=if lo a then yD a else a
theorem tP {a:V2}(h:nz a):up (uv a):=by
 unfold uv;split
 ·rename_i hl;exact aFh hl
 ·rename_i hl;exact aIe h hl
theorem three {u y x:V2}(hu:nz u)(hy:nz y)(hx:nz x) :
  (vU u x∧vU x y∧vU u y)∨(vU y u∧vU u x∧vU y x)∨(vU x y∧vU y u∧vU x u)→z8 u y x:=by
 have hU:=tP hu;have hY:=tP hy;have hX:=tP hx;have f1:=fun h1 h2 h3=>kK hU hY hX h1 h2 h3;have f2:=fun h1 h2 h3=>kK hU hX hY h1 h2 h3;have f3:=fun h1 h2 h3=>kK hY hU hX h1 h2 h3;have f4:=fun h1 h2 h3=>kK hY hX hU h1 h2 h3;have f5:=fun h1 h2 h3=>kK hX hU hY h1 h2 h3;have f6:=fun h1 h2 h3=>kK hX hY hU h1 h2 h3;have d1:=fun h=>KY hU hY h;have d2:=fun h=>KY hU hX h;have n1:=eK (uv u) (uv y);have n2:=eK (uv u) (uv x);have n3:=eK (uv y) (uv x);have n4:=eK u y;have n5:=eK u x;have n6:=eK y x;unfold vU z8 rk
 by_cases lu:lo u <;> by_cases ly:lo y <;> by_cases lx:lo x <;>
  simp only [uv,lu,ly,lx,if_true,if_false,B2,BZ,JB,JC,not_true,not_false_iff,true_and,false_and,and_false,and_true,iff_true,true_iff,iff_false,false_or,or_false,not_false_eq_true,Int.neg_neg] at f1 f2 f3 f4 f5 f6 d1 d2 n1 n2 n3 ⊢ <;>
  (generalize cr u y=c1 at *;generalize cr u x=c2 at *;generalize cr y x=c3 at *;generalize dt u y=e1 at *;generalize dt u x=e2 at *;intro h;repeat' split) <;> omega
theorem aCi (a:V2):cr a a=0:=by unfold cr;rw [Int.mul_comm];omega
theorem XD {a b:V2}(h:vU a b):¬ vU b a:=by
 unfold vU at *;have:=eK a b;rintro (⟨h1,h2⟩|⟨h2,h3⟩) <;> rcases h with ⟨h4,h5⟩|⟨h5,h6⟩
 ·exact h1 h5
 ·exact h1 (h5.1 h2)
 ·exact h4 (h2.1 h5)
 ·omega
theorem RQ {a b c:V2}(ha:nz a)(hb:nz b)(hc:nz c)(h1:¬ vU b a)(h2:¬ vU c b):¬ vU c a:=by
 have hA:=tP ha;have hB:=tP hb;have hC:=tP hc;have f1:=fun h1 h2=>E9 hA hB hC h1 h2;have g1:=fun h1 h2 h3=>kK hA hB hC h1 h2 h3;have n1:=eK a b;have n2:=eK a c;have n3:=eK b c;unfold vU at *
 by_cases la:lo a <;> by_cases lb:lo b <;> by_cases lc:lo c <;>
  simp only [uv,la,lb,lc,if_true,if_false,B2,BZ,not_true,not_false_iff,true_and,false_and,and_false,and_true,iff_true,true_iff,iff_false,false_or,or_false,true_or,or_true,Int.neg_neg] at f1 g1 h1 h2 ⊢ <;> omega
def ray (a b:V2):Prop:=cr a b=0∧0<dt a b
theorem WD {a b:V2}(ha:nz a)(hb:nz b)(h:¬ ray a b):vU a b∨vU b a:=by
 have hA:=tP ha;have hB:=tP hb;have d:=fun h=>KY hA hB h;have n:=eK a b;unfold ray at h;unfold vU
 by_cases la:lo a <;> by_cases lb:lo b <;>
  simp only [uv,la,lb,if_true,if_false,B2,BZ,JB,JC,not_true,not_false_iff,true_and,false_and,and_false,and_true,iff_true,true_iff,iff_false,false_or,or_false,true_or,or_true,Int.neg_neg] at d h ⊢ <;> omega
theorem sq0 (a:Int):0≤a*a:=by
 rcases Int.le_total 0 a with h|h
 ·exact Int.mul_nonneg h h
 ·exact Int.mul_nonneg_of_nonpos_of_nonpos h h
theorem HA {u y:V2}(hu:nz u)(hy:nz y)(h:vU u y∨vU y u):z8 u y u:=by
 have hU:=tP hu;have hY:=tP hy;have d:=fun h=>KY hU hY h;have d2:0<dt u u:=by
  unfold dt;unfold nz at hu;have h1:=sq0 u.1;have h2:=sq0 u.2;by_cases h3:u.1=0
  ·have h4:u.2≠0:=fun h=>hu ⟨h3,h⟩;have:u.2*u.2≠0:=Int.mul_ne_zero h4 h4;omega
  ·have:u.1*u.1≠0:=Int.mul_ne_zero h3 h3;omega
 have n:=eK u y;have c0:=aCi u;unfold z8 rk;unfold vU at h;rw [c0]
 by_cases lu:lo u <;> by_cases ly:lo y <;>
  simp only [uv,lu,ly,if_true,if_false,B2,BZ,JB,JC,not_true,not_false_iff,true_and,false_and,and_false,and_true,iff_true,true_iff,iff_false,false_or,or_false,true_or,or_true,Int.neg_neg] at d h ⊢ <;> (repeat' split) <;> omega
theorem uV {u y x:V2}(h:z8 u y x):¬ z8 u x y:=by
 unfold z8 at *;have:=eK x y;omega
end Go.Aw
