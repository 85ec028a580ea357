/-
  Parts of a proof. No condition.
-/
import Derived.Test.YtjahkcbdecgbhaaGreatQAz
set_option linter.unusedSimpArgs false
set_option linter.unusedVariables false
noncomputable section
namespace Go.Aw
theorem R4 (L:List Int)(x:Nat)(v:Int)(i:Nat)(hx:x<L.length):aK (L.set x v) i=if i=x then v else aK L i:=by
 unfold aK;rw [List.getD_eq_getElem?_getD,List.getD_eq_getElem?_getD,List.getElem?_set];by_cases h:x=i
 ·subst h;simp [hx]
 ·rw [if_neg h,if_neg (fun e=>h e.symm)]
theorem GG {L:List Int}{x y:Nat}(hx:x<L.length)(hy:y<L.length)(i:Nat):aK (m7 L x y) i=if i=y then aK L x else if i=x then aK L y else aK L i:=by
 unfold m7;rw [R4 _ _ _ _ (by rw [List.length_set];exact hy),R4 _ _ _ _ hx]
theorem LU {L:List Int}{a b:Nat}:∀ (n:Nat),a+n≤b→b+n≤L.length→∀ i,aK (pK L a b n) i=if a≤i∧i<a+n then aK L (i - a+b) else if b≤i∧i<b+n then aK L (i - b+a) else aK L i
 |0,_,_,i=>by
  rw [if_neg (by omega),if_neg (by omega)];rfl
 |n+1,h1,h2,i=>by
  have hl:=iX L a b n;have ih:=LU (L:=L) (a:=a) (b:=b) n (by omega) (by omega);unfold pK;rw [GG (by omega) (by omega),ih,ih,ih];by_cases h3:i=b+n
  ·subst h3;rw [if_pos rfl,if_neg (by omega),if_neg (by omega),if_neg (by omega),if_pos (by omega)];congr 1;omega
  ·rw [if_neg h3];by_cases h4:i=a+n
   ·subst h4;rw [if_pos rfl,if_neg (by omega),if_neg (by omega),if_pos (by omega)];congr 1;omega
   ·rw [if_neg h4];by_cases h5:a≤i∧i<a+n
    ·rw [if_pos h5,if_pos (by omega)]
    ·rw [if_neg h5,if_neg (c:=a≤i∧i<a+(n+1)) (by omega)];by_cases h6:b≤i∧i<b+n
     ·rw [if_pos h6,if_pos (by omega)]
     ·rw [if_neg h6,if_neg (by omega)]
theorem L4 (m:Nat):∀ (k:Nat) (L:List Int) (i j:Nat),1≤i→1≤j→i≤m→m+j≤L.length→i+j≤k→∀ t,aK (bX m k L i j) t=if t<m - i then aK L t else if t<m - i+j then aK L (t - (m - i)+m) else if t<m+j then aK L (t - j) else aK L t
 |0,L,i,j,h1,h2,h3,h4,h5,t=>by omega
 |k+1,L,i,j,h1,h2,h3,h4,h5,t=>by
  unfold bX;by_cases e1:i=j
  ·rw [if_pos e1,LU i (by omega) (by omega)];by_cases q1:t<m - i
   ·rw [if_pos q1,if_neg (by omega),if_neg (by omega)]
   ·rw [if_neg q1];by_cases q2:t<m - i+j
    ·rw [if_pos q2,if_pos (by omega)]
    ·rw [if_neg q2,if_neg (by omega)];by_cases q3:t<m+j
     ·rw [if_pos q3,if_pos (by omega)];congr 1;omega
     ·rw [if_neg q3,if_neg (by omega)]
  ·rw [if_neg e1];by_cases e2:j<i
   ·rw [if_pos e2,L4 m k _ (i - j) j (by omega) h2 (by omega) (by rw [iX];exact h4) (by omega) t];simp only [LU (L:=L) (a:=m - i) (b:=m) j (by omega) (by omega)];by_cases q1:t<m - i
    ·rw [if_pos (by omega),if_neg (by omega),if_neg (by omega),if_pos q1]
    ·rw [if_neg q1];by_cases q2:t<m - i+j
     ·rw [if_pos (by omega),if_pos (by omega),if_pos q2]
     ·rw [if_neg q2];by_cases q3:t<m+j
      ·rw [if_pos q3,if_neg (by omega)];by_cases q4:t<m - (i - j)+j
       ·rw [if_pos q4,if_neg (by omega),if_pos (by omega)];rw [if_pos q3];exact congrArg (aK L) (by omega)
       ·rw [if_neg q4,if_pos q3,if_neg (by omega),if_neg (by omega)]
      ·rw [if_neg q3,if_neg (by omega),if_neg (by omega),if_neg q3,if_neg (by omega),if_neg (by omega)]
   ·rw [if_neg e2,L4 m k _ i (j - i) h1 (by omega) h3 (by rw [iX];omega) (by omega) t];simp only [LU (L:=L) (a:=m - i) (b:=m+j - i) i (by omega) (by omega)];by_cases q1:t<m - i
    ·rw [if_pos q1,if_neg (by omega),if_neg (by omega),if_pos q1]
    ·rw [if_neg q1,if_neg q1];by_cases q2:t<m - i+j
     ·rw [if_pos q2];by_cases q5:t<m - i+(j - i)
      ·rw [if_pos q5,if_neg (by omega),if_neg (by omega)]
      ·rw [if_neg q5,if_pos (by omega),if_pos (by omega)];congr 1;omega
     ·rw [if_neg q2,if_neg (by omega),if_neg (by omega)];by_cases q3:t<m+j
      ·rw [if_pos q3,if_neg (by omega),if_pos (by omega)];congr 1;omega
      ·rw [if_neg q3,if_neg (by omega),if_neg (by omega)]
theorem TT {L:List Int}{a:Nat}:∀ (n:Nat),a+n<L.length→∀ s,aK (ZM L a n) s=if s<a then aK L s else if s<a+n then aK L (s+1) else if s=a+n then aK L a else aK L s
 |0,h,s=>by
  by_cases q1:s<a
  ·rw [if_pos q1];rfl
  ·rw [if_neg q1,if_neg (by omega)];by_cases q2:s=a
   ·rw [if_pos (by omega),q2];rfl
   ·rw [if_neg (by omega)];rfl
 |n+1,h,s=>by
  have hl:=(aCr L a n (by omega)).len;have ih:=TT (L:=L) (a:=a) n (by omega);unfold ZM;rw [GG (by omega) (by omega),ih,ih,ih];by_cases q1:s<a
  ·rw [if_neg (by omega),if_neg (by omega),if_pos q1,if_pos q1]
  ·rw [if_neg q1,if_neg q1];by_cases q2:s=a+n+1
   ·rw [if_pos q2,if_neg (by omega),if_neg (by omega),if_pos rfl,if_neg (by omega),if_pos (by omega)]
   ·rw [if_neg q2];by_cases q3:s=a+n
    ·rw [if_pos q3,if_neg (by omega),if_neg (by omega),if_neg (by omega),if_pos (by omega),q3]
    ·rw [if_neg q3];by_cases q4:s<a+n
     ·rw [if_pos q4,if_pos (by omega)]
     ·rw [if_neg q4,if_neg q3,if_neg (by omega),if_neg (by omega)]
theorem Q9 {L:List Int}{m:Nat}(hm:m<L.length):∀ (n:Nat),n≤m→∀ s,aK (YB L m n) s=if s<m - n then aK L s else if s=m - n then aK L m else if s≤m then aK L (s - 1) else aK L s
 |0,h,s=>by
  by_cases q1:s<m
  ·rw [if_pos (by omega)];rfl
  ·rw [if_neg (by omega)];by_cases q2:s=m
   ·rw [if_pos (by omega),q2];rfl
   ·rw [if_neg (by omega),if_neg (by omega)];rfl
 |n+1,h,s=>by
  have hl:=(aAP L m hm n).len;have ih:=Q9 (L:=L) (m:=m) hm n (by omega);unfold YB;rw [GG (by omega) (by omega),ih,ih,ih];by_cases q1:s=m - n - 1
  ·rw [if_pos q1,if_neg (by omega),if_pos rfl,if_neg (by omega),if_pos (by omega)]
  ·rw [if_neg q1];by_cases q2:s=m - n
   ·rw [if_pos q2,if_pos (by omega),if_neg (by omega),if_neg (by omega),if_pos (by omega)];congr 1;omega
   ·rw [if_neg q2];by_cases q3:s<m - n
    ·rw [if_pos q3,if_pos (by omega)]
    ·rw [if_neg q3,if_neg q2];by_cases q4:s≤m
     ·rw [if_pos q4,if_neg (by omega),if_neg (by omega)]
     ·rw [if_neg q4,if_neg (by omega),if_neg (by omega)]
theorem O3 {f:Nat→Bool}:∀ {k i j:Nat},j - i≤k→(∀ s t,i≤s→s≤t→t<j→f s=true→f t=true)→(∀ t,i≤t→t<wQ f k i j→f t=false)∧(∀ t,wQ f k i j≤t→t<j→f t=true)
 |0,i,j,hk,hm=>by
  unfold wQ;exact⟨fun t h1 h2=>by omega,fun t h1 h2=>by omega⟩
 |k+1,i,j,hk,hm=>by
  unfold wQ;by_cases h1:i<j
  ·rw [if_pos h1];cases hf:f ((i+j) / 2) with
   |true =>
    rw [if_pos rfl];have ih:=O3 (f:=f) (k:=k) (i:=i) (j:=(i+j) / 2) (by omega) fun s t a b c=>hm s t a b (by omega);refine⟨ih.1,fun t h2 h3=>?_⟩;by_cases h4:t<(i+j) / 2
    ·exact ih.2 t h2 h4
    ·exact hm _ _ (by omega) (by omega) h3 hf
   |false =>
    rw [if_neg (by decide)];have ih:=O3 (f:=f) (k:=k) (i:=(i+j) / 2+1) (j:=j) (by omega) fun s t a b c=>hm s t (by omega) b c;refine⟨fun t h2 h3=>?_,ih.2⟩;by_cases h4:t≤(i+j) / 2
    ·cases hq:f t with
     |false=>rfl
     |true=>have:=hm t _ h2 h4 (by omega) hq;rw [hf] at this;cases this
    ·exact ih.1 t (by omega) h3
  ·rw [if_neg h1];exact⟨fun t h2 h3=>by omega,fun t h2 h3=>by omega⟩
structure vF (a b:Nat) (L M:List Int):Prop where
 len:M.length=L.length
 out:∀ t,t<a∨b≤t→aK M t=aK L t
 inn:∀ t,a≤t→t<b→∃ s,a≤s∧s<b∧aK M t=aK L s
theorem vF.refl (a b:Nat)(L:List Int):vF a b L L:=⟨rfl,fun _ _=>rfl,fun t h1 h2=>⟨t,h1,h2,rfl⟩⟩
theorem vF.trans {a b:Nat}{L M N:List Int}(h1:vF a b L M)(h2:vF a b M N):vF a b L N :=
 ⟨h2.len.trans h1.len,fun t h=>(h2.out t h).trans (h1.out t h),fun t q1 q2=>by
  obtain⟨s,s1,s2,s3⟩:=h2.inn t q1 q2;obtain⟨u,u1,u2,u3⟩:=h1.inn s s1 s2;exact⟨u,u1,u2,s3.trans u3⟩⟩
theorem vF.wide {a b c d:Nat}{L M:List Int}(h:vF c d L M)(h1:a≤c)(h2:d≤b):vF a b L M :=
 ⟨h.len,fun t q=>h.out t (by omega),fun t q1 q2=>by
  by_cases hc:c≤t∧t<d
  ·obtain⟨s,s1,s2,s3⟩:=h.inn t hc.1 hc.2;exact⟨s,by omega,by omega,s3⟩
  ·exact⟨t,q1,q2,h.out t (by omega)⟩⟩
theorem aEJ {L:List Int}{a b x y:Nat}(h1:a≤x)(h2:x<b)(h3:a≤y)(h4:y<b)(h5:b≤L.length):vF a b L (m7 L x y):=by
 have hx:=GG (L:=L) (x:=x) (y:=y) (by omega) (by omega);refine⟨jA _ _ _,fun t h=>?_,fun t q1 q2=>?_⟩
 ·rw [hx,if_neg (by omega),if_neg (by omega)]
 ·rw [hx];by_cases e1:t=y
  ·rw [if_pos e1];exact⟨x,h1,h2,rfl⟩
  ·rw [if_neg e1];by_cases e2:t=x
   ·rw [if_pos e2];exact⟨y,h3,h4,rfl⟩
   ·rw [if_neg e2];exact⟨t,q1,q2,rfl⟩
theorem UT {m k:Nat}{L:List Int}{i j a b:Nat}(h1:1≤i)(h2:1≤j)(h3:i≤m)(h4:m+j≤L.length)(h5:i+j≤k)(h6:a≤m - i)(h7:m+j≤b)(hl:(bX m k L i j).length=L.length):vF a b L (bX m k L i j):=by
 have hx:=L4 m k L i j h1 h2 h3 h4 h5;refine⟨hl,fun t h=>?_,fun t q1 q2=>?_⟩
 ·rw [hx];by_cases e1:t<m - i
  ·rw [if_pos e1]
  ·rw [if_neg e1,if_neg (by omega),if_neg (by omega)]
 ·rw [hx];by_cases e1:t<m - i
  ·rw [if_pos e1];exact⟨t,q1,q2,rfl⟩
  ·rw [if_neg e1];by_cases e2:t<m - i+j
   ·rw [if_pos e2];exact⟨_,by omega,by omega,rfl⟩
   ·rw [if_neg e2];by_cases e3:t<m+j
    ·rw [if_pos e3];exact⟨_,by omega,by omega,rfl⟩
    ·rw [if_neg e3];exact⟨t,q1,q2,rfl⟩
theorem aKx {L:List Int}{a b n:Nat}(h1:a+n<b)(h2:b≤L.length):vF a b L (ZM L a n):=by
 have hx:=TT (L:=L) (a:=a) n (by omega);refine⟨(aCr L a n (by omega)).len,fun t h=>?_,fun t q1 q2=>?_⟩
 ·rw [hx];by_cases e1:t<a
  ·rw [if_pos e1]
  ·rw [if_neg e1,if_neg (by omega),if_neg (by omega)]
 ·rw [hx,if_neg (by omega)];by_cases e2:t<a+n
  ·rw [if_pos e2];exact⟨_,by omega,by omega,rfl⟩
  ·rw [if_neg e2];by_cases e3:t=a+n
   ·rw [if_pos e3];exact⟨a,by omega,by omega,rfl⟩
   ·rw [if_neg e3];exact⟨t,q1,q2,rfl⟩
theorem aJG {L:List Int}{a b m n:Nat}(h1:a+n≤m)(h3:m<b)(h2:b≤L.length):vF a b L (YB L m n):=by
 have hx:=Q9 (L:=L) (m:=m) (by omega) n (by omega);refine⟨(aAP L m (by omega) n).len,fun t h=>?_,fun t q1 q2=>?_⟩
 ·rw [hx];by_cases e1:t<m - n
  ·rw [if_pos e1]
  ·rw [if_neg e1,if_neg (by omega),if_neg (by omega)]
 ·rw [hx];by_cases e1:t<m - n
  ·rw [if_pos e1];exact⟨t,q1,q2,rfl⟩
  ·rw [if_neg e1];by_cases e2:t=m - n
   ·rw [if_pos e2];exact⟨m,by omega,by omega,rfl⟩
   ·rw [if_neg e2];by_cases e3:t≤m
    ·rw [if_pos e3];exact⟨_,by omega,by omega,rfl⟩
    ·rw [if_neg e3];exact⟨t,q1,q2,rfl⟩
theorem vI (D:List Dt):∀ (k:Nat) (L:List Int) (a m b:Nat),a<m→m<b→b≤L.length→vF a b L (aU D k L a m b)
 |0,L,a,_,b,_,_,_=>.refl a b L
 |k+1,L,a,m,b,h1,h2,h3=>by
  unfold aU;split
  ·have:=lQ (f:=fun h=>!(jW D (aK L h) (aK L a))) (k:=b - m) (i:=m) (j:=b) (by omega);exact aKx (by omega) h3
  ·split
   ·have:=lQ (f:=fun h=>jW D (aK L m) (aK L h)) (k:=m - a) (i:=a) (j:=m) (by omega);exact aJG (by omega) (by omega) h3
   ·have lo:=zR (D:=D) (L:=L) h1 h2;simp only;generalize stM D L a m b=st at lo;generalize he:(a+b) / 2+m - st=en at *;obtain⟨l1,l2,l3,l4,l5,l6⟩:=lo;have s1:vF a b L (if st<m∧m<en then bX m (m - st+(en - m)) L (m - st) (en - m) else L):=by
     split
     ·exact UT (by omega) (by omega) (by omega) (by omega) (by omega) (by omega) (by omega) (uI _ _ _ _ _ (by omega) (by omega)).len
     ·exact .refl a b L
    generalize (if st<m∧m<en then bX m (m - st+(en - m)) L (m - st) (en - m) else L)=L1 at s1;have s2:vF a b L (if a<st∧st<(a+b) / 2 then aU D k L1 a st ((a+b) / 2) else L1):=by
     split
     ·exact s1.trans ((vI D k L1 _ _ _ (by omega) (by omega) (by have:=s1.len;omega)).wide (by omega) (by omega))
     ·exact s1
    generalize (if a<st∧st<(a+b) / 2 then aU D k L1 a st ((a+b) / 2) else L1)=L2 at s2;split
    ·exact s2.trans ((vI D k L2 _ _ _ (by omega) (by omega) (by have:=s2.len;omega)).wide (by omega) (by omega))
    ·exact s2
def BL (D:List Dt)(x y:Int):Prop:=jW D y x=false
def So (D:List Dt)(L:List Int)(a b:Nat):Prop:=∀ i j,a≤i→i<j→j<b→BL D (aK L i) (aK L j)
structure Ord (D:List Dt) (U:Int→Prop):Prop where
 trans:∀ x y z,U x→U y→U z→BL D x y→BL D y z→BL D x z
 asym:∀ x y,U x→U y→jW D x y=true→BL D x y
def IN (U:Int→Prop)(L:List Int)(a b:Nat):Prop:=∀ i,a≤i→i<b→U (aK L i)
theorem vF.ER {U:Int→Prop}{L M:List Int}{a b:Nat}(h:vF a b L M)(hU:IN U L a b):IN U M a b:=fun i h1 h2=>by
 obtain⟨s,s1,s2,s3⟩:=h.inn i h1 h2;rw [s3];exact hU s s1 s2
theorem So.nar {D:List Dt}{L:List Int}{a b c d:Nat}(h:So D L a b)(h1:a≤c)(h2:d≤b):So D L c d:=fun i j q1 q2 q3=>h i j (by omega) q2 (by omega)
theorem So.congr {D:List Dt}{L M:List Int}{a b:Nat}(h:So D L a b)(he:∀ i,a≤i→i<b→aK M i=aK L i):So D M a b:=fun i j q1 q2 q3=>by
 rw [he i q1 (by omega),he j (by omega) q3];exact h i j q1 q2 q3
theorem Ord.aGn {D:List Dt}{U:Int→Prop}(hO:Ord D U){x y z:Int}(hx:U x)(hy:U y)(hz:U z)(h1:jW D x y=true)(h2:BL D y z):jW D x z=true:=by
 cases h:jW D x z with
 |true=>rfl
 |false =>
  have:BL D y x:=hO.trans y z x hy hz hx h2 h;unfold BL at this;rw [h1] at this;cases this
theorem Ord.aKh {D:List Dt}{U:Int→Prop}(hO:Ord D U){x y z:Int}(hx:U x)(hy:U y)(hz:U z)(h1:BL D x y)(h2:jW D y z=true):jW D x z=true:=by
 cases h:jW D x z with
 |true=>rfl
 |false =>
  have:BL D z y:=hO.trans z x y hz hx hy h h1;unfold BL at this;rw [h2] at this;cases this
section
variable {D:List Dt}{U:Int→Prop}
theorem W1 (hO:Ord D U)(a J:Nat):∀ (j:Nat) (L:List Int),a≤j→j≤J→J<L.length→IN U L a (J+1) →
  (∀ p q,a≤p→p<q→q≤J→p≠j→q≠j→BL D (aK L p) (aK L q))→(∀ q,j<q→q≤J→BL D (aK L j) (aK L q))→So D (vV D a L j) a (J+1)∧vF a (J+1) L (vV D a L j)
 |0,L,h1,h2,h3,hU,hA,hB=>by
  unfold vV;refine⟨fun i j q1 q2 q3=>?_,.refl _ _ _⟩;by_cases e:i=0
  ·subst e;exact hB j q2 (by omega)
  ·exact hA i j q1 q2 (by omega) e (by omega)
 |j+1,L,h1,h2,h3,hU,hA,hB=>by
  unfold vV;split
  ·rename_i hc;have hs:=GG (L:=L) (x:=j+1) (y:=j) (by omega) (by omega);have hg:vF a (J+1) L (m7 L (j+1) j):=aEJ (by omega) (by omega) (by omega) (by omega) (by omega);have ih:=W1 hO a J j (m7 L (j+1) j) (by omega) (by omega) (by rw [jA];exact h3) (hg.ER hU) ?_ ?_
   ·exact⟨ih.1,hg.trans ih.2⟩
   ·intro p q q1 q2 q3 q4 q5;rw [hs,hs,if_neg q4,if_neg q5];by_cases e1:q=j+1
    ·rw [if_pos e1,if_neg (by omega)];exact hA p j q1 (by omega) (by omega) (by omega) (by omega)
    ·rw [if_neg e1];by_cases e2:p=j+1
     ·rw [if_pos e2];exact hA j q (by omega) (by omega) q3 (by omega) e1
     ·rw [if_neg e2];exact hA p q q1 q2 q3 e2 e1
   ·intro q q1 q2;rw [hs,hs,if_pos rfl,if_neg (by omega)];by_cases e1:q=j+1
    ·rw [if_pos e1];exact hO.asym _ _ (hU _ (by omega) (by omega)) (hU _ (by omega) (by omega)) hc.2
    ·rw [if_neg e1];exact hB q (by omega) q2
  ·rename_i hc;refine⟨fun p q q1 q2 q3=>?_,.refl _ _ _⟩;by_cases e1:p=j+1
   ·subst e1;exact hB q q2 (by omega)
   ·by_cases e2:q=j+1
    ·subst e2;have hle:BL D (aK L j) (aK L (j+1)):=by
      cases hq:jW D (aK L (j+1)) (aK L j) with
      |false=>exact hq
      |true=>exact absurd ⟨by omega,hq⟩ hc
     by_cases e3:p=j
     ·subst e3;exact hle
     ·exact hO.trans _ _ _ (hU _ q1 (by omega)) (hU _ (by omega) (by omega)) (hU _ (by omega) (by omega)) (hA p j q1 (by omega) (by omega) e1 (by omega)) hle
    ·exact hA p q q1 q2 (by omega) e1 e2
theorem MA (hO:Ord D U)(a:Nat)(L:List Int):∀ t,a+t<L.length→IN U L a (a+t+1)→So D (j0 D a L t) a (a+t+1)∧vF a (a+t+1) L (j0 D a L t)
 |0,h,hU=>⟨fun i j q1 q2 q3=>by omega,.refl _ _ _⟩
 |t+1,h,hU=>by
  obtain⟨i1,i2⟩:=MA hO a L t (by omega) fun i q1 q2=>hU i q1 (by omega);unfold j0;have g2:vF a (a+(t+1)+1) L (j0 D a L t):=i2.wide (Nat.le_refl _) (by omega);have:=W1 hO a (a+1+t) (a+1+t) (j0 D a L t) (by omega) (Nat.le_refl _) (by rw [i2.len];omega) (fun i q1 q2=>g2.ER hU i q1 (by omega)) (fun p q q1 q2 q3 q4 q5=>i1 p q q1 q2 (by omega)) (fun q q1 q2=>by omega);rw [show a+(t+1)+1=a+1+t+1 by omega] at *;exact⟨this.1,g2.trans this.2⟩
theorem MG (hO:Ord D U):∀ (k:Nat) (L:List Int) (a m b:Nat),a<m→m<b→b≤L.length→b - a≤k→IN U L a b→So D L a m→So D L m b→So D (aU D k L a m b) a b
 |0,L,a,m,b,h1,h2,h3,h4,_,_,_=>by omega
 |k+1,L,a,m,b,h1,h2,h3,h4,hU,sA,sB=>by
  unfold aU;split
  ·rename_i c1;have lo:=lQ (f:=fun h=>!(jW D (aK L h) (aK L a))) (k:=b - m) (i:=m) (j:=b) (by omega);have sp:=O3 (f:=fun h=>!(jW D (aK L h) (aK L a))) (k:=b - m) (i:=m) (j:=b) (Nat.le_refl _) (by
    intro s t q1 q2 q3 q4;have q4:jW D (aK L s) (aK L a)=false:=(by simpa using q4);show (!(jW D (aK L t) (aK L a)))=true;rw [show jW D (aK L t) (aK L a)=false from ?_]
    ·rfl
    by_cases e:s=t
    ·rw [← e];exact q4
    ·exact hO.trans (aK L a) (aK L s) (aK L t) (hU _ (by omega) (by omega)) (hU _ (by omega) (by omega)) (hU _ (by omega) (by omega)) q4 (sB s t q1 (by omega) q3))
   generalize wQ (fun h=>!(jW D (aK L h) (aK L a))) (b - m) m b=r at lo sp ⊢;have hx:=TT (L:=L) (a:=a) (r - 1 - a) (by omega);have hlow:∀ t,m≤t→t<r→BL D (aK L t) (aK L a):=fun t q1 q2=>by
    have:=sp.1 t q1 q2;simp only [Bool.not_eq_false'] at this;exact hO.asym _ _ (hU _ (by omega) (by omega)) (hU _ (by omega) (by omega)) this
   have hhi:∀ t,r≤t→t<b→BL D (aK L a) (aK L t):=fun t q1 q2=>by
    have:=sp.2 t q1 q2;simp only [Bool.not_eq_true'] at this;exact this
   intro i j q1 q2 q3;rw [hx,hx,if_neg (c:=i<a) (by omega),if_neg (c:=j<a) (by omega)];by_cases e1:i<a+(r - 1 - a)
   ·rw [if_pos e1];by_cases e2:j<a+(r - 1 - a)
    ·rw [if_pos e2];exact sB _ _ (by omega) (by omega) (by omega)
    ·rw [if_neg e2];by_cases e3:j=a+(r - 1 - a)
     ·rw [if_pos e3];exact hlow _ (by omega) (by omega)
     ·rw [if_neg e3];exact sB _ _ (by omega) (by omega) (by omega)
   ·rw [if_neg e1,if_neg (c:=j<a+(r - 1 - a)) (by omega),if_neg (c:=j=a+(r - 1 - a)) (by omega)];by_cases e3:i=a+(r - 1 - a)
    ·rw [if_pos e3];exact hhi _ (by omega) (by omega)
    ·rw [if_neg e3];exact sB _ _ (by omega) (by omega) (by omega)
  ·rename_i c1;split
   ·rename_i c2;have lo:=lQ (f:=fun h=>jW D (aK L m) (aK L h)) (k:=m - a) (i:=a) (j:=m) (by omega);have sp:=O3 (f:=fun h=>jW D (aK L m) (aK L h)) (k:=m - a) (i:=a) (j:=m) (Nat.le_refl _) (by
     intro s t q1 q2 q3 q4;by_cases e:s=t
     ·rw [← e];exact q4
     ·exact hO.aGn (hU _ (by omega) (by omega)) (hU _ (by omega) (by omega)) (hU _ (by omega) (by omega)) q4 (sA s t q1 (by omega) q3))
    generalize wQ (fun h=>jW D (aK L m) (aK L h)) (m - a) a m=r at lo sp ⊢;have hx:=Q9 (L:=L) (m:=m) (by omega) (m - r) (by omega);have hlow:∀ t,a≤t→t<r→BL D (aK L t) (aK L m):=fun t q1 q2=>sp.1 t q1 q2;have hhi:∀ t,r≤t→t<m→BL D (aK L m) (aK L t):=fun t q1 q2=>hO.asym _ _ (hU _ (by omega) (by omega)) (hU _ (by omega) (by omega)) (sp.2 t q1 q2);intro i j q1 q2 q3;rw [hx,hx];by_cases e1:i<m - (m - r)
    ·rw [if_pos e1];by_cases e2:j<m - (m - r)
     ·rw [if_pos e2];exact sA _ _ (by omega) (by omega) (by omega)
     ·rw [if_neg e2];by_cases e3:j=m - (m - r)
      ·rw [if_pos e3];exact hlow _ (by omega) (by omega)
      ·rw [if_neg e3,if_pos (by omega)];exact sA _ _ (by omega) (by omega) (by omega)
    ·rw [if_neg e1,if_neg (c:=j<m - (m - r)) (by omega),if_neg (c:=j=m - (m - r)) (by omega),if_pos (c:=j≤m) (by omega)];by_cases e3:i=m - (m - r)
     ·rw [if_pos e3];exact hhi _ (by omega) (by omega)
     ·rw [if_neg e3,if_pos (by omega)];exact sA _ _ (by omega) (by omega) (by omega)
   ·rename_i c2;have lo:=zR (D:=D) (L:=L) h1 h2
    -- what the search warrants
    have sp:(∀ c,a≤c→c<stM D L a m b→(a+b) / 2+m - stM D L a m b<b→BL D (aK L c) (aK L ((a+b) / 2+m - stM D L a m b)))∧(stM D L a m b<m→m<(a+b) / 2+m - stM D L a m b→jW D (aK L ((a+b) / 2+m - stM D L a m b - 1)) (aK L (stM D L a m b))=true):=by
     have hmono:∀ lo hi:Nat,a≤lo→(a+b) / 2+m - b≤lo→hi≤m→hi≤(a+b) / 2→∀ s t,lo≤s→s≤t→t<hi→jW D (aK L ((a+b) / 2+m - 1 - s)) (aK L s)=true→jW D (aK L ((a+b) / 2+m - 1 - t)) (aK L t)=true:=by
      intro lo hi g1 g2 g3 g4 s t q1 q2 q3 q4;by_cases e:s=t
      ·rw [← e];exact q4
      ·have u1:=hO.aGn (hU _ (by omega) (by omega)) (hU _ (by omega) (by omega)) (hU _ (by omega) (by omega)) q4 (sA s t (by omega) (by omega) (by omega));exact hO.aKh (hU _ (by omega) (by omega)) (hU _ (by omega) (by omega)) (hU _ (by omega) (by omega)) (sB ((a+b) / 2+m - 1 - t) ((a+b) / 2+m - 1 - s) (by omega) (by omega) (by omega)) u1
     have key:∀ lo hi st:Nat,a≤lo→(a+b) / 2+m - b≤lo→lo≤hi→hi≤m→hi≤(a+b) / 2→(lo=a∨lo=(a+b) / 2+m - b)→(hi=m∨hi=(a+b) / 2)→st=wQ (fun c=>jW D (aK L ((a+b) / 2+m - 1 - c)) (aK L c)) (hi - lo) lo hi →
       (∀ c,a≤c→c<st→(a+b) / 2+m - st<b→BL D (aK L c) (aK L ((a+b) / 2+m - st)))∧(st<m→m<(a+b) / 2+m - st→jW D (aK L ((a+b) / 2+m - st - 1)) (aK L st)=true):=by
      intro lo hi st g1 g2 g3 g4 g5 g6 g7 g8;have l0:=lQ (f:=fun c=>jW D (aK L ((a+b) / 2+m - 1 - c)) (aK L c)) (k:=hi - lo) (i:=lo) (j:=hi) g3;have b0:=O3 (f:=fun c=>jW D (aK L ((a+b) / 2+m - 1 - c)) (aK L c)) (k:=hi - lo) (i:=lo) (j:=hi) (Nat.le_refl _) (hmono lo hi g1 g2 g4 g5);rw [← g8] at l0 b0;refine⟨fun c q1 q2 q3=>?_,fun q1 q2=>?_⟩
      ·have u:=b0.1 (st - 1) (by omega) (by omega);have u:jW D (aK L ((a+b) / 2+m - 1 - (st - 1))) (aK L (st - 1))=false:=u;rw [show (a+b) / 2+m - 1 - (st - 1)=(a+b) / 2+m - st by omega] at u;by_cases e:c=st - 1
       ·rw [e];exact u
       ·exact hO.trans _ (aK L (st - 1)) _ (hU _ (by omega) (by omega)) (hU _ (by omega) (by omega)) (hU _ (by omega) (by omega)) (sA c (st - 1) q1 (by omega) (by omega)) u
      ·have u:=b0.2 st (Nat.le_refl _) (by omega);have u:jW D (aK L ((a+b) / 2+m - 1 - st)) (aK L st)=true:=u;rw [show (a+b) / 2+m - 1 - st=(a+b) / 2+m - st - 1 by omega] at u;exact u
     by_cases hc:(a+b) / 2<m
     ·exact key ((a+b) / 2+m - b) ((a+b) / 2) _ (by omega) (Nat.le_refl _) (by omega) (by omega) (Nat.le_refl _) (.inr rfl) (.inr rfl) (by unfold stM;simp only [if_pos hc])
     ·exact key a m _ (Nat.le_refl _) (by omega) (by omega) (Nat.le_refl _) (by omega) (.inl rfl) (.inl rfl) (by unfold stM;simp only [if_neg hc])
    simp only;generalize stM D L a m b=st at lo sp;generalize he:(a+b) / 2+m - st=en at *;obtain⟨l1,l2,l3,l4,l5,l6⟩:=lo;generalize hmid:(a+b) / 2=mid at *;have hlen1:(if st<m∧m<en then bX m (m - st+(en - m)) L (m - st) (en - m) else L).length=L.length:=by
     split
     ·exact (uI _ _ _ _ _ (by omega) (by omega)).len
     ·rfl
    have v1:∀ t,aK (if st<m∧m<en then bX m (m - st+(en - m)) L (m - st) (en - m) else L) t=if t<st then aK L t else if t<mid then aK L (t - st+m) else if t<en then aK L (t - (mid - st)) else aK L t:=by
     intro t;split
     ·rename_i hc;rw [L4 m _ L (m - st) (en - m) (by omega) (by omega) (by omega) (by omega) (Nat.le_refl _) t];rw [show m - (m - st)=st by omega,show st+(en - m)=mid by omega,show m+(en - m)=en by omega,show en - m=mid - st by omega]
     ·rename_i hc;by_cases e1:t<st
      ·rw [if_pos e1]
      ·rw [if_neg e1];by_cases e2:t<mid
       ·rw [if_pos e2,show t - st+m=t by omega]
       ·rw [if_neg e2];by_cases e3:t<en
        ·rw [if_pos e3,show t - (mid - st)=t by omega]
        ·rw [if_neg e3]
    have s1:vF a b L (if st<m∧m<en then bX m (m - st+(en - m)) L (m - st) (en - m) else L):=by
     split
     ·exact UT (by omega) (by omega) (by omega) (by omega) (by omega) (by omega) (by omega) (uI _ _ _ _ _ (by omega) (by omega)).len
     ·exact .refl a b L
    generalize (if st<m∧m<en then bX m (m - st+(en - m)) L (m - st) (en - m) else L)=L1 at s1 hlen1 v1;have U1:=s1.ER hU
    -- both halves,and what lies between them
    have cross:∀ i j,a≤i→i<mid→mid≤j→j<b→BL D (aK L1 i) (aK L1 j):=by
     intro i j q1 q2 q3 q4;have hij:∀ x y,a≤x→x<m→m≤y→y<b→x<st→en≤y→BL D (aK L x) (aK L y):=by
      intro x y z1 z2 z3 z4 z5 z6;by_cases e:y=en
      ·rw [e];exact sp.1 x z1 z5 (by omega)
      ·exact hO.trans _ (aK L en) _ (hU _ z1 (by omega)) (hU _ (by omega) (by omega)) (hU _ (by omega) z4) (sp.1 x z1 z5 (by omega)) (sB en y (by omega) (by omega) z4)
     have hji:∀ y x,m≤y→y<en→st≤x→x<m→BL D (aK L y) (aK L x):=by
      intro y x z1 z2 z3 z4;have u:=hO.asym _ _ (hU _ (by omega) (by omega)) (hU _ (by omega) (by omega)) (sp.2 (by omega) (by omega));have u1:BL D (aK L y) (aK L st):=by
       by_cases e:y=en - 1
       ·rw [e];exact u
       ·exact hO.trans _ (aK L (en - 1)) _ (hU _ (by omega) (by omega)) (hU _ (by omega) (by omega)) (hU _ (by omega) (by omega)) (sB y (en - 1) z1 (by omega) (by omega)) u
      by_cases e:x=st
      ·rw [e];exact u1
      ·exact hO.trans _ (aK L st) _ (hU _ (by omega) (by omega)) (hU _ (by omega) (by omega)) (hU _ (by omega) (by omega)) u1 (sA st x (by omega) (by omega) z4)
     rw [v1,v1,if_neg (c:=j<st) (by omega),if_neg (c:=j<mid) (by omega)];by_cases e1:i<st
     ·rw [if_pos e1];by_cases e2:j<en
      ·rw [if_pos e2];exact sA _ _ q1 (by omega) (by omega)
      ·rw [if_neg e2];exact hij i j q1 (by omega) (by omega) q4 e1 (by omega)
     ·rw [if_neg e1,if_pos q2];by_cases e2:j<en
      ·rw [if_pos e2];exact hji _ _ (by omega) (by omega) (by omega) (by omega)
      ·rw [if_neg e2];exact sB _ _ (by omega) (by omega) q4
    have p1:So D L1 a st:=sA.nar (Nat.le_refl _) l2 |>.congr fun i q1 q2=>by rw [v1,if_pos q2]
    have p2:So D L1 st mid:=fun i j q1 q2 q3=>by
     rw [v1,v1,if_neg (c:=i<st) (by omega),if_neg (c:=j<st) (by omega),if_pos (c:=i<mid) (by omega),if_pos (c:=j<mid) q3];exact sB _ _ (by omega) (by omega) (by omega)
    have p3:So D L1 mid en:=fun i j q1 q2 q3=>by
     rw [v1,v1,if_neg (c:=i<st) (by omega),if_neg (c:=i<mid) (by omega),if_neg (c:=j<st) (by omega),if_neg (c:=j<mid) (by omega),if_pos (c:=i<en) (by omega),if_pos (c:=j<en) q3];exact sA _ _ (by omega) (by omega) (by omega)
    have p4:So D L1 en b:=sB.nar l4 (Nat.le_refl _) |>.congr fun i q1 q2=>by rw [v1,if_neg (by omega),if_neg (by omega),if_neg (by omega)]
    have w2:vF a mid L1 (if a<st∧st<mid then aU D k L1 a st mid else L1)∧So D (if a<st∧st<mid then aU D k L1 a st mid else L1) a mid:=by
     split
     ·exact⟨vI D k L1 _ _ _ (by omega) (by omega) (by omega),MG hO k L1 a st mid (by omega) (by omega) (by omega) (by omega) (fun i q1 q2=>U1 i q1 (by omega)) p1 p2⟩
     ·refine⟨.refl _ _ _,?_⟩;by_cases e:a<st
      ·rw [show mid=st by omega];exact p1
      ·rw [show a=st by omega];exact p2
    generalize (if a<st∧st<mid then aU D k L1 a st mid else L1)=L2 at w2;obtain⟨g2,o2⟩:=w2;have w3:vF mid b L2 (if mid<en∧en<b then aU D k L2 mid en b else L2)∧So D (if mid<en∧en<b then aU D k L2 mid en b else L2) mid b:=by
     have p3':So D L2 mid en:=p3.congr fun i q1 q2=>g2.out i (by omega);have p4':So D L2 en b:=p4.congr fun i q1 q2=>g2.out i (by omega);have hl2:=g2.len;split
     ·exact⟨vI D k L2 _ _ _ (by omega) (by omega) (by omega),MG hO k L2 mid en b (by omega) (by omega) (by omega) (by omega) (fun i q1 q2=>by rw [g2.out i (by omega)];exact U1 i (by omega) q2) p3' p4'⟩
     ·refine⟨.refl _ _ _,?_⟩;by_cases e:mid<en
      ·rw [show b=en by omega];exact p3'
      ·rw [show mid=en by omega];exact p4'
    generalize (if mid<en∧en<b then aU D k L2 mid en b else L2)=L3 at w3;obtain⟨g3,o3⟩:=w3;intro i j q1 q2 q3;by_cases e1:j<mid
    ·rw [g3.out i (by omega),g3.out j (by omega)];exact o2 i j q1 q2 e1
    ·by_cases e2:mid≤i
     ·exact o3 i j e2 q2 q3
     ·rw [g3.out i (by omega)];obtain⟨s,z1,z2,z3⟩:=g2.inn i q1 (by omega);obtain⟨u,y1,y2,y3⟩:=g3.inn j (by omega) q3;rw [z3,y3,g2.out u (by omega)];exact cross s u z1 z2 y1 y2
end
theorem aCj {L:List Int}{x y:Nat}(hx:x<L.length)(hy:y<L.length):(m7 L x y).Perm L:=by
 unfold m7;rw [dR hx,dR hy];exact List.set_set_perm hx hy
theorem Sw.perm {L M:List Int}(h:Sw L M):M.Perm L:=by
 induction h with
 |refl=>exact .refl _
 |step x y _ hx hy ih=>exact (aCj hx hy).trans ih
inductive Bl (D:List Dt) (L:List Int) (bs n:Nat):Nat→Prop where
 |fin (a:Nat):n≤a→Bl D L bs n a
 |step (a:Nat):So D L a (min (a+bs) n)→Bl D L bs n (a+bs)→Bl D L bs n a
inductive Bp (D:List Dt) (L:List Int) (bs:Nat):Nat→Prop where
 |zero:Bp D L bs 0
 |step (a:Nat):Bp D L bs a→So D L a (a+bs)→Bp D L bs (a+bs)
section
variable {D:List Dt}{U:Int→Prop}{L M:List Int}{bs n a:Nat}
theorem Bl.congr (h:Bl D L bs n a)(he:∀ i,a≤i→aK M i=aK L i):Bl D M bs n a:=by
 induction h with
 |fin a h=>exact .fin a h
 |step a h1 h2 ih=>exact .step a (h1.congr fun i q1 q2=>he i q1) (ih fun i q=>he i (by omega))
theorem Bp.congr (h:Bp D L bs a)(he:∀ i,i<a→aK M i=aK L i):Bp D M bs a:=by
 induction h with
 |zero=>exact .zero
 |step a h1 h2 ih=>exact .step a (ih fun i q=>he i (by omega)) (h2.congr fun i q1 q2=>he i q2)
theorem Bp.join (h:Bp D L bs a):Bl D L bs n a→Bl D L bs n 0:=by
 induction h with
 |zero=>exact id
 |step a h1 h2 ih=>exact fun h=>ih (.step a (h2.nar (Nat.le_refl _) (Nat.min_le_left _ _)) h)
theorem Bl.head (h:Bl D L bs n a):So D L a (min (a+bs) n):=by
 cases h with
 |fin _ h=>exact fun i j q1 q2 q3=>by omega
 |step _ h1 h2=>exact h1
theorem Bl.tail (h:Bl D L bs n a):Bl D L bs n (a+bs):=by
 cases h with
 |fin _ h=>exact .fin _ (by omega)
 |step _ h1 h2=>exact h2
theorem vF.low {b:Nat}(h:vF a b L M)(i:Nat)(hi:i<a):aK M i=aK L i:=h.out i (.inl hi)
theorem vF.high {b:Nat}(h:vF a b L M)(i:Nat)(hi:b≤i):aK M i=aK L i:=h.out i (.inr hi)
theorem U2 (hO:Ord D U):∀ (k:Nat) (L:List Int) (a:Nat),n=L.length→IN U L 0 n→a≤n→n+1 - a≤k→Bp D L 20 a →
  (pF D n k L a).2≤n∧n<(pF D n k L a).2+20∧Bp D (pF D n k L a).1 20 (pF D n k L a).2∧vF 0 n L (pF D n k L a).1∧Sw L (pF D n k L a).1
 |0,L,a,hn,hU,ha,hk,hB=>by omega
 |k+1,L,a,hn,hU,ha,hk,hB=>by
  unfold pF;split
  ·rename_i hc;have h1:=MA hO a L 19 (by omega) (fun i q1 q2=>hU i (by omega) (by omega));have e:a+20 - 1 - a=19:=(by omega);rw [e];have g:=h1.2.wide (a:=0) (b:=n) (by omega) (by omega);have ih:=U2 hO k (j0 D a L 19) (a+20) (by rw [h1.2.len];exact hn) (g.ER hU) hc (by omega) (.step a (hB.congr fun i q=>h1.2.low i q) h1.1);exact⟨ih.1,ih.2.1,ih.2.2.1,g.trans ih.2.2.2.1,(L5 D a L 19 (by omega)).trans ih.2.2.2.2⟩
  ·exact⟨ha,by omega,hB,.refl _ _ _,.refl _⟩
theorem VG (hO:Ord D U){f:Nat}(hf:n≤f)(hb:1≤bs):∀ (k:Nat) (L:List Int) (a:Nat),n=L.length→IN U L 0 n→a≤n→n+1 - a≤k→Bp D L (2*bs) a→Bl D L bs n a →
  (sL D f n bs k L a).2≤n∧n<(sL D f n bs k L a).2+2*bs∧Bp D (sL D f n bs k L a).1 (2*bs) (sL D f n bs k L a).2∧Bl D (sL D f n bs k L a).1 bs n (sL D f n bs k L a).2∧vF 0 n L (sL D f n bs k L a).1∧Sw L (sL D f n bs k L a).1
 |0,L,a,hn,hU,ha,hk,hB,hC=>by omega
 |k+1,L,a,hn,hU,ha,hk,hB,hC=>by
  unfold sL;split
  ·rename_i hc;have s1:=hC.head;have s2:=hC.tail.head;have g1:=vI D f L a (a+bs) (a+2*bs) (by omega) (by omega) (by omega);have o1:=MG hO f L a (a+bs) (a+2*bs) (by omega) (by omega) (by omega) (by omega) (fun i q1 q2=>hU i (by omega) (by omega)) (s1.nar (Nat.le_refl _) (by omega)) (s2.nar (Nat.le_refl _) (by omega));have w1:=mK D f L a (a+bs) (a+2*bs) (by omega) (by omega) (by omega);generalize aU D f L a (a+bs) (a+2*bs)=L1 at g1 o1 w1;have g:=g1.wide (a:=0) (b:=n) (by omega) (by omega);have ht:=hC.tail.tail;rw [show a+bs+bs=a+2*bs by omega] at ht;have ih:=VG hO hf hb k L1 (a+2*bs) (by rw [g1.len];exact hn) (g.ER hU) hc (by omega) (.step a (hB.congr fun i q=>g1.low i q) o1) (ht.congr fun i q=>g1.high i q);exact⟨ih.1,ih.2.1,ih.2.2.1,ih.2.2.2.1,g.trans ih.2.2.2.2.1,w1.trans ih.2.2.2.2.2⟩
  ·exact⟨ha,by omega,hB,hC,.refl _ _ _,.refl _⟩
theorem aEk (hO:Ord D U){f:Nat}(hf:n≤f)(hb:1≤bs){L:List Int}{a:Nat}(hn:n=L.length)(hU:IN U L 0 n)(ha:a≤n)(hn2:n<a+2*bs)(hB:Bp D L (2*bs) a)(hC:Bl D L bs n a) :
  Bl D (xQ D f n bs (L,a)) (2*bs) n 0∧vF 0 n L (xQ D f n bs (L,a))∧Sw L (xQ D f n bs (L,a)):=by
 unfold xQ;split
 ·rename_i hc;simp only at hc;have s1:=hC.head;have s2:=hC.tail.head;have g1:=vI D f L a (a+bs) n (by omega) (by omega) (by omega);have o1:=MG hO f L a (a+bs) n (by omega) (by omega) (by omega) (by omega) (fun i q1 q2=>hU i (by omega) (by omega)) (s1.nar (Nat.le_refl _) (by omega)) (s2.nar (Nat.le_refl _) (by omega));have w1:=mK D f L a (a+bs) n (by omega) (by omega) (by omega);generalize aU D f L a (a+bs) n=L1 at g1 o1 w1;exact⟨(hB.congr fun i q=>g1.low i q).join (.step a (o1.nar (Nat.le_refl _) (Nat.min_le_right _ _)) (.fin _ (by omega))),g1.wide (by omega) (Nat.le_refl _),w1⟩
 ·rename_i hc;simp only at hc;exact⟨hB.join (.step a (hC.head.nar (Nat.le_refl _) (by omega)) (.fin _ (by omega))),.refl _ _ _,.refl _⟩
theorem U9 (hO:Ord D U){f:Nat}(hf:n≤f):∀ (k:Nat) (L:List Int) (bs:Nat),1≤bs→n≤bs+k→n=L.length→IN U L 0 n→Bl D L bs n 0→So D (HD D f n k L bs) 0 n∧vF 0 n L (HD D f n k L bs)∧Sw L (HD D f n k L bs)
 |0,L,bs,hb,hk,hn,hU,hB=>⟨hB.head.nar (Nat.le_refl _) (by omega),.refl _ _ _,.refl _⟩
 |k+1,L,bs,hb,hk,hn,hU,hB=>by
  unfold HD;split
  ·have h1:=VG hO hf hb (n+1) L 0 hn hU (Nat.zero_le _) (by omega) .zero hB;generalize sL D f n bs (n+1) L 0=r at h1;obtain⟨L1,a⟩:=r;obtain⟨p1,p2,p3,p4,p5,p6⟩:=h1;have h2:=aEk hO hf hb (by rw [p5.len];exact hn) (p5.ER hU) p1 p2 p3 p4;obtain⟨r1,r2,r3⟩:=h2;rw [show bs*2=2*bs by omega];have ih:=U9 hO hf k (xQ D f n bs (L1,a)) (2*bs) (by omega) (by omega) (by rw [r2.len,p5.len];exact hn) (r2.ER (p5.ER hU)) r1;exact⟨ih.1,(p5.trans r2).trans ih.2.1,(p6.trans r3).trans ih.2.2⟩
  ·exact⟨hB.head.nar (Nat.le_refl _) (by omega),.refl _ _ _,.refl _⟩
theorem aDG (hO:Ord D U){f:Nat}{L:List Int}(hf:L.length≤f)(hU:IN U L 0 L.length):So D (sN D f L) 0 L.length∧(sN D f L).Perm L:=by
 unfold sN;have h1:=U2 hO (L.length+1) L 0 rfl hU (Nat.zero_le _) (by omega) .zero;generalize pF D L.length (L.length+1) L 0=r at h1;obtain⟨L1,a⟩:=r;obtain⟨p1,p2,p3,p4,p5⟩:=h1;simp only at *;have h2:So D (j0 D a L1 (L.length - 1 - a)) a L.length∧vF a L.length L1 (j0 D a L1 (L.length - 1 - a))∧Sw L1 (j0 D a L1 (L.length - 1 - a)):=by
  by_cases e:a=L.length
  ·rw [show L.length - 1 - a=0 by omega];exact⟨fun i j q1 q2 q3=>by omega,.refl _ _ _,.refl _⟩
  ·have:=MA hO a L1 (L.length - 1 - a) (by rw [p4.len];omega) (fun i q1 q2=>p4.ER hU i (by omega) (by omega));rw [show a+(L.length - 1 - a)+1=L.length by omega] at this;exact⟨this.1,this.2,L5 D a L1 _ (by rw [p4.len];omega)⟩
 generalize j0 D a L1 (L.length - 1 - a)=L2 at h2;obtain⟨o2,g2,w2⟩:=h2
 have h3:=U9 hO hf (L.length+1) L2 20 (by omega) (by omega) (by rw [g2.len,p4.len]) ((g2.wide (Nat.zero_le _) (Nat.le_refl _)).ER (p4.ER hU))
  ((p3.congr fun i q=>g2.low i q).join (.step a (o2.nar (Nat.le_refl _) (Nat.min_le_right _ _)) (.fin _ (by omega))))
 exact⟨h3.1,((p5.trans w2).trans h3.2.2).perm⟩
end
end Go.Aw
end

namespace Go.Aw
abbrev V2:=Int × Int
def cr (a b:V2):Int:=a.1*b.2 - a.2*b.1
def dt (a b:V2):Int:=a.1*b.1+a.2*b.2
def yN (a:V2):V2:=(-a.1,-a.2)
def up (a:V2):Prop:=0<a.2∨a.2=0∧0<a.1
def lo (a:V2):Prop:=a.2<0∨a.2=0∧a.1<0
instance (a:V2):Decidable (lo a):=inferInstanceAs (Decidable (_∨_))
theorem fJ (a b:V2):cr b a = - cr a b:=by unfold cr;rw [Int.mul_comm b.1,Int.mul_comm b.2];omega
theorem aHz {a:V2}(h:lo a):up (yN a):=by unfold up yN;unfold lo at h;simp only;omega
theorem EA (a b:V2):cr (yN a) b = - cr a b:=by unfold cr yN;simp only [Int.neg_mul];omega
theorem D3 (a b:V2):cr a (yN b) = - cr a b:=by unfold cr yN;simp only [Int.mul_neg];omega
theorem K3 (a b:V2):dt (yN a) b = - dt a b:=by unfold dt yN;simp only [Int.neg_mul];omega
theorem K2 (a b:V2):dt a (yN b) = - dt a b:=by unfold dt yN;simp only [Int.mul_neg];omega
theorem wE {a b:Int}(hb:0<b)(h:0≤a*b):0≤a:=by
 rcases Int.lt_or_le a 0 with h1|h1
 ·have:=Int.mul_neg_of_neg_of_pos h1 hb;omega
 ·exact h1
theorem aKS (a b c:V2):cr a c*b.2=cr a b*c.2+cr b c*a.2:=by
 unfold cr;simp only [Int.sub_mul];have e1:a.1*c.2*b.2=a.1*b.2*c.2:=(by rw [Int.mul_assoc,Int.mul_comm c.2,← Int.mul_assoc]);have e2:a.2*c.1*b.2=b.2*c.1*a.2:=(by rw [Int.mul_comm (b.2*c.1),Int.mul_assoc,Int.mul_comm c.1]);have e3:a.2*b.1*c.2=b.1*c.2*a.2:=(by rw [Int.mul_assoc,Int.mul_comm]);omega
theorem FK {a b c:V2}(ha:up a)(hb:up b)(hc:up c)(h1:0≤cr a b)(h2:0≤cr b c):0≤cr a c:=by
 have hid:=aKS a b c;have a2:0≤a.2:=(by unfold up at ha;omega);have c2:0≤c.2:=(by unfold up at hc;omega);rcases hb with hb|⟨hb,hb1⟩
 ·refine wE hb ?_;rw [hid];have:=Int.mul_nonneg h1 c2;have:=Int.mul_nonneg h2 a2;omega
 ·have e1:cr a b = -(a.2*b.1):=(by unfold cr;rw [hb];omega);rw [e1] at h1;have:a.2=0:=by
   rcases Int.lt_or_le 0 a.2 with h|h
   ·have:=Int.mul_pos h hb1;omega
   ·omega
  have a1:0<a.1:=(by unfold up at ha;omega);unfold cr;rw [this];have:=Int.mul_nonneg (Int.le_of_lt a1) c2;omega
theorem lM {a b c:V2}(ha:up a)(hb:up b)(hc:up c)(h1:0≤cr a b)(h2:0≤cr b c)(h3:cr a c≤0):cr a b=0∧cr b c=0:=by
 have h4:0≤cr c a:=(by rw [fJ];omega);have k1:=FK hb hc ha h2 h4;have k2:=FK hc ha hb h4 h1;rw [fJ] at k1;rw [fJ] at k2;omega
theorem LH {a b:V2}(ha:up a)(hb:up b)(h:cr a b=0):0<dt a b:=by
 unfold cr at h;unfold dt;rcases ha with ha|⟨ha,ha1⟩ <;> rcases hb with hb|⟨hb,hb1⟩
 ·-- a.1 b.2=a.2 b.1:same signs of a.1 and b.1
  have h2:=Int.mul_pos ha hb;have:0≤a.1*b.1:=by
   rcases Int.lt_or_le b.1 0 with h1|h1
   ·have:=Int.mul_neg_of_pos_of_neg ha h1;have h3:a.1<0:=by
     rcases Int.lt_or_le a.1 0 with h4|h4
     ·exact h4
     ·have:=Int.mul_nonneg h4 (Int.le_of_lt hb);omega
    exact Int.mul_nonneg_of_nonpos_of_nonpos (Int.le_of_lt h3) (Int.le_of_lt h1)
   ·have:=Int.mul_nonneg (Int.le_of_lt ha) h1;have h3:0≤a.1:=by
     refine wE hb ?_;omega
    exact Int.mul_nonneg h3 h1
  omega
 ·rw [hb] at h;have:=Int.mul_pos ha hb1;omega
 ·rw [ha] at h;have:=Int.mul_pos ha1 hb;omega
 ·have:=Int.mul_pos ha1 hb1;rw [ha];omega
def yE (a b:V2):Prop:=(¬ lo a∧lo b)∨((lo a↔lo b)∧0<cr a b)
def rk (u w:V2):Int:=if cr u w<0 then 0 else if 0<cr u w then 2 else if dt u w<0 then 1 else 3
def IF (u w x:V2):Prop:=rk u w<rk u x∨rk u w=rk u x∧cr w x<0
def nz (a:V2):Prop:=¬ (a.1=0∧a.2=0)
theorem aKc {a:V2}(h:nz a)(hl:¬ lo a):up a:=by unfold nz at h;unfold lo at hl;unfold up;omega
def uv (a:V2):V2:=if lo a then yN a else a
theorem wJ {a:V2}(h:nz a):up (uv a):=by
 unfold uv;split
 ·rename_i hl;exact aHz hl
 ·rename_i hl;exact aKc h hl
theorem three {u y x:V2}(hu:nz u)(hy:nz y)(hx:nz x) :
  (yE u x∧yE x y∧yE u y)∨(yE y u∧yE u x∧yE y x)∨(yE x y∧yE y u∧yE x u)→IF u y x:=by
 have hU:=wJ hu;have hY:=wJ hy;have hX:=wJ hx;have f1:=fun h1 h2 h3=>lM hU hY hX h1 h2 h3;have f2:=fun h1 h2 h3=>lM hU hX hY h1 h2 h3;have f3:=fun h1 h2 h3=>lM hY hU hX h1 h2 h3;have f4:=fun h1 h2 h3=>lM hY hX hU h1 h2 h3;have f5:=fun h1 h2 h3=>lM hX hU hY h1 h2 h3;have f6:=fun h1 h2 h3=>lM hX hY hU h1 h2 h3;have d1:=fun h=>LH hU hY h;have d2:=fun h=>LH hU hX h;have n1:=fJ (uv u) (uv y);have n2:=fJ (uv u) (uv x);have n3:=fJ (uv y) (uv x);have n4:=fJ u y;have n5:=fJ u x;have n6:=fJ y x;unfold yE IF rk
 by_cases lu:lo u <;> by_cases ly:lo y <;> by_cases lx:lo x <;>
  simp only [uv,lu,ly,lx,if_true,if_false,EA,D3,K3,K2,not_true,not_false_iff,true_and,false_and,and_false,and_true,iff_true,true_iff,iff_false,false_or,or_false,not_false_eq_true,Int.neg_neg] at f1 f2 f3 f4 f5 f6 d1 d2 n1 n2 n3 ⊢ <;>
  (generalize cr u y=c1 at *;generalize cr u x=c2 at *;generalize cr y x=c3 at *;generalize dt u y=e1 at *;generalize dt u x=e2 at *;intro h;repeat' split) <;> omega
theorem aDV (a:V2):cr a a=0:=by unfold cr;rw [Int.mul_comm];omega
theorem ZV {a b:V2}(h:yE a b):¬ yE b a:=by
 unfold yE at *;have:=fJ a b;rintro (⟨h1,h2⟩|⟨h2,h3⟩) <;> rcases h with ⟨h4,h5⟩|⟨h5,h6⟩
 ·exact h1 h5
 ·exact h1 (h5.1 h2)
 ·exact h4 (h2.1 h5)
 ·omega
theorem RZ {a b c:V2}(ha:nz a)(hb:nz b)(hc:nz c)(h1:¬ yE b a)(h2:¬ yE c b):¬ yE c a:=by
 have hA:=wJ ha;have hB:=wJ hb;have hC:=wJ hc;have f1:=fun h1 h2=>FK hA hB hC h1 h2;have g1:=fun h1 h2 h3=>lM hA hB hC h1 h2 h3;have n1:=fJ a b;have n2:=fJ a c;have n3:=fJ b c;unfold yE at *
 by_cases la:lo a <;> by_cases lb:lo b <;> by_cases lc:lo c <;>
  simp only [uv,la,lb,lc,if_true,if_false,EA,D3,not_true,not_false_iff,true_and,false_and,and_false,and_true,iff_true,true_iff,iff_false,false_or,or_false,true_or,or_true,Int.neg_neg] at f1 g1 h1 h2 ⊢ <;> omega
def ray (a b:V2):Prop:=cr a b=0∧0<dt a b
theorem ZN {a b:V2}(ha:nz a)(hb:nz b)(h:¬ ray a b):yE a b∨yE b a:=by
 have hA:=wJ ha;have hB:=wJ hb;have d:=fun h=>LH hA hB h;have n:=fJ a b;unfold ray at h;unfold yE
 by_cases la:lo a <;> by_cases lb:lo b <;>
  simp only [uv,la,lb,if_true,if_false,EA,D3,K3,K2,not_true,not_false_iff,true_and,false_and,and_false,and_true,iff_true,true_iff,iff_false,false_or,or_false,true_or,or_true,Int.neg_neg] at d h ⊢ <;> omega
theorem sq0 (a:Int):0≤a*a:=by
 rcases Int.le_total 0 a with h|h
 ·exact Int.mul_nonneg h h
 ·exact Int.mul_nonneg_of_nonpos_of_nonpos h h
theorem JG {u y:V2}(hu:nz u)(hy:nz y)(h:yE u y∨yE y u):IF u y u:=by
 have hU:=wJ hu;have hY:=wJ hy;have d:=fun h=>LH hU hY h;have d2:0<dt u u:=by
  unfold dt;unfold nz at hu;have h1:=sq0 u.1;have h2:=sq0 u.2;by_cases h3:u.1=0
  ·have h4:u.2≠0:=fun h=>hu ⟨h3,h⟩;have:u.2*u.2≠0:=Int.mul_ne_zero h4 h4;omega
  ·have:u.1*u.1≠0:=Int.mul_ne_zero h3 h3;omega
 have n:=fJ u y;have c0:=aDV u;unfold IF rk;unfold yE at h;rw [c0]
 by_cases lu:lo u <;> by_cases ly:lo y <;>
  simp only [uv,lu,ly,if_true,if_false,EA,D3,K3,K2,not_true,not_false_iff,true_and,false_and,and_false,and_true,iff_true,true_iff,iff_false,false_or,or_false,true_or,or_true,Int.neg_neg] at d h ⊢ <;> (repeat' split) <;> omega
theorem S3 {u y x:V2}(h:IF u y x):¬ IF u x y:=by
 unfold IF at *;have:=fJ x y;omega
end Go.Aw
