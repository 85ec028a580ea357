/-
  Parts of a proof. No condition.
-/
import Derived.Test.YticajjhjehljpaaGreatQAs
set_option linter.unusedSimpArgs false
set_option linter.unusedVariables false
noncomputable section
namespace Go.Aw
inductive Sw:List Int→List Int→Prop where
 |refl (L:List Int):Sw L L
 |step {L L':List Int} (x y:Nat):Sw L L'→x<L'.length→y<L'.length→Sw L (lS L' x y)
theorem Sw.trans {A B C:List Int}(h1:Sw A B)(h2:Sw B C):Sw A C:=by
 induction h2 with
 |refl=>exact h1
 |step x y _ hx hy ih=>exact .step x y ih hx hy
theorem Sw.len {A B:List Int}(h:Sw A B):B.length=A.length:=by
 induction h with
 |refl=>rfl
 |step x y _ hx hy ih=>rw [gL];exact ih
theorem Sw.fK {D:CW}{A B:List Int}(h:Sw A B)(hA:fK D A=true):Go.Aw.fK D B=true:=by
 induction h with
 |refl=>exact hA
 |step x y _ hx hy ih=>exact JJ ih hx hy
theorem IM (L:List Int)(a b:Nat):∀ i,a+i≤L.length→b+i≤L.length→Sw L (nZ L a b i)
 |0,_,_=>.refl L
 |i+1,h1,h2=>by
  unfold nZ;have hl:=gI L a b i;exact .step _ _ (IM L a b i (by omega) (by omega)) (by omega) (by omega)
theorem rG (m:Nat):∀ (k:Nat) (L:List Int) (i j:Nat),i≤m→m+j≤L.length→Sw L (bO m k L i j)
 |0,L,i,j,_,_=>.refl L
 |k+1,L,i,j,h1,h2=>by
  unfold bO;split
  ·exact IM _ _ _ _ (by omega) (by omega)
  ·split
   ·have h3:=IM L (m - i) m j (by omega) (by omega);exact h3.trans (rG m k _ _ _ (by omega) (by rw [h3.len];omega))
   ·have h3:=IM L (m - i) (m+j - i) i (by omega) (by omega);exact h3.trans (rG m k _ _ _ (by omega) (by rw [h3.len];omega))
def tU (f:Nat→Bool):Nat→Nat→Nat→Nat
 |0,i,_=>i
 |k+1,i,j=>if i<j then (if f ((i+j) / 2)=true then tU f k i ((i+j) / 2) else tU f k ((i+j) / 2+1) j) else i
theorem kO {f:Nat→Bool}:∀ {k i j:Nat},i≤j→i≤tU f k i j∧tU f k i j≤j
 |0,i,j,h=>by unfold tU;omega
 |k+1,i,j,h=>by
  unfold tU;split
  ·split
   ·have:=kO (f:=f) (k:=k) (i:=i) (j:=(i+j) / 2) (by omega);omega
   ·have:=kO (f:=f) (k:=k) (i:=(i+j) / 2+1) (j:=j) (by omega);omega
  ·omega
theorem CI {f:Nat→Bool}{k i:Nat}:tU f k i i=i:=by
 cases k with
 |zero=>rfl
 |succ k=>unfold tU;rw [if_neg (Nat.lt_irrefl _)]
def WM (L:List Int)(a:Nat):Nat→List Int
 |0=>L
 |t+1=>lS (WM L a t) (a+t) (a+t+1)
def VM (L:List Int)(m:Nat):Nat→List Int
 |0=>L
 |t+1=>lS (VM L m t) (m - t) (m - t - 1)
theorem Y9 (L:List Int)(a:Nat):∀ t,a+t<L.length→Sw L (WM L a t)
 |0,_=>.refl L
 |t+1,h=>by
  have h1:=Y9 L a t (by omega);unfold WM;exact .step _ _ h1 (by rw [h1.len];omega) (by rw [h1.len];omega)
theorem aBb (L:List Int)(m:Nat)(hm:m<L.length):∀ t,Sw L (VM L m t)
 |0=>.refl L
 |t+1=>by
  have h1:=aBb L m hm t;unfold VM;exact .step _ _ h1 (by rw [h1.len];omega) (by rw [h1.len];omega)
def stM (D:CW)(L:List Int)(a m b:Nat):Nat :=
 tU (fun c=>iS D (aH L ((a+b) / 2+m - 1 - c)) (aH L c)) ((if (a+b) / 2<m then (a+b) / 2 else m) - (if (a+b) / 2<m then (a+b) / 2+m - b else a)) (if (a+b) / 2<m then (a+b) / 2+m - b else a) (if (a+b) / 2<m then (a+b) / 2 else m)
def aP (D:CW):Nat→List Int→Nat→Nat→Nat→List Int
 |0,L,_,_,_=>L
 |k+1,L,a,m,b =>
  if m - a=1 then WM L a (tU (fun h=>!(iS D (aH L h) (aH L a))) (b - m) m b - 1 - a)
  else if b - m=1 then VM L m (m - tU (fun h=>iS D (aH L m) (aH L h)) (m - a) a m)
  else
   let st:=stM D L a m b;let en:=(a+b) / 2+m - st;let L1:=if st<m∧m<en then bO m (m - st+(en - m)) L (m - st) (en - m) else L
   let L2:=if a<st∧st<(a+b) / 2 then aP D k L1 a st ((a+b) / 2) else L1
   if (a+b) / 2<en∧en<b then aP D k L2 ((a+b) / 2) en b else L2
theorem wK {D:CW}{L:List Int}{a m b:Nat}(h1:a<m)(h2:m<b):a≤stM D L a m b∧stM D L a m b≤m∧stM D L a m b≤(a+b) / 2∧m≤(a+b) / 2+m - stM D L a m b∧(a+b) / 2+m - stM D L a m b≤b∧(a+b) / 2≤(a+b) / 2+m - stM D L a m b:=by
 unfold stM;by_cases hc:(a+b) / 2<m
 ·simp only [if_pos hc];have:=kO (f:=fun c=>iS D (aH L ((a+b) / 2+m - 1 - c)) (aH L c)) (k:=(a+b) / 2 - ((a+b) / 2+m - b)) (i:=(a+b) / 2+m - b) (j:=(a+b) / 2) (by omega);generalize tU (fun c=>iS D (aH L ((a+b) / 2+m - 1 - c)) (aH L c)) ((a+b) / 2 - ((a+b) / 2+m - b)) ((a+b) / 2+m - b) ((a+b) / 2)=st at this ⊢;omega
 ·simp only [if_neg hc];have:=kO (f:=fun c=>iS D (aH L ((a+b) / 2+m - 1 - c)) (aH L c)) (k:=m - a) (i:=a) (j:=m) (by omega);generalize tU (fun c=>iS D (aH L ((a+b) / 2+m - 1 - c)) (aH L c)) (m - a) a m=st at this ⊢;omega
theorem lK (D:CW):∀ (k:Nat) (L:List Int) (a m b:Nat),a<m→m<b→b≤L.length→Sw L (aP D k L a m b)
 |0,L,_,_,_,_,_,_=>.refl L
 |k+1,L,a,m,b,h1,h2,h3=>by
  unfold aP;split
  ·have:=kO (f:=fun h=>!(iS D (aH L h) (aH L a))) (k:=b - m) (i:=m) (j:=b) (by omega);exact Y9 _ _ _ (by omega)
  ·split
   ·exact aBb _ _ (by omega) _
   ·have lo:=wK (D:=D) (L:=L) h1 h2;simp only;generalize stM D L a m b=st at lo;have s1:Sw L (if st<m∧m<(a+b) / 2+m - st then bO m (m - st+((a+b) / 2+m - st - m)) L (m - st) ((a+b) / 2+m - st - m) else L):=by
     split
     ·exact rG _ _ _ _ _ (by omega) (by omega)
     ·exact .refl L
    generalize (if st<m∧m<(a+b) / 2+m - st then bO m (m - st+((a+b) / 2+m - st - m)) L (m - st) ((a+b) / 2+m - st - m) else L)=L1 at s1;have s2:Sw L1 (if a<st∧st<(a+b) / 2 then aP D k L1 a st ((a+b) / 2) else L1):=by
     split
     ·exact lK D k _ _ _ _ (by omega) (by omega) (by rw [s1.len];omega)
     ·exact .refl L1
    generalize (if a<st∧st<(a+b) / 2 then aP D k L1 a st ((a+b) / 2) else L1)=L2 at s2;refine (s1.trans s2).trans ?_;split
    ·exact lK D k _ _ _ _ (by omega) (by omega) (by rw [(s1.trans s2).len];omega)
    ·exact .refl L2
end Go.Aw
end
