/-
  Parts of a proof. No condition.
-/
import Derived.Test.YticajjhjehljpaaGreatQBo
set_option linter.unusedSimpArgs false
set_option linter.unusedVariables false
noncomputable section
namespace Go.Aw
def Cs (G:List (Pq × Pq))(c f:Pq × Pq→Int):Int:=kE (fun e=>c e*f e) G
def LX (G:List (Pq × Pq))(c:Pq × Pq→Int):Prop:=∀ g:Pq→Int,Cs G c (fun e=>g e.2 - g e.1)=0
structure Gr (G:List (Pq × Pq)):Prop where
 ne:∀ e∈G,e.1≠e.2
 ok:∀ e∈G,∀ f∈G,e≠f→okP e f
 nd:G.Nodup
def Ad (G:List (Pq × Pq))(u v:Pq):Prop:=(u,v)∈G∨(v,u)∈G
theorem pF {f g:Pq × Pq→Int}:∀ {L:List (Pq × Pq)},(∀ e∈L,f e=g e)→kE f L=kE g L
 |[],_=>rfl
 |e::r,h=>by
  rw [kE,kE,h e (.head _),pF fun x hx=>h x (.tail _ hx)]
theorem LD (f g:Pq × Pq→Int):∀ (L:List (Pq × Pq)),kE (fun e=>f e+g e) L=kE f L+kE g L
 |[]=>rfl
 |e::r=>by
  rw [kE,kE,kE,LD f g r];omega
theorem OM (f g:Pq × Pq→Int):∀ (L:List (Pq × Pq)),kE (fun e=>f e - g e) L=kE f L - kE g L
 |[]=>rfl
 |e::r=>by
  rw [kE,kE,kE,OM f g r];omega
theorem jV {G:List (Pq × Pq)}{c f g:Pq × Pq→Int}(h:∀ e∈G,c e≠0→f e=g e):Cs G c f=Cs G c g :=
 pF fun e he=>by
  by_cases h0:c e=0
  ·rw [h0,Int.zero_mul,Int.zero_mul]
  ·rw [h e he h0]
theorem P6 (G:List (Pq × Pq))(c f g:Pq × Pq→Int):Cs G c (fun e=>f e+g e)=Cs G c f+Cs G c g:=by
 unfold Cs;rw [← LD];exact pF fun e _=>Int.mul_add _ _ _
theorem P0 (G:List (Pq × Pq))(c f g:Pq × Pq→Int):Cs G c (fun e=>f e - g e)=Cs G c f - Cs G c g:=by
 unfold Cs;rw [← OM];exact pF fun e _=>Int.mul_sub _ _ _
theorem aCp {G:List (Pq × Pq)}{c f:Pq × Pq→Int}(h:∀ e∈G,c e≠0→f e=0):Cs G c f=0:=by
 have:Cs G c f=Cs G c (fun _=>0):=jV h;rw [this];unfold Cs
 induction G with
 |nil=>rfl
 |cons e r ih =>
  rw [kE,Int.mul_zero,Int.zero_add];exact ih (fun e he=>h e (.tail _ he)) (jV fun e he=>h e (.tail _ he))
theorem aBP {G:List (Pq × Pq)}(hG:Gr G){u v:Pq}(hd:Ad G u v){e:Pq × Pq}(he:e∈G)(h1:e≠(u,v))(h2:e≠(v,u)):okP e (u,v):=by
 rcases hd with hd|hd
 ·exact hG.ok e he _ hd h1
 ·exact EA (RV (EA (hG.ok e he _ hd h2)))
theorem Ad.ne {G:List (Pq × Pq)}(hG:Gr G){u v:Pq}(hd:Ad G u v):u≠v:=hd.elim (fun h=>hG.ne _ h) (fun h=>fun e=>hG.ne _ h e.symm)
def dd (u v:Pq):Pq:=(v.1 - u.1,v.2 - u.2)
def lam (D v z:Pq):Int:=if 0<cY D (vec 1 v z) then 1 else 0
theorem B8 (D v:Pq):cY D (vec 1 v v)=0:=by unfold cY vec;simp only;grind
theorem aDX (v z:Pq):cY (vec 1 v v) (vec 1 v z)=0:=by unfold cY vec;simp only;grind
theorem aEj (v z:Pq):cY (vec 1 v z) (vec 1 v v)=0:=by unfold cY vec;simp only;grind
theorem U4 {G:List (Pq × Pq)}(hG:Gr G){u v:Pq}(hd:Ad G u v){e:Pq × Pq}(he:e∈G) :
  wn (dd u v) 1 u e=wn (dd u v) 1 v e+((if e.1=v then lam (dd u v) v e.2 else 0) - (if e.2=v then lam (dd u v) v e.1 else 0)):=by
 obtain⟨y,z⟩:=e;have hyz:y≠z:=hG.ne _ he;have huv:=hd.ne hG;have S1:∀ x:Pq,cY (dd u v) (vec 1 u x)=cY (dd u v) (vec 1 v x):=fun x=>(by unfold cY dd vec;simp only;grind);have hal:cY (vec 1 u y) (vec 1 u z)=cY (vec 1 v y) (vec 1 v z)+cY (dd u v) (vec 1 v z) - cY (dd u v) (vec 1 v y):=(by unfold cY dd vec;simp only;grind);have Su:cY (dd u v) (vec 1 v u)=0:=(by unfold cY dd vec;simp only;grind);have au1:cY (vec 1 v u) (vec 1 v z) = -cY (dd u v) (vec 1 v z):=(by unfold cY dd vec;simp only;grind);have au2:cY (vec 1 v y) (vec 1 v u)=cY (dd u v) (vec 1 v y):=(by unfold cY dd vec;simp only;grind);unfold wn;simp only;rw [S1,S1,hal];by_cases h1:y=v
 ·subst h1;rw [if_pos rfl,if_neg (fun e=>hyz e.symm),B8,aDX];unfold rI lam;simp only [Int.le_refl,true_and,Int.zero_add,Int.sub_zero,Int.lt_irrefl,if_false,false_and];by_cases hp:0<cY (dd u y) (vec 1 y z)
  ·simp only [if_pos hp];omega
  ·simp only [if_neg hp];omega
 ·by_cases h2:z=v
  ·subst h2;rw [if_pos rfl,if_neg h1,B8,aEj];unfold rI lam;simp only [Int.le_refl,and_true,Int.zero_add,Int.lt_irrefl,and_false,if_false];by_cases hp:0<cY (dd u z) (vec 1 z y)
   ·simp only [if_pos hp];rw [if_pos (by omega)];omega
   ·simp only [if_neg hp];omega
  ·rw [if_neg h1,if_neg h2];by_cases h3:y=u
   ·subst h3;rw [Su,au1];unfold rI;split
    ·rw [if_neg (by omega),if_neg (by omega)];omega
    ·split <;> omega
   ·by_cases h4:z=u
    ·subst h4;rw [Su,au2];unfold rI;split
     ·omega
     ·split
      ·rw [if_neg (by omega),if_neg (by omega)];omega
      ·omega
    ·-- a side that meets the edge nowhere
     have hok:=aBP hG hd he (fun e=>h3 (congrArg Prod.fst e)) (fun e=>h1 (congrArg Prod.fst e));have hid1:cY (dd u v) (vec 1 v z)*(vec 1 v y).1 - cY (dd u v) (vec 1 v y)*(vec 1 v z).1=cY (vec 1 v y) (vec 1 v z)*(dd u v).1:=(by unfold cY;grind);have hid2:cY (dd u v) (vec 1 v z)*(vec 1 v y).2 - cY (dd u v) (vec 1 v y)*(vec 1 v z).2=cY (vec 1 v y) (vec 1 v z)*(dd u v).2:=(by unfold cY;grind);generalize cY (dd u v) (vec 1 v y)=A at *;generalize cY (dd u v) (vec 1 v z)=B at *;generalize cY (vec 1 v y) (vec 1 v z)=α at *;have key:∀ M k1 k2:Int,0<M→0≤k1→0≤k2→k1+k2=M→0≤k1*0+M+α*0→True:=fun _ _ _ _ _ _ _ _=>trivial;have up:¬ (A≤0∧0<B∧α≤0∧0<α+B - A):=fun ⟨a1,a2,a3,a4⟩=>by
      obtain⟨w,w1,w2,-⟩:=hok (B - A) (B*y.1+(-A)*z.1) (B*y.2+(-A)*z.2) (by omega)
       ⟨B,-A,by omega,by omega,by omega,rfl,rfl⟩
       ⟨-α,(B - A)+α,by omega,by omega,by omega,by
        show _ = -α*u.1+(B - A+α)*v.1;unfold vec dd at hid1;simp only at hid1;clear hok key;grind,by
        show _ = -α*u.2+(B - A+α)*v.2;unfold vec dd at hid2;simp only at hid2;clear hok key;grind⟩
      simp only at w1 w2;rcases w1 with w1|w1 <;> rcases w2 with w2|w2
      ·exact h3 (w1.symm.trans w2)
      ·exact h1 (w1.symm.trans w2)
      ·exact h4 (w1.symm.trans w2)
      ·exact h2 (w1.symm.trans w2)
     have dn:¬ (0<A∧B≤0∧0≤α∧α+B - A<0):=fun ⟨a1,a2,a3,a4⟩=>by
      obtain⟨w,w1,w2,-⟩:=hok (A - B) ((-B)*y.1+A*z.1) ((-B)*y.2+A*z.2) (by omega)
       ⟨-B,A,by omega,by omega,by omega,rfl,rfl⟩
       ⟨α,(A - B) - α,by omega,by omega,by omega,by
        show _=α*u.1+(A - B - α)*v.1;unfold vec dd at hid1;simp only at hid1;clear hok key;grind,by
        show _=α*u.2+(A - B - α)*v.2;unfold vec dd at hid2;simp only at hid2;clear hok key;grind⟩
      simp only at w1 w2;rcases w1 with w1|w1 <;> rcases w2 with w2|w2
      ·exact h3 (w1.symm.trans w2)
      ·exact h1 (w1.symm.trans w2)
      ·exact h4 (w1.symm.trans w2)
      ·exact h2 (w1.symm.trans w2)
     unfold rI
     (repeat' split) <;> omega
def HQ (U U' v z:Pq):Int:=O7 (cY U (vec 1 v z)) (cY U' (vec 1 v z))
theorem W8 {G:List (Pq × Pq)}(hG:Gr G){u v:Pq}(hd:Ad G u v){U U':Pq}(hD:0<cY U U'){e:Pq × Pq}(he:e∈G) :
  wn U 1 v e - wn U' 1 v e=(HQ U U' v e.2 - HQ U U' v e.1) - ((if e.1=v then HQ U U' v e.2 else 0) - (if e.2=v then HQ U U' v e.1 else 0)):=by
 obtain⟨y,z⟩:=e;have hyz:y≠z:=hG.ne _ he;unfold wn;simp only;have c0:HQ U U' v v=0:=(by unfold HQ;rw [B8,B8];rfl);have r0:∀ A B:Int,rI A B 0=0:=fun A B=>(by unfold rI;(repeat' split) <;> omega);by_cases h1:y=v
 ·subst h1;rw [if_pos rfl,if_neg (fun e=>hyz e.symm),c0,aDX,r0,r0];omega
 ·by_cases h2:z=v
  ·subst h2;rw [if_pos rfl,if_neg h1,c0,aEj,r0,r0];omega
  ·rw [if_neg h1,if_neg h2];have hoff:aI6 1 v (y,z):=fun ⟨M,hM,ho⟩=>by
    rw [Int.mul_one] at ho;have hok:=aBP hG hd he (fun e=>h2 (congrArg Prod.snd e)) (fun e=>h1 (congrArg Prod.fst e));obtain⟨w,w1,w2,w3,w4⟩:=hok M (M*v.1) (M*v.2) hM ho ⟨0,M,by decide,by omega,by omega,by show _=0*u.1+M*v.1;omega,by show _=0*u.2+M*v.2;omega⟩;have e1:=Int.eq_of_mul_eq_mul_left (show M≠0 by omega) w3;have e2:=Int.eq_of_mul_eq_mul_left (show M≠0 by omega) w4;have:v=w:=Prod.ext e1 e2;rcases w1 with w1|w1
    ·exact h1 (by rw [this];exact w1.symm)
    ·exact h2 (by rw [this];exact w1.symm)
   have:=aIM (A:=cY U (vec 1 v y)) (B:=cY U (vec 1 v z)) (A':=cY U' (vec 1 v y)) (B':=cY U' (vec 1 v z)) (C:=cY (vec 1 v y) (vec 1 v z)) hD (by unfold cY;grind) fun hc=>⟨NM (by decide) hoff hc U,NM (by decide) hoff hc U'⟩;unfold HQ;omega
variable {G:List (Pq × Pq)}{c:Pq × Pq→Int}
def At (G:List (Pq × Pq))(c:Pq × Pq→Int)(v:Pq)(h:Pq→Int):Int:=Cs G c (fun e=>(if e.1=v then h e.2 else 0) - (if e.2=v then h e.1 else 0))
theorem mH {v:Pq}{h k:Pq→Int}(hh:∀ z,Ad G v z→h z=k z):At G c v h=At G c v k:=by
 unfold At;refine jV fun e he _=>?_;by_cases h1:e.1=v
 ·have:Ad G v e.2:=.inl (by rw [← h1];exact he);by_cases h2:e.2=v
  ·have h3:Ad G v e.1:=.inr (by rw [← h2];exact he);simp only [if_pos h1,if_pos h2,hh _ this,hh _ h3]
  ·simp only [if_pos h1,if_neg h2,hh _ this]
 ·by_cases h2:e.2=v
  ·have h3:Ad G v e.1:=.inr (by rw [← h2];exact he);simp only [if_neg h1,if_pos h2,hh _ h3]
  ·simp only [if_neg h1,if_neg h2]
theorem rP {v:Pq}(hc:LX G c)(k:Int):At G c v (fun _=>k)=0:=by
 have:=hc (fun z=>if z=v then -k else 0);have h2:At G c v (fun _=>k)=Cs G c (fun e=>(if e.2=v then -k else 0) - (if e.1=v then -k else 0)):=by
  unfold At;refine jV fun e _ _=>?_;by_cases h1:e.1=v <;> by_cases h2:e.2=v <;> simp [h1,h2]
 rw [h2];exact this
theorem aGq {v:Pq}{h k:Pq→Int}:At G c v (fun z=>h z - k z)=At G c v h - At G c v k:=by
 unfold At;rw [← P0];refine jV fun e _ _=>?_;by_cases h1:e.1=v <;> by_cases h2:e.2=v <;> simp [h1,h2] <;> omega
theorem aGj {v:Pq}{h k:Pq→Int}:At G c v (fun z=>h z+k z)=At G c v h+At G c v k:=by
 unfold At;rw [← P6];refine jV fun e _ _=>?_;by_cases h1:e.1=v <;> by_cases h2:e.2=v <;> simp [h1,h2] <;> omega
def Wd (G:List (Pq × Pq))(c:Pq × Pq→Int)(U v:Pq):Int:=Cs G c (wn U 1 v)
theorem M9 (hG:Gr G){u v:Pq}(hd:Ad G u v):Wd G c (dd u v) u=Wd G c (dd u v) v+At G c v (lam (dd u v) v):=by
 unfold Wd At;rw [← P6];exact jV fun e he _=>U4 hG hd he
theorem oQ (hG:Gr G)(hc:LX G c){u v:Pq}(hd:Ad G u v){U U':Pq}(hD:0<cY U U'):Wd G c U v=Wd G c U' v - At G c v (HQ U U' v):=by
 have h1:Cs G c (fun e=>wn U 1 v e - wn U' 1 v e)=Cs G c (fun e=>(HQ U U' v e.2 - HQ U U' v e.1) - ((if e.1=v then HQ U U' v e.2 else 0) - (if e.2=v then HQ U U' v e.1 else 0))):=jV fun e he _=>W8 hG hd hD he;rw [P0,P0,hc (HQ U U' v)] at h1;unfold Wd At;omega
theorem Ad.symm {u v:Pq}(h:Ad G u v):Ad G v u:=h.elim .inr .inl
theorem aHs (hG:Gr G){u v y z:Pq}(h1:Ad G y z)(h2:Ad G u v)(n1:(y,z)≠(u,v))(n2:(y,z)≠(v,u)):okP (y,z) (u,v):=by
 rcases h1 with h1|h1
 ·exact aBP hG h2 h1 n1 n2
 ·refine RV (e:=(z,y)) (aBP hG h2 h1 (fun e=>n2 ?_) (fun e=>n1 ?_))
  ·injection e with e1 e2;rw [e1,e2]
  ·injection e with e1 e2;rw [e1,e2]
theorem IX (hG:Gr G){u v z:Pq}(hz:Ad G v z)(hu:Ad G v u)(hzu:z≠u)(h0:cY (dd u v) (vec 1 v z)=0)(h1:0<(u.1 - v.1)*(z.1 - v.1)+(u.2 - v.2)*(z.2 - v.2)):False:=by
 have hvz:=hz.ne hG;have hvu:=hu.ne hG;have hok:=aHs hG hz hu (fun e=>hzu (congrArg Prod.snd e)) (fun e=>hvu (congrArg Prod.fst e));have hS:=sq_pos (x:=u.1 - v.1) (y:=u.2 - v.2) fun g=>hvu (Prod.ext (by omega) (by omega));have e1:((u.1 - v.1)*(u.1 - v.1)+(u.2 - v.2)*(u.2 - v.2))*(z.1 - v.1)=((u.1 - v.1)*(z.1 - v.1)+(u.2 - v.2)*(z.2 - v.2))*(u.1 - v.1):=by
  unfold cY dd vec at h0;simp only at h0;clear hok hS h1;grind
 have e2:((u.1 - v.1)*(u.1 - v.1)+(u.2 - v.2)*(u.2 - v.2))*(z.2 - v.2)=((u.1 - v.1)*(z.1 - v.1)+(u.2 - v.2)*(z.2 - v.2))*(u.2 - v.2):=by
  unfold cY dd vec at h0;simp only at h0;clear hok hS h1;grind
 generalize (u.1 - v.1)*(u.1 - v.1)+(u.2 - v.2)*(u.2 - v.2)=S at *;generalize (u.1 - v.1)*(z.1 - v.1)+(u.2 - v.2)*(z.2 - v.2)=k at *;rcases Int.le_total k S with g|g
 ·obtain⟨w,w1,w2,w3,w4⟩:=hok S (S*z.1) (S*z.2) hS ⟨0,S,by decide,by omega,by omega,by show _=0*v.1+S*z.1;omega,by show _=0*v.2+S*z.2;omega⟩
   (T2 (w:=v) (a:=z) (b:=u) (k:=k) (by omega) g e1 e2)
  have f1:=Int.eq_of_mul_eq_mul_left (show S≠0 by omega) w3;have f2:=Int.eq_of_mul_eq_mul_left (show S≠0 by omega) w4;have:z=w:=Prod.ext f1 f2;rcases w2 with w2|w2
  ·exact hvz (w2.symm.trans this.symm)
  ·exact hzu (this.trans w2)
 ·obtain⟨w,w1,w2,w3,w4⟩:=hok k (k*u.1) (k*u.2) h1 (T2 (w:=v) (a:=u) (b:=z) (k:=S) (by omega) g e1.symm e2.symm)
   ⟨0,k,by decide,by omega,by omega,by show _=0*v.1+k*u.1;omega,by show _=0*v.2+k*u.2;omega⟩
  have f1:=Int.eq_of_mul_eq_mul_left (show k≠0 by omega) w3;have f2:=Int.eq_of_mul_eq_mul_left (show k≠0 by omega) w4;have:u=w:=Prod.ext f1 f2;rcases w1 with w1|w1
  ·exact hvu (w1.symm.trans this.symm)
  ·exact hzu (w1.symm.trans this.symm)
def Ld (G:List (Pq × Pq))(c:Pq × Pq→Int)(u v:Pq):Int:=Wd G c (dd u v) u
theorem aCc (hG:Gr G)(hc:LX G c){u v:Pq}(hd:Ad G u v):Ld G c u v - Ld G c v u=Cs G c (fun e=>(if e=(u,v) then 1 else 0) - (if e=(v,u) then 1 else 0)):=by
 have huv:=hd.ne hG;have hp:=sq_pos (x:=v.1 - u.1) (y:=v.2 - u.2) fun g=>huv (Prod.ext (by omega) (by omega));have h1:=M9 (c:=c) hG hd;have h2:=oQ (c:=c) hG hc hd (U:=dd u v) (U':=(-(dd u v).2,(dd u v).1)) (by
  have:cY (dd u v) (-(dd u v).2,(dd u v).1)=(v.1 - u.1)*(v.1 - u.1)+(v.2 - u.2)*(v.2 - u.2):=(by unfold cY dd;simp only;grind);omega)
 have h3:=oQ (c:=c) hG hc hd (U:=(-(dd u v).2,(dd u v).1)) (U':=dd v u) (by
  have:cY (-(dd u v).2,(dd u v).1) (dd v u)=(v.1 - u.1)*(v.1 - u.1)+(v.2 - u.2)*(v.2 - u.2):=(by unfold cY dd;simp only;grind);omega)
 have h4:At G c v (HQ (dd u v) (-(dd u v).2,(dd u v).1) v)+At G c v (HQ (-(dd u v).2,(dd u v).1) (dd v u) v) - At G c v (lam (dd u v) v)=At G c v (fun z=>if z=u then 1 else 0):=by
  rw [← aGj,← aGq];refine mH fun z hz=>?_;have hzv:v≠z:=hz.ne hG;have e1:cY (dd v u) (vec 1 v z) = -cY (dd u v) (vec 1 v z):=by unfold cY dd vec;simp only;grind
  -- only u lies straight back
  have back:cY (dd u v) (vec 1 v z)=0→0<cY (-(dd u v).2,(dd u v).1) (vec 1 v z)→z=u:=fun g0 g1=>Classical.byContradiction fun hzu=>by
   exact IX hG hz hd.symm hzu g0 (by
    have:cY (-(dd u v).2,(dd u v).1) (vec 1 v z)=(u.1 - v.1)*(z.1 - v.1)+(u.2 - v.2)*(z.2 - v.2):=(by unfold cY dd vec;simp only;grind);omega)
  have only:z=u→cY (dd u v) (vec 1 v z)=0∧0<cY (-(dd u v).2,(dd u v).1) (vec 1 v z):=fun g=>by
   subst g;have t1:cY (dd z v) (vec 1 v z)=0:=(by unfold cY dd vec;simp only;grind);have t2:cY (-(dd z v).2,(dd z v).1) (vec 1 v z)=(v.1 - z.1)*(v.1 - z.1)+(v.2 - z.2)*(v.2 - z.2):=(by unfold cY dd vec;simp only;grind);exact⟨t1,by omega⟩
  unfold HQ O7 lam;rw [e1];generalize cY (dd u v) (vec 1 v z)=A at *;generalize cY (-(dd u v).2,(dd u v).1) (vec 1 v z)=B at *;by_cases hzu:z=u
  ·obtain⟨a,b⟩:=only hzu;rw [if_pos hzu]
   (repeat' split) <;> omega
  ·have:¬ (A=0∧0<B):=fun g=>hzu (back g.1 g.2);rw [if_neg hzu]
   (repeat' split) <;> omega
 have h5:At G c v (fun z=>if z=u then 1 else 0) = -Cs G c (fun e=>(if e=(u,v) then 1 else 0) - (if e=(v,u) then 1 else 0)):=by
  have:Cs G c (fun e=>(if e=(u,v) then (1:Int) else 0) - (if e=(v,u) then 1 else 0))+At G c v (fun z=>if z=u then 1 else 0)=0:=by
   unfold At;rw [← P6];refine aCp fun e _ _=>?_;obtain⟨y,z⟩:=e;simp only [Prod.mk.injEq]
   by_cases a1:y=u <;> by_cases a2:y=v <;> by_cases a3:z=u <;> by_cases a4:z=v <;> first
    |exact absurd (a1.symm.trans a2) huv
    |exact absurd (a3.symm.trans a4) huv
    |simp [a1,a2,a3,a4,huv,Ne.symm huv]
  omega
 unfold Ld;omega
def XI (v u w:Pq):Int:=if aV v u w<0 then 0 else if 0<aV v u w then 2 else if (u.1 - v.1)*(w.1 - v.1)+(u.2 - v.2)*(w.2 - v.2)<0 then 1 else 3
def aBd (v u z w:Pq):Prop:=XI v u z<XI v u w∨XI v u z=XI v u w∧aV v z w<0
theorem XV {U U':Pq}{k l:Int}(hk:0<k)(hl:0<l)(h1:k*U.1=l*U'.1)(h2:k*U.2=l*U'.2)(N:Int)(p:Pq)(e:Pq × Pq):wn U N p e=wn U' N p e:=by
 have s:∀ x:Pq,(0<cY U x↔0<cY U' x):=fun x=>by
  have e:k*cY U x=l*cY U' x:=by
   unfold cY
   grind
  constructor
  ·intro h;have:=Int.mul_pos hk h;exact Int.not_le.1 fun g=>by
    have:=Int.mul_nonpos_of_nonneg_of_nonpos (Int.le_of_lt hl) g;omega
  ·intro h;have:=Int.mul_pos hl h;exact Int.not_le.1 fun g=>by
    have:=Int.mul_nonpos_of_nonneg_of_nonpos (Int.le_of_lt hk) g;omega
 have s1:=s (vec N p e.1);have s2:=s (vec N p e.2);unfold wn rI
 (repeat' split) <;> omega
theorem aBA (hG:Gr G)(hc:LX G c){u v w:Pq}(hd:Ad G u v)(hw:Ad G v w)(hmin:∀ z,Ad G v z→¬ aBd v u z w):Ld G c u v=Ld G c v w:=by
 have huv:=hd.ne hG;have hvw:=hw.ne hG;have h1:=M9 (c:=c) hG hd;have cz:∀ z:Pq,aV v u z = -cY (dd u v) (vec 1 v z):=fun z=>(by unfold aV cY dd vec;simp only;grind);have cw:∀ z:Pq,aV v z w = -cY (dd v w) (vec 1 v z):=fun z=>(by unfold aV cY dd vec;simp only;grind);have dnn:cY (dd u v) (dd v w)=cY (dd u v) (vec 1 v w):=(by unfold cY dd vec;simp only;grind);have hm:∀ z,Ad G v z→¬ (XI v u z<XI v u w)∧¬ (XI v u z=XI v u w∧0<cY (dd v w) (vec 1 v z)):=fun z hz=>⟨fun g=>hmin z hz (.inl g),fun g=>hmin z hz (.inr ⟨g.1,by rw [cw];omega⟩)⟩;have rk0:∀ z,XI v u z=if 0<cY (dd u v) (vec 1 v z) then 0 else if cY (dd u v) (vec 1 v z)<0 then 2 else if (u.1 - v.1)*(z.1 - v.1)+(u.2 - v.2)*(z.2 - v.2)<0 then 1 else 3:=fun z=>by
  unfold XI;rw [cz];by_cases a:0<cY (dd u v) (vec 1 v z)
  ·rw [if_pos (by omega),if_pos a]
  ·rw [if_neg (by omega),if_neg a];by_cases b:cY (dd u v) (vec 1 v z)<0
   ·rw [if_pos (by omega),if_pos b]
   ·rw [if_neg (by omega),if_neg b]
 unfold Ld;rw [h1];rcases Int.lt_trichotomy (cY (dd u v) (vec 1 v w)) 0 with hs|hs|hs
 ·-- to the right
  have rw2:XI v u w=2:=(by rw [rk0,if_neg (by omega),if_pos hs]);have l0:At G c v (lam (dd u v) v)=0:=by
   rw [← rP (v:=v) hc 0];refine mH fun z hz=>?_;unfold lam;refine if_neg fun g=>(hm z hz).1 ?_;rw [rw2,rk0,if_pos g];decide
  have h2:=oQ (c:=c) hG hc hd (U:=dd v w) (U':=dd u v) (by rw [aDg,dnn];omega);have x0:At G c v (HQ (dd v w) (dd u v) v)=0:=by
   rw [← rP (v:=v) hc 0];refine mH fun z hz=>?_;unfold HQ O7;refine if_neg fun ⟨g1,g2⟩=>?_;rcases Int.lt_or_eq_of_le g2 with g3|g3
   ·exact (hm z hz).2 ⟨by rw [rw2,rk0,if_neg (by omega),if_pos g3],g1⟩
   ·-- straight on,or straight back
    have hzv:=hz.ne hG;by_cases hb:(u.1 - v.1)*(z.1 - v.1)+(u.2 - v.2)*(z.2 - v.2)<0
    ·exact (hm z hz).1 (by rw [rw2,rk0,if_neg (by omega),if_neg (by omega),if_pos hb];decide)
    ·-- z is u
     have hk:0≤(u.1 - v.1)*(z.1 - v.1)+(u.2 - v.2)*(z.2 - v.2):=(by omega);have hS:=sq_pos (x:=u.1 - v.1) (y:=u.2 - v.2) fun g=>huv (Prod.ext (by omega) (by omega));have e1:((u.1 - v.1)*(u.1 - v.1)+(u.2 - v.2)*(u.2 - v.2))*cY (dd v w) (vec 1 v z)=((u.1 - v.1)*(z.1 - v.1)+(u.2 - v.2)*(z.2 - v.2))*cY (dd u v) (vec 1 v w):=by
      unfold cY dd vec at g3 ⊢;simp only at g3 ⊢;clear h1 h2 l0 hm hmin hs hS hk hb g1 g2;grind
     have m1:=Int.mul_pos hS g1;have m2:=Int.mul_nonpos_of_nonneg_of_nonpos hk (Int.le_of_lt hs);omega
  omega
 ·-- straight on,or back
  have l0:At G c v (lam (dd u v) v)=0:=by
   by_cases hb:(u.1 - v.1)*(w.1 - v.1)+(u.2 - v.2)*(w.2 - v.2)<0
   ·rw [← rP (v:=v) hc 0];refine mH fun z hz=>?_;unfold lam;refine if_neg fun g=>(hm z hz).1 ?_;rw [rk0 z,if_pos g,rk0 w,if_neg (by omega),if_neg (by omega),if_pos hb];decide
   ·rw [← rP (v:=v) hc 0];refine mH fun z hz=>?_;unfold lam;refine if_neg fun g=>(hm z hz).1 ?_;rw [rk0 z,if_pos g,rk0 w,if_neg (by omega),if_neg (by omega),if_neg hb];decide
  have hS:=sq_pos (x:=u.1 - v.1) (y:=u.2 - v.2) fun g=>huv (Prod.ext (by omega) (by omega));have hT:=sq_pos (x:=w.1 - v.1) (y:=w.2 - v.2) fun g=>hvw (Prod.ext (by omega) (by omega));by_cases hb:(u.1 - v.1)*(w.1 - v.1)+(u.2 - v.2)*(w.2 - v.2)<0
  ·have:Wd G c (dd u v) v=Wd G c (dd v w) v:=by
    unfold Wd;refine jV fun e _ _=>XV (k:=-((u.1 - v.1)*(w.1 - v.1)+(u.2 - v.2)*(w.2 - v.2))) (l:=(u.1 - v.1)*(u.1 - v.1)+(u.2 - v.2)*(u.2 - v.2)) (by omega) hS ?_ ?_ 1 v e
    ·unfold cY dd vec at hs;simp only at hs;unfold dd;simp only;clear h1 l0 hm hmin hb;grind
    ·unfold cY dd vec at hs;simp only at hs;unfold dd;simp only;clear h1 l0 hm hmin hb;grind
   omega
  ·-- the way back alone
   have hwu:w=u:=Classical.byContradiction fun hne=>by
    by_cases hz:0<(u.1 - v.1)*(w.1 - v.1)+(u.2 - v.2)*(w.2 - v.2)
    ·exact IX hG hw hd.symm hne hs hz
    ·have h0:(u.1 - v.1)*(w.1 - v.1)+(u.2 - v.2)*(w.2 - v.2)=0:=(by omega);have e1:((u.1 - v.1)*(u.1 - v.1)+(u.2 - v.2)*(u.2 - v.2))*(w.1 - v.1)=0:=(by unfold cY dd vec at hs;simp only at hs;clear h1 l0 hm hmin hb hS hT hz;grind);have e2:((u.1 - v.1)*(u.1 - v.1)+(u.2 - v.2)*(u.2 - v.2))*(w.2 - v.2)=0:=(by unfold cY dd vec at hs;simp only at hs;clear h1 l0 hm hmin hb hS hT hz e1;grind);have f1:=(cO e1).resolve_left (by omega);have f2:=(cO e2).resolve_left (by omega);exact hvw (Prod.ext (by omega) (by omega))
   subst hwu;have hall:∀ z,Ad G v z→z=w:=fun z hz=>by
    have hzv:=hz.ne hG;have r3:XI v w w=3:=(by rw [rk0,if_neg (by omega),if_neg (by omega),if_neg hb]);have:=(hm z hz).1;rw [r3,rk0] at this;by_cases a:0<cY (dd w v) (vec 1 v z)
    ·rw [if_pos a] at this;omega
    ·rw [if_neg a] at this;by_cases b:cY (dd w v) (vec 1 v z)<0
     ·rw [if_pos b] at this;omega
     ·rw [if_neg b] at this;by_cases d:(w.1 - v.1)*(z.1 - v.1)+(w.2 - v.2)*(z.2 - v.2)<0
      ·rw [if_pos d] at this;omega
      ·refine Classical.byContradiction fun hne=>?_;have g0:cY (dd w v) (vec 1 v z)=0:=(by omega);by_cases hz0:0<(w.1 - v.1)*(z.1 - v.1)+(w.2 - v.2)*(z.2 - v.2)
       ·exact IX hG hz hd.symm hne g0 hz0
       ·have h0:(w.1 - v.1)*(z.1 - v.1)+(w.2 - v.2)*(z.2 - v.2)=0:=(by omega);have e1:((w.1 - v.1)*(w.1 - v.1)+(w.2 - v.2)*(w.2 - v.2))*(z.1 - v.1)=0:=(by unfold cY dd vec at g0;simp only at g0;clear h1 l0 hm hmin hb hS hT hz0 this hs;grind);have e2:((w.1 - v.1)*(w.1 - v.1)+(w.2 - v.2)*(w.2 - v.2))*(z.2 - v.2)=0:=(by unfold cY dd vec at g0;simp only at g0;clear h1 l0 hm hmin hb hS hT hz0 this e1 hs;grind);have f1:=(cO e1).resolve_left (by omega);have f2:=(cO e2).resolve_left (by omega);exact hzv (Prod.ext (by omega) (by omega))
   have j3:∀ h:Pq→Int,At G c v h=0:=fun h=>by
    rw [← rP (v:=v) hc (h w)];exact mH fun z hz=>by rw [hall z hz]
   have h2:=oQ (c:=c) hG hc hd (U:=dd w v) (U':=(-(dd w v).2,(dd w v).1)) (by
    have:cY (dd w v) (-(dd w v).2,(dd w v).1)=(w.1 - v.1)*(w.1 - v.1)+(w.2 - v.2)*(w.2 - v.2):=(by unfold cY dd;simp only;grind);omega)
   have h3:=oQ (c:=c) hG hc hd (U:=(-(dd w v).2,(dd w v).1)) (U':=dd v w) (by
    have:cY (-(dd w v).2,(dd w v).1) (dd v w)=(w.1 - v.1)*(w.1 - v.1)+(w.2 - v.2)*(w.2 - v.2):=(by unfold cY dd;simp only;grind);omega)
   rw [j3] at h2 h3;rw [j3];omega
 ·-- to the left
  have rw0:XI v u w=0:=(by rw [rk0,if_pos hs]);have h2:=oQ (c:=c) hG hc hd (U:=dd u v) (U':=dd v w) (by rw [dnn];exact hs);have x0:At G c v (HQ (dd u v) (dd v w) v)=At G c v (lam (dd u v) v):=by
   refine mH fun z hz=>?_;unfold HQ O7 lam;by_cases g:0<cY (dd u v) (vec 1 v z)
   ·rw [if_pos g,if_pos ⟨g,Int.not_lt.1 fun g2=>(hm z hz).2 ⟨by rw [rw0,rk0,if_pos g],g2⟩⟩]
   ·rw [if_neg g,if_neg (fun h=>g h.1)]
  omega
def sN (f:Nat→Int):Nat→Int
 |0=>0
 |n+1=>sN f n+f n
theorem cB {f g:Nat→Int}:∀ {n:Nat},(∀ i,i<n→f i=g i)→sN f n=sN g n
 |0,_=>rfl
 |n+1,h=>by rw [sN,sN,cB fun i hi=>h i (by omega),h n (by omega)]
theorem zE (f g:Nat→Int):∀ n,sN (fun i=>f i+g i) n=sN f n+sN g n
 |0=>rfl
 |n+1=>by rw [sN,sN,sN,zE f g n];omega
theorem KC (f g:Nat→Int):∀ n,sN (fun i=>f i - g i) n=sN f n - sN g n
 |0=>rfl
 |n+1=>by rw [sN,sN,sN,KC f g n];omega
theorem CP:∀ n,sN (fun _=>0) n=0
 |0=>rfl
 |n+1=>by rw [sN,CP n];rfl
theorem J2 (F:Nat→Nat→Int)(n:Nat):∀ m,sN (fun i=>sN (F i) n) m=sN (fun j=>sN (fun i=>F i j) m) n
 |0=>by
  have:(fun j=>sN (fun i=>F i j) 0)=fun _=>0:=rfl;rw [this,CP];rfl
 |m+1=>by
  rw [sN,J2 F n m,← zE];rfl
theorem lI (v:Int)(k:Nat):∀ n,sN (fun i=>if i=k then v else 0) n=if k<n then v else 0
 |0=>rfl
 |n+1=>by
  rw [sN,lI v k n];by_cases h:n=k
  ·rw [if_neg (by omega),if_pos h,if_pos (by omega)];omega
  ·rw [if_neg h];by_cases h2:k<n
   ·rw [if_pos h2,if_pos (by omega)];omega
   ·rw [if_neg h2,if_neg (by omega)];omega
theorem aCN {n:Nat}{x y:Nat→Nat}(hx:∀ i,i<n→x i<n)(hy:∀ i,i<n→y i<n)(hxy:∀ i,i<n→y (x i)=i)(hyx:∀ i,i<n→x (y i)=i)(F:Nat→Int):sN (fun i=>F (x i)) n=sN F n:=by
 have e1:sN (fun i=>F (x i)) n=sN (fun i=>sN (fun j=>if j=x i then F j else 0) n) n:=cB fun i hi=>by
  have:(fun j=>if j=x i then F j else 0)=fun j=>if j=x i then F (x i) else 0:=by
   funext j;by_cases h:j=x i
   ·rw [if_pos h,if_pos h,h]
   ·rw [if_neg h,if_neg h]
  rw [this,lI,if_pos (hx i hi)]
 rw [e1,J2];refine cB fun j hj=>?_;have:sN (fun i=>if j=x i then F j else 0) n=sN (fun i=>if i=y j then F j else 0) n:=cB fun i hi=>by
  by_cases h:j=x i
  ·rw [if_pos h,if_pos (by rw [h,hxy i hi])]
  ·rw [if_neg h,if_neg (fun e=>h (by rw [e,hyx j hj]))]
 rw [this,lI,if_pos (hy j hj)]
theorem RM (f:Nat→Int):∀ n,sN f (2*n)=sN (fun i=>f (2*i)+f (2*i+1)) n
 |0=>rfl
 |n+1=>by
  rw [show 2*(n+1)=2*n+1+1 by omega,sN,sN,RM f n,sN];omega
structure SJ (R:Nat→Nat→Prop):Prop where
 refl:∀ u,R u u
 symm:∀ {u v},R u v→R v u
 trans:∀ {u v w},R u v→R v w→R u w
def WI (R:Nat→Nat→Prop)(a b:Nat)(u v:Nat):Prop:=R u v∨(R u a∧R b v)∨(R u b∧R a v)
theorem SJ.WI {R:Nat→Nat→Prop}(h:SJ R)(a b:Nat):SJ (WI R a b) where
 refl u:=.inl (h.refl u)
 symm:=by
  rintro u v (g|⟨g1,g2⟩|⟨g1,g2⟩)
  ·exact .inl (h.symm g)
  ·exact .inr (.inr ⟨h.symm g2,h.symm g1⟩)
  ·exact .inr (.inl ⟨h.symm g2,h.symm g1⟩)
 trans:=by
  rintro u v w (g|⟨g1,g2⟩|⟨g1,g2⟩) (k|⟨k1,k2⟩|⟨k1,k2⟩)
  ·exact .inl (h.trans g k)
  ·exact .inr (.inl ⟨h.trans g k1,k2⟩)
  ·exact .inr (.inr ⟨h.trans g k1,k2⟩)
  ·exact .inr (.inl ⟨g1,h.trans g2 k⟩)
  ·exact .inr (.inl ⟨g1,k2⟩)
  ·exact .inl (h.trans g1 k2)
  ·exact .inr (.inr ⟨g1,h.trans g2 k⟩)
  ·exact .inl (h.trans g1 k2)
  ·exact .inr (.inr ⟨g1,k2⟩)
open Classical in
def ldr (R:Nat→Nat→Prop)(v:Nat):Int:=if ∀ u,u<v→¬ R u v then 1 else 0
def OT (R:Nat→Nat→Prop)(n:Nat):Int:=sN (ldr R) n
theorem UQ {R:Nat→Nat→Prop}(h:SJ R):∀ a,∃ l,l≤a∧R l a∧∀ u,u<l→¬ R u l:=fun a=>by
 induction a using Nat.strongRecOn with
 |_ a ih =>
  by_cases hk:∃ u,u<a∧R u a
  ·obtain⟨u,hu,hr⟩:=hk;obtain⟨l,h1,h2,h3⟩:=ih u hu;exact⟨l,by omega,h.trans h2 hr,h3⟩
  ·exact⟨a,Nat.le_refl _,h.refl a,fun u hu g=>hk ⟨u,hu,g⟩⟩
theorem L8 {R:Nat→Nat→Prop}(h:SJ R){a b:Nat}(hab:R a b)(n:Nat):OT (WI R a b) n=OT R n:=by
 have:WI R a b=R:=by
  funext u v;apply propext;constructor
  ·rintro (g|⟨g1,g2⟩|⟨g1,g2⟩)
   ·exact g
   ·exact h.trans (h.trans g1 hab) g2
   ·exact h.trans (h.trans g1 (h.symm hab)) g2
  ·exact .inl
 rw [this]
theorem YL {R:Nat→Nat→Prop}{a b:Nat}:WI R a b=WI R b a:=by
 funext u v;exact propext ⟨fun g=>g.elim .inl (fun g=>.inr g.symm),fun g=>g.elim .inl (fun g=>.inr g.symm)⟩
theorem MX {R:Nat→Nat→Prop}(h:SJ R){a b n:Nat}(ha:a<n)(hb:b<n)(hab:¬ R a b):OT (WI R a b) n=OT R n - 1:=by
 -- the greater of the two leaders falls away
 have key:∀ a b,a<n→b<n→¬ R a b→∀ la lb,la≤a→R la a→(∀ u,u<la→¬ R u la)→lb≤b→R lb b→(∀ u,u<lb→¬ R u lb)→la<lb→OT (WI R a b) n=OT R n - 1:=by
  intro a b ha hb hab la lb a1 a2 a3 b1 b2 b3 hlt;have hl:∀ v,ldr (WI R a b) v=ldr R v - (if v=lb then 1 else 0):=fun v=>by
   unfold ldr;by_cases hv:v=lb
   ·rw [if_pos hv,if_neg (fun g=>g la (by rw [hv];exact hlt) (.inr (.inl ⟨a2,by rw [hv];exact h.symm b2⟩))),if_pos (by rw [hv];exact b3)];rfl
   ·rw [if_neg hv];by_cases g:∀ u,u<v→¬ R u v
    ·rw [if_pos g,if_pos]
     ·rfl
     ·rintro u hu (k|⟨k1,k2⟩|⟨k1,k2⟩)
      ·exact g u hu k
      ·-- v is in the class of b: it is lb
       have:R lb v:=h.trans b2 k2;rcases Nat.lt_trichotomy lb v with t|t|t
       ·exact g lb t this
       ·exact hv t.symm
       ·exact b3 v t (h.symm this)
      ·-- v is in the class of a: it is la,and u is in that of b
       have hva:R la v:=h.trans a2 k2;have hla:v=la:=by
        rcases Nat.lt_trichotomy la v with t|t|t
        ·exact absurd hva (g la t)
        ·exact t.symm
        ·exact absurd (h.symm hva) (a3 v t)
       have hub:R u lb:=h.trans k1 (h.symm b2);exact b3 u (by omega) hub
    ·rw [if_neg g,if_neg (fun k=>g fun u hu hr=>k u hu (.inl hr))];rfl
  unfold OT;rw [cB (fun i _=>hl i),KC,lI,if_pos (by omega)]
 obtain⟨la,a1,a2,a3⟩:=UQ h a;obtain⟨lb,b1,b2,b3⟩:=UQ h b;rcases Nat.lt_trichotomy la lb with t|t|t
 ·exact key a b ha hb hab la lb a1 a2 a3 b1 b2 b3 t
 ·exact absurd (h.trans (h.symm a2) (by rw [t];exact b2)) hab
 ·rw [YL];exact key b a hb ha (fun g=>hab (h.symm g)) lb la b1 b2 b3 a1 a2 a3 t
theorem SF {R:Nat→Nat→Prop}{n:Nat}(hn:0<n)(h:∀ v,v<n→R 0 v):OT R n=1:=by
 have:OT R n=sN (fun v=>if v=0 then 1 else 0) n:=cB fun v hv=>by
  unfold ldr;by_cases g:v=0
  ·rw [if_pos g,if_pos (by intro u hu;omega)]
  ·rw [if_neg g,if_neg (fun k=>k 0 (by omega) (h v hv))]
 rw [this,lI,if_pos hn]
theorem aEJ (n:Nat):OT (fun u v=>u=v) n=n:=by
 have:OT (fun u v=>u=v) n=sN (fun _=>1) n:=cB fun v _=>if_pos (by intro u hu;omega);rw [this]
 induction n with
 |zero=>rfl
 |succ n ih=>rw [sN,ih (cB fun v _=>if_pos (by intro u hu;omega))];omega
def s9 (a b:Nat→Nat):Nat→Nat→Nat→Prop
 |0=>fun u v=>u=v
 |k+1=>WI (s9 a b k) (a k) (b k)
theorem kL (a b:Nat→Nat):∀ k,SJ (s9 a b k)
 |0=>⟨fun _=>rfl,fun h=>h.symm,fun h g=>h.trans g⟩
 |k+1=>(kL a b k).WI _ _
def DR (W:Nat→Nat→Prop)(n:Nat):Nat→Nat→Nat→Prop
 |0=>W
 |j+1=>WI (DR W n j) (2*(n - 1 - j)) (2*(n - 1 - j)+1)
theorem uI {W:Nat→Nat→Prop}(hW:SJ W)(n:Nat):∀ j,SJ (DR W n j)
 |0=>hW
 |j+1=>(uI hW n j).WI _ _
theorem aEP {W:Nat→Nat→Prop}{n:Nat}:∀ {j u v},W u v→DR W n j u v
 |0,_,_,h=>h
 |j+1,_,_,h=>.inl (aEP (j:=j) h)
theorem IK {W:Nat→Nat→Prop}(hW:SJ W){n:Nat}:∀ {j i},n - j≤i→i<n→DR W n j (2*i) (2*i+1)
 |0,i,h,hi=>by omega
 |j+1,i,h,hi=>by
  by_cases e:i=n - 1 - j
  ·rw [e];exact .inr (.inl ⟨(uI hW n j).refl _,(uI hW n j).refl _⟩)
  ·exact .inl (IK hW (by omega) hi)
theorem MB {W:Nat→Nat→Prop}{n:Nat}{L:Nat→Int}(hW:∀ u v,W u v→L u=L v):∀ {j},(∀ i,n - j≤i→i<n→L (2*i)=L (2*i+1))→∀ {u v},j≤n→DR W n j u v→L u=L v
 |0,_,u,v,_,h=>hW u v h
 |j+1,hf,u,v,hj,h=>by
  have ih:=fun {u v}=>MB hW (j:=j) (fun i h1 h2=>hf i (by omega) h2) (u:=u) (v:=v) (by omega);have hk:=hf (n - 1 - j) (by omega) (by omega);rcases h with g|⟨g1,g2⟩|⟨g1,g2⟩
  ·exact ih g
  ·rw [ih g1,hk,ih g2]
  ·rw [ih g1,← hk,ih g2]
theorem l9 {a b:Nat→Nat}{n:Nat}:∀ {k u v},k≤n→s9 a b k u v→∃ c:Nat→Int,(∀ i,k≤i→c i=0)∧∀ g:Nat→Int,sN (fun i=>c i*(g (b i) - g (a i))) n=g v - g u
 |0,u,v,_,h=>⟨fun _=>0,fun _ _=>rfl,fun g=>by
  have h:u=v:=h;have:(fun i=>(0:Int)*(g (b i) - g (a i)))=fun _=>0:=(by funext i;exact Int.zero_mul _);rw [this,CP,h];omega⟩
 |k+1,u,v,hk,h=>by
  have one:∀ s:Int,∀ g:Nat→Int,sN (fun i=>(if i=k then s else 0)*(g (b i) - g (a i))) n=s*(g (b k) - g (a k)):=fun s g=>by
   have:sN (fun i=>(if i=k then s else 0)*(g (b i) - g (a i))) n=sN (fun i=>if i=k then s*(g (b k) - g (a k)) else 0) n:=cB fun i _=>by
    by_cases e:i=k
    ·rw [if_pos e,if_pos e,e]
    ·rw [if_neg e,if_neg e,Int.zero_mul]
   rw [this,lI,if_pos (by omega)]
  have add3:∀ (c1 c2:Nat→Int) (s:Int) (g:Nat→Int),sN (fun i=>(c1 i+(if i=k then s else 0)+c2 i)*(g (b i) - g (a i))) n=sN (fun i=>c1 i*(g (b i) - g (a i))) n+s*(g (b k) - g (a k))+sN (fun i=>c2 i*(g (b i) - g (a i))) n:=fun c1 c2 s g=>by
   rw [← one s g,← zE,← zE];exact cB fun i _=>by rw [Int.add_mul,Int.add_mul]
  rcases h with g|⟨g1,g2⟩|⟨g1,g2⟩
  ·obtain⟨c,h1,h2⟩:=l9 (n:=n) (by omega) g;exact⟨c,fun i hi=>h1 i (by omega),h2⟩
  ·obtain⟨c1,h1,h2⟩:=l9 (n:=n) (by omega) g1;obtain⟨c2,h3,h4⟩:=l9 (n:=n) (by omega) g2;refine⟨fun i=>c1 i+(if i=k then 1 else 0)+c2 i,fun i hi=>by
    simp only;rw [h1 i (by omega),h3 i (by omega),if_neg (by omega)];rfl,fun g=>?_⟩
   rw [add3,h2,h4];omega
  ·obtain⟨c1,h1,h2⟩:=l9 (n:=n) (by omega) g1;obtain⟨c2,h3,h4⟩:=l9 (n:=n) (by omega) g2;refine⟨fun i=>c1 i+(if i=k then -1 else 0)+c2 i,fun i hi=>by
    simp only;rw [h1 i (by omega),h3 i (by omega),if_neg (by omega)];rfl,fun g=>?_⟩
   rw [add3,h2,h4];omega
structure Emb (nV nE:Nat) (a b nx pv:Nat→Nat) (W:Nat→Nat→Prop):Prop where
 pos:0<nE
 av:∀ i,i<nE→a i<nV
 bv:∀ i,i<nE→b i<nV
 nx_lt:∀ d,d<2*nE→nx d<2*nE
 pv_lt:∀ d,d<2*nE→pv d<2*nE
 nxpv:∀ d,d<2*nE→nx (pv d)=d
 pvnx:∀ d,d<2*nE→pv (nx d)=d
 -- where a dart ends,the next one begins
 meet:∀ (g:Nat→Int) d,d<2*nE→(if d % 2=0 then g (b (d / 2)) else g (a (d / 2)))=(if nx d % 2=0 then g (a (nx d / 2)) else g (b (nx d / 2)))
 eqv:SJ W
 W_nx:∀ d,d<2*nE→W d (nx d)
 W_inv:∀ L:Nat→Int,(∀ d,d<2*nE→L (nx d)=L d)→∀ u v,W u v→L u=L v
 -- each cycle has numbers on the left of darts
 cyc:∀ c:Nat→Int,(∀ g:Nat→Int,sN (fun i=>c i*(g (b i) - g (a i))) nE=0)→∃ L:Nat→Int,(∀ d,d<2*nE→L (nx d)=L d)∧∀ i,i<nE→L (2*i) - L (2*i+1)=c i
 conV:∀ v,v<nV→s9 a b nE 0 v
 conD:∀ d,d<2*nE→DR W nE nE 0 d
variable {nV nE:Nat}{a b nx pv:Nat→Nat}{W:Nat→Nat→Prop}
open Classical in
theorem Emb.xor (h:Emb nV nE a b nx pv W){k:Nat}(hk:k<nE):s9 a b k (a k) (b k)↔¬ DR W nE (nE - 1 - k) (2*k) (2*k+1):=by
 have hn:nE - (nE - 1 - k)=k+1:=(by omega);constructor
 ·intro hv hd;obtain⟨c,h1,h2⟩:=l9 (n:=nE) (by omega) hv
  -- the way,closed by the edge
  obtain⟨L,l1,l2⟩:=h.cyc (fun i=>(if i=k then 1 else 0) - c i) fun g=>by
   have:sN (fun i=>((if i=k then 1 else 0) - c i)*(g (b i) - g (a i))) nE=sN (fun i=>(if i=k then g (b k) - g (a k) else 0)) nE - sN (fun i=>c i*(g (b i) - g (a i))) nE:=by
    rw [← KC];exact cB fun i _=>by
     by_cases e:i=k
     ·rw [if_pos e,if_pos e,e,Int.sub_mul,Int.one_mul]
     ·rw [if_neg e,if_neg e,Int.sub_mul,Int.zero_mul]
   rw [this,h2,lI,if_pos hk];omega
  have hL:=MB (n:=nE) (L:=L) (h.W_inv L l1) (j:=nE - 1 - k) (fun i hi hi2=>by
   have:=l2 i hi2;rw [if_neg (by omega),h1 i (by omega)] at this;omega) (by omega) hd
  have:=l2 k hk;rw [if_pos rfl,h1 k (Nat.le_refl _)] at this;omega
 ·intro hd;refine Classical.byContradiction fun hv=>?_
  -- what lies on one side,as a cycle
  obtain⟨g,hg⟩:∃ g:Nat→Int,g=fun d=>if DR W nE (nE - 1 - k) (2*k) d then 1 else 0:=⟨_,rfl⟩
  have eD:=uI h.eqv nE (nE - 1 - k);have g_nx:∀ d,d<2*nE→g (nx d)=g d:=fun d hd'=>by
   rw [hg];have hw:DR W nE (nE - 1 - k) d (nx d):=aEP (h.W_nx d hd');by_cases e:DR W nE (nE - 1 - k) (2*k) d
   ·simp only [if_pos e,if_pos (eD.trans e hw)]
   ·simp only [if_neg e,if_neg (fun x=>e (eD.trans x (eD.symm hw)))]
  have g_fl:∀ i,k+1≤i→i<nE→g (2*i)=g (2*i+1):=fun i h1 h2=>by
   rw [hg];have hw:DR W nE (nE - 1 - k) (2*i) (2*i+1):=IK h.eqv (by omega) h2;by_cases e:DR W nE (nE - 1 - k) (2*k) (2*i)
   ·simp only [if_pos e,if_pos (eD.trans e hw)]
   ·simp only [if_neg e,if_neg (fun x=>e (eD.trans x (eD.symm hw)))]
  have g_k:g (2*k)=1∧g (2*k+1)=0:=by
   rw [hg];exact⟨if_pos (eD.refl _),if_neg hd⟩
  -- its boundary is nothing
  have bd:∀ q:Nat→Int,sN (fun i=>(g (2*i) - g (2*i+1))*(q (b i) - q (a i))) nE=0:=fun q=>by
   have e1:sN (fun d=>g d*(if d % 2=0 then q (b (d / 2)) else q (a (d / 2)))) (2*nE)=sN (fun d=>g d*(if d % 2=0 then q (a (d / 2)) else q (b (d / 2)))) (2*nE):=by
    have:=aCN h.nx_lt h.pv_lt h.pvnx h.nxpv (fun d=>g d*(if d % 2=0 then q (a (d / 2)) else q (b (d / 2))));rw [← this];exact cB fun d hd'=>by
     rw [g_nx d hd',h.meet q d hd']
   rw [RM,RM] at e1;have e2:sN (fun i=>(g (2*i) - g (2*i+1))*(q (b i) - q (a i))) nE=sN (fun i=>g (2*i)*(if 2*i % 2=0 then q (b (2*i / 2)) else q (a (2*i / 2)))+g (2*i+1)*(if (2*i+1) % 2=0 then q (b ((2*i+1) / 2)) else q (a ((2*i+1) / 2)))) nE - sN (fun i=>g (2*i)*(if 2*i % 2=0 then q (a (2*i / 2)) else q (b (2*i / 2)))+g (2*i+1)*(if (2*i+1) % 2=0 then q (a ((2*i+1) / 2)) else q (b ((2*i+1) / 2)))) nE:=by
    rw [← KC];exact cB fun i _=>by
     rw [if_pos (by omega),if_neg (by omega),if_pos (by omega),if_neg (by omega),show 2*i / 2=i by omega,show (2*i+1) / 2=i by omega]
     grind
   rw [e2,e1];omega
  have:=bd fun v=>if s9 a b k (a k) v then 1 else 0
  have eV:=kL a b k;have e3:sN (fun i=>(g (2*i) - g (2*i+1))*((if s9 a b k (a k) (b i) then (1:Int) else 0) - (if s9 a b k (a k) (a i) then 1 else 0))) nE=sN (fun i=>if i=k then -1 else 0) nE:=cB fun i hi=>by
   rcases Nat.lt_trichotomy i k with t|t|t
   ·rw [if_neg (show ¬ i=k by omega)];have hab:s9 a b k (a i) (b i):=by
     clear this bd g_k g_fl g_nx hg hd hv;have:∀ j,i<j→s9 a b j (a i) (b i):=fun j=>by
      induction j with
      |zero=>intro h;omega
      |succ j ih =>
       intro hj;by_cases e:i=j
       ·rw [e];exact .inr (.inl ⟨(kL a b j).refl _,(kL a b j).refl _⟩)
       ·exact .inl (ih (by omega))
     exact this k t
    by_cases e:s9 a b k (a k) (a i)
    ·rw [if_pos e,if_pos (eV.trans e hab)];omega
    ·rw [if_neg e,if_neg (fun x=>e (eV.trans x (eV.symm hab)))];omega
   ·rw [t,if_neg hv,if_pos (eV.refl _),g_k.1,g_k.2,if_pos rfl];rfl
   ·rw [if_neg (show ¬ i=k by omega),g_fl i (by omega) hi];omega
  rw [e3,lI,if_pos hk] at this;omega
open Classical in
theorem Emb.aID (h:Emb nV nE a b nx pv W):(nV:Int)+OT W (2*nE)=nE+2:=by
 have h0:=h.pos;have hV:∀ k,k≤nE→OT (s9 a b k) nV=nV - sN (fun i=>if s9 a b i (a i) (b i) then 0 else 1) k:=fun k=>by
  induction k with
  |zero=>intro _;rw [s9,aEJ,sN];omega
  |succ k ih =>
   intro hk;have:=ih (by omega);rw [s9,sN];by_cases e:s9 a b k (a k) (b k)
   ·rw [L8 (kL a b k) e,if_pos e];omega
   ·rw [MX (kL a b k) (h.av k (by omega)) (h.bv k (by omega)) e,if_neg e];omega
 have hD:∀ j,j≤nE→OT (DR W nE j) (2*nE)=OT W (2*nE) - (sN (fun i=>if s9 a b i (a i) (b i) then 1 else 0) nE - sN (fun i=>if s9 a b i (a i) (b i) then 1 else 0) (nE - j)):=fun j=>by
  induction j with
  |zero=>intro _;rw [DR,Nat.sub_zero];omega
  |succ j ih =>
   intro hj;have:=ih (by omega);have hx:=h.xor (k:=nE - 1 - j) (by omega);rw [show nE - 1 - (nE - 1 - j)=j by omega] at hx;have es:sN (fun i=>if s9 a b i (a i) (b i) then (1:Int) else 0) (nE - j)=sN (fun i=>if s9 a b i (a i) (b i) then 1 else 0) (nE - (j+1))+(if s9 a b (nE - 1 - j) (a (nE - 1 - j)) (b (nE - 1 - j)) then 1 else 0):=by
    rw [show nE - j=(nE - (j+1))+1 by omega,sN,show nE - (j+1)=nE - 1 - j by omega]
   rw [DR];by_cases e:DR W nE j (2*(nE - 1 - j)) (2*(nE - 1 - j)+1)
   ·rw [L8 (uI h.eqv nE j) e];rw [if_neg (fun g=>hx.1 g e)] at es;omega
   ·rw [MX (uI h.eqv nE j) (by omega) (by omega) e];rw [if_pos (hx.2 e)] at es;omega
 have hnv:0<nV:=(by have:=h.av 0 h0;omega);have v1:=hV nE (Nat.le_refl _);rw [SF hnv h.conV] at v1;have d1:=hD nE (Nat.le_refl _);rw [SF (by omega) h.conD,Nat.sub_self] at d1;have s1:sN (fun i=>if s9 a b i (a i) (b i) then (0:Int) else 1) nE+sN (fun i=>if s9 a b i (a i) (b i) then (1:Int) else 0) nE=nE:=by
  rw [← zE];have:∀ n:Nat,sN (fun i=>(if s9 a b i (a i) (b i) then (0:Int) else 1)+(if s9 a b i (a i) (b i) then (1:Int) else 0)) n=n:=fun n=>by
   induction n with
   |zero=>rfl
   |succ n ih =>
    rw [sN,ih];by_cases e:s9 a b n (a n) (b n)
    ·rw [if_pos e,if_pos e];omega
    ·rw [if_neg e,if_neg e];omega
  exact this nE
 have z0:sN (fun i=>if s9 a b i (a i) (b i) then (1:Int) else 0) 0=0:=rfl;omega
end Go.Aw
end
