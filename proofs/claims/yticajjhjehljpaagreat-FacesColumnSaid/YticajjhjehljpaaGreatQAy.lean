/-
  Parts of a proof. No condition.
-/
import Derived.Test.YticajjhjehljpaaGreatQAx
set_option linter.unusedSimpArgs false
set_option linter.unusedVariables false
noncomputable section
namespace Go.Aw
def Cs (G:List (Pq × Pq))(c f:Pq × Pq→Int):Int:=lI (fun e=>c e*f e) G
def HT (G:List (Pq × Pq))(c:Pq × Pq→Int):Prop:=∀ g:Pq→Int,Cs G c (fun e=>g e.2 - g e.1)=0
structure Gr (G:List (Pq × Pq)):Prop where
 ne:∀ e∈G,e.1≠e.2
 ok:∀ e∈G,∀ f∈G,e≠f→okP e f
 nd:G.Nodup
def Ad (G:List (Pq × Pq))(u v:Pq):Prop:=(u,v)∈G∨(v,u)∈G
theorem rH {f g:Pq × Pq→Int}:∀ {L:List (Pq × Pq)},(∀ e∈L,f e=g e)→lI f L=lI g L
 |[],_=>rfl
 |e::r,h=>by
  rw [lI,lI,h e (.head _),rH fun x hx=>h x (.tail _ hx)]
theorem P0 (f g:Pq × Pq→Int):∀ (L:List (Pq × Pq)),lI (fun e=>f e+g e) L=lI f L+lI g L
 |[]=>rfl
 |e::r=>by
  rw [lI,lI,lI,P0 f g r];omega
theorem PI (f g:Pq × Pq→Int):∀ (L:List (Pq × Pq)),lI (fun e=>f e - g e) L=lI f L - lI g L
 |[]=>rfl
 |e::r=>by
  rw [lI,lI,lI,PI f g r];omega
theorem gC {G:List (Pq × Pq)}{c f g:Pq × Pq→Int}(h:∀ e∈G,c e≠0→f e=g e):Cs G c f=Cs G c g :=
 rH fun e he=>by
  by_cases h0:c e=0
  ·rw [h0,Int.zero_mul,Int.zero_mul]
  rw [h e he h0]
theorem TZ (G:List (Pq × Pq))(c f g:Pq × Pq→Int):Cs G c (fun e=>f e+g e)=Cs G c f+Cs G c g:=by
 unfold Cs;rw [← P0];exact rH fun e _=>Int.mul_add _ _ _
theorem H4 (G:List (Pq × Pq))(c f g:Pq × Pq→Int):Cs G c (fun e=>f e - g e)=Cs G c f - Cs G c g:=by
 unfold Cs;rw [← PI];exact rH fun e _=>Int.mul_sub _ _ _
theorem aG0 {G:List (Pq × Pq)}{c f:Pq × Pq→Int}(h:∀ e∈G,c e≠0→f e=0):Cs G c f=0:=by
 have:Cs G c f=Cs G c (fun _=>0):=gC h;rw [this];unfold Cs
 induction G with
 |nil=>rfl
 |cons e r ih =>
  rw [lI,Int.mul_zero,Int.zero_add];exact ih (fun e he=>h e (.tail _ he)) (gC fun e he=>h e (.tail _ he))
theorem aC0 {G:List (Pq × Pq)}(hG:Gr G){u v:Pq}(hd:Ad G u v){e:Pq × Pq}(he:e∈G)(h1:e≠(u,v))(h2:e≠(v,u)):okP e (u,v):=by
 rcases hd with hd|hd
 ·exact hG.ok e he _ hd h1
 exact FN (XK (FN (hG.ok e he _ hd h2)))
theorem Ad.ne {G:List (Pq × Pq)}(hG:Gr G){u v:Pq}(hd:Ad G u v):u≠v:=hd.elim (fun h=>hG.ne _ h) (fun h=>fun e=>hG.ne _ h e.symm)
def dd (u v:Pq):Pq:=(v.1 - u.1,v.2 - u.2)
def lam (D v z:Pq):Int:=if 0<bI D (vec 1 v z) then 1 else 0
theorem u6 (D v:Pq):bI D (vec 1 v v)=0:=by unfold bI vec;simp only;grind
theorem aCT (v z:Pq):bI (vec 1 v v) (vec 1 v z)=0:=by unfold bI vec;simp only;grind
theorem aCh (v z:Pq):bI (vec 1 v z) (vec 1 v v)=0:=by unfold bI vec;simp only;grind
theorem KC {G:List (Pq × Pq)}(hG:Gr G){u v:Pq}(hd:Ad G u v){e:Pq × Pq}(he:e∈G) :
  wn (dd u v) 1 u e=wn (dd u v) 1 v e+((if e.1=v then lam (dd u v) v e.2 else 0) - (if e.2=v then lam (dd u v) v e.1 else 0)):=by
 obtain⟨y,z⟩:=e;have hyz:y≠z:=hG.ne _ he;have huv:=hd.ne hG;have S1:∀ x:Pq,bI (dd u v) (vec 1 u x)=bI (dd u v) (vec 1 v x):=fun x=>(by unfold bI dd vec;simp only;grind);have hal:bI (vec 1 u y) (vec 1 u z)=bI (vec 1 v y) (vec 1 v z)+bI (dd u v) (vec 1 v z) - bI (dd u v) (vec 1 v y):=(by unfold bI dd vec;simp only;grind);have Su:bI (dd u v) (vec 1 v u)=0:=(by unfold bI dd vec;simp only;grind);have au1:bI (vec 1 v u) (vec 1 v z) = -bI (dd u v) (vec 1 v z):=(by unfold bI dd vec;simp only;grind);have au2:bI (vec 1 v y) (vec 1 v u)=bI (dd u v) (vec 1 v y):=(by unfold bI dd vec;simp only;grind);unfold wn;simp only;rw [S1,S1,hal];by_cases h1:y=v
 ·subst h1;rw [if_pos rfl,if_neg (fun e=>hyz e.symm),u6,aCT];unfold rI lam;simp only [Int.le_refl,true_and,Int.zero_add,Int.sub_zero,Int.lt_irrefl,if_false,false_and];by_cases hp:0<bI (dd u y) (vec 1 y z)
  ·simp only [if_pos hp];omega
  simp only [if_neg hp];omega
 by_cases h2:z=v
 ·subst h2;rw [if_pos rfl,if_neg h1,u6,aCh];unfold rI lam;simp only [Int.le_refl,and_true,Int.zero_add,Int.lt_irrefl,and_false,if_false];by_cases hp:0<bI (dd u z) (vec 1 z y)
  ·simp only [if_pos hp];rw [if_pos (by omega)];omega
  simp only [if_neg hp];omega
 rw [if_neg h1,if_neg h2];by_cases h3:y=u
 ·subst h3;rw [Su,au1];unfold rI;split
  ·rw [if_neg (by omega),if_neg (by omega)];omega
  split <;> omega
 by_cases h4:z=u
 ·subst h4;rw [Su,au2];unfold rI;split
  ·omega
  split
  ·rw [if_neg (by omega),if_neg (by omega)];omega
  omega
 -- a side that meets the edge nowhere
 have hok:=aC0 hG hd he (fun e=>h3 (congrArg Prod.fst e)) (fun e=>h1 (congrArg Prod.fst e));have hid1:bI (dd u v) (vec 1 v z)*(vec 1 v y).1 - bI (dd u v) (vec 1 v y)*(vec 1 v z).1=bI (vec 1 v y) (vec 1 v z)*(dd u v).1:=(by unfold bI;grind);have hid2:bI (dd u v) (vec 1 v z)*(vec 1 v y).2 - bI (dd u v) (vec 1 v y)*(vec 1 v z).2=bI (vec 1 v y) (vec 1 v z)*(dd u v).2:=(by unfold bI;grind);generalize bI (dd u v) (vec 1 v y)=A at *;generalize bI (dd u v) (vec 1 v z)=B at *;generalize bI (vec 1 v y) (vec 1 v z)=α at *;have key:∀ M k1 k2:Int,0<M→0≤k1→0≤k2→k1+k2=M→0≤k1*0+M+α*0→True:=fun _ _ _ _ _ _ _ _=>trivial;have up:¬ (A≤0∧0<B∧α≤0∧0<α+B - A):=fun ⟨a1,a2,a3,a4⟩=>by
  obtain⟨w,w1,w2,-⟩:=hok (B - A) (B*y.1+(-A)*z.1) (B*y.2+(-A)*z.2) (by omega)
   ⟨B,-A,by omega,by omega,by omega,rfl,rfl⟩
   ⟨-α,(B - A)+α,by omega,by omega,by omega,by
    show _ = -α*u.1+(B - A+α)*v.1;unfold vec dd at hid1;simp only at hid1;clear hok key;grind,by
    show _ = -α*u.2+(B - A+α)*v.2;unfold vec dd at hid2;simp only at hid2;clear hok key;grind⟩
  simp only at w1 w2;rcases w1 with w1|w1 <;> rcases w2 with w2|w2
  ·exact h3 (w1.symm.trans w2)
  ·exact h1 (w1.symm.trans w2)
  ·exact h4 (w1.symm.trans w2)
  exact h2 (w1.symm.trans w2)
 have dn:¬ (0<A∧B≤0∧0≤α∧α+B - A<0):=fun ⟨a1,a2,a3,a4⟩=>by
  obtain⟨w,w1,w2,-⟩:=hok (A - B) ((-B)*y.1+A*z.1) ((-B)*y.2+A*z.2) (by omega)
   ⟨-B,A,by omega,by omega,by omega,rfl,rfl⟩
   ⟨α,(A - B) - α,by omega,by omega,by omega,by
    show _=α*u.1+(A - B - α)*v.1;unfold vec dd at hid1;simp only at hid1;clear hok key;grind,by
    show _=α*u.2+(A - B - α)*v.2;unfold vec dd at hid2;simp only at hid2;clear hok key;grind⟩
  simp only at w1 w2;rcases w1 with w1|w1 <;> rcases w2 with w2|w2
  ·exact h3 (w1.symm.trans w2)
  ·exact h1 (w1.symm.trans w2)
  ·exact h4 (w1.symm.trans w2)
  exact h2 (w1.symm.trans w2)
 unfold rI
 (repeat' split) <;> omega
def KM (U U' v z:Pq):Int:=xD (bI U (vec 1 v z)) (bI U' (vec 1 v z))
theorem ZY {G:List (Pq × Pq)}(hG:Gr G){u v:Pq}(hd:Ad G u v){U U':Pq}(hD:0<bI U U'){e:Pq × Pq}(he:e∈G) :
  wn U 1 v e - wn U' 1 v e=(KM U U' v e.2 - KM U U' v e.1) - ((if e.1=v then KM U U' v e.2 else 0) - (if e.2=v then KM U U' v e.1 else 0)):=by
 obtain⟨y,z⟩:=e;have hyz:y≠z:=hG.ne _ he;unfold wn;simp only;have c0:KM U U' v v=0:=(by unfold KM;rw [u6,u6];rfl);have r0:∀ A B:Int,rI A B 0=0:=fun A B=>(by unfold rI;(repeat' split) <;> omega);by_cases h1:y=v
 ·subst h1;rw [if_pos rfl,if_neg (fun e=>hyz e.symm),c0,aCT,r0,r0];omega
 by_cases h2:z=v
 ·subst h2;rw [if_pos rfl,if_neg h1,c0,aCh,r0,r0];omega
 rw [if_neg h1,if_neg h2];have hoff:R0 1 v (y,z):=fun ⟨M,hM,ho⟩=>by
  rw [Int.mul_one] at ho;have hok:=aC0 hG hd he (fun e=>h2 (congrArg Prod.snd e)) (fun e=>h1 (congrArg Prod.fst e));obtain⟨w,w1,w2,w3,w4⟩:=hok M (M*v.1) (M*v.2) hM ho ⟨0,M,by decide,by omega,by omega,by show _=0*u.1+M*v.1;omega,by show _=0*u.2+M*v.2;omega⟩;have e1:=Int.eq_of_mul_eq_mul_left (show M≠0 by omega) w3;have e2:=Int.eq_of_mul_eq_mul_left (show M≠0 by omega) w4;have:v=w:=Prod.ext e1 e2;rcases w1 with w1|w1
  ·exact h1 (by rw [this];exact w1.symm)
  exact h2 (by rw [this];exact w1.symm)
 have:=aCJ (A:=bI U (vec 1 v y)) (B:=bI U (vec 1 v z)) (A':=bI U' (vec 1 v y)) (B':=bI U' (vec 1 v z)) (C:=bI (vec 1 v y) (vec 1 v z)) hD (by unfold bI;grind) fun hc=>⟨pR (by decide) hoff hc U,pR (by decide) hoff hc U'⟩;unfold KM;omega
variable {G:List (Pq × Pq)}{c:Pq × Pq→Int}
def At (G:List (Pq × Pq))(c:Pq × Pq→Int)(v:Pq)(h:Pq→Int):Int:=Cs G c (fun e=>(if e.1=v then h e.2 else 0) - (if e.2=v then h e.1 else 0))
theorem oA {v:Pq}{h k:Pq→Int}(hh:∀ z,Ad G v z→h z=k z):At G c v h=At G c v k:=by
 unfold At;refine gC fun e he _=>?_;by_cases h1:e.1=v
 ·have:Ad G v e.2:=.inl (by rw [← h1];exact he);by_cases h2:e.2=v
  ·have h3:Ad G v e.1:=.inr (by rw [← h2];exact he);simp only [if_pos h1,if_pos h2,hh _ this,hh _ h3]
  simp only [if_pos h1,if_neg h2,hh _ this]
 by_cases h2:e.2=v
 ·have h3:Ad G v e.1:=.inr (by rw [← h2];exact he);simp only [if_neg h1,if_pos h2,hh _ h3]
 simp only [if_neg h1,if_neg h2]
theorem tR {v:Pq}(hc:HT G c)(k:Int):At G c v (fun _=>k)=0:=by
 have:=hc (fun z=>if z=v then -k else 0);have h2:At G c v (fun _=>k)=Cs G c (fun e=>(if e.2=v then -k else 0) - (if e.1=v then -k else 0)):=by
  unfold At;refine gC fun e _ _=>?_;by_cases h1:e.1=v <;> by_cases h2:e.2=v <;> simp [h1,h2]
 rw [h2];exact this
theorem aIx {v:Pq}{h k:Pq→Int}:At G c v (fun z=>h z - k z)=At G c v h - At G c v k:=by
 unfold At;rw [← H4];refine gC fun e _ _=>?_;by_cases h1:e.1=v <;> by_cases h2:e.2=v <;> simp [h1,h2] <;> omega
theorem aJ3 {v:Pq}{h k:Pq→Int}:At G c v (fun z=>h z+k z)=At G c v h+At G c v k:=by
 unfold At;rw [← TZ];refine gC fun e _ _=>?_;by_cases h1:e.1=v <;> by_cases h2:e.2=v <;> simp [h1,h2] <;> omega
def Wd (G:List (Pq × Pq))(c:Pq × Pq→Int)(U v:Pq):Int:=Cs G c (wn U 1 v)
theorem Q3 (hG:Gr G){u v:Pq}(hd:Ad G u v):Wd G c (dd u v) u=Wd G c (dd u v) v+At G c v (lam (dd u v) v):=by
 unfold Wd At;rw [← TZ];exact gC fun e he _=>KC hG hd he
theorem qK (hG:Gr G)(hc:HT G c){u v:Pq}(hd:Ad G u v){U U':Pq}(hD:0<bI U U'):Wd G c U v=Wd G c U' v - At G c v (KM U U' v):=by
 have h1:Cs G c (fun e=>wn U 1 v e - wn U' 1 v e)=Cs G c (fun e=>(KM U U' v e.2 - KM U U' v e.1) - ((if e.1=v then KM U U' v e.2 else 0) - (if e.2=v then KM U U' v e.1 else 0))):=gC fun e he _=>ZY hG hd hD he;rw [H4,H4,hc (KM U U' v)] at h1;unfold Wd At;omega
theorem Ad.symm {u v:Pq}(h:Ad G u v):Ad G v u:=h.elim .inr .inl
theorem aKL (hG:Gr G){u v y z:Pq}(h1:Ad G y z)(h2:Ad G u v)(n1:(y,z)≠(u,v))(n2:(y,z)≠(v,u)):okP (y,z) (u,v):=by
 rcases h1 with h1|h1
 ·exact aC0 hG h2 h1 n1 n2
 refine XK (e:=(z,y)) (aC0 hG h2 h1 (fun e=>n2 ?_) (fun e=>n1 ?_))
 ·injection e with e1 e2;rw [e1,e2]
 injection e with e1 e2;rw [e1,e2]
theorem NK (hG:Gr G){u v z:Pq}(hz:Ad G v z)(hu:Ad G v u)(hzu:z≠u)(h0:bI (dd u v) (vec 1 v z)=0)(h1:0<(u.1 - v.1)*(z.1 - v.1)+(u.2 - v.2)*(z.2 - v.2)):False:=by
 have hvz:=hz.ne hG;have hvu:=hu.ne hG;have hok:=aKL hG hz hu (fun e=>hzu (congrArg Prod.snd e)) (fun e=>hvu (congrArg Prod.fst e));have hS:=sq_pos (x:=u.1 - v.1) (y:=u.2 - v.2) fun g=>hvu (Prod.ext (by omega) (by omega));have e1:((u.1 - v.1)*(u.1 - v.1)+(u.2 - v.2)*(u.2 - v.2))*(z.1 - v.1)=((u.1 - v.1)*(z.1 - v.1)+(u.2 - v.2)*(z.2 - v.2))*(u.1 - v.1):=by
  unfold bI dd vec at h0;simp only at h0;clear hok hS h1;grind
 have e2:((u.1 - v.1)*(u.1 - v.1)+(u.2 - v.2)*(u.2 - v.2))*(z.2 - v.2)=((u.1 - v.1)*(z.1 - v.1)+(u.2 - v.2)*(z.2 - v.2))*(u.2 - v.2):=by
  unfold bI dd vec at h0;simp only at h0;clear hok hS h1;grind
 generalize (u.1 - v.1)*(u.1 - v.1)+(u.2 - v.2)*(u.2 - v.2)=S at *;generalize (u.1 - v.1)*(z.1 - v.1)+(u.2 - v.2)*(z.2 - v.2)=k at *;rcases Int.le_total k S with g|g
 ·obtain⟨w,w1,w2,w3,w4⟩:=hok S (S*z.1) (S*z.2) hS ⟨0,S,by decide,by omega,by omega,by show _=0*v.1+S*z.1;omega,by show _=0*v.2+S*z.2;omega⟩
   (V4 (w:=v) (a:=z) (b:=u) (k:=k) (by omega) g e1 e2)
  have f1:=Int.eq_of_mul_eq_mul_left (show S≠0 by omega) w3;have f2:=Int.eq_of_mul_eq_mul_left (show S≠0 by omega) w4;have:z=w:=Prod.ext f1 f2;rcases w2 with w2|w2
  ·exact hvz (w2.symm.trans this.symm)
  exact hzu (this.trans w2)
 obtain⟨w,w1,w2,w3,w4⟩:=hok k (k*u.1) (k*u.2) h1 (V4 (w:=v) (a:=u) (b:=z) (k:=S) (by omega) g e1.symm e2.symm)
  ⟨0,k,by decide,by omega,by omega,by show _=0*v.1+k*u.1;omega,by show _=0*v.2+k*u.2;omega⟩
 have f1:=Int.eq_of_mul_eq_mul_left (show k≠0 by omega) w3;have f2:=Int.eq_of_mul_eq_mul_left (show k≠0 by omega) w4;have:u=w:=Prod.ext f1 f2;rcases w1 with w1|w1
 ·exact hvu (w1.symm.trans this.symm)
 exact hzu (w1.symm.trans this.symm)
def Ld (G:List (Pq × Pq))(c:Pq × Pq→Int)(u v:Pq):Int:=Wd G c (dd u v) u
theorem WZ (hG:Gr G)(hc:HT G c){u v:Pq}(hd:Ad G u v):Ld G c u v - Ld G c v u=Cs G c (fun e=>(if e=(u,v) then 1 else 0) - (if e=(v,u) then 1 else 0)):=by
 have huv:=hd.ne hG;have hp:=sq_pos (x:=v.1 - u.1) (y:=v.2 - u.2) fun g=>huv (Prod.ext (by omega) (by omega));have h1:=Q3 (c:=c) hG hd;have h2:=qK (c:=c) hG hc hd (U:=dd u v) (U':=(-(dd u v).2,(dd u v).1)) (by
  have:bI (dd u v) (-(dd u v).2,(dd u v).1)=(v.1 - u.1)*(v.1 - u.1)+(v.2 - u.2)*(v.2 - u.2):=(by unfold bI dd;simp only;grind);omega)
 have h3:=qK (c:=c) hG hc hd (U:=(-(dd u v).2,(dd u v).1)) (U':=dd v u) (by
  have:bI (-(dd u v).2,(dd u v).1) (dd v u)=(v.1 - u.1)*(v.1 - u.1)+(v.2 - u.2)*(v.2 - u.2):=(by unfold bI dd;simp only;grind);omega)
 have h4:At G c v (KM (dd u v) (-(dd u v).2,(dd u v).1) v)+At G c v (KM (-(dd u v).2,(dd u v).1) (dd v u) v) - At G c v (lam (dd u v) v)=At G c v (fun z=>if z=u then 1 else 0):=by
  rw [← aJ3,← aIx];refine oA fun z hz=>?_;have hzv:v≠z:=hz.ne hG;have e1:bI (dd v u) (vec 1 v z) = -bI (dd u v) (vec 1 v z):=by unfold bI dd vec;simp only;grind
  -- only u lies straight back
  have back:bI (dd u v) (vec 1 v z)=0→0<bI (-(dd u v).2,(dd u v).1) (vec 1 v z)→z=u:=fun g0 g1=>Classical.byContradiction fun hzu=>by
   exact NK hG hz hd.symm hzu g0 (by
    have:bI (-(dd u v).2,(dd u v).1) (vec 1 v z)=(u.1 - v.1)*(z.1 - v.1)+(u.2 - v.2)*(z.2 - v.2):=(by unfold bI dd vec;simp only;grind);omega)
  have only:z=u→bI (dd u v) (vec 1 v z)=0∧0<bI (-(dd u v).2,(dd u v).1) (vec 1 v z):=fun g=>by
   subst g;have t1:bI (dd z v) (vec 1 v z)=0:=(by unfold bI dd vec;simp only;grind);have t2:bI (-(dd z v).2,(dd z v).1) (vec 1 v z)=(v.1 - z.1)*(v.1 - z.1)+(v.2 - z.2)*(v.2 - z.2):=(by unfold bI dd vec;simp only;grind);exact⟨t1,by omega⟩
  unfold KM xD lam;rw [e1];generalize bI (dd u v) (vec 1 v z)=A at *;generalize bI (-(dd u v).2,(dd u v).1) (vec 1 v z)=B at *;by_cases hzu:z=u
  ·obtain⟨a,b⟩:=only hzu;rw [if_pos hzu]
   (repeat' split) <;> omega
  have:¬ (A=0∧0<B):=fun g=>hzu (back g.1 g.2);rw [if_neg hzu]
  (repeat' split) <;> omega
 have h5:At G c v (fun z=>if z=u then 1 else 0) = -Cs G c (fun e=>(if e=(u,v) then 1 else 0) - (if e=(v,u) then 1 else 0)):=by
  have:Cs G c (fun e=>(if e=(u,v) then (1:Int) else 0) - (if e=(v,u) then 1 else 0))+At G c v (fun z=>if z=u then 1 else 0)=0:=by
   unfold At;rw [← TZ];refine aG0 fun e _ _=>?_;obtain⟨y,z⟩:=e;simp only [Prod.mk.injEq]
   by_cases a1:y=u <;> by_cases a2:y=v <;> by_cases a3:z=u <;> by_cases a4:z=v <;> first
    |exact absurd (a1.symm.trans a2) huv
    |exact absurd (a3.symm.trans a4) huv
    |simp [a1,a2,a3,a4,huv,Ne.symm huv]
  omega
 unfold Ld;omega
def ZJ (v u w:Pq):Int:=if aL v u w<0 then 0 else if 0<aL v u w then 2 else if (u.1 - v.1)*(w.1 - v.1)+(u.2 - v.2)*(w.2 - v.2)<0 then 1 else 3
def X5 (v u z w:Pq):Prop:=ZJ v u z<ZJ v u w∨ZJ v u z=ZJ v u w∧aL v z w<0
theorem aBN {U U':Pq}{k l:Int}(hk:0<k)(hl:0<l)(h1:k*U.1=l*U'.1)(h2:k*U.2=l*U'.2)(N:Int)(p:Pq)(e:Pq × Pq):wn U N p e=wn U' N p e:=by
 have s:∀ x:Pq,(0<bI U x↔0<bI U' x):=fun x=>by
  have e:k*bI U x=l*bI U' x:=by
   unfold bI
   grind
  constructor
  ·intro h;have:=Int.mul_pos hk h;exact Int.not_le.1 fun g=>by
    have:=Int.mul_nonpos_of_nonneg_of_nonpos (Int.le_of_lt hl) g;omega
  intro h;have:=Int.mul_pos hl h;exact Int.not_le.1 fun g=>by
   have:=Int.mul_nonpos_of_nonneg_of_nonpos (Int.le_of_lt hk) g;omega
 have s1:=s (vec N p e.1);have s2:=s (vec N p e.2);unfold wn rI
 (repeat' split) <;> omega
theorem VV (hG:Gr G)(hc:HT G c){u v w:Pq}(hd:Ad G u v)(hw:Ad G v w)(hmin:∀ z,Ad G v z→¬ X5 v u z w):Ld G c u v=Ld G c v w:=by
 have huv:=hd.ne hG;have hvw:=hw.ne hG;have h1:=Q3 (c:=c) hG hd;have cz:∀ z:Pq,aL v u z = -bI (dd u v) (vec 1 v z):=fun z=>(by unfold aL bI dd vec;simp only;grind);have cw:∀ z:Pq,aL v z w = -bI (dd v w) (vec 1 v z):=fun z=>(by unfold aL bI dd vec;simp only;grind);have dnn:bI (dd u v) (dd v w)=bI (dd u v) (vec 1 v w):=(by unfold bI dd vec;simp only;grind);have hm:∀ z,Ad G v z→¬ (ZJ v u z<ZJ v u w)∧¬ (ZJ v u z=ZJ v u w∧0<bI (dd v w) (vec 1 v z)):=fun z hz=>⟨fun g=>hmin z hz (.inl g),fun g=>hmin z hz (.inr ⟨g.1,by rw [cw];omega⟩)⟩;have rk0:∀ z,ZJ v u z=if 0<bI (dd u v) (vec 1 v z) then 0 else if bI (dd u v) (vec 1 v z)<0 then 2 else if (u.1 - v.1)*(z.1 - v.1)+(u.2 - v.2)*(z.2 - v.2)<0 then 1 else 3:=fun z=>by
  unfold ZJ;rw [cz];by_cases a:0<bI (dd u v) (vec 1 v z)
  ·rw [if_pos (by omega),if_pos a]
  rw [if_neg (by omega),if_neg a];by_cases b:bI (dd u v) (vec 1 v z)<0
  ·rw [if_pos (by omega),if_pos b]
  rw [if_neg (by omega),if_neg b]
 unfold Ld;rw [h1];rcases Int.lt_trichotomy (bI (dd u v) (vec 1 v w)) 0 with hs|hs|hs
 ·-- to the right
  have rw2:ZJ v u w=2:=(by rw [rk0,if_neg (by omega),if_pos hs]);have l0:At G c v (lam (dd u v) v)=0:=by
   rw [← tR (v:=v) hc 0];refine oA fun z hz=>?_;unfold lam;refine if_neg fun g=>(hm z hz).1 ?_;rw [rw2,rk0,if_pos g];decide
  have h2:=qK (c:=c) hG hc hd (U:=dd v w) (U':=dd u v) (by rw [aEZ,dnn];omega);have x0:At G c v (KM (dd v w) (dd u v) v)=0:=by
   rw [← tR (v:=v) hc 0];refine oA fun z hz=>?_;unfold KM xD;refine if_neg fun ⟨g1,g2⟩=>?_;rcases Int.lt_or_eq_of_le g2 with g3|g3
   ·exact (hm z hz).2 ⟨by rw [rw2,rk0,if_neg (by omega),if_pos g3],g1⟩
   -- straight on,or straight back
   have hzv:=hz.ne hG;by_cases hb:(u.1 - v.1)*(z.1 - v.1)+(u.2 - v.2)*(z.2 - v.2)<0
   ·exact (hm z hz).1 (by rw [rw2,rk0,if_neg (by omega),if_neg (by omega),if_pos hb];decide)
   -- z is u
   have hk:0≤(u.1 - v.1)*(z.1 - v.1)+(u.2 - v.2)*(z.2 - v.2):=(by omega);have hS:=sq_pos (x:=u.1 - v.1) (y:=u.2 - v.2) fun g=>huv (Prod.ext (by omega) (by omega));have e1:((u.1 - v.1)*(u.1 - v.1)+(u.2 - v.2)*(u.2 - v.2))*bI (dd v w) (vec 1 v z)=((u.1 - v.1)*(z.1 - v.1)+(u.2 - v.2)*(z.2 - v.2))*bI (dd u v) (vec 1 v w):=by
    unfold bI dd vec at g3 ⊢;simp only at g3 ⊢;clear h1 h2 l0 hm hmin hs hS hk hb g1 g2;grind
   have m1:=Int.mul_pos hS g1;have m2:=Int.mul_nonpos_of_nonneg_of_nonpos hk (Int.le_of_lt hs);omega
  omega
 ·-- straight on,or back
  have l0:At G c v (lam (dd u v) v)=0:=by
   by_cases hb:(u.1 - v.1)*(w.1 - v.1)+(u.2 - v.2)*(w.2 - v.2)<0
   ·rw [← tR (v:=v) hc 0];refine oA fun z hz=>?_;unfold lam;refine if_neg fun g=>(hm z hz).1 ?_;rw [rk0 z,if_pos g,rk0 w,if_neg (by omega),if_neg (by omega),if_pos hb];decide
   rw [← tR (v:=v) hc 0];refine oA fun z hz=>?_;unfold lam;refine if_neg fun g=>(hm z hz).1 ?_;rw [rk0 z,if_pos g,rk0 w,if_neg (by omega),if_neg (by omega),if_neg hb];decide
  have hS:=sq_pos (x:=u.1 - v.1) (y:=u.2 - v.2) fun g=>huv (Prod.ext (by omega) (by omega));have hT:=sq_pos (x:=w.1 - v.1) (y:=w.2 - v.2) fun g=>hvw (Prod.ext (by omega) (by omega));by_cases hb:(u.1 - v.1)*(w.1 - v.1)+(u.2 - v.2)*(w.2 - v.2)<0
  ·have:Wd G c (dd u v) v=Wd G c (dd v w) v:=by
    unfold Wd;refine gC fun e _ _=>aBN (k:=-((u.1 - v.1)*(w.1 - v.1)+(u.2 - v.2)*(w.2 - v.2))) (l:=(u.1 - v.1)*(u.1 - v.1)+(u.2 - v.2)*(u.2 - v.2)) (by omega) hS ?_ ?_ 1 v e
    ·unfold bI dd vec at hs;simp only at hs;unfold dd;simp only;clear h1 l0 hm hmin hb;grind
    unfold bI dd vec at hs;simp only at hs;unfold dd;simp only;clear h1 l0 hm hmin hb;grind
   omega
  -- the way back alone
  have hwu:w=u:=Classical.byContradiction fun hne=>by
   by_cases hz:0<(u.1 - v.1)*(w.1 - v.1)+(u.2 - v.2)*(w.2 - v.2)
   ·exact NK hG hw hd.symm hne hs hz
   have h0:(u.1 - v.1)*(w.1 - v.1)+(u.2 - v.2)*(w.2 - v.2)=0:=(by omega);have e1:((u.1 - v.1)*(u.1 - v.1)+(u.2 - v.2)*(u.2 - v.2))*(w.1 - v.1)=0:=(by unfold bI dd vec at hs;simp only at hs;clear h1 l0 hm hmin hb hS hT hz;grind);have e2:((u.1 - v.1)*(u.1 - v.1)+(u.2 - v.2)*(u.2 - v.2))*(w.2 - v.2)=0:=(by unfold bI dd vec at hs;simp only at hs;clear h1 l0 hm hmin hb hS hT hz e1;grind);have f1:=(cX e1).resolve_left (by omega);have f2:=(cX e2).resolve_left (by omega);exact hvw (Prod.ext (by omega) (by omega))
  subst hwu;have hall:∀ z,Ad G v z→z=w:=fun z hz=>by
   have hzv:=hz.ne hG;have r3:ZJ v w w=3:=(by rw [rk0,if_neg (by omega),if_neg (by omega),if_neg hb]);have:=(hm z hz).1;rw [r3,rk0] at this;by_cases a:0<bI (dd w v) (vec 1 v z)
   ·rw [if_pos a] at this;omega
   rw [if_neg a] at this;by_cases b:bI (dd w v) (vec 1 v z)<0
   ·rw [if_pos b] at this;omega
   rw [if_neg b] at this;by_cases d:(w.1 - v.1)*(z.1 - v.1)+(w.2 - v.2)*(z.2 - v.2)<0
   ·rw [if_pos d] at this;omega
   refine Classical.byContradiction fun hne=>?_;have g0:bI (dd w v) (vec 1 v z)=0:=(by omega);by_cases hz0:0<(w.1 - v.1)*(z.1 - v.1)+(w.2 - v.2)*(z.2 - v.2)
   ·exact NK hG hz hd.symm hne g0 hz0
   have h0:(w.1 - v.1)*(z.1 - v.1)+(w.2 - v.2)*(z.2 - v.2)=0:=(by omega);have e1:((w.1 - v.1)*(w.1 - v.1)+(w.2 - v.2)*(w.2 - v.2))*(z.1 - v.1)=0:=(by unfold bI dd vec at g0;simp only at g0;clear h1 l0 hm hmin hb hS hT hz0 this hs;grind);have e2:((w.1 - v.1)*(w.1 - v.1)+(w.2 - v.2)*(w.2 - v.2))*(z.2 - v.2)=0:=(by unfold bI dd vec at g0;simp only at g0;clear h1 l0 hm hmin hb hS hT hz0 this e1 hs;grind);have f1:=(cX e1).resolve_left (by omega);have f2:=(cX e2).resolve_left (by omega);exact hzv (Prod.ext (by omega) (by omega))
  have jR:∀ h:Pq→Int,At G c v h=0:=fun h=>by
   rw [← tR (v:=v) hc (h w)];exact oA fun z hz=>by rw [hall z hz]
  have h2:=qK (c:=c) hG hc hd (U:=dd w v) (U':=(-(dd w v).2,(dd w v).1)) (by
   have:bI (dd w v) (-(dd w v).2,(dd w v).1)=(w.1 - v.1)*(w.1 - v.1)+(w.2 - v.2)*(w.2 - v.2):=(by unfold bI dd;simp only;grind);omega)
  have h3:=qK (c:=c) hG hc hd (U:=(-(dd w v).2,(dd w v).1)) (U':=dd v w) (by
   have:bI (-(dd w v).2,(dd w v).1) (dd v w)=(w.1 - v.1)*(w.1 - v.1)+(w.2 - v.2)*(w.2 - v.2):=(by unfold bI dd;simp only;grind);omega)
  rw [jR] at h2 h3;rw [jR];omega
 -- to the left
 have rw0:ZJ v u w=0:=(by rw [rk0,if_pos hs]);have h2:=qK (c:=c) hG hc hd (U:=dd u v) (U':=dd v w) (by rw [dnn];exact hs);have x0:At G c v (KM (dd u v) (dd v w) v)=At G c v (lam (dd u v) v):=by
  refine oA fun z hz=>?_;unfold KM xD lam;by_cases g:0<bI (dd u v) (vec 1 v z)
  ·rw [if_pos g,if_pos ⟨g,Int.not_lt.1 fun g2=>(hm z hz).2 ⟨by rw [rw0,rk0,if_pos g],g2⟩⟩]
  rw [if_neg g,if_neg (fun h=>g h.1)]
 omega
end Go.Aw
end

noncomputable section
namespace Go.Aw
def sN (f:Nat→Int):Nat→Int
 |0=>0
 |n+1=>sN f n+f n
theorem bA {f g:Nat→Int}:∀ {n:Nat},(∀ i,i<n→f i=g i)→sN f n=sN g n
 |0,_=>rfl
 |n+1,h=>by rw [sN,sN,bA fun i hi=>h i (by omega),h n (by omega)]
theorem F5 (f g:Nat→Int):∀ n,sN (fun i=>f i+g i) n=sN f n+sN g n
 |0=>rfl
 |n+1=>by rw [sN,sN,sN,F5 f g n];omega
theorem aDc (f g:Nat→Int):∀ n,sN (fun i=>f i - g i) n=sN f n - sN g n
 |0=>rfl
 |n+1=>by rw [sN,sN,sN,aDc f g n];omega
theorem vJ:∀ n,sN (fun _=>0) n=0
 |0=>rfl
 |n+1=>by rw [sN,vJ n];rfl
theorem yH (F:Nat→Nat→Int)(n:Nat):∀ m,sN (fun i=>sN (F i) n) m=sN (fun j=>sN (fun i=>F i j) m) n
 |0=>by
  have:(fun j=>sN (fun i=>F i j) 0)=fun _=>0:=rfl;rw [this,vJ];rfl
 |m+1=>by
  rw [sN,yH F n m,← F5];rfl
theorem uD (v:Int)(k:Nat):∀ n,sN (fun i=>if i=k then v else 0) n=if k<n then v else 0
 |0=>rfl
 |n+1=>by
  rw [sN,uD v k n];by_cases h:n=k
  ·rw [if_neg (by omega),if_pos h,if_pos (by omega)];omega
  rw [if_neg h];by_cases h2:k<n
  ·rw [if_pos h2,if_pos (by omega)];omega
  rw [if_neg h2,if_neg (by omega)];omega
theorem aFe {n:Nat}{x y:Nat→Nat}(hx:∀ i,i<n→x i<n)(hy:∀ i,i<n→y i<n)(hxy:∀ i,i<n→y (x i)=i)(hyx:∀ i,i<n→x (y i)=i)(F:Nat→Int):sN (fun i=>F (x i)) n=sN F n:=by
 have e1:sN (fun i=>F (x i)) n=sN (fun i=>sN (fun j=>if j=x i then F j else 0) n) n:=bA fun i hi=>by
  have:(fun j=>if j=x i then F j else 0)=fun j=>if j=x i then F (x i) else 0:=by
   funext j;by_cases h:j=x i
   ·rw [if_pos h,if_pos h,h]
   rw [if_neg h,if_neg h]
  rw [this,uD,if_pos (hx i hi)]
 rw [e1,yH];refine bA fun j hj=>?_;have:sN (fun i=>if j=x i then F j else 0) n=sN (fun i=>if i=y j then F j else 0) n:=bA fun i hi=>by
  by_cases h:j=x i
  ·rw [if_pos h,if_pos (by rw [h,hxy i hi])]
  rw [if_neg h,if_neg (fun e=>h (by rw [e,hyx j hj]))]
 rw [this,uD,if_pos (hy j hj)]
theorem NL (f:Nat→Int):∀ n,sN f (2*n)=sN (fun i=>f (2*i)+f (2*i+1)) n
 |0=>rfl
 |n+1=>by
  rw [show 2*(n+1)=2*n+1+1 by omega,sN,sN,NL f n,sN];omega
structure Eqv (R:Nat→Nat→Prop):Prop where
 refl:∀ u,R u u
 symm:∀ {u v},R u v→R v u
 trans:∀ {u v w},R u v→R v w→R u w
def mrg (R:Nat→Nat→Prop)(a b:Nat)(u v:Nat):Prop:=R u v∨(R u a∧R b v)∨(R u b∧R a v)
theorem Eqv.mrg {R:Nat→Nat→Prop}(h:Eqv R)(a b:Nat):Eqv (mrg R a b) where
 refl u:=.inl (h.refl u)
 symm:=by
  rintro u v (g|⟨g1,g2⟩|⟨g1,g2⟩)
  ·exact .inl (h.symm g)
  ·exact .inr (.inr ⟨h.symm g2,h.symm g1⟩)
  exact .inr (.inl ⟨h.symm g2,h.symm g1⟩)
 trans:=by
  rintro u v w (g|⟨g1,g2⟩|⟨g1,g2⟩) (k|⟨k1,k2⟩|⟨k1,k2⟩)
  ·exact .inl (h.trans g k)
  ·exact .inr (.inl ⟨h.trans g k1,k2⟩)
  ·exact .inr (.inr ⟨h.trans g k1,k2⟩)
  ·exact .inr (.inl ⟨g1,h.trans g2 k⟩)
  ·exact .inr (.inl ⟨g1,k2⟩)
  ·exact .inl (h.trans g1 k2)
  ·exact .inr (.inr ⟨g1,h.trans g2 k⟩)
  ·exact .inl (h.trans g1 k2)
  exact .inr (.inr ⟨g1,k2⟩)
def VcR (a b:Nat→Nat):Nat→Nat→Nat→Prop
 |0=>fun u v=>u=v
 |k+1=>mrg (VcR a b k) (a k) (b k)
theorem yJ (a b:Nat→Nat):∀ k,Eqv (VcR a b k)
 |0=>⟨fun _=>rfl,fun h=>h.symm,fun h g=>h.trans g⟩
 |k+1=>(yJ a b k).mrg _ _
def DR (W:Nat→Nat→Prop)(n:Nat):Nat→Nat→Nat→Prop
 |0=>W
 |j+1=>mrg (DR W n j) (2*(n - 1 - j)) (2*(n - 1 - j)+1)
theorem MK {W:Nat→Nat→Prop}(hW:Eqv W)(n:Nat):∀ j,Eqv (DR W n j)
 |0=>hW
 |j+1=>(MK hW n j).mrg _ _
theorem aLc {W:Nat→Nat→Prop}{n:Nat}:∀ {j u v},W u v→DR W n j u v
 |0,_,_,h=>h
 |j+1,_,_,h=>.inl (aLc (j:=j) h)
theorem WI {W:Nat→Nat→Prop}(hW:Eqv W){n:Nat}:∀ {j i},n - j≤i→i<n→DR W n j (2*i) (2*i+1)
 |0,i,h,hi=>by omega
 |j+1,i,h,hi=>by
  by_cases e:i=n - 1 - j
  ·rw [e];exact .inr (.inl ⟨(MK hW n j).refl _,(MK hW n j).refl _⟩)
  exact .inl (WI hW (by omega) hi)
theorem QN {W:Nat→Nat→Prop}{n:Nat}{L:Nat→Int}(hW:∀ u v,W u v→L u=L v):∀ {j},(∀ i,n - j≤i→i<n→L (2*i)=L (2*i+1))→∀ {u v},j≤n→DR W n j u v→L u=L v
 |0,_,u,v,_,h=>hW u v h
 |j+1,hf,u,v,hj,h=>by
  have ih:=fun {u v}=>QN hW (j:=j) (fun i h1 h2=>hf i (by omega) h2) (u:=u) (v:=v) (by omega);have hk:=hf (n - 1 - j) (by omega) (by omega);rcases h with g|⟨g1,g2⟩|⟨g1,g2⟩
  ·exact ih g
  ·rw [ih g1,hk,ih g2]
  rw [ih g1,← hk,ih g2]
structure Emb (nV nE:Nat) (a b nx pv:Nat→Nat) (W:Nat→Nat→Prop):Prop where
 pos:0<nE
 av:∀ i,i<nE→a i<nV
 bv:∀ i,i<nE→b i<nV
 nx_lt:∀ d,d<2*nE→nx d<2*nE
 pv_lt:∀ d,d<2*nE→pv d<2*nE
 nxpv:∀ d,d<2*nE→nx (pv d)=d
 pvnx:∀ d,d<2*nE→pv (nx d)=d
 -- where a dart ends,the next one begins
 meet:∀ (g:Nat→Int) d,d<2*nE→(if d % 2=0 then g (b (d / 2)) else g (a (d / 2)))=(if nx d % 2=0 then g (a (nx d / 2)) else g (b (nx d / 2)))
 eqv:Eqv W
 W_nx:∀ d,d<2*nE→W d (nx d)
 W_inv:∀ L:Nat→Int,(∀ d,d<2*nE→L (nx d)=L d)→∀ u v,W u v→L u=L v
 -- each cycle has numbers on the left of darts
 cyc:∀ c:Nat→Int,(∀ g:Nat→Int,sN (fun i=>c i*(g (b i) - g (a i))) nE=0)→∃ L:Nat→Int,(∀ d,d<2*nE→L (nx d)=L d)∧∀ i,i<nE→L (2*i) - L (2*i+1)=c i
 conV:∀ v,v<nV→VcR a b nE 0 v
 conD:∀ d,d<2*nE→DR W nE nE 0 d
variable {nV nE:Nat}{a b nx pv:Nat→Nat}{W:Nat→Nat→Prop}
end Go.Aw
end

noncomputable section
namespace Go.Aw
def II (nx:Nat→Nat):Nat→Nat→Nat
 |0,d=>d
 |k+1,d=>nx (II nx k d)
theorem AI (nx:Nat→Nat):∀ (i j d:Nat),II nx (i+j) d=II nx i (II nx j d)
 |0,j,d=>by rw [Nat.zero_add];rfl
 |i+1,j,d=>by rw [show i+1+j=(i+j)+1 by omega,II,AI nx i j d,II]
structure Prm (nx:Nat→Nat) (M:Nat):Prop where
 lt:∀ d,d<M→nx d<M
 per:∀ d,d<M→∃ P,0<P∧II nx P d=d
theorem Prm.X9 {nx:Nat→Nat}{M:Nat}(h:Prm nx M):∀ (k:Nat) {d:Nat},d<M→II nx k d<M
 |0,d,hd=>hd
 |k+1,d,hd=>h.lt _ (h.X9 k hd)
theorem DU {nx:Nat→Nat}{P d:Nat}(h:II nx P d=d):∀ k,II nx (k*P) d=d
 |0=>by rw [Nat.zero_mul];rfl
 |k+1=>by rw [Nat.succ_mul,AI,h,DU h k]
def Wk (nx:Nat→Nat)(M u v:Nat):Prop:=u=v∨(u<M∧∃ i,II nx i u=v)
theorem Prm.back {nx:Nat→Nat}{M:Nat}(h:Prm nx M){d:Nat}(hd:d<M)(i:Nat):∃ j,II nx j (II nx i d)=d:=by
 obtain⟨P,hP,e⟩:=h.per d hd;refine⟨i*P - i,?_⟩;have hle:i≤i*P:=Nat.le_mul_of_pos_right i hP;rw [← AI,show i*P - i+i=i*P by omega,DU e]
theorem Prm.eqv {nx:Nat→Nat}{M:Nat}(h:Prm nx M):Eqv (Wk nx M) where
 refl u:=.inl rfl
 symm:=by
  rintro u v (g|⟨hu,i,rfl⟩)
  ·exact .inl g.symm
  obtain⟨j,e⟩:=h.back hu i;exact .inr ⟨h.X9 i hu,j,e⟩
 trans:=by
  rintro u v w (rfl|⟨hu,i,rfl⟩) (rfl|⟨hv,j,rfl⟩)
  ·exact .inl rfl
  ·exact .inr ⟨hv,j,rfl⟩
  ·exact .inr ⟨hu,i,rfl⟩
  exact .inr ⟨hu,j+i,AI nx j i u⟩
theorem Prm.inj {nx:Nat→Nat}{M:Nat}(h:Prm nx M){d e:Nat}(hd:d<M)(he:e<M)(hx:nx d=nx e):d=e:=by
 obtain⟨P,hP,e1⟩:=h.per d hd;obtain⟨Q,hQ,e2⟩:=h.per e he;have h1:=DU e1 Q;have h2:=DU e2 P;rw [Nat.mul_comm] at h2;have hpos:0<Q*P:=Nat.mul_pos hQ hP;have st:∀ x,II nx (Q*P) x=II nx (Q*P - 1) (nx x):=fun x=>by
  have:=AI nx (Q*P - 1) 1 x;rw [show Q*P - 1+1=Q*P by omega] at this;exact this
 rw [st] at h1 h2;rw [← h1,hx,h2]
open Classical in
def pvF (nx:Nat→Nat)(M d:Nat):Nat:=if h:∃ e,e<M∧nx e=d then h.choose else 0
theorem Prm.pv {nx:Nat→Nat}{M:Nat}(h:Prm nx M):(∀ d,d<M→pvF nx M d<M)∧(∀ d,d<M→nx (pvF nx M d)=d)∧(∀ d,d<M→pvF nx M (nx d)=d):=by
 have ex:∀ d,d<M→∃ e,e<M∧nx e=d:=fun d hd=>by
  obtain⟨P,hP,e1⟩:=h.per d hd;refine⟨II nx (P - 1) d,h.X9 _ hd,?_⟩;have:II nx (P - 1+1) d=nx (II nx (P - 1) d):=rfl;rw [← this,show P - 1+1=P by omega,e1]
 have sp:∀ d,d<M→pvF nx M d<M∧nx (pvF nx M d)=d:=fun d hd=>by
  unfold pvF;rw [dif_pos (ex d hd)];exact (ex d hd).choose_spec
 exact⟨fun d hd=>(sp d hd).1,fun d hd=>(sp d hd).2,fun d hd=>h.inj (sp _ (h.lt d hd)).1 hd (sp _ (h.lt d hd)).2⟩
theorem aDl {nx:Nat→Nat}{M:Nat}(h:Prm nx M)(L:Nat→Int)(hL:∀ d,d<M→L (nx d)=L d):∀ u v,Wk nx M u v→L u=L v:=by
 rintro u v (rfl|⟨hu,i,rfl⟩)
 ·rfl
 induction i with
 |zero=>rfl
 |succ i ih=>rw [II,hL _ (h.X9 i hu)];exact ih
def r7 (p:Nat→Pq)(a b:Nat→Nat)(i:Nat):Pq × Pq:=(p (a i),p (b i))
def gN (p:Nat→Pq)(a b:Nat→Nat)(n:Nat):List (Pq × Pq):=(List.range n).map (r7 p a b)
theorem rF (f:Pq × Pq→Int)(s:Nat→Pq × Pq):∀ n,lI f ((List.range n).map s)=sN (fun i=>f (s i)) n
 |0=>rfl
 |n+1=>by
  rw [List.range_succ,List.map_append,QH,rF f s n,sN];simp [lI]
open Classical in
def chN (p:Nat→Pq)(a b:Nat→Nat)(n:Nat)(c:Nat→Int)(e:Pq × Pq):Int:=sN (fun i=>if r7 p a b i=e then c i else 0) n
theorem UA {p:Nat→Pq}{a b:Nat→Nat}{n:Nat}{c:Nat→Int}(hd:∀ i k,i<n→k<n→r7 p a b i=r7 p a b k→i=k){i:Nat}(hi:i<n):chN p a b n c (r7 p a b i)=c i:=by
 unfold chN;have:sN (fun k=>if r7 p a b k=r7 p a b i then c k else 0) n=sN (fun k=>if k=i then c i else 0) n:=bA fun k hk=>by
  by_cases e:k=i
  ·rw [if_pos (by rw [e]),if_pos e,e]
  rw [if_neg (fun g=>e (hd k i hk hi g)),if_neg e]
 rw [this,uD,if_pos hi]
theorem u9 {p:Nat→Pq}{a b:Nat→Nat}{n:Nat}{c:Nat→Int}(hd:∀ i k,i<n→k<n→r7 p a b i=r7 p a b k→i=k)(hc:∀ g:Nat→Int,sN (fun i=>c i*(g (b i) - g (a i))) n=0):HT (gN p a b n) (chN p a b n c):=fun g=>by
 unfold Cs gN;rw [rF,← hc (fun v=>g (p v))];exact bA fun i hi=>by rw [UA hd hi];rfl
theorem VQ {p:Nat→Pq}{a b:Nat→Nat}{n:Nat}{c:Nat→Int}(hd:∀ i k,i<n→k<n→r7 p a b i=r7 p a b k→i=k)(hr:∀ i k,i<n→k<n→(p (a i),p (b i))≠(p (b k),p (a k))){i:Nat}(hi:i<n) :
  Cs (gN p a b n) (chN p a b n c) (fun e=>(if e=(p (a i),p (b i)) then 1 else 0) - (if e=(p (b i),p (a i)) then 1 else 0))=c i:=by
 unfold Cs gN;rw [rF];have:sN (fun k=>chN p a b n c (r7 p a b k)*((if r7 p a b k=(p (a i),p (b i)) then 1 else 0) - (if r7 p a b k=(p (b i),p (a i)) then 1 else 0))) n=sN (fun k=>if k=i then c i else 0) n:=bA fun k hk=>by
  rw [UA hd hk,if_neg (show ¬ r7 p a b k=(p (b i),p (a i)) from fun e=>hr k i hk hi e)];by_cases e:k=i
  ·rw [if_pos (by rw [e];rfl),if_pos e,e];omega
  rw [if_neg (show ¬ r7 p a b k=(p (a i),p (b i)) from fun g=>e (hd k i hk hi g)),if_neg e];omega
 rw [this,uD,if_pos hi]
structure Mp (p:Nat→Pq) (a b nx:Nat→Nat) (nV nE:Nat):Prop where
 pos:0<nE
 av:∀ i,i<nE→a i<nV
 bv:∀ i,i<nE→b i<nV
 ab:∀ i,i<nE→p (a i)≠p (b i)
 ok:∀ i k,i<nE→k<nE→i≠k→okP (r7 p a b i) (r7 p a b k)
 dist:∀ i k,i<nE→k<nE→r7 p a b i=r7 p a b k→i=k
 rev:∀ i k,i<nE→k<nE→(p (a i),p (b i))≠(p (b k),p (a k))
 prm:Prm nx (2*nE)
def qP (a b:Nat→Nat)(d:Nat):Nat:=if d % 2=0 then a (d / 2) else b (d / 2)
def eP (a b:Nat→Nat)(d:Nat):Nat:=if d % 2=0 then b (d / 2) else a (d / 2)
theorem Mp.gr {p:Nat→Pq}{a b nx:Nat→Nat}{nV nE:Nat}(h:Mp p a b nx nV nE):Gr (gN p a b nE) where
 ne e he:=by
  obtain⟨i,hi,rfl⟩:=List.mem_map.1 he;exact h.ab i (List.mem_range.1 hi)
 ok e he f hf hne:=by
  obtain⟨i,hi,rfl⟩:=List.mem_map.1 he;obtain⟨k,hk,rfl⟩:=List.mem_map.1 hf;exact h.ok i k (List.mem_range.1 hi) (List.mem_range.1 hk) fun e=>hne (by rw [e])
 nd:=by
  unfold gN;refine List.pairwise_map.2 (List.Pairwise.imp_of_mem (R:=fun i k=>i≠k) (fun {i k} hi hk hne e=>hne (h.dist i k (List.mem_range.1 hi) (List.mem_range.1 hk) e)) List.nodup_range)
theorem Mp.ad {p:Nat→Pq}{a b nx:Nat→Nat}{nV nE:Nat}(h:Mp p a b nx nV nE){d:Nat}(hd:d<2*nE):Ad (gN p a b nE) (p (qP a b d)) (p (eP a b d)):=by
 have hi:d / 2<nE:=(by omega);have hm:r7 p a b (d / 2)∈gN p a b nE:=List.mem_map_of_mem (List.mem_range.2 hi);unfold qP eP;split
 ·exact .inl hm
 exact .inr hm
theorem Mp.aCS {p:Nat→Pq}{a b nx:Nat→Nat}{nV nE:Nat}(h:Mp p a b nx nV nE){v z:Pq}(hz:Ad (gN p a b nE) v z):∃ d,d<2*nE∧p (qP a b d)=v∧p (eP a b d)=z:=by
 rcases hz with hz|hz
 ·obtain⟨i,hi,e⟩:=List.mem_map.1 hz;have hi:=List.mem_range.1 hi;refine⟨2*i,by omega,?_,?_⟩
  ·unfold qP;rw [if_pos (by omega),show 2*i / 2=i by omega];exact congrArg Prod.fst e
  unfold eP;rw [if_pos (by omega),show 2*i / 2=i by omega];exact congrArg Prod.snd e
 obtain⟨i,hi,e⟩:=List.mem_map.1 hz;have hi:=List.mem_range.1 hi;refine⟨2*i+1,by omega,?_,?_⟩
 ·unfold qP;rw [if_neg (by omega),show (2*i+1) / 2=i by omega];exact congrArg Prod.snd e
 unfold eP;rw [if_neg (by omega),show (2*i+1) / 2=i by omega];exact congrArg Prod.fst e
theorem Mp.cyc {p:Nat→Pq}{a b nx:Nat→Nat}{nV nE:Nat}(h:Mp p a b nx nV nE)(hmeet:∀ d,d<2*nE→p (qP a b (nx d))=p (eP a b d))
  (hsoon:∀ d x,d<2*nE→x<2*nE→p (qP a b x)=p (eP a b d)→¬ X5 (p (eP a b d)) (p (qP a b d)) (p (eP a b x)) (p (eP a b (nx d)))) (c:Nat→Int) (hc:∀ g:Nat→Int,sN (fun i=>c i*(g (b i) - g (a i))) nE=0) :
  ∃ L:Nat→Int,(∀ d,d<2*nE→L (nx d)=L d)∧∀ i,i<nE→L (2*i) - L (2*i+1)=c i:=by
 have hG:=h.gr;have hC:=u9 (p:=p) h.dist hc;refine⟨fun d=>Ld (gN p a b nE) (chN p a b nE c) (p (qP a b d)) (p (eP a b d)),fun d hd=>?_,fun i hi=>?_⟩
 ·have hn:=h.prm.lt d hd;have h1:=h.ad hd;have h2:=h.ad hn;rw [hmeet d hd] at h2;simp only;rw [hmeet d hd];refine (VV hG hC h1 h2 fun z hz=>?_).symm;obtain⟨x,hx,e1,e2⟩:=h.aCS hz;rw [← e2];exact hsoon d x hd hx e1
 have h1:=h.ad (d:=2*i) (by omega);have j:=WZ hG hC h1;have e1:qP a b (2*i)=a i:=(by unfold qP;rw [if_pos (by omega),show 2*i / 2=i by omega]);have e2:eP a b (2*i)=b i:=(by unfold eP;rw [if_pos (by omega),show 2*i / 2=i by omega]);have e3:qP a b (2*i+1)=b i:=(by unfold qP;rw [if_neg (by omega),show (2*i+1) / 2=i by omega]);have e4:eP a b (2*i+1)=a i:=(by unfold eP;rw [if_neg (by omega),show (2*i+1) / 2=i by omega]);rw [e1,e2] at j;simp only;rw [e1,e2,e3,e4,j];exact VQ h.dist h.rev hi
set_option maxRecDepth 100000
variable {l:List Pt}{m:List Ed}{n:Int}
def pN (l:List Pt)(i:Nat):Pq:=mL l i
def aN (m:List Ed)(i:Nat):Nat:=(cN m i).a.toNat
def bN (m:List Ed)(i:Nat):Nat:=(cN m i).b.toNat
def HQ (l:List Pt)(m:List Ed)(d:Nat):Nat:=(vU (aO l m m.length) (outs l m) d).toNat
theorem NP (l:List Pt)(m:List Ed)(i:Nat):r7 (pN l) (aN m) (bN m) i=aP l m i:=rfl
theorem qD {i:Nat}(hi:i<2*m.length):qP (aN m) (bN m) i=(bL (aO l m m.length) i).fr.toNat∧eP (aN m) (bN m) i=(bL (aO l m m.length) i).tt.toNat:=by
 unfold qP eP;rcases jU (l:=l) (m:=m) hi with ⟨e,h⟩|⟨e,h⟩
 ·rw [h,if_pos e,if_pos e];exact⟨rfl,rfl⟩
 rw [h,if_neg (by omega),if_neg (by omega)];exact⟨rfl,rfl⟩
theorem RD (hok:cM l m n=true){d:Nat}(hd:d<2*m.length):((HQ l m d:Nat):Int)=vU (aO l m m.length) (outs l m) d∧HQ l m d<2*m.length:=by
 have:=IF hok (d:=(d:Int)) (by omega) (by omega);unfold HQ;omega
theorem ZN (hok:cM l m n=true){d:Nat}(hd:d<2*m.length):∀ k,((II (HQ l m) k d:Nat):Int)=jT (aO l m m.length) (outs l m) d k
 |0=>rfl
 |k+1=>by
  have ih:=ZN hok hd k;have hin:=p9 hok (d:=(d:Int)) (by omega) (by omega) k;rw [II];have:=RD hok (d:=II (HQ l m) k d) (by omega);rw [this.1,ih];rfl
theorem aCA {u x:V2}:¬ BJ u x x:=fun h=>wU h h
theorem j9 (hp:gW l m n=true):Mp (pN l) (aN m) (bN m) (HQ l m) l.length m.length where
 pos:=by have:=(dM (cH hp)).2.1;omega
 av i hi:=by have:=sK (cH hp) hi;unfold aN;omega
 bv i hi:=by have:=sK (cH hp) hi;unfold bN;omega
 ab i hi e:=by
  have h:=(kQ (cH hp) hi).2;have e:(aP l m i).1=(aP l m i).2:=e;rw [e] at h;unfold fJ at h;simp only [Bool.or_eq_true,Bool.and_eq_true,decide_eq_true_eq] at h;omega
 ok i k hi hk hne:=by
  have key:∀ {i k:Nat},i<m.length→k<i→okP (aP l m i) (aP l m k):=fun {i k} hi hk=>by
   have ri:=(kQ (cH hp) hi).1;have rk:=(kQ (cH hp) (i:=k) (by omega)).1;simp only [gW,Bool.and_eq_true] at hp;have h:=dU (f:=fun k=>F6 l m i k) (dU (f:=fun i=>mW (fun k=>F6 l m i k) i) hp.2 hi) hk;simp only [F6,Bool.or_eq_true,decide_eq_true_eq] at h;unfold iO at h;rw [if_pos ⟨ri,rk⟩] at h;exact aGm ri rk h
  rw [NP,NP];rcases Nat.lt_or_gt_of_ne hne with h|h
  ·exact FN (key hk h)
  exact key hi h
 dist i k hi hk e:=by
  refine Classical.byContradiction fun hne=>?_;rw [NP,NP] at e;have ri:=kQ (cH hp) hi;have h4:iO (aP l m i) (aP l m i)=4:=SO ri.1 ri.1 ri.2 ri.2 rfl (YD _ _);have h:=aAM hp hi hk hne;rw [← e,h4] at h;omega
 rev i k hi hk e:=by
  have ri:=(kQ (cH hp) hi).2;have rk:=(kQ (cH hp) hk).2;have e1:(aP l m i).1=(aP l m k).2:=congrArg Prod.fst e;have e2:(aP l m i).2=(aP l m k).1:=congrArg Prod.snd e;rw [e1,e2] at ri;unfold fJ at ri rk;simp only [Bool.or_eq_true,Bool.and_eq_true,decide_eq_true_eq] at ri rk;omega
 prm:={
  lt:=fun d hd=>(RD (cH hp) hd).2
  per:=fun d hd=>by
   have hw:=of_decide_eq_true (List.all_eq_true.1 (BY (cH hp)) d (List.mem_range.2 (by rw [a9];exact hd)));have h1:=(jI (aO l m m.length) (outs l m) d (aO l m m.length).length 1).1;refine⟨iT (aO l m m.length) (outs l m) d,by unfold iT;omega,?_⟩;have:=ZN (cH hp) hd (iT (aO l m m.length) (outs l m) d);rw [hw] at this;omega }
theorem EC (hok:cM l m n=true){d:Nat}(hd:d<2*m.length):qP (aN m) (bN m) (HQ l m d)=eP (aN m) (bN m) d:=by
 have:=IF hok (d:=(d:Int)) (by omega) (by omega);rw [(qD (l:=l) (RD hok hd).2).1,(qD (l:=l) hd).2];have h:=this.2.2;rw [Int.toNat_natCast] at h;exact h
theorem X6 (hp:gW l m n=true){d x:Nat}(hd:d<2*m.length)(hx:x<2*m.length)(he:qP (aN m) (bN m) x=eP (aN m) (bN m) d) :
  ¬ X5 (pN l (eP (aN m) (bN m) d)) (pN l (qP (aN m) (bN m) d)) (pN l (eP (aN m) (bN m) x)) (pN l (eP (aN m) (bN m) (HQ l m d))):=by
 have hok:=cH hp;obtain⟨hM,_⟩:=dM hok;have hn:=RD hok hd;have fx:=eM (l:=l) hM hx;have fd:=eM (l:=l) hM hd;have fn:=eM (l:=l) hM hn.2;have ex:=qD (l:=l) hx;have ed:=qD (l:=l) hd;have en:=qD (l:=l) hn.2;have hm:=EC hok hd;have gx:=xU l m hx;have gn:=xU l m hn.2;have hb:=yX l m (d:=(d:Int)) (by omega) (by omega);have hbi:=vA (E:=m.length) (d:=(d:Int)) (by omega) (by omega);have gb:=xU l m (i:=(dO (d:Int)).toNat) (by omega);rw [hb.1,hb.2.1,Int.toNat_natCast] at gb;have hfx:(bL (aO l m m.length) x).fr=(bL (aO l m m.length) d).tt:=(by omega);have hfn:(bL (aO l m m.length) (HQ l m d)).fr=(bL (aO l m m.length) d).tt:=(by omega);rw [hfx] at gx;rw [hfn] at gn;rw [ex.2,ed.1,ed.2,en.2];have hs:¬ BJ (B2 l m (dO d)) (B2 l m x) (B2 l m (HQ l m d:Nat)):=by
  by_cases e:(x:Int)=vU (aO l m m.length) (outs l m) d
  ·have e:x=HQ l m d:=(by omega);rw [e];exact aCA
  have:=UZ hp (d:=(d:Int)) (by omega) (by omega) hx (by rw [Int.toNat_natCast];exact hfx) e;rw [← hn.1] at this;exact wU this
 intro h;apply hs;show BJ (eE (bL (aO l m m.length) (dO d).toNat)) (eE (bL (aO l m m.length) x)) (eE (bL (aO l m m.length) (HQ l m d)));rw [gb,gx,gn];exact h
theorem aMd (hok:cM l m n=true){R:Nat→Nat→Prop}(hR:Eqv R)(hn:∀ d,d<2*m.length→R d (HQ l m d))(hf:∀ i,i<m.length→R (2*i) (2*i+1)){x y:Nat}(hx:x<2*m.length)(hy:y<2*m.length)(he:qP (aN m) (bN m) x=qP (aN m) (bN m) y):R x y:=by
 have hbk:∀ d,d<2*m.length→R d (dO (d:Int)).toNat∧(dO (d:Int)).toNat<2*m.length:=fun d hd=>by
  unfold dO;split
  ·have:=hf (d / 2) (by omega);rw [show 2*(d / 2)=d by omega] at this;rw [show ((d:Int)+1).toNat=d+1 by omega];exact⟨this,by omega⟩
  have:=hf (d / 2) (by omega);rw [show 2*(d / 2)+1=d by omega] at this;rw [show ((d:Int) - 1).toNat=2*(d / 2) by omega];exact⟨hR.symm this,by omega⟩
 obtain⟨hM,_⟩:=dM hok;have fx:=eM (l:=l) hM hx;have fy:=eM (l:=l) hM hy;rw [(qD (l:=l) hx).1,(qD (l:=l) hy).1] at he;obtain⟨s,hs⟩:∃ s,s=(bL (aO l m m.length) x).fr.toNat:=⟨_,rfl⟩;have hsl:s<l.length:=(by omega);obtain⟨L,hL⟩:∃ L,bE (outs l m) s=L:=⟨_,rfl⟩;have hmem:=fun z=>iL (x:=z) hok hsl;rw [hL] at hmem
 -- one after the other
 have step:∀ q,q+1<L.length→R (aE L (q+1)).toNat (aE L q).toNat:=fun q hq=>by
  obtain⟨i,i1,i2,i3⟩:=(hmem _).1 (at_mem hq);have hd:=hbk i i1;obtain⟨d,hdd⟩:∃ d:Nat,(dO (i:Int)).toNat=d:=⟨_,rfl⟩;rw [hdd] at hd;have hbi:=vA (E:=m.length) (d:=(i:Int)) (by omega) (by omega);have hbb:=AW (d:=(i:Int)) (by omega);have hdI:(d:Int)=dO i:=(by omega);have hb:=yX l m (d:=(i:Int)) (by omega) (by omega);rw [← hdI,Int.toNat_natCast,Int.toNat_natCast] at hb;obtain⟨s',a,e1,hs',e2,ha,e3,e4,e5⟩:=qN hok (d:=(d:Int)) (by omega) (by omega);rw [Int.toNat_natCast,hb.2.1,i3] at e1;rw [e1,hL] at ha e4 e5;rw [hdI,hbb] at e4;have hnd:=xQ hok hsl;rw [hL] at hnd;have haq:a=q+1:=yB hnd ha hq (by rw [e4,i2]);rw [haq,if_neg (by omega),Nat.add_sub_cancel] at e5;have hnn:=RD hok (d:=d) hd.2;have:=hn d hd.2;rw [show (aE L (q+1)).toNat=i by omega,show (aE L q).toNat=HQ l m d by omega];exact hR.trans hd.1 this
 have all:∀ q,q<L.length→R (aE L 0).toNat (aE L q).toNat:=fun q=>by
  induction q with
  |zero=>intro _;exact hR.refl _
  |succ q ih=>intro hq;exact hR.trans (ih (by omega)) (hR.symm (step q hq))
 have one:∀ z,z<2*m.length→(bL (aO l m m.length) z).fr.toNat=s→R (aE L 0).toNat z:=fun z hz e=>by
  have hz':(z:Int)∈L:=(hmem _).2 ⟨z,hz,rfl,e⟩;obtain⟨q,hq,e⟩:=List.getElem_of_mem hz';rw [← bX hq] at e;have:=all q hq;rw [e,Int.toNat_natCast] at this;exact this
 exact hR.trans (hR.symm (one x hx hs.symm)) (one y hy (by omega))
theorem aF7 {a b:Nat→Nat}{k i:Nat}(h:i<k):VcR a b k (a i) (b i):=by
 induction k with
 |zero=>omega
 |succ k ih =>
  by_cases e:i=k
  ·rw [e];exact .inr (.inl ⟨(yJ a b k).refl _,(yJ a b k).refl _⟩)
  exact .inl (ih (by omega))
theorem TX (hok:cM l m n=true)(hc:TN l m=true):∀ v,v<l.length→VcR (aN m) (bN m) m.length 0 v:=by
 have eV:=yJ (aN m) (bN m) m.length;have rel:∀ (s:List Bool),s.length=l.length→(∀ v,cV s v=true→VcR (aN m) (bN m) m.length 0 v)→∀ i,i≤m.length→∀ v,cV (pY m s i) v=true→VcR (aN m) (bN m) m.length 0 v:=fun s hs h i=>by
  induction i with
  |zero=>intro _;exact h
  |succ i ih =>
   intro hi v hv;have ih:=ih (by omega);have hl:=tJ m s i;have he:=sK hok (i:=i) (by omega);unfold pY LO at hv;split at hv
   ·rename_i hor;have hed:=aF7 (a:=aN m) (b:=bN m) (k:=m.length) (i:=i) (by omega);rw [m0 _ _ _ _ (by rw [List.length_set];omega),m0 _ _ _ _ (by omega)] at hv;have hab:VcR (aN m) (bN m) m.length 0 (aN m i):=by
     rw [Bool.or_eq_true] at hor;rcases hor with g|g
     ·exact ih _ g
     exact eV.trans (ih _ g) (eV.symm hed)
    split at hv
    ·rename_i e;rw [e];exact eV.trans hab hed
    split at hv
    ·rename_i e;rw [e];exact hab
    exact ih v hv
   exact ih v hv
 have con:∀ k,∀ v,cV (eN l m k) v=true→VcR (aN m) (bN m) m.length 0 v:=fun k=>by
  induction k with
  |zero =>
   intro v hv;unfold eN r6 cV at hv;rw [List.getD_eq_getElem?_getD,List.getElem?_map] at hv;by_cases hvl:v<l.length
   ·rw [List.getElem?_range hvl] at hv;have:(v:Int)=0:=(by simpa using hv);rw [show v=0 by omega];exact eV.refl _
   rw [List.getElem?_eq_none (by simpa using hvl)] at hv;simp at hv
  |succ k ih =>
   intro v hv;exact rel (eN l m k) (sH l m k) ih m.length (Nat.le_refl _) v hv
 intro v hv;refine con l.length v ?_;have hl:=sH l m l.length;have:=List.all_eq_true.1 hc (eN l m l.length)[v] (List.getElem_mem (by omega));rw [tB (by omega)];exact this
theorem aIE {R:Nat→Nat→Prop}(hR:Eqv R)(hok:cM l m n=true)(hn:∀ d,d<2*m.length→R d (HQ l m d))(hf:∀ i,i<m.length→R (2*i) (2*i+1)):∀ k,k≤m.length→∀ u v,VcR (aN m) (bN m) k u v→∀ x y,x<2*m.length→y<2*m.length→qP (aN m) (bN m) x=u→qP (aN m) (bN m) y=v→R x y:=fun k=>by
 induction k with
 |zero =>
  intro _ u v h x y hx hy ex ey;have h:u=v:=h;exact aMd hok hR hn hf hx hy (by omega)
 |succ k ih =>
  intro hk u v h x y hx hy ex ey;have ih:=ih (by omega);have f0:qP (aN m) (bN m) (2*k)=aN m k:=(by unfold qP;rw [if_pos (by omega),show 2*k / 2=k by omega]);have f1:qP (aN m) (bN m) (2*k+1)=bN m k:=(by unfold qP;rw [if_neg (by omega),show (2*k+1) / 2=k by omega]);rcases h with g|⟨g1,g2⟩|⟨g1,g2⟩
  ·exact ih u v g x y hx hy ex ey
  ·exact hR.trans (ih u _ g1 x (2*k) hx (by omega) ex f0) (hR.trans (hf k (by omega)) (ih _ v g2 (2*k+1) y (by omega) hy f1 ey))
  exact hR.trans (ih u _ g1 x (2*k+1) hx (by omega) ex f1) (hR.trans (hR.symm (hf k (by omega))) (ih _ v g2 (2*k) y (by omega) hy f0 ey))
theorem aAP (hp:gW l m n=true)(hc:TN l m=true):Emb l.length m.length (aN m) (bN m) (HQ l m) (pvF (HQ l m) (2*m.length)) (Wk (HQ l m) (2*m.length)) where
 pos:=(j9 hp).pos
 av:=(j9 hp).av
 bv:=(j9 hp).bv
 nx_lt:=(j9 hp).prm.lt
 pv_lt:=(j9 hp).prm.pv.1
 nxpv:=(j9 hp).prm.pv.2.1
 pvnx:=(j9 hp).prm.pv.2.2
 meet g d hd:=by
  have h:=EC (cH hp) hd;unfold qP eP at h;have:=congrArg g h;rw [apply_ite g,apply_ite g] at this;exact this.symm
 eqv:=(j9 hp).prm.eqv
 W_nx d hd:=.inr ⟨hd,1,rfl⟩
 W_inv L hL:=aDl (j9 hp).prm L hL
 cyc c hc:=(j9 hp).cyc (fun d hd=>by rw [EC (cH hp) hd]) (fun d x hd hx he=>by
  have hok:=cH hp
  -- the same point has the same number
  have hinj:qP (aN m) (bN m) x=eP (aN m) (bN m) d:=by
   have v1:qP (aN m) (bN m) x<l.length:=by
    have:=eM (l:=l) (dM hok).1 hx;rw [(qD (l:=l) hx).1];omega
   have v2:eP (aN m) (bN m) d<l.length:=by
    have:=eM (l:=l) (dM hok).1 hd;rw [(qD (l:=l) hd).2];omega
   refine Classical.byContradiction fun hne=>?_;have key:∀ {i j:Nat},i<j→j<l.length→pN l i=pN l j→False:=fun {i j} h1 h2 e=>by
    have:=H9 hok h1 h2;have e:mL l i=mL l j:=e;rw [e] at this;unfold fJ at this;simp only [Bool.or_eq_true,Bool.and_eq_true,decide_eq_true_eq] at this;omega
   rcases Nat.lt_or_gt_of_ne hne with h|h
   ·exact key h v2 he
   exact key h v1 he.symm
  exact X6 hp hd hx hinj) c hc
 conV:=TX (cH hp) hc
 conD d hd:=by
  have hok:=cH hp;have eW:=(j9 hp).prm.eqv;have eD:=MK eW m.length m.length;have eV:=yJ (aN m) (bN m) m.length;have h0:=(j9 hp).pos;have v0:qP (aN m) (bN m) 0<l.length:=by
   have:=eM (l:=l) (dM hok).1 (i:=0) (by omega);rw [(qD (l:=l) (i:=0) (by omega)).1];omega
  have v1:qP (aN m) (bN m) d<l.length:=by
   have:=eM (l:=l) (dM hok).1 hd;rw [(qD (l:=l) hd).1];omega
  exact aIE eD hok (fun d hd=>aLc (.inr ⟨hd,1,rfl⟩)) (fun i hi=>WI eW (by omega) hi) m.length (Nat.le_refl _) _ _ (eV.trans (eV.symm (TX hok hc _ v0)) (TX hok hc _ v1)) 0 d (by omega) hd rfl rfl
end Go.Aw
end

noncomputable section
namespace Go.Aw
set_option maxRecDepth 100000
set_option maxHeartbeats 2000000
theorem smB {l:List Pt}{m:List Ed}(h:l.length≤1000∧m.length≤1000):(decide (l.length≤1000)&&decide (m.length≤1000))=true:=by
 rw [decide_eq_true h.1,decide_eq_true h.2];rfl
section
variable {l:List Pt}{m:List Ed}{n:Int}
def oO (l:List Pt)(m:List Ed)(d:Nat):Int:=aE (dE l m).face d
theorem EG (ho:aY l m n=true){u v:Nat}(hu:u<2*m.length)(hv:v<2*m.length):Wk (HQ l m) (2*m.length) u v↔oO l m u=oO l m v:=by
 have ho':=ho;simp only [aY,gW,Bool.and_eq_true,decide_eq_true_eq] at ho';obtain⟨⟨hok,hpl⟩,_,hn,hmn,_⟩:=ho';have hp:gW l m n=true:=(by simp only [aY,Bool.and_eq_true] at ho;exact ho.1);have o:=aC6 hok (2*m.length) (Nat.le_refl _);have hsn:=(EI hp (2*m.length) (Nat.le_refl _)).2;have e:bK l (aO l m m.length) (outs l m) (2*m.length)=dE l m:=(by unfold dE nmD;rw [a9]);rw [e] at o hsn;simp only [zY,Bool.and_eq_true,decide_eq_true_eq,Bool.not_eq_true'] at hn;constructor
 ·refine aDl (j9 hp).prm (oO l m) (fun d hd=>?_) u v;have:=o.con d hd (hsn d hd);exact this
 intro h;obtain⟨k,hk⟩:=o.orb u v hu hv (hsn u hu) (hsn v hv) h (.inr ⟨by omega,hn.2⟩);have:=ZN hok hu k;exact .inr ⟨hu,k,by omega⟩
end
theorem aDg {N A:Int}(hN:0<N):(0<N*A↔0<A)∧(N*A≤0↔A≤0)∧(N*A<0↔A<0):=by
 have key:0<N*A↔0<A:=⟨fun h=>Int.not_le.1 fun g=>by have:=Int.mul_nonpos_of_nonneg_of_nonpos (Int.le_of_lt hN) g;omega,fun h=>Int.mul_pos hN h⟩;have key2:N*A<0↔A<0:=⟨fun h=>Int.not_le.1 fun g=>by have:=Int.mul_nonneg (Int.le_of_lt hN) g;omega,fun h=>Int.mul_neg_of_pos_of_neg hN h⟩;exact⟨key,by omega,key2⟩
theorem QV {N M A B α:Int}(hN:0<N)(hM:0<M):rI (N*A) (N*B) (M*α)=rI A B α:=by
 have a:=aDg (A:=A) hN;have b:=aDg (A:=B) hN;have c:=aDg (A:=α) hM;unfold rI;simp only [a.1,a.2.1,b.1,b.2.1,c.1,c.2.2]
variable {G:List (Pq × Pq)}{c:Pq × Pq→Int}
theorem aCY (hG:Gr G){u v:Pq}(hd:Ad G u v){e:Pq × Pq}(he:e∈G){i j:Int}{P:Pq}(hi:0<i)(hj:0<j)(h1:P.1=i*u.1+j*v.1)(h2:P.2=i*u.2+j*v.2) :
  wn (dd u v) 1 u e=wn (dd u v) (i+j) P e:=by
 have hs:=KC hG hd he;obtain⟨y,z⟩:=e;have hyz:y≠z:=hG.ne _ he;have S1:∀ x:Pq,bI (dd u v) (vec 1 u x)=bI (dd u v) (vec 1 v x):=fun x=>(by unfold bI dd vec;simp only;grind);have SN:∀ x:Pq,bI (dd u v) (vec (i+j) P x)=(i+j)*bI (dd u v) (vec 1 v x):=fun x=>(by unfold bI dd vec;simp only;rw [h1,h2];grind);have hal:bI (vec 1 u y) (vec 1 u z)=bI (vec 1 v y) (vec 1 v z)+bI (dd u v) (vec 1 v z) - bI (dd u v) (vec 1 v y):=(by unfold bI dd vec;simp only;grind);have haN:bI (vec (i+j) P y) (vec (i+j) P z)=(i+j)*(i*(bI (vec 1 v y) (vec 1 v z)+bI (dd u v) (vec 1 v z) - bI (dd u v) (vec 1 v y))+j*bI (vec 1 v y) (vec 1 v z)):=(by unfold bI dd vec;simp only;rw [h1,h2];grind);have z1:y=v→bI (dd u v) (vec 1 v y)=0∧bI (vec 1 v y) (vec 1 v z)=0:=fun e=>(by subst e;exact⟨u6 _ _,aCT _ _⟩);have z2:z=v→bI (dd u v) (vec 1 v z)=0∧bI (vec 1 v y) (vec 1 v z)=0:=fun e=>(by subst e;exact⟨u6 _ _,aCh _ _⟩);unfold wn at hs ⊢;simp only at hs ⊢;rw [S1,S1,hal] at hs ⊢;rw [SN,SN,haN,QV (by omega) (by omega)];clear SN haN h1 h2 S1 hal;generalize bI (dd u v) (vec 1 v y)=A at *;generalize bI (dd u v) (vec 1 v z)=B at *;generalize bI (vec 1 v y) (vec 1 v z)=α at *;have ma:=aDg (A:=α+B - A) hi;have mb:=aDg (A:=α) hj;by_cases e1:y=v
 ·obtain⟨rfl,rfl⟩:=z1 e1;simp only [Int.mul_zero,Int.add_zero,Int.zero_add,Int.sub_zero] at ma ⊢;unfold rI
  (repeat' split) <;> omega
 by_cases e2:z=v
 ·obtain⟨rfl,rfl⟩:=z2 e2;simp only [Int.mul_zero,Int.add_zero,Int.zero_add,Int.sub_zero] at ma ⊢;unfold rI
  (repeat' split) <;> omega
 rw [if_neg e1,if_neg e2] at hs;clear z1 z2;generalize i*(α+B - A)=X at *;generalize j*α=Y at *;unfold rI at hs ⊢;by_cases g1:A≤0∧0<B
 ·rw [if_pos g1,if_pos g1] at hs;rw [if_pos g1,if_pos g1];by_cases g2:0<α+B - A
  ·rw [if_pos g2] at hs ⊢;by_cases g3:0<α
   ·rw [if_pos (by omega)]
   rw [if_neg g3] at hs;omega
  rw [if_neg g2] at hs ⊢;rw [if_neg (by omega)]
 rw [if_neg g1,if_neg g1] at hs;rw [if_neg g1,if_neg g1];by_cases g4:0<A∧B≤0
 ·rw [if_pos g4,if_pos g4] at hs;rw [if_pos g4,if_pos g4];by_cases g2:α+B - A<0
  ·rw [if_pos g2] at hs ⊢;by_cases g3:α<0
   ·rw [if_pos (by omega)]
   rw [if_neg g3] at hs;omega
  rw [if_neg g2] at hs ⊢;rw [if_neg (by omega)]
 rw [if_neg g4,if_neg g4]
theorem aEi (hG:Gr G){u v:Pq}(hd:Ad G u v){e:Pq × Pq}(he:e∈G){i j:Int}{P:Pq}(hi:0<i)(hj:0<j)(h1:P.1=i*u.1+j*v.1)(h2:P.2=i*u.2+j*v.2)(n1:e≠(u,v))(n2:e≠(v,u)):R0 (i+j) P e:=fun ⟨M,hM,ho⟩=>by
 have huv:=hd.ne hG;obtain⟨w,w1,w2,w3,w4⟩:=aC0 hG hd he n1 n2 (M*(i+j)) (M*P.1) (M*P.2) (Int.mul_pos hM (by omega)) ho ⟨M*i,M*j,Int.mul_nonneg (by omega) (by omega),Int.mul_nonneg (by omega) (by omega),by rw [Int.mul_add],by show _=M*i*u.1+M*j*v.1;rw [h1];grind,by show _=M*i*u.2+M*j*v.2;rw [h2];grind⟩;rw [Int.mul_assoc] at w3 w4;have e1:=Int.eq_of_mul_eq_mul_left (show M≠0 by omega) w3;have e2:=Int.eq_of_mul_eq_mul_left (show M≠0 by omega) w4;rw [h1] at e1;rw [h2] at e2;simp only at w2;rcases w2 with rfl|rfl
 ·have f1:j*v.1=j*w.1:=(by grind);have f2:j*v.2=j*w.2:=(by grind);exact huv (Prod.ext (Int.eq_of_mul_eq_mul_left (by omega) f1) (Int.eq_of_mul_eq_mul_left (by omega) f2)).symm
 have f1:i*u.1=i*w.1:=(by grind);have f2:i*u.2=i*w.2:=(by grind);exact huv (Prod.ext (Int.eq_of_mul_eq_mul_left (by omega) f1) (Int.eq_of_mul_eq_mul_left (by omega) f2))
theorem aId (hG:Gr G)(hc:HT G c){u v:Pq}(hd:Ad G u v){i j:Int}{P:Pq}(hi:0<i)(hj:0<j)(h1:P.1=i*u.1+j*v.1)(h2:P.2=i*u.2+j*v.2){U:Pq}(hD:0<bI (dd u v) U) :
  Ld G c u v=Cs G c (wn U (i+j) P):=by
 have k1:Ld G c u v=Cs G c (wn (dd u v) (i+j) P):=gC fun e he _=>aCY hG hd he hi hj h1 h2;have k2:Cs G c (fun e=>wn (dd u v) (i+j) P e - wn U (i+j) P e)=Cs G c (fun e=>xD (bI (dd u v) (vec (i+j) P e.2)) (bI U (vec (i+j) P e.2)) - xD (bI (dd u v) (vec (i+j) P e.1)) (bI U (vec (i+j) P e.1))):=gC fun e he _=>by
  by_cases n:e=(u,v)∨e=(v,u)
  ·have a0:bI (dd u v) (vec (i+j) P e.1)=0∧bI (dd u v) (vec (i+j) P e.2)=0∧bI (vec (i+j) P e.1) (vec (i+j) P e.2)=0:=by
    rcases n with rfl|rfl
    ·refine⟨?_,?_,?_⟩ <;> (unfold bI vec;try unfold dd) <;> simp only <;> rw [h1,h2] <;> grind
    refine⟨?_,?_,?_⟩ <;> (unfold bI vec;try unfold dd) <;> simp only <;> rw [h1,h2] <;> grind
   have r0:∀ A B:Int,rI A B 0=0:=fun A B=>(by unfold rI;(repeat' split) <;> omega);have c0:∀ B:Int,xD 0 B=0:=fun B=>(by unfold xD;rw [if_neg (by omega)]);unfold wn;rw [a0.1,a0.2.1,a0.2.2,r0,r0,c0,c0]
  have hoff:=aEi hG hd he hi hj h1 h2 (fun e=>n (.inl e)) (fun e=>n (.inr e));exact aCJ hD (by unfold bI;grind) fun h0=>⟨pR (by omega) hoff h0 _,pR (by omega) hoff h0 _⟩
 have k3:=hc (fun z=>xD (bI (dd u v) (vec (i+j) P z)) (bI U (vec (i+j) P z)));rw [H4] at k2;omega
theorem XW (hc:HT G c){N:Int}(hN:0<N){p U U':Pq}(hD:0<bI U U')(hoff:∀ e∈G,R0 N p e):Cs G c (wn U N p)=Cs G c (wn U' N p):=by
 have k2:Cs G c (fun e=>wn U N p e - wn U' N p e)=Cs G c (fun e=>xD (bI U (vec N p e.2)) (bI U' (vec N p e.2)) - xD (bI U (vec N p e.1)) (bI U' (vec N p e.1))):=gC fun e he _ =>
  aCJ hD (by unfold bI;grind) fun h0=>⟨pR hN (hoff e he) h0 _,pR hN (hoff e he) h0 _⟩
 have k3:=hc (fun z=>xD (bI U (vec N p z)) (bI U' (vec N p z)));rw [H4] at k2;omega
end Go.Aw
end

noncomputable section
namespace Go.Aw
theorem IG {p:Nat→Pq}{a b:Nat→Nat}{n:Nat}{c:Nat→Int}(hd:∀ i k,i<n→k<n→r7 p a b i=r7 p a b k→i=k)(f:Pq × Pq→Int):Cs (gN p a b n) (chN p a b n c) f=sN (fun i=>c i*f (r7 p a b i)) n:=by
 unfold Cs gN;rw [rF];exact bA fun i hi=>by rw [UA hd hi]
section
variable (p:Nat→Pq)(a b:Nat→Nat)
def jV (x:Int)(i:Nat):Prop:=(p (a i)).1≤x∧x<(p (b i)).1
def eU (i:Nat):Int:=(p (b i)).1 - (p (a i)).1
def fQ (x:Int)(i:Nat):Int:=2*eU p a b i*(p (a i)).2+((p (b i)).2 - (p (a i)).2)*(2*x+1 - 2*(p (a i)).1)
def ML (x:Int)(i k:Nat):Prop:=fQ p a b x i*(2*eU p a b k)<fQ p a b x k*(2*eU p a b i)
instance (x:Int) (i:Nat):Decidable (jV p a b x i):=inferInstanceAs (Decidable (_∧_))
instance (x:Int) (i k:Nat):Decidable (ML p a b x i k):=inferInstanceAs (Decidable (_<_))
end
variable {p:Nat→Pq}{a b nx:Nat→Nat}{nV nE:Nat}{c:Nat→Int}
theorem aM5 {x:Int}{i k:Nat}(hi:jV p a b x i)(hk:(p (a k)).1≤(p (b k)).1){P:Pq}(h1:P.1=(2*(p (b i)).1 - 2*x - 1)*(p (a i)).1+(2*x+1 - 2*(p (a i)).1)*(p (b i)).1)(h2:P.2=(2*(p (b i)).1 - 2*x - 1)*(p (a i)).2+(2*x+1 - 2*(p (a i)).1)*(p (b i)).2) :
  wn (0,1) ((2*(p (b i)).1 - 2*x - 1)+(2*x+1 - 2*(p (a i)).1)) P (r7 p a b k) = -(if jV p a b x k∧ML p a b x i k then 1 else 0):=by
 unfold wn r7;simp only;obtain⟨h3,h4⟩:=hi;have hdx:0<eU p a b i:=(by unfold eU;omega);have eA:∀ z:Pq,bI (0,1) (vec ((2*(p (b i)).1 - 2*x - 1)+(2*x+1 - 2*(p (a i)).1)) P z)=eU p a b i*(2*x+1 - 2*z.1):=fun z=>(by unfold bI vec eU;simp only;rw [h1];grind);have eC:bI (vec ((2*(p (b i)).1 - 2*x - 1)+(2*x+1 - 2*(p (a i)).1)) P (p (a k))) (vec ((2*(p (b i)).1 - 2*x - 1)+(2*x+1 - 2*(p (a i)).1)) P (p (b k)))=eU p a b i*(fQ p a b x i*(2*eU p a b k) - fQ p a b x k*(2*eU p a b i)):=by
  unfold bI vec fQ eU;simp only;rw [h1,h2];grind
 rw [eA,eA,eC,QV hdx hdx];unfold rI;rw [if_neg (by omega)];by_cases g:jV p a b x k
 ·have g':=g;unfold jV at g';rw [if_pos (by omega)];by_cases g2:ML p a b x i k
  ·have g3:=g2;unfold ML at g3;rw [if_pos (by omega),if_pos ⟨g,g2⟩]
  have g3:=g2;unfold ML at g3;rw [if_neg (by omega),if_neg (fun h=>g2 h.2)];rfl
 have g':=g;unfold jV at g';rw [if_neg (by omega),if_neg (fun h=>g h.1)];rfl
def S4 (p:Nat→Pq)(a b:Nat→Nat)(nE:Nat)(c:Nat→Int)(x:Int)(i:Nat):Int:=sN (fun k=>if jV p a b x k∧ML p a b x i k then c k else 0) nE
theorem R6 (f:Nat→Int):∀ n,sN (fun i=>-f i) n = -sN f n
 |0=>rfl
 |n+1=>by rw [sN,sN,R6 f n];omega
theorem aD6 (h:Mp p a b nx nV nE)(hx:∀ i,i<nE→(p (a i)).1≤(p (b i)).1)(hc:∀ g:Nat→Int,sN (fun i=>c i*(g (b i) - g (a i))) nE=0){x:Int}{i:Nat}(hi:i<nE)(hs:jV p a b x i) :
  Ld (gN p a b nE) (chN p a b nE c) (p (a i)) (p (b i)) = -S4 p a b nE c x i:=by
 have hd:Ad (gN p a b nE) (p (a i)) (p (b i)):=by
  have:=h.ad (d:=2*i) (by omega);unfold qP eP at this;rw [if_pos (by omega),if_pos (by omega),show 2*i / 2=i by omega] at this;exact this
 have h3:=hs.1;have h4:=hs.2;rw [aId h.gr (u9 h.dist hc) hd (i:=2*(p (b i)).1 - 2*x - 1) (j:=2*x+1 - 2*(p (a i)).1) (P:=((2*(p (b i)).1 - 2*x - 1)*(p (a i)).1+(2*x+1 - 2*(p (a i)).1)*(p (b i)).1,(2*(p (b i)).1 - 2*x - 1)*(p (a i)).2+(2*x+1 - 2*(p (a i)).1)*(p (b i)).2)) (by omega) (by omega) rfl rfl (U:=(0,1)) (by unfold bI dd;simp only;omega),IG h.dist];unfold S4;rw [← R6];exact bA fun k hk=>by
  rw [aM5 hs (hx k hk) rfl rfl];by_cases g:jV p a b x k∧ML p a b x i k
  ·rw [if_pos g,if_pos g];omega
  rw [if_neg g,if_neg g];omega
theorem G5 (hc:∀ g:Nat→Int,sN (fun i=>c i*(g (b i) - g (a i))) nE=0)(hx:∀ i,i<nE→(p (a i)).1≤(p (b i)).1)(x:Int):sN (fun k=>if jV p a b x k then c k else 0) nE=0:=by
 refine Eq.trans ?_ (hc fun v=>if (p v).1≤x then 0 else 1);exact bA fun k hk=>by
  have:=hx k hk;show (if (p (a k)).1≤x∧x<(p (b k)).1 then c k else 0)=_;by_cases g1:(p (a k)).1≤x <;> by_cases g2:(p (b k)).1≤x
  ·rw [if_neg (by omega),if_pos g1,if_pos g2];simp
  ·rw [if_pos (by omega),if_pos g1,if_neg g2];simp
  ·exact absurd g2 (by omega)
  rw [if_neg (by omega),if_neg g1,if_neg g2];simp
theorem aEv {P:Pq}{k:Nat}(hk:(p (a k)).1≤(p (b k)).1):wn (0,-1) 1 P (r7 p a b k)=if jV p a b P.1 k∧0<aL (p (a k)) (p (b k)) P then 1 else 0:=by
 unfold wn r7;simp only;have eA:∀ z:Pq,bI (0,-1) (vec 1 P z)=z.1 - P.1:=fun z=>(by unfold bI vec;simp only;omega);have eC:bI (vec 1 P (p (a k))) (vec 1 P (p (b k)))=aL (p (a k)) (p (b k)) P:=(by unfold bI vec aL;simp only;grind);rw [eA,eA,eC];unfold rI jV;by_cases g:(p (a k)).1≤P.1∧P.1<(p (b k)).1
 ·rw [if_pos (by omega)];by_cases g2:0<aL (p (a k)) (p (b k)) P
  ·rw [if_pos g2,if_pos ⟨g,g2⟩]
  rw [if_neg g2,if_neg (fun h=>g2 h.2)]
 rw [if_neg (by omega),if_neg (by omega),if_neg (fun h=>g h.1)]
theorem aJb (h:Mp p a b nx nV nE)(hx:∀ i,i<nE→(p (a i)).1≤(p (b i)).1)(hc:∀ g:Nat→Int,sN (fun i=>c i*(g (b i) - g (a i))) nE=0){P:Pq}(hoff:∀ i,i<nE→R0 1 P (r7 p a b i)) :
  sN (fun k=>if jV p a b P.1 k∧0<aL (p (a k)) (p (b k)) P then c k else 0) nE=sN (fun k=>c k*wn (1,0) 1 P (r7 p a b k)) nE:=by
 have hC:=u9 (p:=p) h.dist hc;have:=XW hC (N:=1) (by decide) (p:=P) (U:=(0,-1)) (U':=(1,0)) (by decide) fun e he=>by
  obtain⟨i,hi,rfl⟩:=List.mem_map.1 he;exact hoff i (List.mem_range.1 hi)
 rw [IG h.dist,IG h.dist] at this;rw [← this];exact bA fun k hk=>by
  rw [aEv (hx k hk)];by_cases g:jV p a b P.1 k∧0<aL (p (a k)) (p (b k)) P
  ·rw [if_pos g,if_pos g];omega
  rw [if_neg g,if_neg g];omega
end Go.Aw
end

noncomputable section
namespace Go.Aw
variable {p:Nat→Pq}{a b:Nat→Nat}{nE:Nat}{c:Nat→Int}
theorem BM {f:Nat→Int}:∀ {n:Nat},(∀ i,i<n→0≤f i)→0≤sN f n
 |0,_=>Int.le_refl _
 |n+1,h=>by
  have:=BM (f:=f) (n:=n) fun i hi=>h i (by omega);have:=h n (by omega);rw [sN];omega
theorem F4 (k:Int)(f:Nat→Int):∀ n,sN (fun i=>k*f i) n=k*sN f n
 |0=>by rw [sN,sN,Int.mul_zero]
 |n+1=>by rw [sN,sN,F4 k f n,Int.mul_add]
theorem NN (P:Nat→Prop)(H:Nat→Int):∀ n,(∃ j,j<n∧P j)→∃ j,j<n∧P j∧∀ i,i<n→P i→H i≤H j
 |0,⟨j,h,_⟩=>by omega
 |n+1,⟨j,h,hj⟩=>by
  by_cases hn:P n
  ·by_cases hk:∃ j,j<n∧P j
   ·obtain⟨k,k1,k2,k3⟩:=NN P H n hk;by_cases hle:H n≤H k
    ·refine⟨k,by omega,k2,fun i hi hp=>?_⟩;by_cases e:i=n
     ·rw [e];exact hle
     exact k3 i (by omega) hp
    refine⟨n,by omega,hn,fun i hi hp=>?_⟩;by_cases e:i=n
    ·rw [e];exact Int.le_refl _
    have:=k3 i (by omega) hp;omega
   refine⟨n,by omega,hn,fun i hi hp=>?_⟩;by_cases e:i=n
   ·rw [e];exact Int.le_refl _
   exact absurd ⟨i,by omega,hp⟩ hk
  have hjn:j<n:=by
   by_cases e:j=n
   ·rw [e] at hj;exact absurd hj hn
   omega
  obtain⟨k,k1,k2,k3⟩:=NN P H n ⟨j,hjn,hj⟩;refine⟨k,by omega,k2,fun i hi hp=>?_⟩;by_cases e:i=n
  ·rw [e] at hp;exact absurd hp hn
  exact k3 i (by omega) hp
theorem aGF {H:Int}:∀ (B:Nat),0≤H→(sN (fun t:Nat=>if (t:Int)<H then 1 else 0) B)=if H≤B then H else B
 |0,h=>by
  rw [sN];split <;> omega
 |B+1,h=>by
  rw [sN,aGF B h];split <;> split <;> split <;> omega
def wdN (p:Nat→Pq)(a b:Nat→Nat):Nat→Int
 |0=>1
 |k+1=>wdN p a b k*(if 0<eU p a b k then 2*eU p a b k else 1)
theorem LY:∀ n,0<wdN p a b n
 |0=>Int.one_pos
 |n+1=>by
  have:=LY n;rw [wdN];split
  ·exact Int.mul_pos this (by omega)
  omega
theorem MU:∀ n k,k<n→0<eU p a b k→∃ w,0<w∧wdN p a b n=2*eU p a b k*w
 |0,k,h,_=>by omega
 |n+1,k,h,hd=>by
  by_cases e:k=n
  ·subst e;refine⟨wdN p a b k,LY k,?_⟩;rw [wdN,if_pos hd,Int.mul_comm]
  obtain⟨w,w1,w2⟩:=MU n k (by omega) hd;rw [wdN,w2];split
  ·exact⟨w*(2*eU p a b n),Int.mul_pos w1 (by omega),Int.mul_assoc _ _ _⟩
  exact⟨w,w1,by rw [Int.mul_one]⟩
theorem aFI {x:Int}{i k:Nat}{T wi wk:Int}(hT:0<T)(h1:0<wi)(h2:T=2*eU p a b i*wi)(h3:0<wk)(h4:T=2*eU p a b k*wk):ML p a b x i k↔fQ p a b x i*wi<fQ p a b x k*wk:=by
 unfold ML;generalize fQ p a b x i=X at *;generalize fQ p a b x k=Y at *;generalize 2*eU p a b i=u at *;generalize 2*eU p a b k=v at *;have hw:0<wi*wk:=Int.mul_pos h1 h3;have e1:X*v*(wi*wk)=X*wi*T:=(by rw [h4];grind);have e2:Y*u*(wi*wk)=Y*wk*T:=(by rw [h2];grind);constructor
 ·intro h;have:=Int.mul_lt_mul_of_pos_right h hw;rw [e1,e2] at this;exact Int.lt_of_mul_lt_mul_right this (Int.le_of_lt hT)
 intro h;have:=Int.mul_lt_mul_of_pos_right h hT;rw [← e1,← e2] at this;exact Int.lt_of_mul_lt_mul_right this (Int.le_of_lt hw)
theorem num_nonneg (hn:∀ i,i<nE→0≤(p (a i)).2∧0≤(p (b i)).2){x:Int}{i:Nat}(hi:i<nE)(hs:jV p a b x i):0≤fQ p a b x i:=by
 obtain⟨h1,h2⟩:=hs;have h3:=hn i hi;have e:fQ p a b x i=(2*(p (b i)).1 - 2*x - 1)*(p (a i)).2+(2*x+1 - 2*(p (a i)).1)*(p (b i)).2:=(by unfold fQ eU;grind);rw [e];have m1:=Int.mul_nonneg (show 0≤2*(p (b i)).1 - 2*x - 1 by omega) h3.1;have m2:=Int.mul_nonneg (show 0≤2*x+1 - 2*(p (a i)).1 by omega) h3.2;omega
theorem aEA (hx:∀ i,i<nE→(p (a i)).1≤(p (b i)).1)(hn:∀ i,i<nE→0≤(p (a i)).2∧0≤(p (b i)).2)(hc:∀ g:Nat→Int,sN (fun i=>c i*(g (b i) - g (a i))) nE=0){x:Int}(hup:∀ i,i<nE→jV p a b x i→0≤S4 p a b nE c x i)
  {T:Int} {w:Nat→Int} (hT:0<T) (hw:∀ i,i<nE→0<eU p a b i→0<w i∧T=2*eU p a b i*w i):0≤sN (fun i=>if jV p a b x i then c i*(fQ p a b x i*w i) else 0) nE:=by
 have hd:∀ {i},jV p a b x i→0<eU p a b i:=fun {i} h=>(by have:=h.1;have:=h.2;unfold eU;omega);have hH:∀ i,i<nE→jV p a b x i→0≤fQ p a b x i*w i:=fun i hi hs=>Int.mul_nonneg (num_nonneg hn hi hs) (Int.le_of_lt (hw i hi (hd hs)).1);obtain⟨H,hHd⟩:∃ H:Nat→Int,H=fun i=>fQ p a b x i*w i:=⟨_,rfl⟩;obtain⟨B,hB⟩:∃ B:Nat,∀ i,i<nE→H i≤B:=by
  clear hup hw hH hd hn hx hc
  induction nE with
  |zero=>exact⟨0,fun i hi=>by omega⟩
  |succ k ih =>
   obtain⟨B,h⟩:=ih;refine⟨B+(H k).toNat,fun i hi=>?_⟩;by_cases e:i=k
   ·subst e;omega
   have:=h i (by omega);omega
 have e1:sN (fun i=>if jV p a b x i then c i*(fQ p a b x i*w i) else 0) nE=sN (fun i=>sN (fun t:Nat=>if jV p a b x i∧(t:Int)<H i then c i else 0) B) nE:=bA fun i hi=>by
  by_cases g:jV p a b x i
  ·rw [if_pos g];have:sN (fun t:Nat=>if jV p a b x i∧(t:Int)<H i then c i else 0) B=sN (fun t:Nat=>c i*(if (t:Int)<H i then 1 else 0)) B:=bA fun t _=>by
    by_cases g2:(t:Int)<H i
    ·rw [if_pos ⟨g,g2⟩,if_pos g2,Int.mul_one]
    rw [if_neg (fun h=>g2 h.2),if_neg g2,Int.mul_zero]
   have h0:0≤H i:=(by rw [hHd];exact hH i hi g);rw [this,F4,aGF B h0,if_pos (hB i hi),hHd]
  rw [if_neg g];have:sN (fun t:Nat=>if jV p a b x i∧(t:Int)<H i then c i else 0) B=sN (fun _=>0) B:=bA fun t _=>if_neg (fun h=>g h.1);rw [this,vJ]
 rw [e1,yH (fun i t=>if jV p a b x i∧(t:Int)<H i then c i else 0) B nE];refine BM fun t _=>?_;by_cases hk:∃ j,j<nE∧(jV p a b x j∧H j≤t)
 ·obtain⟨j,j1,⟨j2,j3⟩,j4⟩:=NN (fun j=>jV p a b x j∧H j≤t) H nE hk;have:sN (fun i=>if jV p a b x i∧(t:Int)<H i then c i else 0) nE=S4 p a b nE c x j:=bA fun i hi=>by
   by_cases g:jV p a b x i
   ·have ha:=aFI (x:=x) hT (hw j j1 (hd j2)).1 (hw j j1 (hd j2)).2 (hw i hi (hd g)).1 (hw i hi (hd g)).2;have hk2:(t:Int)<H i↔ML p a b x j i:=by
     rw [ha];have hHj:H j=fQ p a b x j*w j:=(by rw [hHd]);have hHi:H i=fQ p a b x i*w i:=(by rw [hHd]);rw [← hHj,← hHi];constructor
     ·intro h;omega
     intro h;refine Int.not_le.1 fun hle=>?_;have:=j4 i hi ⟨g,hle⟩;omega
    by_cases g2:(t:Int)<H i
    ·rw [if_pos ⟨g,g2⟩,if_pos ⟨g,hk2.1 g2⟩]
    rw [if_neg (fun h=>g2 h.2),if_neg (fun h=>g2 (hk2.2 h.2))]
   rw [if_neg (fun h=>g h.1),if_neg (fun h=>g h.1)]
  rw [this];exact hup j j1 j2
 have:sN (fun i=>if jV p a b x i∧(t:Int)<H i then c i else 0) nE=sN (fun i=>if jV p a b x i then c i else 0) nE:=bA fun i hi=>by
  by_cases g:jV p a b x i
  ·rw [if_pos g,if_pos ⟨g,Int.not_le.1 fun h=>hk ⟨i,hi,g,h⟩⟩]
  rw [if_neg g,if_neg (fun h=>g h.1)]
 rw [this,G5 hc hx];exact Int.le_refl _
theorem VZ {i:Nat}(hx:(p (a i)).1≤(p (b i)).1)(h0:0≤(p (a i)).1):∀ X:Nat,sN (fun x:Nat=>if jV p a b x i then fQ p a b x i else 0) X =
  if (X:Int)≤(p (a i)).1 then 0 else if (X:Int)≤(p (b i)).1 then 2*eU p a b i*(p (a i)).2*(X - (p (a i)).1)+((p (b i)).2 - (p (a i)).2)*((X - (p (a i)).1)*(X - (p (a i)).1)) else 2*eU p a b i*(p (a i)).2*eU p a b i+((p (b i)).2 - (p (a i)).2)*(eU p a b i*eU p a b i)
 |0=>by rw [sN,if_pos (by omega)]
 |X+1=>by
  rw [sN,VZ hx h0 X];have es:jV p a b (X:Int) i↔(p (a i)).1≤X∧(X:Int)<(p (b i)).1:=Iff.rfl;have ec:((X+1:Nat):Int)=(X:Int)+1:=(by omega);rw [ec];by_cases g1:(X:Int)<(p (a i)).1
  ·rw [if_pos (by omega),if_neg (by rw [es];omega),if_pos (by omega)];rfl
  by_cases g2:(X:Int)<(p (b i)).1
  ·rw [if_pos (show jV p a b (X:Int) i from es.2 ⟨by omega,g2⟩),if_neg (show ¬ ((X:Int)+1≤(p (a i)).1) by omega),if_pos (show (X:Int)+1≤(p (b i)).1 by omega)];unfold fQ;by_cases g3:(X:Int)≤(p (a i)).1
   ·have e:(p (a i)).1=X:=(by omega);rw [if_pos g3,e]
    grind
   rw [if_neg g3,if_pos (by omega)]
   grind
  rw [if_neg (show ¬ jV p a b (X:Int) i by rw [es];omega)];by_cases g3:(p (a i)).1=(p (b i)).1
  ·have hd:eU p a b i=0:=(by unfold eU;omega);rw [hd];by_cases g4:(X:Int)≤(p (a i)).1
   ·rw [if_pos g4,if_neg (by omega),if_neg (by omega)];simp
   rw [if_neg g4,if_neg (by omega),if_neg (by omega),if_neg (by omega)];simp
  rw [if_neg (by omega),if_neg (show ¬ ((X:Int)+1≤(p (a i)).1) by omega),if_neg (show ¬ ((X:Int)+1≤(p (b i)).1) by omega)];by_cases g4:(X:Int)≤(p (b i)).1
  ·have e:(X:Int)=(p (b i)).1:=(by omega);rw [if_pos g4,e,Int.add_zero];rfl
  rw [if_neg g4,Int.add_zero]
def IV (u v:Pq):Int:=u.1*v.2 - v.1*u.2
theorem aFC (hx:∀ i,i<nE→(p (a i)).1≤(p (b i)).1)(hn:∀ i,i<nE→0≤(p (a i)).2∧0≤(p (b i)).2)(h0:∀ i,i<nE→0≤(p (a i)).1)(hc:∀ g:Nat→Int,sN (fun i=>c i*(g (b i) - g (a i))) nE=0)
  (hup:∀ (x:Int) i,i<nE→jV p a b x i→0≤S4 p a b nE c x i):sN (fun i=>c i*IV (p (a i)) (p (b i))) nE≤0:=by
 obtain⟨T,hTd⟩:∃ T,T=wdN p a b nE:=⟨_,rfl⟩;have hT:0<T:=(by rw [hTd];exact LY nE);obtain⟨w,hw⟩:∃ w:Nat→Int,∀ i,i<nE→0<eU p a b i→0<w i∧T=2*eU p a b i*w i :=
  ⟨fun i=>if h:i<nE∧0<eU p a b i then (MU nE i h.1 h.2).choose else 0,fun i h1 h2=>by
   simp only [dif_pos (And.intro h1 h2)];rw [hTd];exact (MU nE i h1 h2).choose_spec⟩
 obtain⟨X,hX⟩:∃ X:Nat,∀ i,i<nE→(p (b i)).1<X:=by
  clear hup hw hn hx hc h0 hTd
  induction nE with
  |zero=>exact⟨0,fun i hi=>by omega⟩
  |succ k ih =>
   obtain⟨B,h⟩:=ih;refine⟨B+(p (b k)).1.toNat+1,fun i hi=>?_⟩;by_cases e:i=k
   ·subst e;omega
   have:=h i (by omega);omega
 have h1:0≤sN (fun x:Nat=>sN (fun i=>if jV p a b x i then c i*(fQ p a b x i*w i) else 0) nE) X:=BM fun x _=>aEA hx hn hc (hup x) hT hw;rw [yH (fun (x:Nat) i=>if jV p a b x i then c i*(fQ p a b x i*w i) else 0) nE X] at h1;have h2:2*sN (fun i=>sN (fun x:Nat=>if jV p a b x i then c i*(fQ p a b x i*w i) else 0) X) nE=sN (fun i=>T*(c i*(eU p a b i*((p (a i)).2+(p (b i)).2)))) nE:=by
  rw [← F4];refine bA fun i hi=>?_;have e1:sN (fun x:Nat=>if jV p a b x i then c i*(fQ p a b x i*w i) else 0) X=c i*w i*sN (fun x:Nat=>if jV p a b x i then fQ p a b x i else 0) X:=by
   rw [← F4];refine bA fun x _=>?_;by_cases g:jV p a b (x:Int) i
   ·rw [if_pos g,if_pos g];grind
   rw [if_neg g,if_neg g,Int.mul_zero]
  have hi1:=hx i hi;have hi2:=hX i hi;have hi3:=h0 i hi;rw [e1,VZ hi1 hi3 X,if_neg (by omega),if_neg (by omega)];by_cases g:0<eU p a b i
  ·have:=(hw i hi g).2;rw [this]
   grind
  have hd:eU p a b i=0:=(by unfold eU at g ⊢;omega);rw [hd];simp
 rw [F4] at h2;have h3:sN (fun i=>c i*IV (p (a i)) (p (b i))) nE = -sN (fun i=>c i*(eU p a b i*((p (a i)).2+(p (b i)).2))) nE:=by
  have e:=hc fun v=>(p v).1*(p v).2;have:sN (fun i=>c i*((p (b i)).1*(p (b i)).2 - (p (a i)).1*(p (a i)).2)) nE=sN (fun i=>c i*IV (p (a i)) (p (b i))+c i*(eU p a b i*((p (a i)).2+(p (b i)).2))) nE:=bA fun i _=>(by unfold IV eU;grind);rw [this,F5] at e;omega
 rw [h3];refine Int.neg_nonpos_of_nonneg (Int.not_lt.1 fun g=>?_);have:=Int.mul_neg_of_pos_of_neg hT g;omega
end Go.Aw
end

noncomputable section
namespace Go.Aw
variable {p:Nat→Pq}{a b nx:Nat→Nat}{nV nE:Nat}{c:Nat→Int}
def hN (p:Nat→Pq)(a b:Nat→Nat)(t:Int)(i:Nat):Int:=2*eU p a b i*(p (a i)).2+((p (b i)).2 - (p (a i)).2)*(t - 2*(p (a i)).1)
theorem aFk {x t:Int}{i k:Nat}(hok:okP (r7 p a b i) (r7 p a b k))(hi:jV p a b x i)(hk:jV p a b x k)(ht:t=2*x∨t=2*x+2)(h1:hN p a b t i*eU p a b k<hN p a b t k*eU p a b i):fQ p a b x i*eU p a b k<fQ p a b x k*eU p a b i:=by
 refine Int.not_le.1 fun h2=>?_;have di:0<eU p a b i:=(by have:=hi.1;have:=hi.2;unfold eU;omega);have dk:0<eU p a b k:=(by have:=hk.1;have:=hk.2;unfold eU;omega);obtain⟨B,hB⟩:∃ B,B=hN p a b t k*eU p a b i - hN p a b t i*eU p a b k:=⟨_,rfl⟩;obtain⟨A,hA⟩:∃ A,A=fQ p a b x i*eU p a b k - fQ p a b x k*eU p a b i:=⟨_,rfl⟩;have hB0:0<B:=(by omega);have hA0:0≤A:=(by omega);obtain⟨τ,hτ⟩:∃ τ,τ=t*A+(2*x+1)*B:=⟨_,rfl⟩;have i1:=hi.1;have i2:=hi.2;have k1:=hk.1;have k2:=hk.2
 -- the place where they meet
 have lowT:2*x*(A+B)≤τ∧τ≤(2*x+2)*(A+B):=by
  rcases ht with rfl|rfl
  ·constructor
   ·rw [hτ];have:(2*x+1)*B=2*x*B+B:=(by grind);have e:2*x*(A+B)=2*x*A+2*x*B:=Int.mul_add _ _ _;omega
   rw [hτ];have:(2*x+1)*B=2*x*B+B:=(by grind);have e:(2*x+2)*(A+B)=2*x*A+2*x*B+2*A+2*B:=(by grind);omega
  constructor
  ·rw [hτ];have:(2*x+1)*B=2*x*B+B:=(by grind);have e:2*x*(A+B)=2*x*A+2*x*B:=Int.mul_add _ _ _;have e2:(2*x+2)*A=2*x*A+2*A:=(by grind);omega
  rw [hτ];have:(2*x+1)*B=2*x*B+B:=(by grind);have e:(2*x+2)*(A+B)=(2*x+2)*A+2*x*B+2*B:=(by grind);omega
 have hS:0<A+B:=(by omega);have wgt:∀ {y:Int},y≤x→0≤τ - 2*y*(A+B):=fun {y} hy=>by
  have:=Int.mul_le_mul_of_nonneg_right (show 2*y≤2*x by omega) (Int.le_of_lt hS);omega
 have wgt2:∀ {y:Int},x<y→0≤2*y*(A+B) - τ:=fun {y} hy=>by
  have:=Int.mul_le_mul_of_nonneg_right (show 2*x+2≤2*y by omega) (Int.le_of_lt hS);omega
 have hYd:eU p a b i*(A*hN p a b t k+B*fQ p a b x k)=eU p a b k*(A*hN p a b t i+B*fQ p a b x i):=by
  have e1:A*(hN p a b t k*eU p a b i - hN p a b t i*eU p a b k)+B*(fQ p a b x k*eU p a b i - fQ p a b x i*eU p a b k)=A*B+B*(-A):=(by rw [← hB,hA];grind);have e2:A*B+B*(-A)=0:=(by grind);rw [e2] at e1;clear hB hA hτ lowT wgt wgt2 hok
  grind
 obtain⟨z,z1,z2,z3,z4⟩:=hok (2*eU p a b i*(2*eU p a b k)*(A+B)) (2*eU p a b k*eU p a b i*τ) (2*eU p a b k*(A*hN p a b t i+B*fQ p a b x i))
  (Int.mul_pos (Int.mul_pos (by omega) (by omega)) hS)
  ⟨2*eU p a b k*(2*(p (b i)).1*(A+B) - τ),2*eU p a b k*(τ - 2*(p (a i)).1*(A+B)),Int.mul_nonneg (by omega) (wgt2 i2),Int.mul_nonneg (by omega) (wgt i1),by unfold eU;grind,
   by show _=_*(p (a i)).1+_*(p (b i)).1;unfold eU;grind,
   by show _=_*(p (a i)).2+_*(p (b i)).2;rw [hτ];unfold hN fQ eU;grind⟩
  ⟨2*eU p a b i*(2*(p (b k)).1*(A+B) - τ),2*eU p a b i*(τ - 2*(p (a k)).1*(A+B)),Int.mul_nonneg (by omega) (wgt2 k2),Int.mul_nonneg (by omega) (wgt k1),by unfold eU;grind,
   by show _=_*(p (a k)).1+_*(p (b k)).1;unfold eU;grind,
   by
    show _=_*(p (a k)).2+_*(p (b k)).2;have:2*eU p a b k*(A*hN p a b t i+B*fQ p a b x i)=2*(eU p a b i*(A*hN p a b t k+B*fQ p a b x k)):=(by rw [hYd];grind);rw [this,hτ];unfold hN fQ eU;grind⟩
 have e1:2*eU p a b i*eU p a b k*τ=2*eU p a b i*eU p a b k*(2*(A+B)*z.1):=by
  have r1:∀ u v w:Int,2*u*v*w=2*v*u*w:=fun u v w=>(by grind);have r2:∀ u v w y:Int,2*u*(2*v)*w*y=2*u*v*(2*w*y):=fun u v w y=>(by grind);rw [r1,z3,r2]
 have e2:=Int.eq_of_mul_eq_mul_left (Int.ne_of_gt (Int.mul_pos (show 0<2*eU p a b i by omega) dk)) e1;clear z4 z3 hYd e1 hok wgt wgt2 lowT;rcases ht with rfl|rfl
 ·have e3:2*(A+B)*(z.1 - x)=B:=(by rw [Int.mul_sub,← e2,hτ];grind);rcases Int.lt_or_le 0 (z.1 - x) with g|g
  ·have:=Int.mul_le_mul_of_nonneg_left (show 1≤z.1 - x by omega) (show 0≤2*(A+B) by omega);omega
  have:=Int.mul_nonpos_of_nonneg_of_nonpos (show 0≤2*(A+B) by omega) g;omega
 have e3:2*(A+B)*(x+1 - z.1)=B:=(by rw [Int.mul_sub,← e2,hτ];grind);rcases Int.lt_or_le 0 (x+1 - z.1) with g|g
 ·have:=Int.mul_le_mul_of_nonneg_left (show 1≤x+1 - z.1 by omega) (show 0≤2*(A+B) by omega);omega
 have:=Int.mul_nonpos_of_nonneg_of_nonpos (show 0≤2*(A+B) by omega) g;omega
def LN (p:Nat→Pq)(a b:Nat→Nat)(nE:Nat)(c:Nat→Int)(d:Nat):Int:=Ld (gN p a b nE) (chN p a b nE c) (p (qP a b d)) (p (eP a b d))
theorem aLs (h:Mp p a b nx nV nE)(hmeet:∀ d,d<2*nE→p (qP a b (nx d))=p (eP a b d))
  (hsoon:∀ d x,d<2*nE→x<2*nE→p (qP a b x)=p (eP a b d)→¬ X5 (p (eP a b d)) (p (qP a b d)) (p (eP a b x)) (p (eP a b (nx d)))) (hc:∀ g:Nat→Int,sN (fun i=>c i*(g (b i) - g (a i))) nE=0) {d:Nat} (hd:d<2*nE) :
  LN p a b nE c (nx d)=LN p a b nE c d:=by
 have hG:=h.gr;have hC:=u9 (p:=p) h.dist hc;have hn:=h.prm.lt d hd;have h1:=h.ad hd;have h2:=h.ad hn;unfold LN;rw [hmeet d hd] at h2;rw [hmeet d hd];refine (VV hG hC h1 h2 fun z hz=>?_).symm;obtain⟨x,hx,e1,e2⟩:=h.aCS hz;rw [← e2];exact hsoon d x hd hx e1
theorem VM (a b:Nat→Nat)(i:Nat):qP a b (2*i)=a i∧eP a b (2*i)=b i∧qP a b (2*i+1)=b i∧eP a b (2*i+1)=a i:=by
 unfold qP eP;rw [if_pos (by omega),if_pos (by omega),if_neg (by omega),if_neg (by omega),show 2*i / 2=i by omega,show (2*i+1) / 2=i by omega];exact⟨rfl,rfl,rfl,rfl⟩
theorem aDX (h:Mp p a b nx nV nE)(hc:∀ g:Nat→Int,sN (fun i=>c i*(g (b i) - g (a i))) nE=0){i:Nat}(hi:i<nE):LN p a b nE c (2*i) - LN p a b nE c (2*i+1)=c i:=by
 have hG:=h.gr;have hC:=u9 (p:=p) h.dist hc;have h1:=h.ad (d:=2*i) (by omega);have j:=WZ hG hC h1;obtain⟨e1,e2,e3,e4⟩:=VM a b i;unfold LN;rw [e1,e2,e3,e4];rw [e1,e2] at j;rw [j];exact VQ h.dist h.rev hi
theorem aJa (h:Mp p a b nx nV nE)(hx:∀ i,i<nE→(p (a i)).1≤(p (b i)).1)(hc:∀ g:Nat→Int,sN (fun i=>c i*(g (b i) - g (a i))) nE=0){x:Int}{i:Nat}(hi:i<nE)(hs:jV p a b x i):LN p a b nE c (2*i) = -S4 p a b nE c x i:=by
 obtain⟨e1,e2,_,_⟩:=VM a b i;unfold LN;rw [e1,e2];exact aD6 h hx hc hi hs
theorem aG5 {pv:Nat→Nat}(nx_lt:∀ d,d<2*nE→nx d<2*nE)(pv_lt:∀ d,d<2*nE→pv d<2*nE)(nxpv:∀ d,d<2*nE→nx (pv d)=d)(pvnx:∀ d,d<2*nE→pv (nx d)=d)
  (meet:∀ (g:Nat→Int) d,d<2*nE→(if d % 2=0 then g (b (d / 2)) else g (a (d / 2)))=(if nx d % 2=0 then g (a (nx d / 2)) else g (b (nx d / 2)))) {g:Nat→Int} (g_nx:∀ d,d<2*nE→g (nx d)=g d) (q:Nat→Int) :
  sN (fun i=>(g (2*i) - g (2*i+1))*(q (b i) - q (a i))) nE=0:=by
 have e1:sN (fun d=>g d*(if d % 2=0 then q (b (d / 2)) else q (a (d / 2)))) (2*nE)=sN (fun d=>g d*(if d % 2=0 then q (a (d / 2)) else q (b (d / 2)))) (2*nE):=by
  have:=aFe nx_lt pv_lt pvnx nxpv (fun d=>g d*(if d % 2=0 then q (a (d / 2)) else q (b (d / 2))));rw [← this];exact bA fun d hd'=>by
   rw [g_nx d hd',meet q d hd']
 rw [NL,NL] at e1;have e2:sN (fun i=>(g (2*i) - g (2*i+1))*(q (b i) - q (a i))) nE=sN (fun i=>g (2*i)*(if 2*i % 2=0 then q (b (2*i / 2)) else q (a (2*i / 2)))+g (2*i+1)*(if (2*i+1) % 2=0 then q (b ((2*i+1) / 2)) else q (a ((2*i+1) / 2)))) nE - sN (fun i=>g (2*i)*(if 2*i % 2=0 then q (a (2*i / 2)) else q (b (2*i / 2)))+g (2*i+1)*(if (2*i+1) % 2=0 then q (a ((2*i+1) / 2)) else q (b ((2*i+1) / 2)))) nE:=by
  rw [← aDc];exact bA fun i _=>by
   rw [if_pos (by omega),if_neg (by omega),if_pos (by omega),if_neg (by omega),show 2*i / 2=i by omega,show (2*i+1) / 2=i by omega]
   grind
 rw [e2,e1];omega
end Go.Aw
end
