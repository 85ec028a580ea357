/-
  Parts of a proof. No condition.
-/
import Derived.Test.YtmkcjbpekejgdaaGreatQAn
import Derived.Test.YtmkcjbpekejgdaaGreatQAr
import Derived.Test.YtmkcjbpekejgdaaGreatQAs
set_option linter.unusedSimpArgs false
set_option linter.unusedVariables false
namespace Go.Aw
def knownS (p:Int × Int):List (Int × Int)→Bool
 |[]=>false
 |q::r=>eqP q p || knownS p r
def addE (s t:Sg)(out:List (Int × Int))(p:Int × Int):List (Int × Int):=if onR p s=true∧onR p t=true∧knownS p out=false then out++[p] else out
def endsL (s t:Sg):List (Int × Int):=addE s t (addE s t (addE s t (addE s t [] s.1) s.2) t.1) t.2
theorem eqP_iff (a b:Int × Int):eqP a b=true↔a=b:=by
 obtain⟨a1,a2⟩:=a
 obtain⟨b1,b2⟩:=b
 simp [eqP]
theorem btw_inb (n a b:Int):btw n a b=true↔inb (b - a) (n - a):=by
 simp only [btw,inb,Bool.and_eq_true,decide_eq_true_eq]
 split <;> split <;> (try split) <;> (try split) <;> omega
theorem side_sc {ax ay bx b2 px py wx wy c d:Int}(hne:¬ (bx - ax=0∧b2 - ay=0))(h0:(bx - ax)*(py - ay) - (b2 - ay)*(px - ax)=0)
  (hc:c=wx*(ay - py) - wy*(ax - px)) (hd:d=wx*(b2 - py) - wy*(bx - px)) (hn:¬ (c=0∧d=0)):(btw px ax bx=true∧btw py ay b2=true)↔c*d≤0:=by
 have h:(bx - ax)*(py - ay)=(b2 - ay)*(px - ax):=by omega
 have p1:=par (wx:=wx) (wy:=wy) h
 have p2:=par (wx:=wy) (wy:=wx) h.symm
 have q1:wx*(py - ay) - wy*(px - ax) = -c:=by
  subst hc;simp only [Int.mul_sub];omega
 have q2:wy*(px - ax) - wx*(py - ay)=c:=by omega
 have r1:wx*(b2 - ay) - wy*(bx - ax)=d - c:=by
  subst hc hd;simp only [Int.mul_sub];omega
 have r2:wy*(bx - ax) - wx*(b2 - ay) = -(d - c):=by omega
 rw [q1,r1] at p1
 rw [q2,r2] at p2
 have p3:(b2 - ay)*(-c)=(py - ay)*(d - c):=by
  rw [Int.mul_neg,p2,Int.mul_neg,Int.neg_neg]
 rw [btw_inb,btw_inb,boxside hne h p1 p3 (by omega)]
 have:d - c - -c=d:=by omega
 rw [this,Int.neg_mul]
 omega
theorem sgn_mul (a b:Int):sgn a*sgn b≤0↔a*b≤0:=by
 unfold sgn
 by_cases a1:a<0 <;> by_cases a2:0<a <;> by_cases b1:b<0 <;> by_cases b2:0<b <;> simp only [a1,a2,b1,b2,if_true,if_false] <;>
  first
  |(exfalso;omega)
  |(have:=Int.mul_pos_of_neg_of_neg a1 b1;omega)
  |(have:=Int.mul_neg_of_neg_of_pos a1 b2;omega)
  |(have:=Int.mul_neg_of_pos_of_neg a2 b1;omega)
  |(have:=Int.mul_pos a2 b2;omega)
  |(have:a=0:=by omega
    subst this;simp)
  |(have:b=0:=by omega
    subst this;simp)
theorem cross_base (a b p q:Int × Int)(h:q=a∨q=b):crossI a b p=(b.1 - a.1)*(p.2 - q.2) - (b.2 - a.2)*(p.1 - q.1):=by
 rcases h with rfl|rfl
 ·rfl
 ·have e1:p.2 - a.2=(p.2 - q.2)+(q.2 - a.2):=by omega
  have e2:p.1 - a.1=(p.1 - q.1)+(q.1 - a.1):=by omega
  have e3:=Int.mul_comm (q.1 - a.1) (q.2 - a.2)
  rw [crossI,e1,e2,Int.mul_add,Int.mul_add]
  omega
theorem onR_side (s t:Sg)(p:Int × Int)(hp:p=t.1∨p=t.2)(hs:s.1≠s.2)(h0:turnS s.1 s.2 p=0)(hn:¬ (turnS t.1 t.2 s.1=0∧turnS t.1 t.2 s.2=0)) :
  onR p s=decide (turnS t.1 t.2 s.1*turnS t.1 t.2 s.2≤0):=by
 have k:=side_sc (wx:=t.2.1 - t.1.1) (wy:=t.2.2 - t.1.2) (px:=p.1) (py:=p.2) (ax:=s.1.1) (ay:=s.1.2) (bx:=s.2.1) (b2:=s.2.2) (by
  intro h;apply hs;exact Prod.ext (by omega) (by omega)) ((turn0 _ _ _).1 h0) (cross_base t.1 t.2 s.1 p hp) (cross_base t.1 t.2 s.2 p hp) (by
  rw [turn0,turn0] at hn;exact hn)
 rw [Bool.eq_iff_iff,decide_eq_true_eq]
 unfold turnS
 rw [sgn_mul,← k,onR,h0]
 simp
theorem onR_off (s:Sg)(p:Int × Int)(h0:turnS s.1 s.2 p≠0):onR p s=false:=by
 unfold onR
 simp [h0]
theorem onR_end (s:Sg)(p:Int × Int)(hp:p=s.1∨p=s.2):onR p s=true:=by
 have h0:turnS s.1 s.2 p=0:=by
  rw [turn0,crossI]
  rcases hp with rfl|rfl
  ·simp
  ·rw [Int.mul_comm];omega
 have hb:∀ a b:Int,btw a a b=true∧btw b a b=true:=by
  intro a b
  simp only [btw,Bool.and_eq_true,decide_eq_true_eq]
  split <;> split <;> omega
 unfold onR
 rw [h0]
 rcases hp with rfl|rfl
 ·simp [(hb _ _).1]
 ·simp [(hb _ _).2]
theorem same_line1 (s t:Sg)(p:Int × Int)(hp:p=t.1∨p=t.2)(ht:t.1≠t.2)(h1:turnS t.1 t.2 s.1=0)(h2:turnS t.1 t.2 s.2=0):turnS s.1 s.2 p=0:=by
 rw [turn0,cross_base t.1 t.2 _ p hp] at h1 h2
 have hw:¬ (t.2.1 - t.1.1=0∧t.2.2 - t.1.2=0):=by
  intro h;apply ht;exact Prod.ext (by omega) (by omega)
 have e1:(t.2.1 - t.1.1)*(s.2.2 - s.1.2)=(t.2.2 - t.1.2)*(s.2.1 - s.1.1):=by
  rw [show s.2.2 - s.1.2=(s.2.2 - p.2) - (s.1.2 - p.2) by omega,show s.2.1 - s.1.1=(s.2.1 - p.1) - (s.1.1 - p.1) by omega,Int.mul_sub,Int.mul_sub (t.2.2 - t.1.2)]
  omega
 have e2:(t.2.1 - t.1.1)*(p.2 - s.1.2)=(t.2.2 - t.1.2)*(p.1 - s.1.1):=by
  rw [show p.2 - s.1.2 = -(s.1.2 - p.2) by omega,show p.1 - s.1.1 = -(s.1.1 - p.1) by omega,Int.mul_neg,Int.mul_neg]
  omega
 have:=para hw e1 e2
 rw [turn0,crossI]
 omega
theorem same_line (s t:Sg)(ht:t.1≠t.2)(h:turnS t.1 t.2 s.1=0∧turnS t.1 t.2 s.2=0):turnS s.1 s.2 t.1=0∧turnS s.1 s.2 t.2=0 :=
 ⟨same_line1 s t _ (.inl rfl) ht h.1 h.2,same_line1 s t _ (.inr rfl) ht h.1 h.2⟩
theorem one_point (s t:Sg)(p q:Int × Int)(hp:p=s.1∨p=s.2)(hq:q=t.1∨q=t.2)(h1:turnS t.1 t.2 p=0)(h2:turnS s.1 s.2 q=0)(hn:¬ (turnS s.1 s.2 t.1=0∧turnS s.1 s.2 t.2=0)):p=q:=by
 rw [turn0,cross_base t.1 t.2 _ q hq] at h1
 have h2':=h2
 rw [turn0,cross_base s.1 s.2 _ p hp] at h2
 have hd:(s.2.1 - s.1.1)*(t.2.2 - t.1.2) - (s.2.2 - s.1.2)*(t.2.1 - t.1.1)≠0:=by
  intro hd
  apply hn
  have e0:crossI s.1 s.2 t.2=crossI s.1 s.2 t.1:=by
   rw [crossI,crossI,show t.2.2 - s.1.2=(t.2.2 - t.1.2)+(t.1.2 - s.1.2) by omega,show t.2.1 - s.1.1=(t.2.1 - t.1.1)+(t.1.1 - s.1.1) by omega,Int.mul_add,Int.mul_add]
   omega
  rw [turn0] at h2'
  rw [turn0,turn0,e0]
  rcases hq with rfl|rfl
  ·exact⟨h2',h2'⟩
  ·rw [← e0];exact⟨h2',h2'⟩
 have e2:(t.2.1 - t.1.1)*(q.2 - p.2)=(t.2.2 - t.1.2)*(q.1 - p.1):=by
  rw [show q.2 - p.2 = -(p.2 - q.2) by omega,show q.1 - p.1 = -(p.1 - q.1) by omega,Int.mul_neg,Int.mul_neg]
  omega
 have:=once hd (by omega) e2
 exact Prod.ext (by omega) (by omega)
def meetR (s t:Sg):Int:=match endsL s t with
 |[]=>if turnS s.1 s.2 t.1*turnS s.1 s.2 t.2<0∧turnS t.1 t.2 s.1*turnS t.1 t.2 s.2<0 then 3 else 0
 |[p]=>if (eqP p s.1=true∨eqP p s.2=true)∧(eqP p t.1=true∨eqP p t.2=true) then 1 else 2
 |_::_::_=>4
theorem eqP_f (a b:Int × Int):eqP a b=false↔a≠b:=by
 rw [ne_eq,← eqP_iff];simp
theorem meet_two (s t:Sg)(hs:s.1≠s.2)(ht:t.1≠t.2)(hn:¬ (turnS s.1 s.2 t.1=0∧turnS s.1 s.2 t.2=0)):meetS s t=meetR s t:=by
 have hn':¬ (turnS t.1 t.2 s.1=0∧turnS t.1 t.2 s.2=0):=fun h=>hn (same_line s t ht h)
 have b3:=fun h0=>onR_side s t t.1 (.inl rfl) hs h0 hn'
 have b4:=fun h0=>onR_side s t t.2 (.inr rfl) hs h0 hn'
 have b1:=fun h0=>onR_side t s s.1 (.inl rfl) ht h0 hn
 have b2:=fun h0=>onR_side t s s.2 (.inr rfl) ht h0 hn
 have f3:=onR_off s t.1
 have f4:=onR_off s t.2
 have f1:=onR_off t s.1
 have f2:=onR_off t s.2
 have o13:=one_point s t s.1 t.1 (.inl rfl) (.inl rfl)
 have o14:=one_point s t s.1 t.2 (.inl rfl) (.inr rfl)
 have o23:=one_point s t s.2 t.1 (.inr rfl) (.inl rfl)
 have o24:=one_point s t s.2 t.2 (.inr rfl) (.inr rfl)
 have g1:=onR_end s s.1 (.inl rfl)
 have g2:=onR_end s s.2 (.inr rfl)
 have g3:=onR_end t t.1 (.inl rfl)
 have g4:=onR_end t t.2 (.inr rfl)
 have z1:turnS s.1 s.2 s.1=0:=by rw [turn0,crossI];simp
 have z2:turnS s.1 s.2 s.2=0:=by rw [turn0,crossI,Int.mul_comm];omega
 have z3:turnS t.1 t.2 t.1=0:=by rw [turn0,crossI];simp
 have z4:turnS t.1 t.2 t.2=0:=by rw [turn0,crossI,Int.mul_comm];omega
 have rf:∀ p,eqP p p=true:=fun p=>(eqP_iff p p).2 rfl
 have n1:turnS s.1 s.2 t.1≠0→eqP s.1 t.1=false∧eqP s.2 t.1=false∧eqP t.1 s.1=false∧eqP t.1 s.2=false:=fun h=>by
  rw [eqP_f,eqP_f,eqP_f,eqP_f]
  exact⟨fun e=>h (e▸z1),fun e=>h (by rw [← e];exact z2),fun e=>h (e▸z1),fun e=>h (by rw [e];exact z2)⟩
 have n2:turnS s.1 s.2 t.2≠0→eqP s.1 t.2=false∧eqP s.2 t.2=false∧eqP t.2 s.1=false∧eqP t.2 s.2=false:=fun h=>by
  rw [eqP_f,eqP_f,eqP_f,eqP_f]
  exact⟨fun e=>h (e▸z1),fun e=>h (by rw [← e];exact z2),fun e=>h (e▸z1),fun e=>h (by rw [e];exact z2)⟩
 have n3:turnS t.1 t.2 s.1≠0→eqP s.1 t.1=false∧eqP s.1 t.2=false∧eqP t.1 s.1=false∧eqP t.2 s.1=false:=fun h=>by
  rw [eqP_f,eqP_f,eqP_f,eqP_f]
  exact⟨fun e=>h (by rw [e];exact z3),fun e=>h (by rw [e];exact z4),fun e=>h (by rw [← e];exact z3),fun e=>h (by rw [← e];exact z4)⟩
 have n4:turnS t.1 t.2 s.2≠0→eqP s.2 t.1=false∧eqP s.2 t.2=false∧eqP t.1 s.2=false∧eqP t.2 s.2=false:=fun h=>by
  rw [eqP_f,eqP_f,eqP_f,eqP_f]
  exact⟨fun e=>h (by rw [e];exact z3),fun e=>h (by rw [e];exact z4),fun e=>h (by rw [← e];exact z3),fun e=>h (by rw [← e];exact z4)⟩
 have o13':turnS t.1 t.2 s.1=0→turnS s.1 s.2 t.1=0→eqP s.1 t.1=true∧eqP t.1 s.1=true:=fun h h'=>by
  have:=o13 h h' hn;rw [eqP_iff,eqP_iff];exact⟨this,this.symm⟩
 have o14':turnS t.1 t.2 s.1=0→turnS s.1 s.2 t.2=0→eqP s.1 t.2=true∧eqP t.2 s.1=true:=fun h h'=>by
  have:=o14 h h' hn;rw [eqP_iff,eqP_iff];exact⟨this,this.symm⟩
 have o23':turnS t.1 t.2 s.2=0→turnS s.1 s.2 t.1=0→eqP s.2 t.1=true∧eqP t.1 s.2=true:=fun h h'=>by
  have:=o23 h h' hn;rw [eqP_iff,eqP_iff];exact⟨this,this.symm⟩
 have o24':turnS t.1 t.2 s.2=0→turnS s.1 s.2 t.2=0→eqP s.2 t.2=true∧eqP t.2 s.2=true:=fun h h'=>by
  have:=o24 h h' hn;rw [eqP_iff,eqP_iff];exact⟨this,this.symm⟩
 clear o13 o14 o23 o24 z1 z2 z3 z4
 unfold meetS
 rw [if_neg hn]
 generalize hA:turnS s.1 s.2 t.1=A at *
 generalize hB:turnS s.1 s.2 t.2=B at *
 generalize hC:turnS t.1 t.2 s.1=C at *
 generalize hD:turnS t.1 t.2 s.2=D at *
 unfold meetR endsL
 rw [hA,hB,hC,hD]
 by_cases h:0<A*B∨0<C*D
 ·have p3:onR t.1 s=false:=by
   by_cases h0:A=0
   ·rw [b3 h0,decide_eq_false_iff_not];subst h0;simp at h;omega
   ·exact f3 h0
  have p4:onR t.2 s=false:=by
   by_cases h0:B=0
   ·rw [b4 h0,decide_eq_false_iff_not];subst h0;simp at h;omega
   ·exact f4 h0
  have p1:onR s.1 t=false:=by
   by_cases h0:C=0
   ·rw [b1 h0,decide_eq_false_iff_not];subst h0;simp at h;omega
   ·exact f1 h0
  have p2:onR s.2 t=false:=by
   by_cases h0:D=0
   ·rw [b2 h0,decide_eq_false_iff_not];subst h0;simp at h;omega
   ·exact f2 h0
  unfold kindS
  rw [if_pos h]
  simp only [addE,p1,p2,p3,p4,g1,g2,g3,g4,Bool.false_eq_true,false_and,and_false,if_false]
  rw [if_neg]
  omega
 ·have hAB:A*B≤0:=by omega
  have hCD:C*D≤0:=by omega
  simp only [hAB,hCD,decide_true] at b1 b2 b3 b4
  unfold kindS
  rw [if_neg h]
  by_cases a0:A=0 <;> by_cases b0:B=0 <;> by_cases c0:C=0 <;> by_cases d0:D=0 <;> simp only [a0,b0,c0,d0,not_true,not_false_eq_true,true_implies,false_implies,ne_eq,and_self,and_true,true_and,and_false,false_and] at hn hn' b1 b2 b3 b4 f1 f2 f3 f4 n1 n2 n3 n4 o13' o14' o23' o24'
  all_goals (simp only [addE,knownS,rf,g1,g2,g3,g4, *,or_self,or_true,true_or,and_self,if_true,Bool.false_eq_true,Bool.or_false,Bool.or_self,Bool.or_true,and_true,true_and,false_and,and_false,if_false,List.nil_append,or_false,false_or,Bool.true_eq_false])
  all_goals (try (simp only [rf, *,or_self,or_true,true_or,and_self,if_true,Bool.false_eq_true,and_true,true_and,false_and,and_false,if_false,or_false,false_or];done))
  have nAB:A*B≠0:=Int.mul_ne_zero a0 b0
  have nCD:C*D≠0:=Int.mul_ne_zero c0 d0
  rw [if_pos ⟨by omega,by omega⟩]
def key (p:Int × Int):Int:=p.1*100000+p.2
theorem ord_key {a b:Int × Int}(ha:rightS a=true)(hb:rightS b=true):ordS a b=cmpI (key a) (key b):=by
 simp only [rightS,Bool.and_eq_true,decide_eq_true_eq] at ha hb
 obtain⟨a1,a2⟩:=a
 obtain⟨b1,b2⟩:=b
 simp only at ha hb
 unfold ordS orI cmpI key
 simp only
 by_cases h1:a1<b1
 ·rw [if_pos h1,if_pos (show a1*100000+a2<b1*100000+b2 by omega)];rfl
 ·by_cases h2:b1<a1
  ·rw [if_neg h1,if_pos h2,if_neg (show ¬ (a1*100000+a2<b1*100000+b2) by omega),if_pos (show b1*100000+b2<a1*100000+a2 by omega)];rfl
  ·rw [if_neg h1,if_neg h2,if_pos rfl]
   have:a1=b1:=by omega
   subst this
   by_cases h3:a2<b2
   ·rw [if_pos h3,if_pos (by omega)]
   ·rw [if_neg h3,if_neg (show ¬ (a1*100000+a2<a1*100000+b2) by omega)]
    by_cases h4:b2<a2
    ·rw [if_pos h4,if_pos (by omega)]
    ·rw [if_neg h4,if_neg (by omega)]
theorem eqP_key {a b:Int × Int}(ha:rightS a=true)(hb:rightS b=true):eqP a b=true↔key a=key b:=by
 simp only [rightS,Bool.and_eq_true,decide_eq_true_eq] at ha hb
 simp only [eqP,Bool.and_eq_true,decide_eq_true_eq,key,and_true]
 omega
theorem eqP_keyf {a b:Int × Int}(ha:rightS a=true)(hb:rightS b=true):eqP a b=false↔key a≠key b:=by
 rw [← Bool.not_eq_true,eqP_key ha hb]
theorem cmp_le (a b:Int):cmpI a b≤0↔a≤b:=by unfold cmpI;split <;> (try split) <;> omega
theorem cmp_lt (a b:Int):cmpI a b<0↔a<b:=by unfold cmpI;split <;> (try split) <;> omega
theorem cmp_gt (a b:Int):0<cmpI a b↔b<a:=by unfold cmpI;split <;> (try split) <;> omega
theorem tbl_cmp (a b:Int):tblS (cmpI a b)=if a<b then 4 else if a=b then 1 else 0:=by
 unfold tblS cmpI
 split
 ·rfl
 ·split
  ·rw [if_neg (by omega),if_neg (by omega),if_neg (by omega)]
  ·rw [if_neg (by omega),if_pos rfl,if_pos (by omega)]
theorem right_two {s:Sg}(h:rightG s=true):rightS s.1=true∧rightS s.2=true∧s.1≠s.2:=by
 simp only [rightG,Bool.and_eq_true,Bool.not_eq_true'] at h
 exact⟨h.1.1,h.1.2,(eqP_f _ _).1 h.2⟩
def kF (p1 p2 p3 p4 e13 e14 e23 e24:Bool):Int :=
 match p1,p2,p3&&!(p1&&e13)&&!(p2&&e23),p4&&!(p1&&e14)&&!(p2&&e24) with
 |false,false,false,false=>0
 |true,false,false,false=>if e13 || e14 then 1 else 2
 |false,true,false,false=>if e23 || e24 then 1 else 2
 |false,false,true,false=>if e13 || e23 then 1 else 2
 |false,false,false,true=>if e14 || e24 then 1 else 2
 |_,_,_,_=>4
set_option maxHeartbeats 2000000 in
theorem collK {k1 k2 k3 k4 a1 a2 b1 b2:Int}(ha:(k1<k2∧a1=k1∧a2=k2)∨(k2<k1∧a1=k2∧a2=k1))(hb:(k3<k4∧b1=k3∧b2=k4)∨(k4<k3∧b1=k4∧b2=k3)) :
  (if (if a1<b1 then b1 else a1)<(if b2<a2 then b2 else a2) then (4:Int) else if (if a1<b1 then b1 else a1)=(if b2<a2 then b2 else a2) then 1 else 0)
   = kF (decide (b1≤k1∧k1≤b2)) (decide (b1≤k2∧k2≤b2)) (decide (a1≤k3∧k3≤a2)) (decide (a1≤k4∧k4≤a2)) (decide (k1=k3)) (decide (k1=k4)) (decide (k2=k3)) (decide (k2=k4)):=by
 rcases ha with ⟨a,xa,ya⟩|⟨a,xa,ya⟩ <;> rcases hb with ⟨b,xb,yb⟩|⟨b,xb,yb⟩ <;>
 by_cases q1:b1≤k1∧k1≤b2 <;> by_cases q2:b1≤k2∧k2≤b2 <;> by_cases q3:a1≤k3∧k3≤a2 <;> by_cases q4:a1≤k4∧k4≤a2 <;> (try (exfalso;omega)) <;>
  by_cases u1:k1=k3 <;> (try (exfalso;omega)) <;> by_cases u2:k1=k4 <;> (try (exfalso;omega)) <;> by_cases u3:k2=k3 <;> (try (exfalso;omega)) <;> by_cases u4:k2=k4 <;> (try (exfalso;omega)) <;>
  (first|rw [decide_eq_true q1]|rw [decide_eq_false q1]) <;> (first|rw [decide_eq_true q2]|rw [decide_eq_false q2]) <;> (first|rw [decide_eq_true q3]|rw [decide_eq_false q3]) <;> (first|rw [decide_eq_true q4]|rw [decide_eq_false q4]) <;>
  (first|rw [decide_eq_true u1]|rw [decide_eq_false u1]) <;> (first|rw [decide_eq_true u2]|rw [decide_eq_false u2]) <;> (first|rw [decide_eq_true u3]|rw [decide_eq_false u3]) <;> (first|rw [decide_eq_true u4]|rw [decide_eq_false u4]) <;>
  simp only [kF,Bool.and_true,Bool.not_true,Bool.and_false,Bool.not_false,Bool.or_true,Bool.or_false,Bool.true_or,if_true,Bool.false_eq_true,if_false,Bool.true_and,Bool.false_and] <;> split <;> split <;> (try split) <;> (try split) <;> omega
theorem eqP_comm (a b:Int × Int):eqP a b=eqP b a:=by
 rw [Bool.eq_iff_iff,eqP_iff,eqP_iff];exact eq_comm
set_option maxHeartbeats 2000000 in
theorem meetR_kF (s t:Sg)(h:turnS s.1 s.2 t.1=0)(n12:eqP s.1 s.2=false)(n34:eqP t.1 t.2=false) :
  meetR s t=kF (onR s.1 t) (onR s.2 t) (onR t.1 s) (onR t.2 s) (eqP s.1 t.1) (eqP s.1 t.2) (eqP s.2 t.1) (eqP s.2 t.2):=by
 have g1:=onR_end s s.1 (.inl rfl)
 have g2:=onR_end s s.2 (.inr rfl)
 have g3:=onR_end t t.1 (.inl rfl)
 have g4:=onR_end t t.2 (.inr rfl)
 have rf:∀ p,eqP p p=true:=fun p=>(eqP_iff p p).2 rfl
 have n21:eqP s.2 s.1=false:=by rw [eqP_comm];exact n12
 have n43:eqP t.2 t.1=false:=by rw [eqP_comm];exact n34
 have c1:=eqP_comm t.1 s.1
 have c2:=eqP_comm t.1 s.2
 have c3:=eqP_comm t.2 s.1
 have c4:=eqP_comm t.2 s.2
 unfold meetR endsL
 simp only [h,addE,g1,g2,g3,g4,true_and]
 generalize onR s.1 t=p1
 generalize onR s.2 t=p2
 generalize onR t.1 s=p3
 generalize onR t.2 s=p4
 generalize he13:eqP s.1 t.1=e13 at *
 generalize he14:eqP s.1 t.2=e14 at *
 generalize he23:eqP s.2 t.1=e23 at *
 generalize he24:eqP s.2 t.2=e24 at *
 clear g1 g2 g3 g4 h
 generalize s.1=P1 at *
 generalize s.2=P2 at *
 generalize t.1=P3 at *
 generalize t.2=P4 at *
 cases p1 <;> cases p2 <;> cases p3 <;> cases p4 <;> simp only [knownS,rf,n12,n21,n34,n43,he13,he14,he23,he24,c1,c2,c3,c4,kF,Bool.false_eq_true,false_and,and_false,and_self,and_true,true_and,if_true,if_false,List.nil_append,Bool.or_false,Bool.false_or,Bool.true_and,Bool.false_and,or_true,true_or,or_false,false_or,Int.zero_mul,Int.lt_irrefl,Bool.not_false,Bool.or_true,Bool.true_or]
 all_goals (cases e13 <;> cases e14 <;> cases e23 <;> cases e24 <;> simp [knownS,rf,n12,n21,n34,n43,he13,he14,he23,he24,c1,c2,c3,c4,kF])
theorem meet_one (s t:Sg)(hs:rightG s=true)(ht:rightG t=true)(h:turnS s.1 s.2 t.1=0∧turnS s.1 s.2 t.2=0):meetS s t=meetR s t:=by
 obtain⟨r1,r2,ns⟩:=right_two hs
 obtain⟨r3,r4,nt⟩:=right_two ht
 have h':=same_line t s ns h
 have n12:key s.1≠key s.2:=(eqP_keyf r1 r2).1 ((eqP_f _ _).2 ns)
 have n34:key t.1≠key t.2:=(eqP_keyf r3 r4).1 ((eqP_f _ _).2 nt)
 have p3:onR t.1 s=betS t.1 s:=by rw [← on_eq _ _ hs,onS,h.1];simp
 have p4:onR t.2 s=betS t.2 s:=by rw [← on_eq _ _ hs,onS,h.2];simp
 have p1:onR s.1 t=betS s.1 t:=by rw [← on_eq _ _ ht,onS,h'.1];simp
 have p2:onR s.2 t=betS s.2 t:=by rw [← on_eq _ _ ht,onS,h'.2];simp
 have es:∃ a,rightS (endsS s).1=true∧rightS (endsS s).2=true∧((key s.1<key s.2∧key (endsS s).1=key s.1∧key (endsS s).2=key s.2)∨(key s.2<key s.1∧key (endsS s).1=key s.2∧key (endsS s).2=key s.1))∧a=true:=by
  refine⟨true,?_⟩
  unfold endsS
  simp only [ord_key r1 r2,cmp_gt]
  by_cases hk:key s.2<key s.1
  ·rw [if_pos hk];exact⟨r2,r1,.inr ⟨hk,rfl,rfl⟩,trivial⟩
  ·rw [if_neg hk];exact⟨r1,r2,.inl ⟨by omega,rfl,rfl⟩,trivial⟩
 have et:∃ a,rightS (endsS t).1=true∧rightS (endsS t).2=true∧((key t.1<key t.2∧key (endsS t).1=key t.1∧key (endsS t).2=key t.2)∨(key t.2<key t.1∧key (endsS t).1=key t.2∧key (endsS t).2=key t.1))∧a=true:=by
  refine⟨true,?_⟩
  unfold endsS
  simp only [ord_key r3 r4,cmp_gt]
  by_cases hk:key t.2<key t.1
  ·rw [if_pos hk];exact⟨r4,r3,.inr ⟨hk,rfl,rfl⟩,trivial⟩
  ·rw [if_neg hk];exact⟨r3,r4,.inl ⟨by omega,rfl,rfl⟩,trivial⟩
 obtain⟨_,ra1,ra2,ha,_⟩:=es
 obtain⟨_,rb1,rb2,hb,_⟩:=et
 rw [meetR_kF s t h.1 ((eqP_f _ _).2 ns) ((eqP_f _ _).2 nt),p1,p2,p3,p4]
 unfold meetS
 rw [if_pos h]
 have hl:rightS (lowS s t)=true∧key (lowS s t)=(if key (endsS s).1<key (endsS t).1 then key (endsS t).1 else key (endsS s).1):=by
  unfold lowS
  simp only [ord_key ra1 rb1,cmp_lt]
  by_cases hk:key (endsS s).1<key (endsS t).1
  ·rw [if_pos hk,if_pos hk];exact⟨rb1,rfl⟩
  ·rw [if_neg hk,if_neg hk];exact⟨ra1,rfl⟩
 have hh:rightS (highS s t)=true∧key (highS s t)=(if key (endsS t).2<key (endsS s).2 then key (endsS t).2 else key (endsS s).2):=by
  unfold highS
  simp only [ord_key rb2 ra2,cmp_lt]
  by_cases hk:key (endsS t).2<key (endsS s).2
  ·rw [if_pos hk,if_pos hk];exact⟨rb2,rfl⟩
  ·rw [if_neg hk,if_neg hk];exact⟨ra2,rfl⟩
 have hbet:∀ (p:Int × Int) (g:Sg),rightS p=true→rightS (endsS g).1=true→rightS (endsS g).2=true→betS p g=decide (key (endsS g).1≤key p∧key p≤key (endsS g).2):=by
  intro p g hp h1 h2
  unfold betS
  rw [ord_key h1 hp,ord_key hp h2,Bool.eq_iff_iff]
  simp only [Bool.and_eq_true,decide_eq_true_eq,cmp_le]
 have heq:∀ a b:Int × Int,rightS a=true→rightS b=true→eqP a b=decide (key a=key b):=by
  intro a b h1 h2
  rw [Bool.eq_iff_iff,decide_eq_true_eq,eqP_key h1 h2]
 rw [ord_key hl.1 hh.1,tbl_cmp,hl.2,hh.2,collK ha hb,hbet _ _ r1 rb1 rb2,hbet _ _ r2 rb1 rb2,hbet _ _ r3 ra1 ra2,hbet _ _ r4 ra1 ra2,heq _ _ r1 r3,heq _ _ r1 r4,heq _ _ r2 r3,heq _ _ r2 r4]
theorem meet_eq (s t:Sg)(hs:rightG s=true)(ht:rightG t=true):meetS s t=meetR s t:=by
 by_cases h:turnS s.1 s.2 t.1=0∧turnS s.1 s.2 t.2=0
 ·exact meet_one s t hs ht h
 ·exact meet_two s t (right_two hs).2.2 (right_two ht).2.2 h
end Go.Aw

noncomputable section
namespace Go.Aw
set_option maxRecDepth 100000
def SEnds:List Value→Option (Bool × List (Int × Int) × Option Int)
 |[u,v]=>(match decS u with|some s=>(match decS v with|some t=>some (wideS s&&wideS t,endsL s t,none)|none=>none)|none=>none)
 |_=>none
theorem SEnds_inv {args:List Value}{l:List (Int × Int)}{e:Option Int}(hs:SEnds args=some (true,l,e)):∃ s t,args=[sgv s,sgv t]∧(wideS s&&wideS t)=true∧l=endsL s t∧e=none:=by
 unfold SEnds at hs
 split at hs
 ·split at hs
  ·rename_i s e1
   split at hs
   ·rename_i t e2
    injection hs with hs
    injection hs with h1 h2
    injection h2 with h2 h3
    exact⟨s,t,by rw [decS_eq e1,decS_eq e2],h1,h2.symm,h3.symm⟩
   ·cases hs
  ·cases hs
 ·cases hs
def eE (v:Value)(j:Int):List (Nat × Value):=[(2,.pointer (some ⟨0,0,none⟩)),(3,.pointer (some ⟨1,0,none⟩)),(5,v),(6,.slice (some ⟨2,0,none⟩) 4 4),(7,iv j)]
def cellsS (s:Sg):List Value:=[iv s.1.1,iv s.1.2,iv s.2.1,iv s.2.2]
def hE (s t:Sg)(ps:List (Int × Int)):Heap:=[(0,.cells true false 1 (cellsS s)),(1,.cells true false 1 (cellsS t)),(2,.cells true false 2 (flat elP.fl ps))]
def hE1 (s t:Sg)(ps out:List (Int × Int)):Heap:=[(0,.cells true false 1 (cellsS s)),(1,.cells true false 1 (cellsS t)),(2,.cells true false 2 (flat elP.fl ps)),(3,.cells true false 2 (flat elP.fl out))]
def eI (v:Value)(j:Int)(b1 b2 b:Bool)(k:Int):List (Nat × Value):=[(2,.pointer (some ⟨0,0,none⟩)),(3,.pointer (some ⟨1,0,none⟩)),(5,v),(6,.slice (some ⟨2,0,none⟩) 4 4),(7,iv j),(8,.bool b1),(9,.bool b2),(10,.bool b),(11,iv k)]
theorem known_app (p q:Int × Int)(l:List (Int × Int)):knownS p (l++[q])=(knownS p l || eqP q p):=by
 induction l with
 |nil=>simp [knownS]
 |cons a r ih=>simp only [List.cons_append,knownS,ih,Bool.or_assoc]
theorem known_take {p:Int × Int}{l:List (Int × Int)}{k:Nat}(h:k<l.length):knownS p (l.take (k+1))=(knownS p (l.take k) || eqP (at2 l k) p):=by
 rw [List.take_add_one,List.getElem?_eq_getElem h,at2_eq h,← known_app]
 rfl
theorem adds_len' {s t:Sg}(l out:List (Int × Int)):(l.foldl (addE s t) out).length≤out.length+l.length:=by
 induction l generalizing out with
 |nil=>simp
 |cons a r ih =>
  have:=ih (addE s t out a)
  have h2:(addE s t out a).length≤out.length+1:=by
   unfold addE
   split <;> simp
  simp only [List.foldl_cons,List.length_cons]
  omega
theorem adds_len {s t:Sg}{l:List (Int × Int)}(h:l.length≤4):(l.foldl (addE s t) []).length≤4:=by
 have:=adds_len' (s:=s) (t:=t) l []
 simp at this
 omega
theorem flat_grow (l:List (Int × Int))(p:Int × Int):List.take (l.length*2) (List.drop 0 (flat elP.fl l))++[iv p.1,iv p.2]=flat elP.fl (l++[p]):=by
 rw [flat_append,List.drop_zero,List.take_of_length_le (by rw [flat_len];exact Nat.le_refl _)]
 rfl
def X70:Nat × XF:=(143,fX elP SEnds)
theorem x70:XOK Go.Proofs.Tryz.prog X70.1 X70.2:=fX_ok elP (body_calls (xl:=[X67]) (.cons x67 .nil)) fun args l e hs=>by
 obtain⟨s,t,rfl,hw,rfl,rfl⟩:=SEnds_inv hs
 refine⟨rfl,?_⟩
 clear hs
 obtain⟨⟨ax,ay⟩,⟨bx,b2⟩⟩:=s
 obtain⟨⟨cx,cy⟩,⟨dx,dy⟩⟩:=t
 obtain⟨ps,hps⟩:∃ ps:List (Int × Int),ps=[(ax,ay),(bx,b2),(cx,cy),(dx,dy)]:=⟨_,rfl⟩
 (conv=>whnf)
 refine⟨fun n e h nx=>∃ (i:Nat) (j:Int) (out:List (Int × Int)),j=i∧i≤4∧n=4 - i∧out=(ps.take i).foldl (addE ((ax,ay),(bx,b2)) ((cx,cy),(dx,dy))) [] ∧
  ((out=[]∧e=eE (.slice none 0 0) j∧h=hE ((ax,ay),(bx,b2)) ((cx,cy),(dx,dy)) ps∧nx=3)∨(0<out.length∧e=eE (.slice (some ⟨3,0,none⟩) out.length out.length) j∧h=hE1 ((ax,ay),(bx,b2)) ((cx,cy),(dx,dy)) ps out∧nx=4)),⟨4,?_⟩,?_⟩
 ·subst hps
  refine Into_id (e0:=eE (.slice none 0 0) 0) (h0:=hE ((ax,ay),(bx,b2)) ((cx,cy),(dx,dy)) [(ax,ay),(bx,b2),(cx,cy),(dx,dy)]) (n0:=3) ⟨0,0,[],rfl,by decide,rfl,rfl,.inl ⟨rfl,rfl,rfl,rfl⟩⟩ ?_ ?_ (by decide)
  ·unfold eE
   ((repeat' refine iE rfl rfl ?_);exact iN)
  ·unfold hE
   ((repeat'(first|refine iF rfl rfl ?_|refine iJ rfl rfl rfl rfl ?_));exact iN)
 ·have hl4:ps.length=4:=by rw [hps];rfl
  simp only [Bool.and_eq_true] at hw
  have hww:∀ p∈ps,wide p=true:=by
   have h1:=hw.1
   have h2:=hw.2
   simp only [wideS,Bool.and_eq_true] at h1 h2
   subst hps
   exact List.forall_mem_cons.2 ⟨h1.1,List.forall_mem_cons.2 ⟨h1.2,List.forall_mem_cons.2 ⟨h2.1,List.forall_mem_cons.2 ⟨h2.2,fun _ h=>(by cases h)⟩⟩⟩⟩
  rintro n e h nx ⟨i,j,out,hj,hi,rfl,ho,⟨ho0,rfl,rfl,rfl⟩|⟨hol,rfl,rfl,rfl⟩⟩
  ·unfold eE hE
   ((conv=>whnf);refine bm (fun g1=>?_) (fun g1=>?_))
   ·have hlt:i<ps.length:=by simp [cfgS,std] at g1;omega
    have hwp:wide (at2 ps i)=true:=by rw [at2_eq hlt];exact hww _ (List.getElem_mem hlt)
    ((conv=>whnf);refine bm (fun g2=>?_) (fun g2=>?_))
    ·(conv=>whnf)
     refine boL (getP ps hlt ?_) ?_
     ·simp [cfgS,std];omega
     ((conv=>whnf);refine bm (fun g3=>?_) (fun g3=>?_))
     ·((conv=>whnf);refine bm (fun g4=>?_) (fun g4=>?_))
      ·(conv=>whnf)
       refine boL (getP ps hlt ?_) ?_
       ·simp [cfgS,std];omega
       ((conv=>whnf);refine bm (fun g5=>?_) (fun g5=>?_))
       ·(conv=>whnf)
        refine⟨fun n e h nx=>n=0∧e=eI (.slice none 0 0) j (onR (at2 ps i) ((ax,ay),(bx,b2))) (onR (at2 ps i) ((cx,cy),(dx,dy))) false 0∧h=hE ((ax,ay),(bx,b2)) ((cx,cy),(dx,dy)) ps∧nx=3,⟨0,?_⟩,?_⟩
        ·refine Into_id (e0:=eI (.slice none 0 0) j (onR (at2 ps i) ((ax,ay),(bx,b2))) (onR (at2 ps i) ((cx,cy),(dx,dy))) false 0) (h0:=hE ((ax,ay),(bx,b2)) ((cx,cy),(dx,dy)) ps) (n0:=3) ⟨rfl,rfl,rfl,rfl⟩ ?_ ?_ (by decide)
         ·unfold eI
          ((repeat' refine iE rfl rfl ?_);exact iN)
         ·unfold hE
          ((repeat'(first|refine iF rfl rfl ?_|refine iJ rfl rfl rfl rfl ?_));exact iN)
        ·rintro n e h nx ⟨rfl,rfl,rfl,rfl⟩
         have hat:ps.take (i+1)=ps.take i++[at2 ps i]:=by
          rw [at2_eq hlt,List.take_add_one,List.getElem?_eq_getElem hlt];rfl
         have ho':(ps.take (i+1)).foldl (addE ((ax,ay),(bx,b2)) ((cx,cy),(dx,dy))) []=addE ((ax,ay),(bx,b2)) ((cx,cy),(dx,dy)) [] (at2 ps i):=by
          rw [hat,List.foldl_append,← ho,ho0];rfl
         unfold eI hE
         repeat' first
          |((conv=>whnf)
            refine boL (getP ps hlt ?_) ?_
            ·simp [cfgS,std];omega)
          |(((conv=>whnf);refine bm (fun g=>?_) (fun g=>?_)))
         all_goals (conv=>whnf)
         ·clear g1 g2 g3 g4 g5
          rename_i ga gb _
          refine⟨4 - (i+1),by omega,?_⟩
          refine Into_mv (e0:=eE (.slice (some ⟨3,0,none⟩) 1 1) (j+1)) (h0:=hE1 ((ax,ay),(bx,b2)) ((cx,cy),(dx,dy)) ps [at2 ps i]) (n0:=4) 3 4 (by decide) (by decide)
           ⟨i+1,j+1,[at2 ps i],by omega,by omega,rfl,?_,.inr ⟨Nat.one_pos,rfl,rfl,rfl⟩⟩ ?_ ?_ ?_
          ·simp only [cA_eqB,beq_iff_eq] at ga gb
           rw [ho',addE,if_pos ⟨ga,gb,rfl⟩];rfl
          ·unfold eE
           ((repeat' refine iE rfl rfl ?_);exact iN)
          ·unfold hE1
           ((repeat'(first|refine iF rfl rfl ?_|refine iJ rfl rfl rfl rfl ?_));exact iN)
          ·unfold hE1
           ((repeat' refine iK rfl ?_);exact iN)
         ·exfalso;simp only [cA_add,cA_fits,fitsK,Bool.eq_false_iff,ne_eq,Bool.and_eq_true,decide_eq_true_eq] at g;omega
         ·exfalso;rw [g] at g2;cases g2
         ·clear g1 g2 g3 g4 g5
          rename_i ga gb
          refine⟨4 - (i+1),by omega,?_⟩
          refine Into_id (e0:=eE (.slice none 0 0) (j+1)) (h0:=hE ((ax,ay),(bx,b2)) ((cx,cy),(dx,dy)) ps) (n0:=3) ⟨i+1,j+1,[],by omega,by omega,rfl,?_,.inl ⟨rfl,rfl,rfl,rfl⟩⟩ ?_ ?_ (by decide)
          ·simp only [cA_eqB,beq_eq_false_iff_ne,ne_eq] at gb
           rw [ho',addE,if_neg fun h=>gb h.2.1]
          ·unfold eE
           ((repeat' refine iE rfl rfl ?_);exact iN)
          ·unfold hE
           ((repeat'(first|refine iF rfl rfl ?_|refine iJ rfl rfl rfl rfl ?_));exact iN)
         ·exfalso;simp only [cA_add,cA_fits,fitsK,Bool.eq_false_iff,ne_eq,Bool.and_eq_true,decide_eq_true_eq] at g;omega
         ·clear g1 g2 g3 g4 g5
          rename_i ga
          refine⟨4 - (i+1),by omega,?_⟩
          refine Into_id (e0:=eE (.slice none 0 0) (j+1)) (h0:=hE ((ax,ay),(bx,b2)) ((cx,cy),(dx,dy)) ps) (n0:=3) ⟨i+1,j+1,[],by omega,by omega,rfl,?_,.inl ⟨rfl,rfl,rfl,rfl⟩⟩ ?_ ?_ (by decide)
          ·simp only [cA_eqB,beq_eq_false_iff_ne,ne_eq] at ga
           rw [ho',addE,if_neg fun h=>ga h.1]
          ·unfold eE
           ((repeat' refine iE rfl rfl ?_);exact iN)
          ·unfold hE
           ((repeat'(first|refine iF rfl rfl ?_|refine iJ rfl rfl rfl rfl ?_));exact iN)
         ·exfalso;simp only [cA_add,cA_fits,fitsK,Bool.eq_false_iff,ne_eq,Bool.and_eq_true,decide_eq_true_eq] at g;omega
       ·exfalso;simp only [hwp,Bool.true_and] at g5;rw [show wideS _=true from hw.2] at g5;cases g5
      ·exfalso;rw [g4] at g2;cases g2
     ·exfalso;simp only [hwp,Bool.true_and] at g3;rw [show wideS _=true from hw.1] at g3;cases g3
    ·exfalso;simp only [cA_lt,cA_le,cA_andB,cA_num,Bool.eq_false_iff,ne_eq,Bool.and_eq_true,decide_eq_true_eq] at g1 g2;omega
   ·(conv=>whnf)
    have h4:i=4:=by simp only [cA_lt,cA_num,decide_eq_false_iff_not] at g1;omega
    subst h4
    have:endsL ((ax,ay),(bx,b2)) ((cx,cy),(dx,dy))=[]:=by
     rw [← ho0,ho,hps];rfl
    rw [this]
    rfl
  ·have out_len:out.length≤4:=by rw [ho];exact adds_len (by rw [List.length_take];omega)
   unfold eE hE1
   ((conv=>whnf);refine bm (fun g1=>?_) (fun g1=>?_))
   ·have hlt:i<ps.length:=by simp [cfgS,std] at g1;omega
    have hwp:wide (at2 ps i)=true:=by rw [at2_eq hlt];exact hww _ (List.getElem_mem hlt)
    ((conv=>whnf);refine bm (fun g2=>?_) (fun g2=>?_))
    ·(conv=>whnf)
     refine boL (getP ps hlt ?_) ?_
     ·simp [cfgS,std];omega
     ((conv=>whnf);refine bm (fun g3=>?_) (fun g3=>?_))
     ·((conv=>whnf);refine bm (fun g4=>?_) (fun g4=>?_))
      ·(conv=>whnf)
       refine boL (getP ps hlt ?_) ?_
       ·simp [cfgS,std];omega
       ((conv=>whnf);refine bm (fun g5=>?_) (fun g5=>?_))
       ·(conv=>whnf)
        refine⟨fun n e h nx=>∃ (k:Nat) (jk:Int),jk=k∧k≤out.length∧n=out.length - k∧e=eI (.slice (some ⟨3,0,none⟩) out.length out.length) j (onR (at2 ps i) ((ax,ay),(bx,b2))) (onR (at2 ps i) ((cx,cy),(dx,dy))) (knownS (at2 ps i) (out.take k)) jk∧h=hE1 ((ax,ay),(bx,b2)) ((cx,cy),(dx,dy)) ps out∧nx=4,⟨out.length,?_⟩,?_⟩
        ·refine Into_id (e0:=eI (.slice (some ⟨3,0,none⟩) out.length out.length) j (onR (at2 ps i) ((ax,ay),(bx,b2))) (onR (at2 ps i) ((cx,cy),(dx,dy))) false 0) (h0:=hE1 ((ax,ay),(bx,b2)) ((cx,cy),(dx,dy)) ps out) (n0:=4) ⟨0,0,rfl,Nat.zero_le _,rfl,rfl,rfl,rfl⟩ ?_ ?_ (by decide)
         ·unfold eI
          ((repeat' refine iE rfl rfl ?_);exact iN)
         ·unfold hE1
          ((repeat'(first|refine iF rfl rfl ?_|refine iJ rfl rfl rfl rfl ?_));exact iN)
        ·rintro n e h nx ⟨k,jk,hjk,hk,rfl,rfl,rfl,rfl⟩
         have hat:ps.take (i+1)=ps.take i++[at2 ps i]:=by
          rw [at2_eq hlt,List.take_add_one,List.getElem?_eq_getElem hlt];rfl
         have ho':(ps.take (i+1)).foldl (addE ((ax,ay),(bx,b2)) ((cx,cy),(dx,dy))) []=addE ((ax,ay),(bx,b2)) ((cx,cy),(dx,dy)) out (at2 ps i):=by
          rw [hat,List.foldl_append,← ho];rfl
         unfold eI hE1
         ((conv=>whnf);refine bm (fun f1=>?_) (fun f1=>?_))
         ·have hltk:k<out.length:=by simp [cfgS,std] at f1;omega
          repeat' first
           |((conv=>whnf)
             refine boL (getP out hltk ?_) ?_
             ·simp [cfgS,std];omega)
           |((conv=>whnf)
             refine boL (getP ps hlt ?_) ?_
             ·simp [cfgS,std];omega)
           |(((conv=>whnf);refine bm (fun g=>?_) (fun g=>?_)))
          all_goals (conv=>whnf)
          ·clear g1 g2 g3 g4 g5
           rename_i ga _ _
           refine⟨out.length - (k+1),by omega,?_⟩
           refine Into_id (e0:=eI (.slice (some ⟨3,0,none⟩) out.length out.length) j (onR (at2 ps i) ((ax,ay),(bx,b2))) (onR (at2 ps i) ((cx,cy),(dx,dy))) (eqP (at2 out k) (at2 ps i)) (jk+1)) (h0:=hE1 ((ax,ay),(bx,b2)) ((cx,cy),(dx,dy)) ps out) (n0:=4) ⟨k+1,jk+1,by omega,hltk,rfl,?_,rfl,rfl⟩ ?_ ?_ (by decide)
           ·simp only [cA_eqB,beq_iff_eq,beq_eq_false_iff_ne,ne_eq,Bool.not_eq_false] at ga
            rw [known_take hltk,ga];rfl
           ·unfold eI
            ((repeat' refine iE rfl rfl ?_);exact iN)
           ·unfold hE1
            ((repeat'(first|refine iF rfl rfl ?_|refine iJ rfl rfl rfl rfl ?_));exact iN)
          ·exfalso;have:=out_len;simp only [cA_add,cA_fits,fitsK,Bool.eq_false_iff,ne_eq,Bool.and_eq_true,decide_eq_true_eq] at g;omega
          ·exfalso;rw [g] at g2;cases g2
          ·exfalso;simp only [cA_lt,cA_le,cA_andB,cA_num,Bool.eq_false_iff,ne_eq,Bool.and_eq_true,decide_eq_true_eq] at g;omega
          ·clear g1 g2 g3 g4 g5
           rename_i ga
           refine⟨out.length - (k+1),by omega,?_⟩
           refine Into_id (e0:=eI (.slice (some ⟨3,0,none⟩) out.length out.length) j (onR (at2 ps i) ((ax,ay),(bx,b2))) (onR (at2 ps i) ((cx,cy),(dx,dy))) true (jk+1)) (h0:=hE1 ((ax,ay),(bx,b2)) ((cx,cy),(dx,dy)) ps out) (n0:=4) ⟨k+1,jk+1,by omega,hltk,rfl,?_,rfl,rfl⟩ ?_ ?_ (by decide)
           ·simp only [cA_eqB,beq_iff_eq,beq_eq_false_iff_ne,ne_eq,Bool.not_eq_false] at ga
            rw [known_take hltk,ga];rfl
           ·unfold eI
            ((repeat' refine iE rfl rfl ?_);exact iN)
           ·unfold hE1
            ((repeat'(first|refine iF rfl rfl ?_|refine iJ rfl rfl rfl rfl ?_));exact iN)
          ·exfalso;simp only [cA_add,cA_fits,fitsK,Bool.eq_false_iff,ne_eq,Bool.and_eq_true,decide_eq_true_eq] at g;omega
         ·have hkk:k=out.length:=by simp only [cA_lt,cA_num,decide_eq_false_iff_not] at f1;omega
          repeat' first
           |((conv=>whnf)
             refine boL (getP ps hlt ?_) ?_
             ·simp [cfgS,std];omega)
           |(((conv=>whnf);refine bm (fun g=>?_) (fun g=>?_)))
          all_goals (conv=>whnf)
          ·exfalso;rename_i gc _;have:=Nat.le_of_ble_eq_true gc;omega
          ·exfalso;rename_i gc _;have:=Nat.le_of_ble_eq_true gc;omega
          ·exfalso;rename_i gc;have:=Nat.le_of_ble_eq_true gc;omega
          ·clear g1 g2 g3 g4 g5
           rename_i ga gb gx _ _ _
           refine⟨4 - (i+1),by omega,?_⟩
           refine Into_mv (e0:=eE (.slice (some ⟨3,0,none⟩) (out.length+1) (out.length+1)) (j+1)) (h0:=hE1 ((ax,ay),(bx,b2)) ((cx,cy),(dx,dy)) ps (out++[at2 ps i])) (n0:=4) 3 5 (by decide) (by decide)
            ⟨i+1,j+1,out++[at2 ps i],by omega,by omega,rfl,?_,.inr ⟨by rw [List.length_append];exact Nat.succ_pos _,by rw [List.length_append];rfl,rfl,rfl⟩⟩ ?_ ?_ ?_
           ·simp only [cA_eqB,cA_notB,beq_iff_eq,Bool.not_eq_true'] at ga gb gx
            rw [ho',addE,if_pos ⟨ga,gb,by rw [hkk,List.take_length] at gx;exact gx⟩]
           ·unfold eE
            ((repeat' refine iE rfl rfl ?_);exact iN)
           ·unfold hE1
            ((repeat'(first|refine iW rfl rfl (ObjRen_j (flat_g elP _) (flat_grow out _)) ?_|refine iF rfl rfl ?_|refine iJ rfl rfl rfl rfl ?_));exact iN)
           ·unfold hE1
            ((repeat' refine iK rfl ?_);exact iN)
          ·exfalso;simp only [cA_add,cA_fits,fitsK,Bool.eq_false_iff,ne_eq,Bool.and_eq_true,decide_eq_true_eq] at g;omega
          ·exfalso
           have hf:(flat elP.fl out).length=out.length*2:=flat_len elP out
           have hol4:out.length≤4:=by rw [ho];exact adds_len (by rw [List.length_take];omega)
           simp only [cA_andB,hf] at g
           revert g
           simp
           omega
          ·exfalso;rw [g] at g2;cases g2
          ·clear g1 g2 g3 g4 g5
           rename_i gx
           refine⟨4 - (i+1),by omega,?_⟩
           refine Into_id (e0:=eE (.slice (some ⟨3,0,none⟩) out.length out.length) (j+1)) (h0:=hE1 ((ax,ay),(bx,b2)) ((cx,cy),(dx,dy)) ps out) (n0:=4) ⟨i+1,j+1,out,by omega,by omega,rfl,?_,.inr ⟨hol,rfl,rfl,rfl⟩⟩ ?_ ?_ (by decide)
           ·simp only [cA_eqB,cA_notB,beq_eq_false_iff_ne,ne_eq,Bool.not_eq_false'] at gx
            rw [ho',addE,if_neg fun h=>by rw [hkk,List.take_length] at gx;rw [gx] at h;exact absurd h.2.2 (by decide)]
           ·unfold eE
            ((repeat' refine iE rfl rfl ?_);exact iN)
           ·unfold hE1
            ((repeat'(first|refine iF rfl rfl ?_|refine iJ rfl rfl rfl rfl ?_));exact iN)
          ·exfalso;simp only [cA_add,cA_fits,fitsK,Bool.eq_false_iff,ne_eq,Bool.and_eq_true,decide_eq_true_eq] at g;omega
          ·clear g1 g2 g3 g4 g5
           rename_i gx
           refine⟨4 - (i+1),by omega,?_⟩
           refine Into_id (e0:=eE (.slice (some ⟨3,0,none⟩) out.length out.length) (j+1)) (h0:=hE1 ((ax,ay),(bx,b2)) ((cx,cy),(dx,dy)) ps out) (n0:=4) ⟨i+1,j+1,out,by omega,by omega,rfl,?_,.inr ⟨hol,rfl,rfl,rfl⟩⟩ ?_ ?_ (by decide)
           ·simp only [cA_eqB,cA_notB,beq_eq_false_iff_ne,ne_eq,Bool.not_eq_false'] at gx
            rw [ho',addE,if_neg fun h=>gx h.2.1]
           ·unfold eE
            ((repeat' refine iE rfl rfl ?_);exact iN)
           ·unfold hE1
            ((repeat'(first|refine iF rfl rfl ?_|refine iJ rfl rfl rfl rfl ?_));exact iN)
          ·exfalso;simp only [cA_add,cA_fits,fitsK,Bool.eq_false_iff,ne_eq,Bool.and_eq_true,decide_eq_true_eq] at g;omega
          ·clear g1 g2 g3 g4 g5
           rename_i gx
           refine⟨4 - (i+1),by omega,?_⟩
           refine Into_id (e0:=eE (.slice (some ⟨3,0,none⟩) out.length out.length) (j+1)) (h0:=hE1 ((ax,ay),(bx,b2)) ((cx,cy),(dx,dy)) ps out) (n0:=4) ⟨i+1,j+1,out,by omega,by omega,rfl,?_,.inr ⟨hol,rfl,rfl,rfl⟩⟩ ?_ ?_ (by decide)
           ·simp only [cA_eqB,cA_notB,beq_eq_false_iff_ne,ne_eq,Bool.not_eq_false'] at gx
            rw [ho',addE,if_neg fun h=>gx h.1]
           ·unfold eE
            ((repeat' refine iE rfl rfl ?_);exact iN)
           ·unfold hE1
            ((repeat'(first|refine iF rfl rfl ?_|refine iJ rfl rfl rfl rfl ?_));exact iN)
          ·exfalso;simp only [cA_add,cA_fits,fitsK,Bool.eq_false_iff,ne_eq,Bool.and_eq_true,decide_eq_true_eq] at g;omega
       ·exfalso;simp only [hwp,Bool.true_and] at g5;rw [show wideS _=true from hw.2] at g5;cases g5
      ·exfalso;rw [g4] at g2;cases g2
     ·exfalso;simp only [hwp,Bool.true_and] at g3;rw [show wideS _=true from hw.1] at g3;cases g3
    ·exfalso;simp only [cA_lt,cA_le,cA_andB,cA_num,Bool.eq_false_iff,ne_eq,Bool.and_eq_true,decide_eq_true_eq] at g1 g2;omega
   ·(conv=>whnf)
    have h4:i=4:=by simp only [cA_lt,cA_num,decide_eq_false_iff_not] at g1;omega
    subst h4
    have:endsL ((ax,ay),(bx,b2)) ((cx,cy),(dx,dy))=out:=by
     rw [ho,hps];rfl
    rw [this]
    exact Yields_own (q:=3) (h:=hE1 ((ax,ay),(bx,b2)) ((cx,cy),(dx,dy)) ps out) (nx:=4) (e:=none) elP hol rfl
end Go.Aw
end

noncomputable section
namespace Go.Aw
set_option maxRecDepth 100000
attribute [local irreducible] endsL
def kindL (s t:Sg):List (Int × Int)→Int
 |[]=>if turnS s.1 s.2 t.1*turnS s.1 s.2 t.2<0∧turnS t.1 t.2 s.1*turnS t.1 t.2 s.2<0 then 3 else 0
 |[p]=>if (eqP p s.1=true∨eqP p s.2=true)∧(eqP p t.1=true∨eqP p t.2=true) then 1 else 2
 |_::_::_=>4
theorem meetR_L (s t:Sg):meetR s t=kindL s t (endsL s t):=rfl
theorem meetR_of {s t:Sg}{l:List (Int × Int)}(h:endsL s t=l):meetR s t=kindL s t l:=by
 rw [meetR_L,h]
def X72:Nat × XF:=(90,gX (s2 cS cS fun s t=>(wideS s&&wideS t,u8 (meetR s t))))
theorem x72:XOK Go.Proofs.Tryz.prog X72.1 X72.2:=x2 cS cS (xl:=[X70,X57]) (.cons x70 (.cons x57 .nil)) (fun _ _=>rfl) fun s t hp=>by
 obtain⟨⟨ax,ay⟩,⟨bx,b2⟩⟩:=s
 obtain⟨⟨cx,cy⟩,⟨dx,dy⟩⟩:=t
 have l1:=turn_low (ax,ay) (bx,b2) (cx,cy)
 have l2:=turn_low (ax,ay) (bx,b2) (dx,dy)
 have l3:=turn_low (cx,cy) (dx,dy) (ax,ay)
 have l4:=turn_low (cx,cy) (dx,dy) (bx,b2)
 have m1:=mulB (A:=1) (B:=1) l1.1 l1.2 l2.1 l2.2
 have m2:=mulB (A:=1) (B:=1) l3.1 l3.2 l4.1 l4.2
 have hp':=hp
 simp only [wideS,Bool.and_eq_true] at hp
 unfold Does1
 ((conv=>whnf);refine bm (fun g=>?_) (fun g=>?_))
 ·(conv=>whnf)
  generalize he:endsL _ _=L
  have hm:meetR ((ax,ay),(bx,b2)) ((cx,cy),(dx,dy))=kindL ((ax,ay),(bx,b2)) ((cx,cy),(dx,dy)) L:=meetR_of he
  clear he g hp'
  rcases L with _|⟨p,_|⟨q,r⟩⟩
  ·repeat' ((conv=>whnf);refine bm (fun g=>?_) (fun g=>?_))
   all_goals (conv=>whnf)
   all_goals (clear l1 l2 l3 l4)
   all_goals (try (show u8 _=u8 (meetR ((ax,ay),(bx,b2)) ((cx,cy),(dx,dy)));rw [hm];clear hm))
   all_goals (simp only [cA_mul,cA_lt,cA_fits,cA_eqB,cA_num,fitsK,pEta,Bool.and_eq_true,beq_iff_eq,beq_eq_false_iff_ne,ne_eq,decide_eq_true_eq,decide_eq_false_iff_not,not_and,Bool.not_eq_true',Bool.not_eq_false'] at *)
   all_goals first
    |(simp only [kindL,u8];simp_all;done)
    |(simp_all;done)
    |(simp only [Bool.and_eq_false_iff,decide_eq_false_iff_not] at *;omega)
    |(rw [kindL,if_neg fun h=>g h.1];done)
  ·repeat' ((conv=>whnf);refine bm (fun g=>?_) (fun g=>?_))
   all_goals (conv=>whnf)
   all_goals (clear l1 l2 l3 l4 m1 m2 hp)
   all_goals (show u8 _=u8 (meetR ((ax,ay),(bx,b2)) ((cx,cy),(dx,dy)));rw [hm];clear hm)
   all_goals (simp only [cA_eq,cA_andB,cA_mul,cA_lt,cA_fits,cA_eqB,cA_num,fitsK,pEta,beq_iff_eq,beq_eq_false_iff_ne,ne_eq] at *)
   all_goals (simp only [kindL,u8];simp_all [eqP] <;> omega)
  ·((conv=>whnf);refine bm (fun g=>?_) (fun g=>?_))
   ·(conv=>whnf)
    show u8 _=u8 (meetR ((ax,ay),(bx,b2)) ((cx,cy),(dx,dy)))
    rw [hm]
    rfl
   ·exfalso
    simp [cA_lt,cA_num] at g
    omega
 ·exfalso
  rw [show _=true from hp'] at g
  cases g
end Go.Aw
end

noncomputable section
namespace Go.Aw
set_option maxRecDepth 100000
def elS:El Sg:=⟨fun s=>[iv s.1.1,iv s.1.2,iv s.2.1,iv s.2.2],4,fun _=>rfl,fun _=>rfl,by decide⟩
def atS (l:List Sg)(i:Nat):Sg:=l.getD i ((0,0),(0,0))
theorem atS_eq {l:List Sg}{i:Nat}(h:i<l.length):atS l i=l[i]:=by
 unfold atS
 rw [List.getD_eq_getElem?_getD,List.getElem?_eq_getElem h]
 rfl
theorem getS (l:List Sg){i o:Nat}(hi:i<l.length)(ho:o=i*4):getN (flat elS.fl l) o 4=some [iv (atS l i).1.1,iv (atS l i).1.2,iv (atS l i).2.1,iv (atS l i).2.2]:=by
 rw [atS_eq hi]
 exact flat_get elS l hi ho
def hS (l:List Sg):Heap:=[(0,.cells false true 4 (flat elS.fl l))]
end Go.Aw
end

noncomputable section
namespace Go.Aw
set_option maxRecDepth 100000
def rightT (s t:Sg):Bool:=rightG s&&rightG t
def X72':Nat × XF:=(90,gX (s2 cS cS fun s t=>(rightT s t,u8 (meetS s t))))
theorem x72':XOK Go.Proofs.Tryz.prog X72'.1 X72'.2:=gX_weak x72 fun args v hs=>by
 obtain⟨x,y,rfl,e⟩:=s2_inv cS cS hs
 have e2:rightT x y=true:=congrArg Prod.fst e
 have e3:u8 (meetS x y)=v:=congrArg Prod.snd e
 simp only [rightT,Bool.and_eq_true] at e2
 subst e3
 have hw:(wideS x&&wideS y)=true:=by rw [rightG_wide e2.1,rightG_wide e2.2];rfl
 show some (wideS x&&wideS y,u8 (meetR x y))=some _
 rw [meet_eq x y e2.1 e2.2,hw]
end Go.Aw
end
