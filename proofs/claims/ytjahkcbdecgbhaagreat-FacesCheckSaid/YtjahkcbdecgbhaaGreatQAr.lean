/-
  Parts of the proof, put together. No condition.
-/
import Derived.Test.YtjahkcbdecgbhaaGreatQAq
set_option linter.unusedSimpArgs false
set_option linter.unusedVariables false
namespace Go.Aw
def knownS (p:Int × Int):List (Int × Int)→Bool
 |[]=>false
 |q::r=>eqP q p || knownS p r
def addE (s t:Sg)(out:List (Int × Int))(p:Int × Int):List (Int × Int):=if onR p s=true∧onR p t=true∧knownS p out=false then out++[p] else out
def endsL (s t:Sg):List (Int × Int):=addE s t (addE s t (addE s t (addE s t [] s.1) s.2) t.1) t.2
theorem eqP_iff (a b:Int × Int):eqP a b=true↔a=b:=by
 obtain⟨a1,a2⟩:=a
 obtain⟨b1,b2⟩:=b
 simp [eqP]
theorem btw_inb (n a b:Int):btw n a b=true↔inb (b - a) (n - a):=by
 simp only [btw,inb,Bool.and_eq_true,decide_eq_true_eq]
 split <;> split <;> (try split) <;> (try split) <;> omega
theorem side_sc {ax ay bx b2 px py wx wy c d:Int}(hne:¬ (bx - ax=0∧b2 - ay=0))(h0:(bx - ax)*(py - ay) - (b2 - ay)*(px - ax)=0)
  (hc:c=wx*(ay - py) - wy*(ax - px)) (hd:d=wx*(b2 - py) - wy*(bx - px)) (hn:¬ (c=0∧d=0)):(btw px ax bx=true∧btw py ay b2=true)↔c*d≤0:=by
 have h:(bx - ax)*(py - ay)=(b2 - ay)*(px - ax):=by omega
 have p1:=par (wx:=wx) (wy:=wy) h
 have p2:=par (wx:=wy) (wy:=wx) h.symm
 have q1:wx*(py - ay) - wy*(px - ax) = -c:=by
  subst hc;simp only [Int.mul_sub];omega
 have q2:wy*(px - ax) - wx*(py - ay)=c:=by omega
 have r1:wx*(b2 - ay) - wy*(bx - ax)=d - c:=by
  subst hc hd;simp only [Int.mul_sub];omega
 have r2:wy*(bx - ax) - wx*(b2 - ay) = -(d - c):=by omega
 rw [q1,r1] at p1
 rw [q2,r2] at p2
 have p3:(b2 - ay)*(-c)=(py - ay)*(d - c):=by
  rw [Int.mul_neg,p2,Int.mul_neg,Int.neg_neg]
 rw [btw_inb,btw_inb,boxside hne h p1 p3 (by omega)]
 have:d - c - -c=d:=by omega
 rw [this,Int.neg_mul]
 omega
theorem sgn_mul (a b:Int):sgn a*sgn b≤0↔a*b≤0:=by
 unfold sgn
 by_cases a1:a<0 <;> by_cases a2:0<a <;> by_cases b1:b<0 <;> by_cases b2:0<b <;> simp only [a1,a2,b1,b2,if_true,if_false] <;>
  first
  |(exfalso;omega)
  |(have:=Int.mul_pos_of_neg_of_neg a1 b1;omega)
  |(have:=Int.mul_neg_of_neg_of_pos a1 b2;omega)
  |(have:=Int.mul_neg_of_pos_of_neg a2 b1;omega)
  |(have:=Int.mul_pos a2 b2;omega)
  |(have:a=0:=by omega
    subst this;simp)
  |(have:b=0:=by omega
    subst this;simp)
theorem cross_base (a b p q:Int × Int)(h:q=a∨q=b):crossI a b p=(b.1 - a.1)*(p.2 - q.2) - (b.2 - a.2)*(p.1 - q.1):=by
 rcases h with rfl|rfl
 ·rfl
 ·have e1:p.2 - a.2=(p.2 - q.2)+(q.2 - a.2):=by omega
  have e2:p.1 - a.1=(p.1 - q.1)+(q.1 - a.1):=by omega
  have e3:=Int.mul_comm (q.1 - a.1) (q.2 - a.2)
  rw [crossI,e1,e2,Int.mul_add,Int.mul_add]
  omega
theorem onR_side (s t:Sg)(p:Int × Int)(hp:p=t.1∨p=t.2)(hs:s.1≠s.2)(h0:turnS s.1 s.2 p=0)(hn:¬ (turnS t.1 t.2 s.1=0∧turnS t.1 t.2 s.2=0)) :
  onR p s=decide (turnS t.1 t.2 s.1*turnS t.1 t.2 s.2≤0):=by
 have k:=side_sc (wx:=t.2.1 - t.1.1) (wy:=t.2.2 - t.1.2) (px:=p.1) (py:=p.2) (ax:=s.1.1) (ay:=s.1.2) (bx:=s.2.1) (b2:=s.2.2) (by
  intro h;apply hs;exact Prod.ext (by omega) (by omega)) ((turn0 _ _ _).1 h0) (cross_base t.1 t.2 s.1 p hp) (cross_base t.1 t.2 s.2 p hp) (by
  rw [turn0,turn0] at hn;exact hn)
 rw [Bool.eq_iff_iff,decide_eq_true_eq]
 unfold turnS
 rw [sgn_mul,← k,onR,h0]
 simp
theorem onR_off (s:Sg)(p:Int × Int)(h0:turnS s.1 s.2 p≠0):onR p s=false:=by
 unfold onR
 simp [h0]
theorem onR_end (s:Sg)(p:Int × Int)(hp:p=s.1∨p=s.2):onR p s=true:=by
 have h0:turnS s.1 s.2 p=0:=by
  rw [turn0,crossI]
  rcases hp with rfl|rfl
  ·simp
  ·rw [Int.mul_comm];omega
 have hb:∀ a b:Int,btw a a b=true∧btw b a b=true:=by
  intro a b
  simp only [btw,Bool.and_eq_true,decide_eq_true_eq]
  split <;> split <;> omega
 unfold onR
 rw [h0]
 rcases hp with rfl|rfl
 ·simp [(hb _ _).1]
 ·simp [(hb _ _).2]
theorem same_line1 (s t:Sg)(p:Int × Int)(hp:p=t.1∨p=t.2)(ht:t.1≠t.2)(h1:turnS t.1 t.2 s.1=0)(h2:turnS t.1 t.2 s.2=0):turnS s.1 s.2 p=0:=by
 rw [turn0,cross_base t.1 t.2 _ p hp] at h1 h2
 have hw:¬ (t.2.1 - t.1.1=0∧t.2.2 - t.1.2=0):=by
  intro h;apply ht;exact Prod.ext (by omega) (by omega)
 have e1:(t.2.1 - t.1.1)*(s.2.2 - s.1.2)=(t.2.2 - t.1.2)*(s.2.1 - s.1.1):=by
  rw [show s.2.2 - s.1.2=(s.2.2 - p.2) - (s.1.2 - p.2) by omega,show s.2.1 - s.1.1=(s.2.1 - p.1) - (s.1.1 - p.1) by omega,Int.mul_sub,Int.mul_sub (t.2.2 - t.1.2)]
  omega
 have e2:(t.2.1 - t.1.1)*(p.2 - s.1.2)=(t.2.2 - t.1.2)*(p.1 - s.1.1):=by
  rw [show p.2 - s.1.2 = -(s.1.2 - p.2) by omega,show p.1 - s.1.1 = -(s.1.1 - p.1) by omega,Int.mul_neg,Int.mul_neg]
  omega
 have:=para hw e1 e2
 rw [turn0,crossI]
 omega
theorem same_line (s t:Sg)(ht:t.1≠t.2)(h:turnS t.1 t.2 s.1=0∧turnS t.1 t.2 s.2=0):turnS s.1 s.2 t.1=0∧turnS s.1 s.2 t.2=0 :=
 ⟨same_line1 s t _ (.inl rfl) ht h.1 h.2,same_line1 s t _ (.inr rfl) ht h.1 h.2⟩
theorem one_point (s t:Sg)(p q:Int × Int)(hp:p=s.1∨p=s.2)(hq:q=t.1∨q=t.2)(h1:turnS t.1 t.2 p=0)(h2:turnS s.1 s.2 q=0)(hn:¬ (turnS s.1 s.2 t.1=0∧turnS s.1 s.2 t.2=0)):p=q:=by
 rw [turn0,cross_base t.1 t.2 _ q hq] at h1
 have h2':=h2
 rw [turn0,cross_base s.1 s.2 _ p hp] at h2
 have hd:(s.2.1 - s.1.1)*(t.2.2 - t.1.2) - (s.2.2 - s.1.2)*(t.2.1 - t.1.1)≠0:=by
  intro hd
  apply hn
  have e0:crossI s.1 s.2 t.2=crossI s.1 s.2 t.1:=by
   rw [crossI,crossI,show t.2.2 - s.1.2=(t.2.2 - t.1.2)+(t.1.2 - s.1.2) by omega,show t.2.1 - s.1.1=(t.2.1 - t.1.1)+(t.1.1 - s.1.1) by omega,Int.mul_add,Int.mul_add]
   omega
  rw [turn0] at h2'
  rw [turn0,turn0,e0]
  rcases hq with rfl|rfl
  ·exact⟨h2',h2'⟩
  ·rw [← e0];exact⟨h2',h2'⟩
 have e2:(t.2.1 - t.1.1)*(q.2 - p.2)=(t.2.2 - t.1.2)*(q.1 - p.1):=by
  rw [show q.2 - p.2 = -(p.2 - q.2) by omega,show q.1 - p.1 = -(p.1 - q.1) by omega,Int.mul_neg,Int.mul_neg]
  omega
 have:=once hd (by omega) e2
 exact Prod.ext (by omega) (by omega)
def meetR (s t:Sg):Int:=match endsL s t with
 |[]=>if turnS s.1 s.2 t.1*turnS s.1 s.2 t.2<0∧turnS t.1 t.2 s.1*turnS t.1 t.2 s.2<0 then 3 else 0
 |[p]=>if (eqP p s.1=true∨eqP p s.2=true)∧(eqP p t.1=true∨eqP p t.2=true) then 1 else 2
 |_::_::_=>4
theorem eqP_f (a b:Int × Int):eqP a b=false↔a≠b:=by
 rw [ne_eq,← eqP_iff];simp
theorem meet_two (s t:Sg)(hs:s.1≠s.2)(ht:t.1≠t.2)(hn:¬ (turnS s.1 s.2 t.1=0∧turnS s.1 s.2 t.2=0)):meetS s t=meetR s t:=by
 have hn':¬ (turnS t.1 t.2 s.1=0∧turnS t.1 t.2 s.2=0):=fun h=>hn (same_line s t ht h)
 have b3:=fun h0=>onR_side s t t.1 (.inl rfl) hs h0 hn'
 have b4:=fun h0=>onR_side s t t.2 (.inr rfl) hs h0 hn'
 have b1:=fun h0=>onR_side t s s.1 (.inl rfl) ht h0 hn
 have b2:=fun h0=>onR_side t s s.2 (.inr rfl) ht h0 hn
 have f3:=onR_off s t.1
 have f4:=onR_off s t.2
 have f1:=onR_off t s.1
 have f2:=onR_off t s.2
 have o13:=one_point s t s.1 t.1 (.inl rfl) (.inl rfl)
 have o14:=one_point s t s.1 t.2 (.inl rfl) (.inr rfl)
 have o23:=one_point s t s.2 t.1 (.inr rfl) (.inl rfl)
 have o24:=one_point s t s.2 t.2 (.inr rfl) (.inr rfl)
 have g1:=onR_end s s.1 (.inl rfl)
 have g2:=onR_end s s.2 (.inr rfl)
 have g3:=onR_end t t.1 (.inl rfl)
 have g4:=onR_end t t.2 (.inr rfl)
 have z1:turnS s.1 s.2 s.1=0:=by rw [turn0,crossI];simp
 have z2:turnS s.1 s.2 s.2=0:=by rw [turn0,crossI,Int.mul_comm];omega
 have z3:turnS t.1 t.2 t.1=0:=by rw [turn0,crossI];simp
 have z4:turnS t.1 t.2 t.2=0:=by rw [turn0,crossI,Int.mul_comm];omega
 have rf:∀ p,eqP p p=true:=fun p=>(eqP_iff p p).2 rfl
 have n1:turnS s.1 s.2 t.1≠0→eqP s.1 t.1=false∧eqP s.2 t.1=false∧eqP t.1 s.1=false∧eqP t.1 s.2=false:=fun h=>by
  rw [eqP_f,eqP_f,eqP_f,eqP_f]
  exact⟨fun e=>h (e▸z1),fun e=>h (by rw [← e];exact z2),fun e=>h (e▸z1),fun e=>h (by rw [e];exact z2)⟩
 have n2:turnS s.1 s.2 t.2≠0→eqP s.1 t.2=false∧eqP s.2 t.2=false∧eqP t.2 s.1=false∧eqP t.2 s.2=false:=fun h=>by
  rw [eqP_f,eqP_f,eqP_f,eqP_f]
  exact⟨fun e=>h (e▸z1),fun e=>h (by rw [← e];exact z2),fun e=>h (e▸z1),fun e=>h (by rw [e];exact z2)⟩
 have n3:turnS t.1 t.2 s.1≠0→eqP s.1 t.1=false∧eqP s.1 t.2=false∧eqP t.1 s.1=false∧eqP t.2 s.1=false:=fun h=>by
  rw [eqP_f,eqP_f,eqP_f,eqP_f]
  exact⟨fun e=>h (by rw [e];exact z3),fun e=>h (by rw [e];exact z4),fun e=>h (by rw [← e];exact z3),fun e=>h (by rw [← e];exact z4)⟩
 have n4:turnS t.1 t.2 s.2≠0→eqP s.2 t.1=false∧eqP s.2 t.2=false∧eqP t.1 s.2=false∧eqP t.2 s.2=false:=fun h=>by
  rw [eqP_f,eqP_f,eqP_f,eqP_f]
  exact⟨fun e=>h (by rw [e];exact z3),fun e=>h (by rw [e];exact z4),fun e=>h (by rw [← e];exact z3),fun e=>h (by rw [← e];exact z4)⟩
 have o13':turnS t.1 t.2 s.1=0→turnS s.1 s.2 t.1=0→eqP s.1 t.1=true∧eqP t.1 s.1=true:=fun h h'=>by
  have:=o13 h h' hn;rw [eqP_iff,eqP_iff];exact⟨this,this.symm⟩
 have o14':turnS t.1 t.2 s.1=0→turnS s.1 s.2 t.2=0→eqP s.1 t.2=true∧eqP t.2 s.1=true:=fun h h'=>by
  have:=o14 h h' hn;rw [eqP_iff,eqP_iff];exact⟨this,this.symm⟩
 have o23':turnS t.1 t.2 s.2=0→turnS s.1 s.2 t.1=0→eqP s.2 t.1=true∧eqP t.1 s.2=true:=fun h h'=>by
  have:=o23 h h' hn;rw [eqP_iff,eqP_iff];exact⟨this,this.symm⟩
 have o24':turnS t.1 t.2 s.2=0→turnS s.1 s.2 t.2=0→eqP s.2 t.2=true∧eqP t.2 s.2=true:=fun h h'=>by
  have:=o24 h h' hn;rw [eqP_iff,eqP_iff];exact⟨this,this.symm⟩
 clear o13 o14 o23 o24 z1 z2 z3 z4
 unfold meetS
 rw [if_neg hn]
 generalize hA:turnS s.1 s.2 t.1=A at *
 generalize hB:turnS s.1 s.2 t.2=B at *
 generalize hC:turnS t.1 t.2 s.1=C at *
 generalize hD:turnS t.1 t.2 s.2=D at *
 unfold meetR endsL
 rw [hA,hB,hC,hD]
 by_cases h:0<A*B∨0<C*D
 ·have p3:onR t.1 s=false:=by
   by_cases h0:A=0
   ·rw [b3 h0,decide_eq_false_iff_not];subst h0;simp at h;omega
   ·exact f3 h0
  have p4:onR t.2 s=false:=by
   by_cases h0:B=0
   ·rw [b4 h0,decide_eq_false_iff_not];subst h0;simp at h;omega
   ·exact f4 h0
  have p1:onR s.1 t=false:=by
   by_cases h0:C=0
   ·rw [b1 h0,decide_eq_false_iff_not];subst h0;simp at h;omega
   ·exact f1 h0
  have p2:onR s.2 t=false:=by
   by_cases h0:D=0
   ·rw [b2 h0,decide_eq_false_iff_not];subst h0;simp at h;omega
   ·exact f2 h0
  unfold kindS
  rw [if_pos h]
  simp only [addE,p1,p2,p3,p4,g1,g2,g3,g4,Bool.false_eq_true,false_and,and_false,if_false]
  rw [if_neg]
  omega
 ·have hAB:A*B≤0:=by omega
  have hCD:C*D≤0:=by omega
  simp only [hAB,hCD,decide_true] at b1 b2 b3 b4
  unfold kindS
  rw [if_neg h]
  by_cases a0:A=0 <;> by_cases b0:B=0 <;> by_cases c0:C=0 <;> by_cases d0:D=0 <;> simp only [a0,b0,c0,d0,not_true,not_false_eq_true,true_implies,false_implies,ne_eq,and_self,and_true,true_and,and_false,false_and] at hn hn' b1 b2 b3 b4 f1 f2 f3 f4 n1 n2 n3 n4 o13' o14' o23' o24'
  all_goals (simp only [addE,knownS,rf,g1,g2,g3,g4, *,or_self,or_true,true_or,and_self,if_true,Bool.false_eq_true,Bool.or_false,Bool.or_self,Bool.or_true,and_true,true_and,false_and,and_false,if_false,List.nil_append,or_false,false_or,Bool.true_eq_false])
  all_goals (try (simp only [rf, *,or_self,or_true,true_or,and_self,if_true,Bool.false_eq_true,and_true,true_and,false_and,and_false,if_false,or_false,false_or];done))
  have nAB:A*B≠0:=Int.mul_ne_zero a0 b0
  have nCD:C*D≠0:=Int.mul_ne_zero c0 d0
  rw [if_pos ⟨by omega,by omega⟩]
def key (p:Int × Int):Int:=p.1*100000+p.2
theorem ord_key {a b:Int × Int}(ha:rightS a=true)(hb:rightS b=true):ordS a b=cmpI (key a) (key b):=by
 simp only [rightS,Bool.and_eq_true,decide_eq_true_eq] at ha hb
 obtain⟨a1,a2⟩:=a
 obtain⟨b1,b2⟩:=b
 simp only at ha hb
 unfold ordS orI cmpI key
 simp only
 by_cases h1:a1<b1
 ·rw [if_pos h1,if_pos (show a1*100000+a2<b1*100000+b2 by omega)];rfl
 ·by_cases h2:b1<a1
  ·rw [if_neg h1,if_pos h2,if_neg (show ¬ (a1*100000+a2<b1*100000+b2) by omega),if_pos (show b1*100000+b2<a1*100000+a2 by omega)];rfl
  ·rw [if_neg h1,if_neg h2,if_pos rfl]
   have:a1=b1:=by omega
   subst this
   by_cases h3:a2<b2
   ·rw [if_pos h3,if_pos (by omega)]
   ·rw [if_neg h3,if_neg (show ¬ (a1*100000+a2<a1*100000+b2) by omega)]
    by_cases h4:b2<a2
    ·rw [if_pos h4,if_pos (by omega)]
    ·rw [if_neg h4,if_neg (by omega)]
theorem eqP_key {a b:Int × Int}(ha:rightS a=true)(hb:rightS b=true):eqP a b=true↔key a=key b:=by
 simp only [rightS,Bool.and_eq_true,decide_eq_true_eq] at ha hb
 simp only [eqP,Bool.and_eq_true,decide_eq_true_eq,key,and_true]
 omega
theorem eqP_keyf {a b:Int × Int}(ha:rightS a=true)(hb:rightS b=true):eqP a b=false↔key a≠key b:=by
 rw [← Bool.not_eq_true,eqP_key ha hb]
theorem cmp_le (a b:Int):cmpI a b≤0↔a≤b:=by unfold cmpI;split <;> (try split) <;> omega
theorem cmp_lt (a b:Int):cmpI a b<0↔a<b:=by unfold cmpI;split <;> (try split) <;> omega
theorem cmp_gt (a b:Int):0<cmpI a b↔b<a:=by unfold cmpI;split <;> (try split) <;> omega
theorem tbl_cmp (a b:Int):tblS (cmpI a b)=if a<b then 4 else if a=b then 1 else 0:=by
 unfold tblS cmpI
 split
 ·rfl
 ·split
  ·rw [if_neg (by omega),if_neg (by omega),if_neg (by omega)]
  ·rw [if_neg (by omega),if_pos rfl,if_pos (by omega)]
theorem right_two {s:Sg}(h:rightG s=true):rightS s.1=true∧rightS s.2=true∧s.1≠s.2:=by
 simp only [rightG,Bool.and_eq_true,Bool.not_eq_true'] at h
 exact⟨h.1.1,h.1.2,(eqP_f _ _).1 h.2⟩
def kF (p1 p2 p3 p4 e13 e14 e23 e24:Bool):Int :=
 match p1,p2,p3&&!(p1&&e13)&&!(p2&&e23),p4&&!(p1&&e14)&&!(p2&&e24) with
 |false,false,false,false=>0
 |true,false,false,false=>if e13 || e14 then 1 else 2
 |false,true,false,false=>if e23 || e24 then 1 else 2
 |false,false,true,false=>if e13 || e23 then 1 else 2
 |false,false,false,true=>if e14 || e24 then 1 else 2
 |_,_,_,_=>4
set_option maxHeartbeats 2000000 in
theorem collK {k1 k2 k3 k4 a1 a2 b1 b2:Int}(ha:(k1<k2∧a1=k1∧a2=k2)∨(k2<k1∧a1=k2∧a2=k1))(hb:(k3<k4∧b1=k3∧b2=k4)∨(k4<k3∧b1=k4∧b2=k3)) :
  (if (if a1<b1 then b1 else a1)<(if b2<a2 then b2 else a2) then (4:Int) else if (if a1<b1 then b1 else a1)=(if b2<a2 then b2 else a2) then 1 else 0)
   = kF (decide (b1≤k1∧k1≤b2)) (decide (b1≤k2∧k2≤b2)) (decide (a1≤k3∧k3≤a2)) (decide (a1≤k4∧k4≤a2)) (decide (k1=k3)) (decide (k1=k4)) (decide (k2=k3)) (decide (k2=k4)):=by
 rcases ha with ⟨a,xa,ya⟩|⟨a,xa,ya⟩ <;> rcases hb with ⟨b,xb,yb⟩|⟨b,xb,yb⟩ <;>
 by_cases q1:b1≤k1∧k1≤b2 <;> by_cases q2:b1≤k2∧k2≤b2 <;> by_cases q3:a1≤k3∧k3≤a2 <;> by_cases q4:a1≤k4∧k4≤a2 <;> (try (exfalso;omega)) <;>
  by_cases u1:k1=k3 <;> (try (exfalso;omega)) <;> by_cases u2:k1=k4 <;> (try (exfalso;omega)) <;> by_cases u3:k2=k3 <;> (try (exfalso;omega)) <;> by_cases u4:k2=k4 <;> (try (exfalso;omega)) <;>
  (first|rw [decide_eq_true q1]|rw [decide_eq_false q1]) <;> (first|rw [decide_eq_true q2]|rw [decide_eq_false q2]) <;> (first|rw [decide_eq_true q3]|rw [decide_eq_false q3]) <;> (first|rw [decide_eq_true q4]|rw [decide_eq_false q4]) <;>
  (first|rw [decide_eq_true u1]|rw [decide_eq_false u1]) <;> (first|rw [decide_eq_true u2]|rw [decide_eq_false u2]) <;> (first|rw [decide_eq_true u3]|rw [decide_eq_false u3]) <;> (first|rw [decide_eq_true u4]|rw [decide_eq_false u4]) <;>
  simp only [kF,Bool.and_true,Bool.not_true,Bool.and_false,Bool.not_false,Bool.or_true,Bool.or_false,Bool.true_or,if_true,Bool.false_eq_true,if_false,Bool.true_and,Bool.false_and] <;> split <;> split <;> (try split) <;> (try split) <;> omega
theorem eqP_comm (a b:Int × Int):eqP a b=eqP b a:=by
 rw [Bool.eq_iff_iff,eqP_iff,eqP_iff];exact eq_comm
set_option maxHeartbeats 2000000 in
theorem meetR_kF (s t:Sg)(h:turnS s.1 s.2 t.1=0)(n12:eqP s.1 s.2=false)(n34:eqP t.1 t.2=false) :
  meetR s t=kF (onR s.1 t) (onR s.2 t) (onR t.1 s) (onR t.2 s) (eqP s.1 t.1) (eqP s.1 t.2) (eqP s.2 t.1) (eqP s.2 t.2):=by
 have g1:=onR_end s s.1 (.inl rfl)
 have g2:=onR_end s s.2 (.inr rfl)
 have g3:=onR_end t t.1 (.inl rfl)
 have g4:=onR_end t t.2 (.inr rfl)
 have rf:∀ p,eqP p p=true:=fun p=>(eqP_iff p p).2 rfl
 have n21:eqP s.2 s.1=false:=by rw [eqP_comm];exact n12
 have n43:eqP t.2 t.1=false:=by rw [eqP_comm];exact n34
 have c1:=eqP_comm t.1 s.1
 have c2:=eqP_comm t.1 s.2
 have c3:=eqP_comm t.2 s.1
 have c4:=eqP_comm t.2 s.2
 unfold meetR endsL
 simp only [h,addE,g1,g2,g3,g4,true_and]
 generalize onR s.1 t=p1
 generalize onR s.2 t=p2
 generalize onR t.1 s=p3
 generalize onR t.2 s=p4
 generalize he13:eqP s.1 t.1=e13 at *
 generalize he14:eqP s.1 t.2=e14 at *
 generalize he23:eqP s.2 t.1=e23 at *
 generalize he24:eqP s.2 t.2=e24 at *
 clear g1 g2 g3 g4 h
 generalize s.1=P1 at *
 generalize s.2=P2 at *
 generalize t.1=P3 at *
 generalize t.2=P4 at *
 cases p1 <;> cases p2 <;> cases p3 <;> cases p4 <;> simp only [knownS,rf,n12,n21,n34,n43,he13,he14,he23,he24,c1,c2,c3,c4,kF,Bool.false_eq_true,false_and,and_false,and_self,and_true,true_and,if_true,if_false,List.nil_append,Bool.or_false,Bool.false_or,Bool.true_and,Bool.false_and,or_true,true_or,or_false,false_or,Int.zero_mul,Int.lt_irrefl,Bool.not_false,Bool.or_true,Bool.true_or]
 all_goals (cases e13 <;> cases e14 <;> cases e23 <;> cases e24 <;> simp [knownS,rf,n12,n21,n34,n43,he13,he14,he23,he24,c1,c2,c3,c4,kF])
theorem meet_one (s t:Sg)(hs:rightG s=true)(ht:rightG t=true)(h:turnS s.1 s.2 t.1=0∧turnS s.1 s.2 t.2=0):meetS s t=meetR s t:=by
 obtain⟨r1,r2,ns⟩:=right_two hs
 obtain⟨r3,r4,nt⟩:=right_two ht
 have h':=same_line t s ns h
 have n12:key s.1≠key s.2:=(eqP_keyf r1 r2).1 ((eqP_f _ _).2 ns)
 have n34:key t.1≠key t.2:=(eqP_keyf r3 r4).1 ((eqP_f _ _).2 nt)
 have p3:onR t.1 s=betS t.1 s:=by rw [← on_eq _ _ hs,onS,h.1];simp
 have p4:onR t.2 s=betS t.2 s:=by rw [← on_eq _ _ hs,onS,h.2];simp
 have p1:onR s.1 t=betS s.1 t:=by rw [← on_eq _ _ ht,onS,h'.1];simp
 have p2:onR s.2 t=betS s.2 t:=by rw [← on_eq _ _ ht,onS,h'.2];simp
 have es:∃ a,rightS (endsS s).1=true∧rightS (endsS s).2=true∧((key s.1<key s.2∧key (endsS s).1=key s.1∧key (endsS s).2=key s.2)∨(key s.2<key s.1∧key (endsS s).1=key s.2∧key (endsS s).2=key s.1))∧a=true:=by
  refine⟨true,?_⟩
  unfold endsS
  simp only [ord_key r1 r2,cmp_gt]
  by_cases hk:key s.2<key s.1
  ·rw [if_pos hk];exact⟨r2,r1,.inr ⟨hk,rfl,rfl⟩,trivial⟩
  ·rw [if_neg hk];exact⟨r1,r2,.inl ⟨by omega,rfl,rfl⟩,trivial⟩
 have et:∃ a,rightS (endsS t).1=true∧rightS (endsS t).2=true∧((key t.1<key t.2∧key (endsS t).1=key t.1∧key (endsS t).2=key t.2)∨(key t.2<key t.1∧key (endsS t).1=key t.2∧key (endsS t).2=key t.1))∧a=true:=by
  refine⟨true,?_⟩
  unfold endsS
  simp only [ord_key r3 r4,cmp_gt]
  by_cases hk:key t.2<key t.1
  ·rw [if_pos hk];exact⟨r4,r3,.inr ⟨hk,rfl,rfl⟩,trivial⟩
  ·rw [if_neg hk];exact⟨r3,r4,.inl ⟨by omega,rfl,rfl⟩,trivial⟩
 obtain⟨_,ra1,ra2,ha,_⟩:=es
 obtain⟨_,rb1,rb2,hb,_⟩:=et
 rw [meetR_kF s t h.1 ((eqP_f _ _).2 ns) ((eqP_f _ _).2 nt),p1,p2,p3,p4]
 unfold meetS
 rw [if_pos h]
 have hl:rightS (lowS s t)=true∧key (lowS s t)=(if key (endsS s).1<key (endsS t).1 then key (endsS t).1 else key (endsS s).1):=by
  unfold lowS
  simp only [ord_key ra1 rb1,cmp_lt]
  by_cases hk:key (endsS s).1<key (endsS t).1
  ·rw [if_pos hk,if_pos hk];exact⟨rb1,rfl⟩
  ·rw [if_neg hk,if_neg hk];exact⟨ra1,rfl⟩
 have hh:rightS (highS s t)=true∧key (highS s t)=(if key (endsS t).2<key (endsS s).2 then key (endsS t).2 else key (endsS s).2):=by
  unfold highS
  simp only [ord_key rb2 ra2,cmp_lt]
  by_cases hk:key (endsS t).2<key (endsS s).2
  ·rw [if_pos hk,if_pos hk];exact⟨rb2,rfl⟩
  ·rw [if_neg hk,if_neg hk];exact⟨ra2,rfl⟩
 have hbet:∀ (p:Int × Int) (g:Sg),rightS p=true→rightS (endsS g).1=true→rightS (endsS g).2=true→betS p g=decide (key (endsS g).1≤key p∧key p≤key (endsS g).2):=by
  intro p g hp h1 h2
  unfold betS
  rw [ord_key h1 hp,ord_key hp h2,Bool.eq_iff_iff]
  simp only [Bool.and_eq_true,decide_eq_true_eq,cmp_le]
 have heq:∀ a b:Int × Int,rightS a=true→rightS b=true→eqP a b=decide (key a=key b):=by
  intro a b h1 h2
  rw [Bool.eq_iff_iff,decide_eq_true_eq,eqP_key h1 h2]
 rw [ord_key hl.1 hh.1,tbl_cmp,hl.2,hh.2,collK ha hb,hbet _ _ r1 rb1 rb2,hbet _ _ r2 rb1 rb2,hbet _ _ r3 ra1 ra2,hbet _ _ r4 ra1 ra2,heq _ _ r1 r3,heq _ _ r1 r4,heq _ _ r2 r3,heq _ _ r2 r4]
theorem meet_eq (s t:Sg)(hs:rightG s=true)(ht:rightG t=true):meetS s t=meetR s t:=by
 by_cases h:turnS s.1 s.2 t.1=0∧turnS s.1 s.2 t.2=0
 ·exact meet_one s t hs ht h
 ·exact meet_two s t (right_two hs).2.2 (right_two ht).2.2 h
end Go.Aw

noncomputable section
namespace Go.Aw
theorem ObjRen_j {ρ:Nat→Nat}{n sz:Nat}{wr g:Bool}{cs cs':List Value}(hg:allG cs=true)(e:cs'=cs):ObjRen ρ n (.cells wr g sz cs) (.cells wr g sz cs'):=by
 subst e
 exact ObjRen_g hg
theorem flat_append {α:Type}(fl:α→List Value)(l m:List α):flat fl (l++m)=flat fl l++flat fl m:=by
 induction l with
 |nil=>rfl
 |cons a r ih=>simp only [List.cons_append,flat,ih,List.append_assoc]
theorem Yields_own {α:Type}(E:El α){l:List α}{e:Option Int}{h:Heap}{q nx:Nat}(hl:0<l.length)(hq:look h q=some (.cells true false E.sz (flat E.fl l))):Yields E l e (wrapV e (.slice (some ⟨q,0,none⟩) l.length l.length)) h nx:=by
 cases l with
 |nil=>cases hl
 |cons a r=>exact⟨q,rfl,hq⟩
end Go.Aw
end

noncomputable section
namespace Go.Aw
open Go.RowKit
section
variable {α β:Type}(E:El α)
end
section
variable {α:Type}(E:El α)
theorem In_two {a0 b0 a b:Value}{o1 o2:AObj}{h:Heap}{nx n1 c1 n2 c2:Nat}(ha0:a0=.slice (some ⟨0,0,none⟩) n1 c1)(hb0:b0=.slice (some ⟨0,0,none⟩) n2 c2)
  (h1:In [a0] [(0,o1)] 1 [a] h nx) (h2:In [b0] [(0,o2)] 1 [b] h nx) (g1:∃ sz cs,o1=.cells false true sz cs∧allG cs=true) (g2:∃ sz cs,o2=.cells false true sz cs∧allG cs=true) :
  In [a0,.slice (some ⟨1,0,none⟩) n2 c2] [(0,o1),(1,o2)] 2 [a,b] h nx:=by
 subst ha0 hb0
 obtain⟨s1,cs1,rfl,gc1⟩:=g1
 obtain⟨s2,cs2,rfl,gc2⟩:=g2
 intro ι B w H hs
 obtain⟨ι1,e1,k1,R1⟩:=h1 ι B w H (fun v hv=>hs v (by cases hv with|head=>exact .head _|tail _ hm=>cases hm))
 obtain⟨ι2,e2,k2,R2⟩:=h2 ι B w H (fun v hv=>hs v (by cases hv with|head=>exact .tail _ (.head _)|tail _ hm=>cases hm))
 simp only [List.map_cons,List.map_nil,List.cons.injEq,and_true] at e1 e2
 have q1:=R1.obj 0 _ rfl
 have q2:=R2.obj 0 _ rfl
 have kk1:=k1 _ (.head _)
 have kk2:=k2 _ (.head _)
 refine⟨fun k=>if k=0 then ι1 0 else ι2 0,?_,?_,⟨?_,?_,?_,Nat.le_refl _,?_⟩⟩
 ·simp only [List.map_cons,List.map_nil,e1,e2]
  rfl
 ·intro v hv
  cases hv with
  |head=>exact⟨show (0:Nat)<2 by decide,kk1.2⟩
  |tail _ hm =>
   cases hm with
   |head=>exact⟨show (1:Nat)<2 by decide,kk2.2⟩
   |tail _ hm=>cases hm
 ·intro k o hk
  have key:∀ {ι:Nat→Loc} {sz:Nat} {cs:List Value} {loc:Loc} (ι':Nat→Loc),allG cs=true→ORel ι w.heap.size w (.cells false true sz cs) loc→ORel ι' w.heap.size w (.cells false true sz cs) loc:=by
   intro ι sz cs loc ι' hg ho
   cases loc with
   |nil p=>exact ho
   |lay b o e =>
    obtain⟨x1,x2,x3⟩:=ho
    refine⟨x1,x2,fun i v hv=>?_⟩
    rw [x3 i v hv,trS_g (allG_mem hg (List.mem_of_getElem? hv)),trS_g (allG_mem hg (List.mem_of_getElem? hv))]
  rw [look_cons] at hk
  split at hk
  ·rename_i hb
   injection hk with hk
   subst hk
   rw [← beq_true hb]
   exact key _ gc1 q1
  ·rw [look_cons] at hk
   split at hk
   ·rename_i hb
    injection hk with hk
    subst hk
    rw [← beq_true hb]
    exact key _ gc2 q2
   ·exact noLook hk
 ·intro k k' o o' hk hk' hne hal b hb
  exfalso
  rw [look_cons] at hk
  split at hk
  ·injection hk with hk;subst hk;cases hal
  ·rw [look_cons] at hk
   split at hk
   ·injection hk with hk;subst hk;cases hal
   ·exact noLook hk
 ·intro k o hk
  rw [look_cons] at hk
  split at hk
  ·rename_i hb;rw [← beq_true hb];decide
  ·rw [look_cons] at hk
   split at hk
   ·rename_i hb;rw [← beq_true hb];decide
   ·exact noLook hk
 ·intro k o hk
  rw [look_cons] at hk
  split at hk
  ·injection hk with hk;subst hk;exact fun v hv=>scS_g (allG_mem gc1 hv)
  ·rw [look_cons] at hk
   split at hk
   ·injection hk with hk;subst hk;exact fun v hv=>scS_g (allG_mem gc2 hv)
   ·exact noLook hk
theorem In_ls {h:Heap}{nx:Nat}{v:Value}{l:List α}(hl:LsAt E h v l):∃ c,In [.slice (some ⟨0,0,none⟩) l.length c] [(0,.cells false true E.sz (flat E.fl l))] 1 [v] h nx:=by
 unfold LsAt at hl
 split at hl
 ·rename_i n c
  obtain⟨rfl,rfl,rfl⟩:=hl
  exact⟨0,In_nil rfl true E.sz E.pos⟩
 ·rename_i k o n c
  obtain⟨rfl,wr,g,sz,cs,hk,hcs⟩:=hl
  exact⟨c,In_sl rfl hk hcs (flat_g E l) true E.sz E.pos⟩
 ·exact hl.elim
end
end Go.Aw
end

noncomputable section
namespace Go.Aw
open Go.RowKit
theorem In_ren {args0:List Value}{h0:Heap}{n0:Nat}{args:List Value}{h:Heap}{nx:Nat}(ρ:Nat→Nat)(ha:args=args0.map (ren ρ))(hn:∀ v∈args0,nmT n0 v)
  (ho:∀ k o,look h0 k=some o→k<n0∧∃ g sz cs0,o=.cells false g sz cs0∧sz≠0∧(g=true→allG cs0=true)∧(∀ v∈cs0,nmS n0 v)∧∃ wr g' sz' cs,look h (ρ k)=some (.cells wr g' sz' cs)∧cs.take cs0.length=cs0.map (ren1 ρ)) :
  In args0 h0 n0 args h nx:=by
 intro ι B w H hs
 subst ha
 have hsc:∀ v∈args0,scT ι nx (ren ρ v):=fun v hv=>hs _ (List.mem_map.2 ⟨v,hv,rfl⟩)
 refine⟨fun k=>ι (ρ k),?_,fun v hv=>scT_ren (hsc v hv) (hn v hv),⟨fun k o hk=>?_,fun k k' o o' hk hk' hne ha b hb=>?_,fun k o hk=>(ho k o hk).1,Nat.le_refl _,fun k o hk=>?_⟩⟩
 ·rw [List.map_map]
  exact List.map_congr_left fun v hv=>tr_ren (hsc v hv)
 ·obtain⟨_,g,sz,cs0,rfl,hz,hg,hm,wr,g',sz',cs,hl,hc⟩:=ho k o hk
  have hob:=H.obj _ _ hl
  have hso:=H.sc _ _ hl
  cases hι:ι (ρ k) with
  |nil p =>
   rw [hι] at hob
   have h0:cs=[]:=by cases wr <;> exact hob.1
   subst h0
   have:cs0=[]:=by
    cases cs0 with
    |nil=>rfl
    |cons a r=>simp at hc
   subst this
   exact⟨rfl,fun h=>h.elim (fun h=>absurd h hz) (fun h=>by cases h)⟩
  |lay b off e =>
   have hlt:b<w.heap.size:=hob.lt (by rw [hι];rfl)
   refine⟨hlt,hg,fun i v hv=>?_⟩
   have h1:(cs.take cs0.length)[i]? = some (ren1 ρ v):=by rw [hc,List.getElem?_map,hv];rfl
   have hi:i<cs0.length:=(List.getElem?_eq_some_iff.1 hv).1
   rw [List.getElem?_take,if_pos hi] at h1
   obtain⟨b2,off2,e2,hι2,hcell⟩:=H.cell hl h1
   rw [hι] at hι2
   injection hι2 with i1 i2 i3
   subst i1;subst i2
   rw [hcell]
   congr 1
   exact trS_ren (hso _ (List.mem_of_getElem? h1))
 ·obtain⟨_,g,sz,cs0,rfl,_⟩:=ho k o hk
  cases ha
 ·obtain⟨_,g,sz,cs0,rfl,hz,hg,hm,wr,g',sz',cs,hl,hc⟩:=ho k o hk
  intro v hv
  have hso:=H.sc _ _ hl
  have hmem:ren1 ρ v∈cs:=by
   have:ren1 ρ v∈cs.take cs0.length:=by rw [hc];exact List.mem_map.2 ⟨v,hv,rfl⟩
   exact List.mem_of_mem_take this
  exact scS_ren (hso _ hmem) (hm v hv)
structure Cal where
 f:Nat
 args:List Value
 h0:Heap
 n0:Nat
 v1:Value
 h1:Heap
 m:Nat
def sameTL:List Value→List Value→Bool
 |[],[]=>true
 |a::r,b::s=>sameT a b&&sameTL r s
 |_,_=>false
theorem sameTL_eq:∀ {l m:List Value},sameTL l m=true→l=m
 |[],[],_=>rfl
 |[],_::_,h=>by cases h
 |_::_,[],h=>by cases h
 |a::r,b::s,h=>by
  simp only [sameTL,Bool.and_eq_true] at h
  rw [sameT_eq h.1,sameTL_eq h.2]
def nmTL (n:Nat):List Value→Bool
 |[]=>true
 |v::r=>nmTB n v&&nmTL n r
theorem nmTL_ok {n:Nat}:∀ {l:List Value},nmTL n l=true→∀ v∈l,nmT n v
 |[],_,v,hv=>by cases hv
 |x::r,h,v,hv=>by
  simp only [nmTL,Bool.and_eq_true] at h
  cases hv with
  |head=>exact nmTB_ok h.1
  |tail _ hm=>exact nmTL_ok h.2 v hm
def prTL (b:Nat):List Value→List Value→List (Nat × Nat)→List (Nat × Nat)
 |v::l,u::m,r=>prT b v u (prTL b l m r)
 |_,_,r=>r
def readB (ρ:List (Nat × Nat))(n0:Nat)(h:Heap):Heap→Bool
 |[]=>true
 |(k,.cells false g sz cs0)::r=>Nat.blt k n0&&!(Nat.beq sz 0)&&(match g with|true=>allG cs0|false=>true)&&nmLB n0 cs0&&(match look h (nm ρ k) with
  |some (.cells _ _ _ cs)=>sameL (cs.take cs0.length) (cs0.map (ren1 (nm ρ)))
  |_=>false)&&readB ρ n0 h r
 |_=>false
theorem readB_ok {ρ:List (Nat × Nat)}{n0:Nat}{h:Heap}:∀ {h0:Heap},readB ρ n0 h h0=true→∀ k o,look h0 k=some o→k<n0∧∃ g sz cs0,o=.cells false g sz cs0∧sz≠0∧(g=true→allG cs0=true)∧(∀ v∈cs0,nmS n0 v)∧∃ wr g' sz' cs,look h (nm ρ k)=some (.cells wr g' sz' cs)∧cs.take cs0.length=cs0.map (ren1 (nm ρ))
 |[],_,k,o,hk=>by cases hk
 |(j,q)::r,hb,k,o,hk=>by
  unfold readB at hb
  split at hb
  ·rename_i he;cases he
  ·rename_i k' g sz cs0 r' he
   injection he with e1 e2
   injection e1 with e3 e4
   subst e3;subst e4;subst e2
   simp only [Bool.and_eq_true,Bool.not_eq_true'] at hb
   obtain⟨⟨⟨⟨⟨h1,h2⟩,h3⟩,h4⟩,h5⟩,h6⟩:=hb
   rw [look_cons] at hk
   split at hk
   ·rename_i hbq
    have:=beq_true hbq
    subst this
    injection hk with hk
    subst hk
    refine⟨Nat.le_of_ble_eq_true h1,g,sz,cs0,rfl,beq_false h2,fun hg=>by subst hg;exact h3,nmLB_ok h4,?_⟩
    split at h5
    ·rename_i wr g' sz' cs hl
     exact⟨wr,g',sz',cs,hl,sameL_eq h5⟩
    ·cases h5
   ·exact readB_ok h6 k o hk
  ·cases hb
def Cal.rho (E:Cal)(args:List Value)(h:Heap):List (Nat × Nat):=grow 0 E.h0 h 10000 (prTL 0 E.args args []) []
def calFit (E:Cal)(args:List Value)(h:Heap):Bool:=sameTL args (E.args.map (ren (nm (E.rho args h))))&&nmTL E.n0 E.args&&readB (E.rho args h) E.n0 h E.h0
theorem calFit_ok {E:Cal}{args:List Value}{h:Heap}{nx:Nat}(hf:calFit E args h=true):In E.args E.h0 E.n0 args h nx:=by
 simp only [calFit,Bool.and_eq_true] at hf
 exact In_ren _ (sameTL_eq hf.1.1) (nmTL_ok hf.1.2) (readB_ok hf.2)
def calOut (E:Cal):KEB:=fun v h' _=>renB 0 (rhoOf 0 [(0,E.v1)] [(0,v)] E.h1 h') [(0,E.v1)] E.h1 E.m [(0,v)] h'&&cellsH E.h1
def calS (L:List Cal)(f:Nat):Sp:=fun args0 h0 n0 v1 h1 m=>∃ E∈L,E.f=f∧args0=E.args∧h0=E.h0∧n0=E.n0∧v1=E.v1∧h1=E.h1∧m=E.m
def hasC (f:Nat):List Cal→Bool
 |[]=>false
 |E::r=>match Nat.beq E.f f with|true=>true|false=>hasC f r
def calB (f:Nat):List Cal→List Value→Heap→Nat→KEB→Bool
 |[],_,_,_,_=>false
 |E::r,args,h,nx,K=>match Nat.beq E.f f with
  |true=>(match calFit E args h with
   |true=>K (ren (fun k=>nx+k) E.v1) (app (shH nx E.h1) (past E.h1 h)) (nx+E.m)
   |false=>calB f r args h nx K)
  |false=>calB f r args h nx K
theorem calB_ok {f:Nat}(L0:List Cal){args:List Value}{h:Heap}{nx:Nat}{K:KEB}{K':KE}(hK:∀ v h nx,K v h nx=true→K' v h nx):∀ (L:List Cal),(∀ E∈L,E∈L0)→calB f L args h nx K=true→xOf (calS L0 f) args h nx K'
 |[],_,hl=>by cases hl
 |E::r,hsub,hl=>by
  simp only [calB] at hl
  split at hl
  ·rename_i hb
   split at hl
   ·rename_i hf
    exact⟨E.args,E.h0,E.n0,E.v1,E.h1,E.m,⟨E,hsub E (.head _),beq_true hb,rfl,rfl,rfl,rfl,rfl,rfl⟩,calFit_ok hf,hK _ _ _ hl⟩
   ·exact calB_ok L0 hK r (fun E hE=>hsub E (.tail _ hE)) hl
  ·exact calB_ok L0 hK r (fun E hE=>hsub E (.tail _ hE)) hl
abbrev GS:=List Value→Option (Bool × Value)
def gXB (s:GS):List Value→Heap→Nat→KEB→Bool:=fun args h nx K=>match s args with
 |some p=>wmust p.1 (K p.2 h nx)
 |none=>false
def calX (L:List Cal)(S:List (Nat × GS))(f:Nat):Option (List Value→Heap→Nat→KE→Prop):=match hasC f L with
 |true=>some (xOf (calS L f))
 |false=>(match look S f with|some s=>some (gX s)|none=>none)
def calXB (L:List Cal)(S:List (Nat × GS))(f:Nat):Option (List Value→Heap→Nat→KEB→Bool):=match hasC f L with
 |true=>some (calB f L)
 |false=>(match look S f with|some s=>some (gXB s)|none=>none)
theorem calTwX {c:Cfg}{L:List Cal}{S:List (Nat × GS)}(hc:c.X=calX L S):TwX c (calXB L S):=by
 intro f x xb hx hxb args h nx K K' hK hl
 rw [hc] at hx
 unfold calX at hx
 unfold calXB at hxb
 split at hx
 ·rename_i hh
  rw [hh] at hxb
  injection hx with hx
  injection hxb with hxb
  subst hx;subst hxb
  exact calB_ok L hK L (fun _ h=>h) hl
 ·rename_i hh
  rw [hh] at hxb
  simp only at hxb
  split at hx
  ·rename_i s hs
   rw [hs] at hxb
   injection hx with hx
   injection hxb with hxb
   subst hx;subst hxb
   unfold gXB at hl
   unfold gX
   split at hl
   ·rename_i p hp
    rw [hp]
    exact wmust_tw (hK _ _ _) hl
   ·cases hl
  ·cases hx
def CalOK (c:Cfg)(XB:Nat→Option (List Value→Heap→Nat→KEB→Bool))(d:Nat)(E:Cal):Prop:=wcall c XB d false E.f E.args E.h0 E.n0 (calOut E)=true
def GoodC (P:Program)(L:List Cal):Prop:=∀ f,XOK P f (xOf (calS L f))
theorem GoodC.app {P:Program}{L L':List Cal}(h:GoodC P L)(h':GoodC P L'):GoodC P (L++L'):=by
 intro f
 have key:∀ args h nx K,xOf (calS (L++L') f) args h nx K→xOf (calS L f) args h nx K∨xOf (calS L' f) args h nx K:=by
  rintro args h nx K ⟨a,b,c,d,e,g,⟨E,hE,he⟩,q⟩
  rcases List.mem_append.1 hE with hE|hE
  ·exact .inl ⟨a,b,c,d,e,g,⟨E,hE,he⟩,q⟩
  ·exact .inr ⟨a,b,c,d,e,g,⟨E,hE,he⟩,q⟩
 refine⟨fun args hp nx K hx=>?_,fun args hp nx K hx=>?_⟩
 ·rcases key _ _ _ _ hx with hx|hx
  ·exact (h f).1 args hp nx K hx
  ·exact (h' f).1 args hp nx K hx
 ·obtain⟨a,b,c,d,e,g,q1,q2,q3⟩:=hx
  exact⟨_,_,_,q3,fun K' hk=>⟨a,b,c,d,e,g,q1,q2,hk⟩⟩
theorem good_of {P:Program}{c:Cfg}(hc:CfgOK P c){XB:Nat→Option (List Value→Heap→Nat→KEB→Bool)}(hX:TwX c XB){d:Nat}{L:List Cal}(hL:∀ E∈L,CalOK c XB d E):GoodC P L:=by
 intro f
 refine xOf_ok (vcall_ok hc d).1 fun args0 h0 n0 v1 h1 m hs=>?_
 obtain⟨E,hE,rfl,rfl,rfl,rfl,rfl,rfl,rfl⟩:=hs
 have t1:=hL E hE
 have hv:=wcall_tw hX d false E.f E.args E.h0 E.n0 (calOut E) (fun v h nx=>cellsH E.h1=true∧Outc E.v1 E.h1 E.m v h nx) (fun v h nx ho=>by
  simp only [calOut,Bool.and_eq_true] at ho
  exact⟨ho.2,_,renB_ok ho.1⟩) t1
 obtain⟨v,h',nx',k1,k2⟩:=(vcall_ok hc d).2.2.1 _ _ _ _ _ hv
 exact⟨k1.1,_,k2 _ k1.2,fun _ _ _ q=>q⟩
theorem calX_ok {P:Program}{L:List Cal}(h:GoodC P L){S:List (Nat × GS)}(hS:∀ f s,look S f=some s→XOK P f (gX s)):∀ f x,calX L S f=some x→XOK P f x:=by
 intro f x hfx
 unfold calX at hfx
 split at hfx
 ·injection hfx with hfx
  subst hfx
  exact h f
 ·split at hfx
  ·rename_i s hs
   injection hfx with hfx
   subst hfx
   exact hS f s hs
  ·cases hfx
end Go.Aw
end

noncomputable section
namespace Go.Aw
open Go.RowKit
theorem In_agg {a0 b0 a b:Value}{n:Int}{r:List Value}(hr:allGA r=true){h0 h:Heap}{n0 nx:Nat}(i:In [a0,b0] h0 n0 [a,b] h nx)(ha:∃ x y z,a0=.slice x y z)(hb:∃ x y z,b0=.slice x y z) :
  In (.agg #[a0,b0,.int .i64 n]::r) h0 n0 (.agg #[a,b,.int .i64 n]::r) h nx:=by
 intro ι B w H hs
 have hag:scA ι nx (.agg #[a,b,.int .i64 n]):=hs _ (.head _)
 have sa:scS ι nx a:=hag a (by simp)
 have sb:scS ι nx b:=hag b (by simp)
 obtain⟨ι0,e1,e2,e3⟩:=i ι B w H (fun v hv=>by
  simp only [List.mem_cons,List.not_mem_nil,or_false] at hv
  rcases hv with rfl|rfl
  ·exact scT_of_A (scA_of_S sa)
  ·exact scT_of_A (scA_of_S sb))
 simp only [List.map_cons,List.map_nil,List.cons.injEq,and_true] at e1
 obtain⟨x,y,z,rfl⟩:=ha
 obtain⟨x',y',z',rfl⟩:=hb
 have t1:tr ι a=trS ι a:=by rw [tr_of_A (scA_of_S sa),trA_of_S sa]
 have t2:tr ι b=trS ι b:=by rw [tr_of_A (scA_of_S sb),trA_of_S sb]
 refine⟨ι0,?_,?_,e3⟩
 ·rw [List.map_cons,List.map_cons]
  congr 1
  ·show Value.agg (Array.map (trS ι) #[a,b,.int .i64 n])=Value.agg (Array.map (trS ι0) #[_,_,.int .i64 n])
   simp only [List.map_toArray,List.map_cons,List.map_nil]
   rw [← t1,← t2,e1.1,e1.2]
   rfl
  ·exact List.map_congr_left fun v hv=>by rw [tr_g (allGA_mem hr hv),tr_g (allGA_mem hr hv)]
 ·intro v hv
  cases hv with
  |head =>
   intro u hu
   simp only [List.mem_cons,List.not_mem_nil,or_false] at hu
   rcases hu with rfl|rfl|rfl
   ·exact e2 _ (.head _)
   ·exact e2 _ (.tail _ (.head _))
   ·exact scS_g rfl
  |tail _ hm=>exact scT_g (allGA_mem hr hm)
section
variable {α β:Type}(E:El α)(G:El β)
def mapV2 (n m:Nat)(c1 c2:Nat)(k:Int):Value:=.agg #[.slice (some ⟨0,0,none⟩) n c1,.slice (some ⟨1,0,none⟩) m c2,.int .i64 k]
def mapH2 (l:List α)(m:List β):Heap:=[(0,.cells false true E.sz (flat E.fl l)),(1,.cells false true G.sz (flat G.fl m))]
def mX (s:List α→List β→Int→List Value→Option (Bool × Value)):XF:=fun args h nx K=>match args with
 |.agg ⟨[p,q,.int .i64 n]⟩::r=>∃ l m,LsAt E h p l∧LsAt G h q m∧(match s l m n r with|some pr=>must pr.1 (K pr.2 h nx)|none=>False)
 |_=>False
theorem In_map {p q:Value}{n:Int}{r:List Value}(hr:allGA r=true){h:Heap}{nx:Nat}{l:List α}{m:List β}(hl:LsAt E h p l)(hm:LsAt G h q m) :
  ∃ c1 c2,In (mapV2 l.length m.length c1 c2 n::r) (mapH2 E G l m) 2 (.agg #[p,q,.int .i64 n]::r) h nx:=by
 obtain⟨c1,i1⟩:=In_ls (nx:=nx) E hl
 obtain⟨c2,i2⟩:=In_ls (nx:=nx) G hm
 exact⟨c1,c2,In_agg hr (In_two rfl rfl i1 i2 ⟨_,_,rfl,flat_g E l⟩ ⟨_,_,rfl,flat_g G m⟩) ⟨_,_,_,rfl⟩ ⟨_,_,_,rfl⟩⟩
theorem mX_ok {P:Program}{C:VC}{f:Nat}{s:List α→List β→Int→List Value→Option (Bool × Value)}(hC:CallsOK P C)
  (hs:∀ l m n r v,s l m n r=some (true,v)→allGA r=true∧gT v=true∧∀ c1 c2,C f (mapV2 l.length m.length c1 c2 n::r) (mapH2 E G l m) 2 (fun u _ _=>u=v)):XOK P f (mX E G s):=by
 refine (xOf_ok (S:=fun args0 h0 n0 v1 h1 k=>∃ l m n r c1 c2,s l m n r=some (true,v1)∧args0=mapV2 l.length m.length c1 c2 n::r∧h0=mapH2 E G l m∧n0=2∧h1=[]∧k=0) hC ?_).mono ?_ ?_
 ·rintro args0 h0 n0 v1 h1 k ⟨l,m,n,r,c1,c2,e1,rfl,rfl,rfl,rfl,rfl⟩
  obtain⟨a1,a2,a3⟩:=hs l m n r v1 e1
  exact⟨rfl,_,a3 c1 c2,fun v h nx e=>by rw [e];exact Outc_g a2⟩
 ·intro args h nx K hx
  unfold mX at hx
  split at hx
  case h_2=>exact hx.elim
  rename_i p q n r
  obtain⟨l,m,hl,hm,hx⟩:=hx
  split at hx
  case h_2=>exact hx.elim
  rename_i pr e1
  obtain⟨bb,u⟩:=pr
  obtain⟨rfl,hx⟩:=must_iff.1 hx
  obtain⟨a1,a2,a3⟩:=hs l m n r u e1
  obtain⟨c1,c2,i⟩:=In_map (n:=n) (nx:=nx) E G a1 hl hm
  refine⟨_,_,2,u,[],0,⟨l,m,n,r,c1,c2,e1,rfl,rfl,rfl,rfl,rfl⟩,i,?_⟩
  simp only [past,ownH,shH,app_nil,ren_g a2,Nat.add_zero]
  exact hx
 ·intro args h nx K hx
  unfold mX at hx
  split at hx
  case h_2=>exact hx.elim
  rename_i p q n r
  obtain⟨l,m,hl,hm,hx⟩:=hx
  split at hx
  case h_2=>exact hx.elim
  rename_i pr e1
  obtain⟨hb,hx⟩:=must_iff.1 hx
  exact⟨pr.2,h,nx,hx,fun K' hk=>⟨l,m,hl,hm,by rw [e1];exact must_of hb hk⟩⟩
end
end Go.Aw
end
