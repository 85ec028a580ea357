/-
  Parts of the proof, put together. No condition.
-/
import Derived.Test.YtjahkcbdecgbhaaGreatQAs
set_option linter.unusedSimpArgs false
set_option linter.unusedVariables false
namespace Go.Aw
def lR (p:Int × Int):List (Int × Int)→Bool
 |[]=>false
 |q::r=>jE q p || lR p r
def lI (s t:Sg)(out:List (Int × Int))(p:Int × Int):List (Int × Int):=if oU p s=true∧oU p t=true∧lR p out=false then out++[p] else out
def pU (s t:Sg):List (Int × Int):=lI s t (lI s t (lI s t (lI s t [] s.1) s.2) t.1) t.2
theorem iT (a b:Int × Int):jE a b=true↔a=b:=by
 obtain⟨a1,a2⟩:=a;obtain⟨b1,b2⟩:=b;simp [jE]
theorem T7 (n a b:Int):U0 n a b=true↔LB (b - a) (n - a):=by
 simp only [U0,LB,Bool.and_eq_true,decide_eq_true_eq];split <;> split <;> (try split) <;> (try split) <;> omega
theorem aCI {ax ay bx b2 px py wx wy c d:Int}(hne:¬ (bx - ax=0∧b2 - ay=0))(h0:(bx - ax)*(py - ay) - (b2 - ay)*(px - ax)=0)
  (hc:c=wx*(ay - py) - wy*(ax - px)) (hd:d=wx*(b2 - py) - wy*(bx - px)) (hn:¬ (c=0∧d=0)):(U0 px ax bx=true∧U0 py ay b2=true)↔c*d≤0:=by
 have h:(bx - ax)*(py - ay)=(b2 - ay)*(px - ax):=(by omega);have p1:=par (wx:=wx) (wy:=wy) h;have p2:=par (wx:=wy) (wy:=wx) h.symm;have q1:wx*(py - ay) - wy*(px - ax) = -c:=by
  subst hc;simp only [Int.mul_sub];omega
 have q2:wy*(px - ax) - wx*(py - ay)=c:=(by omega);have r1:wx*(b2 - ay) - wy*(bx - ax)=d - c:=by
  subst hc hd;simp only [Int.mul_sub];omega
 have r2:wy*(bx - ax) - wx*(b2 - ay) = -(d - c):=(by omega);rw [q1,r1] at p1;rw [q2,r2] at p2;have p3:(b2 - ay)*(-c)=(py - ay)*(d - c):=by
  rw [Int.mul_neg,p2,Int.mul_neg,Int.neg_neg]
 rw [T7,T7,aCC hne h p1 p3 (by omega)];have:d - c - -c=d:=(by omega);rw [this,Int.neg_mul];omega
theorem aBX (a b:Int):U2 a*U2 b≤0↔a*b≤0:=by
 unfold U2
 by_cases a1:a<0 <;> by_cases a2:0<a <;> by_cases b1:b<0 <;> by_cases b2:0<b <;> simp only [a1,a2,b1,b2,if_true,if_false] <;>
  first
  |(exfalso;omega)
  |(have:=Int.mul_pos_of_neg_of_neg a1 b1;omega)
  |(have:=Int.mul_neg_of_neg_of_pos a1 b2;omega)
  |(have:=Int.mul_neg_of_pos_of_neg a2 b1;omega)
  |(have:=Int.mul_pos a2 b2;omega)
  |(have:a=0:=by omega
    subst this;simp)
  |(have:b=0:=by omega
    subst this;simp)
theorem nM (a b p q:Int × Int)(h:q=a∨q=b):bB a b p=(b.1 - a.1)*(p.2 - q.2) - (b.2 - a.2)*(p.1 - q.1):=by
 rcases h with rfl|rfl
 ·rfl
 ·have e1:p.2 - a.2=(p.2 - q.2)+(q.2 - a.2):=(by omega);have e2:p.1 - a.1=(p.1 - q.1)+(q.1 - a.1):=(by omega);have e3:=Int.mul_comm (q.1 - a.1) (q.2 - a.2);rw [bB,e1,e2,Int.mul_add,Int.mul_add];omega
theorem yH (s t:Sg)(p:Int × Int)(hp:p=t.1∨p=t.2)(hs:s.1≠s.2)(h0:aZ s.1 s.2 p=0)(hn:¬ (aZ t.1 t.2 s.1=0∧aZ t.1 t.2 s.2=0)) :
  oU p s=decide (aZ t.1 t.2 s.1*aZ t.1 t.2 s.2≤0):=by
 have k:=aCI (wx:=t.2.1 - t.1.1) (wy:=t.2.2 - t.1.2) (px:=p.1) (py:=p.2) (ax:=s.1.1) (ay:=s.1.2) (bx:=s.2.1) (b2:=s.2.2) (by
  intro h;apply hs;exact Prod.ext (by omega) (by omega)) ((lW _ _ _).1 h0) (nM t.1 t.2 s.1 p hp) (nM t.1 t.2 s.2 p hp) (by
  rw [lW,lW] at hn;exact hn)
 rw [Bool.eq_iff_iff,decide_eq_true_eq];unfold aZ;rw [aBX,← k,oU,h0];simp
theorem C4 (s:Sg)(p:Int × Int)(h0:aZ s.1 s.2 p≠0):oU p s=false:=by
 unfold oU;simp [h0]
theorem nZ (s:Sg)(p:Int × Int)(hp:p=s.1∨p=s.2):oU p s=true:=by
 have h0:aZ s.1 s.2 p=0:=by
  rw [lW,bB];rcases hp with rfl|rfl
  ·simp
  ·rw [Int.mul_comm];omega
 have hb:∀ a b:Int,U0 a a b=true∧U0 b a b=true:=by
  intro a b;simp only [U0,Bool.and_eq_true,decide_eq_true_eq];split <;> split <;> omega
 unfold oU;rw [h0];rcases hp with rfl|rfl
 ·simp [(hb _ _).1]
 ·simp [(hb _ _).2]
theorem D2 (s t:Sg)(p:Int × Int)(hp:p=t.1∨p=t.2)(ht:t.1≠t.2)(h1:aZ t.1 t.2 s.1=0)(h2:aZ t.1 t.2 s.2=0):aZ s.1 s.2 p=0:=by
 rw [lW,nM t.1 t.2 _ p hp] at h1 h2;have hw:¬ (t.2.1 - t.1.1=0∧t.2.2 - t.1.2=0):=by
  intro h;apply ht;exact Prod.ext (by omega) (by omega)
 have e1:(t.2.1 - t.1.1)*(s.2.2 - s.1.2)=(t.2.2 - t.1.2)*(s.2.1 - s.1.1):=by
  rw [show s.2.2 - s.1.2=(s.2.2 - p.2) - (s.1.2 - p.2) by omega,show s.2.1 - s.1.1=(s.2.1 - p.1) - (s.1.1 - p.1) by omega,Int.mul_sub,Int.mul_sub (t.2.2 - t.1.2)];omega
 have e2:(t.2.1 - t.1.1)*(p.2 - s.1.2)=(t.2.2 - t.1.2)*(p.1 - s.1.1):=by
  rw [show p.2 - s.1.2 = -(s.1.2 - p.2) by omega,show p.1 - s.1.1 = -(s.1.1 - p.1) by omega,Int.mul_neg,Int.mul_neg];omega
 have:=para hw e1 e2;rw [lW,bB];omega
theorem HD (s t:Sg)(ht:t.1≠t.2)(h:aZ t.1 t.2 s.1=0∧aZ t.1 t.2 s.2=0):aZ s.1 s.2 t.1=0∧aZ s.1 s.2 t.2=0 :=
 ⟨D2 s t _ (.inl rfl) ht h.1 h.2,D2 s t _ (.inr rfl) ht h.1 h.2⟩
theorem tR (s t:Sg)(p q:Int × Int)(hp:p=s.1∨p=s.2)(hq:q=t.1∨q=t.2)(h1:aZ t.1 t.2 p=0)(h2:aZ s.1 s.2 q=0)(hn:¬ (aZ s.1 s.2 t.1=0∧aZ s.1 s.2 t.2=0)):p=q:=by
 rw [lW,nM t.1 t.2 _ q hq] at h1;have h2':=h2;rw [lW,nM s.1 s.2 _ p hp] at h2;have hd:(s.2.1 - s.1.1)*(t.2.2 - t.1.2) - (s.2.2 - s.1.2)*(t.2.1 - t.1.1)≠0:=by
  intro hd;apply hn;have e0:bB s.1 s.2 t.2=bB s.1 s.2 t.1:=by
   rw [bB,bB,show t.2.2 - s.1.2=(t.2.2 - t.1.2)+(t.1.2 - s.1.2) by omega,show t.2.1 - s.1.1=(t.2.1 - t.1.1)+(t.1.1 - s.1.1) by omega,Int.mul_add,Int.mul_add];omega
  rw [lW] at h2';rw [lW,lW,e0];rcases hq with rfl|rfl
  ·exact⟨h2',h2'⟩
  ·rw [← e0];exact⟨h2',h2'⟩
 have e2:(t.2.1 - t.1.1)*(q.2 - p.2)=(t.2.2 - t.1.2)*(q.1 - p.1):=by
  rw [show q.2 - p.2 = -(p.2 - q.2) by omega,show q.1 - p.1 = -(p.1 - q.1) by omega,Int.mul_neg,Int.mul_neg];omega
 have:=once hd (by omega) e2;exact Prod.ext (by omega) (by omega)
def n7 (s t:Sg):Int:=match pU s t with
 |[]=>if aZ s.1 s.2 t.1*aZ s.1 s.2 t.2<0∧aZ t.1 t.2 s.1*aZ t.1 t.2 s.2<0 then 3 else 0
 |[p]=>if (jE p s.1=true∨jE p s.2=true)∧(jE p t.1=true∨jE p t.2=true) then 1 else 2
 |_::_::_=>4
theorem jC (a b:Int × Int):jE a b=false↔a≠b:=by
 rw [ne_eq,← iT];simp
theorem aAx (s t:Sg)(hs:s.1≠s.2)(ht:t.1≠t.2)(hn:¬ (aZ s.1 s.2 t.1=0∧aZ s.1 s.2 t.2=0)):rD s t=n7 s t:=by
 have hn':¬ (aZ t.1 t.2 s.1=0∧aZ t.1 t.2 s.2=0):=fun h=>hn (HD s t ht h);have b3:=fun h0=>yH s t t.1 (.inl rfl) hs h0 hn';have b4:=fun h0=>yH s t t.2 (.inr rfl) hs h0 hn';have b1:=fun h0=>yH t s s.1 (.inl rfl) ht h0 hn;have b2:=fun h0=>yH t s s.2 (.inr rfl) ht h0 hn;have f3:=C4 s t.1;have f4:=C4 s t.2;have f1:=C4 t s.1;have f2:=C4 t s.2;have o13:=tR s t s.1 t.1 (.inl rfl) (.inl rfl);have o14:=tR s t s.1 t.2 (.inl rfl) (.inr rfl);have o23:=tR s t s.2 t.1 (.inr rfl) (.inl rfl);have o24:=tR s t s.2 t.2 (.inr rfl) (.inr rfl);have g1:=nZ s s.1 (.inl rfl);have g2:=nZ s s.2 (.inr rfl);have g3:=nZ t t.1 (.inl rfl);have g4:=nZ t t.2 (.inr rfl);have z1:aZ s.1 s.2 s.1=0:=(by rw [lW,bB];simp);have z2:aZ s.1 s.2 s.2=0:=(by rw [lW,bB,Int.mul_comm];omega);have z3:aZ t.1 t.2 t.1=0:=(by rw [lW,bB];simp);have z4:aZ t.1 t.2 t.2=0:=(by rw [lW,bB,Int.mul_comm];omega);have rf:∀ p,jE p p=true:=fun p=>(iT p p).2 rfl;have n1:aZ s.1 s.2 t.1≠0→jE s.1 t.1=false∧jE s.2 t.1=false∧jE t.1 s.1=false∧jE t.1 s.2=false:=fun h=>by
  rw [jC,jC,jC,jC];exact⟨fun e=>h (e▸z1),fun e=>h (by rw [← e];exact z2),fun e=>h (e▸z1),fun e=>h (by rw [e];exact z2)⟩
 have n2:aZ s.1 s.2 t.2≠0→jE s.1 t.2=false∧jE s.2 t.2=false∧jE t.2 s.1=false∧jE t.2 s.2=false:=fun h=>by
  rw [jC,jC,jC,jC];exact⟨fun e=>h (e▸z1),fun e=>h (by rw [← e];exact z2),fun e=>h (e▸z1),fun e=>h (by rw [e];exact z2)⟩
 have n3:aZ t.1 t.2 s.1≠0→jE s.1 t.1=false∧jE s.1 t.2=false∧jE t.1 s.1=false∧jE t.2 s.1=false:=fun h=>by
  rw [jC,jC,jC,jC];exact⟨fun e=>h (by rw [e];exact z3),fun e=>h (by rw [e];exact z4),fun e=>h (by rw [← e];exact z3),fun e=>h (by rw [← e];exact z4)⟩
 have n4:aZ t.1 t.2 s.2≠0→jE s.2 t.1=false∧jE s.2 t.2=false∧jE t.1 s.2=false∧jE t.2 s.2=false:=fun h=>by
  rw [jC,jC,jC,jC];exact⟨fun e=>h (by rw [e];exact z3),fun e=>h (by rw [e];exact z4),fun e=>h (by rw [← e];exact z3),fun e=>h (by rw [← e];exact z4)⟩
 have o13':aZ t.1 t.2 s.1=0→aZ s.1 s.2 t.1=0→jE s.1 t.1=true∧jE t.1 s.1=true:=fun h h'=>by
  have:=o13 h h' hn;rw [iT,iT];exact⟨this,this.symm⟩
 have o14':aZ t.1 t.2 s.1=0→aZ s.1 s.2 t.2=0→jE s.1 t.2=true∧jE t.2 s.1=true:=fun h h'=>by
  have:=o14 h h' hn;rw [iT,iT];exact⟨this,this.symm⟩
 have o23':aZ t.1 t.2 s.2=0→aZ s.1 s.2 t.1=0→jE s.2 t.1=true∧jE t.1 s.2=true:=fun h h'=>by
  have:=o23 h h' hn;rw [iT,iT];exact⟨this,this.symm⟩
 have o24':aZ t.1 t.2 s.2=0→aZ s.1 s.2 t.2=0→jE s.2 t.2=true∧jE t.2 s.2=true:=fun h h'=>by
  have:=o24 h h' hn;rw [iT,iT];exact⟨this,this.symm⟩
 clear o13 o14 o23 o24 z1 z2 z3 z4;unfold rD;rw [if_neg hn];generalize hA:aZ s.1 s.2 t.1=A at *;generalize hB:aZ s.1 s.2 t.2=B at *;generalize hC:aZ t.1 t.2 s.1=C at *;generalize hD:aZ t.1 t.2 s.2=D at *;unfold n7 pU;rw [hA,hB,hC,hD];by_cases h:0<A*B∨0<C*D
 ·have p3:oU t.1 s=false:=by
   by_cases h0:A=0
   ·rw [b3 h0,decide_eq_false_iff_not];subst h0;simp at h;omega
   ·exact f3 h0
  have p4:oU t.2 s=false:=by
   by_cases h0:B=0
   ·rw [b4 h0,decide_eq_false_iff_not];subst h0;simp at h;omega
   ·exact f4 h0
  have p1:oU s.1 t=false:=by
   by_cases h0:C=0
   ·rw [b1 h0,decide_eq_false_iff_not];subst h0;simp at h;omega
   ·exact f1 h0
  have p2:oU s.2 t=false:=by
   by_cases h0:D=0
   ·rw [b2 h0,decide_eq_false_iff_not];subst h0;simp at h;omega
   ·exact f2 h0
  unfold R0;rw [if_pos h];simp only [lI,p1,p2,p3,p4,g1,g2,g3,g4,Bool.false_eq_true,false_and,and_false,if_false];rw [if_neg];omega
 ·have hAB:A*B≤0:=(by omega);have hCD:C*D≤0:=(by omega);simp only [hAB,hCD,decide_true] at b1 b2 b3 b4;unfold R0;rw [if_neg h];by_cases a0:A=0 <;> by_cases b0:B=0 <;> by_cases c0:C=0 <;> by_cases d0:D=0 <;> simp only [a0,b0,c0,d0,not_true,not_false_eq_true,true_implies,false_implies,ne_eq,and_self,and_true,true_and,and_false,false_and] at hn hn' b1 b2 b3 b4 f1 f2 f3 f4 n1 n2 n3 n4 o13' o14' o23' o24'
  all_goals (simp only [lI,lR,rf,g1,g2,g3,g4, *,or_self,or_true,true_or,and_self,if_true,Bool.false_eq_true,Bool.or_false,Bool.or_self,Bool.or_true,and_true,true_and,false_and,and_false,if_false,List.nil_append,or_false,false_or,Bool.true_eq_false])
  all_goals (try (simp only [rf, *,or_self,or_true,true_or,and_self,if_true,Bool.false_eq_true,and_true,true_and,false_and,and_false,if_false,or_false,false_or];done))
  have nAB:A*B≠0:=Int.mul_ne_zero a0 b0;have nCD:C*D≠0:=Int.mul_ne_zero c0 d0;rw [if_pos ⟨by omega,by omega⟩]
def key (p:Int × Int):Int:=p.1*100000+p.2
theorem qN {a b:Int × Int}(ha:bQ a=true)(hb:bQ b=true):j7 a b=iS (key a) (key b):=by
 simp only [bQ,Bool.and_eq_true,decide_eq_true_eq] at ha hb;obtain⟨a1,a2⟩:=a;obtain⟨b1,b2⟩:=b;simp only at ha hb;unfold j7 XA iS key;simp only;by_cases h1:a1<b1
 ·rw [if_pos h1,if_pos (show a1*100000+a2<b1*100000+b2 by omega)];rfl
 ·by_cases h2:b1<a1
  ·rw [if_neg h1,if_pos h2,if_neg (show ¬ (a1*100000+a2<b1*100000+b2) by omega),if_pos (show b1*100000+b2<a1*100000+a2 by omega)];rfl
  ·rw [if_neg h1,if_neg h2,if_pos rfl];have:a1=b1:=(by omega);subst this;by_cases h3:a2<b2
   ·rw [if_pos h3,if_pos (by omega)]
   ·rw [if_neg h3,if_neg (show ¬ (a1*100000+a2<a1*100000+b2) by omega)];by_cases h4:b2<a2
    ·rw [if_pos h4,if_pos (by omega)]
    ·rw [if_neg h4,if_neg (by omega)]
theorem RX {a b:Int × Int}(ha:bQ a=true)(hb:bQ b=true):jE a b=true↔key a=key b:=by
 simp only [bQ,Bool.and_eq_true,decide_eq_true_eq] at ha hb;simp only [jE,Bool.and_eq_true,decide_eq_true_eq,key,and_true];omega
theorem MR {a b:Int × Int}(ha:bQ a=true)(hb:bQ b=true):jE a b=false↔key a≠key b:=by
 rw [← Bool.not_eq_true,RX ha hb]
theorem aF4 (a b:Int):iS a b≤0↔a≤b:=by unfold iS;split <;> (try split) <;> omega
theorem aAP (a b:Int):iS a b<0↔a<b:=by unfold iS;split <;> (try split) <;> omega
theorem ZE (a b:Int):0<iS a b↔b<a:=by unfold iS;split <;> (try split) <;> omega
theorem aCJ (a b:Int):aCy (iS a b)=if a<b then 4 else if a=b then 1 else 0:=by
 unfold aCy iS;split
 ·rfl
 ·split
  ·rw [if_neg (by omega),if_neg (by omega),if_neg (by omega)]
  ·rw [if_neg (by omega),if_pos rfl,if_pos (by omega)]
theorem uD {s:Sg}(h:dQ s=true):bQ s.1=true∧bQ s.2=true∧s.1≠s.2:=by
 simp only [dQ,Bool.and_eq_true,Bool.not_eq_true'] at h;exact⟨h.1.1,h.1.2,(jC _ _).1 h.2⟩
def kF (p1 p2 p3 p4 e13 e14 e23 e24:Bool):Int :=
 match p1,p2,p3&&!(p1&&e13)&&!(p2&&e23),p4&&!(p1&&e14)&&!(p2&&e24) with
 |false,false,false,false=>0
 |true,false,false,false=>if e13 || e14 then 1 else 2
 |false,true,false,false=>if e23 || e24 then 1 else 2
 |false,false,true,false=>if e13 || e23 then 1 else 2
 |false,false,false,true=>if e14 || e24 then 1 else 2
 |_,_,_,_=>4
set_option maxHeartbeats 2000000 in
theorem aIv {k1 k2 k3 k4 a1 a2 b1 b2:Int}(ha:(k1<k2∧a1=k1∧a2=k2)∨(k2<k1∧a1=k2∧a2=k1))(hb:(k3<k4∧b1=k3∧b2=k4)∨(k4<k3∧b1=k4∧b2=k3)) :
  (if (if a1<b1 then b1 else a1)<(if b2<a2 then b2 else a2) then (4:Int) else if (if a1<b1 then b1 else a1)=(if b2<a2 then b2 else a2) then 1 else 0)
   = kF (decide (b1≤k1∧k1≤b2)) (decide (b1≤k2∧k2≤b2)) (decide (a1≤k3∧k3≤a2)) (decide (a1≤k4∧k4≤a2)) (decide (k1=k3)) (decide (k1=k4)) (decide (k2=k3)) (decide (k2=k4)):=by
 rcases ha with ⟨a,xa,ya⟩|⟨a,xa,ya⟩ <;> rcases hb with ⟨b,xb,yb⟩|⟨b,xb,yb⟩ <;>
 by_cases q1:b1≤k1∧k1≤b2 <;> by_cases q2:b1≤k2∧k2≤b2 <;> by_cases q3:a1≤k3∧k3≤a2 <;> by_cases q4:a1≤k4∧k4≤a2 <;> (try (exfalso;omega)) <;>
  by_cases u1:k1=k3 <;> (try (exfalso;omega)) <;> by_cases u2:k1=k4 <;> (try (exfalso;omega)) <;> by_cases u3:k2=k3 <;> (try (exfalso;omega)) <;> by_cases u4:k2=k4 <;> (try (exfalso;omega)) <;>
  (first|rw [decide_eq_true q1]|rw [decide_eq_false q1]) <;> (first|rw [decide_eq_true q2]|rw [decide_eq_false q2]) <;> (first|rw [decide_eq_true q3]|rw [decide_eq_false q3]) <;> (first|rw [decide_eq_true q4]|rw [decide_eq_false q4]) <;>
  (first|rw [decide_eq_true u1]|rw [decide_eq_false u1]) <;> (first|rw [decide_eq_true u2]|rw [decide_eq_false u2]) <;> (first|rw [decide_eq_true u3]|rw [decide_eq_false u3]) <;> (first|rw [decide_eq_true u4]|rw [decide_eq_false u4]) <;>
  simp only [kF,Bool.and_true,Bool.not_true,Bool.and_false,Bool.not_false,Bool.or_true,Bool.or_false,Bool.true_or,if_true,Bool.false_eq_true,if_false,Bool.true_and,Bool.false_and] <;> split <;> split <;> (try split) <;> (try split) <;> omega
theorem pO (a b:Int × Int):jE a b=jE b a:=by
 rw [Bool.eq_iff_iff,iT,iT];exact eq_comm
set_option maxHeartbeats 2000000 in
theorem ZA (s t:Sg)(h:aZ s.1 s.2 t.1=0)(n12:jE s.1 s.2=false)(n34:jE t.1 t.2=false) :
  n7 s t=kF (oU s.1 t) (oU s.2 t) (oU t.1 s) (oU t.2 s) (jE s.1 t.1) (jE s.1 t.2) (jE s.2 t.1) (jE s.2 t.2):=by
 have g1:=nZ s s.1 (.inl rfl);have g2:=nZ s s.2 (.inr rfl);have g3:=nZ t t.1 (.inl rfl);have g4:=nZ t t.2 (.inr rfl);have rf:∀ p,jE p p=true:=fun p=>(iT p p).2 rfl;have n21:jE s.2 s.1=false:=(by rw [pO];exact n12);have n43:jE t.2 t.1=false:=(by rw [pO];exact n34);have c1:=pO t.1 s.1;have c2:=pO t.1 s.2;have c3:=pO t.2 s.1;have c4:=pO t.2 s.2;unfold n7 pU;simp only [h,lI,g1,g2,g3,g4,true_and];generalize oU s.1 t=p1;generalize oU s.2 t=p2;generalize oU t.1 s=p3;generalize oU t.2 s=p4;generalize he13:jE s.1 t.1=e13 at *;generalize he14:jE s.1 t.2=e14 at *;generalize he23:jE s.2 t.1=e23 at *;generalize he24:jE s.2 t.2=e24 at *;clear g1 g2 g3 g4 h;generalize s.1=P1 at *;generalize s.2=P2 at *;generalize t.1=P3 at *;generalize t.2=P4 at *;cases p1 <;> cases p2 <;> cases p3 <;> cases p4 <;> simp only [lR,rf,n12,n21,n34,n43,he13,he14,he23,he24,c1,c2,c3,c4,kF,Bool.false_eq_true,false_and,and_false,and_self,and_true,true_and,if_true,if_false,List.nil_append,Bool.or_false,Bool.false_or,Bool.true_and,Bool.false_and,or_true,true_or,or_false,false_or,Int.zero_mul,Int.lt_irrefl,Bool.not_false,Bool.or_true,Bool.true_or]
 all_goals (cases e13 <;> cases e14 <;> cases e23 <;> cases e24 <;> simp [lR,rf,n12,n21,n34,n43,he13,he14,he23,he24,c1,c2,c3,c4,kF])
theorem XS (s t:Sg)(hs:dQ s=true)(ht:dQ t=true)(h:aZ s.1 s.2 t.1=0∧aZ s.1 s.2 t.2=0):rD s t=n7 s t:=by
 obtain⟨r1,r2,ns⟩:=uD hs;obtain⟨r3,r4,nt⟩:=uD ht;have h':=HD t s ns h;have n12:key s.1≠key s.2:=(MR r1 r2).1 ((jC _ _).2 ns);have n34:key t.1≠key t.2:=(MR r3 r4).1 ((jC _ _).2 nt);have p3:oU t.1 s=GR t.1 s:=(by rw [← RQ _ _ hs,onS,h.1];simp);have p4:oU t.2 s=GR t.2 s:=(by rw [← RQ _ _ hs,onS,h.2];simp);have p1:oU s.1 t=GR s.1 t:=(by rw [← RQ _ _ ht,onS,h'.1];simp);have p2:oU s.2 t=GR s.2 t:=(by rw [← RQ _ _ ht,onS,h'.2];simp);have es:∃ a,bQ (bT s).1=true∧bQ (bT s).2=true∧((key s.1<key s.2∧key (bT s).1=key s.1∧key (bT s).2=key s.2)∨(key s.2<key s.1∧key (bT s).1=key s.2∧key (bT s).2=key s.1))∧a=true:=by
  refine⟨true,?_⟩;unfold bT;simp only [qN r1 r2,ZE];by_cases hk:key s.2<key s.1
  ·rw [if_pos hk];exact⟨r2,r1,.inr ⟨hk,rfl,rfl⟩,trivial⟩
  ·rw [if_neg hk];exact⟨r1,r2,.inl ⟨by omega,rfl,rfl⟩,trivial⟩
 have et:∃ a,bQ (bT t).1=true∧bQ (bT t).2=true∧((key t.1<key t.2∧key (bT t).1=key t.1∧key (bT t).2=key t.2)∨(key t.2<key t.1∧key (bT t).1=key t.2∧key (bT t).2=key t.1))∧a=true:=by
  refine⟨true,?_⟩;unfold bT;simp only [qN r3 r4,ZE];by_cases hk:key t.2<key t.1
  ·rw [if_pos hk];exact⟨r4,r3,.inr ⟨hk,rfl,rfl⟩,trivial⟩
  ·rw [if_neg hk];exact⟨r3,r4,.inl ⟨by omega,rfl,rfl⟩,trivial⟩
 obtain⟨_,ra1,ra2,ha,_⟩:=es;obtain⟨_,rb1,rb2,hb,_⟩:=et;rw [ZA s t h.1 ((jC _ _).2 ns) ((jC _ _).2 nt),p1,p2,p3,p4];unfold rD;rw [if_pos h];have hl:bQ (MG s t)=true∧key (MG s t)=(if key (bT s).1<key (bT t).1 then key (bT t).1 else key (bT s).1):=by
  unfold MG;simp only [qN ra1 rb1,aAP];by_cases hk:key (bT s).1<key (bT t).1
  ·rw [if_pos hk,if_pos hk];exact⟨rb1,rfl⟩
  ·rw [if_neg hk,if_neg hk];exact⟨ra1,rfl⟩
 have hh:bQ (A6 s t)=true∧key (A6 s t)=(if key (bT t).2<key (bT s).2 then key (bT t).2 else key (bT s).2):=by
  unfold A6;simp only [qN rb2 ra2,aAP];by_cases hk:key (bT t).2<key (bT s).2
  ·rw [if_pos hk,if_pos hk];exact⟨rb2,rfl⟩
  ·rw [if_neg hk,if_neg hk];exact⟨ra2,rfl⟩
 have hbet:∀ (p:Int × Int) (g:Sg),bQ p=true→bQ (bT g).1=true→bQ (bT g).2=true→GR p g=decide (key (bT g).1≤key p∧key p≤key (bT g).2):=by
  intro p g hp h1 h2;unfold GR;rw [qN h1 hp,qN hp h2,Bool.eq_iff_iff];simp only [Bool.and_eq_true,decide_eq_true_eq,aF4]
 have heq:∀ a b:Int × Int,bQ a=true→bQ b=true→jE a b=decide (key a=key b):=by
  intro a b h1 h2;rw [Bool.eq_iff_iff,decide_eq_true_eq,RX h1 h2]
 rw [qN hl.1 hh.1,aCJ,hl.2,hh.2,aIv ha hb,hbet _ _ r1 rb1 rb2,hbet _ _ r2 rb1 rb2,hbet _ _ r3 ra1 ra2,hbet _ _ r4 ra1 ra2,heq _ _ r1 r3,heq _ _ r1 r4,heq _ _ r2 r3,heq _ _ r2 r4]
theorem TJ (s t:Sg)(hs:dQ s=true)(ht:dQ t=true):rD s t=n7 s t:=by
 by_cases h:aZ s.1 s.2 t.1=0∧aZ s.1 s.2 t.2=0
 ·exact XS s t hs ht h
 ·exact aAx s t (uD hs).2.2 (uD ht).2.2 h
end Go.Aw

noncomputable section
namespace Go.Aw
theorem bG {ρ:Nat→Nat}{n sz:Nat}{wr g:Bool}{cs cs':List Value}(hg:c7 cs=true)(e:cs'=cs):bU ρ n (.cells wr g sz cs) (.cells wr g sz cs'):=by
 subst e;exact aM hg
theorem rU {α:Type}(fl:α→List Value)(l m:List α):flat fl (l++m)=flat fl l++flat fl m:=by
 induction l with
 |nil=>rfl
 |cons a r ih=>simp only [List.cons_append,flat,ih,List.append_assoc]
theorem v7 {α:Type}(E:El α){l:List α}{e:Option Int}{h:Heap}{q nx:Nat}(hl:0<l.length)(hq:look h q=some (.cells true false E.sz (flat E.fl l))):Yields E l e (j5 e (.slice (some ⟨q,0,none⟩) l.length l.length)) h nx:=by
 cases l with
 |nil=>cases hl
 |cons a r=>exact⟨q,rfl,hq⟩
end Go.Aw
end

noncomputable section
namespace Go.Aw
open Go.RowKit
section
variable {α β:Type}(E:El α)
def vOf (l:List α)(e:Option Int):Value:=match l with
 |[]=>j5 e (.slice none 0 0)
 |a::r=>j5 e (.slice (some ⟨0,0,none⟩) (a::r).length (a::r).length)
def hOf (l:List α):Heap:=match l with
 |[]=>[]
 |a::r=>[(0,.cells true false E.sz (flat E.fl (a::r)))]
def mOf (l:List α):Nat:=match l with
 |[]=>0
 |_::_=>1
theorem ON {l:List α}{e:Option Int}{v:Value}{h:Heap}{nx:Nat}(hv:Yields E l e v h nx):JJ (vOf l e) (hOf E l) (mOf l) v h nx:=by
 cases l with
 |nil =>
  rw [show v=_ from hv];exact kP (tZ e)
 |cons a r =>
  obtain⟨q,rfl,hq⟩:=hv;refine⟨fun _=>q,⟨fun t u hu=>?_,fun k o hk=>?_,fun k k' o o' hk hk' _=>?_,fun k hk=>absurd hk (Nat.not_lt_zero k),Nat.zero_le _⟩⟩
  ·rw [aD] at hu;split at hu
   ·rename_i hb;injection hu with hu;subst hu;exact⟨by rw [aD,hb];show _=some (jH (fun _=>q) (j5 e (.slice (some ⟨0,0,none⟩) (a::r).length (a::r).length)));rw [uI],N0 e _ _⟩
   ·exact bX hu
  ·rw [show hOf E (a::r)=[(0,.cells true false E.sz (flat E.fl (a::r)))] from rfl,aD] at hk;split at hk
   ·rename_i hb;injection hk with hk;subst hk;exact⟨by rw [← beq_true hb];exact Nat.one_pos,_,hq,aM (aI E _)⟩
   ·exact bX hk
  ·rw [show hOf E (a::r)=[(0,.cells true false E.sz (flat E.fl (a::r)))] from rfl,aD] at hk hk';split at hk
   ·rename_i hb1;split at hk'
    ·rename_i hb2;exact (beq_true hb1).symm.trans (beq_true hb2)
    ·exact bX hk'
   ·exact bX hk
def aBM (l:List α)(e:Option Int)(h:Heap)(nx:Nat)(K:KE):Prop:=match l with
 |[]=>K (j5 e (.slice none 0 0)) h nx
 |a::r=>K (j5 e (.slice (some ⟨nx,0,none⟩) (a::r).length (a::r).length)) (bM h nx (.cells true false E.sz (flat E.fl (a::r)))) (nx+1)
theorem aCO {l:List α}{e:Option Int}{h:Heap}{nx:Nat}{K:KE}(hk:aBM E l e h nx K):K (jH (fun k=>nx+k) (vOf l e)) (app (l8 nx (hOf E l)) (nT (hOf E l) h)) (nx+mOf l):=by
 cases l with
 |nil =>
  show K (jH (fun k=>nx+k) (j5 e (.slice none 0 0))) (app [] h) (nx+0);rw [pQ (tZ e)];exact hk
 |cons a r =>
  have hm:(flat E.fl (a::r)).map (bO (fun k=>nx+k))=flat E.fl (a::r):=cB (aI E _);show K (jH (fun k=>nx+k) (j5 e (.slice (some ⟨0,0,none⟩) (a::r).length (a::r).length))) (app [(nx+0,.cells true false E.sz ((flat E.fl (a::r)).map (bO (fun k=>nx+k))))] h) (nx+1);rw [uI,hm];exact hk
theorem VW (l:List α):iI (hOf E l)=true:=by cases l <;> rfl
def yOf (T:List Value→Heap→Nat→List α→Option Int→Prop):XF:=xOf fun args0 h0 n0 v1 h1 m=>∃ l e,T args0 h0 n0 l e∧v1=vOf l e∧h1=hOf E l∧m=mOf l
theorem aFa {P:Program}{C:VC}{f:Nat}{T:List Value→Heap→Nat→List α→Option Int→Prop}(hC:bE P C)(hT:∀ args0 h0 n0 l e,T args0 h0 n0 l e→C f args0 h0 n0 (Yields E l e)):cE P f (yOf E T) :=
 gF hC fun args0 h0 n0 v1 h1 m ⟨l,e,ht,hv,hh,hm⟩=>by
  subst hv hh hm;exact⟨VW E l,_,hT _ _ _ _ _ ht,fun v h nx hq=>ON E hq⟩
theorem aCL {T:List Value→Heap→Nat→List α→Option Int→Prop}{args0:List Value}{h0:Heap}{n0:Nat}{l:List α}{e:Option Int}{args:List Value}{h:Heap}{nx:Nat}{K:KE}(ht:T args0 h0 n0 l e)(hi:In args0 h0 n0 args h nx)(hk:aBM E l e h nx K):yOf E T args h nx K :=
 ⟨args0,h0,n0,_,_,_,⟨l,e,ht,rfl,rfl,rfl⟩,hi,aCO E hk⟩
def rfX (E2:El β)(s:List α→List Value→Option (Bool × List β × Option Int)):XF:=fun args h nx K=>match args with
 |v::r=>∃ l,gP E h v l∧(match s l r with|some p=>dE p.1 (aBM E2 p.2.1 p.2.2 h nx K)|none=>False)
 |_=>False
end
section
variable {α:Type}(E:El α)
theorem Q3 {a0 b0 a b:Value}{o1 o2:aV}{h:Heap}{nx n1 c1 n2 c2:Nat}(ha0:a0=.slice (some ⟨0,0,none⟩) n1 c1)(hb0:b0=.slice (some ⟨0,0,none⟩) n2 c2)
  (h1:In [a0] [(0,o1)] 1 [a] h nx) (h2:In [b0] [(0,o2)] 1 [b] h nx) (g1:∃ sz cs,o1=.cells false true sz cs∧c7 cs=true) (g2:∃ sz cs,o2=.cells false true sz cs∧c7 cs=true) :
  In [a0,.slice (some ⟨1,0,none⟩) n2 c2] [(0,o1),(1,o2)] 2 [a,b] h nx:=by
 subst ha0 hb0;obtain⟨s1,cs1,rfl,gc1⟩:=g1;obtain⟨s2,cs2,rfl,gc2⟩:=g2;intro ι B w H hs;obtain⟨ι1,e1,k1,R1⟩:=h1 ι B w H (fun v hv=>hs v (by cases hv with|head=>exact .head _|tail _ hm=>cases hm));obtain⟨ι2,e2,k2,R2⟩:=h2 ι B w H (fun v hv=>hs v (by cases hv with|head=>exact .tail _ (.head _)|tail _ hm=>cases hm));simp only [List.map_cons,List.map_nil,List.cons.injEq,and_true] at e1 e2;have q1:=R1.obj 0 _ rfl;have q2:=R2.obj 0 _ rfl;have kk1:=k1 _ (.head _);have kk2:=k2 _ (.head _);refine⟨fun k=>if k=0 then ι1 0 else ι2 0,?_,?_,⟨?_,?_,?_,Nat.le_refl _,?_⟩⟩
 ·simp only [List.map_cons,List.map_nil,e1,e2];rfl
 ·intro v hv;cases hv with
  |head=>exact⟨show (0:Nat)<2 by decide,kk1.2⟩
  |tail _ hm =>
   cases hm with
   |head=>exact⟨show (1:Nat)<2 by decide,kk2.2⟩
   |tail _ hm=>cases hm
 ·intro k o hk;have key:∀ {ι:Nat→Loc} {sz:Nat} {cs:List Value} {loc:Loc} (ι':Nat→Loc),c7 cs=true→kG ι w.heap.size w (.cells false true sz cs) loc→kG ι' w.heap.size w (.cells false true sz cs) loc:=by
   intro ι sz cs loc ι' hg ho;cases loc with
   |nil p=>exact ho
   |lay b o e =>
    obtain⟨x1,x2,x3⟩:=ho;refine⟨x1,x2,fun i v hv=>?_⟩;rw [x3 i v hv,lF (bA hg (List.mem_of_getElem? hv)),lF (bA hg (List.mem_of_getElem? hv))]
  rw [aD] at hk;split at hk
  ·rename_i hb;injection hk with hk;subst hk;rw [← beq_true hb];exact key _ gc1 q1
  ·rw [aD] at hk;split at hk
   ·rename_i hb;injection hk with hk;subst hk;rw [← beq_true hb];exact key _ gc2 q2
   ·exact bX hk
 ·intro k k' o o' hk hk' hne hal b hb;exfalso;rw [aD] at hk;split at hk
  ·injection hk with hk;subst hk;cases hal
  ·rw [aD] at hk;split at hk
   ·injection hk with hk;subst hk;cases hal
   ·exact bX hk
 ·intro k o hk;rw [aD] at hk;split at hk
  ·rename_i hb;rw [← beq_true hb];decide
  ·rw [aD] at hk;split at hk
   ·rename_i hb;rw [← beq_true hb];decide
   ·exact bX hk
 ·intro k o hk;rw [aD] at hk;split at hk
  ·injection hk with hk;subst hk;exact fun v hv=>cM (bA gc1 hv)
  ·rw [aD] at hk;split at hk
   ·injection hk with hk;subst hk;exact fun v hv=>cM (bA gc2 hv)
   ·exact bX hk
theorem NO {h:Heap}{nx:Nat}{v:Value}{l:List α}(hl:gP E h v l):∃ c,In [.slice (some ⟨0,0,none⟩) l.length c] [(0,.cells false true E.sz (flat E.fl l))] 1 [v] h nx:=by
 unfold gP at hl;split at hl
 ·rename_i n c;obtain⟨rfl,rfl,rfl⟩:=hl;exact⟨0,P5 rfl true E.sz E.pos⟩
 ·rename_i k o n c;obtain⟨rfl,wr,g,sz,cs,hk,hcs⟩:=hl;exact⟨c,Z7 rfl hk hcs (aI E l) true E.sz E.pos⟩
 ·exact hl.elim
def l2X (s:List α→List α→Option (Bool × Value)):XF:=fun args h nx K=>match args with
 |[a,b]=>∃ l1 l2,gP E h a l1∧gP E h b l2∧(match s l1 l2 with|some p=>dE p.1 (K p.2 h nx)|none=>False)
 |_=>False
theorem aEF {P:Program}{C:VC}{f:Nat}{s:List α→List α→Option (Bool × Value)}(hC:bE P C)
  (hs:∀ l1 l2 v,s l1 l2=some (true,v)→gT v=true∧∀ c1 c2,C f [.slice (some ⟨0,0,none⟩) l1.length c1,.slice (some ⟨1,0,none⟩) l2.length c2] [(0,.cells false true E.sz (flat E.fl l1)),(1,.cells false true E.sz (flat E.fl l2))] 2 (fun u _ _=>u=v)):cE P f (l2X E s):=by
 refine (gF (S:=fun args0 h0 n0 v1 h1 m=>∃ l1 l2 c1 c2,s l1 l2=some (true,v1)∧args0=[.slice (some ⟨0,0,none⟩) l1.length c1,.slice (some ⟨1,0,none⟩) l2.length c2]∧h0=[(0,.cells false true E.sz (flat E.fl l1)),(1,.cells false true E.sz (flat E.fl l2))]∧n0=2∧h1=[]∧m=0) hC ?_).mono ?_ ?_
 ·rintro args0 h0 n0 v1 h1 m ⟨l1,l2,c1,c2,e1,rfl,rfl,rfl,rfl,rfl⟩;obtain⟨a2,a3⟩:=hs l1 l2 v1 e1;exact⟨rfl,_,a3 c1 c2,fun v h nx e=>by rw [e];exact kP a2⟩
 ·intro args h nx K hx;unfold l2X at hx;split at hx
  case h_2=>exact hx.elim
  rename_i a b;obtain⟨l1,l2,hl1,hl2,hx⟩:=hx;split at hx
  case h_2=>exact hx.elim
  rename_i p e1;obtain⟨bb,u⟩:=p;obtain⟨rfl,hx⟩:=aF.1 hx;obtain⟨a2,a3⟩:=hs l1 l2 u e1;obtain⟨c1,i1⟩:=NO (nx:=nx) E hl1;obtain⟨c2,i2⟩:=NO (nx:=nx) E hl2;refine⟨_,_,2,u,[],0,⟨l1,l2,c1,c2,e1,rfl,rfl,rfl,rfl,rfl⟩,Q3 rfl rfl i1 i2 ⟨_,_,rfl,aI E l1⟩ ⟨_,_,rfl,aI E l2⟩,?_⟩;simp only [nT,rI,l8,kC,pQ a2,Nat.add_zero];exact hx
 ·intro args h nx K hx;unfold l2X at hx;split at hx
  case h_2=>exact hx.elim
  rename_i a b;obtain⟨l1,l2,hl1,hl2,hx⟩:=hx;split at hx
  case h_2=>exact hx.elim
  rename_i p e1;obtain⟨hb,hx⟩:=aF.1 hx;exact⟨p.2,h,nx,hx,fun K' hk=>⟨l1,l2,hl1,hl2,by rw [e1];exact aJ hb hk⟩⟩
end
theorem AU {args0:List Value}{h0:Heap}{n0:Nat}{args:List Value}{h:Heap}{nx:Nat}(ρ:Nat→Nat)(ha:args=args0.map (jH ρ))(hn:∀ v∈args0,BM n0 v)
  (ho:∀ k o,look h0 k=some o→k<n0∧∃ g sz cs0,o=.cells false g sz cs0∧sz≠0∧(g=true→c7 cs0=true)∧(∀ v∈cs0,CS n0 v)∧∃ wr g' sz' cs,look h (ρ k)=some (.cells wr g' sz' cs)∧cs.take cs0.length=cs0.map (bO ρ)) :
  In args0 h0 n0 args h nx:=by
 intro ι B w H hs;subst ha;have hsc:∀ v∈args0,eL ι nx (jH ρ v):=fun v hv=>hs _ (List.mem_map.2 ⟨v,hv,rfl⟩);refine⟨fun k=>ι (ρ k),?_,fun v hv=>CB (hsc v hv) (hn v hv),⟨fun k o hk=>?_,fun k k' o o' hk hk' hne ha b hb=>?_,fun k o hk=>(ho k o hk).1,Nat.le_refl _,fun k o hk=>?_⟩⟩
 ·rw [List.map_map];exact List.map_congr_left fun v hv=>DQ (hsc v hv)
 ·obtain⟨_,g,sz,cs0,rfl,hz,hg,hm,wr,g',sz',cs,hl,hc⟩:=ho k o hk;have hob:=H.obj _ _ hl;have hso:=H.sc _ _ hl;cases hι:ι (ρ k) with
  |nil p =>
   rw [hι] at hob;have h0:cs=[]:=(by cases wr <;> exact hob.1);subst h0;have:cs0=[]:=by
    cases cs0 with
    |nil=>rfl
    |cons a r=>simp at hc
   subst this;exact⟨rfl,fun h=>h.elim (fun h=>absurd h hz) (fun h=>by cases h)⟩
  |lay b off e =>
   have hlt:b<w.heap.size:=hob.lt (by rw [hι];rfl);refine⟨hlt,hg,fun i v hv=>?_⟩;have h1:(cs.take cs0.length)[i]? = some (bO ρ v):=(by rw [hc,List.getElem?_map,hv];rfl);have hi:i<cs0.length:=(List.getElem?_eq_some_iff.1 hv).1;rw [List.getElem?_take,if_pos hi] at h1;obtain⟨b2,off2,e2,hι2,hcell⟩:=H.cell hl h1;rw [hι] at hι2;injection hι2 with i1 i2 i3;subst i1;subst i2;rw [hcell];congr 1;exact iO (hso _ (List.mem_of_getElem? h1))
 ·obtain⟨_,g,sz,cs0,rfl,_⟩:=ho k o hk;cases ha
 ·obtain⟨_,g,sz,cs0,rfl,hz,hg,hm,wr,g',sz',cs,hl,hc⟩:=ho k o hk;intro v hv;have hso:=H.sc _ _ hl;have hmem:bO ρ v∈cs:=by
   have:bO ρ v∈cs.take cs0.length:=(by rw [hc];exact List.mem_map.2 ⟨v,hv,rfl⟩);exact List.mem_of_mem_take this
  exact oD (hso _ hmem) (hm v hv)
structure nR where
 f:Nat
 args:List Value
 h0:Heap
 n0:Nat
 v1:Value
 h1:Heap
 m:Nat
def J2:List Value→List Value→Bool
 |[],[]=>true
 |a::r,b::s=>LJ a b&&J2 r s
 |_,_=>false
theorem HN:∀ {l m:List Value},J2 l m=true→l=m
 |[],[],_=>rfl
 |[],_::_,h=>by cases h
 |_::_,[],h=>by cases h
 |a::r,b::s,h=>by
  simp only [J2,Bool.and_eq_true] at h;rw [FM h.1,HN h.2]
def aDy (n:Nat):List Value→Bool
 |[]=>true
 |v::r=>ZG n v&&aDy n r
theorem SO {n:Nat}:∀ {l:List Value},aDy n l=true→∀ v∈l,BM n v
 |[],_,v,hv=>by cases hv
 |x::r,h,v,hv=>by
  simp only [aDy,Bool.and_eq_true] at h;cases hv with
  |head=>exact JS h.1
  |tail _ hm=>exact SO h.2 v hm
def aHg (b:Nat):List Value→List Value→List (Nat × Nat)→List (Nat × Nat)
 |v::l,u::m,r=>prT b v u (aHg b l m r)
 |_,_,r=>r
def TN (ρ:List (Nat × Nat))(n0:Nat)(h:Heap):Heap→Bool
 |[]=>true
 |(k,.cells false g sz cs0)::r=>Nat.blt k n0&&!(Nat.beq sz 0)&&(match g with|true=>c7 cs0|false=>true)&&RH n0 cs0&&(match look h (nm ρ k) with
  |some (.cells _ _ _ cs)=>HP (cs.take cs0.length) (cs0.map (bO (nm ρ)))
  |_=>false)&&TN ρ n0 h r
 |_=>false
theorem NT {ρ:List (Nat × Nat)}{n0:Nat}{h:Heap}:∀ {h0:Heap},TN ρ n0 h h0=true→∀ k o,look h0 k=some o→k<n0∧∃ g sz cs0,o=.cells false g sz cs0∧sz≠0∧(g=true→c7 cs0=true)∧(∀ v∈cs0,CS n0 v)∧∃ wr g' sz' cs,look h (nm ρ k)=some (.cells wr g' sz' cs)∧cs.take cs0.length=cs0.map (bO (nm ρ))
 |[],_,k,o,hk=>by cases hk
 |(j,q)::r,hb,k,o,hk=>by
  unfold TN at hb;split at hb
  ·rename_i he;cases he
  ·rename_i k' g sz cs0 r' he;injection he with e1 e2;injection e1 with e3 e4;subst e3;subst e4;subst e2;simp only [Bool.and_eq_true,Bool.not_eq_true'] at hb;obtain⟨⟨⟨⟨⟨h1,h2⟩,h3⟩,h4⟩,h5⟩,h6⟩:=hb;rw [aD] at hk;split at hk
   ·rename_i hbq;have:=beq_true hbq;subst this;injection hk with hk;subst hk;refine⟨Nat.le_of_ble_eq_true h1,g,sz,cs0,rfl,beq_false h2,fun hg=>by subst hg;exact h3,xG h4,?_⟩;split at h5
    ·rename_i wr g' sz' cs hl;exact⟨wr,g',sz',cs,hl,w8 h5⟩
    ·cases h5
   ·exact NT h6 k o hk
  ·cases hb
def nR.rho (E:nR)(args:List Value)(h:Heap):List (Nat × Nat):=grow 0 E.h0 h 10000 (aHg 0 E.args args []) []
def OR (E:nR)(args:List Value)(h:Heap):Bool:=J2 args (E.args.map (jH (nm (E.rho args h))))&&aDy E.n0 E.args&&TN (E.rho args h) E.n0 h E.h0
theorem WR {E:nR}{args:List Value}{h:Heap}{nx:Nat}(hf:OR E args h=true):In E.args E.h0 E.n0 args h nx:=by
 simp only [OR,Bool.and_eq_true] at hf;exact AU _ (HN hf.1.1) (SO hf.1.2) (NT hf.2)
def O5 (E:nR):sR:=fun v h' _=>aDd 0 (XK 0 [(0,E.v1)] [(0,v)] E.h1 h') [(0,E.v1)] E.h1 E.m [(0,v)] h'&&iI E.h1
def VA (L:List nR)(f:Nat):Sp:=fun args0 h0 n0 v1 h1 m=>∃ E∈L,E.f=f∧args0=E.args∧h0=E.h0∧n0=E.n0∧v1=E.v1∧h1=E.h1∧m=E.m
def aCr (f:Nat):List nR→Bool
 |[]=>false
 |E::r=>match Nat.beq E.f f with|true=>true|false=>aCr f r
def ZV (f:Nat):List nR→List Value→Heap→Nat→sR→Bool
 |[],_,_,_,_=>false
 |E::r,args,h,nx,K=>match Nat.beq E.f f with
  |true=>(match OR E args h with
   |true=>K (jH (fun k=>nx+k) E.v1) (app (l8 nx E.h1) (nT E.h1 h)) (nx+E.m)
   |false=>ZV f r args h nx K)
  |false=>ZV f r args h nx K
theorem KM {f:Nat}(L0:List nR){args:List Value}{h:Heap}{nx:Nat}{K:sR}{K':KE}(hK:∀ v h nx,K v h nx=true→K' v h nx):∀ (L:List nR),(∀ E∈L,E∈L0)→ZV f L args h nx K=true→xOf (VA L0 f) args h nx K'
 |[],_,hl=>by cases hl
 |E::r,hsub,hl=>by
  simp only [ZV] at hl;split at hl
  ·rename_i hb;split at hl
   ·rename_i hf;exact⟨E.args,E.h0,E.n0,E.v1,E.h1,E.m,⟨E,hsub E (.head _),beq_true hb,rfl,rfl,rfl,rfl,rfl,rfl⟩,WR hf,hK _ _ _ hl⟩
   ·exact KM L0 hK r (fun E hE=>hsub E (.tail _ hE)) hl
  ·exact KM L0 hK r (fun E hE=>hsub E (.tail _ hE)) hl
abbrev GS:=List Value→Option (Bool × Value)
def gXB (s:GS):List Value→Heap→Nat→sR→Bool:=fun args h nx K=>match s args with
 |some p=>dT p.1 (K p.2 h nx)
 |none=>false
def DV (L:List nR)(S:List (Nat × GS))(f:Nat):Option (List Value→Heap→Nat→KE→Prop):=match aCr f L with
 |true=>some (xOf (VA L f))
 |false=>(match look S f with|some s=>some (gX s)|none=>none)
def FC (L:List nR)(S:List (Nat × GS))(f:Nat):Option (List Value→Heap→Nat→sR→Bool):=match aCr f L with
 |true=>some (ZV f L)
 |false=>(match look S f with|some s=>some (gXB s)|none=>none)
theorem FN {c:CC}{L:List nR}{S:List (Nat × GS)}(hc:c.X=DV L S):TwX c (FC L S):=by
 intro f x xb hx hxb args h nx K K' hK hl;rw [hc] at hx;unfold DV at hx;unfold FC at hxb;split at hx
 ·rename_i hh;rw [hh] at hxb;injection hx with hx;injection hxb with hxb;subst hx;subst hxb;exact KM L hK L (fun _ h=>h) hl
 ·rename_i hh;rw [hh] at hxb;simp only at hxb;split at hx
  ·rename_i s hs;rw [hs] at hxb;injection hx with hx;injection hxb with hxb;subst hx;subst hxb;unfold gXB at hl;unfold gX;split at hl
   ·rename_i p hp;rw [hp];exact bC (hK _ _ _) hl
   ·cases hl
  ·cases hx
def cJ (c:CC)(XB:Nat→Option (List Value→Heap→Nat→sR→Bool))(d:Nat)(E:nR):Prop:=BC c XB d false E.f E.args E.h0 E.n0 (O5 E)=true
def u7 (P:Program)(L:List nR):Prop:=∀ f,cE P f (xOf (VA L f))
theorem u7.app {P:Program}{L L':List nR}(h:u7 P L)(h':u7 P L'):u7 P (L++L'):=by
 intro f;have key:∀ args h nx K,xOf (VA (L++L') f) args h nx K→xOf (VA L f) args h nx K∨xOf (VA L' f) args h nx K:=by
  rintro args h nx K ⟨a,b,c,d,e,g,⟨E,hE,he⟩,q⟩;rcases List.mem_append.1 hE with hE|hE
  ·exact .inl ⟨a,b,c,d,e,g,⟨E,hE,he⟩,q⟩
  ·exact .inr ⟨a,b,c,d,e,g,⟨E,hE,he⟩,q⟩
 refine⟨fun args hp nx K hx=>?_,fun args hp nx K hx=>?_⟩
 ·rcases key _ _ _ _ hx with hx|hx
  ·exact (h f).1 args hp nx K hx
  ·exact (h' f).1 args hp nx K hx
 ·obtain⟨a,b,c,d,e,g,q1,q2,q3⟩:=hx;exact⟨_,_,_,q3,fun K' hk=>⟨a,b,c,d,e,g,q1,q2,hk⟩⟩
theorem CZ {P:Program}{c:CC}(hc:pF P c){XB:Nat→Option (List Value→Heap→Nat→sR→Bool)}(hX:TwX c XB){d:Nat}{L:List nR}(hL:∀ E∈L,cJ c XB d E):u7 P L:=by
 intro f;refine gF (jR hc d).1 fun args0 h0 n0 v1 h1 m hs=>?_;obtain⟨E,hE,rfl,rfl,rfl,rfl,rfl,rfl,rfl⟩:=hs;have t1:=hL E hE;have hv:=pB hX d false E.f E.args E.h0 E.n0 (O5 E) (fun v h nx=>iI E.h1=true∧JJ E.v1 E.h1 E.m v h nx) (fun v h nx ho=>by
  simp only [O5,Bool.and_eq_true] at ho;exact⟨ho.2,_,TV ho.1⟩) t1
 obtain⟨v,h',nx',k1,k2⟩:=(jR hc d).2.2.1 _ _ _ _ _ hv;exact⟨k1.1,_,k2 _ k1.2,fun _ _ _ q=>q⟩
theorem CD {P:Program}{L:List nR}(h:u7 P L){S:List (Nat × GS)}(hS:∀ f s,look S f=some s→cE P f (gX s)):∀ f x,DV L S f=some x→cE P f x:=by
 intro f x hfx;unfold DV at hfx;split at hfx
 ·injection hfx with hfx;subst hfx;exact h f
 ·split at hfx
  ·rename_i s hs;injection hfx with hfx;subst hfx;exact hS f s hs
  ·cases hfx
end Go.Aw
end
