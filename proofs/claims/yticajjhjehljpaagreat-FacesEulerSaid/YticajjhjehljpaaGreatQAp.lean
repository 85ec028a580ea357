/-
  Parts of a proof. No condition.
-/
import Derived.Test.YticajjhjehljpaaGreatQAo
set_option linter.unusedSimpArgs false
set_option linter.unusedVariables false
namespace Go.Aw
theorem par {ex ey ux uy wx wy:Int}(h:ex*uy=ey*ux):ex*(wx*uy - wy*ux)=ux*(wx*ey - wy*ex):=by
 have h1:ex*(wx*uy)=wx*(ey*ux):=(by rw [← h,← Int.mul_assoc,Int.mul_comm ex wx,Int.mul_assoc]);rw [Int.mul_sub,Int.mul_sub,h1];congr 1
 ·rw [← Int.mul_assoc,Int.mul_comm (wx*ey),← Int.mul_assoc,Int.mul_comm ux]
 ·rw [← Int.mul_assoc,Int.mul_comm ex,Int.mul_assoc,Int.mul_comm ex,← Int.mul_assoc,Int.mul_comm wy,Int.mul_assoc]
theorem aIf {ex ux q r:Int}(he:0<ex)(h:ex*q=ux*r)(hne:¬ (q=0∧r - q=0)):(0≤ux∧ux≤ex)↔(0≤q*(r - q)):=by
 have hr:r≠0:=by
  intro hr;subst hr;rw [Int.mul_zero] at h;have:q=0:=by
   rcases Int.mul_eq_zero.1 h with h|h
   ·omega
   ·exact h
  exact hne ⟨this,by omega⟩
 have e2:ex*(r - q)=(ex - ux)*r:=(by rw [Int.mul_sub,Int.sub_mul,h]);have key:(ex*ex)*(q*(r - q))=(ux*(ex - ux))*(r*r):=by
  calc (ex*ex)*(q*(r - q))=(ex*q)*(ex*(r - q)):=by rw [Int.mul_assoc,Int.mul_assoc,← Int.mul_assoc ex q,Int.mul_comm ex q,Int.mul_assoc q ex]
   _=(ux*r)*((ex - ux)*r):=by rw [h,e2]
   _=(ux*(ex - ux))*(r*r):=by rw [Int.mul_assoc,Int.mul_assoc,← Int.mul_assoc r,Int.mul_comm r (ex - ux),Int.mul_assoc (ex - ux)]
 have hrr:0<r*r:=by
  rcases Int.lt_or_gt_of_ne hr with h|h
  ·exact Int.mul_pos_of_neg_of_neg h h
  ·exact Int.mul_pos h h
 have hee:0<ex*ex:=Int.mul_pos he he;constructor
 ·intro⟨h1,h2⟩;have h3:0≤(ux*(ex - ux))*(r*r):=Int.mul_nonneg (Int.mul_nonneg h1 (by omega)) (by omega);rw [← key] at h3;by_cases hq:0≤q*(r - q)
  ·exact hq
  ·have:(ex*ex)*(q*(r - q))<0:=Int.mul_neg_of_pos_of_neg hee (by omega);omega
 ·intro hq;have h3:0≤(ex*ex)*(q*(r - q)):=Int.mul_nonneg (by omega) hq;rw [key] at h3;have h4:0≤ux*(ex - ux):=by
   by_cases h4:0≤ux*(ex - ux)
   ·exact h4
   ·have:(ux*(ex - ux))*(r*r)<0:=Int.mul_neg_of_neg_of_pos (by omega) hrr;omega
  constructor
  ·by_cases h5:0≤ux
   ·exact h5
   ·have:ux*(ex - ux)<0:=Int.mul_neg_of_neg_of_pos (by omega) (by omega);omega
  ·by_cases h5:ux≤ex
   ·exact h5
   ·have:ux*(ex - ux)<0:=Int.mul_neg_of_pos_of_neg (by omega) (by omega);omega
end Go.Aw

namespace Go.Aw
theorem K4 {a b:Int}(ha:0<a)(h:0≤a*b):0≤b:=by
 by_cases hb:0≤b
 ·exact hb
 ·have:a*b<0:=Int.mul_neg_of_pos_of_neg ha (by omega);omega
theorem aJq {ex ey ux uy:Int}(he:0<ex)(h:ex*uy=ey*ux)(h0:0≤ux)(h1:ux≤ex):(0≤ey→0≤uy∧uy≤ey)∧(ey≤0→ey≤uy∧uy≤0):=by
 have e2:ex*(ey - uy)=ey*(ex - ux):=by
  rw [Int.mul_sub,Int.mul_sub,h,Int.mul_comm ex ey]
 constructor
 ·intro hy;constructor
  ·exact K4 he (by rw [h];exact Int.mul_nonneg hy h0)
  ·have:=K4 he (show 0≤ex*(ey - uy) by rw [e2];exact Int.mul_nonneg hy (by omega));omega
 ·intro hy;constructor
  ·have:0≤ex*(uy - ey):=by
    have:ex*(uy - ey)=(-ey)*(ex - ux):=by
     rw [Int.neg_mul,← e2,← Int.mul_neg];congr 1;omega
    rw [this];exact Int.mul_nonneg (by omega) (by omega)
   have:=K4 he this;omega
  ·have:0≤ex*(-uy):=by
    rw [Int.mul_neg,h,← Int.neg_mul];exact Int.mul_nonneg (by omega) h0
   have:=K4 he this;omega
def K5 (e u:Int):Prop:=(if 0<e then 0 else e)≤u∧u≤(if e<0 then 0 else e)
theorem BN {e u:Int}:K5 (-e) (-u)↔K5 e u:=by
 unfold K5;split <;> split <;> split <;> split <;> omega
theorem aBQ {e u:Int}(h:0<e):K5 e u↔(0≤u∧u≤e):=by
 unfold K5;split <;> split <;> omega
theorem vV {ex ey ux uy q r:Int}(he:0<ex)(h:ex*uy=ey*ux)(h1:ex*q=ux*r)(hne:¬ (q=0∧r - q=0)):(K5 ex ux∧K5 ey uy)↔0≤q*(r - q):=by
 rw [← aIf he h1 hne,aBQ he];constructor
 ·exact fun h=>h.1
 ·intro h2;refine⟨h2,?_⟩;obtain⟨k1,k2⟩:=aJq he h h2.1 h2.2;unfold K5;by_cases hy:0≤ey
  ·have:=k1 hy;split <;> split <;> omega
  ·have:=k2 (by omega);split <;> split <;> omega
theorem aDF {ex ey ux uy q r:Int}(he:¬ (ex=0∧ey=0))(h:ex*uy=ey*ux)(h1:ex*q=ux*r)(h2:ey*q=uy*r)(hne:¬ (q=0∧r - q=0)):(K5 ex ux∧K5 ey uy)↔0≤q*(r - q):=by
 by_cases a1:0<ex
 ·exact vV a1 h h1 hne
 ·by_cases a2:ex<0
  ·rw [← BN (e:=ex),← BN (e:=ey)];exact vV (by omega) (by rw [Int.neg_mul_neg,Int.neg_mul_neg,h]) (by rw [Int.neg_mul,Int.neg_mul,h1]) hne
  ·by_cases a3:0<ey
   ·rw [And.comm];exact vV a3 h.symm h2 hne
   ·rw [← BN (e:=ex),← BN (e:=ey),And.comm];exact vV (by omega) (by rw [Int.neg_mul_neg,Int.neg_mul_neg,h]) (by rw [Int.neg_mul,Int.neg_mul,h2]) hne
theorem once {ex ey wx wy vx vy:Int}(hd:ex*wy - ey*wx≠0)(h1:ex*vy=ey*vx)(h2:wx*vy=wy*vx):vx=0∧vy=0:=by
 constructor
 ·have:(ex*wy - ey*wx)*vx=0:=by
   rw [Int.sub_mul,Int.mul_assoc,← h2,Int.mul_right_comm ey,← h1,Int.mul_assoc,Int.mul_comm vy,Int.sub_self]
  rcases Int.mul_eq_zero.1 this with h|h
  ·exact absurd h hd
  ·exact h
 ·have:(ex*wy - ey*wx)*vy=0:=by
   rw [Int.sub_mul,Int.mul_assoc ey,h2,Int.mul_right_comm ex,h1,← Int.mul_assoc,Int.mul_right_comm ey,Int.sub_self]
  rcases Int.mul_eq_zero.1 this with h|h
  ·exact absurd h hd
  ·exact h
theorem para {ex ey wx wy vx vy:Int}(hw:¬ (wx=0∧wy=0))(h1:wx*ey=wy*ex)(h2:wx*vy=wy*vx):ex*vy=ey*vx:=by
 have k1:wx*(ex*vy - ey*vx)=0:=by
  rw [Int.mul_sub,← Int.mul_assoc,Int.mul_right_comm,h2,← Int.mul_assoc,h1,Int.mul_right_comm,Int.sub_self]
 have k2:wy*(ex*vy - ey*vx)=0:=by
  rw [Int.mul_sub,← Int.mul_assoc,← h1,Int.mul_left_comm wy,← h2,Int.mul_left_comm ey,Int.mul_assoc,Int.sub_self]
 by_cases h:wx=0
 ·rcases Int.mul_eq_zero.1 k2 with h'|h'
  ·exact absurd ⟨h,h'⟩ hw
  ·omega
 ·rcases Int.mul_eq_zero.1 k1 with h'|h'
  ·exact absurd h' h
  ·omega
end Go.Aw

namespace Go.Aw
def CY (p:Int × Int):List (Int × Int)→Bool
 |[]=>false
 |q::r=>jZ q p || CY p r
def JZ (s t:Sg)(out:List (Int × Int))(p:Int × Int):List (Int × Int):=if wL p s=true∧wL p t=true∧CY p out=false then out++[p] else out
def MD (s t:Sg):List (Int × Int):=JZ s t (JZ s t (JZ s t (JZ s t [] s.1) s.2) t.1) t.2
theorem gW (a b:Int × Int):jZ a b=true↔a=b:=by
 obtain⟨a1,a2⟩:=a;obtain⟨b1,b2⟩:=b;simp [jZ]
theorem T0 (n a b:Int):YN n a b=true↔K5 (b - a) (n - a):=by
 simp only [YN,K5,Bool.and_eq_true,decide_eq_true_eq];split <;> split <;> (try split) <;> (try split) <;> omega
theorem aCf {ax ay bx b2 px py wx wy c d:Int}(hne:¬ (bx - ax=0∧b2 - ay=0))(h0:(bx - ax)*(py - ay) - (b2 - ay)*(px - ax)=0)
  (hc:c=wx*(ay - py) - wy*(ax - px)) (hd:d=wx*(b2 - py) - wy*(bx - px)) (hn:¬ (c=0∧d=0)):(YN px ax bx=true∧YN py ay b2=true)↔c*d≤0:=by
 have h:(bx - ax)*(py - ay)=(b2 - ay)*(px - ax):=(by omega);have p1:=par (wx:=wx) (wy:=wy) h;have p2:=par (wx:=wy) (wy:=wx) h.symm;have q1:wx*(py - ay) - wy*(px - ax) = -c:=by
  subst hc;simp only [Int.mul_sub];omega
 have q2:wy*(px - ax) - wx*(py - ay)=c:=(by omega);have r1:wx*(b2 - ay) - wy*(bx - ax)=d - c:=by
  subst hc hd;simp only [Int.mul_sub];omega
 have r2:wy*(bx - ax) - wx*(b2 - ay) = -(d - c):=(by omega);rw [q1,r1] at p1;rw [q2,r2] at p2;have p3:(b2 - ay)*(-c)=(py - ay)*(d - c):=by
  rw [Int.mul_neg,p2,Int.mul_neg,Int.neg_neg]
 rw [T0,T0,aDF hne h p1 p3 (by omega)];have:d - c - -c=d:=(by omega);rw [this,Int.neg_mul];omega
theorem aCH (a b:Int):U5 a*U5 b≤0↔a*b≤0:=by
 unfold U5
 by_cases a1:a<0 <;> by_cases a2:0<a <;> by_cases b1:b<0 <;> by_cases b2:0<b <;> simp only [a1,a2,b1,b2,if_true,if_false] <;>
  first
  |(exfalso;omega)
  |(have:=Int.mul_pos_of_neg_of_neg a1 b1;omega)
  |(have:=Int.mul_neg_of_neg_of_pos a1 b2;omega)
  |(have:=Int.mul_neg_of_pos_of_neg a2 b1;omega)
  |(have:=Int.mul_pos a2 b2;omega)
  |(have:a=0:=by omega
    subst this;simp)
  |(have:b=0:=by omega
    subst this;simp)
theorem mP (a b p q:Int × Int)(h:q=a∨q=b):aV a b p=(b.1 - a.1)*(p.2 - q.2) - (b.2 - a.2)*(p.1 - q.1):=by
 rcases h with rfl|rfl
 ·rfl
 ·have e1:p.2 - a.2=(p.2 - q.2)+(q.2 - a.2):=(by omega);have e2:p.1 - a.1=(p.1 - q.1)+(q.1 - a.1):=(by omega);have e3:=Int.mul_comm (q.1 - a.1) (q.2 - a.2);rw [aV,e1,e2,Int.mul_add,Int.mul_add];omega
theorem xB (s t:Sg)(p:Int × Int)(hp:p=t.1∨p=t.2)(hs:s.1≠s.2)(h0:aT s.1 s.2 p=0)(hn:¬ (aT t.1 t.2 s.1=0∧aT t.1 t.2 s.2=0)) :
  wL p s=decide (aT t.1 t.2 s.1*aT t.1 t.2 s.2≤0):=by
 have k:=aCf (wx:=t.2.1 - t.1.1) (wy:=t.2.2 - t.1.2) (px:=p.1) (py:=p.2) (ax:=s.1.1) (ay:=s.1.2) (bx:=s.2.1) (b2:=s.2.2) (by
  intro h;apply hs;exact Prod.ext (by omega) (by omega)) ((lA _ _ _).1 h0) (mP t.1 t.2 s.1 p hp) (mP t.1 t.2 s.2 p hp) (by
  rw [lA,lA] at hn;exact hn)
 rw [Bool.eq_iff_iff,decide_eq_true_eq];unfold aT;rw [aCH,← k,wL,h0];simp
theorem B5 (s:Sg)(p:Int × Int)(h0:aT s.1 s.2 p≠0):wL p s=false:=by
 unfold wL;simp [h0]
theorem nB (s:Sg)(p:Int × Int)(hp:p=s.1∨p=s.2):wL p s=true:=by
 have h0:aT s.1 s.2 p=0:=by
  rw [lA,aV];rcases hp with rfl|rfl
  ·simp
  ·rw [Int.mul_comm];omega
 have hb:∀ a b:Int,YN a a b=true∧YN b a b=true:=by
  intro a b;simp only [YN,Bool.and_eq_true,decide_eq_true_eq];split <;> split <;> omega
 unfold wL;rw [h0];rcases hp with rfl|rfl
 ·simp [(hb _ _).1]
 ·simp [(hb _ _).2]
theorem DH (s t:Sg)(p:Int × Int)(hp:p=t.1∨p=t.2)(ht:t.1≠t.2)(h1:aT t.1 t.2 s.1=0)(h2:aT t.1 t.2 s.2=0):aT s.1 s.2 p=0:=by
 rw [lA,mP t.1 t.2 _ p hp] at h1 h2;have hw:¬ (t.2.1 - t.1.1=0∧t.2.2 - t.1.2=0):=by
  intro h;apply ht;exact Prod.ext (by omega) (by omega)
 have e1:(t.2.1 - t.1.1)*(s.2.2 - s.1.2)=(t.2.2 - t.1.2)*(s.2.1 - s.1.1):=by
  rw [show s.2.2 - s.1.2=(s.2.2 - p.2) - (s.1.2 - p.2) by omega,show s.2.1 - s.1.1=(s.2.1 - p.1) - (s.1.1 - p.1) by omega,Int.mul_sub,Int.mul_sub (t.2.2 - t.1.2)];omega
 have e2:(t.2.1 - t.1.1)*(p.2 - s.1.2)=(t.2.2 - t.1.2)*(p.1 - s.1.1):=by
  rw [show p.2 - s.1.2 = -(s.1.2 - p.2) by omega,show p.1 - s.1.1 = -(s.1.1 - p.1) by omega,Int.mul_neg,Int.mul_neg];omega
 have:=para hw e1 e2;rw [lA,aV];omega
theorem zM (s t:Sg)(ht:t.1≠t.2)(h:aT t.1 t.2 s.1=0∧aT t.1 t.2 s.2=0):aT s.1 s.2 t.1=0∧aT s.1 s.2 t.2=0 :=
 ⟨DH s t _ (.inl rfl) ht h.1 h.2,DH s t _ (.inr rfl) ht h.1 h.2⟩
theorem tE (s t:Sg)(p q:Int × Int)(hp:p=s.1∨p=s.2)(hq:q=t.1∨q=t.2)(h1:aT t.1 t.2 p=0)(h2:aT s.1 s.2 q=0)(hn:¬ (aT s.1 s.2 t.1=0∧aT s.1 s.2 t.2=0)):p=q:=by
 rw [lA,mP t.1 t.2 _ q hq] at h1;have h2':=h2;rw [lA,mP s.1 s.2 _ p hp] at h2;have hd:(s.2.1 - s.1.1)*(t.2.2 - t.1.2) - (s.2.2 - s.1.2)*(t.2.1 - t.1.1)≠0:=by
  intro hd;apply hn;have e0:aV s.1 s.2 t.2=aV s.1 s.2 t.1:=by
   rw [aV,aV,show t.2.2 - s.1.2=(t.2.2 - t.1.2)+(t.1.2 - s.1.2) by omega,show t.2.1 - s.1.1=(t.2.1 - t.1.1)+(t.1.1 - s.1.1) by omega,Int.mul_add,Int.mul_add];omega
  rw [lA] at h2';rw [lA,lA,e0];rcases hq with rfl|rfl
  ·exact⟨h2',h2'⟩
  ·rw [← e0];exact⟨h2',h2'⟩
 have e2:(t.2.1 - t.1.1)*(q.2 - p.2)=(t.2.2 - t.1.2)*(q.1 - p.1):=by
  rw [show q.2 - p.2 = -(p.2 - q.2) by omega,show q.1 - p.1 = -(p.1 - q.1) by omega,Int.mul_neg,Int.mul_neg];omega
 have:=once hd (by omega) e2;exact Prod.ext (by omega) (by omega)
def ES (s t:Sg):Int:=match MD s t with
 |[]=>if aT s.1 s.2 t.1*aT s.1 s.2 t.2<0∧aT t.1 t.2 s.1*aT t.1 t.2 s.2<0 then 3 else 0
 |[p]=>if (jZ p s.1=true∨jZ p s.2=true)∧(jZ p t.1=true∨jZ p t.2=true) then 1 else 2
 |_::_::_=>4
theorem gJ (a b:Int × Int):jZ a b=false↔a≠b:=by
 rw [ne_eq,← gW];simp
theorem aAJ (s t:Sg)(hs:s.1≠s.2)(ht:t.1≠t.2)(hn:¬ (aT s.1 s.2 t.1=0∧aT s.1 s.2 t.2=0)):kX s t=ES s t:=by
 have hn':¬ (aT t.1 t.2 s.1=0∧aT t.1 t.2 s.2=0):=fun h=>hn (zM s t ht h);have b3:=fun h0=>xB s t t.1 (.inl rfl) hs h0 hn';have b4:=fun h0=>xB s t t.2 (.inr rfl) hs h0 hn';have b1:=fun h0=>xB t s s.1 (.inl rfl) ht h0 hn;have b2:=fun h0=>xB t s s.2 (.inr rfl) ht h0 hn;have f3:=B5 s t.1;have f4:=B5 s t.2;have f1:=B5 t s.1;have f2:=B5 t s.2;have o13:=tE s t s.1 t.1 (.inl rfl) (.inl rfl);have o14:=tE s t s.1 t.2 (.inl rfl) (.inr rfl);have o23:=tE s t s.2 t.1 (.inr rfl) (.inl rfl);have o24:=tE s t s.2 t.2 (.inr rfl) (.inr rfl);have g1:=nB s s.1 (.inl rfl);have g2:=nB s s.2 (.inr rfl);have g3:=nB t t.1 (.inl rfl);have g4:=nB t t.2 (.inr rfl);have z1:aT s.1 s.2 s.1=0:=(by rw [lA,aV];simp);have z2:aT s.1 s.2 s.2=0:=(by rw [lA,aV,Int.mul_comm];omega);have z3:aT t.1 t.2 t.1=0:=(by rw [lA,aV];simp);have z4:aT t.1 t.2 t.2=0:=(by rw [lA,aV,Int.mul_comm];omega);have rf:∀ p,jZ p p=true:=fun p=>(gW p p).2 rfl;have n1:aT s.1 s.2 t.1≠0→jZ s.1 t.1=false∧jZ s.2 t.1=false∧jZ t.1 s.1=false∧jZ t.1 s.2=false:=fun h=>by
  rw [gJ,gJ,gJ,gJ];exact⟨fun e=>h (e▸z1),fun e=>h (by rw [← e];exact z2),fun e=>h (e▸z1),fun e=>h (by rw [e];exact z2)⟩
 have n2:aT s.1 s.2 t.2≠0→jZ s.1 t.2=false∧jZ s.2 t.2=false∧jZ t.2 s.1=false∧jZ t.2 s.2=false:=fun h=>by
  rw [gJ,gJ,gJ,gJ];exact⟨fun e=>h (e▸z1),fun e=>h (by rw [← e];exact z2),fun e=>h (e▸z1),fun e=>h (by rw [e];exact z2)⟩
 have n3:aT t.1 t.2 s.1≠0→jZ s.1 t.1=false∧jZ s.1 t.2=false∧jZ t.1 s.1=false∧jZ t.2 s.1=false:=fun h=>by
  rw [gJ,gJ,gJ,gJ];exact⟨fun e=>h (by rw [e];exact z3),fun e=>h (by rw [e];exact z4),fun e=>h (by rw [← e];exact z3),fun e=>h (by rw [← e];exact z4)⟩
 have n4:aT t.1 t.2 s.2≠0→jZ s.2 t.1=false∧jZ s.2 t.2=false∧jZ t.1 s.2=false∧jZ t.2 s.2=false:=fun h=>by
  rw [gJ,gJ,gJ,gJ];exact⟨fun e=>h (by rw [e];exact z3),fun e=>h (by rw [e];exact z4),fun e=>h (by rw [← e];exact z3),fun e=>h (by rw [← e];exact z4)⟩
 have o13':aT t.1 t.2 s.1=0→aT s.1 s.2 t.1=0→jZ s.1 t.1=true∧jZ t.1 s.1=true:=fun h h'=>by
  have:=o13 h h' hn;rw [gW,gW];exact⟨this,this.symm⟩
 have o14':aT t.1 t.2 s.1=0→aT s.1 s.2 t.2=0→jZ s.1 t.2=true∧jZ t.2 s.1=true:=fun h h'=>by
  have:=o14 h h' hn;rw [gW,gW];exact⟨this,this.symm⟩
 have o23':aT t.1 t.2 s.2=0→aT s.1 s.2 t.1=0→jZ s.2 t.1=true∧jZ t.1 s.2=true:=fun h h'=>by
  have:=o23 h h' hn;rw [gW,gW];exact⟨this,this.symm⟩
 have o24':aT t.1 t.2 s.2=0→aT s.1 s.2 t.2=0→jZ s.2 t.2=true∧jZ t.2 s.2=true:=fun h h'=>by
  have:=o24 h h' hn;rw [gW,gW];exact⟨this,this.symm⟩
 clear o13 o14 o23 o24 z1 z2 z3 z4;unfold kX;rw [if_neg hn];generalize hA:aT s.1 s.2 t.1=A at *;generalize hB:aT s.1 s.2 t.2=B at *;generalize hC:aT t.1 t.2 s.1=C at *;generalize hD:aT t.1 t.2 s.2=D at *;unfold ES MD;rw [hA,hB,hC,hD];by_cases h:0<A*B∨0<C*D
 ·have p3:wL t.1 s=false:=by
   by_cases h0:A=0
   ·rw [b3 h0,decide_eq_false_iff_not];subst h0;simp at h;omega
   ·exact f3 h0
  have p4:wL t.2 s=false:=by
   by_cases h0:B=0
   ·rw [b4 h0,decide_eq_false_iff_not];subst h0;simp at h;omega
   ·exact f4 h0
  have p1:wL s.1 t=false:=by
   by_cases h0:C=0
   ·rw [b1 h0,decide_eq_false_iff_not];subst h0;simp at h;omega
   ·exact f1 h0
  have p2:wL s.2 t=false:=by
   by_cases h0:D=0
   ·rw [b2 h0,decide_eq_false_iff_not];subst h0;simp at h;omega
   ·exact f2 h0
  unfold L7;rw [if_pos h];simp only [JZ,p1,p2,p3,p4,g1,g2,g3,g4,Bool.false_eq_true,false_and,and_false,if_false];rw [if_neg];omega
 ·have hAB:A*B≤0:=(by omega);have hCD:C*D≤0:=(by omega);simp only [hAB,hCD,decide_true] at b1 b2 b3 b4;unfold L7;rw [if_neg h];by_cases a0:A=0 <;> by_cases b0:B=0 <;> by_cases c0:C=0 <;> by_cases d0:D=0 <;> simp only [a0,b0,c0,d0,not_true,not_false_eq_true,true_implies,false_implies,ne_eq,and_self,and_true,true_and,and_false,false_and] at hn hn' b1 b2 b3 b4 f1 f2 f3 f4 n1 n2 n3 n4 o13' o14' o23' o24'
  all_goals (simp only [JZ,CY,rf,g1,g2,g3,g4, *,or_self,or_true,true_or,and_self,if_true,Bool.false_eq_true,Bool.or_false,Bool.or_self,Bool.or_true,and_true,true_and,false_and,and_false,if_false,List.nil_append,or_false,false_or,Bool.true_eq_false])
  all_goals (try (simp only [rf, *,or_self,or_true,true_or,and_self,if_true,Bool.false_eq_true,and_true,true_and,false_and,and_false,if_false,or_false,false_or];done))
  have nAB:A*B≠0:=Int.mul_ne_zero a0 b0;have nCD:C*D≠0:=Int.mul_ne_zero c0 d0;rw [if_pos ⟨by omega,by omega⟩]
def key (p:Int × Int):Int:=p.1*100000+p.2
theorem fW {a b:Int × Int}(ha:aW a=true)(hb:aW b=true):jS a b=gH (key a) (key b):=by
 simp only [aW,Bool.and_eq_true,decide_eq_true_eq] at ha hb;obtain⟨a1,a2⟩:=a;obtain⟨b1,b2⟩:=b;simp only at ha hb;unfold jS XS gH key;simp only;by_cases h1:a1<b1
 ·rw [if_pos h1,if_pos (show a1*100000+a2<b1*100000+b2 by omega)];rfl
 ·by_cases h2:b1<a1
  ·rw [if_neg h1,if_pos h2,if_neg (show ¬ (a1*100000+a2<b1*100000+b2) by omega),if_pos (show b1*100000+b2<a1*100000+a2 by omega)];rfl
  ·rw [if_neg h1,if_neg h2,if_pos rfl];have:a1=b1:=(by omega);subst this;by_cases h3:a2<b2
   ·rw [if_pos h3,if_pos (by omega)]
   ·rw [if_neg h3,if_neg (show ¬ (a1*100000+a2<a1*100000+b2) by omega)];by_cases h4:b2<a2
    ·rw [if_pos h4,if_pos (by omega)]
    ·rw [if_neg h4,if_neg (by omega)]
theorem T6 {a b:Int × Int}(ha:aW a=true)(hb:aW b=true):jZ a b=true↔key a=key b:=by
 simp only [aW,Bool.and_eq_true,decide_eq_true_eq] at ha hb;simp only [jZ,Bool.and_eq_true,decide_eq_true_eq,key,and_true];omega
theorem DQ {a b:Int × Int}(ha:aW a=true)(hb:aW b=true):jZ a b=false↔key a≠key b:=by
 rw [← Bool.not_eq_true,T6 ha hb]
theorem aFY (a b:Int):gH a b≤0↔a≤b:=by unfold gH;split <;> (try split) <;> omega
theorem QX (a b:Int):gH a b<0↔a<b:=by unfold gH;split <;> (try split) <;> omega
theorem PM (a b:Int):0<gH a b↔b<a:=by unfold gH;split <;> (try split) <;> omega
theorem xG (a b:Int):aCv (gH a b)=if a<b then 4 else if a=b then 1 else 0:=by
 unfold aCv gH;split
 ·rfl
 ·split
  ·rw [if_neg (by omega),if_neg (by omega),if_neg (by omega)]
  ·rw [if_neg (by omega),if_pos rfl,if_pos (by omega)]
theorem l8 {s:Sg}(h:dJ s=true):aW s.1=true∧aW s.2=true∧s.1≠s.2:=by
 simp only [dJ,Bool.and_eq_true,Bool.not_eq_true'] at h;exact⟨h.1.1,h.1.2,(gJ _ _).1 h.2⟩
def kF (p1 p2 p3 p4 e13 e14 e23 e24:Bool):Int :=
 match p1,p2,p3&&!(p1&&e13)&&!(p2&&e23),p4&&!(p1&&e14)&&!(p2&&e24) with
 |false,false,false,false=>0
 |true,false,false,false=>if e13 || e14 then 1 else 2
 |false,true,false,false=>if e23 || e24 then 1 else 2
 |false,false,true,false=>if e13 || e23 then 1 else 2
 |false,false,false,true=>if e14 || e24 then 1 else 2
 |_,_,_,_=>4
set_option maxHeartbeats 2000000 in
theorem aI0 {k1 k2 k3 k4 a1 a2 b1 b2:Int}(ha:(k1<k2∧a1=k1∧a2=k2)∨(k2<k1∧a1=k2∧a2=k1))(hb:(k3<k4∧b1=k3∧b2=k4)∨(k4<k3∧b1=k4∧b2=k3)) :
  (if (if a1<b1 then b1 else a1)<(if b2<a2 then b2 else a2) then (4:Int) else if (if a1<b1 then b1 else a1)=(if b2<a2 then b2 else a2) then 1 else 0)
   = kF (decide (b1≤k1∧k1≤b2)) (decide (b1≤k2∧k2≤b2)) (decide (a1≤k3∧k3≤a2)) (decide (a1≤k4∧k4≤a2)) (decide (k1=k3)) (decide (k1=k4)) (decide (k2=k3)) (decide (k2=k4)):=by
 rcases ha with ⟨a,xa,ya⟩|⟨a,xa,ya⟩ <;> rcases hb with ⟨b,xb,yb⟩|⟨b,xb,yb⟩ <;>
 by_cases q1:b1≤k1∧k1≤b2 <;> by_cases q2:b1≤k2∧k2≤b2 <;> by_cases q3:a1≤k3∧k3≤a2 <;> by_cases q4:a1≤k4∧k4≤a2 <;> (try (exfalso;omega)) <;>
  by_cases u1:k1=k3 <;> (try (exfalso;omega)) <;> by_cases u2:k1=k4 <;> (try (exfalso;omega)) <;> by_cases u3:k2=k3 <;> (try (exfalso;omega)) <;> by_cases u4:k2=k4 <;> (try (exfalso;omega)) <;>
  (first|rw [decide_eq_true q1]|rw [decide_eq_false q1]) <;> (first|rw [decide_eq_true q2]|rw [decide_eq_false q2]) <;> (first|rw [decide_eq_true q3]|rw [decide_eq_false q3]) <;> (first|rw [decide_eq_true q4]|rw [decide_eq_false q4]) <;>
  (first|rw [decide_eq_true u1]|rw [decide_eq_false u1]) <;> (first|rw [decide_eq_true u2]|rw [decide_eq_false u2]) <;> (first|rw [decide_eq_true u3]|rw [decide_eq_false u3]) <;> (first|rw [decide_eq_true u4]|rw [decide_eq_false u4]) <;>
  simp only [kF,Bool.and_true,Bool.not_true,Bool.and_false,Bool.not_false,Bool.or_true,Bool.or_false,Bool.true_or,if_true,Bool.false_eq_true,if_false,Bool.true_and,Bool.false_and] <;> split <;> split <;> (try split) <;> (try split) <;> omega
theorem oI (a b:Int × Int):jZ a b=jZ b a:=by
 rw [Bool.eq_iff_iff,gW,gW];exact eq_comm
set_option maxHeartbeats 2000000 in
theorem X5 (s t:Sg)(h:aT s.1 s.2 t.1=0)(n12:jZ s.1 s.2=false)(n34:jZ t.1 t.2=false) :
  ES s t=kF (wL s.1 t) (wL s.2 t) (wL t.1 s) (wL t.2 s) (jZ s.1 t.1) (jZ s.1 t.2) (jZ s.2 t.1) (jZ s.2 t.2):=by
 have g1:=nB s s.1 (.inl rfl);have g2:=nB s s.2 (.inr rfl);have g3:=nB t t.1 (.inl rfl);have g4:=nB t t.2 (.inr rfl);have rf:∀ p,jZ p p=true:=fun p=>(gW p p).2 rfl;have n21:jZ s.2 s.1=false:=(by rw [oI];exact n12);have n43:jZ t.2 t.1=false:=(by rw [oI];exact n34);have c1:=oI t.1 s.1;have c2:=oI t.1 s.2;have c3:=oI t.2 s.1;have c4:=oI t.2 s.2;unfold ES MD;simp only [h,JZ,g1,g2,g3,g4,true_and];generalize wL s.1 t=p1;generalize wL s.2 t=p2;generalize wL t.1 s=p3;generalize wL t.2 s=p4;generalize he13:jZ s.1 t.1=e13 at *;generalize he14:jZ s.1 t.2=e14 at *;generalize he23:jZ s.2 t.1=e23 at *;generalize he24:jZ s.2 t.2=e24 at *;clear g1 g2 g3 g4 h;generalize s.1=P1 at *;generalize s.2=P2 at *;generalize t.1=P3 at *;generalize t.2=P4 at *;cases p1 <;> cases p2 <;> cases p3 <;> cases p4 <;> simp only [CY,rf,n12,n21,n34,n43,he13,he14,he23,he24,c1,c2,c3,c4,kF,Bool.false_eq_true,false_and,and_false,and_self,and_true,true_and,if_true,if_false,List.nil_append,Bool.or_false,Bool.false_or,Bool.true_and,Bool.false_and,or_true,true_or,or_false,false_or,Int.zero_mul,Int.lt_irrefl,Bool.not_false,Bool.or_true,Bool.true_or]
 all_goals (cases e13 <;> cases e14 <;> cases e23 <;> cases e24 <;> simp [CY,rf,n12,n21,n34,n43,he13,he14,he23,he24,c1,c2,c3,c4,kF])
theorem aAz (s t:Sg)(hs:dJ s=true)(ht:dJ t=true)(h:aT s.1 s.2 t.1=0∧aT s.1 s.2 t.2=0):kX s t=ES s t:=by
 obtain⟨r1,r2,ns⟩:=l8 hs;obtain⟨r3,r4,nt⟩:=l8 ht;have h':=zM t s ns h;have n12:key s.1≠key s.2:=(DQ r1 r2).1 ((gJ _ _).2 ns);have n34:key t.1≠key t.2:=(DQ r3 r4).1 ((gJ _ _).2 nt);have p3:wL t.1 s=GW t.1 s:=(by rw [← SC _ _ hs,onS,h.1];simp);have p4:wL t.2 s=GW t.2 s:=(by rw [← SC _ _ hs,onS,h.2];simp);have p1:wL s.1 t=GW s.1 t:=(by rw [← SC _ _ ht,onS,h'.1];simp);have p2:wL s.2 t=GW s.2 t:=(by rw [← SC _ _ ht,onS,h'.2];simp);have es:∃ a,aW (bH s).1=true∧aW (bH s).2=true∧((key s.1<key s.2∧key (bH s).1=key s.1∧key (bH s).2=key s.2)∨(key s.2<key s.1∧key (bH s).1=key s.2∧key (bH s).2=key s.1))∧a=true:=by
  refine⟨true,?_⟩;unfold bH;simp only [fW r1 r2,PM];by_cases hk:key s.2<key s.1
  ·rw [if_pos hk];exact⟨r2,r1,.inr ⟨hk,rfl,rfl⟩,trivial⟩
  ·rw [if_neg hk];exact⟨r1,r2,.inl ⟨by omega,rfl,rfl⟩,trivial⟩
 have et:∃ a,aW (bH t).1=true∧aW (bH t).2=true∧((key t.1<key t.2∧key (bH t).1=key t.1∧key (bH t).2=key t.2)∨(key t.2<key t.1∧key (bH t).1=key t.2∧key (bH t).2=key t.1))∧a=true:=by
  refine⟨true,?_⟩;unfold bH;simp only [fW r3 r4,PM];by_cases hk:key t.2<key t.1
  ·rw [if_pos hk];exact⟨r4,r3,.inr ⟨hk,rfl,rfl⟩,trivial⟩
  ·rw [if_neg hk];exact⟨r3,r4,.inl ⟨by omega,rfl,rfl⟩,trivial⟩
 obtain⟨_,ra1,ra2,ha,_⟩:=es;obtain⟨_,rb1,rb2,hb,_⟩:=et;rw [X5 s t h.1 ((gJ _ _).2 ns) ((gJ _ _).2 nt),p1,p2,p3,p4];unfold kX;rw [if_pos h];have hl:aW (IS s t)=true∧key (IS s t)=(if key (bH s).1<key (bH t).1 then key (bH t).1 else key (bH s).1):=by
  unfold IS;simp only [fW ra1 rb1,QX];by_cases hk:key (bH s).1<key (bH t).1
  ·rw [if_pos hk,if_pos hk];exact⟨rb1,rfl⟩
  ·rw [if_neg hk,if_neg hk];exact⟨ra1,rfl⟩
 have hh:aW (xO s t)=true∧key (xO s t)=(if key (bH t).2<key (bH s).2 then key (bH t).2 else key (bH s).2):=by
  unfold xO;simp only [fW rb2 ra2,QX];by_cases hk:key (bH t).2<key (bH s).2
  ·rw [if_pos hk,if_pos hk];exact⟨rb2,rfl⟩
  ·rw [if_neg hk,if_neg hk];exact⟨ra2,rfl⟩
 have hbet:∀ (p:Int × Int) (g:Sg),aW p=true→aW (bH g).1=true→aW (bH g).2=true→GW p g=decide (key (bH g).1≤key p∧key p≤key (bH g).2):=by
  intro p g hp h1 h2;unfold GW;rw [fW h1 hp,fW hp h2,Bool.eq_iff_iff];simp only [Bool.and_eq_true,decide_eq_true_eq,aFY]
 have heq:∀ a b:Int × Int,aW a=true→aW b=true→jZ a b=decide (key a=key b):=by
  intro a b h1 h2;rw [Bool.eq_iff_iff,decide_eq_true_eq,T6 h1 h2]
 rw [fW hl.1 hh.1,xG,hl.2,hh.2,aI0 ha hb,hbet _ _ r1 rb1 rb2,hbet _ _ r2 rb1 rb2,hbet _ _ r3 ra1 ra2,hbet _ _ r4 ra1 ra2,heq _ _ r1 r3,heq _ _ r1 r4,heq _ _ r2 r3,heq _ _ r2 r4]
theorem aCg (s t:Sg)(hs:dJ s=true)(ht:dJ t=true):kX s t=ES s t:=by
 by_cases h:aT s.1 s.2 t.1=0∧aT s.1 s.2 t.2=0
 ·exact aAz s t hs ht h
 ·exact aAJ s t (l8 hs).2.2 (l8 ht).2.2 h
end Go.Aw

noncomputable section
namespace Go.Aw
theorem cV {ρ:Nat→Nat}{n sz:Nat}{wr g:Bool}{cs cs':List Value}(hg:dE cs=true)(e:cs'=cs):bT ρ n (.cells wr g sz cs) (.cells wr g sz cs'):=by
 subst e;exact aI hg
theorem AD {α:Type}(fl:α→List Value)(l m:List α):flat fl (l++m)=flat fl l++flat fl m:=by
 induction l with
 |nil=>rfl
 |cons a r ih=>simp only [List.cons_append,flat,ih,List.append_assoc]
theorem PI {α:Type}(E:El α){l:List α}{e:Option Int}{h:Heap}{q nx:Nat}(hl:0<l.length)(hq:look h q=some (.cells true false E.sz (flat E.fl l))):Yields E l e (j4 e (.slice (some ⟨q,0,none⟩) l.length l.length)) h nx:=by
 cases l with
 |nil=>cases hl
 |cons a r=>exact⟨q,rfl,hq⟩
end Go.Aw
end

noncomputable section
namespace Go.Aw
open Go.RowKit
section
variable {α β:Type}(E:El α)
def vOf (l:List α)(e:Option Int):Value:=match l with
 |[]=>j4 e (.slice none 0 0)
 |a::r=>j4 e (.slice (some ⟨0,0,none⟩) (a::r).length (a::r).length)
def hOf (l:List α):Heap:=match l with
 |[]=>[]
 |a::r=>[(0,.cells true false E.sz (flat E.fl (a::r)))]
def mOf (l:List α):Nat:=match l with
 |[]=>0
 |_::_=>1
theorem MG {l:List α}{e:Option Int}{v:Value}{h:Heap}{nx:Nat}(hv:Yields E l e v h nx):K1 (vOf l e) (hOf E l) (mOf l) v h nx:=by
 cases l with
 |nil =>
  rw [show v=_ from hv];exact mJ (HG e)
 |cons a r =>
  obtain⟨q,rfl,hq⟩:=hv;refine⟨fun _=>q,⟨fun t u hu=>?_,fun k o hk=>?_,fun k k' o o' hk hk' _=>?_,fun k hk=>absurd hk (Nat.not_lt_zero k),Nat.zero_le _⟩⟩
  ·rw [aB] at hu;split at hu
   ·rename_i hb;injection hu with hu;subst hu;exact⟨by rw [aB,hb];show _=some (iM (fun _=>q) (j4 e (.slice (some ⟨0,0,none⟩) (a::r).length (a::r).length)));rw [G8],YC e _ _⟩
   ·exact cK hu
  ·rw [show hOf E (a::r)=[(0,.cells true false E.sz (flat E.fl (a::r)))] from rfl,aB] at hk;split at hk
   ·rename_i hb;injection hk with hk;subst hk;exact⟨by rw [← beq_true hb];exact Nat.one_pos,_,hq,aI (aF E _)⟩
   ·exact cK hk
  ·rw [show hOf E (a::r)=[(0,.cells true false E.sz (flat E.fl (a::r)))] from rfl,aB] at hk hk';split at hk
   ·rename_i hb1;split at hk'
    ·rename_i hb2;exact (beq_true hb1).symm.trans (beq_true hb2)
    ·exact cK hk'
   ·exact cK hk
def aGC (l:List α)(e:Option Int)(h:Heap)(nx:Nat)(K:KE):Prop:=match l with
 |[]=>K (j4 e (.slice none 0 0)) h nx
 |a::r=>K (j4 e (.slice (some ⟨nx,0,none⟩) (a::r).length (a::r).length)) (cC h nx (.cells true false E.sz (flat E.fl (a::r)))) (nx+1)
theorem aDj {l:List α}{e:Option Int}{h:Heap}{nx:Nat}{K:KE}(hk:aGC E l e h nx K):K (iM (fun k=>nx+k) (vOf l e)) (app (m8 nx (hOf E l)) (qH (hOf E l) h)) (nx+mOf l):=by
 cases l with
 |nil =>
  show K (iM (fun k=>nx+k) (j4 e (.slice none 0 0))) (app [] h) (nx+0);rw [sI (HG e)];exact hk
 |cons a r =>
  have hm:(flat E.fl (a::r)).map (bM (fun k=>nx+k))=flat E.fl (a::r):=bP (aF E _);show K (iM (fun k=>nx+k) (j4 e (.slice (some ⟨0,0,none⟩) (a::r).length (a::r).length))) (app [(nx+0,.cells true false E.sz ((flat E.fl (a::r)).map (bM (fun k=>nx+k))))] h) (nx+1);rw [G8,hm];exact hk
theorem V5 (l:List α):gM (hOf E l)=true:=by cases l <;> rfl
def yOf (T:List Value→Heap→Nat→List α→Option Int→Prop):XF:=xOf fun args0 h0 n0 v1 h1 m=>∃ l e,T args0 h0 n0 l e∧v1=vOf l e∧h1=hOf E l∧m=mOf l
theorem aGr {P:Program}{C:VC}{f:Nat}{T:List Value→Heap→Nat→List α→Option Int→Prop}(hC:bF P C)(hT:∀ args0 h0 n0 l e,T args0 h0 n0 l e→C f args0 h0 n0 (Yields E l e)):dK P f (yOf E T) :=
 jU hC fun args0 h0 n0 v1 h1 m ⟨l,e,ht,hv,hh,hm⟩=>by
  subst hv hh hm;exact⟨V5 E l,_,hT _ _ _ _ _ ht,fun v h nx hq=>MG E hq⟩
theorem aCq {T:List Value→Heap→Nat→List α→Option Int→Prop}{args0:List Value}{h0:Heap}{n0:Nat}{l:List α}{e:Option Int}{args:List Value}{h:Heap}{nx:Nat}{K:KE}(ht:T args0 h0 n0 l e)(hi:In args0 h0 n0 args h nx)(hk:aGC E l e h nx K):yOf E T args h nx K :=
 ⟨args0,h0,n0,_,_,_,⟨l,e,ht,rfl,rfl,rfl⟩,hi,aDj E hk⟩
end
section
variable {α:Type}(E:El α)
theorem aB3 {a0 b0 a b:Value}{o1 o2:aS}{h:Heap}{nx n1 c1 n2 c2:Nat}(ha0:a0=.slice (some ⟨0,0,none⟩) n1 c1)(hb0:b0=.slice (some ⟨0,0,none⟩) n2 c2)
  (h1:In [a0] [(0,o1)] 1 [a] h nx) (h2:In [b0] [(0,o2)] 1 [b] h nx) (g1:∃ sz cs,o1=.cells false true sz cs∧dE cs=true) (g2:∃ sz cs,o2=.cells false true sz cs∧dE cs=true) :
  In [a0,.slice (some ⟨1,0,none⟩) n2 c2] [(0,o1),(1,o2)] 2 [a,b] h nx:=by
 subst ha0 hb0;obtain⟨s1,cs1,rfl,gc1⟩:=g1;obtain⟨s2,cs2,rfl,gc2⟩:=g2;intro ι B w H hs;obtain⟨ι1,e1,k1,R1⟩:=h1 ι B w H (fun v hv=>hs v (by cases hv with|head=>exact .head _|tail _ hm=>cases hm));obtain⟨ι2,e2,k2,R2⟩:=h2 ι B w H (fun v hv=>hs v (by cases hv with|head=>exact .tail _ (.head _)|tail _ hm=>cases hm));simp only [List.map_cons,List.map_nil,List.cons.injEq,and_true] at e1 e2;have q1:=R1.obj 0 _ rfl;have q2:=R2.obj 0 _ rfl;have kk1:=k1 _ (.head _);have kk2:=k2 _ (.head _);refine⟨fun k=>if k=0 then ι1 0 else ι2 0,?_,?_,⟨?_,?_,?_,Nat.le_refl _,?_⟩⟩
 ·simp only [List.map_cons,List.map_nil,e1,e2];rfl
 ·intro v hv;cases hv with
  |head=>exact⟨show (0:Nat)<2 by decide,kk1.2⟩
  |tail _ hm =>
   cases hm with
   |head=>exact⟨show (1:Nat)<2 by decide,kk2.2⟩
   |tail _ hm=>cases hm
 ·intro k o hk;have key:∀ {ι:Nat→Loc} {sz:Nat} {cs:List Value} {loc:Loc} (ι':Nat→Loc),dE cs=true→jT ι w.heap.size w (.cells false true sz cs) loc→jT ι' w.heap.size w (.cells false true sz cs) loc:=by
   intro ι sz cs loc ι' hg ho;cases loc with
   |nil p=>exact ho
   |lay b o e =>
    obtain⟨x1,x2,x3⟩:=ho;refine⟨x1,x2,fun i v hv=>?_⟩;rw [x3 i v hv,mT (a9 hg (List.mem_of_getElem? hv)),mT (a9 hg (List.mem_of_getElem? hv))]
  rw [aB] at hk;split at hk
  ·rename_i hb;injection hk with hk;subst hk;rw [← beq_true hb];exact key _ gc1 q1
  ·rw [aB] at hk;split at hk
   ·rename_i hb;injection hk with hk;subst hk;rw [← beq_true hb];exact key _ gc2 q2
   ·exact cK hk
 ·intro k k' o o' hk hk' hne hal b hb;exfalso;rw [aB] at hk;split at hk
  ·injection hk with hk;subst hk;cases hal
  ·rw [aB] at hk;split at hk
   ·injection hk with hk;subst hk;cases hal
   ·exact cK hk
 ·intro k o hk;rw [aB] at hk;split at hk
  ·rename_i hb;rw [← beq_true hb];decide
  ·rw [aB] at hk;split at hk
   ·rename_i hb;rw [← beq_true hb];decide
   ·exact cK hk
 ·intro k o hk;rw [aB] at hk;split at hk
  ·injection hk with hk;subst hk;exact fun v hv=>cD (a9 gc1 hv)
  ·rw [aB] at hk;split at hk
   ·injection hk with hk;subst hk;exact fun v hv=>cD (a9 gc2 hv)
   ·exact cK hk
theorem aDT {h:Heap}{nx:Nat}{v:Value}{l:List α}(hl:n9 E h v l):∃ c,In [.slice (some ⟨0,0,none⟩) l.length c] [(0,.cells false true E.sz (flat E.fl l))] 1 [v] h nx:=by
 unfold n9 at hl;split at hl
 ·rename_i n c;obtain⟨rfl,rfl,rfl⟩:=hl;exact⟨0,Q3 rfl true E.sz E.pos⟩
 ·rename_i k o n c;obtain⟨rfl,wr,g,sz,cs,hk,hcs⟩:=hl;exact⟨c,Y4 rfl hk hcs (aF E l) true E.sz E.pos⟩
 ·exact hl.elim
end
theorem vN {args0:List Value}{h0:Heap}{n0:Nat}{args:List Value}{h:Heap}{nx:Nat}(ρ:Nat→Nat)(ha:args=args0.map (iM ρ))(hn:∀ v∈args0,BK n0 v)
  (ho:∀ k o,look h0 k=some o→k<n0∧∃ g sz cs0,o=.cells false g sz cs0∧sz≠0∧(g=true→dE cs0=true)∧(∀ v∈cs0,BR n0 v)∧∃ wr g' sz' cs,look h (ρ k)=some (.cells wr g' sz' cs)∧cs.take cs0.length=cs0.map (bM ρ)) :
  In args0 h0 n0 args h nx:=by
 intro ι B w H hs;subst ha;have hsc:∀ v∈args0,eG ι nx (iM ρ v):=fun v hv=>hs _ (List.mem_map.2 ⟨v,hv,rfl⟩);refine⟨fun k=>ι (ρ k),?_,fun v hv=>CM (hsc v hv) (hn v hv),⟨fun k o hk=>?_,fun k k' o o' hk hk' hne ha b hb=>?_,fun k o hk=>(ho k o hk).1,Nat.le_refl _,fun k o hk=>?_⟩⟩
 ·rw [List.map_map];exact List.map_congr_left fun v hv=>C1 (hsc v hv)
 ·obtain⟨_,g,sz,cs0,rfl,hz,hg,hm,wr,g',sz',cs,hl,hc⟩:=ho k o hk;have hob:=H.obj _ _ hl;have hso:=H.sc _ _ hl;cases hι:ι (ρ k) with
  |nil p =>
   rw [hι] at hob;have h0:cs=[]:=(by cases wr <;> exact hob.1);subst h0;have:cs0=[]:=by
    cases cs0 with
    |nil=>rfl
    |cons a r=>simp at hc
   subst this;exact⟨rfl,fun h=>h.elim (fun h=>absurd h hz) (fun h=>by cases h)⟩
  |lay b off e =>
   have hlt:b<w.heap.size:=hob.lt (by rw [hι];rfl);refine⟨hlt,hg,fun i v hv=>?_⟩;have h1:(cs.take cs0.length)[i]? = some (bM ρ v):=(by rw [hc,List.getElem?_map,hv];rfl);have hi:i<cs0.length:=(List.getElem?_eq_some_iff.1 hv).1;rw [List.getElem?_take,if_pos hi] at h1;obtain⟨b2,off2,e2,hι2,hcell⟩:=H.cell hl h1;rw [hι] at hι2;injection hι2 with i1 i2 i3;subst i1;subst i2;rw [hcell];congr 1;exact gV (hso _ (List.mem_of_getElem? h1))
 ·obtain⟨_,g,sz,cs0,rfl,_⟩:=ho k o hk;cases ha
 ·obtain⟨_,g,sz,cs0,rfl,hz,hg,hm,wr,g',sz',cs,hl,hc⟩:=ho k o hk;intro v hv;have hso:=H.sc _ _ hl;have hmem:bM ρ v∈cs:=by
   have:bM ρ v∈cs.take cs0.length:=(by rw [hc];exact List.mem_map.2 ⟨v,hv,rfl⟩);exact List.mem_of_mem_take this
  exact nT (hso _ hmem) (hm v hv)
structure mV where
 f:Nat
 args:List Value
 h0:Heap
 n0:Nat
 v1:Value
 h1:Heap
 m:Nat
def K0:List Value→List Value→Bool
 |[],[]=>true
 |a::r,b::s=>MI a b&&K0 r s
 |_,_=>false
theorem H4:∀ {l m:List Value},K0 l m=true→l=m
 |[],[],_=>rfl
 |[],_::_,h=>by cases h
 |_::_,[],h=>by cases h
 |a::r,b::s,h=>by
  simp only [K0,Bool.and_eq_true] at h;rw [FA h.1,H4 h.2]
def aCY (n:Nat):List Value→Bool
 |[]=>true
 |v::r=>Z5 n v&&aCY n r
theorem R7 {n:Nat}:∀ {l:List Value},aCY n l=true→∀ v∈l,BK n v
 |[],_,v,hv=>by cases hv
 |x::r,h,v,hv=>by
  simp only [aCY,Bool.and_eq_true] at h;cases hv with
  |head=>exact JN h.1
  |tail _ hm=>exact R7 h.2 v hm
def aIr (b:Nat):List Value→List Value→List (Nat × Nat)→List (Nat × Nat)
 |v::l,u::m,r=>prT b v u (aIr b l m r)
 |_,_,r=>r
def T7 (ρ:List (Nat × Nat))(n0:Nat)(h:Heap):Heap→Bool
 |[]=>true
 |(k,.cells false g sz cs0)::r=>Nat.blt k n0&&!(Nat.beq sz 0)&&(match g with|true=>dE cs0|false=>true)&&Q7 n0 cs0&&(match look h (nm ρ k) with
  |some (.cells _ _ _ cs)=>IB (cs.take cs0.length) (cs0.map (bM (nm ρ)))
  |_=>false)&&T7 ρ n0 h r
 |_=>false
theorem N9 {ρ:List (Nat × Nat)}{n0:Nat}{h:Heap}:∀ {h0:Heap},T7 ρ n0 h h0=true→∀ k o,look h0 k=some o→k<n0∧∃ g sz cs0,o=.cells false g sz cs0∧sz≠0∧(g=true→dE cs0=true)∧(∀ v∈cs0,BR n0 v)∧∃ wr g' sz' cs,look h (nm ρ k)=some (.cells wr g' sz' cs)∧cs.take cs0.length=cs0.map (bM (nm ρ))
 |[],_,k,o,hk=>by cases hk
 |(j,q)::r,hb,k,o,hk=>by
  unfold T7 at hb;split at hb
  ·rename_i he;cases he
  ·rename_i k' g sz cs0 r' he;injection he with e1 e2;injection e1 with e3 e4;subst e3;subst e4;subst e2;simp only [Bool.and_eq_true,Bool.not_eq_true'] at hb;obtain⟨⟨⟨⟨⟨h1,h2⟩,h3⟩,h4⟩,h5⟩,h6⟩:=hb;rw [aB] at hk;split at hk
   ·rename_i hbq;have:=beq_true hbq;subst this;injection hk with hk;subst hk;refine⟨Nat.le_of_ble_eq_true h1,g,sz,cs0,rfl,beq_false h2,fun hg=>by subst hg;exact h3,xR h4,?_⟩;split at h5
    ·rename_i wr g' sz' cs hl;exact⟨wr,g',sz',cs,hl,yF h5⟩
    ·cases h5
   ·exact N9 h6 k o hk
  ·cases hb
def mV.rho (E:mV)(args:List Value)(h:Heap):List (Nat × Nat):=grow 0 E.h0 h 10000 (aIr 0 E.args args []) []
def PU (E:mV)(args:List Value)(h:Heap):Bool:=K0 args (E.args.map (iM (nm (E.rho args h))))&&aCY E.n0 E.args&&T7 (E.rho args h) E.n0 h E.h0
theorem VB {E:mV}{args:List Value}{h:Heap}{nx:Nat}(hf:PU E args h=true):In E.args E.h0 E.n0 args h nx:=by
 simp only [PU,Bool.and_eq_true] at hf;exact vN _ (H4 hf.1.1) (R7 hf.1.2) (N9 hf.2)
def QC (E:mV):qM:=fun v h' _=>aCW 0 (XX 0 [(0,E.v1)] [(0,v)] E.h1 h') [(0,E.v1)] E.h1 E.m [(0,v)] h'&&gM E.h1
def W0 (L:List mV)(f:Nat):Sp:=fun args0 h0 n0 v1 h1 m=>∃ E∈L,E.f=f∧args0=E.args∧h0=E.h0∧n0=E.n0∧v1=E.v1∧h1=E.h1∧m=E.m
def aDl (f:Nat):List mV→Bool
 |[]=>false
 |E::r=>match Nat.beq E.f f with|true=>true|false=>aDl f r
def aAZ (f:Nat):List mV→List Value→Heap→Nat→qM→Bool
 |[],_,_,_,_=>false
 |E::r,args,h,nx,K=>match Nat.beq E.f f with
  |true=>(match PU E args h with
   |true=>K (iM (fun k=>nx+k) E.v1) (app (m8 nx E.h1) (qH E.h1 h)) (nx+E.m)
   |false=>aAZ f r args h nx K)
  |false=>aAZ f r args h nx K
theorem J3 {f:Nat}(L0:List mV){args:List Value}{h:Heap}{nx:Nat}{K:qM}{K':KE}(hK:∀ v h nx,K v h nx=true→K' v h nx):∀ (L:List mV),(∀ E∈L,E∈L0)→aAZ f L args h nx K=true→xOf (W0 L0 f) args h nx K'
 |[],_,hl=>by cases hl
 |E::r,hsub,hl=>by
  simp only [aAZ] at hl;split at hl
  ·rename_i hb;split at hl
   ·rename_i hf;exact⟨E.args,E.h0,E.n0,E.v1,E.h1,E.m,⟨E,hsub E (.head _),beq_true hb,rfl,rfl,rfl,rfl,rfl,rfl⟩,VB hf,hK _ _ _ hl⟩
   ·exact J3 L0 hK r (fun E hE=>hsub E (.tail _ hE)) hl
  ·exact J3 L0 hK r (fun E hE=>hsub E (.tail _ hE)) hl
abbrev GS:=List Value→Option (Bool × Value)
def gXB (s:GS):List Value→Heap→Nat→qM→Bool:=fun args h nx K=>match s args with
 |some p=>dR p.1 (K p.2 h nx)
 |none=>false
def FG (L:List mV)(S:List (Nat × GS))(f:Nat):Option (List Value→Heap→Nat→KE→Prop):=match aDl f L with
 |true=>some (xOf (W0 L f))
 |false=>(match look S f with|some s=>some (gX s)|none=>none)
def EJ (L:List mV)(S:List (Nat × GS))(f:Nat):Option (List Value→Heap→Nat→qM→Bool):=match aDl f L with
 |true=>some (aAZ f L)
 |false=>(match look S f with|some s=>some (gXB s)|none=>none)
theorem CZ {c:B9}{L:List mV}{S:List (Nat × GS)}(hc:c.X=FG L S):TwX c (EJ L S):=by
 intro f x xb hx hxb args h nx K K' hK hl;rw [hc] at hx;unfold FG at hx;unfold EJ at hxb;split at hx
 ·rename_i hh;rw [hh] at hxb;injection hx with hx;injection hxb with hxb;subst hx;subst hxb;exact J3 L hK L (fun _ h=>h) hl
 ·rename_i hh;rw [hh] at hxb;simp only at hxb;split at hx
  ·rename_i s hs;rw [hs] at hxb;injection hx with hx;injection hxb with hxb;subst hx;subst hxb;unfold gXB at hl;unfold gX;split at hl
   ·rename_i p hp;rw [hp];exact bB (hK _ _ _) hl
   ·cases hl
  ·cases hx
def cH (c:B9)(XB:Nat→Option (List Value→Heap→Nat→qM→Bool))(d:Nat)(E:mV):Prop:=AI c XB d false E.f E.args E.h0 E.n0 (QC E)=true
def tX (P:Program)(L:List mV):Prop:=∀ f,dK P f (xOf (W0 L f))
theorem tX.app {P:Program}{L L':List mV}(h:tX P L)(h':tX P L'):tX P (L++L'):=by
 intro f;have key:∀ args h nx K,xOf (W0 (L++L') f) args h nx K→xOf (W0 L f) args h nx K∨xOf (W0 L' f) args h nx K:=by
  rintro args h nx K ⟨a,b,c,d,e,g,⟨E,hE,he⟩,q⟩;rcases List.mem_append.1 hE with hE|hE
  ·exact .inl ⟨a,b,c,d,e,g,⟨E,hE,he⟩,q⟩
  ·exact .inr ⟨a,b,c,d,e,g,⟨E,hE,he⟩,q⟩
 refine⟨fun args hp nx K hx=>?_,fun args hp nx K hx=>?_⟩
 ·rcases key _ _ _ _ hx with hx|hx
  ·exact (h f).1 args hp nx K hx
  ·exact (h' f).1 args hp nx K hx
 ·obtain⟨a,b,c,d,e,g,q1,q2,q3⟩:=hx;exact⟨_,_,_,q3,fun K' hk=>⟨a,b,c,d,e,g,q1,q2,hk⟩⟩
theorem B6 {P:Program}{c:B9}(hc:oS P c){XB:Nat→Option (List Value→Heap→Nat→qM→Bool)}(hX:TwX c XB){d:Nat}{L:List mV}(hL:∀ E∈L,cH c XB d E):tX P L:=by
 intro f;refine jU (iX hc d).1 fun args0 h0 n0 v1 h1 m hs=>?_;obtain⟨E,hE,rfl,rfl,rfl,rfl,rfl,rfl,rfl⟩:=hs;have t1:=hL E hE;have hv:=oN hX d false E.f E.args E.h0 E.n0 (QC E) (fun v h nx=>gM E.h1=true∧K1 E.v1 E.h1 E.m v h nx) (fun v h nx ho=>by
  simp only [QC,Bool.and_eq_true] at ho;exact⟨ho.2,_,TU ho.1⟩) t1
 obtain⟨v,h',nx',k1,k2⟩:=(iX hc d).2.2.1 _ _ _ _ _ hv;exact⟨k1.1,_,k2 _ k1.2,fun _ _ _ q=>q⟩
theorem BY {P:Program}{L:List mV}(h:tX P L){S:List (Nat × GS)}(hS:∀ f s,look S f=some s→dK P f (gX s)):∀ f x,FG L S f=some x→dK P f x:=by
 intro f x hfx;unfold FG at hfx;split at hfx
 ·injection hfx with hfx;subst hfx;exact h f
 ·split at hfx
  ·rename_i s hs;injection hfx with hfx;subst hfx;exact hS f s hs
  ·cases hfx
end Go.Aw
end
