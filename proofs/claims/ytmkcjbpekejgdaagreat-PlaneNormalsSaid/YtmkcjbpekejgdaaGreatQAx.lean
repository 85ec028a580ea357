/-
  Parts of a proof. No condition.
-/
import Derived.Test.YtmkcjbpekejgdaaGreatQAv
import Derived.Test.YtmkcjbpekejgdaaGreatQAw
set_option linter.unusedSimpArgs false
set_option linter.unusedVariables false
noncomputable section
namespace Go.Aw
theorem ends_ord {s:Sg}(h:rightG s=true):∃ a b:Pq,((a=s.1∧b=s.2)∨(a=s.2∧b=s.1))∧key a<key b∧endsS s=(a,b)∧rightS a=true∧rightS b=true:=by
 obtain⟨r1,r2,ns⟩:=right_two h
 have nk:key s.1≠key s.2:=(eqP_keyf r1 r2).1 ((eqP_f _ _).2 ns)
 unfold endsS
 simp only [ord_key r1 r2,cmp_gt]
 by_cases hk:key s.2<key s.1
 ·rw [if_pos hk];exact⟨s.2,s.1,.inr ⟨rfl,rfl⟩,hk,rfl,r2,r1⟩
 ·rw [if_neg hk];exact⟨s.1,s.2,.inl ⟨rfl,rfl⟩,by omega,rfl,r1,r2⟩
theorem meet_line {s t:Sg}(h:turnS s.1 s.2 t.1=0∧turnS s.1 s.2 t.2=0){a b c d:Pq}(hs:endsS s=(a,b))(ht:endsS t=(c,d))(ra:rightS a=true)(rb:rightS b=true)(rc:rightS c=true)(rd:rightS d=true) :
  meetS s t=if (if key a<key c then key c else key a)<(if key d<key b then key d else key b) then 4 else if (if key a<key c then key c else key a)=(if key d<key b then key d else key b) then 1 else 0:=by
 unfold meetS
 rw [if_pos h]
 unfold lowS highS
 rw [hs,ht]
 simp only [ord_key ra rc,ord_key rd rb,cmp_lt]
 by_cases h1:key a<key c
 ·by_cases h2:key d<key b
  ·simp only [if_pos h1,if_pos h2];rw [ord_key rc rd,tbl_cmp]
  ·simp only [if_pos h1,if_neg h2];rw [ord_key rc rb,tbl_cmp]
 ·by_cases h2:key d<key b
  ·simp only [if_neg h1,if_pos h2];rw [ord_key ra rd,tbl_cmp]
  ·simp only [if_neg h1,if_neg h2];rw [ord_key ra rb,tbl_cmp]
theorem onW_ends {N x y:Int}{s:Sg}{a b:Pq}(h:(a=s.1∧b=s.2)∨(a=s.2∧b=s.1)):onW N x y s.1 s.2↔onW N x y a b:=by
 rcases h with ⟨rfl,rfl⟩|⟨rfl,rfl⟩
 ·exact Iff.rfl
 ·exact⟨onW_rev,onW_rev⟩
theorem onW_key {N x y:Int}{a b:Pq}(h:onW N x y a b)(hk:key a≤key b):N*key a≤x*100000+y∧x*100000+y≤N*key b:=by
 obtain⟨α,β,h1,h2,h3,h4,h5⟩:=h
 have e:x*100000+y=α*key a+β*key b:=by
  unfold key
  rw [h4,h5]
  grind
 have m1:=Int.mul_le_mul_of_nonneg_left hk h1
 have m2:=Int.mul_le_mul_of_nonneg_left hk h2
 rw [e,← h3,Int.add_mul,Int.add_mul]
 omega
theorem onW_low {N x y:Int}{a b:Pq}(h:onW N x y a b)(hk:key a<key b)(e:x*100000+y=N*key a):x=N*a.1∧y=N*a.2:=by
 obtain⟨α,β,h1,h2,h3,h4,h5⟩:=h
 have e2:x*100000+y=α*key a+β*key b:=by
  unfold key
  rw [h4,h5]
  grind
 rw [e,← h3,Int.add_mul] at e2
 have e3:β*(key b - key a)=0:=by rw [Int.mul_sub];omega
 have hb:β=0:=(mul_zero_or e3).resolve_right (by omega)
 subst hb
 rw [Int.add_zero] at h3
 subst h3
 simp only [Int.zero_mul,Int.add_zero] at h4 h5
 exact⟨h4,h5⟩
theorem onW_high {N x y:Int}{a b:Pq}(h:onW N x y a b)(hk:key a<key b)(e:x*100000+y=N*key b):x=N*b.1∧y=N*b.2:=by
 obtain⟨α,β,h1,h2,h3,h4,h5⟩:=h
 have e2:x*100000+y=α*key a+β*key b:=by
  unfold key
  rw [h4,h5]
  grind
 rw [e,← h3,Int.add_mul] at e2
 have e3:α*(key b - key a)=0:=by rw [Int.mul_sub];omega
 have hb:α=0:=(mul_zero_or e3).resolve_right (by omega)
 subst hb
 rw [Int.zero_add] at h3
 subst h3
 simp only [Int.zero_mul,Int.zero_add] at h4 h5
 exact⟨h4,h5⟩
theorem cancel_pt {N:Int}(hN:0<N){p q:Pq}(h1:N*p.1=N*q.1)(h2:N*p.2=N*q.2):p=q :=
 Prod.ext (Int.eq_of_mul_eq_mul_left (by omega) h1) (Int.eq_of_mul_eq_mul_left (by omega) h2)
theorem cross_on {N x y α β:Int}{p q a b:Pq}(h3:α+β=N)(h4:x=α*p.1+β*q.1)(h5:y=α*p.2+β*q.2) :
  α*crossI a b p+β*crossI a b q=(b.1 - a.1)*(y - N*a.2) - (b.2 - a.2)*(x - N*a.1):=by
 subst h3 h4 h5
 unfold crossI
 grind
theorem cross_own {N x y:Int}{a b:Pq}(h:onW N x y a b):(b.1 - a.1)*(y - N*a.2) - (b.2 - a.2)*(x - N*a.1)=0:=by
 obtain⟨α,β,h1,h2,h3,h4,h5⟩:=h
 subst h3 h4 h5
 grind
theorem sgn_pos2 (A B:Int):0<sgn A*sgn B↔0<A*B:=by
 unfold sgn
 by_cases a0:A<0
 ·by_cases b0:B<0
  ·have:=Int.mul_pos_of_neg_of_neg a0 b0
   simp [a0,b0];omega
  ·by_cases b1:0<B
   ·have:=Int.mul_neg_of_neg_of_pos a0 b1
    simp [a0,b0,b1];omega
   ·have:B=0:=by omega
    subst this
    simp [a0]
 ·by_cases a1:0<A
  ·by_cases b0:B<0
   ·have:=Int.mul_neg_of_pos_of_neg a1 b0
    simp [a0,a1,b0];omega
   ·by_cases b1:0<B
    ·have:=Int.mul_pos a1 b1
     simp [a0,a1,b0,b1];omega
    ·have:B=0:=by omega
     subst this
     simp [a0,a1]
  ·have:A=0:=by omega
   subst this
   simp
theorem zero_mix {γ δ A B N:Int}(h1:0≤γ)(h2:0≤δ)(h3:γ+δ=N)(hN:0<N)(h:γ*A+δ*B=0)(hp:0<A*B):False:=by
 rcases Int.lt_or_lt_of_ne (show A≠0 from fun e=>by rw [e,Int.zero_mul] at hp;omega) with hA|hA
 ·have hB:B<0:=Int.not_le.1 fun hB=>by
   have:=Int.mul_nonpos_of_nonpos_of_nonneg (show A≤0 by omega) hB
   omega
  have m1:γ*A≤0:=Int.mul_nonpos_of_nonneg_of_nonpos h1 (by omega)
  have m2:δ*B≤0:=Int.mul_nonpos_of_nonneg_of_nonpos h2 (by omega)
  have g0:=(mul_zero_or (show γ*A=0 by omega)).resolve_right (by omega)
  have d0:=(mul_zero_or (show δ*B=0 by omega)).resolve_right (by omega)
  omega
 ·have hB:0<B:=Int.not_le.1 fun hB=>by
   have:=Int.mul_nonpos_of_nonneg_of_nonpos (show 0≤A by omega) hB
   omega
  have m1:0≤γ*A:=Int.mul_nonneg h1 (by omega)
  have m2:0≤δ*B:=Int.mul_nonneg h2 (by omega)
  have g0:=(mul_zero_or (show γ*A=0 by omega)).resolve_right (by omega)
  have d0:=(mul_zero_or (show δ*B=0 by omega)).resolve_right (by omega)
  omega
theorem one_zero {γ δ A B N x y:Int}{p q:Pq}(h3:γ+δ=N)(hx:x=γ*p.1+δ*q.1)(hy:y=γ*p.2+δ*q.2)(h:γ*A+δ*B=0)(h0:A=0∨B=0)(hn:¬ (A=0∧B=0)):∃ z:Pq,(z=p∨z=q)∧x=N*z.1∧y=N*z.2:=by
 rcases h0 with rfl|rfl
 ·have hd:=(mul_zero_or (show δ*B=0 by omega)).resolve_right (fun e=>hn ⟨rfl,e⟩)
  subst hd
  refine⟨p,.inl rfl,?_,?_⟩
  ·rw [hx,← h3];grind
  ·rw [hy,← h3];grind
 ·have hd:=(mul_zero_or (show γ*A=0 by omega)).resolve_right (fun e=>hn ⟨e,rfl⟩)
  subst hd
  refine⟨q,.inr rfl,?_,?_⟩
  ·rw [hx,← h3];grind
  ·rw [hy,← h3];grind
theorem meet_ok {s t:Sg}(hs:rightG s=true)(ht:rightG t=true)(h:meetS s t=0∨meetS s t=1):okP s t:=by
 intro N x y hN h1 h2
 by_cases hl:turnS s.1 s.2 t.1=0∧turnS s.1 s.2 t.2=0
 ·obtain⟨a,b,eab,kab,esa,ra,rb⟩:=ends_ord hs
  obtain⟨c,d,ecd,kcd,esc,rc,rd⟩:=ends_ord ht
  rw [meet_line hl esa esc ra rb rc rd] at h
  have o1:=(onW_ends eab).1 h1
  have o2:=(onW_ends ecd).1 h2
  obtain⟨k1,k2⟩:=onW_key o1 (Int.le_of_lt kab)
  obtain⟨k3,k4⟩:=onW_key o2 (Int.le_of_lt kcd)
  have i1:key a≤key d:=Int.le_of_mul_le_mul_left (Int.le_trans k1 k4) hN
  have i2:key c≤key b:=Int.le_of_mul_le_mul_left (Int.le_trans k3 k2) hN
  have sa:a=s.1∨a=s.2:=eab.elim (fun e=>.inl e.1) (fun e=>.inr e.1)
  have sb:b=s.1∨b=s.2:=eab.elim (fun e=>.inr e.2) (fun e=>.inl e.2)
  have tc:c=t.1∨c=t.2:=ecd.elim (fun e=>.inl e.1) (fun e=>.inr e.1)
  have td:d=t.1∨d=t.2:=ecd.elim (fun e=>.inr e.2) (fun e=>.inl e.2)
  have q:key a=key d∨key c=key b:=by
   by_cases g1:key a<key c <;> by_cases g2:key d<key b <;> simp only [g1,g2,if_true,if_false] at h <;> split at h <;> (try split at h) <;> omega
  rcases q with q|q
  ·obtain⟨x1,y1⟩:=onW_low o1 kab (by rw [q] at k1 ⊢;omega)
   obtain⟨x2,y2⟩:=onW_high o2 kcd (by rw [q] at k1;omega)
   have e:=cancel_pt hN (x1.symm.trans x2) (y1.symm.trans y2)
   exact⟨a,sa,by rw [e];exact td,x1,y1⟩
  ·obtain⟨x1,y1⟩:=onW_high o1 kab (by rw [q] at k3;omega)
   obtain⟨x2,y2⟩:=onW_low o2 kcd (by rw [q] at k3 ⊢;omega)
   have e:=cancel_pt hN (x1.symm.trans x2) (y1.symm.trans y2)
   exact⟨b,sb,by rw [e];exact tc,x1,y1⟩
 ·have hl':¬ (turnS t.1 t.2 s.1=0∧turnS t.1 t.2 s.2=0):=fun g=>hl (same_line s t (right_two ht).2.2 g)
  rw [meetS,if_neg hl] at h
  have c1:=cross_own h1
  have c2:=cross_own h2
  obtain⟨α,β,p1,p2,p3,p4,p5⟩:=h1
  obtain⟨γ,δ,q1,q2,q3,q4,q5⟩:=h2
  have m1:=cross_on (a:=t.1) (b:=t.2) p3 p4 p5
  have m2:=cross_on (a:=s.1) (b:=s.2) q3 q4 q5
  rw [c2] at m1
  rw [c1] at m2
  unfold kindS at h
  by_cases g:0<turnS s.1 s.2 t.1*turnS s.1 s.2 t.2∨0<turnS t.1 t.2 s.1*turnS t.1 t.2 s.2
  ·exfalso
   rcases g with g|g
   ·exact zero_mix q1 q2 q3 hN m2 ((sgn_pos2 _ _).1 g)
   ·exact zero_mix p1 p2 p3 hN m1 ((sgn_pos2 _ _).1 g)
  ·rw [if_neg g] at h
   by_cases g2:(turnS t.1 t.2 s.1=0∨turnS t.1 t.2 s.2=0)∧(turnS s.1 s.2 t.1=0∨turnS s.1 s.2 t.2=0)
   ·simp only [turn0] at g2 hl hl'
    obtain⟨z,z1,z2,z3⟩:=one_zero p3 p4 p5 m1 g2.1 hl'
    obtain⟨w,w1,w2,w3⟩:=one_zero q3 q4 q5 m2 g2.2 hl
    have e:=cancel_pt hN (z2.symm.trans w2) (z3.symm.trans w3)
    exact⟨z,z1,by rw [e];exact w1,z2,z3⟩
   ·rw [if_neg g2] at h
    split at h <;> omega
theorem onW_scale {N x y k:Int}{a b:Pq}(hk:0≤k)(h:onW N x y a b):onW (k*N) (k*x) (k*y) a b:=by
 obtain⟨α,β,h1,h2,h3,h4,h5⟩:=h
 refine⟨k*α,k*β,Int.mul_nonneg hk h1,Int.mul_nonneg hk h2,by rw [← Int.mul_add,h3],?_,?_⟩
 ·rw [h4];grind
 ·rw [h5];grind
theorem onW_of_key {p a b:Pq}(h0:crossI a b p=0)(h1:key a≤key p)(h2:key p≤key b):onW (key b - key a) ((key b - key a)*p.1) ((key b - key a)*p.2) a b:=by
 refine onW_mid (k:=key p - key a) (by omega) (by omega) ?_ ?_
 ·unfold crossI at h0
  unfold key
  grind
 ·unfold crossI at h0
  unfold key
  grind
theorem cross_ab (a b p:Pq):crossI b a p = -crossI a b p:=cross_flip a b p
theorem end_key {s:Sg}{a b z:Pq}(h:(a=s.1∧b=s.2)∨(a=s.2∧b=s.1))(hz:z=s.1∨z=s.2):z=a∨z=b:=by
 rcases h with ⟨rfl,rfl⟩|⟨rfl,rfl⟩
 ·exact hz
 ·exact hz.symm
theorem ok_meet {s t:Sg}(hs:rightG s=true)(ht:rightG t=true)(hok:okP s t)(n1:s≠t)(n2:s≠(t.2,t.1)) :
  ((∃ z:Pq,(z=s.1∨z=s.2)∧(z=t.1∨z=t.2))→meetS s t=1)∧((¬ ∃ z:Pq,(z=s.1∨z=s.2)∧(z=t.1∨z=t.2))→meetS s t=0):=by
 obtain⟨rs1,rs2,ns⟩:=right_two hs
 obtain⟨rt1,rt2,nt⟩:=right_two ht
 by_cases hl:turnS s.1 s.2 t.1=0∧turnS s.1 s.2 t.2=0
 ·have hl':=same_line t s ns hl
  obtain⟨a,b,eab,kab,esa,ra,rb⟩:=ends_ord hs
  obtain⟨c,d,ecd,kcd,esc,rc,rd⟩:=ends_ord ht
  rw [meet_line hl esa esc ra rb rc rd]
  have sa:a=s.1∨a=s.2:=eab.elim (fun e=>.inl e.1) (fun e=>.inr e.1)
  have sb:b=s.1∨b=s.2:=eab.elim (fun e=>.inr e.2) (fun e=>.inl e.2)
  have tc:c=t.1∨c=t.2:=ecd.elim (fun e=>.inl e.1) (fun e=>.inr e.1)
  have td:d=t.1∨d=t.2:=ecd.elim (fun e=>.inr e.2) (fun e=>.inl e.2)
  have on1:∀ p:Pq,(p=s.1∨p=s.2∨p=t.1∨p=t.2)→crossI a b p=0:=by
   have e0:∀ p:Pq,(p=s.1∨p=s.2∨p=t.1∨p=t.2)→crossI s.1 s.2 p=0:=by
    rintro p (h|h|h|h) <;> rw [h]
    ·unfold crossI;grind
    ·unfold crossI;grind
    ·exact (turn0 _ _ _).1 hl.1
    ·exact (turn0 _ _ _).1 hl.2
   intro p hp
   rcases eab with ⟨e1,e2⟩|⟨e1,e2⟩
   ·rw [e1,e2];exact e0 p hp
   ·rw [e1,e2,cross_ab,e0 p hp];rfl
  have on2:∀ p:Pq,(p=s.1∨p=s.2∨p=t.1∨p=t.2)→crossI c d p=0:=by
   have e0:∀ p:Pq,(p=s.1∨p=s.2∨p=t.1∨p=t.2)→crossI t.1 t.2 p=0:=by
    rintro p (h|h|h|h) <;> rw [h]
    ·exact (turn0 _ _ _).1 hl'.1
    ·exact (turn0 _ _ _).1 hl'.2
    ·unfold crossI;grind
    ·unfold crossI;grind
   intro p hp
   rcases ecd with ⟨e1,e2⟩|⟨e1,e2⟩
   ·rw [e1,e2];exact e0 p hp
   ·rw [e1,e2,cross_ab,e0 p hp];rfl
  -- a point within both is an end of both
  have sh:∀ p:Pq,(p=s.1∨p=s.2∨p=t.1∨p=t.2)→key a≤key p→key p≤key b→key c≤key p→key p≤key d→(p=a∨p=b)∧(p=c∨p=d):=by
   intro p hp i1 i2 i3 i4
   have o1:=onW_scale (k:=key d - key c) (by omega) (onW_of_key (on1 p hp) i1 i2)
   have o2:=onW_scale (k:=key b - key a) (by omega) (onW_of_key (on2 p hp) i3 i4)
   have hN:0<(key d - key c)*(key b - key a):=Int.mul_pos (by omega) (by omega)
   rw [Int.mul_left_comm,Int.mul_left_comm (key b - key a),Int.mul_comm (key b - key a) (key d - key c)] at o2
   obtain⟨z,z1,z2,z3,z4⟩:=hok _ _ _ hN ((onW_ends eab).2 o1) ((onW_ends ecd).2 o2)
   rw [← Int.mul_assoc] at z3 z4
   have e:=cancel_pt hN z3 z4
   subst e
   exact⟨end_key eab z1,end_key ecd z2⟩
  -- two shared ends
  have two:¬ ((a=c)∧(b=d)):=by
   rintro ⟨e1,e2⟩
   rcases eab with ⟨u1,u2⟩|⟨u1,u2⟩ <;> rcases ecd with ⟨v1,v2⟩|⟨v1,v2⟩
   ·exact n1 (Prod.ext (u1.symm.trans (e1.trans v1)) (u2.symm.trans (e2.trans v2)))
   ·exact n2 (Prod.ext (u1.symm.trans (e1.trans v1)) (u2.symm.trans (e2.trans v2)))
   ·exact n2 (Prod.ext (u2.symm.trans (e2.trans v2)) (u1.symm.trans (e1.trans v1)))
   ·exact n1 (Prod.ext (u2.symm.trans (e2.trans v2)) (u1.symm.trans (e1.trans v1)))
  have ka:a=s.1∨a=s.2∨a=t.1∨a=t.2:=sa.elim .inl (fun e=>.inr (.inl e))
  have kb:b=s.1∨b=s.2∨b=t.1∨b=t.2:=sb.elim .inl (fun e=>.inr (.inl e))
  have kc:c=s.1∨c=s.2∨c=t.1∨c=t.2:=tc.elim (fun e=>.inr (.inr (.inl e))) (fun e=>.inr (.inr (.inr e)))
  have kd:d=s.1∨d=s.2∨d=t.1∨d=t.2:=td.elim (fun e=>.inr (.inr (.inl e))) (fun e=>.inr (.inr (.inr e)))
  have low:key a≤key d→key c≤key b→(key a<key c→(c=a∨c=b)∧(c=c∨c=d))∧(¬ key a<key c→(a=a∨a=b)∧(a=c∨a=d)):=fun j1 j2=>⟨fun g=>sh c kc (by omega) j2 (by omega) (by omega),fun g=>sh a ka (by omega) (by omega) (by omega) j1⟩
  have high:key a≤key d→key c≤key b→(key d<key b→(d=a∨d=b)∧(d=c∨d=d))∧(¬ key d<key b→(b=a∨b=b)∧(b=c∨b=d)):=fun j1 j2=>⟨fun g=>sh d kd j1 (by omega) (by omega) (by omega),fun g=>sh b kb (by omega) (by omega) j2 (by omega)⟩
  have no4:¬ ((if key a<key c then key c else key a)<(if key d<key b then key d else key b)):=by
   intro hlt
   have j1:key a≤key d:=by split at hlt <;> split at hlt <;> omega
   have j2:key c≤key b:=by split at hlt <;> split at hlt <;> omega
   have l:=low j1 j2
   have hh:=high j1 j2
   refine two ⟨?_,?_⟩
   ·by_cases g:key a<key c
    ·rcases (l.1 g).1 with e|e
     ·exact e.symm
     ·exfalso
      rw [if_pos g,e] at hlt
      split at hlt <;> omega
    ·rcases (l.2 g).2 with e|e
     ·exact e
     ·exfalso
      rw [if_neg g,e] at hlt
      split at hlt <;> omega
   ·by_cases g:key d<key b
    ·rcases (hh.1 g).1 with e|e
     ·exfalso
      rw [if_pos g,e] at hlt
      split at hlt <;> omega
     ·exact e.symm
    ·rcases (hh.2 g).2 with e|e
     ·exfalso
      rw [if_neg g,e] at hlt
      split at hlt <;> omega
     ·exact e
  rw [if_neg no4]
  constructor
  ·rintro ⟨z,z1,z2⟩
   have y1:=end_key eab z1
   have y2:=end_key ecd z2
   refine if_pos ?_
   have i1:key a≤key z∧key z≤key b:=by rcases y1 with e|e <;> rw [e] <;> omega
   have i2:key c≤key z∧key z≤key d:=by rcases y2 with e|e <;> rw [e] <;> omega
   by_cases g1:key a<key c <;> by_cases g2:key d<key b <;> simp only [g1,g2,if_true,if_false] at no4 ⊢ <;> omega
  ·intro hno
   refine if_neg fun he=>?_
   have j1:key a≤key d:=by split at he <;> split at he <;> omega
   have j2:key c≤key b:=by split at he <;> split at he <;> omega
   have back:∀ {z:Pq},(z=a∨z=b)→(z=c∨z=d)→False:=fun {z} h1 h2=>hno ⟨z,h1.elim (fun e=>by rw [e];exact sa) (fun e=>by rw [e];exact sb),h2.elim (fun e=>by rw [e];exact tc) (fun e=>by rw [e];exact td)⟩
   by_cases g:key a<key c
   ·exact back ((low j1 j2).1 g).1 ((low j1 j2).1 g).2
   ·exact back ((low j1 j2).2 g).1 ((low j1 j2).2 g).2
 ·have hl':¬ (turnS t.1 t.2 s.1=0∧turnS t.1 t.2 s.2=0):=fun g=>hl (same_line s t nt g)
  rw [meetS,if_neg hl]
  constructor
  ·rintro ⟨z,z1,z2⟩
   have c1:turnS t.1 t.2 z=0:=by
    rw [turn0]
    rcases z2 with e|e <;> rw [e] <;> unfold crossI <;> grind
   have c2:turnS s.1 s.2 z=0:=by
    rw [turn0]
    rcases z1 with e|e <;> rw [e] <;> unfold crossI <;> grind
   have d1:turnS t.1 t.2 s.1=0∨turnS t.1 t.2 s.2=0:=by
    rcases z1 with e|e
    ·exact .inl (by rw [← e];exact c1)
    ·exact .inr (by rw [← e];exact c1)
   have d2:turnS s.1 s.2 t.1=0∨turnS s.1 s.2 t.2=0:=by
    rcases z2 with e|e
    ·exact .inl (by rw [← e];exact c2)
    ·exact .inr (by rw [← e];exact c2)
   unfold kindS
   rw [if_neg (by
    rintro (g|g)
    ·rcases d2 with e|e <;> rw [e] at g <;> simp at g
    ·rcases d1 with e|e <;> rw [e] at g <;> simp at g),if_pos ⟨d1,d2⟩]
  ·intro hno
   unfold kindS
   refine if_pos (Classical.byContradiction fun g=>hno ?_)
   have g1:¬ 0<crossI s.1 s.2 t.1*crossI s.1 s.2 t.2:=fun h=>g (.inl ((sgn_pos2 _ _).2 h))
   have g2:¬ 0<crossI t.1 t.2 s.1*crossI t.1 t.2 s.2:=fun h=>g (.inr ((sgn_pos2 _ _).2 h))
   simp only [turn0] at hl
   have e0:crossI s.1 s.2 t.1 - crossI s.1 s.2 t.2=crossI t.1 t.2 s.2 - crossI t.1 t.2 s.1:=by
    clear hok g1 g2 g hno
    unfold crossI;grind
   have ex:(-crossI s.1 s.2 t.2)*t.1.1+crossI s.1 s.2 t.1*t.2.1=crossI t.1 t.2 s.2*s.1.1+(-crossI t.1 t.2 s.1)*s.2.1:=by
    clear hok g1 g2 g hno
    unfold crossI;grind
   have ey:(-crossI s.1 s.2 t.2)*t.1.2+crossI s.1 s.2 t.1*t.2.2=crossI t.1 t.2 s.2*s.1.2+(-crossI t.1 t.2 s.1)*s.2.2:=by
    clear hok g1 g2 g hno
    unfold crossI;grind
   generalize crossI s.1 s.2 t.1=A at *
   generalize crossI s.1 s.2 t.2=B at *
   generalize crossI t.1 t.2 s.1=C at *
   generalize crossI t.1 t.2 s.2=D at *
   have opp:∀ {P Q:Int},¬ 0<P*Q→(0≤P∧Q≤0)∨(P≤0∧0≤Q):=fun {P Q} h=>by
    by_cases h1:0<P
    ·refine .inl ⟨by omega,Int.not_lt.1 fun h2=>h (Int.mul_pos h1 h2)⟩
    ·by_cases h2:P<0
     ·refine .inr ⟨by omega,Int.not_lt.1 fun h3=>h (Int.mul_pos_of_neg_of_neg h2 h3)⟩
     ·omega
   rcases opp g1 with ⟨a0,b0⟩|⟨a0,b0⟩
   ·have hCD:C≤0∧0≤D:=by rcases opp g2 with h|h <;> omega
    obtain⟨z,z1,z2,-⟩:=hok (A - B) _ _ (by omega) ⟨D,-C,by omega,by omega,by omega,rfl,rfl⟩ ⟨-B,A,by omega,by omega,by omega,ex.symm,ey.symm⟩
    exact⟨z,z1,z2⟩
   ·have hCD:0≤C∧D≤0:=by rcases opp g2 with h|h <;> omega
    obtain⟨z,z1,z2,-⟩:=hok (B - A) (-(D*s.1.1+(-C)*s.2.1)) (-(D*s.1.2+(-C)*s.2.2)) (by omega) ⟨-D,C,by omega,by omega,by omega,by clear hok;grind,by clear hok;grind⟩ ⟨B,-A,by omega,by omega,by omega,by clear hok;grind,by clear hok;grind⟩
    exact⟨z,z1,z2⟩
end Go.Aw
end

noncomputable section
namespace Go.Aw
theorem two_split {L:List Pq}(h:2≤L.length):∃ a K b,L=a::(K++[b]):=by
 match L,h with
 |a::c::r,_ =>
  obtain⟨K,b,e⟩:=last_split (show c::r≠[] by simp)
  exact⟨a,K,b,by rw [e]⟩
theorem Simp.least {P:List Pq}(h:Simp P):∃ A w B a K b,P=A++w::B∧w::B++A=w::a::(K++[b])∧Simp (w::a::(K++[b]))∧(∀ p∈a::(K++[b]),lx w p)∧ar P=ar (w::a::(K++[b])):=by
 have hl:=h.len
 obtain⟨w,hw,hm⟩:=lx_min P (fun e=>by rw [e] at hl;simp at hl)
 obtain⟨A,B,rfl⟩:=List.append_of_mem hw
 obtain⟨a,K,b,e⟩:=two_split (L:=B++A) (by simp at hl ⊢;omega)
 have e2:w::B++A=w::a::(K++[b]):=by rw [List.cons_append,e]
 have hr:=h.rot
 rw [e2] at hr
 refine⟨A,w,B,a,K,b,rfl,e2,hr,fun p hp=>hm p ?_ (fun q=>(List.nodup_cons.1 hr.nodup).1 (by rw [← q];exact hp)),by rw [ar_rot,e2]⟩
 rw [← e] at hp
 simp only [List.mem_append,List.mem_cons] at hp ⊢
 exact hp.elim (fun g=>.inr (.inr g)) .inl
theorem Simp.area {P:List Pq}(h:Simp P):ar P≠0:=by
 obtain⟨A,w,B,a,K,b,-,-,hs,hm,e⟩:=h.least
 obtain⟨τ,hτ,ht⟩:=sg_of (turns_min hs (hm a (by simp)) (hm b (by simp)))
 have:=(TE _).1 w a K b τ hτ rfl hs hm ht
 rw [e]
 intro h0
 rw [h0] at this
 simp at this
theorem Simp.between {w a b:Pq}{K:List Pq}(h:Simp (w::a::(K++[b])))(hc:crossI b w a=0):∃ i j:Int,0<i∧0<j∧(i+j)*w.1=i*a.1+j*b.1∧(i+j)*w.2=i*a.2+j*b.2:=by
 have hn:=h.nodup
 have hcl:=cl_first w a K b
 have mwa:(w,a)∈cl (w::a::(K++[b])):=by rw [hcl];exact .head _
 have mbw:(b,w)∈cl (w::a::(K++[b])):=by rw [hcl];exact .tail _ (List.mem_append.2 (.inr (.head _)))
 have hab:a≠b:=fun e=>(List.nodup_cons.1 (List.nodup_cons.1 hn).2).1 (by rw [e];simp)
 have hwa:w≠a:=fun e=>(List.nodup_cons.1 hn).1 (by rw [e];simp)
 have hwb:w≠b:=fun e=>(List.nodup_cons.1 hn).1 (by rw [e];simp)
 have hma:a∈w::a::(K++[b]):=by simp
 have hmb:b∈w::a::(K++[b]):=by simp
 have ka:∀ N k:Int,0<N→0≤k→k≤N→N*(a.1 - w.1)=k*(b.1 - w.1)→N*(a.2 - w.2)=k*(b.2 - w.2)→False:=fun N k hN h0 h1 e1 e2=>by
  rcases h.on hma mbw hN (onW_rev (onW_mid h0 h1 e1 e2)) with e|e
  ·exact hab e
  ·exact hwa e.symm
 have kb:∀ N k:Int,0<N→0≤k→k≤N→N*(b.1 - w.1)=k*(a.1 - w.1)→N*(b.2 - w.2)=k*(a.2 - w.2)→False:=fun N k hN h0 h1 e1 e2=>by
  rcases h.on hmb mwa hN (onW_mid h0 h1 e1 e2) with e|e
  ·exact hwb e.symm
  ·exact hab e.symm
 have hx:(a.1 - w.1)*(b.2 - w.2)=(a.2 - w.2)*(b.1 - w.1):=by
  clear ka kb h
  unfold crossI at hc
  grind
 have na:¬ (a.1 - w.1=0∧a.2 - w.2=0):=fun g=>hwa (Prod.ext (by omega) (by omega))
 have nb:¬ (b.1 - w.1=0∧b.2 - w.2=0):=fun g=>hwb (Prod.ext (by omega) (by omega))
 have fin:∀ i j:Int,i*(a.1 - w.1)+j*(b.1 - w.1)=0→i*(a.2 - w.2)+j*(b.2 - w.2)=0→(i+j)*w.1=i*a.1+j*b.1∧(i+j)*w.2=i*a.2+j*b.2:=fun i j e1 e2=>by
  constructor
  ·clear ka kb h e2;grind
  ·clear ka kb h e1;grind
 clear h hcl mwa mbw hma hmb hn hc
 generalize a.1 - w.1=u1 at *
 generalize a.2 - w.2=u2 at *
 generalize b.1 - w.1=t1 at *
 generalize b.2 - w.2=t2 at *
 have mc:∀ p q:Int,p*q=q*p:=Int.mul_comm
 by_cases hu:u1=0
 ·have hu2:u2≠0:=fun e=>na ⟨hu,e⟩
  rw [hu,Int.zero_mul] at hx
  have ht:t1=0:=(mul_zero_or hx.symm).resolve_left hu2
  have ht2:t2≠0:=fun e=>nb ⟨ht,e⟩
  subst hu ht
  rcases Int.lt_or_lt_of_ne hu2 with s1|s1 <;> rcases Int.lt_or_lt_of_ne ht2 with s2|s2
  ·exfalso
   rcases Int.le_total u2 t2 with g|g
   ·exact kb (-u2) (-t2) (by omega) (by omega) (by omega) (by omega) (by rw [Int.neg_mul,Int.neg_mul,mc])
   ·exact ka (-t2) (-u2) (by omega) (by omega) (by omega) (by omega) (by rw [Int.neg_mul,Int.neg_mul,mc])
  ·exact⟨t2,-u2,by omega,by omega,fin _ _ (by omega) (by rw [Int.neg_mul,mc];omega)⟩
  ·exact⟨-t2,u2,by omega,by omega,fin _ _ (by omega) (by rw [Int.neg_mul,mc];omega)⟩
  ·exfalso
   rcases Int.le_total u2 t2 with g|g
   ·exact ka t2 u2 (by omega) (by omega) (by omega) (by omega) (mc _ _)
   ·exact kb u2 t2 (by omega) (by omega) (by omega) (by omega) (mc _ _)
 ·have ht:t1≠0:=fun e=>by
   rw [e,Int.mul_zero] at hx
   exact nb ⟨e,(mul_zero_or hx).resolve_left hu⟩
  rcases Int.lt_or_lt_of_ne hu with s1|s1 <;> rcases Int.lt_or_lt_of_ne ht with s2|s2
  ·exfalso
   rcases Int.le_total u1 t1 with g|g
   ·exact kb (-u1) (-t1) (by omega) (by omega) (by omega) (by rw [Int.neg_mul,Int.neg_mul,mc]) (by rw [Int.neg_mul,Int.neg_mul,hx,mc])
   ·exact ka (-t1) (-u1) (by omega) (by omega) (by omega) (by rw [Int.neg_mul,Int.neg_mul,mc]) (by rw [Int.neg_mul,Int.neg_mul,hx,mc])
  ·exact⟨t1,-u1,by omega,by omega,fin _ _ (by rw [Int.neg_mul,mc];omega) (by rw [Int.neg_mul,hx,mc];omega)⟩
  ·exact⟨-t1,u1,by omega,by omega,fin _ _ (by rw [Int.neg_mul,mc];omega) (by rw [Int.neg_mul,hx,mc];omega)⟩
  ·exfalso
   rcases Int.le_total u1 t1 with g|g
   ·exact ka t1 u1 (by omega) (by omega) (by omega) (mc _ _) (by rw [mc,← hx])
   ·exact kb u1 t1 (by omega) (by omega) (by omega) (mc _ _) (by rw [hx,mc])
theorem Simp.flat {w a b:Pq}{K:List Pq}(h:Simp (w::a::(K++[b])))(hK:K≠[])(hc:crossI b w a=0):Simp (a::(K++[b])):=by
 obtain⟨i,j,hi,hj,ex,ey⟩:=h.between hc
 have hn:=h.nodup
 have hn2:(a::(K++[b])).Nodup:=(List.nodup_cons.1 hn).2
 have hwL:w∉a::(K++[b]):=(List.nodup_cons.1 hn).1
 have hsub:∀ e,e∈pe (a::(K++[b]))→e∈cl (w::a::(K++[b])):=fun e he=>by
  rw [cl_first]
  exact .tail _ (List.mem_append.2 (.inl he))
 have hcl:∀ e,e∈cl (a::(K++[b]))→e∈pe (a::(K++[b]))∨e=(b,a):=fun e he=>by
  have he:e∈pe (a::(K++[b])++[a]):=he
  have:=pe_app (a::K) b [a]
  simp only [List.cons_append,List.append_assoc,List.nil_append] at this he
  rw [this] at he
  rcases List.mem_append.1 he with he|he
  ·exact .inl he
  ·exact .inr (by simpa [pe] using he)
 have key:∀ e,e∈pe (a::(K++[b]))→okP e (b,a):=fun e hem=>by
  have hm:=pe_mem hem
  have e1w:e.1≠w:=fun q=>hwL (by rw [← q];exact hm.1)
  have e2w:e.2≠w:=fun q=>hwL (by rw [← q];exact hm.2)
  have hb:okP e (b,w):=h.ok e (hsub e hem) (b,w) (by rw [cl_first];exact .tail _ (List.mem_append.2 (.inr (.head _)))) (fun q=>e2w (by rw [q]))
  have ha:okP e (w,a):=h.ok e (hsub e hem) (w,a) (by rw [cl_first];exact .head _) (fun q=>e1w (by rw [q]))
  rintro N x y hN ⟨α,β,p1,p2,p3,p4,p5⟩ ⟨γ,δ,q1,q2,q3,q4,q5⟩
  simp only at q4 q5
  have zw:∀ {z:Pq},(z=e.1∨z=e.2)→z≠w:=fun hz=>hz.elim (fun g=>by rw [g];exact e1w) (fun g=>by rw [g];exact e2w)
  have sc:∀ k:Int,0<k→onW (k*N) (k*x) (k*y) e.1 e.2:=fun k hk=>⟨k*α,k*β,Int.mul_nonneg (by omega) p1,Int.mul_nonneg (by omega) p2,by rw [← Int.mul_add,p3],by rw [p4];clear hb ha h;grind,by rw [p5];clear hb ha h;grind⟩
  by_cases hle:δ*(i+j)≤i*N
  ·obtain⟨z,z1,z2,z3,z4⟩:=hb (i*N) (i*x) (i*y) (Int.mul_pos hi hN) (sc i hi) ⟨i*N - δ*(i+j),δ*(i+j),by omega,Int.mul_nonneg q2 (by omega),by omega,by rw [q4,← q3];show _=_*b.1+_*w.1;clear hb ha h sc;grind,by rw [q5,← q3];show _=_*b.2+_*w.2;clear hb ha h sc;grind⟩
   rw [Int.mul_assoc] at z3 z4
   exact⟨z,z1,.inl (z2.resolve_right (zw z1)),Int.eq_of_mul_eq_mul_left (by omega) z3,Int.eq_of_mul_eq_mul_left (by omega) z4⟩
  ·have hle2:γ*(i+j)≤j*N:=by
    have:γ*(i+j)+δ*(i+j)=i*N+j*N:=by rw [← q3];clear hb ha h sc;grind
    omega
   obtain⟨z,z1,z2,z3,z4⟩:=ha (j*N) (j*x) (j*y) (Int.mul_pos hj hN) (sc j hj) ⟨γ*(i+j),j*N - γ*(i+j),Int.mul_nonneg q1 (by omega),by omega,by omega,by rw [q4,← q3];show _=_*w.1+_*a.1;clear hb ha h sc;grind,by rw [q5,← q3];show _=_*w.2+_*a.2;clear hb ha h sc;grind⟩
   rw [Int.mul_assoc] at z3 z4
   exact⟨z,z1,.inr (z2.resolve_left (zw z1)),Int.eq_of_mul_eq_mul_left (by omega) z3,Int.eq_of_mul_eq_mul_left (by omega) z4⟩
 refine⟨hn2,?_,fun e he' f hf hne=>?_⟩
 ·cases K with
  |nil=>exact absurd rfl hK
  |cons k K'=>simp
 ·rcases hcl e he' with h1|h1
  ·rcases hcl f hf with h2|h2
   ·exact h.ok e (hsub e h1) f (hsub f h2) hne
   ·rw [h2];exact key e h1
  ·rcases hcl f hf with h2|h2
   ·rw [h1];exact okP_symm (key f h2)
   ·exact absurd (h1.trans h2.symm) hne
def hd (L:List Pq)(z:Pq):Pq:=match L with
 |[]=>z
 |x::_=>x
def lst (p:Pq):List Pq→Pq
 |[]=>p
 |x::r=>lst x r
def kq (p:Pq):List Pq→Pq→List Pq
 |[],_=>[]
 |x::r,z=>(if crossI p x (hd r z)=0 then [] else [x])++kq x r z
def ker (L:List Pq):List Pq:=match L with
 |[]=>[]
 |x::r=>kq (lst x r) (x::r) x
theorem lst_app:∀ (p:Pq) (A B:List Pq),lst p (A++B)=lst (lst p A) B
 |p,[],B=>rfl
 |p,x::A,B=>lst_app x A B
theorem hd_app (A B:List Pq)(z:Pq):hd (A++B) z=hd A (hd B z):=by
 cases A <;> rfl
theorem kq_app:∀ (p:Pq) (A B:List Pq) (z:Pq),kq p (A++B) z=kq p A (hd B z)++kq (lst p A) B z
 |p,[],B,z=>rfl
 |p,x::A,B,z=>by
  have:=kq_app x A B z
  simp only [List.cons_append,kq,lst]
  rw [this,hd_app,List.append_assoc]
theorem kq_sub:∀ (p:Pq) (L:List Pq) (z:Pq),(kq p L z).Sublist L
 |p,[],z=>List.Sublist.refl _
 |p,x::r,z=>by
  unfold kq
  have:=kq_sub x r z
  split
  ·exact this.cons _
  ·exact this.cons_cons _
theorem ker_sub (L:List Pq):(ker L).Sublist L:=by
 cases L with
 |nil=>exact List.Sublist.refl _
 |cons x r=>exact kq_sub _ _ _
theorem ker_rot (A B:List Pq):∃ U V,ker (A++B)=U++V∧ker (B++A)=V++U:=by
 cases A with
 |nil=>exact⟨[],ker B,by simp,by simp⟩
 |cons x A =>
  cases B with
  |nil=>exact⟨ker (x::A),[],by simp,by simp⟩
  |cons y B =>
   refine⟨kq (lst y B) (x::A) y,kq (lst x A) (y::B) x,?_,?_⟩
   ·show kq (lst x (A++y::B)) (x::A++y::B) x=_
    rw [kq_app,lst_app]
    rfl
   ·show kq (lst y (B++x::A)) (y::B++x::A) y=_
    rw [kq_app,lst_app]
    rfl
theorem ker_flat {w a b:Pq}{K:List Pq}(h:Simp (w::a::(K++[b])))(hK:K≠[])(hc:crossI b w a=0):ker (w::a::(K++[b]))=ker (a::(K++[b])):=by
 obtain⟨i,j,hi,hj,ex,ey⟩:=h.between hc
 obtain⟨k,K',rfl⟩:=first_split hK
 have l1:lst w (a::((k::K')++[b]))=b:=by
  show lst a ((k::K')++[b])=b
  rw [lst_app]
  rfl
 have l2:lst a ((k::K')++[b])=b:=by rw [lst_app];rfl
 show kq (lst w (a::((k::K')++[b]))) (w::a::((k::K')++[b])) w=kq (lst a ((k::K')++[b])) (a::((k::K')++[b])) a
 rw [l1,l2]
 have e1:crossI w a k=0↔crossI b a k=0:=by
  have e:(i+j)*crossI w a k=j*crossI b a k:=by
   clear h
   unfold crossI;grind
  constructor
  ·intro g
   rw [g,Int.mul_zero] at e
   exact (mul_zero_or e.symm).resolve_left (by omega)
  ·intro g
   rw [g,Int.mul_zero] at e
   exact (mul_zero_or e).resolve_left (by omega)
 have e2:crossI (lst a (k::K')) b w=0↔crossI (lst a (k::K')) b a=0:=by
  generalize lst a (k::K')=l
  have e:(i+j)*crossI l b w=i*crossI l b a:=by
   clear h
   unfold crossI;grind
  constructor
  ·intro g
   rw [g,Int.mul_zero] at e
   exact (mul_zero_or e.symm).resolve_left (by omega)
  ·intro g
   rw [g,Int.mul_zero] at e
   exact (mul_zero_or e).resolve_left (by omega)
 have k1:∀ p z,kq p (a::((k::K')++[b])) z=(if crossI p a k=0 then [] else [a])++(kq a (k::K') b++(if crossI (lst a (k::K')) b z=0 then [] else [b])):=fun p z=>by
  rw [kq,kq_app]
  congr 2
  show kq (lst a (k::K')) [b] z=_
  rw [kq,kq,List.append_nil]
  rfl
 rw [kq,if_pos (show crossI b w (hd (a::((k::K')++[b])) w)=0 from hc),List.nil_append,k1,k1]
 congr 1
 ·simp only [e1]
 ·congr 1
  simp only [e2]
theorem kq_miss:∀ (p:Pq) (L:List Pq) (z:Pq),(kq p L z).length≠L.length→∃ A w B,L=A++w::B∧crossI (lst p A) w (hd B z)=0
 |p,[],z,h=>absurd rfl h
 |p,x::r,z,h=>by
  by_cases hc:crossI p x (hd r z)=0
  ·exact⟨[],x,r,rfl,hc⟩
  ·rw [kq,if_neg hc] at h
   obtain⟨A,w,B,e,g⟩:=kq_miss x r z (by simp at h;exact h)
   exact⟨x::A,w,B,by rw [e];rfl,g⟩
theorem ker_simp:∀ (n:Nat) (P:List Pq),P.length=n→Simp P→Simp (ker P)∧ar (ker P)=ar P∧(ker (ker P)).length=(ker P).length:=fun n=>by
 induction n with
 |zero=>intro P hl hP;have:=hP.len;omega
 |succ n ih =>
  intro P hl hP
  by_cases hk:(ker P).length=P.length
  ·have e:ker P=P:=(ker_sub P).eq_of_length hk
   rw [e,e]
   exact⟨hP,rfl,rfl⟩
  ·have h3:=hP.len
   have:∃ A w B,P=A++w::B∧∃ a K b,B++A=a::(K++[b])∧crossI b w a=0:=by
    cases P with
    |nil=>simp at h3
    |cons x r =>
     obtain⟨A,w,B,e,g⟩:=kq_miss (lst x r) (x::r) x hk
     refine⟨A,w,B,e,?_⟩
     have hlen:=congrArg List.length e
     simp at hlen h3
     obtain⟨a,K,b,e2⟩:=two_split (L:=B++A) (by simp;omega)
     refine⟨a,K,b,e2,?_⟩
     have hb:∀ p,lst p (B++A)=b:=fun p=>by
      rw [e2]
      show lst a (K++[b])=b
      rw [lst_app]
      rfl
     have ha:∀ z,hd (B++A) z=a:=fun z=>by rw [e2];rfl
     have g1:lst (lst x r) A=b:=by
      cases A with
      |nil =>
       simp only [List.nil_append,List.cons.injEq] at e
       rw [← hb x,List.append_nil,← e.2]
       rfl
      |cons c A =>
       rw [← hb x,lst_app]
       rfl
     have g2:hd B x=a:=by
      cases B with
      |nil =>
       cases A with
       |nil=>simp only [List.length_nil] at hlen;omega
       |cons c A =>
        rw [← ha x]
        simp only [List.cons_append,List.cons.injEq] at e
        exact e.1
      |cons c B=>rw [← ha x];rfl
     rw [g1,g2] at g
     exact g
   obtain⟨A,w,B,rfl,a,K,b,e,hc⟩:=this
   have e2:w::B++A=w::a::(K++[b]):=by rw [List.cons_append,e]
   have hP':=hP.rot
   rw [e2] at hP'
   have hK:K≠[]:=fun hK=>by
    subst hK
    refine hP'.area ?_
    show ar [w,a,b]=0
    rw [ar_three]
    exact hc
   have hQ:=hP'.flat hK hc
   obtain⟨q1,q2,q3⟩:=ih (a::(K++[b])) (by
    have:=congrArg List.length e
    simp at this hl ⊢
    omega) hQ
   rw [← ker_flat hP' hK hc,← e2] at q1 q2 q3
   obtain⟨U,V,r1,r2⟩:=ker_rot A (w::B)
   rw [r2] at q1 q2 q3
   rw [r1]
   refine⟨q1.rot,?_,?_⟩
   ·rw [ar_rot,q2,ar_rot,e2,ar_ear,hc]
    omega
   ·obtain⟨U',V',s1,s2⟩:=ker_rot U V
    rw [s2] at q3
    rw [s1]
    simp only [List.length_append] at q3 ⊢
    omega
end Go.Aw
end

noncomputable section
namespace Go.Aw
set_option maxRecDepth 100000
theorem getP (l:List (Int × Int)){i o:Nat}(hi:i<l.length)(ho:o=i*2):getN (flat elP.fl l) o 2=some [iv (at2 l i).1,iv (at2 l i).2]:=by
 rw [at2_eq hi]
 exact flat_get elP l hi ho
end Go.Aw
end

noncomputable section
namespace Go.Aw
theorem ObjRen_j {ρ:Nat→Nat}{n sz:Nat}{wr g:Bool}{cs cs':List Value}(hg:allG cs=true)(e:cs'=cs):ObjRen ρ n (.cells wr g sz cs) (.cells wr g sz cs'):=by
 subst e
 exact ObjRen_g hg
theorem gX_weak {P:Program}{f:Nat}{s s':List Value→Option (Bool × Value)}(h:XOK P f (gX s))(hw:∀ args v,s' args=some (true,v)→s args=some (true,v)):XOK P f (gX s'):=by
 refine h.mono ?_ ?_
 ·intro args h nx K hx
  unfold gX at hx ⊢
  split at hx
  ·rename_i p e1
   obtain⟨b,v⟩:=p
   obtain⟨rfl,hx⟩:=must_iff.1 hx
   rw [hw args v e1]
   exact must_of rfl hx
  ·exact hx.elim
 ·intro args h nx K hx
  unfold gX at hx
  split at hx
  ·rename_i p e1
   obtain⟨hb,hx⟩:=must_iff.1 hx
   exact⟨p.2,h,nx,hx,fun K' hk=>by unfold gX;rw [e1];exact must_of hb hk⟩
  ·exact hx.elim
theorem flat_append {α:Type}(fl:α→List Value)(l m:List α):flat fl (l++m)=flat fl l++flat fl m:=by
 induction l with
 |nil=>rfl
 |cons a r ih=>simp only [List.cons_append,flat,ih,List.append_assoc]
theorem Yields_own {α:Type}(E:El α){l:List α}{e:Option Int}{h:Heap}{q nx:Nat}(hl:0<l.length)(hq:look h q=some (.cells true false E.sz (flat E.fl l))):Yields E l e (wrapV e (.slice (some ⟨q,0,none⟩) l.length l.length)) h nx:=by
 cases l with
 |nil=>cases hl
 |cons a r=>exact⟨q,rfl,hq⟩
end Go.Aw
end
