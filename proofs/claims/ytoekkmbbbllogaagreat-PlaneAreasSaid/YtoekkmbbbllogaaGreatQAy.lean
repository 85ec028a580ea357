/-
  Parts of a proof. No condition.
-/
import Derived.Test.YtoekkmbbbllogaaGreatQAv
import Derived.Test.YtoekkmbbbllogaaGreatQAw
import Derived.Test.YtoekkmbbbllogaaGreatQAx
set_option linter.unusedSimpArgs false
set_option linter.unusedVariables false
noncomputable section
namespace Go.Aw
theorem keptO_cyc (o:List (Int × Int))(k:Nat):keptO o k=!decide (turnS (cyc o (k+o.length - 1)) (cyc o k) (cyc o (k+1))=0):=rfl
theorem keptO_add {o:List (Int × Int)}(h:0<o.length)(k:Nat):keptO o (k+o.length)=keptO o k:=by
 rw [keptO_cyc,keptO_cyc]
 rw [show k+o.length+o.length - 1=(k+o.length - 1)+o.length by omega,cyc_add,cyc_add]
 rw [show k+o.length+1=k+1+o.length by omega,cyc_add]
theorem segI_succ (o:List (Int × Int))(f n:Nat):segI o f (n+1)=segI o f n++(if keptO o (f+n)=true then [cyc o (f+n)] else []):=rfl
theorem segI_add (o:List (Int × Int))(f a:Nat):∀ b,segI o f (a+b)=segI o f a++segI o (f+a) b
 |0=>by
  rw [Nat.add_zero,show segI o (f+a) 0=[] from rfl,List.append_nil]
 |b+1=>by
  rw [← Nat.add_assoc,segI_succ,segI_add o f a b,segI_succ,List.append_assoc,Nat.add_assoc]
theorem segI_per {o:List (Int × Int)}(h:0<o.length)(f:Nat):∀ k,segI o (f+o.length) k=segI o f k
 |0=>rfl
 |k+1=>by
  rw [segI_succ,segI_succ,segI_per h f k,show f+o.length+k=f+k+o.length by omega,keptO_add h,cyc_add]
theorem segI_one (o:List (Int × Int))(f k:Nat):segI o f (1+k)=(if keptO o f=true then [cyc o f] else [])++segI o (f+1) k:=by
 rw [segI_add]
 congr 1
theorem rawI_seg {l:List (Int × Int)}:∀ {k},k≤l.length→rawI l k=segI l 0 k
 |0,_=>rfl
 |k+1,h=>by
  have e:keptO l (0+k)=keptB l k:=by
   rw [Nat.zero_add]
   unfold keptO keptB prv nxt
   rw [Nat.mod_eq_of_lt (show k<l.length by omega)]
  rw [rawI,rawI_seg (show k≤l.length by omega),segI_succ,e,Nat.zero_add,cyc_lt (show k<l.length by omega)]
theorem cross_rev (a b c:Int × Int):crossI c b a = -crossI a b c:=by
 unfold crossI
 obtain⟨a1,a2⟩:=a
 obtain⟨b1,b2⟩:=b
 obtain⟨c1,c2⟩:=c
 simp only [Int.sub_mul,Int.mul_sub]
 have e1:=Int.mul_comm a1 b2
 have e2:=Int.mul_comm a1 c2
 have e3:=Int.mul_comm b1 a2
 have e4:=Int.mul_comm b1 c2
 have e5:=Int.mul_comm c1 a2
 have e6:=Int.mul_comm c1 b2
 have e7:=Int.mul_comm a1 a2
 have e8:=Int.mul_comm b1 b2
 have e9:=Int.mul_comm c1 c2
 omega
theorem sgn_zero (n:Int):sgn n=0↔n=0:=by
 unfold sgn
 split <;> (try split) <;> omega
theorem turn_zero (a b c:Int × Int):turnS a b c=0↔crossI a b c=0:=sgn_zero _
theorem turn_rev0 (a b c:Int × Int):turnS c b a=0↔turnS a b c=0:=by
 rw [turn_zero,turn_zero,cross_rev]
 omega
theorem cyc_rev {l:List (Int × Int)}{a:Nat}(h:a<l.length):cyc l.reverse a=cyc l (l.length - 1 - a):=by
 rw [cyc_lt (by rw [List.length_reverse];exact h),at2_rev l h,cyc_lt (by omega)]
theorem keptO_rev {l:List (Int × Int)}{i:Nat}(h:i<l.length):keptO l.reverse i=keptO l (l.length - 1 - i):=by
 have hl:l.reverse.length=l.length:=List.length_reverse
 have e1:cyc l.reverse (i+l.reverse.length - 1)=cyc l (l.length - 1 - i+1):=by
  rw [hl]
  by_cases h0:i=0
  ·rw [h0,show 0+l.length - 1=l.length - 1 by omega,cyc_rev (show l.length - 1<l.length by omega),show l.length - 1 - 0+1=0+l.length by omega,cyc_add]
   congr 1
   omega
  ·rw [show i+l.length - 1=i - 1+l.reverse.length by omega,cyc_add,cyc_rev (by omega)]
   congr 1
   omega
 have e2:cyc l.reverse (i+1)=cyc l (l.length - 1 - i+l.length - 1):=by
  by_cases h1:i+1=l.length
  ·rw [show i+1=0+l.reverse.length by omega,cyc_add,cyc_rev (by omega)]
   congr 1
   omega
  ·rw [cyc_rev (by omega),show l.length - 1 - i+l.length - 1=l.length - 1 - (i+1)+l.length by omega,cyc_add]
 rw [keptO_cyc,keptO_cyc,e1,cyc_rev h,e2]
 congr 1
 exact decide_eq_decide.2 (turn_rev0 _ _ _)
theorem segI_rev {l:List (Int × Int)}(s:Nat):∀ k,s+k≤l.length→(segI l.reverse s k).reverse=segI l (l.length - s - k) k
 |0,_=>rfl
 |k+1,h=>by
  have e:segI l (l.length - s - (k+1)) (k+1)=segI l (l.length - s - (k+1)) (1+k):=by rw [Nat.add_comm]
  rw [segI_succ,List.reverse_append,segI_rev s k (by omega),keptO_rev (by omega),cyc_rev (by omega),e,segI_one]
  have e1:l.length - 1 - (s+k)=l.length - s - (k+1):=by omega
  have e2:l.length - s - (k+1)+1=l.length - s - k:=by omega
  rw [e1,e2]
  congr 1
  split <;> rfl
theorem rawI_rev (l:List (Int × Int)):rawI l.reverse l.reverse.length=(rawI l l.length).reverse:=by
 rw [rawI_seg (Nat.le_refl _),rawI_seg (Nat.le_refl _),List.length_reverse]
 have:=segI_rev (l:=l) 0 l.length (by omega)
 rw [show l.length - 0 - l.length=0 by omega] at this
 rw [← this,List.reverse_reverse]
theorem segI_mem {o:List (Int × Int)}{f:Nat}{p:Int × Int}:∀ {k},p∈segI o f k→∃ j,j<k∧p=cyc o (f+j)
 |0,h=>by cases h
 |k+1,h=>by
  rw [segI_succ] at h
  rcases List.mem_append.1 h with h|h
  ·obtain⟨j,hj,e⟩:=segI_mem h
   exact⟨j,by omega,e⟩
  ·split at h
   ·exact⟨k,by omega,List.mem_singleton.1 h⟩
   ·cases h
theorem cross_cr (a b c:Int × Int):crossI a b c=cr a b+cr b c - cr a c:=by
 unfold crossI cr
 obtain⟨a1,a2⟩:=a
 obtain⟨b1,b2⟩:=b
 obtain⟨c1,c2⟩:=c
 simp only [Int.sub_mul,Int.mul_sub]
 have e3:=Int.mul_comm b1 a2
 have e5:=Int.mul_comm c1 a2
 have e6:=Int.mul_comm c1 b2
 have e7:=Int.mul_comm a1 a2
 have e1:=Int.mul_comm a1 b2
 have e2:=Int.mul_comm a1 c2
 have e4:=Int.mul_comm b1 c2
 omega
theorem coll_trans {p a b c:Int × Int}(hab:a≠b)(h1:crossI p a b=0)(h2:crossI a b c=0):crossI p b c=0:=by
 obtain⟨p1,p2⟩:=p
 obtain⟨a1,a2⟩:=a
 obtain⟨b1,b2⟩:=b
 obtain⟨c1,c2⟩:=c
 unfold crossI at *
 simp only at *
 have hne:¬ (b1 - a1=0∧b2 - a2=0):=fun h=>hab (by
  have e1:a1=b1:=by omega
  have e2:a2=b2:=by omega
  rw [e1,e2])
 have k1:(b1 - a1)*(b2 - p2)=(b2 - a2)*(b1 - p1):=by
  simp only [Int.sub_mul,Int.mul_sub] at h1 ⊢
  have e1:=Int.mul_comm a1 b2
  have e2:=Int.mul_comm a1 p2
  have e3:=Int.mul_comm b1 a2
  have e4:=Int.mul_comm b1 p2
  have e5:=Int.mul_comm p1 a2
  have e6:=Int.mul_comm p1 b2
  have e7:=Int.mul_comm a1 a2
  have e8:=Int.mul_comm b1 b2
  have e9:=Int.mul_comm p1 p2
  omega
 have k2:(b1 - a1)*(c2 - b2)=(b2 - a2)*(c1 - b1):=by
  simp only [Int.sub_mul,Int.mul_sub] at h2 ⊢
  have e1:=Int.mul_comm a1 b2
  have e2:=Int.mul_comm a1 c2
  have e3:=Int.mul_comm b1 a2
  have e4:=Int.mul_comm b1 c2
  have e5:=Int.mul_comm c1 a2
  have e6:=Int.mul_comm c1 b2
  have e7:=Int.mul_comm a1 a2
  have e8:=Int.mul_comm b1 b2
  omega
 have:=para (ex:=b1 - p1) (ey:=b2 - p2) (wx:=b1 - a1) (wy:=b2 - a2) (vx:=c1 - b1) (vy:=c2 - b2) hne k1 k2
 simp only [Int.sub_mul,Int.mul_sub] at this ⊢
 have e1:=Int.mul_comm p1 b2
 have e2:=Int.mul_comm p1 c2
 have e3:=Int.mul_comm b1 p2
 have e4:=Int.mul_comm b1 c2
 have e5:=Int.mul_comm c1 p2
 have e6:=Int.mul_comm c1 b2
 have e7:=Int.mul_comm p1 p2
 have e8:=Int.mul_comm b1 b2
 omega
theorem cyc_ne {o:List (Int × Int)}(hnd:o.Nodup)(h2:2≤o.length)(k:Nat):cyc o k≠cyc o (k+1):=by
 intro e
 have h0:0<o.length:=by omega
 have:=nodup_at hnd (Nat.mod_lt k h0) (Nat.mod_lt (k+1) h0) e
 have h3:=next_ne (n:=o.length) h2 (Nat.mod_lt k h0)
 rw [Nat.mod_add_mod] at h3
 exact h3 this
theorem chain {o:List (Int × Int)}(hnd:o.Nodup)(h2:2≤o.length){f:Nat}(hf:keptO o f=true):∀ k,0<(segI o f (k+1)).length∧at2 (segI o f (k+1)) 0=cyc o f ∧
  sumC o f (k+1)=paI (segI o f (k+1)) ((segI o f (k+1)).length - 1)+cr (at2 (segI o f (k+1)) ((segI o f (k+1)).length - 1)) (cyc o (f+k+1)) ∧
  crossI (at2 (segI o f (k+1)) ((segI o f (k+1)).length - 1)) (cyc o (f+k)) (cyc o (f+k+1))=0
 |0=>by
  have e:segI o f (0+1)=[cyc o f]:=by
   rw [segI_succ,Nat.add_zero,if_pos hf]
   rfl
  rw [e]
  refine⟨Nat.one_pos,rfl,?_,?_⟩
  ·show (0:Int)+cr (cyc o (f+0)) (cyc o (f+0+1))=0+cr (cyc o f) _
   rw [Nat.add_zero]
  ·show crossI (cyc o f) (cyc o (f+0)) _=0
   rw [Nat.add_zero]
   unfold crossI
   rw [Int.sub_self,Int.sub_self]
   omega
 |k+1=>by
  obtain⟨i1,i2,i3,i4⟩:=chain hnd h2 hf k
  rw [segI_succ o f (k+1)]
  have hs:sumC o f (k+1+1)=sumC o f (k+1)+cr (cyc o (f+(k+1))) (cyc o (f+(k+1)+1)):=rfl
  rw [hs]
  generalize segI o f (k+1)=R at i1 i2 i3 i4 ⊢
  by_cases hk:keptO o (f+(k+1))=true
  ·rw [if_pos hk]
   have hlen:(R++[cyc o (f+(k+1))]).length - 1=R.length:=by rw [List.length_append];rfl
   obtain⟨m,hm⟩:∃ m,R.length=m+1:=⟨R.length - 1,by omega⟩
   have hm':R.length - 1=m:=by omega
   rw [hm'] at i3 i4
   refine⟨by rw [List.length_append];omega,by rw [at2_app i1,i2],?_,?_⟩
   ·rw [hlen,at2_end]
    conv=>rhs;rw [hm]
    rw [paI,paI_app (by omega),at2_app (by omega),← hm,at2_end,i3]
    rfl
   ·rw [hlen,at2_end]
    unfold crossI
    rw [Int.sub_self,Int.sub_self]
    omega
  ·rw [if_neg hk,List.append_nil]
   refine⟨i1,i2,?_,?_⟩
   ·have hz:crossI (cyc o (f+k)) (cyc o (f+(k+1))) (cyc o (f+(k+1)+1))=0:=by
     rw [← turn_zero]
     have:=hk
     rw [keptO_cyc,show f+(k+1)+o.length - 1=f+k+o.length by omega,cyc_add] at this
     simpa using this
    have hc:=coll_trans (cyc_ne hnd h2 (f+k)) i4 hz
    have h3:=cross_cr (at2 R (R.length - 1)) (cyc o (f+k+1)) (cyc o (f+k+1+1))
    have e1:f+(k+1)=f+k+1:=rfl
    rw [i3,e1]
    rw [e1] at hc
    omega
   ·have hz:crossI (cyc o (f+k)) (cyc o (f+(k+1))) (cyc o (f+(k+1)+1))=0:=by
     rw [← turn_zero]
     have:=hk
     rw [keptO_cyc,show f+(k+1)+o.length - 1=f+k+o.length by omega,cyc_add] at this
     simpa using this
    exact coll_trans (cyc_ne hnd h2 (f+k)) i4 hz
theorem area_seg {o:List (Int × Int)}(hnd:o.Nodup)(h2:2≤o.length){f:Nat}(hf:keptO o f=true):areaI (segI o f o.length) (segI o f o.length).length=areaI o o.length:=by
 obtain⟨m,hm⟩:∃ m,o.length=m+1:=⟨o.length - 1,by omega⟩
 have hc:=chain hnd h2 hf m
 rw [← hm] at hc
 obtain⟨i1,i2,i3,i4⟩:=hc
 rw [areaI_close i1,i2,areaI_sum (Nat.le_refl _),← sumC_turn o f,i3,show f+m+1=f+o.length by omega,cyc_add]
end Go.Aw
end

noncomputable section
namespace Go.Aw
theorem less_key {a b:Int × Int}(ha:rightS a=true)(hb:rightS b=true):lessB a b=decide (key a<key b):=by
 simp only [rightS,Bool.and_eq_true,decide_eq_true_eq] at ha hb
 unfold lessB key
 by_cases h1:a.1<b.1
 ·rw [decide_eq_true h1,Bool.true_or,decide_eq_true (by omega)]
 ·rw [decide_eq_false h1,Bool.false_or]
  by_cases h2:a.1=b.1
  ·rw [decide_eq_true h2,Bool.true_and]
   exact decide_eq_decide.2 (by omega)
  ·rw [decide_eq_false h2,Bool.false_and,decide_eq_false (by omega)]
theorem key_inj {a b:Int × Int}(ha:rightS a=true)(hb:rightS b=true)(h:key a=key b):a=b:=(eqP_iff a b).1 ((eqP_key ha hb).2 h)
theorem turn_end (a b:Int × Int):turnS a b b=0:=by
 rw [turn_zero]
 unfold crossI
 rw [Int.mul_comm]
 omega
theorem meet_fold {a b c:Int × Int}(ha:rightS a=true)(hb:rightS b=true)(hc:rightS c=true)(h1:key b<key a)(h2:key b<key c)(h0:turnS a b c=0):meetS (a,b) (b,c)=4:=by
 have hab:eqP a b=false:=(eqP_keyf ha hb).2 (by omega)
 have hbc:eqP b c=false:=(eqP_keyf hb hc).2 (by omega)
 have g1:rightG (a,b)=true:=by simp only [rightG,ha,hb,hab,Bool.not_false,Bool.and_self]
 have g2:rightG (b,c)=true:=by simp only [rightG,hb,hc,hbc,Bool.not_false,Bool.and_self]
 have e1:endsS (a,b)=(b,a):=by
  unfold endsS
  simp only [ord_key ha hb,cmp_gt]
  rw [if_pos h1]
 have e2:endsS (b,c)=(b,c):=by
  unfold endsS
  simp only [ord_key hb hc,cmp_gt]
  rw [if_neg (by omega)]
 have k1:=low_key (a,b) (b,c) g1 g2
 have k2:=high_key (a,b) (b,c) g1 g2
 rw [e1,e2] at k1 k2
 unfold meetS
 rw [if_pos ⟨turn_end a b,h0⟩,ord_key k1.1 k2.1,k1.2,k2.2,tbl_cmp,if_pos (by simp only;omega)]
theorem right_cyc {l:List (Int × Int)}(h:goodP l)(k:Nat):rightS (cyc l k)=true:=all_at h.2.2.1 (Nat.mod_lt _ (by have:=h.1;omega))
theorem kept_least {l:List (Int × Int)}(h:goodP l)(hs:simpleP l){i:Nat}(hi:i<l.length)(hm:∀ k,k<l.length→k≠i→key (at2 l i)<key (at2 l k)):keptO l i=true:=by
 have h3:=h.1
 cases hk:keptO l i with
 |true=>rfl
 |false =>
  exfalso
  rw [keptO_cyc,cyc_lt hi] at hk
  have h0:turnS (cyc l (i+l.length - 1)) (at2 l i) (cyc l (i+1))=0:=by simpa using hk
  have r1:=right_cyc h (i+l.length - 1)
  have r2:=all_at h.2.2.1 hi
  have r3:=right_cyc h (i+1)
  have n1:(i+1) % l.length≠i:=(next_ne (by omega) hi).symm
  have hlt:(i+1) % l.length<l.length:=Nat.mod_lt _ (by omega)
  have k2:key (at2 l i)<key (cyc l (i+1)):=hm _ hlt n1
  by_cases hz:i=0
  ·subst hz
   have e:cyc l (0+l.length - 1)=at2 l (l.length - 1):=by rw [Nat.zero_add,cyc_lt (by omega)]
   rw [e] at h0 r1
   have k1:key (at2 l 0)<key (at2 l (l.length - 1)):=hm _ (by omega) (by omega)
   have hf:=meet_fold r1 r2 r3 k1 k2 h0
   have ho:meetS (edgeS l 0) (edgeS l (l.length - 1))=wantS 0 (l.length - 1) l.length:=hs 0 (l.length - 1) (by omega) (by omega)
   have ee:edgeS l (l.length - 1)=(at2 l (l.length - 1),at2 l 0):=by
    unfold edgeS
    rw [show l.length - 1+1=l.length by omega,Nat.mod_self]
   have g1:=edge_right h (show 0<l.length by omega)
   have g2:=edge_right h (show l.length - 1<l.length by omega)
   rw [← meet_sym _ _ g1 g2,ee] at ho
   rw [show edgeS l 0=(at2 l 0,cyc l (0+1)) from rfl,hf] at ho
   unfold wantS at ho
   rw [if_pos (.inr ⟨rfl,rfl⟩)] at ho
   omega
  ·have e:cyc l (i+l.length - 1)=at2 l (i - 1):=by
    rw [show i+l.length - 1=i - 1+l.length by omega,cyc_add,cyc_lt (by omega)]
   rw [e] at h0 r1
   have k1:key (at2 l i)<key (at2 l (i - 1)):=hm _ (by omega) (by omega)
   have hf:=meet_fold r1 r2 r3 k1 k2 h0
   have ho:meetS (edgeS l (i - 1)) (edgeS l i)=wantS (i - 1) i l.length:=hs (i - 1) i (by omega) hi
   have ee:edgeS l (i - 1)=(at2 l (i - 1),at2 l i):=by
    unfold edgeS
    rw [show i - 1+1=i by omega,Nat.mod_eq_of_lt hi]
   rw [ee,show edgeS l i=(at2 l i,cyc l (i+1)) from rfl,hf] at ho
   unfold wantS at ho
   rw [if_pos (.inl (by omega))] at ho
   omega
theorem leastI_le {o:List (Int × Int)}(hr:o.all rightS=true):∀ i,i≤o.length→∀ k,k<i→key (at2 o (leastI o i))≤key (at2 o k)
 |0,_,k,hk=>by omega
 |i+1,hi,k,hk=>by
  have ih:=leastI_le hr i (by omega)
  have hl:=leastI_lt o i
  have r1:=all_at hr (show i<o.length by omega)
  have r2:=all_at hr (show leastI o i<o.length by omega)
  unfold leastI
  rw [less_key r1 r2]
  by_cases h:key (at2 o i)<key (at2 o (leastI o i))
  ·rw [if_pos (decide_eq_true h)]
   by_cases hki:k=i
   ·rw [hki];omega
   ·have:=ih k (by omega)
    omega
  ·rw [if_neg (by rw [decide_eq_false h];decide)]
   by_cases hki:k=i
   ·rw [hki];omega
   ·exact ih k (by omega)
theorem least_strict {o:List (Int × Int)}(hr:o.all rightS=true)(hnd:o.Nodup)(h0:0<o.length){k:Nat}(hk:k<o.length)(hne:k≠leastI o o.length):key (at2 o (leastI o o.length))<key (at2 o k):=by
 have hl:=leastI_lt o o.length
 have h1:=leastI_le hr o.length (Nat.le_refl _) k hk
 have hlt:leastI o o.length<o.length:=by omega
 have h2:key (at2 o (leastI o o.length))≠key (at2 o k):=fun e=>hne (nodup_at hnd hk hlt (key_inj (all_at hr hk) (all_at hr hlt) e.symm))
 omega
theorem minI_le {o:List (Int × Int)}(hr:o.all rightS=true):∀ i,i<o.length→rightS (minI o i)=true∧∀ k,k≤i→key (minI o i)≤key (at2 o k)
 |0,hi=>⟨all_at hr hi,fun k hk=>by rw [show k=0 by omega];exact Int.le_refl _⟩
 |i+1,hi=>by
  obtain⟨rm,ih⟩:=minI_le hr i (by omega)
  have r1:=all_at hr hi
  have hc:ordS (at2 o (i+1)) (minI o i)<0↔key (at2 o (i+1))<key (minI o i):=by rw [ord_key r1 rm,cmp_lt]
  unfold minI
  by_cases h:key (at2 o (i+1))<key (minI o i)
  ·rw [if_pos (hc.2 h)]
   refine⟨r1,fun k hk=>?_⟩
   by_cases hki:k=i+1
   ·rw [hki];exact Int.le_refl _
   ·have:=ih k (by omega)
    omega
  ·rw [if_neg (fun h'=>h (hc.1 h'))]
   refine⟨rm,fun k hk=>?_⟩
   by_cases hki:k=i+1
   ·rw [hki];omega
   ·exact ih k (by omega)
theorem idxP_app {x:Int × Int}:∀ {A B:List (Int × Int)} (i:Nat),x∉A→idxP x (A++x::B) i=i+A.length
 |[],B,i,_=>by
  show (if eqP x x=true then (i:Int) else _)=_
  rw [if_pos ((eqP_iff x x).2 rfl)]
  rfl
 |a::A,B,i,h=>by
  have hne:¬ eqP x a=true:=fun e=>h (by rw [(eqP_iff x a).1 e];exact .head _)
  show (if eqP x a=true then (i:Int) else idxP x (A++x::B) (i+1))=_
  rw [if_neg hne,idxP_app (i+1) (fun h'=>h (.tail _ h')),List.length_cons]
  omega
theorem top_app {A B:List (Int × Int)}{x:Int × Int}(hr:(A++x::B).all rightS=true)(hA:x∉A)(hm:∀ p∈A++x::B,p≠x→key x<key p):topI (A++x::B)=x::B++A:=by
 have hl:(A++x::B).length=A.length+B.length+1:=by rw [List.length_append,List.length_cons];omega
 have hx:x∈A++x::B:=List.mem_append_right _ (.head _)
 obtain⟨k,hk,hke⟩:=List.mem_iff_getElem.1 hx
 have hmin:minI (A++x::B) ((A++x::B).length - 1)=x:=by
  apply Classical.byContradiction
  intro hne
  have h1:=hm _ (minI_mem _ _ (by omega)) hne
  have h2:=(minI_le hr _ (show (A++x::B).length - 1<(A++x::B).length by omega)).2 k (by omega)
  rw [at2_eq hk,hke] at h2
  omega
 unfold topI turnI
 rw [hmin,idxP_app 0 hA]
 rw [show ((0:Nat)+(A.length:Int):Int).toNat=A.length by omega]
 rw [List.drop_left,List.take_left]
theorem top_seg {o:List (Int × Int)}(hr:o.all rightS=true)(hnd:o.Nodup){f:Nat}(hf:f<o.length)(hk:keptO o f=true)(hm:∀ k,k<o.length→k≠f→key (at2 o f)<key (at2 o k)):topI (rawI o o.length)=segI o f o.length∧0<(rawI o o.length).length:=by
 have h0:0<o.length:=by omega
 obtain⟨d,hd⟩:∃ d,o.length=f+(1+d):=⟨o.length - f - 1,by omega⟩
 have e0:rawI o o.length=segI o 0 f++at2 o f::segI o (f+1) d:=by
  rw [rawI_seg (Nat.le_refl _)]
  conv=>lhs;rw [hd]
  rw [segI_add,Nat.zero_add,segI_one,if_pos hk,cyc_lt hf]
  rfl
 have e1:segI o f o.length=at2 o f::segI o (f+1) d++segI o 0 f:=by
  have e2:o.length=(1+d)+f:=by omega
  conv=>lhs;rw [e2]
  rw [segI_add,segI_one,if_pos hk,cyc_lt hf,show f+(1+d)=0+o.length by omega,segI_per h0]
  rfl
 have hmem:∀ p∈rawI o o.length,p≠at2 o f→key (at2 o f)<key p:=by
  intro p hp hne
  have hp':=rawI_mem o o.length (Nat.le_refl _) p hp
  obtain⟨k,hk,rfl⟩:=List.mem_iff_getElem.1 hp'
  rw [← at2_eq hk] at hne ⊢
  exact hm k hk fun e=>hne (by rw [e])
 have hA:at2 o f∉segI o 0 f:=by
  intro h
  obtain⟨j,hj,e⟩:=segI_mem h
  rw [Nat.zero_add,cyc_lt (by omega)] at e
  have:=nodup_at hnd hf (show j<o.length by omega) e
  omega
 have hR:=rawI_right hr o.length (Nat.le_refl _)
 rw [e0] at hR hmem
 refine⟨by rw [e0,top_app hR hA hmem,e1],?_⟩
 rw [e0,List.length_append,List.length_cons]
 omega
theorem simple_rawpos {l:List (Int × Int)}(h:goodP l)(hs:simpleP l):∃ f,f<l.length∧keptO l f=true∧∀ k,k<l.length→k≠f→key (at2 l f)<key (at2 l k):=by
 have h3:=h.1
 have hlt:leastI l l.length<l.length:=by have:=leastI_lt l l.length;omega
 have hm:∀ k,k<l.length→k≠leastI l l.length→key (at2 l (leastI l l.length))<key (at2 l k):=fun k hk hne=>least_strict h.2.2.1 h.2.2.2 (by omega) hk hne
 exact⟨_,hlt,kept_least h hs hlt hm,hm⟩
theorem raw_pos {l:List (Int × Int)}(h:goodP l)(hs:simpleP l):0<(rawI l l.length).length:=by
 obtain⟨f,hf,hk,hm⟩:=simple_rawpos h hs
 exact (top_seg h.2.2.1 h.2.2.2 hf hk hm).2
theorem raw_area {l:List (Int × Int)}(h:goodP l)(hs:simpleP l):areaI (rawI l l.length) (rawI l l.length).length=areaI l l.length:=by
 obtain⟨f,hf,hk,hm⟩:=simple_rawpos h hs
 obtain⟨ht,hp⟩:=top_seg h.2.2.1 h.2.2.2 hf hk hm
 have h3:=h.1
 have ha:=area_seg h.2.2.2 (show 2≤l.length by omega) hk
 rw [← ha,← ht]
 unfold topI
 have hjm:=idxP_mem (p:=minI (rawI l l.length) ((rawI l l.length).length - 1)) (l:=rawI l l.length) 0 (minI_mem _ _ (by omega))
 rw [area_turn]
 omega
theorem nodup_rev {l:List (Int × Int)}(h:l.Nodup):l.reverse.Nodup:=List.pairwise_reverse.2 (h.imp fun hab=>fun e=>hab e.symm)
theorem norI_eq {l:List (Int × Int)}(h:goodP l)(hs:simpleP l):norI l=norR l:=by
 have h3:=h.1
 have hd:dirI (rawI l l.length)=rawI (dirI l) (dirI l).length:=by
  unfold dirI
  rw [raw_area h hs]
  by_cases hn:areaI l l.length<0
  ·rw [if_pos hn,if_pos hn,rawI_rev]
  ·rw [if_neg hn,if_neg hn]
 unfold norI norR
 rw [hd]
 obtain⟨f,hf,hk,hm⟩:=simple_rawpos h hs
 -- the same corner in the list turned round
 have ho:∃ f',f'<(dirI l).length∧keptO (dirI l) f'=true∧∀ k,k<(dirI l).length→k≠f'→key (at2 (dirI l) f')<key (at2 (dirI l) k):=by
  unfold dirI
  by_cases hn:areaI l l.length<0
  ·rw [if_pos hn]
   refine⟨l.length - 1 - f,by rw [List.length_reverse];omega,?_,?_⟩
   ·rw [keptO_rev (by omega),show l.length - 1 - (l.length - 1 - f)=f by omega]
    exact hk
   ·intro k hk' hne
    rw [List.length_reverse] at hk'
    rw [at2_rev l (by omega),at2_rev l hk',show l.length - 1 - (l.length - 1 - f)=f by omega]
    exact hm _ (by omega) (by omega)
  ·rw [if_neg hn]
   exact⟨f,hf,hk,hm⟩
 have hr:(dirI l).all rightS=true:=by
  unfold dirI
  split
  ·rw [List.all_reverse];exact h.2.2.1
  ·exact h.2.2.1
 have hnd:(dirI l).Nodup:=by
  unfold dirI
  split
  ·exact nodup_rev h.2.2.2
  ·exact h.2.2.2
 have hl:=dirI_len l
 rw [← hl]
 generalize dirI l=o at ho hr hnd hl ⊢
 obtain⟨f',hf',hk',hm'⟩:=ho
 have hlt:leastI o o.length<o.length:=by have:=leastI_lt o o.length;omega
 have hfe:f'=leastI o o.length:=by
  apply Classical.byContradiction
  intro hne
  have h1:=least_strict hr hnd (by omega) hf' hne
  have h2:=hm' _ hlt (fun e=>hne e.symm)
  omega
 rw [(top_seg hr hnd hf' hk' hm').1,hfe]
end Go.Aw
end

noncomputable section
namespace Go.Aw
set_option maxRecDepth 100000
theorem outK_own {α:Type}(E:El α){l:List α}{e:Option Int}{h:Heap}{nx:Nat}{K:KE}(hl:0<l.length)(hk:K (wrapV e (.slice (some ⟨nx,0,none⟩) l.length l.length)) (hput h nx (.cells true false E.sz (flat E.fl l))) (nx+1)):outK E l e h nx K:=by
 cases l with
 |nil=>cases hl
 |cons a r=>exact hk
theorem norR_right {l:List (Int × Int)}(h:goodP l):(norR l).all rightS=true:=by
 refine List.all_eq_true.2 fun p hp=>?_
 have h3:=h.1
 obtain⟨j,_,rfl⟩:=segI_mem hp
 have hr:(dirI l).all rightS=true:=by
  unfold dirI
  split
  ·rw [List.all_reverse];exact h.2.2.1
  ·exact h.2.2.1
 exact all_at hr (Nat.mod_lt _ (by rw [dirI_len];omega))
theorem norR_len (l:List (Int × Int)):(norR l).length≤l.length:=segI_len _ _ _
theorem norR_pos {l:List (Int × Int)}(h:goodP l)(hs:simpleP l):0<(norR l).length:=by
 rw [← norI_eq h hs]
 have h0:=raw_pos h hs
 have hd:(dirI (rawI l l.length)).length=(rawI l l.length).length:=dirI_len _
 unfold norI topI
 have hjm:=idxP_mem (p:=minI (dirI (rawI l l.length)) ((dirI (rawI l l.length)).length - 1)) (l:=dirI (rawI l l.length)) 0 (minI_mem _ _ (by omega))
 rw [turnI_len _ _ (by omega)]
 omega
end Go.Aw
end

noncomputable section
namespace Go.Aw
theorem cross_sw (a b c:Int × Int):crossI b a c = -crossI a b c:=by
 unfold crossI
 obtain⟨a1,a2⟩:=a
 obtain⟨b1,b2⟩:=b
 obtain⟨c1,c2⟩:=c
 simp only [Int.sub_mul,Int.mul_sub]
 have e1:=Int.mul_comm a1 b2
 have e2:=Int.mul_comm a1 c2
 have e3:=Int.mul_comm b1 a2
 have e4:=Int.mul_comm b1 c2
 have e5:=Int.mul_comm c1 a2
 have e6:=Int.mul_comm c1 b2
 have e7:=Int.mul_comm a1 a2
 have e8:=Int.mul_comm b1 b2
 omega
theorem cross_sw0 {a b c:Int × Int}(h:crossI a b c=0):crossI b a c=0:=by rw [cross_sw,h];rfl
theorem cross_rev0 {a b c:Int × Int}(h:crossI a b c=0):crossI c b a=0:=by rw [cross_rev,h];rfl
theorem coll2 {F Q P R:Int × Int}(hne:F≠P)(h1:crossI F Q P=0)(h2:crossI F P R=0):crossI F Q R=0 :=
 cross_sw0 (coll_trans (p:=Q) (a:=P) (b:=F) (c:=R) (fun e=>hne e.symm) (cross_rev0 (cross_sw0 (cross_rev0 (cross_sw0 h1)))) (cross_sw0 h2))
theorem cyc_far {o:List (Int × Int)}(hnd:o.Nodup)(f k:Nat)(h1:0<k)(h2:k<o.length):cyc o f≠cyc o (f+k):=by
 intro e
 have h0:0<o.length:=by omega
 have:=nodup_at hnd (Nat.mod_lt f h0) (Nat.mod_lt (f+k) h0) e
 have e2:(f+k) % o.length=(f % o.length+k) % o.length:=by rw [Nat.mod_add_mod]
 have hf:=Nat.mod_lt f h0
 rw [e2] at this
 generalize f % o.length=a at this hf
 by_cases hc:a+k<o.length
 ·have e4:=Nat.mod_eq_of_lt hc
  omega
 ·have e4:(a+k) % o.length=(a+k - o.length) % o.length:=Nat.mod_eq_sub_mod (by omega)
  have e5:(a+k - o.length) % o.length=a+k - o.length:=Nat.mod_eq_of_lt (by omega)
  omega
theorem segI_run {o:List (Int × Int)}{f:Nat}(hf:keptO o f=true):∀ k,(∀ j,0<j→j≤k→keptO o (f+j)=false)→segI o f (k+1)=[cyc o f]
 |0,_=>by
  rw [segI_succ,Nat.add_zero,if_pos hf]
  rfl
 |k+1,h=>by
  rw [segI_succ,segI_run hf k (fun j h1 h2=>h j h1 (by omega)),if_neg (by rw [h (k+1) (by omega) (Nat.le_refl _)];decide),List.append_nil]
theorem run_line {o:List (Int × Int)}(hnd:o.Nodup)(h2:2≤o.length){f:Nat}(hf:keptO o f=true){k:Nat}(h:∀ j,0<j→j≤k→keptO o (f+j)=false):crossI (cyc o f) (cyc o (f+k)) (cyc o (f+k+1))=0:=by
 have hc:=(chain hnd h2 hf k).2.2.2
 rw [segI_run hf k h] at hc
 exact hc
theorem run_all {o:List (Int × Int)}(hnd:o.Nodup)(h2:2≤o.length){f:Nat}(hf:keptO o f=true):∀ k,k+1<o.length→(∀ j,0<j→j≤k→keptO o (f+j)=false)→crossI (cyc o f) (cyc o (f+1)) (cyc o (f+(k+1)))=0
 |0,_,_=>by
  unfold crossI
  have:=Int.mul_comm ((cyc o (f+1)).1 - (cyc o f).1) ((cyc o (f+1)).2 - (cyc o f).2)
  simp only [Nat.zero_add] at *
  omega
 |k+1,hk,h=>coll2 (cyc_far hnd f (k+1) (by omega) (by omega)) (run_all hnd h2 hf k (by omega) (fun j h1 h2=>h j h1 (by omega))) (run_line hnd h2 hf h)
theorem kept_turn {o:List (Int × Int)}{f:Nat}(h:0<o.length)(hf:keptO o f=true):crossI (cyc o f) (cyc o (f+1)) (cyc o (f+(o.length - 1)))≠0:=by
 intro e
 rw [keptO_cyc,show f+o.length - 1=f+(o.length - 1) by omega] at hf
 have e3:crossI (cyc o (f+(o.length - 1))) (cyc o f) (cyc o (f+1))=0:=cross_rev0 (cross_sw0 e)
 rw [(turn_zero _ _ _).2 e3] at hf
 cases hf
theorem least_of {p:Nat→Bool}:∀ n,(∀ j,0<j→j<n→p j=false)∨∃ m,0<m∧m<n∧p m=true∧∀ j,0<j→j<m→p j=false
 |0=>.inl fun j _ h=>absurd h (Nat.not_lt_zero j)
 |n+1=>by
  rcases least_of (p:=p) n with h|⟨m,h1,h2,h3,h4⟩
  ·cases hn:(decide (0<n)&&p n) with
   |true =>
    simp only [Bool.and_eq_true,decide_eq_true_eq] at hn
    exact .inr ⟨n,hn.1,by omega,hn.2,h⟩
   |false =>
    refine .inl fun j h0 hj=>?_
    by_cases e:j=n
    ·subst e
     simpa [h0] using hn
    ·exact h j h0 (by omega)
  ·exact .inr ⟨m,h1,by omega,h3,h4⟩
theorem seg_one {o:List (Int × Int)}{f d:Nat}(hf:keptO o f=true):1≤(segI o f (1+d)).length:=by
 rw [segI_one,if_pos hf,List.length_append]
 simp
theorem seg_three {o:List (Int × Int)}(hnd:o.Nodup)(h3:3≤o.length){f:Nat}(hf:keptO o f=true):3≤(segI o f o.length).length:=by
 have hkt:=kept_turn (by omega) hf
 rcases least_of (p:=fun j=>keptO o (f+j)) o.length with h|⟨m,m0,m1,m2,m3⟩
 ·exfalso
  have hr:=run_all hnd (by omega) hf (o.length - 2) (by omega) (fun j h1 h2=>h j h1 (by omega))
  rw [show o.length - 2+1=o.length - 1 by omega] at hr
  exact hkt hr
 ·have hm1:crossI (cyc o f) (cyc o (f+1)) (cyc o (f+m))=0:=by
   have hr:=run_all hnd (by omega) hf (m - 1) (by omega) (fun j h1 h2=>m3 j h1 (by omega))
   rwa [show m - 1+1=m by omega] at hr
  rcases least_of (p:=fun j=>keptO o (f+m+j)) (o.length - m) with h|⟨q,q0,q1,q2,q3⟩
  ·exfalso
   have hr:=run_line hnd (by omega) (f:=f+m) m2 (k:=o.length - m - 1) (fun j h1 h2=>h j h1 (by omega))
   rw [show f+m+(o.length - m - 1)=f+(o.length - 1) by omega,show f+(o.length - 1)+1=f+o.length by omega,cyc_add] at hr
   exact hkt (coll2 (cyc_far hnd f m m0 m1) hm1 (cross_rev0 (cross_sw0 hr)))
  ·have e:o.length=(1+(m - 1))+((1+(q - 1))+(1+(o.length - m - q - 1))):=by omega
   rw [e,segI_add o f (1+(m - 1)),segI_add o (f+(1+(m - 1))) (1+(q - 1)),List.length_append,List.length_append]
   have l1:=seg_one (o:=o) (f:=f) (d:=m - 1) hf
   have l2:=seg_one (o:=o) (f:=f+(1+(m - 1))) (d:=q - 1) (by rw [show f+(1+(m - 1))=f+m by omega];exact m2)
   have l3:=seg_one (o:=o) (f:=f+(1+(m - 1))+(1+(q - 1))) (d:=o.length - m - q - 1) (by rw [show f+(1+(m - 1))+(1+(q - 1))=f+m+q by omega];exact q2)
   omega
theorem norR_three {l:List (Int × Int)}(h:goodP l)(hs:simpleP l):3≤(norR l).length:=by
 have hnd:(dirI l).Nodup:=by
  unfold dirI
  split
  ·exact nodup_rev h.2.2.2
  ·exact h.2.2.2
 have hl:=dirI_len l
 have hp:=norR_pos h hs
 have h3:=h.1
 unfold norR at hp ⊢
 rw [← hl] at hp ⊢
 have hk:keptO (dirI l) (leastI (dirI l) (dirI l).length)=true:=by
  have hr:(dirI l).all rightS=true:=by
   unfold dirI
   split
   ·rw [List.all_reverse];exact h.2.2.1
   ·exact h.2.2.1
  obtain⟨f,hf,hk,hm⟩:=simple_rawpos h hs
  have ho:∃ f',f'<(dirI l).length∧keptO (dirI l) f'=true∧∀ k,k<(dirI l).length→k≠f'→key (at2 (dirI l) f')<key (at2 (dirI l) k):=by
   unfold dirI
   by_cases hn:areaI l l.length<0
   ·rw [if_pos hn]
    refine⟨l.length - 1 - f,by rw [List.length_reverse];omega,?_,?_⟩
    ·rw [keptO_rev (by omega),show l.length - 1 - (l.length - 1 - f)=f by omega]
     exact hk
    ·intro k hk' hne
     rw [List.length_reverse] at hk'
     rw [at2_rev l (by omega),at2_rev l hk',show l.length - 1 - (l.length - 1 - f)=f by omega]
     exact hm _ (by omega) (by omega)
   ·rw [if_neg hn]
    exact⟨f,hf,hk,hm⟩
  obtain⟨f',hf',hk',hm'⟩:=ho
  have hlt:leastI (dirI l) (dirI l).length<(dirI l).length:=by have:=leastI_lt (dirI l) (dirI l).length;omega
  have hfe:f'=leastI (dirI l) (dirI l).length:=by
   apply Classical.byContradiction
   intro hne
   have h1:=least_strict hr hnd (by omega) hf' hne
   have h2:=hm' _ hlt (fun e=>hne e.symm)
   omega
  rw [← hfe]
  exact hk'
 exact seg_three hnd (by rw [hl];exact h3) hk
end Go.Aw
end

noncomputable section
namespace Go.Aw
set_option maxRecDepth 100000
section
variable {α β γ δ:Type}(a:Cd α)(b:Cd β)(c:Cd γ)(d:Cd δ)
def s4 (F:α→β→γ→δ→Bool × Value):List Value→Option (Bool × Value)
 |[u,v,w,x]=>(match a.dec u with|some u=>(match b.dec v with|some v=>(match c.dec w with|some w=>(match d.dec x with|some x=>some (F u v w x)|none=>none)|none=>none)|none=>none)|none=>none)
 |_=>none
theorem s4_inv {F:α→β→γ→δ→Bool × Value}{args:List Value}{r:Bool × Value}(h:s4 a b c d F args=some r):∃ x y z t,args=[a.enc x,b.enc y,c.enc z,d.enc t]∧F x y z t=r:=by
 unfold s4 at h
 split at h
 ·split at h
  ·rename_i x e
   split at h
   ·rename_i y e2
    split at h
    ·rename_i z e3
     split at h
     ·rename_i t e4
      injection h with h
      exact⟨x,y,z,t,by rw [a.ok _ _ e,b.ok _ _ e2,c.ok _ _ e3,d.ok _ _ e4],h⟩
     ·cases h
    ·cases h
   ·cases h
  ·cases h
 ·cases h
theorem x4 {xl:List (Nat × XF)}(hx:XLOK xl){f:Nat}{F:α→β→γ→δ→Bool × Value}(hg:∀ x y z t,gT (F x y z t).2=true)(h:∀ x y z t,(F x y z t).1=true→Does1 xl f [a.enc x,b.enc y,c.enc z,d.enc t] (F x y z t).2):XOK Go.Proofs.Tryz.prog f (gX (s4 a b c d F)) :=
 gX_ok (body_calls hx) fun args v hs=>by
  obtain⟨x,y,z,t,rfl,e⟩:=s4_inv a b c d hs
  have h1:(F x y z t).1=true:=by rw [e]
  have h2:(F x y z t).2=v:=by rw [e]
  subst h2
  exact⟨by simp [allGA,a.gr,b.gr,c.gr,d.gr],hg x y z t,h x y z t h1⟩
end
abbrev Tg:=(Int × Int) × (Int × Int) × (Int × Int)
def elT:El Tg:=⟨fun t=>[iv t.1.1,iv t.1.2,iv t.2.1.1,iv t.2.1.2,iv t.2.2.1,iv t.2.2.2],6,fun _=>rfl,fun _=>rfl,by decide⟩
def holdB (a b c p:Int × Int):Bool:=decide (0≤turnS a b p)&&decide (0≤turnS b c p)&&decide (0≤turnS c a p)
def D66:Nat × XF:=(38,gX (s4 cP cP cP cP fun a b c p=>(wide a&&wide b&&wide c&&wide p,.bool (holdB a b c p))))
theorem d66:XOK Go.Proofs.Tryz.prog D66.1 D66.2:=x4 cP cP cP cP (xl:=[X55]) (.cons x55 .nil) (fun _ _ _ _=>rfl) fun a b c p hp=>by
 simp only [Bool.and_eq_true] at hp
 obtain⟨⟨⟨w1,w2⟩,w3⟩,w4⟩:=hp
 obtain⟨ax,ay⟩:=a
 obtain⟨bx,b_y⟩:=b
 obtain⟨cx,cy⟩:=c
 obtain⟨px,py⟩:=p
 unfold Does1
 repeat' ((conv=>whnf);refine bm (fun g=>?_) (fun g=>?_))
 all_goals (conv=>whnf)
 all_goals first
  |(exfalso
    have hg:(wide (ax,ay)&&wide (bx,b_y)&&wide (px,py))=false:=g
    rw [w1,w2,w4] at hg
    cases hg)
  |(exfalso
    have hg:(wide (bx,b_y)&&wide (cx,cy)&&wide (px,py))=false:=g
    rw [w2,w3,w4] at hg
    cases hg)
  |(exfalso
    have hg:(wide (cx,cy)&&wide (ax,ay)&&wide (px,py))=false:=g
    rw [w3,w1,w4] at hg
    cases hg)
  |(show Value.bool _=.bool (holdB (ax,ay) (bx,b_y) (cx,cy) (px,py))
    unfold holdB
    simp only [cA_le,cA_eqB] at *
    generalize decide (0≤turnS (ax,ay) (bx,b_y) (px,py))=u1 at *
    generalize decide (0≤turnS (bx,b_y) (cx,cy) (px,py))=u2 at *
    generalize decide (0≤turnS (cx,cy) (ax,ay) (px,py))=u3 at *
    cases u1 <;> cases u2 <;> cases u3 <;> simp_all
    done)
  |trace_state
def clearB (a b c p:Int × Int):Bool:=eqP p a || eqP p b || eqP p c || !(holdB a b c p)
def earB (l:List (Int × Int))(i:Nat):Bool:=decide (0<turnS (prv l i) (at2 l i) (nxt l i))&&l.all (fun p=>clearB (prv l i) (at2 l i) (nxt l i) p)
theorem earB_no {l:List (Int × Int)}{i:Nat}(h:turnS (prv l i) (at2 l i) (nxt l i)≤0):earB l i=false:=by
 unfold earB
 rw [decide_eq_false (by omega),Bool.false_and]
theorem earB_not {l:List (Int × Int)}{i k:Nat}(hk:k<l.length)(h:clearB (prv l i) (at2 l i) (nxt l i) (at2 l k)=false):earB l i=false:=by
 unfold earB
 have:l.all (fun p=>clearB (prv l i) (at2 l i) (nxt l i) p)=false:=by
  rw [Bool.eq_false_iff]
  intro e
  have:=List.all_eq_true.1 e (at2 l k) (by rw [at2_eq hk];exact List.getElem_mem hk)
  rw [h] at this
  cases this
 rw [this,Bool.and_false]
theorem earB_yes {l:List (Int × Int)}{i:Nat}(h:0<turnS (prv l i) (at2 l i) (nxt l i))(h2:∀ k,k<l.length→clearB (prv l i) (at2 l i) (nxt l i) (at2 l k)=true):earB l i=true:=by
 unfold earB
 rw [decide_eq_true h,Bool.true_and]
 refine List.all_eq_true.2 fun p hp=>?_
 obtain⟨k,hk,rfl⟩:=List.mem_iff_getElem.1 hp
 rw [← at2_eq hk]
 exact h2 k hk
end Go.Aw
end
