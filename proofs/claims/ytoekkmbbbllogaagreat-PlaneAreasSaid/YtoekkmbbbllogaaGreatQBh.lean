/-
  Parts of a proof. No condition.
-/
import Derived.Test.YtoekkmbbbllogaaGreatQBb
import Derived.Test.YtoekkmbbbllogaaGreatQBe
import Derived.Test.YtoekkmbbbllogaaGreatQBg
set_option linter.unusedSimpArgs false
set_option linter.unusedVariables false
noncomputable section
namespace Go.Aw
def chS (f:Pq × Pq→Int):List (Sd × Int)→Int
 |[]=>0
 |e::r=>e.2*f e.1+chS f r
theorem chS_set (f:Pq × Pq→Int)(s:Sd)(n:Int):∀ L:List (Sd × Int),chS f (setS L s n)=chS f L+(n - valS L s)*f s
 |[]=>by simp [setS,chS,valS,posS]
 |(k,v)::r=>by
  have ih:=chS_set f s n r
  by_cases h:k=s
  ·subst h
   simp only [setS,if_true,chS,valS,posS]
   rw [Int.sub_mul]
   omega
  ·have e:valS ((k,v)::r) s=valS r s:=by
    unfold valS
    rw [posS,if_neg h]
    cases posS r s <;> rfl
   simp only [setS,if_neg h,chS]
   rw [ih,e]
   omega
theorem chS_add (f:Pq × Pq→Int)(L:List (Sd × Int))(s:Sd)(d:Int):chS f (addS L s d)=chS f L+d*f s:=by
 unfold addS
 rw [chS_set]
 congr 2
 omega
theorem chS_both {f:Pq × Pq→Int}(hf:anti f)(L:List (Sd × Int))(p q:Int × Int)(d:Int):chS f (bothE L p q d)=chS f L+2*(d*f (p,q)):=by
 unfold bothE
 rw [chS_add,chS_add,hf p q,Int.mul_neg,Int.neg_mul]
 omega
def tl (t:Tg):List Pq:=[t.1,t.2.1,t.2.2]
def TS (f:Pq × Pq→Int)(ts:List Tg):Nat→Int
 |0=>0
 |i+1=>TS f ts i+fs f (tl (atT ts i))
theorem chS_mT {f:Pq × Pq→Int}(hf:anti f)(ts:List Tg):∀ i,chS f (mT ts i)=2*TS f ts i
 |0=>rfl
 |i+1=>by
  have ih:=chS_mT hf ts i
  rw [mT,triM,chS_both hf,chS_both hf,chS_both hf,ih,TS,tl,fs_three]
  omega
def ES (f:Pq × Pq→Int)(N:List Pq):Nat→Int
 |0=>0
 |i+1=>ES f N i+f (edgeS N i)
theorem chS_mN {f:Pq × Pq→Int}(hf:anti f)(M:List (Sd × Int))(N:List Pq):∀ i,chS f (mN M N i)=chS f M - 2*ES f N i
 |0=>by rw [mN,ES];omega
 |i+1=>by
  have ih:=chS_mN hf M N i
  rw [mN,chS_both hf,ih,ES,edgeS]
  omega
theorem cl_list {l:List Pq}(h:l.Nodup):cl l=(List.range l.length).map (edgeS l):=by
 have hf:=cl_fst l
 have hl:(cl l).length=l.length:=by have:=congrArg List.length hf;rwa [List.length_map] at this
 refine List.ext_getElem (by simp [hl]) fun i h1 h2=>?_
 rw [List.getElem_map,List.getElem_range]
 have hi:i<l.length:=by omega
 obtain⟨k,hk,e⟩:=(cl_ix _).1 (List.getElem_mem h1)
 have e1:(cl l)[i].1=l[i]:=by
  have:((cl l).map Prod.fst)[i]'(by simp;omega)=l[i]:=by simp only [hf]
  simpa using this
 rw [e] at e1
 have:k=i:=nodup_at h hk hi (by rw [at2_eq hi];exact e1)
 rw [e,this]
theorem ES_range (f:Pq × Pq→Int)(N:List Pq):∀ n,sumF f ((List.range n).map (edgeS N))=ES f N n
 |0=>rfl
 |n+1=>by
  rw [List.range_succ,List.map_append,sumF_app,ES_range f N n,ES]
  simp [sumF]
theorem ES_fs (f:Pq × Pq→Int){N:List Pq}(h:N.Nodup):ES f N N.length=fs f N:=by
 unfold fs
 rw [cl_list h,ES_range]
theorem allZ_chS {f:Pq × Pq→Int}:∀ {L:List (Sd × Int)},allZ L=true→chS f L=0
 |[],_=>rfl
 |e::r,h=>by
  unfold allZ at h
  simp only [List.all_cons,Bool.and_eq_true,decide_eq_true_eq] at h
  have ih:=allZ_chS (f:=f) (L:=r) h.2
  rw [chS,h.1,ih,Int.zero_mul]
  rfl
structure Cov (l:List Pq) (ts:List Tg):Prop where
 good:goodP l
 simple:simpleP l
 len:ts.length≤400
 ok:∀ i,i<ts.length→okTg (atT ts i)=true
 sum:∀ f,anti f→TS f ts ts.length=fs f (norR l)
theorem chkT_cov {l:List Pq}{ts:List Tg}(h:chkT l ts=true):Cov l ts:=by
 by_cases hc:polyE l=0∧ts.length≤400∧∀ i,i<ts.length→okTg (atT ts i)=true
 ·obtain⟨hg,hs⟩:=polyE_ok hc.1
  refine⟨hg,hs,hc.2.1,hc.2.2,fun f hf=>?_⟩
  rw [chkT_yes hc] at h
  have h0:=allZ_chS (f:=f) h
  rw [chS_mN hf,chS_mT hf,ES_fs f (norR_simp (simp_of hg hs)).1.nodup] at h0
  omega
 ·rw [chkT_no hc] at h
  cases h
theorem okTg_pos {t:Tg}(h:okTg t=true):0<crossI t.1 t.2.1 t.2.2:=by
 have:=(okTg_right h).2.2.2
 unfold turnS sgn at this
 split at this
 ·omega
 ·split at this <;> omega
theorem fs_dir {f:Pq × Pq→Int}(hf:anti f)(l:List Pq):fs f (dirI l)=fs f l∨fs f (dirI l) = -fs f l:=by
 unfold dirI
 split
 ·exact .inr (fs_back hf l)
 ·exact .inl rfl
theorem fs_turnI (f:Pq × Pq→Int)(o:List Pq)(j:Nat):fs f (turnI o j)=fs f o:=by
 unfold turnI
 rw [fs_rot,List.take_append_drop]
theorem wn_nor (u:Pq)(N:Int)(p:Pq){l:List Pq}(h:Simp l):fs (wn u N p) (norR l)=fs (wn u N p) l∨fs (wn u N p) (norR l) = -fs (wn u N p) l:=by
 have h3:=h.len
 rw [norR_ker (by omega),ker_wn u N p ((dirI_simp h).turn _),fs_turnI]
 exact fs_dir (wn_anti u N p) l
theorem onB_back {N:Int}{p:Pq}{l:List Pq}(h:onB N p l.reverse):onB N p l:=by
 obtain⟨e,he,ho⟩:=h
 have hm:(e.2,e.1)∈cl l:=by
  cases l with
  |nil=>cases he
  |cons x r =>
   rw [List.reverse_cons] at he
   have he:=cl_rot he
   have he:e∈pe (x::r.reverse++[x]):=he
   refine pe_back (x::r++[x]) e ?_
   simpa using he
 refine⟨_,hm,fun g=>ho fun ⟨M,hM,hw⟩=>g ⟨M,hM,onW_rev hw⟩⟩
theorem onB_turn {N:Int}{p:Pq}{o:List Pq}{j:Nat}:onB N p (turnI o j)↔onB N p o:=by
 unfold turnI
 constructor
 ·intro h
  have:=onB_rot h
  rw [List.take_append_drop] at this
  exact this
 ·intro h
  refine onB_rot ?_
  rw [List.take_append_drop]
  exact h
theorem onB_nor {N:Int}{p:Pq}{l:List Pq}(h:Simp l):onB N p (norR l)↔onB N p l:=by
 have h3:=h.len
 rw [norR_ker (by omega),ker_on ((dirI_simp h).turn _),onB_turn]
 unfold dirI
 split
 ·exact⟨onB_back,fun g=>onB_back (by rw [List.reverse_reverse];exact g)⟩
 ·exact Iff.rfl
theorem on_off {p:Pq}{s:Sg}(hs:rightG s=true)(hp:rightS p=true):onS p s=true↔¬ offS 1 p s:=by
 obtain⟨a,b,eab,kab,esa,ra,rb⟩:=ends_ord hs
 unfold onS betS
 rw [esa]
 simp only [Bool.and_eq_true,decide_eq_true_eq,ord_key ra hp,ord_key hp rb,cmp_le,turn0]
 constructor
 ·rintro ⟨h0,h1,h2⟩
  have hc:crossI a b p=0:=by
   rcases eab with ⟨e1,e2⟩|⟨e1,e2⟩
   ·rw [e1,e2];exact h0
   ·rw [e1,e2,cross_ab,h0];rfl
  have ho:=onW_of_key hc h1 h2
  refine fun g=>g ⟨key b - key a,by omega,?_⟩
  rw [Int.mul_one]
  exact (onW_ends eab).2 ho
 ·intro h
  obtain⟨M,hM,ho⟩:=Classical.not_not.1 h
  rw [Int.mul_one] at ho
  have hc:=cross_own ho
  obtain⟨k1,k2⟩:=onW_key ((onW_ends eab).1 ho) (Int.le_of_lt kab)
  refine⟨?_,?_,?_⟩
  ·have:M*crossI s.1 s.2 p=0:=by
    rw [← hc]
    unfold crossI
    grind
   exact (mul_zero_or this).resolve_left (by omega)
  ·refine Int.le_of_mul_le_mul_left (a:=M) ?_ hM
   have e:M*key p=M*p.1*100000+M*p.2:=by unfold key;rw [Int.mul_add,← Int.mul_assoc]
   omega
  ·refine Int.le_of_mul_le_mul_left (a:=M) ?_ hM
   have e:M*key p=M*p.1*100000+M*p.2:=by unfold key;rw [Int.mul_add,← Int.mul_assoc]
   omega
theorem onP_onB {l:List Pq}{p:Pq}(hg:goodP l)(hp:rightS p=true):onP l p↔onB 1 p l:=by
 constructor
 ·rintro ⟨i,hi,h⟩
  exact⟨_,(cl_ix _).2 ⟨i,hi,rfl⟩,(on_off (edge_right hg hi) hp).1 h⟩
 ·rintro ⟨e,he,h⟩
  obtain⟨i,hi,rfl⟩:=(cl_ix _).1 he
  exact⟨i,hi,(on_off (edge_right hg hi) hp).2 h⟩
def eu:Pq:=(1,0)
theorem hit_wn (p:Pq)(e:Pq × Pq):(hitE e p=true→wn eu 1 p e=1∨wn eu 1 p e = -1)∧(hitE e p=false→wn eu 1 p e=0):=by
 obtain⟨a,b⟩:=e
 have e1:dt eu (vec 1 p a)=a.2 - p.2:=by unfold dt eu vec;simp only;omega
 have e2:dt eu (vec 1 p b)=b.2 - p.2:=by unfold dt eu vec;simp only;omega
 have e3:dt (vec 1 p a) (vec 1 p b)=crossI a b p:=by unfold dt vec crossI;simp only;grind
 have e4:crossI b a p = -crossI a b p:=cross_flip a b p
 unfold wn
 simp only
 rw [e1,e2,e3]
 unfold hitE loY hiY rI
 simp only
 by_cases h:b.2<a.2
 ·simp only [if_pos h,Bool.and_eq_true,Bool.and_eq_false_iff,decide_eq_true_eq,decide_eq_false_iff_not,e4]
  constructor
  ·rintro ⟨⟨h1,h2⟩,h3⟩
   rw [if_neg (by omega),if_pos ⟨by omega,by omega⟩,if_pos (by omega)]
   exact .inr rfl
  ·intro h1
   rw [if_neg (by omega)]
   split
   ·rw [if_neg (by omega)]
   ·rfl
 ·simp only [if_neg h,Bool.and_eq_true,Bool.and_eq_false_iff,decide_eq_true_eq,decide_eq_false_iff_not]
  constructor
  ·rintro ⟨⟨h1,h2⟩,h3⟩
   rw [if_pos ⟨by omega,by omega⟩,if_pos (by omega)]
   exact .inl rfl
  ·intro h1
   split
   ·rw [if_neg (by omega)]
   ·rw [if_neg (by omega)]
theorem inI_par (l:List Pq)(p:Pq):∀ i,(inI l p i=true↔ES (wn eu 1 p) l i % 2=1)
 |0=>by simp [inI,ES]
 |i+1=>by
  have ih:=inI_par l p i
  obtain⟨h1,h2⟩:=hit_wn p (edgeS l i)
  rw [inI,ES]
  cases hh:hitE (edgeS l i) p with
  |true =>
   have:=h1 hh
   cases hi:inI l p i with
   |true =>
    have:=ih.1 hi
    simp only [bne_self_eq_false,Bool.false_eq_true,false_iff]
    omega
   |false =>
    have:¬ ES (wn eu 1 p) l i % 2=1:=fun g=>by rw [ih.2 g] at hi;cases hi
    simp only [Bool.false_bne,true_iff]
    omega
  |false =>
   rw [h2 hh]
   simp only [Bool.bne_false,Int.add_zero]
   exact ih
theorem eu_ne:eu≠(0,0):=by decide
theorem inI_iff {l:List Pq}(hg:goodP l)(hs:simpleP l)(p:Pq):inI l p l.length=true↔fs (wn eu 1 p) (norR l)=1:=by
 have h:=simp_of hg hs
 obtain⟨n1,n2,-⟩:=norR_simp h
 have ha:0<ar (norR l):=by rw [n2];exact dirI_area h
 have k0:=wn_nonneg eu (N:=1) (by decide) p _ _ rfl n1 ha
 have k1:=wn_le1 eu (N:=1) (by decide) p _ _ rfl n1 ha
 rw [inI_par,ES_fs _ h.nodup]
 rcases wn_nor eu 1 p h with e|e <;> omega
def hasT (t:Tg)(p:Pq):Prop:=0≤turnS t.1 t.2.1 p∧0≤turnS t.2.1 t.2.2 p∧0≤turnS t.2.2 t.1 p
def inT3 (t:Tg)(p:Pq):Prop:=0<turnS t.1 t.2.1 p∧0<turnS t.2.1 t.2.2 p∧0<turnS t.2.2 t.1 p
theorem sgn_nn (n:Int):0≤sgn n↔0≤n:=by
 unfold sgn
 split <;> (try split) <;> omega
theorem hasT_iff (t:Tg)(p:Pq):hasT t p↔0≤crossI t.1 t.2.1 p∧0≤crossI t.2.1 t.2.2 p∧0≤crossI t.2.2 t.1 p:=by
 unfold hasT turnS
 rw [sgn_nn,sgn_nn,sgn_nn]
theorem inT3_iff (t:Tg)(p:Pq):inT3 t p↔0<crossI t.1 t.2.1 p∧0<crossI t.2.1 t.2.2 p∧0<crossI t.2.2 t.1 p:=by
 unfold inT3 turnS
 rw [sgn_pos,sgn_pos,sgn_pos]
theorem vec_cr (p a b:Pq):dt (vec 1 p a) (vec 1 p b)=crossI a b p:=by unfold dt vec crossI;simp only;grind
theorem tri_sum1 (p a b c:Pq):crossI a b p+crossI b c p+crossI c a p=crossI a b c:=by unfold crossI;grind
theorem wn_t (u p:Pq)(t:Tg):fs (wn u 1 p) (tl t)=tI (dt u (vec 1 p t.1)) (dt u (vec 1 p t.2.1)) (dt u (vec 1 p t.2.2)) (crossI t.1 t.2.1 p) (crossI t.2.1 t.2.2 p) (crossI t.2.2 t.1 p):=by
 unfold tl
 rw [wn_tri,vec_cr,vec_cr,vec_cr]
theorem tri_id1 (u p a b c:Pq):dt u (vec 1 p a)*crossI b c p+dt u (vec 1 p b)*crossI c a p+dt u (vec 1 p c)*crossI a b p=0:=by
 rw [← vec_cr,← vec_cr,← vec_cr]
 exact tri_id _ _ _ _
theorem wn_t01 (u p:Pq){t:Tg}(h:okTg t=true):0≤fs (wn u 1 p) (tl t)∧fs (wn u 1 p) (tl t)≤1:=wn_tri01 u (by decide) p (okTg_pos h)
theorem wn_t_in {u p:Pq}(hu:u≠(0,0)){t:Tg}(h:inT3 t p):fs (wn u 1 p) (tl t)=1:=by
 obtain⟨h1,h2,h3⟩:=(inT3_iff t p).1 h
 rw [wn_t]
 refine tri_in (tri_id1 u p _ _ _) h1 h2 h3 fun ⟨g1,g2,g3⟩=>hu ?_
 rw [← vec_cr] at h1
 generalize vec 1 p t.1=x at *
 generalize vec 1 p t.2.1=y at *
 have k1:dt x y*u.1=0:=by unfold dt at g1 g2 ⊢;clear h1 h2 h3 g3;grind
 have k2:dt x y*u.2=0:=by unfold dt at g1 g2 ⊢;clear h1 h2 h3 g3;grind
 exact Prod.ext ((mul_zero_or k1).resolve_left (by omega)) ((mul_zero_or k2).resolve_left (by omega))
theorem wn_t_has {u p:Pq}{t:Tg}(h:okTg t=true)(hw:fs (wn u 1 p) (tl t)≠0):hasT t p:=by
 have hp:=okTg_pos h
 have hs:=tri_sum1 p t.1 t.2.1 t.2.2
 have hid:=tri_id1 u p t.1 t.2.1 t.2.2
 rw [wn_t] at hw
 rw [hasT_iff]
 refine⟨Int.not_lt.1 fun g=>hw (tri_off hid (by omega) g),Int.not_lt.1 fun g=>hw ?_,Int.not_lt.1 fun g=>hw ?_⟩
 ·have:=tri_off (A:=dt u (vec 1 p t.2.1)) (B:=dt u (vec 1 p t.2.2)) (C:=dt u (vec 1 p t.1)) (α:=crossI t.2.1 t.2.2 p) (β:=crossI t.2.2 t.1 p) (γ:=crossI t.1 t.2.1 p) (by omega) (by omega) g
  unfold tI at this ⊢
  omega
 ·have:=tri_off (A:=dt u (vec 1 p t.2.2)) (B:=dt u (vec 1 p t.1)) (C:=dt u (vec 1 p t.2.1)) (α:=crossI t.2.2 t.1 p) (β:=crossI t.1 t.2.1 p) (γ:=crossI t.2.1 t.2.2 p) (by omega) (by omega) g
  unfold tI at this ⊢
  omega
theorem wn_t_dir {p:Pq}{t:Tg}(h:okTg t=true)(hh:hasT t p):∃ u:Pq,u≠(0,0)∧fs (wn u 1 p) (tl t)=1:=by
 obtain⟨h1,h2,h3⟩:=(hasT_iff t p).1 hh
 have hp:=okTg_pos h
 have hs:=tri_sum1 p t.1 t.2.1 t.2.2
 by_cases he:crossI t.1 t.2.1 p=crossI t.2.1 t.2.2 p∧crossI t.2.1 t.2.2 p=crossI t.2.2 t.1 p
 ·exact⟨eu,eu_ne,wn_t_in eu_ne ((inT3_iff t p).2 ⟨by omega,by omega,by omega⟩)⟩
 ·obtain⟨u,hu⟩:∃ u:Pq,u=((vec 1 p t.1).1+(vec 1 p t.2.1).1+(vec 1 p t.2.2).1,(vec 1 p t.1).2+(vec 1 p t.2.1).2+(vec 1 p t.2.2).2):=⟨_,rfl⟩
  have d1:dt u (vec 1 p t.1)=crossI t.2.2 t.1 p - crossI t.1 t.2.1 p:=by rw [hu];unfold dt vec crossI;simp only;clear hp hs h1 h2 h3 he hh;grind
  have d2:dt u (vec 1 p t.2.1)=crossI t.1 t.2.1 p - crossI t.2.1 t.2.2 p:=by rw [hu];unfold dt vec crossI;simp only;clear hp hs h1 h2 h3 he hh;grind
  have d3:dt u (vec 1 p t.2.2)=crossI t.2.1 t.2.2 p - crossI t.2.2 t.1 p:=by rw [hu];unfold dt vec crossI;simp only;clear hp hs h1 h2 h3 he hh;grind
  refine⟨u,fun g=>?_,?_⟩
  ·rw [g] at d1 d2
   have z:∀ q:Pq,dt (0,0) q=0:=fun q=>by unfold dt;simp
   rw [z] at d1 d2
   omega
  ·rw [wn_t,d1,d2,d3]
   exact tri_mid h1 h2 h3 he
theorem TS_01 {f:Pq × Pq→Int}{ts:List Tg}:∀ {n:Nat},(∀ i,i<n→0≤fs f (tl (atT ts i)))→0≤TS f ts n∧∀ i,i<n→fs f (tl (atT ts i))≤TS f ts n
 |0,_=>⟨Int.le_refl _,fun i hi=>absurd hi (Nat.not_lt_zero i)⟩
 |n+1,h=>by
  obtain⟨h1,h2⟩:=TS_01 (n:=n) fun i hi=>h i (by omega)
  have h3:=h n (by omega)
  rw [TS]
  refine⟨by omega,fun i hi=>?_⟩
  by_cases e:i=n
  ·rw [e];omega
  ·have:=h2 i (by omega);omega
theorem TS_some {f:Pq × Pq→Int}{ts:List Tg}:∀ {n:Nat},TS f ts n≠0→∃ i,i<n∧fs f (tl (atT ts i))≠0
 |0,h=>absurd rfl h
 |n+1,h=>by
  rw [TS] at h
  by_cases g:fs f (tl (atT ts n))=0
  ·obtain⟨i,hi,h2⟩:=TS_some (f:=f) (ts:=ts) (n:=n) (by omega)
   exact⟨i,by omega,h2⟩
  ·exact⟨n,by omega,g⟩
theorem on_side {a b c p:Pq}(h:0<crossI a b c)(ho:¬ offS 1 p (a,b)):0≤crossI a b p∧0≤crossI b c p∧0≤crossI c a p:=by
 obtain⟨M,hM,α,β,h1,h2,h3,h4,h5⟩:=Classical.not_not.1 ho
 rw [Int.mul_one] at h3
 simp only at h4 h5
 have e1:M*crossI a b p=0:=by
  have:M*crossI a b p=(b.1 - a.1)*(M*p.2 - M*a.2) - (b.2 - a.2)*(M*p.1 - M*a.1):=by unfold crossI;clear ho h4 h5 h;grind
  rw [this,h4,h5,← h3]
  clear ho h;grind
 have e2:M*crossI b c p=α*crossI a b c:=by
  have:M*crossI b c p=(c.1 - b.1)*(M*p.2 - M*b.2) - (c.2 - b.2)*(M*p.1 - M*b.1):=by unfold crossI;clear ho h4 h5 h;grind
  rw [this,h4,h5,← h3]
  unfold crossI
  clear ho h;grind
 have e3:M*crossI c a p=β*crossI a b c:=by
  have:M*crossI c a p=(a.1 - c.1)*(M*p.2 - M*c.2) - (a.2 - c.2)*(M*p.1 - M*c.1):=by unfold crossI;clear ho h4 h5 h;grind
  rw [this,h4,h5,← h3]
  unfold crossI
  clear ho h;grind
 have nn:∀ {x:Int},0≤M*x→0≤x:=fun {x} hx=>Int.not_lt.1 fun g=>by
  have:=Int.mul_neg_of_pos_of_neg hM g
  omega
 exact⟨nn (by omega),nn (by rw [e2];exact Int.mul_nonneg h1 (by omega)),nn (by rw [e3];exact Int.mul_nonneg h2 (by omega))⟩
def ind (c d:Pq)(g:Pq × Pq):Int:=(if g.1=c∧g.2=d then 1 else 0) - (if g.1=d∧g.2=c then 1 else 0)
theorem ind_anti (c d:Pq):anti (ind c d):=fun a b=>by
 unfold ind
 simp only
 have h1:(b=c∧a=d)=(a=d∧b=c):=propext and_comm
 have h2:(b=d∧a=c)=(a=c∧b=d):=propext and_comm
 simp only [h1,h2]
 omega
theorem ind_ne {c d:Pq}{g:Pq × Pq}(h:ind c d g≠0):g=(c,d)∨g=(d,c):=by
 unfold ind at h
 by_cases h1:g.1=c∧g.2=d
 ·exact .inl (Prod.ext h1.1 h1.2)
 ·by_cases h2:g.1=d∧g.2=c
  ·exact .inr (Prod.ext h2.1 h2.2)
  ·rw [if_neg h1,if_neg h2] at h
   exact absurd rfl h
theorem ind_pos {N:List Pq}(h:Simp N){c d:Pq}(hcd:(c,d)∈cl N):0<fs (ind c d) N:=by
 have hne:c≠d:=h.ne hcd
 have hno:(d,c)∉cl N:=fun g=>by
  obtain⟨z,-,z2,z3,z4⟩:=h.ok _ hcd _ g (fun e=>hne (congrArg Prod.fst e)) 2 (c.1+d.1) (c.2+d.2) (by decide)
   ⟨1,1,by decide,by decide,rfl,by show _=1*c.1+1*d.1;omega,by show _=1*c.2+1*d.2;omega⟩
   ⟨1,1,by decide,by decide,rfl,by show _=1*d.1+1*c.1;omega,by show _=1*d.2+1*c.2;omega⟩
  rcases z2 with e|e
  ·have e:z=d:=e
   rw [e] at z3 z4
   exact hne (Prod.ext (by omega) (by omega))
  ·have e:z=c:=e
   rw [e] at z3 z4
   exact hne (Prod.ext (by omega) (by omega))
 have hlt:sumF (fun _=>0) (cl N)<sumF (ind c d) (cl N):=by
  refine sumF_lt (fun e he=>?_) ⟨(c,d),hcd,?_⟩
  ·unfold ind
   have:¬ (e.1=d∧e.2=c):=fun g=>hno (by rw [← g.1,← g.2];exact he)
   rw [if_neg this]
   split <;> decide
  ·unfold ind
   simp only
   rw [if_pos ⟨trivial,trivial⟩,if_neg (fun g=>hne g.1)]
   decide
 have hz:∀ (L:List (Pq × Pq)),sumF (fun _=>0) L=0:=fun L=>by
  induction L with
  |nil=>rfl
  |cons e r ih=>simp only [sumF];omega
 rw [hz] at hlt
 exact hlt
theorem off_swap {N:Int}{p c d:Pq}(h:¬ offS N p (c,d)):¬ offS N p (d,c):=fun g=>h fun ⟨M,hM,ho⟩=>g ⟨M,hM,onW_rev ho⟩
theorem cov_has {l:List Pq}{ts:List Tg}(hc:Cov l ts){p:Pq}(hp:rightS p=true):(∃ i,i<ts.length∧hasT (atT ts i) p)↔WhV l p≠0:=by
 have hs:=simp_of hc.good hc.simple
 obtain⟨n1,n2,-⟩:=norR_simp hs
 have ha:0<ar (norR l):=by rw [n2];exact dirI_area hs
 have hW:WhV l p=whI l p:=by unfold WhV;rw [if_pos ⟨polyE_yes hc.good hc.simple,hp⟩]
 have hwh:whI l p≠0↔onP l p∨inI l p l.length=true:=by
  unfold whI
  split
  ·rename_i h;exact⟨fun _=>.inl h,fun _=>by decide⟩
  ·rename_i h
   split
   ·rename_i h2;exact⟨fun _=>.inr h2,fun _=>by decide⟩
   ·rename_i h2
    exact⟨fun g=>absurd rfl g,fun g=>g.elim (fun x=>absurd x h) (fun x=>absurd x h2)⟩
 rw [hW,hwh,onP_onB hc.good hp,← onB_nor hs,inI_iff hc.good hc.simple]
 constructor
 ·rintro ⟨i,hi,hh⟩
  by_cases hb:onB 1 p (norR l)
  ·exact .inl hb
  ·refine .inr ?_
   obtain⟨u,hu,hw⟩:=wn_t_dir (hc.ok i hi) hh
   have h1:=(TS_01 (f:=wn u 1 p) (ts:=ts) (n:=ts.length) fun k hk=>(wn_t01 u p (hc.ok k hk)).1).2 i hi
   rw [hc.sum _ (wn_anti u 1 p),hw,wn_two (by decide) hu eu_ne fun e he=>Classical.byContradiction fun g=>hb ⟨e,he,g⟩] at h1
   have:=wn_le1 eu (N:=1) (by decide) p _ _ rfl n1 ha
   omega
 ·rintro (⟨e,he,ho⟩|hw)
  ·-- the side is one of a triangle
   obtain⟨c,d⟩:=e
   have hpos:=ind_pos n1 he
   rw [← hc.sum _ (ind_anti c d)] at hpos
   obtain⟨i,hi,h2⟩:=TS_some (f:=ind c d) (ts:=ts) (n:=ts.length) (by omega)
   refine⟨i,hi,(hasT_iff _ _).2 ?_⟩
   have hp:=okTg_pos (hc.ok i hi)
   generalize atT ts i=t at *
   have on1:∀ g,ind c d g≠0→¬ offS 1 p g:=fun g hg=>by
    rcases ind_ne hg with rfl|rfl
    ·exact ho
    ·exact off_swap ho
   have c2:crossI t.2.1 t.2.2 t.1=crossI t.1 t.2.1 t.2.2:=by unfold crossI;clear hpos h2;grind
   have c3:crossI t.2.2 t.1 t.2.1=crossI t.1 t.2.1 t.2.2:=by unfold crossI;clear hpos h2;grind
   rw [tl,fs_three] at h2
   by_cases g1:ind c d (t.1,t.2.1)=0
   ·by_cases g2:ind c d (t.2.1,t.2.2)=0
    ·obtain⟨a1,a2,a3⟩:=on_side (a:=t.2.2) (b:=t.1) (c:=t.2.1) (by omega) (on1 _ (by omega:ind c d (t.2.2,t.1)≠0))
     exact⟨a2,a3,a1⟩
    ·obtain⟨a1,a2,a3⟩:=on_side (a:=t.2.1) (b:=t.2.2) (c:=t.1) (by omega) (on1 _ g2)
     exact⟨a3,a1,a2⟩
   ·exact on_side (a:=t.1) (b:=t.2.1) (c:=t.2.2) hp (on1 _ g1)
  ·obtain⟨i,hi,h2⟩:=TS_some (f:=wn eu 1 p) (ts:=ts) (n:=ts.length) (by rw [hc.sum _ (wn_anti eu 1 p),hw];decide)
   exact⟨i,hi,wn_t_has (hc.ok i hi) h2⟩
theorem cov_in {l:List Pq}{ts:List Tg}(hc:Cov l ts){p:Pq}{F:Nat→Int}(h0:F 0=0)(hF:∀ i,i<ts.length→F (i+1)=F i+1∧inT3 (atT ts i) p∨F (i+1)=F i):F ts.length≤1:=by
 have hs:=simp_of hc.good hc.simple
 obtain⟨n1,n2,-⟩:=norR_simp hs
 have ha:0<ar (norR l):=by rw [n2];exact dirI_area hs
 have k1:=wn_le1 eu (N:=1) (by decide) p _ _ rfl n1 ha
 rw [← hc.sum _ (wn_anti eu 1 p)] at k1
 have:∀ i,i≤ts.length→F i≤TS (wn eu 1 p) ts i:=fun i=>by
  induction i with
  |zero=>intro _;rw [h0];exact Int.le_refl _
  |succ i ih =>
   intro hi
   have:=ih (by omega)
   have h01:=(wn_t01 eu p (hc.ok i (by omega))).1
   rw [TS]
   rcases hF i (by omega) with ⟨e,hin⟩|e
   ·have:=wn_t_in eu_ne hin
    omega
   ·omega
 have:=this _ (Nat.le_refl _)
 omega
def aT (ts:List Tg):Nat→Int
 |0=>0
 |i+1=>aT ts i+crossI (atT ts i).1 (atT ts i).2.1 (atT ts i).2.2
theorem cov_area {l:List Pq}{ts:List Tg}(hc:Cov l ts):aT ts ts.length=if areaI l l.length<0 then -areaI l l.length else areaI l l.length:=by
 have hs:=simp_of hc.good hc.simple
 have h3:=hs.len
 obtain⟨n1,n2,-⟩:=norR_simp hs
 have e:∀ i,aT ts i=TS (fun e=>dt e.1 e.2) ts i:=fun i=>by
  induction i with
  |zero=>rfl
  |succ i ih =>
   rw [aT,TS,ih,← ar_fs,tl,ar_three]
   congr 1
   unfold crossI
   grind
 rw [e,hc.sum _ dt_anti,← ar_fs,n2]
 unfold dirI
 rw [area_ar (by omega)]
 split
 ·rw [ar_rev]
 ·rfl
end Go.Aw
end
