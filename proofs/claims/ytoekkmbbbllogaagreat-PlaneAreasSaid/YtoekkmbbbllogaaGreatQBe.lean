/-
  Parts of a proof. No condition.
-/
import Derived.Test.YtoekkmbbbllogaaGreatQAy
import Derived.Test.YtoekkmbbbllogaaGreatQBd
set_option linter.unusedSimpArgs false
set_option linter.unusedVariables false
noncomputable section
namespace Go.Aw
theorem two_split {L:List Pq}(h:2≤L.length):∃ a K b,L=a::(K++[b]):=by
 match L,h with
 |a::c::r,_ =>
  obtain⟨K,b,e⟩:=last_split (show c::r≠[] by simp)
  exact⟨a,K,b,by rw [e]⟩
theorem Simp.least {P:List Pq}(h:Simp P):∃ A w B a K b,P=A++w::B∧w::B++A=w::a::(K++[b])∧Simp (w::a::(K++[b]))∧(∀ p∈a::(K++[b]),lx w p)∧ar P=ar (w::a::(K++[b])):=by
 have hl:=h.len
 obtain⟨w,hw,hm⟩:=lx_min P (fun e=>by rw [e] at hl;simp at hl)
 obtain⟨A,B,rfl⟩:=List.append_of_mem hw
 obtain⟨a,K,b,e⟩:=two_split (L:=B++A) (by simp at hl ⊢;omega)
 have e2:w::B++A=w::a::(K++[b]):=by rw [List.cons_append,e]
 have hr:=h.rot
 rw [e2] at hr
 refine⟨A,w,B,a,K,b,rfl,e2,hr,fun p hp=>hm p ?_ (fun q=>(List.nodup_cons.1 hr.nodup).1 (by rw [← q];exact hp)),by rw [ar_rot,e2]⟩
 rw [← e] at hp
 simp only [List.mem_append,List.mem_cons] at hp ⊢
 exact hp.elim (fun g=>.inr (.inr g)) .inl
theorem Simp.area {P:List Pq}(h:Simp P):ar P≠0:=by
 obtain⟨A,w,B,a,K,b,-,-,hs,hm,e⟩:=h.least
 obtain⟨τ,hτ,ht⟩:=sg_of (turns_min hs (hm a (by simp)) (hm b (by simp)))
 have:=(TE _).1 w a K b τ hτ rfl hs hm ht
 rw [e]
 intro h0
 rw [h0] at this
 simp at this
theorem Simp.between {w a b:Pq}{K:List Pq}(h:Simp (w::a::(K++[b])))(hc:crossI b w a=0):∃ i j:Int,0<i∧0<j∧(i+j)*w.1=i*a.1+j*b.1∧(i+j)*w.2=i*a.2+j*b.2:=by
 have hn:=h.nodup
 have hcl:=cl_first w a K b
 have mwa:(w,a)∈cl (w::a::(K++[b])):=by rw [hcl];exact .head _
 have mbw:(b,w)∈cl (w::a::(K++[b])):=by rw [hcl];exact .tail _ (List.mem_append.2 (.inr (.head _)))
 have hab:a≠b:=fun e=>(List.nodup_cons.1 (List.nodup_cons.1 hn).2).1 (by rw [e];simp)
 have hwa:w≠a:=fun e=>(List.nodup_cons.1 hn).1 (by rw [e];simp)
 have hwb:w≠b:=fun e=>(List.nodup_cons.1 hn).1 (by rw [e];simp)
 have hma:a∈w::a::(K++[b]):=by simp
 have hmb:b∈w::a::(K++[b]):=by simp
 have ka:∀ N k:Int,0<N→0≤k→k≤N→N*(a.1 - w.1)=k*(b.1 - w.1)→N*(a.2 - w.2)=k*(b.2 - w.2)→False:=fun N k hN h0 h1 e1 e2=>by
  rcases h.on hma mbw hN (onW_rev (onW_mid h0 h1 e1 e2)) with e|e
  ·exact hab e
  ·exact hwa e.symm
 have kb:∀ N k:Int,0<N→0≤k→k≤N→N*(b.1 - w.1)=k*(a.1 - w.1)→N*(b.2 - w.2)=k*(a.2 - w.2)→False:=fun N k hN h0 h1 e1 e2=>by
  rcases h.on hmb mwa hN (onW_mid h0 h1 e1 e2) with e|e
  ·exact hwb e.symm
  ·exact hab e.symm
 have hx:(a.1 - w.1)*(b.2 - w.2)=(a.2 - w.2)*(b.1 - w.1):=by
  clear ka kb h
  unfold crossI at hc
  grind
 have na:¬ (a.1 - w.1=0∧a.2 - w.2=0):=fun g=>hwa (Prod.ext (by omega) (by omega))
 have nb:¬ (b.1 - w.1=0∧b.2 - w.2=0):=fun g=>hwb (Prod.ext (by omega) (by omega))
 have fin:∀ i j:Int,i*(a.1 - w.1)+j*(b.1 - w.1)=0→i*(a.2 - w.2)+j*(b.2 - w.2)=0→(i+j)*w.1=i*a.1+j*b.1∧(i+j)*w.2=i*a.2+j*b.2:=fun i j e1 e2=>by
  constructor
  ·clear ka kb h e2;grind
  ·clear ka kb h e1;grind
 clear h hcl mwa mbw hma hmb hn hc
 generalize a.1 - w.1=u1 at *
 generalize a.2 - w.2=u2 at *
 generalize b.1 - w.1=t1 at *
 generalize b.2 - w.2=t2 at *
 have mc:∀ p q:Int,p*q=q*p:=Int.mul_comm
 by_cases hu:u1=0
 ·have hu2:u2≠0:=fun e=>na ⟨hu,e⟩
  rw [hu,Int.zero_mul] at hx
  have ht:t1=0:=(mul_zero_or hx.symm).resolve_left hu2
  have ht2:t2≠0:=fun e=>nb ⟨ht,e⟩
  subst hu ht
  rcases Int.lt_or_lt_of_ne hu2 with s1|s1 <;> rcases Int.lt_or_lt_of_ne ht2 with s2|s2
  ·exfalso
   rcases Int.le_total u2 t2 with g|g
   ·exact kb (-u2) (-t2) (by omega) (by omega) (by omega) (by omega) (by rw [Int.neg_mul,Int.neg_mul,mc])
   ·exact ka (-t2) (-u2) (by omega) (by omega) (by omega) (by omega) (by rw [Int.neg_mul,Int.neg_mul,mc])
  ·exact⟨t2,-u2,by omega,by omega,fin _ _ (by omega) (by rw [Int.neg_mul,mc];omega)⟩
  ·exact⟨-t2,u2,by omega,by omega,fin _ _ (by omega) (by rw [Int.neg_mul,mc];omega)⟩
  ·exfalso
   rcases Int.le_total u2 t2 with g|g
   ·exact ka t2 u2 (by omega) (by omega) (by omega) (by omega) (mc _ _)
   ·exact kb u2 t2 (by omega) (by omega) (by omega) (by omega) (mc _ _)
 ·have ht:t1≠0:=fun e=>by
   rw [e,Int.mul_zero] at hx
   exact nb ⟨e,(mul_zero_or hx).resolve_left hu⟩
  rcases Int.lt_or_lt_of_ne hu with s1|s1 <;> rcases Int.lt_or_lt_of_ne ht with s2|s2
  ·exfalso
   rcases Int.le_total u1 t1 with g|g
   ·exact kb (-u1) (-t1) (by omega) (by omega) (by omega) (by rw [Int.neg_mul,Int.neg_mul,mc]) (by rw [Int.neg_mul,Int.neg_mul,hx,mc])
   ·exact ka (-t1) (-u1) (by omega) (by omega) (by omega) (by rw [Int.neg_mul,Int.neg_mul,mc]) (by rw [Int.neg_mul,Int.neg_mul,hx,mc])
  ·exact⟨t1,-u1,by omega,by omega,fin _ _ (by rw [Int.neg_mul,mc];omega) (by rw [Int.neg_mul,hx,mc];omega)⟩
  ·exact⟨-t1,u1,by omega,by omega,fin _ _ (by rw [Int.neg_mul,mc];omega) (by rw [Int.neg_mul,hx,mc];omega)⟩
  ·exfalso
   rcases Int.le_total u1 t1 with g|g
   ·exact ka t1 u1 (by omega) (by omega) (by omega) (mc _ _) (by rw [mc,← hx])
   ·exact kb u1 t1 (by omega) (by omega) (by omega) (mc _ _) (by rw [hx,mc])
theorem Simp.flat {w a b:Pq}{K:List Pq}(h:Simp (w::a::(K++[b])))(hK:K≠[])(hc:crossI b w a=0):Simp (a::(K++[b])):=by
 obtain⟨i,j,hi,hj,ex,ey⟩:=h.between hc
 have hn:=h.nodup
 have hn2:(a::(K++[b])).Nodup:=(List.nodup_cons.1 hn).2
 have hwL:w∉a::(K++[b]):=(List.nodup_cons.1 hn).1
 have hsub:∀ e,e∈pe (a::(K++[b]))→e∈cl (w::a::(K++[b])):=fun e he=>by
  rw [cl_first]
  exact .tail _ (List.mem_append.2 (.inl he))
 have hcl:∀ e,e∈cl (a::(K++[b]))→e∈pe (a::(K++[b]))∨e=(b,a):=fun e he=>by
  have he:e∈pe (a::(K++[b])++[a]):=he
  have:=pe_app (a::K) b [a]
  simp only [List.cons_append,List.append_assoc,List.nil_append] at this he
  rw [this] at he
  rcases List.mem_append.1 he with he|he
  ·exact .inl he
  ·exact .inr (by simpa [pe] using he)
 have key:∀ e,e∈pe (a::(K++[b]))→okP e (b,a):=fun e hem=>by
  have hm:=pe_mem hem
  have e1w:e.1≠w:=fun q=>hwL (by rw [← q];exact hm.1)
  have e2w:e.2≠w:=fun q=>hwL (by rw [← q];exact hm.2)
  have hb:okP e (b,w):=h.ok e (hsub e hem) (b,w) (by rw [cl_first];exact .tail _ (List.mem_append.2 (.inr (.head _)))) (fun q=>e2w (by rw [q]))
  have ha:okP e (w,a):=h.ok e (hsub e hem) (w,a) (by rw [cl_first];exact .head _) (fun q=>e1w (by rw [q]))
  rintro N x y hN ⟨α,β,p1,p2,p3,p4,p5⟩ ⟨γ,δ,q1,q2,q3,q4,q5⟩
  simp only at q4 q5
  have zw:∀ {z:Pq},(z=e.1∨z=e.2)→z≠w:=fun hz=>hz.elim (fun g=>by rw [g];exact e1w) (fun g=>by rw [g];exact e2w)
  have sc:∀ k:Int,0<k→onW (k*N) (k*x) (k*y) e.1 e.2:=fun k hk=>⟨k*α,k*β,Int.mul_nonneg (by omega) p1,Int.mul_nonneg (by omega) p2,by rw [← Int.mul_add,p3],by rw [p4];clear hb ha h;grind,by rw [p5];clear hb ha h;grind⟩
  by_cases hle:δ*(i+j)≤i*N
  ·obtain⟨z,z1,z2,z3,z4⟩:=hb (i*N) (i*x) (i*y) (Int.mul_pos hi hN) (sc i hi) ⟨i*N - δ*(i+j),δ*(i+j),by omega,Int.mul_nonneg q2 (by omega),by omega,by rw [q4,← q3];show _=_*b.1+_*w.1;clear hb ha h sc;grind,by rw [q5,← q3];show _=_*b.2+_*w.2;clear hb ha h sc;grind⟩
   rw [Int.mul_assoc] at z3 z4
   exact⟨z,z1,.inl (z2.resolve_right (zw z1)),Int.eq_of_mul_eq_mul_left (by omega) z3,Int.eq_of_mul_eq_mul_left (by omega) z4⟩
  ·have hle2:γ*(i+j)≤j*N:=by
    have:γ*(i+j)+δ*(i+j)=i*N+j*N:=by rw [← q3];clear hb ha h sc;grind
    omega
   obtain⟨z,z1,z2,z3,z4⟩:=ha (j*N) (j*x) (j*y) (Int.mul_pos hj hN) (sc j hj) ⟨γ*(i+j),j*N - γ*(i+j),Int.mul_nonneg q1 (by omega),by omega,by omega,by rw [q4,← q3];show _=_*w.1+_*a.1;clear hb ha h sc;grind,by rw [q5,← q3];show _=_*w.2+_*a.2;clear hb ha h sc;grind⟩
   rw [Int.mul_assoc] at z3 z4
   exact⟨z,z1,.inr (z2.resolve_left (zw z1)),Int.eq_of_mul_eq_mul_left (by omega) z3,Int.eq_of_mul_eq_mul_left (by omega) z4⟩
 refine⟨hn2,?_,fun e he' f hf hne=>?_⟩
 ·cases K with
  |nil=>exact absurd rfl hK
  |cons k K'=>simp
 ·rcases hcl e he' with h1|h1
  ·rcases hcl f hf with h2|h2
   ·exact h.ok e (hsub e h1) f (hsub f h2) hne
   ·rw [h2];exact key e h1
  ·rcases hcl f hf with h2|h2
   ·rw [h1];exact okP_symm (key f h2)
   ·exact absurd (h1.trans h2.symm) hne
def hd (L:List Pq)(z:Pq):Pq:=match L with
 |[]=>z
 |x::_=>x
def lst (p:Pq):List Pq→Pq
 |[]=>p
 |x::r=>lst x r
def kq (p:Pq):List Pq→Pq→List Pq
 |[],_=>[]
 |x::r,z=>(if crossI p x (hd r z)=0 then [] else [x])++kq x r z
def ker (L:List Pq):List Pq:=match L with
 |[]=>[]
 |x::r=>kq (lst x r) (x::r) x
theorem lst_app:∀ (p:Pq) (A B:List Pq),lst p (A++B)=lst (lst p A) B
 |p,[],B=>rfl
 |p,x::A,B=>lst_app x A B
theorem hd_app (A B:List Pq)(z:Pq):hd (A++B) z=hd A (hd B z):=by
 cases A <;> rfl
theorem kq_app:∀ (p:Pq) (A B:List Pq) (z:Pq),kq p (A++B) z=kq p A (hd B z)++kq (lst p A) B z
 |p,[],B,z=>rfl
 |p,x::A,B,z=>by
  have:=kq_app x A B z
  simp only [List.cons_append,kq,lst]
  rw [this,hd_app,List.append_assoc]
theorem kq_sub:∀ (p:Pq) (L:List Pq) (z:Pq),(kq p L z).Sublist L
 |p,[],z=>List.Sublist.refl _
 |p,x::r,z=>by
  unfold kq
  have:=kq_sub x r z
  split
  ·exact this.cons _
  ·exact this.cons_cons _
theorem ker_sub (L:List Pq):(ker L).Sublist L:=by
 cases L with
 |nil=>exact List.Sublist.refl _
 |cons x r=>exact kq_sub _ _ _
theorem ker_rot (A B:List Pq):∃ U V,ker (A++B)=U++V∧ker (B++A)=V++U:=by
 cases A with
 |nil=>exact⟨[],ker B,by simp,by simp⟩
 |cons x A =>
  cases B with
  |nil=>exact⟨ker (x::A),[],by simp,by simp⟩
  |cons y B =>
   refine⟨kq (lst y B) (x::A) y,kq (lst x A) (y::B) x,?_,?_⟩
   ·show kq (lst x (A++y::B)) (x::A++y::B) x=_
    rw [kq_app,lst_app]
    rfl
   ·show kq (lst y (B++x::A)) (y::B++x::A) y=_
    rw [kq_app,lst_app]
    rfl
theorem ker_flat {w a b:Pq}{K:List Pq}(h:Simp (w::a::(K++[b])))(hK:K≠[])(hc:crossI b w a=0):ker (w::a::(K++[b]))=ker (a::(K++[b])):=by
 obtain⟨i,j,hi,hj,ex,ey⟩:=h.between hc
 obtain⟨k,K',rfl⟩:=first_split hK
 have l1:lst w (a::((k::K')++[b]))=b:=by
  show lst a ((k::K')++[b])=b
  rw [lst_app]
  rfl
 have l2:lst a ((k::K')++[b])=b:=by rw [lst_app];rfl
 show kq (lst w (a::((k::K')++[b]))) (w::a::((k::K')++[b])) w=kq (lst a ((k::K')++[b])) (a::((k::K')++[b])) a
 rw [l1,l2]
 have e1:crossI w a k=0↔crossI b a k=0:=by
  have e:(i+j)*crossI w a k=j*crossI b a k:=by
   clear h
   unfold crossI;grind
  constructor
  ·intro g
   rw [g,Int.mul_zero] at e
   exact (mul_zero_or e.symm).resolve_left (by omega)
  ·intro g
   rw [g,Int.mul_zero] at e
   exact (mul_zero_or e).resolve_left (by omega)
 have e2:crossI (lst a (k::K')) b w=0↔crossI (lst a (k::K')) b a=0:=by
  generalize lst a (k::K')=l
  have e:(i+j)*crossI l b w=i*crossI l b a:=by
   clear h
   unfold crossI;grind
  constructor
  ·intro g
   rw [g,Int.mul_zero] at e
   exact (mul_zero_or e.symm).resolve_left (by omega)
  ·intro g
   rw [g,Int.mul_zero] at e
   exact (mul_zero_or e).resolve_left (by omega)
 have k1:∀ p z,kq p (a::((k::K')++[b])) z=(if crossI p a k=0 then [] else [a])++(kq a (k::K') b++(if crossI (lst a (k::K')) b z=0 then [] else [b])):=fun p z=>by
  rw [kq,kq_app]
  congr 2
  show kq (lst a (k::K')) [b] z=_
  rw [kq,kq,List.append_nil]
  rfl
 rw [kq,if_pos (show crossI b w (hd (a::((k::K')++[b])) w)=0 from hc),List.nil_append,k1,k1]
 congr 1
 ·simp only [e1]
 ·congr 1
  simp only [e2]
theorem kq_miss:∀ (p:Pq) (L:List Pq) (z:Pq),(kq p L z).length≠L.length→∃ A w B,L=A++w::B∧crossI (lst p A) w (hd B z)=0
 |p,[],z,h=>absurd rfl h
 |p,x::r,z,h=>by
  by_cases hc:crossI p x (hd r z)=0
  ·exact⟨[],x,r,rfl,hc⟩
  ·rw [kq,if_neg hc] at h
   obtain⟨A,w,B,e,g⟩:=kq_miss x r z (by simp at h;exact h)
   exact⟨x::A,w,B,by rw [e];rfl,g⟩
theorem ker_simp:∀ (n:Nat) (P:List Pq),P.length=n→Simp P→Simp (ker P)∧ar (ker P)=ar P∧(ker (ker P)).length=(ker P).length:=fun n=>by
 induction n with
 |zero=>intro P hl hP;have:=hP.len;omega
 |succ n ih =>
  intro P hl hP
  by_cases hk:(ker P).length=P.length
  ·have e:ker P=P:=(ker_sub P).eq_of_length hk
   rw [e,e]
   exact⟨hP,rfl,rfl⟩
  ·have h3:=hP.len
   have:∃ A w B,P=A++w::B∧∃ a K b,B++A=a::(K++[b])∧crossI b w a=0:=by
    cases P with
    |nil=>simp at h3
    |cons x r =>
     obtain⟨A,w,B,e,g⟩:=kq_miss (lst x r) (x::r) x hk
     refine⟨A,w,B,e,?_⟩
     have hlen:=congrArg List.length e
     simp at hlen h3
     obtain⟨a,K,b,e2⟩:=two_split (L:=B++A) (by simp;omega)
     refine⟨a,K,b,e2,?_⟩
     have hb:∀ p,lst p (B++A)=b:=fun p=>by
      rw [e2]
      show lst a (K++[b])=b
      rw [lst_app]
      rfl
     have ha:∀ z,hd (B++A) z=a:=fun z=>by rw [e2];rfl
     have g1:lst (lst x r) A=b:=by
      cases A with
      |nil =>
       simp only [List.nil_append,List.cons.injEq] at e
       rw [← hb x,List.append_nil,← e.2]
       rfl
      |cons c A =>
       rw [← hb x,lst_app]
       rfl
     have g2:hd B x=a:=by
      cases B with
      |nil =>
       cases A with
       |nil=>simp only [List.length_nil] at hlen;omega
       |cons c A =>
        rw [← ha x]
        simp only [List.cons_append,List.cons.injEq] at e
        exact e.1
      |cons c B=>rw [← ha x];rfl
     rw [g1,g2] at g
     exact g
   obtain⟨A,w,B,rfl,a,K,b,e,hc⟩:=this
   have e2:w::B++A=w::a::(K++[b]):=by rw [List.cons_append,e]
   have hP':=hP.rot
   rw [e2] at hP'
   have hK:K≠[]:=fun hK=>by
    subst hK
    refine hP'.area ?_
    show ar [w,a,b]=0
    rw [ar_three]
    exact hc
   have hQ:=hP'.flat hK hc
   obtain⟨q1,q2,q3⟩:=ih (a::(K++[b])) (by
    have:=congrArg List.length e
    simp at this hl ⊢
    omega) hQ
   rw [← ker_flat hP' hK hc,← e2] at q1 q2 q3
   obtain⟨U,V,r1,r2⟩:=ker_rot A (w::B)
   rw [r2] at q1 q2 q3
   rw [r1]
   refine⟨q1.rot,?_,?_⟩
   ·rw [ar_rot,q2,ar_rot,e2,ar_ear,hc]
    omega
   ·obtain⟨U',V',s1,s2⟩:=ker_rot U V
    rw [s2] at q3
    rw [s1]
    simp only [List.length_append] at q3 ⊢
    omega
end Go.Aw
end

noncomputable section
namespace Go.Aw
theorem at2_cons (a:Pq)(L:List Pq)(i:Nat):at2 (a::L) (i+1)=at2 L i:=rfl
theorem pe_ix:∀ (L:List Pq) (e:Pq × Pq),e∈pe L↔∃ i,i+1<L.length∧e=(at2 L i,at2 L (i+1))
 |[],e=>⟨fun h=>(by cases h),fun ⟨i,h,_⟩=>(by simp at h)⟩
 |[a],e=>⟨fun h=>(by cases h),fun ⟨i,h,_⟩=>(by simp at h)⟩
 |a::b::r,e=>by
  rw [pe,List.mem_cons,pe_ix (b::r) e]
  constructor
  ·rintro (rfl|⟨i,h,rfl⟩)
   ·exact⟨0,by simp,rfl⟩
   ·exact⟨i+1,by simpa using h,rfl⟩
  ·rintro ⟨i,h,rfl⟩
   cases i with
   |zero=>exact .inl rfl
   |succ i=>exact .inr ⟨i,by simpa using h,rfl⟩
theorem cl_ix {l:List Pq}(e:Pq × Pq):e∈cl l↔∃ i,i<l.length∧e=edgeS l i:=by
 cases l with
 |nil=>exact⟨fun h=>(by cases h),fun ⟨i,h,_⟩=>(by simp at h)⟩
 |cons p r =>
  show e∈pe ((p::r)++[p])↔_
  rw [pe_ix]
  have hlen:(p::r++[p]).length=(p::r).length+1:=by simp
  have key:∀ i,i<(p::r).length→(at2 (p::r++[p]) i,at2 (p::r++[p]) (i+1))=edgeS (p::r) i:=fun i hi=>by
   unfold edgeS
   rw [at2_app hi]
   by_cases h:i+1<(p::r).length
   ·rw [at2_app h,Nat.mod_eq_of_lt h]
   ·have e1:i+1=(p::r).length:=by omega
    rw [e1,Nat.mod_self,at2_end]
    rfl
  constructor
  ·rintro ⟨i,h,rfl⟩
   exact⟨i,by omega,key i (by omega)⟩
  ·rintro ⟨i,h,rfl⟩
   exact⟨i,by omega,(key i h).symm⟩
theorem simp_of {l:List Pq}(h:goodP l)(hs:simpleP l):Simp l:=by
 refine⟨h.2.2.2,h.1,fun e he f hf hne=>?_⟩
 obtain⟨i,hi,rfl⟩:=(cl_ix _).1 he
 obtain⟨k,hk,rfl⟩:=(cl_ix _).1 hf
 have go:∀ i k,i<k→k<l.length→okP (edgeS l i) (edgeS l k):=fun i k hik hk=>by
  refine meet_ok (edge_right h (by omega)) (edge_right h hk) ?_
  have:=hs i k hik hk
  unfold okE wantS at this
  rw [this]
  split
  ·exact .inr rfl
  ·exact .inl rfl
 rcases Nat.lt_trichotomy i k with g|g|g
 ·exact go i k g hk
 ·exact absurd (by rw [g]) hne
 ·exact okP_symm (go k i g hi)
theorem pe_rev:∀ (L:List Pq) (e:Pq × Pq),e∈pe L.reverse→(e.2,e.1)∈pe L
 |[],e,h=>by cases h
 |[a],e,h=>by cases h
 |a::b::r,e,h=>by
  rw [List.reverse_cons,List.reverse_cons,List.append_assoc,List.singleton_append,pe_app] at h
  rw [pe]
  rcases List.mem_append.1 h with h|h
  ·exact .tail _ (pe_rev (b::r) e (by rw [List.reverse_cons];exact h))
  ·simp only [pe,List.mem_singleton] at h
   rw [h]
   exact .head _
theorem Simp.rev {P:List Pq}(h:Simp P):Simp P.reverse:=by
 refine⟨nodup_rev h.nodup,by rw [List.length_reverse];exact h.len,?_⟩
 have hm:∀ e∈cl P.reverse,(e.2,e.1)∈cl P:=fun e he=>by
  cases P with
  |nil=>exact absurd h.len (by simp)
  |cons p r =>
   rw [List.reverse_cons] at he
   have he:=cl_rot he
   have he:e∈pe (p::r.reverse++[p]):=he
   refine pe_rev (p::r++[p]) e ?_
   simpa using he
 intro e he f hf hne
 have:=h.ok _ (hm e he) _ (hm f hf) (fun g=>hne (Prod.ext (congrArg Prod.snd g) (congrArg Prod.fst g)))
 have:=okP_rev (e:=(e.2,e.1)) this
 exact okP_symm (okP_rev (e:=(f.2,f.1)) (okP_symm this))
theorem sum_pa:∀ (R:List Pq),sumE (pe R)=paI R (R.length - 1)
 |[]=>rfl
 |[a]=>rfl
 |a::b::r=>by
  have ih:=sum_pa (b::r)
  have hs:∀ m,paI (a::b::r) (m+1)=cr a b+paI (b::r) m:=fun m=>by
   induction m with
   |zero=>simp [paI,at2]
   |succ m ih=>rw [paI,ih,paI,at2_cons,at2_cons];omega
  rw [pe,sumE,ih]
  show _=paI (a::b::r) (r.length+1)
  rw [hs]
  rfl
theorem area_ar {l:List Pq}(h:0<l.length):areaI l l.length=ar l:=by
 cases l with
 |nil=>simp at h
 |cons p r =>
  rw [areaI_close h]
  show _=sumE (pe (p::r++[p]))
  rw [sum_pa]
  have e1:(p::r++[p]).length - 1=((p::r).length - 1)+1:=by simp
  rw [e1,paI,paI_app (by simp),at2_app (by simp),show (p::r).length - 1+1=(p::r).length by simp,at2_end]
  rfl
theorem sum_rev:∀ (L:List Pq),sumE (pe L.reverse) = -sumE (pe L)
 |[]=>rfl
 |[a]=>rfl
 |a::b::r=>by
  rw [List.reverse_cons,List.reverse_cons,List.append_assoc,List.singleton_append,pe_app,sumE_app,pe,sumE]
  have:=sum_rev (b::r)
  rw [List.reverse_cons] at this
  rw [this]
  simp only [pe,sumE]
  rw [dt_swap b a]
  omega
theorem ar_rev (P:List Pq):ar P.reverse = -ar P:=by
 cases P with
 |nil=>rfl
 |cons p r =>
  rw [List.reverse_cons,ar_rot]
  have:=sum_rev (p::r++[p])
  show sumE (pe (p::r.reverse++[p])) = -sumE (pe (p::r++[p]))
  rw [← this]
  congr 2
  simp
end Go.Aw
end

noncomputable section
namespace Go.Aw
def cyl (o:List Pq)(f k:Nat):List Pq:=(List.range k).map fun i=>cyc o (f+i)
theorem cyl_succ (o:List Pq)(f k:Nat):cyl o f (k+1)=cyl o f k++[cyc o (f+k)]:=by
 unfold cyl
 rw [List.range_succ,List.map_append]
 rfl
theorem lst_last (p:Pq)(A:List Pq)(x:Pq):lst p (A++[x])=x:=by rw [lst_app];rfl
theorem seg_kq {o:List Pq}(h:0<o.length)(f:Nat):∀ k,segI o f k=kq (cyc o (f+o.length - 1)) (cyl o f k) (cyc o (f+k))
 |0=>rfl
 |k+1=>by
  rw [segI_succ,seg_kq h f k,cyl_succ,kq_app]
  congr 1
  rw [keptO_cyc,kq,kq,List.append_nil]
  have e:lst (cyc o (f+o.length - 1)) (cyl o f k)=cyc o (f+k+o.length - 1):=by
   cases k with
   |zero=>rfl
   |succ k =>
    rw [cyl_succ,lst_last,show f+(k+1)+o.length - 1=f+k+o.length by omega,cyc_add]
  rw [e]
  show _=if crossI (cyc o (f+k+o.length - 1)) (cyc o (f+k)) (cyc o (f+(k+1)))=0 then [] else [cyc o (f+k)]
  rw [show f+(k+1)=f+k+1 by omega]
  simp only [Bool.not_eq_true',decide_eq_false_iff_not,turn_zero]
  by_cases g:crossI (cyc o (f+k+o.length - 1)) (cyc o (f+k)) (cyc o (f+k+1))=0
  ·rw [if_pos g,if_neg (fun h=>h g)]
  ·rw [if_neg g,if_pos g]
theorem cyl_turn {o:List Pq}{f:Nat}(hf:f<o.length):cyl o f o.length=turnI o f:=by
 have hl:=turnI_len o f (by omega)
 refine List.ext_getElem (by unfold cyl;simp [hl]) fun i h1 h2=>?_
 rw [← at2_eq h2,turnI_at hf (by omega)]
 simp only [cyl,List.getElem_map,List.getElem_range]
theorem seg_ker {o:List Pq}{f:Nat}(hf:f<o.length):segI o f o.length=ker (turnI o f):=by
 rw [seg_kq (by omega),cyl_turn hf]
 have hl:=turnI_len o f (by omega)
 cases hT:turnI o f with
 |nil=>rw [hT] at hl;simp at hl;omega
 |cons x r =>
  show kq _ (x::r) _=kq (lst x r) (x::r) x
  have e1:cyc o (f+o.length)=x:=by
   rw [cyc_add,← Nat.add_zero f,← turnI_at hf (by omega),hT]
   rfl
  have e2:cyc o (f+o.length - 1)=lst x r:=by
   have:lst x r=lst x (turnI o f):=by rw [hT];rfl
   rw [this,← cyl_turn hf]
   obtain⟨m,hm⟩:∃ m,o.length=m+1:=⟨o.length - 1,by omega⟩
   rw [hm,cyl_succ,lst_last]
   rfl
  rw [e1,e2]
theorem Simp.turn {o:List Pq}(h:Simp o)(f:Nat):Simp (turnI o f):=by
 unfold turnI
 refine Simp.rot ?_
 rw [List.take_append_drop]
 exact h
theorem ar_turn (o:List Pq)(f:Nat):ar (turnI o f)=ar o:=by
 unfold turnI
 rw [ar_rot,List.take_append_drop]
theorem dirI_simp {l:List Pq}(h:Simp l):Simp (dirI l):=by
 unfold dirI
 split
 ·exact h.rev
 ·exact h
theorem dirI_area {l:List Pq}(h:Simp l):0<ar (dirI l):=by
 have h3:=h.len
 have ha:=h.area
 unfold dirI
 rw [area_ar (by omega)]
 split
 ·rw [ar_rev];omega
 ·omega
theorem norR_ker {l:List Pq}(h:0<l.length):norR l=ker (turnI (dirI l) (leastI (dirI l) l.length)):=by
 unfold norR
 have hl:=dirI_len l
 have:=leastI_lt (dirI l) l.length
 have hs:=seg_ker (o:=dirI l) (f:=leastI (dirI l) l.length) (by omega)
 rw [hl] at hs
 exact hs
theorem norR_simp {l:List Pq}(h:Simp l):Simp (norR l)∧ar (norR l)=ar (dirI l)∧(ker (norR l)).length=(norR l).length:=by
 have h3:=h.len
 rw [norR_ker (by omega)]
 obtain⟨a,b,c⟩:=ker_simp _ _ rfl ((dirI_simp h).turn (leastI (dirI l) l.length))
 exact⟨a,by rw [b,ar_turn],c⟩
theorem polyE_yes {l:List Pq}(hg:goodP l)(hs:simpleP l):polyE l=0:=by rw [polyE_good hg,if_pos (simpleB_iff.2 hs)]
end Go.Aw
end

noncomputable section
namespace Go.Aw
def sumF (f:Pq × Pq→Int):List (Pq × Pq)→Int
 |[]=>0
 |e::r=>f e+sumF f r
def anti (f:Pq × Pq→Int):Prop:=∀ a b,f (b,a) = -f (a,b)
def fs (f:Pq × Pq→Int)(P:List Pq):Int:=sumF f (cl P)
theorem sumF_app (f:Pq × Pq→Int):∀ (A B:List (Pq × Pq)),sumF f (A++B)=sumF f A+sumF f B
 |[],B=>by simp [sumF]
 |e::A,B=>by
  have:=sumF_app f A B
  simp only [List.cons_append,sumF]
  omega
theorem fs_rot (f:Pq × Pq→Int)(A B:List Pq):fs f (A++B)=fs f (B++A):=by
 cases A with
 |nil=>simp
 |cons x A =>
  cases B with
  |nil=>simp
  |cons y B =>
   unfold fs
   rw [cl_two,cl_two,sumF_app,sumF_app]
   omega
theorem fs_cl (f:Pq × Pq→Int)(w a:Pq)(K:List Pq)(b:Pq):fs f (w::a::(K++[b]))=f (w,a)+sumF f (pe (a::(K++[b])))+f (b,w):=by
 unfold fs
 rw [cl_first,sumF,sumF_app]
 simp only [sumF]
 omega
theorem fs_pe (f:Pq × Pq→Int)(a:Pq)(K:List Pq)(b:Pq):fs f (a::(K++[b]))=sumF f (pe (a::(K++[b])))+f (b,a):=by
 unfold fs
 have:=pe_app (a::K) b [a]
 simp only [List.cons_append,List.append_assoc,List.nil_append] at this
 rw [cl_cons]
 simp only [List.cons_append,List.append_assoc,List.nil_append]
 rw [this,sumF_app]
 simp only [pe,sumF]
 omega
theorem fs_ear {f:Pq × Pq→Int}(hf:anti f)(w a:Pq)(K:List Pq)(b:Pq):fs f (w::a::(K++[b]))=fs f (a::(K++[b]))+(f (b,w)+f (w,a)+f (a,b)):=by
 rw [fs_cl,fs_pe,hf b a]
 omega
theorem fs_dia {f:Pq × Pq→Int}(hf:anti f)(w a:Pq)(N1:List Pq)(x:Pq)(N2:List Pq)(b:Pq):fs f (w::a::(N1++x::(N2++[b])))=fs f (w::a::(N1++[x]))+fs f (w::x::(N2++[b])):=by
 have h1:=fs_cl f w a (N1++x::N2) b
 simp only [List.cons_append,List.append_assoc,List.nil_append] at h1
 have h2:=pe_app (a::N1) x (N2++[b])
 simp only [List.cons_append,List.append_assoc,List.nil_append] at h2
 rw [h1,fs_cl,fs_cl,h2,sumF_app,hf w x]
 omega
theorem fs_three (f:Pq × Pq→Int)(v a b:Pq):fs f [v,a,b]=f (b,v)+f (v,a)+f (a,b):=by
 unfold fs cl
 simp only [List.cons_append,List.nil_append,pe,sumF]
 omega
theorem ar_fs (P:List Pq):ar P=fs (fun e=>dt e.1 e.2) P:=by
 unfold ar fs
 generalize cl P=L
 induction L with
 |nil=>rfl
 |cons e r ih=>rw [sumE,sumF,ih]
def rI (A B α:Int):Int:=if A≤0∧0<B then (if 0<α then 1 else 0) else if 0<A∧B≤0 then (if α<0 then -1 else 0) else 0
theorem rI_anti (A B α:Int):rI B A (-α) = -rI A B α:=by
 unfold rI
 split <;> split <;> (try split) <;> (try split) <;> omega
def vec (N:Int)(p a:Pq):Pq:=(N*a.1 - p.1,N*a.2 - p.2)
def wn (u:Pq)(N:Int)(p:Pq)(e:Pq × Pq):Int:=rI (dt u (vec N p e.1)) (dt u (vec N p e.2)) (dt (vec N p e.1) (vec N p e.2))
theorem wn_anti (u:Pq)(N:Int)(p:Pq):anti (wn u N p):=fun a b=>by
 unfold wn
 rw [dt_swap (vec N p b) (vec N p a)]
 exact rI_anti _ _ _
theorem tri_id (u a b c:Pq):dt u a*dt b c+dt u b*dt c a+dt u c*dt a b=0:=by
 unfold dt
 grind
theorem tri_sum (N:Int)(p a b c:Pq):dt (vec N p a) (vec N p b)+dt (vec N p b) (vec N p c)+dt (vec N p c) (vec N p a)=N*N*crossI a b c:=by
 unfold dt vec crossI
 grind
theorem neg_of {A β:Int}(hA:A≤0)(h:0<A*β):β<0:=Int.not_le.1 fun hb=>by
 have:=Int.mul_nonpos_of_nonpos_of_nonneg hA hb
 omega
theorem tri_k1 {A B C α β γ:Int}(hA:A≤0)(hB:0<B)(hC:0<C)(h:A*β+B*γ+C*α=0)(hs:0<α+β+γ):¬ (α≤0∧γ<0):=by
 rintro ⟨h1,h2⟩
 have m1:=Int.mul_neg_of_pos_of_neg hB h2
 have m2:=Int.mul_nonpos_of_nonneg_of_nonpos (Int.le_of_lt hC) h1
 have:=neg_of hA (show 0<A*β by omega)
 omega
theorem tri_k2 {A B C α β γ:Int}(hA:0<A)(hB:B≤0)(hC:C≤0)(h:A*β+B*γ+C*α=0)(hs:0<α+β+γ):¬ (α<0∧γ≤0):=by
 rintro ⟨h1,h2⟩
 have m1:=Int.mul_nonneg_of_nonpos_of_nonpos hB h2
 have m2:=Int.mul_nonneg_of_nonpos_of_nonpos hC (Int.le_of_lt h1)
 have:β≤0:=Int.not_lt.1 fun hb=>by
  have:=Int.mul_pos hA hb
  omega
 omega
def tI (A B C α β γ:Int):Int:=rI A B α+rI B C β+rI C A γ
theorem tri_01 {A B C α β γ:Int}(h:A*β+B*γ+C*α=0)(hs:0<α+β+γ):0≤tI A B C α β γ∧tI A B C α β γ≤1:=by
 have h2:B*γ+C*α+A*β=0:=by omega
 have h3:C*α+A*β+B*γ=0:=by omega
 have s2:0<β+γ+α:=by omega
 have s3:0<γ+α+β:=by omega
 unfold tI
 by_cases a:0<A <;> by_cases b:0<B <;> by_cases c:0<C
 ·simp [rI,a,b,c]
  omega
 ·have:=tri_k1 (show C≤0 by omega) a b h3 s3
  unfold rI;simp only [a,b,c,and_true,and_false,true_and,false_and,if_true,if_false,Int.not_le.2 a,Int.not_le.2 b,Int.not_lt.1 c]
  split <;> split <;> omega
 ·have:=tri_k1 (show B≤0 by omega) c a h2 s2
  unfold rI;simp only [a,b,c,and_true,and_false,true_and,false_and,if_true,if_false,Int.not_le.2 a,Int.not_le.2 c,Int.not_lt.1 b]
  split <;> split <;> omega
 ·have:=tri_k2 a (show B≤0 by omega) (show C≤0 by omega) h hs
  unfold rI;simp only [a,b,c,and_true,and_false,true_and,false_and,if_true,if_false,Int.not_le.2 a,Int.not_lt.1 c,Int.not_lt.1 b]
  split <;> split <;> omega
 ·have:=tri_k1 (show A≤0 by omega) b c h hs
  unfold rI;simp only [a,b,c,and_true,and_false,true_and,false_and,if_true,if_false,Int.not_le.2 b,Int.not_le.2 c,Int.not_lt.1 a]
  split <;> split <;> omega
 ·have:=tri_k2 b (show C≤0 by omega) (show A≤0 by omega) h2 s2
  unfold rI;simp only [a,b,c,and_true,and_false,true_and,false_and,if_true,if_false,Int.not_le.2 b,Int.not_lt.1 c,Int.not_lt.1 a]
  split <;> split <;> omega
 ·have:=tri_k2 c (show A≤0 by omega) (show B≤0 by omega) h3 s3
  unfold rI;simp only [a,b,c,and_true,and_false,true_and,false_and,if_true,if_false,Int.not_le.2 c,Int.not_lt.1 b,Int.not_lt.1 a]
  split <;> split <;> omega
 ·unfold rI;simp only [a,b,c,and_true,and_false,true_and,false_and,if_true,if_false]
  omega
theorem tri_off {A B C α β γ:Int}(h:A*β+B*γ+C*α=0)(hs:0<α+β+γ)(ha:α<0):tI A B C α β γ=0:=by
 have h01:=tri_01 h hs
 have k1:¬ (0<A∧0<B∧C≤0∧0≤β∧0<γ):=fun ⟨a,b,c,hb,hc⟩=>by
  have m1:=Int.mul_nonneg (Int.le_of_lt a) hb
  have m2:=Int.mul_pos b hc
  have m3:=Int.mul_nonneg_of_nonpos_of_nonpos c (Int.le_of_lt ha)
  omega
 have k2:¬ (A≤0∧B≤0∧0<C∧0<β∧0≤γ):=fun ⟨a,b,c,hb,hc⟩=>by
  have m1:=Int.mul_nonpos_of_nonpos_of_nonneg a (Int.le_of_lt hb)
  have m2:=Int.mul_nonpos_of_nonpos_of_nonneg b hc
  have m3:=Int.mul_neg_of_pos_of_neg c ha
  omega
 refine Int.le_antisymm (Int.not_lt.1 fun hp=>?_) h01.1
 clear h hs h01
 unfold tI rI at hp
 by_cases a:0<A <;> by_cases b:0<B <;> by_cases c:0<C <;> by_cases hb:0<β <;> by_cases hb2:β<0 <;> by_cases hc:0<γ <;> by_cases hc2:γ<0 <;>
  simp only [a,b,c,ha,hb,hb2,hc,hc2,Int.not_lt.2 (Int.le_of_lt ha),← Int.not_lt,not_true_eq_false,not_false_eq_true,and_true,and_false,true_and,false_and,and_self,if_true,if_false] at hp k1 k2 <;> omega
theorem tri_in {A B C α β γ:Int}(h:A*β+B*γ+C*α=0)(ha:0<α)(hb:0<β)(hc:0<γ)(h0:¬ (A=0∧B=0∧C=0)):tI A B C α β γ=1:=by
 have n1:¬ (0<A∧0<B∧0<C):=fun ⟨x,y,z⟩=>by
  have:=Int.mul_pos x hb
  have:=Int.mul_pos y hc
  have:=Int.mul_pos z ha
  omega
 have n2:¬ (A≤0∧B≤0∧C≤0):=fun ⟨x,y,z⟩=>by
  have m1:=Int.mul_nonpos_of_nonpos_of_nonneg x (Int.le_of_lt hb)
  have m2:=Int.mul_nonpos_of_nonpos_of_nonneg y (Int.le_of_lt hc)
  have m3:=Int.mul_nonpos_of_nonpos_of_nonneg z (Int.le_of_lt ha)
  exact h0 ⟨(mul_zero_or (show A*β=0 by omega)).resolve_right (by omega),(mul_zero_or (show B*γ=0 by omega)).resolve_right (by omega),(mul_zero_or (show C*α=0 by omega)).resolve_right (by omega)⟩
 unfold tI rI
 rw [if_pos ha,if_pos hb,if_pos hc,if_neg (show ¬ α<0 by omega),if_neg (show ¬ β<0 by omega),if_neg (show ¬ γ<0 by omega)]
 split <;> split <;> split <;> (try split) <;> (try split) <;> (try split) <;> omega
theorem tri_mid {α β γ:Int}(ha:0≤α)(hb:0≤β)(hc:0≤γ)(hne:¬ (α=β∧β=γ)):tI (γ - α) (α - β) (β - γ) α β γ=1:=by
 unfold tI rI
 split <;> split <;> split <;> (try split) <;> (try split) <;> (try split) <;> omega
theorem wn_tri (u:Pq)(N:Int)(p a b c:Pq):fs (wn u N p) [a,b,c]=tI (dt u (vec N p a)) (dt u (vec N p b)) (dt u (vec N p c)) (dt (vec N p a) (vec N p b)) (dt (vec N p b) (vec N p c)) (dt (vec N p c) (vec N p a)):=by
 rw [fs_three]
 simp only [wn,tI]
 omega
theorem wn_tri01 (u:Pq){N:Int}(hN:0<N)(p:Pq){a b c:Pq}(h:0<crossI a b c):0≤fs (wn u N p) [a,b,c]∧fs (wn u N p) [a,b,c]≤1:=by
 rw [wn_tri]
 refine tri_01 (tri_id _ _ _ _) ?_
 rw [tri_sum]
 exact Int.mul_pos (Int.mul_pos hN hN) h
theorem wn_nonneg (u:Pq){N:Int}(hN:0<N)(p:Pq):∀ (n:Nat) (P:List Pq),P.length=n→Simp P→0<ar P→0≤fs (wn u N p) P:=fun n=>by
 induction n using Nat.strongRecOn with
 |_ n ih =>
  intro P hl hP ha
  obtain⟨A,w,B,a,K,b,e1,e2,hs,hm,e3⟩:=hP.least
  have hlen:P.length=(w::a::(K++[b])).length:=by rw [e1,← e2];simp;omega
  have hcr:0<(1:Int)*crossI b w a:=by
   obtain⟨τ,hτ,ht⟩:=sg_of (turns_min hs (hm a (by simp)) (hm b (by simp)))
   have:=(TE _).1 w a K b τ hτ rfl hs hm ht
   rw [← e3] at this
   rcases hτ with rfl|rfl
   ·exact ht
   ·omega
  rw [show P=A++w::B from e1,fs_rot,e2]
  rw [e3] at ha
  simp only [List.length_cons,List.length_append,List.length_nil] at hlen
  by_cases hi:∃ q∈K,inT (triOf a b w 1 hcr) q
  ·obtain⟨x,hx,hxi,hmax⟩:=argmax (fun q=>at3 (triOf a b w 1 hcr).V q) _ K hi
   obtain⟨N1,N2,rfl⟩:=List.append_of_mem hx
   have e0:w::a::((N1++x::N2)++[b])=w::a::(N1++x::(N2++[b])):=by simp
   have hP':Simp (w::a::(N1++x::(N2++[b]))):=e0▸hs
   obtain⟨d1,d2⟩:=hP'.dia (triOf a b w 1 hcr) hxi hmax
   obtain⟨iA,iB⟩:=hP'.inside (triOf a b w 1 hcr) hxi
   rw [triOf_A] at iA
   rw [triOf_B] at iB
   simp only [List.length_append,List.length_cons] at hlen
   have t1:=(TE _).1 w a N1 x 1 (.inl rfl) rfl d1 (fun q hq=>hm q (by
    simp only [List.mem_cons,List.mem_append,List.not_mem_nil,or_false] at hq ⊢
    rcases hq with hq|hq|hq
    ·exact .inl hq
    ·exact .inr (.inl (.inl hq))
    ·exact .inr (.inl (.inr (.inl hq))))) iB
   have t2:=(TE _).1 w x N2 b 1 (.inl rfl) rfl d2 (fun q hq=>hm q (by
    simp only [List.mem_cons,List.mem_append,List.not_mem_nil,or_false] at hq ⊢
    rcases hq with hq|hq|hq
    ·exact .inr (.inl (.inr (.inl hq)))
    ·exact .inr (.inl (.inr (.inr hq)))
    ·exact .inr (.inr hq))) iA
   have w1:=ih (w::a::(N1++[x])).length (by simp;omega) _ rfl d1 (by omega)
   have w2:=ih (w::x::(N2++[b])).length (by simp;omega) _ rfl d2 (by omega)
   rw [e0,fs_dia (wn_anti u N p)]
   omega
  ·by_cases hK:K=[]
   ·subst hK
    have:=wn_tri01 u hN p (a:=w) (b:=a) (c:=b) (by
     have:crossI w a b=crossI b w a:=by unfold crossI;grind
     omega)
    exact this.1
   ·have hno:∀ q∈K,¬ inT (triOf a b w 1 hcr) q:=fun q hq g=>hi ⟨q,hq,g⟩
    have hE:=(TE _).2 w a K b 1 hcr (.inl rfl) rfl hs hm hK hno
    have w1:=ih (a::(K++[b])).length (by simp;omega) _ rfl (hs.ear hK _ hno) (by omega)
    have w2:=wn_tri01 u hN p (a:=w) (b:=a) (c:=b) (by
     have:crossI w a b=crossI b w a:=by unfold crossI;grind
     omega)
    rw [fs_three] at w2
    rw [fs_ear (wn_anti u N p)]
    omega
end Go.Aw
end
