/-
  Parts of a proof. No condition.
-/
import Derived.Test.YtoekkmbbbllogaaGreatQBe
set_option linter.unusedSimpArgs false
set_option linter.unusedVariables false
noncomputable section
namespace Go.Aw
theorem Simp.cut {w a b x:Pq}{N1 N2:List Pq}(h:Simp (w::a::(N1++x::(N2++[b]))))(key:∀ f∈cl (w::a::(N1++x::(N2++[b]))),okP (w,x) f) :
  Simp (w::a::(N1++[x]))∧Simp (w::x::(N2++[b])):=by
 have hn:=h.nodup
 have hcl:cl (w::a::(N1++x::(N2++[b])))=(w,a)::(pe (a::(N1++x::(N2++[b])))++[(b,w)]):=by
  have:=cl_first w a (N1++x::N2) b
  simpa using this
 have mwa:(w,a)∈cl (w::a::(N1++x::(N2++[b]))):=by rw [hcl];exact .head _
 have mbw:(b,w)∈cl (w::a::(N1++x::(N2++[b]))):=by rw [hcl];exact .tail _ (List.mem_append.2 (.inr (.head _)))
 have hpe:pe (a::(N1++x::(N2++[b])))=pe (a::(N1++[x]))++pe (x::(N2++[b])):=by
  have:=pe_app (a::N1) x (N2++[b])
  simpa using this
 have build:∀ {Q:List Pq},Q.Nodup→3≤Q.length→(∀ e∈cl Q,e∈cl (w::a::(N1++x::(N2++[b])))∨e=(w,x)∨e=(x,w))→((w,x)∈cl Q→(x,w)∉cl Q)→Simp Q:=by
  intro Q hq hl hs hno
  have kx:∀ {e f},(e=(w,x)∨e=(x,w))→f∈cl (w::a::(N1++x::(N2++[b])))→okP e f:=by
   rintro e f (rfl|rfl) hf
   ·exact key f hf
   ·exact okP_rev (key f hf)
  refine⟨hq,hl,fun e he f hf hne=>?_⟩
  rcases hs e he with h1|h1
  ·rcases hs f hf with h2|h2
   ·exact h.ok e h1 f h2 hne
   ·exact okP_symm (kx h2 h1)
  ·rcases hs f hf with h2|h2
   ·exact kx h1 h2
   ·exfalso
    rcases h1 with rfl|rfl
    ·rcases h2 with rfl|rfl
     ·exact hne rfl
     ·exact hno he hf
    ·rcases h2 with rfl|rfl
     ·exact hno hf he
     ·exact hne rfl
 have hn':=hn
 rw [List.nodup_cons,List.nodup_cons,List.nodup_append,List.nodup_cons] at hn'
 obtain⟨nw,na,nN1,⟨nx,nN2⟩,ndis⟩:=hn'
 simp only [List.mem_cons,List.mem_append,List.not_mem_nil,or_false,not_or] at nw na nx
 constructor
 ·refine build ?_ (by simp) (fun e he=>?_) ?_
  ·rw [List.nodup_cons,List.nodup_cons,List.nodup_append]
   refine⟨by simp only [List.mem_cons,List.mem_append,List.not_mem_nil,or_false,not_or];exact⟨nw.1,nw.2.1,nw.2.2.1⟩,by simp only [List.mem_append,List.mem_singleton,not_or];exact⟨na.1,na.2.1⟩,nN1,by simp,fun p hp q hq=>?_⟩
   simp only [List.mem_singleton] at hq
   subst hq
   exact ndis p hp q (.head _)
  ·rw [cl_first] at he
   rcases List.mem_cons.1 he with he|he
   ·exact .inl (by rw [he];exact mwa)
   ·rcases List.mem_append.1 he with he|he
    ·exact .inl (by rw [hcl,hpe];exact .tail _ (List.mem_append.2 (.inl (List.mem_append.2 (.inl he)))))
    ·exact .inr (.inr (by simpa using he))
  ·intro hwx
   exfalso
   rw [cl_first] at hwx
   rcases List.mem_cons.1 hwx with he|he
   ·injection he with _ he
    exact na.2.1 he.symm
   ·rcases List.mem_append.1 he with he|he
    ·have:=(pe_mem he).1
     simp only [List.mem_cons,List.mem_append,List.not_mem_nil,or_false] at this
     rcases this with h1|h1|h1
     ·exact nw.1 h1
     ·exact nw.2.1 h1
     ·exact nw.2.2.1 h1
    ·simp only [List.mem_singleton] at he
     injection he with h1 h2
     exact nw.2.2.1 h1
 ·refine build ?_ (by simp) (fun e he=>?_) ?_
  ·rw [List.nodup_cons,List.nodup_cons]
   refine⟨by simp only [List.mem_cons,List.mem_append,List.not_mem_nil,or_false,not_or];exact⟨nw.2.2.1,nw.2.2.2⟩,by simp only [List.mem_cons,List.mem_append,List.not_mem_nil,or_false,not_or];exact nx,nN2⟩
  ·rw [cl_first] at he
   rcases List.mem_cons.1 he with he|he
   ·exact .inr (.inl he)
   ·rcases List.mem_append.1 he with he|he
    ·exact .inl (by rw [hcl,hpe];exact .tail _ (List.mem_append.2 (.inl (List.mem_append.2 (.inr he)))))
    ·exact .inl (by rw [show e=(b,w) by simpa using he];exact mbw)
  ·intro _ hxw
   rw [cl_first] at hxw
   rcases List.mem_cons.1 hxw with he|he
   ·injection he with h1 h2
    exact nw.2.2.1 h1.symm
   ·rcases List.mem_append.1 he with he|he
    ·have:=(pe_mem he).2
     simp only [List.mem_cons,List.mem_append,List.not_mem_nil,or_false] at this
     rcases this with h1|h1|h1
     ·exact nw.2.2.1 h1
     ·exact nw.2.2.2.1 h1
     ·exact nw.2.2.2.2 h1
    ·simp only [List.mem_singleton] at he
     injection he with h1 h2
     exact nx.2 h1
theorem pe_back:∀ (L:List Pq) (e:Pq × Pq),e∈pe L.reverse→(e.2,e.1)∈pe L
 |[],e,h=>by cases h
 |[a],e,h=>by cases h
 |a::b::r,e,h=>by
  rw [List.reverse_cons,List.reverse_cons,List.append_assoc,List.singleton_append,pe_app] at h
  rw [pe]
  rcases List.mem_append.1 h with h|h
  ·exact .tail _ (pe_back (b::r) e (by rw [List.reverse_cons];exact h))
  ·simp only [pe,List.mem_singleton] at h
   rw [h]
   exact .head _
theorem Simp.back {P:List Pq}(h:Simp P):Simp P.reverse:=by
 refine⟨List.pairwise_reverse.2 (h.nodup.imp fun hab=>fun e=>hab e.symm),by rw [List.length_reverse];exact h.len,?_⟩
 have hm:∀ e∈cl P.reverse,(e.2,e.1)∈cl P:=fun e he=>by
  cases P with
  |nil=>exact absurd h.len (by simp)
  |cons p r =>
   rw [List.reverse_cons] at he
   have he:=cl_rot he
   have he:e∈pe (p::r.reverse++[p]):=he
   refine pe_back (p::r++[p]) e ?_
   simpa using he
 intro e he f hf hne
 have:=h.ok _ (hm e he) _ (hm f hf) (fun g=>hne (Prod.ext (congrArg Prod.snd g) (congrArg Prod.fst g)))
 have:=okP_rev (e:=(e.2,e.1)) this
 exact okP_symm (okP_rev (e:=(f.2,f.1)) (okP_symm this))
theorem sumF_back {f:Pq × Pq→Int}(hf:anti f):∀ (L:List Pq),sumF f (pe L.reverse) = -sumF f (pe L)
 |[]=>rfl
 |[a]=>rfl
 |a::b::r=>by
  rw [List.reverse_cons,List.reverse_cons,List.append_assoc,List.singleton_append,pe_app,sumF_app,pe,sumF]
  have:=sumF_back hf (b::r)
  rw [List.reverse_cons] at this
  rw [this]
  simp only [pe,sumF]
  rw [hf a b]
  omega
theorem fs_back {f:Pq × Pq→Int}(hf:anti f)(P:List Pq):fs f P.reverse = -fs f P:=by
 cases P with
 |nil=>rfl
 |cons p r =>
  rw [List.reverse_cons,fs_rot]
  have:=sumF_back hf (p::r++[p])
  show sumF f (pe (p::r.reverse++[p])) = -sumF f (pe (p::r++[p]))
  rw [← this]
  congr 2
  simp
theorem dt_anti:anti (fun e=>dt e.1 e.2):=fun a b=>dt_swap b a
theorem ar_back (P:List Pq):ar P.reverse = -ar P:=by rw [ar_fs,ar_fs,fs_back dt_anti]
theorem wn_nonpos (u:Pq){N:Int}(hN:0<N)(p:Pq){P:List Pq}(h:Simp P)(ha:ar P<0):fs (wn u N p) P≤0:=by
 have:=wn_nonneg u hN p _ _ rfl h.back (by rw [ar_back];omega)
 rw [fs_back (wn_anti u N p)] at this
 omega
theorem tele_pe (g:Pq→Int):∀ (x:Pq) (L:List Pq),sumF (fun e=>g e.2 - g e.1) (pe (x::L))=g (lst x L) - g x
 |x,[]=>by simp [pe,sumF,lst]
 |x,y::L=>by
  rw [pe,sumF,tele_pe g y L]
  simp only [lst]
  omega
theorem tele (g:Pq→Int)(P:List Pq):fs (fun e=>g e.2 - g e.1) P=0:=by
 cases P with
 |nil=>rfl
 |cons p r =>
  show sumF _ (pe (p::(r++[p])))=0
  rw [tele_pe,lst_app]
  simp [lst]
theorem sumF_mem {f g:Pq × Pq→Int}:∀ {L:List (Pq × Pq)},(∀ e∈L,f e≤g e)→sumF f L≤sumF g L
 |[],_=>Int.le_refl _
 |e::r,h=>by
  have h1:=h e (.head _)
  have h2:=sumF_mem (L:=r) fun x hx=>h x (.tail _ hx)
  simp only [sumF]
  omega
theorem sumF_lt {f g:Pq × Pq→Int}:∀ {L:List (Pq × Pq)},(∀ e∈L,f e≤g e)→(∃ e∈L,f e<g e)→sumF f L<sumF g L
 |[],_,⟨_,h,_⟩=>by cases h
 |e::r,h,⟨x,hx,hlt⟩=>by
  have h1:=h e (.head _)
  simp only [sumF]
  rcases List.mem_cons.1 hx with rfl|hx
  ·have h2:=sumF_mem (L:=r) fun x hx=>h x (.tail _ hx)
   omega
  ·have h2:=sumF_lt (L:=r) (fun x hx=>h x (.tail _ hx)) ⟨x,hx,hlt⟩
   omega
def siI (A:Int):Int:=if 0<A then 1 else 0
theorem mul_self_nn (a:Int):0≤a*a:=by
 rcases Int.le_total 0 a with h|h
 ·exact Int.mul_nonneg h h
 ·exact Int.mul_nonneg_of_nonpos_of_nonpos h h
theorem sq_pos {x y:Int}(h:¬ (x=0∧y=0)):0<x*x+y*y:=by
 by_cases hx:x=0
 ·have hy:y≠0:=fun e=>h ⟨hx,e⟩
  have:=mul_self_nn x
  have h2:0<y*y:=by
   rcases Int.lt_or_lt_of_ne hy with g|g
   ·exact Int.mul_pos_of_neg_of_neg g g
   ·exact Int.mul_pos g g
  omega
 ·have:=mul_self_nn y
  have h2:0<x*x:=by
   rcases Int.lt_or_lt_of_ne hx with g|g
   ·exact Int.mul_pos_of_neg_of_neg g g
   ·exact Int.mul_pos g g
  omega
theorem Simp.neg {Q:List Pq}(h:Simp Q){d c:Pq}(hdc:(d,c)∈cl Q)(hall:∀ z∈Q,crossI d c z≤0):ar Q<0:=by
 refine Classical.byContradiction fun hn=>?_
 have ha:0<ar Q:=by have:=h.area;omega
 have hne:d≠c:=h.ne hdc
 have hw:=wn_nonneg (c.2 - d.2,-(c.1 - d.1)) (N:=2) (by decide) (d.1+c.1,d.2+c.2) _ Q rfl h ha
 have hD:0<(c.1 - d.1)*(c.1 - d.1)+(c.2 - d.2)*(c.2 - d.2):=sq_pos fun g=>hne (Prod.ext (by omega) (by omega))
 generalize hu:((c.2 - d.2,-(c.1 - d.1)):Pq)=u at hw
 generalize hp:((d.1+c.1,d.2+c.2):Pq)=p at hw
 -- a corner in the middle
 have mid:∀ z∈Q,crossI d c z=0→dt u (vec 2 p z)≠0:=fun z hz h0 h1=>by
  have e1:2*z.1=d.1+c.1:=by
   have:((c.1 - d.1)*(c.1 - d.1)+(c.2 - d.2)*(c.2 - d.2))*(2*z.1 - (d.1+c.1))=0:=by
    rw [← hu,← hp] at h1
    clear hw hall h
    unfold dt vec at h1
    unfold crossI at h0
    grind
   have:=(mul_zero_or this).resolve_left (by omega)
   omega
  have e2:2*z.2=d.2+c.2:=by
   have:((c.1 - d.1)*(c.1 - d.1)+(c.2 - d.2)*(c.2 - d.2))*(2*z.2 - (d.2+c.2))=0:=by
    rw [← hu,← hp] at h1
    clear hw hall h
    unfold dt vec at h1
    unfold crossI at h0
    grind
   have:=(mul_zero_or this).resolve_left (by omega)
   omega
  rcases h.on hz hdc (N:=2) (by decide) ⟨1,1,by decide,by decide,rfl,by show 2*z.1=1*d.1+1*c.1;omega,by show 2*z.2=1*d.2+1*c.2;omega⟩ with g|g
  ·rw [g] at e1 e2;exact hne (Prod.ext (by show d.1=c.1;simp only at e1;omega) (by show d.2=c.2;simp only at e2;omega))
  ·rw [g] at e1 e2;exact hne (Prod.ext (by show d.1=c.1;simp only at e1;omega) (by show d.2=c.2;simp only at e2;omega))
 have up:∀ a b:Pq,a∈Q→b∈Q→((a,b)∈cl Q∧(a,b)≠(d,c)∨(b,a)∈cl Q∧(b,a)≠(d,c))→dt u (vec 2 p a)≤0→0<dt u (vec 2 p b)→0<dt (vec 2 p a) (vec 2 p b):=fun a b ha hb hs hA hB=>by
  have ca:=hall a ha
  have cb:=hall b hb
  have ma:=mid a ha
  have hX:((c.1 - d.1)*(c.1 - d.1)+(c.2 - d.2)*(c.2 - d.2))*dt (vec 2 p a) (vec 2 p b)=(-2*crossI d c a)*dt u (vec 2 p b)+(dt u (vec 2 p a))*(2*crossI d c b):=by
   rw [← hu,← hp]
   clear hw hall h mid hs
   unfold dt vec crossI
   grind
  have i1:0≤(-2*crossI d c a)*dt u (vec 2 p b):=Int.mul_nonneg (by omega) (by omega)
  have i2:0≤(dt u (vec 2 p a))*(2*crossI d c b):=Int.mul_nonneg_of_nonpos_of_nonpos hA (by omega)
  refine Int.not_le.1 fun hle=>?_
  have i3:=Int.mul_nonpos_of_nonneg_of_nonpos (Int.le_of_lt hD) hle
  have z1:=(mul_zero_or (show (-2*crossI d c a)*dt u (vec 2 p b)=0 by omega)).resolve_right (by omega)
  have z2:=mul_zero_or (show (dt u (vec 2 p a))*(2*crossI d c b)=0 by omega)
  have ca0:crossI d c a=0:=by omega
  have hA0:=ma ca0
  have cb0:crossI d c b=0:=by omega
  -- both on the line,on different sides of the middle
  have hok:okP (a,b) (d,c):=by
   rcases hs with ⟨hs,hs2⟩|⟨hs,hs2⟩
   ·exact h.ok _ hs _ hdc hs2
   ·exact okP_rev (h.ok _ hs _ hdc hs2)
  generalize hY:dt u (vec 2 p a)=Ya at *
  generalize hZ:dt u (vec 2 p b)=Yb at *
  have ex:2*(Yb*a.1+(-Ya)*b.1)=(Yb - Ya)*(d.1+c.1):=by
   have:((c.1 - d.1)*(c.1 - d.1)+(c.2 - d.2)*(c.2 - d.2))*(2*(Yb*a.1+(-Ya)*b.1) - (Yb - Ya)*(d.1+c.1))=0:=by
    rw [← hY,← hZ,← hu,← hp]
    clear hw hall h mid hs hok ma hX i1 i2 i3 z1 z2
    unfold dt vec
    unfold crossI at ca0 cb0
    grind
   have:=(mul_zero_or this).resolve_left (by omega)
   omega
  have ey:2*(Yb*a.2+(-Ya)*b.2)=(Yb - Ya)*(d.2+c.2):=by
   have:((c.1 - d.1)*(c.1 - d.1)+(c.2 - d.2)*(c.2 - d.2))*(2*(Yb*a.2+(-Ya)*b.2) - (Yb - Ya)*(d.2+c.2))=0:=by
    rw [← hY,← hZ,← hu,← hp]
    clear hw hall h mid hs hok ma hX i1 i2 i3 z1 z2
    unfold dt vec
    unfold crossI at ca0 cb0
    grind
   have:=(mul_zero_or this).resolve_left (by omega)
   omega
  obtain⟨z,-,z4,z5,z6⟩:=hok (2*(Yb - Ya)) ((Yb - Ya)*(d.1+c.1)) ((Yb - Ya)*(d.2+c.2)) (by omega)
   ⟨2*Yb,2*(-Ya),by omega,by omega,by omega,by rw [← ex];show _=2*Yb*a.1+2 * -Ya*b.1;rw [Int.mul_add,← Int.mul_assoc,← Int.mul_assoc],by rw [← ey];show _=2*Yb*a.2+2 * -Ya*b.2;rw [Int.mul_add,← Int.mul_assoc,← Int.mul_assoc]⟩
   ⟨Yb - Ya,Yb - Ya,by omega,by omega,by omega,by rw [Int.mul_add],by rw [Int.mul_add]⟩
  have q1:d.1+c.1=2*z.1:=Int.eq_of_mul_eq_mul_left (show Yb - Ya≠0 by omega) (by rw [z5];rw [Int.mul_comm 2,Int.mul_assoc])
  have q2:d.2+c.2=2*z.2:=Int.eq_of_mul_eq_mul_left (show Yb - Ya≠0 by omega) (by rw [z6];rw [Int.mul_comm 2,Int.mul_assoc])
  rcases z4 with g|g
  ·rw [g] at q1 q2;exact hne (Prod.ext (by simp only at q1;omega) (by simp only at q2;omega))
  ·rw [g] at q1 q2;exact hne (Prod.ext (by simp only at q1;omega) (by simp only at q2;omega))
 have hlt:sumF (wn u 2 p) (cl Q)<sumF (fun e=>siI (dt u (vec 2 p e.2)) - siI (dt u (vec 2 p e.1))) (cl Q):=by
  refine sumF_lt (fun e he=>?_) ⟨(d,c),hdc,?_⟩
  ·have hm:=cl_mem he
   by_cases hd:e=(d,c)
   ·rw [hd]
    have v1:dt u (vec 2 p d)≤0:=by
     have:dt u (vec 2 p d) = -((c.1 - d.1)*(c.1 - d.1)+(c.2 - d.2)*(c.2 - d.2)):=by rw [← hu,← hp];clear hw hall h mid up;unfold dt vec;grind
     omega
    have v2:0<dt u (vec 2 p c):=by
     have:dt u (vec 2 p c)=((c.1 - d.1)*(c.1 - d.1)+(c.2 - d.2)*(c.2 - d.2)):=by rw [← hu,← hp];clear hw hall h mid up;unfold dt vec;grind
     omega
    have v3:dt (vec 2 p d) (vec 2 p c)=0:=by rw [← hp];unfold dt vec;grind
    simp only [wn,rI,siI,v3]
    rw [if_pos ⟨v1,v2⟩,if_pos v2,if_neg (by omega),if_neg (by omega)]
    decide
   ·simp only [wn,rI,siI]
    by_cases hA:0<dt u (vec 2 p e.1)
    ·by_cases hB:0<dt u (vec 2 p e.2)
     ·rw [if_neg (by omega),if_neg (by omega),if_pos hB,if_pos hA]
      decide
     ·have:=up e.2 e.1 hm.2 hm.1 (.inr ⟨he,hd⟩) (by omega) hA
      rw [dt_swap] at this
      rw [if_neg (by omega),if_pos ⟨hA,by omega⟩,if_pos (by omega),if_neg hB,if_pos hA]
      decide
    ·by_cases hB:0<dt u (vec 2 p e.2)
     ·have:=up e.1 e.2 hm.1 hm.2 (.inl ⟨he,hd⟩) (by omega) hB
      rw [if_pos ⟨by omega,hB⟩,if_pos this,if_pos hB,if_neg hA]
      decide
     ·rw [if_neg (by omega),if_neg (by omega),if_neg hB,if_neg hA]
      decide
  ·have v1:dt u (vec 2 p d)≤0:=by
    have:dt u (vec 2 p d) = -((c.1 - d.1)*(c.1 - d.1)+(c.2 - d.2)*(c.2 - d.2)):=by rw [← hu,← hp];clear hw hall h mid up;unfold dt vec;grind
    omega
   have v2:0<dt u (vec 2 p c):=by
    have:dt u (vec 2 p c)=((c.1 - d.1)*(c.1 - d.1)+(c.2 - d.2)*(c.2 - d.2)):=by rw [← hu,← hp];clear hw hall h mid up;unfold dt vec;grind
    omega
   have v3:dt (vec 2 p d) (vec 2 p c)=0:=by rw [← hp];unfold dt vec;grind
   simp only [wn,rI,siI,v3]
   rw [if_pos ⟨v1,v2⟩,if_pos v2,if_neg (by omega),if_neg (by omega)]
   decide
 have ht:=tele (fun z=>siI (dt u (vec 2 p z))) Q
 unfold fs at ht hw
 omega
end Go.Aw
end

noncomputable section
namespace Go.Aw
theorem pe_fst:∀ (x:Pq) (L:List Pq) (z:Pq),(pe (x::L++[z])).map Prod.fst=x::L
 |x,[],z=>rfl
 |x,y::L,z=>by
  have:=pe_fst y L z
  simp only [List.cons_append] at this ⊢
  rw [pe,List.map_cons,this]
theorem cl_fst (P:List Pq):(cl P).map Prod.fst=P:=by
 cases P with
 |nil=>rfl
 |cons p r=>exact pe_fst p r p
theorem cl_nodup {P:List Pq}(h:P.Nodup):(cl P).Nodup:=by
 have:=cl_fst P
 rw [← this] at h
 exact List.Pairwise.imp (fun hab e=>hab (by rw [e])) (List.pairwise_map.1 h)
theorem inj_fst:∀ {L:List (Pq × Pq)},(L.map Prod.fst).Nodup→∀ e∈L,∀ f∈L,e.1=f.1→e=f
 |[],_,e,he,_,_,_=>by cases he
 |x::L,h,e,he,f,hf,hef=>by
  rw [List.map_cons,List.nodup_cons] at h
  rcases List.mem_cons.1 he with h1|h1 <;> rcases List.mem_cons.1 hf with h2|h2
  ·rw [h1,h2]
  ·exact absurd (by rw [← h1,hef];exact List.mem_map_of_mem h2) h.1
  ·exact absurd (by rw [← h2,← hef];exact List.mem_map_of_mem h1) h.1
  ·exact inj_fst h.2 e h1 f h2 hef
theorem cl_inj {P:List Pq}(h:P.Nodup){e f:Pq × Pq}(he:e∈cl P)(hf:f∈cl P)(hef:e.1=f.1):e=f:=by
 have:=cl_fst P
 rw [← this] at h
 exact inj_fst h e he f hf hef
theorem sumF_one {f:Pq × Pq→Int}:∀ {L:List (Pq × Pq)},L.Nodup→(∀ e∈L,f e≤1)→(∀ e∈L,∀ g∈L,0<f e→0<f g→e=g)→sumF f L≤1
 |[],_,_,_=>by simp [sumF]
 |e::r,hn,h1,h2=>by
  rw [List.nodup_cons] at hn
  by_cases hp:0<f e
  ·have h0:sumF f r≤sumF (fun _=>0) r:=sumF_mem fun g hg=>Int.not_lt.1 fun hgp=>hn.1 (by rw [h2 e (.head _) g (.tail _ hg) hp hgp];exact hg)
   have hz:∀ (L:List (Pq × Pq)),sumF (fun _=>0) L=0:=fun L=>by
    induction L with
    |nil=>rfl
    |cons e r ih=>simp only [sumF];omega
   rw [hz] at h0
   have:=h1 e (.head _)
   simp only [sumF]
   omega
  ·have:=sumF_one hn.2 (fun e he=>h1 e (.tail _ he)) fun e he g hg=>h2 e (.tail _ he) g (.tail _ hg)
   simp only [sumF]
   omega
theorem rI_le (A B α:Int):rI A B α≤1:=by
 unfold rI
 split
 ·split <;> omega
 ·split
  ·split <;> omega
  ·omega
theorem rI_up {A B α:Int}(h:0<rI A B α):A≤0∧0<B:=by
 unfold rI at h
 split at h
 ·assumption
 ·split at h
  ·split at h <;> omega
  ·omega
def leftP (P:List Pq)(e:Pq × Pq):Prop:=∀ z∈P,0≤crossI e.1 e.2 z
theorem cx_alg {u a b w1 w2:Pq}{k l:Int}(hu:dt u w1=0)(hu2:dt u w2=0)(hb:0<dt u b)
  (h:0≤dt b (k*w2.1 - l*w1.1,k*w2.2 - l*w1.2)):u.1*(k*w2.1 - l*w1.1)+u.2*(k*w2.2 - l*w1.2)≤0:=by
 have huu:0<u.1*u.1+u.2*u.2:=sq_pos fun g=>by
  unfold dt at hb
  rw [g.1,g.2] at hb
  simp at hb
 have e:(u.1*u.1+u.2*u.2)*dt b (k*w2.1 - l*w1.1,k*w2.2 - l*w1.2) = -(u.1*(k*w2.1 - l*w1.1)+u.2*(k*w2.2 - l*w1.2))*dt u b:=by
  unfold dt at hu hu2 ⊢
  simp only
  clear h hb huu
  grind
 refine Int.not_lt.1 fun hp=>?_
 have m1:=Int.mul_nonneg (Int.le_of_lt huu) h
 have m2:=Int.mul_pos hp hb
 rw [Int.neg_mul] at e
 omega
theorem cx_zero {u1 u2 X Y:Int}(h1:u1*Y - u2*X=0)(h2:u1*X+u2*Y=0)(h:0<u1*u1+u2*u2):X=0∧Y=0:=by
 have e1:(u1*u1+u2*u2)*X=0:=by grind
 have e2:(u1*u1+u2*u2)*Y=0:=by grind
 exact⟨(mul_zero_or e1).resolve_left (by omega),(mul_zero_or e2).resolve_left (by omega)⟩
theorem cx_pt {A B C D N a b c d p:Int}(h:(B - A)*(D*(N*c - p) - C*(N*d - p)) - (D - C)*(B*(N*a - p) - A*(N*b - p))=0):N*((D - C)*(B*a+(-A)*b))=N*((B - A)*(D*c+(-C)*d)):=by
 grind
theorem cx_dt {A B N u1 u2 p1 p2 a1 a2 b1 b2 z1 z2:Int}(r1:B*a1+(-A)*b1=(B - A)*z1)(r2:B*a2+(-A)*b2=(B - A)*z2):(B - A)*(u1*(N*z2 - p2) - (N*z1 - p1)*u2)=B*(u1*(N*a2 - p2) - (N*a1 - p1)*u2) - A*(u1*(N*b2 - p2) - (N*b1 - p1)*u2):=by
 have e:(B - A)*(u1*(N*z2 - p2) - (N*z1 - p1)*u2)=u1*(N*((B - A)*z2) - (B - A)*p2) - u2*(N*((B - A)*z1) - (B - A)*p1):=by grind
 rw [e,← r1,← r2]
 grind
theorem Simp.cx {P:List Pq}(h:Simp P)(hc:∀ e∈cl P,leftP P e)(u:Pq){N:Int}(hN:0<N)(p:Pq):fs (wn u N p) P≤1:=by
 refine sumF_one (cl_nodup h.nodup) (fun e _=>rI_le _ _ _) fun e he f hf h1 h2=>?_
 refine Classical.byContradiction fun hne=>?_
 obtain⟨a,b⟩:=e
 obtain⟨c,d⟩:=f
 have hok:=h.ok _ he _ hf hne
 obtain⟨A0,B0⟩:=rI_up h1
 obtain⟨C0,D0⟩:=rI_up h2
 simp only at A0 B0 C0 D0
 have me:=cl_mem he
 have mf:=cl_mem hf
 have l1:=hc _ he c mf.1
 have l2:=hc _ he d mf.2
 have l3:=hc _ hf a me.1
 have l4:=hc _ hf b me.2
 simp only at l1 l2 l3 l4 me mf
 generalize hA:dt u (vec N p a)=A at *
 generalize hB:dt u (vec N p b)=B at *
 generalize hC:dt u (vec N p c)=C at *
 generalize hD:dt u (vec N p d)=D at *
 -- the crossing points
 obtain⟨w1,hw1⟩:∃ w:Pq,w=(B*(vec N p a).1 - A*(vec N p b).1,B*(vec N p a).2 - A*(vec N p b).2):=⟨_,rfl⟩
 obtain⟨w2,hw2⟩:∃ w:Pq,w=(D*(vec N p c).1 - C*(vec N p d).1,D*(vec N p c).2 - C*(vec N p d).2):=⟨_,rfl⟩
 have u1:dt u w1=0:=by
  have:dt u w1=B*dt u (vec N p a) - A*dt u (vec N p b):=by rw [hw1];unfold dt;simp only;grind
  rw [this,hA,hB,Int.mul_comm];omega
 have u2:dt u w2=0:=by
  have:dt u w2=D*dt u (vec N p c) - C*dt u (vec N p d):=by rw [hw2];unfold dt;simp only;grind
  rw [this,hC,hD,Int.mul_comm];omega
 have sb:dt u ((vec N p b).1 - (vec N p a).1,(vec N p b).2 - (vec N p a).2)=B - A:=by rw [← hA,← hB];unfold dt;simp only;grind
 have sd:dt u ((vec N p d).1 - (vec N p c).1,(vec N p d).2 - (vec N p c).2)=D - C:=by rw [← hC,← hD];unfold dt;simp only;grind
 have k1:dt ((vec N p b).1 - (vec N p a).1,(vec N p b).2 - (vec N p a).2) ((B - A)*w2.1 - (D - C)*w1.1,(B - A)*w2.2 - (D - C)*w1.2)=(B - A)*(N*N*(D*crossI a b c+(-C)*crossI a b d)):=by
  rw [hw1,hw2]
  clear h1 h2 hok hc h sb sd u1 u2 hA hB hC hD
  unfold dt vec crossI
  simp only
  grind
 have k2:dt ((vec N p d).1 - (vec N p c).1,(vec N p d).2 - (vec N p c).2) ((D - C)*w1.1 - (B - A)*w2.1,(D - C)*w1.2 - (B - A)*w2.2)=(D - C)*(N*N*(B*crossI c d a+(-A)*crossI c d b)):=by
  rw [hw1,hw2]
  clear h1 h2 hok hc h sb sd u1 u2 hA hB hC hD
  unfold dt vec crossI
  simp only
  grind
 have hNN:0≤N*N:=Int.mul_nonneg (by omega) (by omega)
 have p1:0≤(B - A)*(N*N*(D*crossI a b c+(-C)*crossI a b d)):=Int.mul_nonneg (by omega) (Int.mul_nonneg hNN (Int.add_nonneg (Int.mul_nonneg (by omega) l1) (Int.mul_nonneg (by omega) l2)))
 have p2:0≤(D - C)*(N*N*(B*crossI c d a+(-A)*crossI c d b)):=Int.mul_nonneg (by omega) (Int.mul_nonneg hNN (Int.add_nonneg (Int.mul_nonneg (by omega) l3) (Int.mul_nonneg (by omega) l4)))
 have q1:=cx_alg (a:=a) u1 u2 (by rw [sb];omega) (by rw [k1];exact p1)
 have q2:=cx_alg (a:=a) u2 u1 (by rw [sd];omega) (by rw [k2];exact p2)
 have huu:0<u.1*u.1+u.2*u.2:=sq_pos fun g=>by
  have:dt u (vec N p b)=0:=by unfold dt;rw [g.1,g.2];omega
  omega
 have q0:u.1*((B - A)*w2.1 - (D - C)*w1.1)+u.2*((B - A)*w2.2 - (D - C)*w1.2)=0:=by
  have:u.1*((D - C)*w1.1 - (B - A)*w2.1)+u.2*((D - C)*w1.2 - (B - A)*w2.2) = -(u.1*((B - A)*w2.1 - (D - C)*w1.1)+u.2*((B - A)*w2.2 - (D - C)*w1.2)):=by
   clear h1 h2 hok hc h sb sd k1 k2 p1 p2 q1 q2
   grind
  omega
 obtain⟨x0,y0⟩:(B - A)*w2.1 - (D - C)*w1.1=0∧(B - A)*w2.2 - (D - C)*w1.2=0:=by
  refine cx_zero ?_ q0 huu
  have:u.1*((B - A)*w2.2 - (D - C)*w1.2) - u.2*((B - A)*w2.1 - (D - C)*w1.1)=(B - A)*dt u w2 - (D - C)*dt u w1:=by unfold dt;clear h1 h2 hok hc h;grind
  rw [this,u1,u2]
  omega
 have ex:(D - C)*(B*a.1+(-A)*b.1)=(B - A)*(D*c.1+(-C)*d.1):=by
  refine Int.eq_of_mul_eq_mul_left (show N≠0 by omega) ?_
  rw [hw1,hw2] at x0
  exact cx_pt x0
 have ey:(D - C)*(B*a.2+(-A)*b.2)=(B - A)*(D*c.2+(-C)*d.2):=by
  refine Int.eq_of_mul_eq_mul_left (show N≠0 by omega) ?_
  rw [hw1,hw2] at y0
  exact cx_pt y0
 obtain⟨z,z1,z2,z3,z4⟩:=hok ((D - C)*(B - A)) ((D - C)*(B*a.1+(-A)*b.1)) ((D - C)*(B*a.2+(-A)*b.2)) (Int.mul_pos (by omega) (by omega))
  ⟨(D - C)*B,(D - C)*(-A),Int.mul_nonneg (by omega) (by omega),Int.mul_nonneg (by omega) (by omega),by rw [← Int.mul_add];rfl,by rw [Int.mul_add,← Int.mul_assoc,← Int.mul_assoc],by rw [Int.mul_add,← Int.mul_assoc,← Int.mul_assoc]⟩
  ⟨(B - A)*D,(B - A)*(-C),Int.mul_nonneg (by omega) (by omega),Int.mul_nonneg (by omega) (by omega),by rw [← Int.mul_add,Int.mul_comm];rfl,by rw [ex,Int.mul_add,← Int.mul_assoc,← Int.mul_assoc],by rw [ey,Int.mul_add,← Int.mul_assoc,← Int.mul_assoc]⟩
 have r1:B*a.1+(-A)*b.1=(B - A)*z.1:=Int.eq_of_mul_eq_mul_left (show D - C≠0 by omega) (by rw [z3,Int.mul_assoc])
 have r2:B*a.2+(-A)*b.2=(B - A)*z.2:=Int.eq_of_mul_eq_mul_left (show D - C≠0 by omega) (by rw [z4,Int.mul_assoc])
 have hz0:dt u (vec N p z)=0:=by
  have:(B - A)*dt u (vec N p z)=0:=by
   have e:(B - A)*dt u (vec N p z)=B*dt u (vec N p a) - A*dt u (vec N p b):=by
    unfold dt vec
    exact cx_dt r1 r2
   rw [e,hA,hB,Int.mul_comm]
   omega
  exact (mul_zero_or this).resolve_left (by omega)
 have za:z=a:=z1.resolve_right fun g=>by
  have g:z=b:=g
  rw [g,hB] at hz0;omega
 have zc:z=c:=z2.resolve_right fun g=>by
  have g:z=d:=g
  rw [g,hD] at hz0;omega
 exact hne (cl_inj h.nodup he hf (show a=c from za.symm.trans zc))
end Go.Aw
end

noncomputable section
namespace Go.Aw
def dp (a x z:Pq):Int:=(x.1 - a.1)*(z.1 - a.1)+(x.2 - a.2)*(z.2 - a.2)
def lf (f:Pq)(a z:Pq):Int:=f.1*(z.1 - a.1)+f.2*(z.2 - a.2)
theorem lf_pl (f a x z w:Pq):lf f a x*crossI a z w=lf f a z*crossI a x w+lf f a w*crossI a z x:=by
 unfold lf crossI
 grind
theorem lf_det (f g a x z:Pq):dt f g*crossI a x z=lf f a x*lf g a z - lf g a x*lf f a z:=by
 unfold lf crossI dt
 grind
def pos (f g a z:Pq):Prop:=lxp (lf f a z) (lf g a z)
theorem turn_tr {f g a x z w:Pq}(hD:0<dt f g)(hx:pos f g a x)(hz:pos f g a z)(hw:pos f g a w)(h1:0<crossI a z x)(h2:0≤crossI a x w):0<crossI a z w:=by
 have e1:=lf_pl f a x z w
 have e2:=lf_det f g a z x
 have e3:=lf_det f g a x w
 have e4:=lf_det f g a z w
 have m1:=Int.mul_pos hD h1
 have m2:=Int.mul_nonneg (Int.le_of_lt hD) h2
 unfold pos lxp at hx hz hw
 generalize lf f a x=Fx at *
 generalize lf f a z=Fz at *
 generalize lf f a w=Fw at *
 generalize lf g a x=Gx at *
 generalize lf g a z=Gz at *
 generalize lf g a w=Gw at *
 have hFz:0≤Fz:=by omega
 have hFw:0≤Fw:=by omega
 rcases hx with hx|⟨hx,hx2⟩
 ·refine Int.not_le.1 fun hle=>?_
  have n1:=Int.mul_nonpos_of_nonneg_of_nonpos (Int.le_of_lt hx) hle
  have n2:=Int.mul_nonneg hFz h2
  have n3:=Int.mul_nonneg hFw (Int.le_of_lt h1)
  have w0:Fw=0:=(mul_zero_or (show Fw*crossI a z x=0 by omega)).resolve_right (by omega)
  have gw:0<Gw:=by omega
  rw [w0,Int.mul_zero] at e3
  have n4:=Int.mul_pos hx gw
  have:0<crossI a x w:=Int.not_le.1 fun h=>by
   have:=Int.mul_nonpos_of_nonneg_of_nonpos (Int.le_of_lt hD) h
   omega
  have z0:Fz=0:=(mul_zero_or (show Fz*crossI a x w=0 by omega)).resolve_right (by omega)
  have gz:0<Gz:=by omega
  rw [z0,Int.zero_mul] at e2
  have:=Int.mul_pos gz hx
  omega
 ·rw [hx,Int.mul_zero] at e2
  rw [hx,Int.zero_mul] at e3
  have w0:Fw=0:=by
   refine Int.le_antisymm (Int.not_lt.1 fun h=>?_) hFw
   have:=Int.mul_pos hx2 h
   omega
  have gw:0<Gw:=by omega
  have fz:0<Fz:=Int.not_le.1 fun h=>by
   have:=Int.mul_nonpos_of_nonpos_of_nonneg h (Int.le_of_lt hx2)
   omega
  rw [w0,Int.mul_zero] at e4
  have n:=Int.mul_pos fz gw
  exact Int.not_le.1 fun h=>by
   have:=Int.mul_nonpos_of_nonneg_of_nonpos (Int.le_of_lt hD) h
   omega
theorem par_lf {f a x z:Pq}(h:crossI a x z=0):dp a x x*lf f a z=dp a x z*lf f a x:=by
 unfold dp lf
 unfold crossI at h
 grind
theorem par_dp {a x z w:Pq}(h:crossI a x z=0):dp a x x*dp a z w=dp a x z*dp a x w:=by
 unfold dp
 unfold crossI at h
 grind
theorem par_cr {a x z w:Pq}(h:crossI a x z=0):dp a x x*crossI a z w=dp a x z*crossI a x w:=by
 unfold dp
 unfold crossI at h ⊢
 grind
theorem dp_pos {f g a x:Pq}(h:pos f g a x):0<dp a x x:=by
 refine sq_pos fun g0=>?_
 unfold pos lxp lf at h
 rw [g0.1,g0.2] at h
 simp at h
theorem par_k {f g a x z:Pq}(hx:pos f g a x)(hz:pos f g a z)(h:crossI a x z=0):0<dp a x z:=by
 have hS:=dp_pos hx
 have e1:=par_lf (f:=f) h
 have e2:=par_lf (f:=g) h
 unfold pos lxp at hx hz
 generalize lf f a x=Fx at *
 generalize lf f a z=Fz at *
 generalize lf g a x=Gx at *
 generalize lf g a z=Gz at *
 refine Int.not_le.1 fun hk=>?_
 have m1:=Int.mul_nonpos_of_nonpos_of_nonneg hk (show 0≤Fx by omega)
 have m2:=Int.mul_nonneg (Int.le_of_lt hS) (show 0≤Fz by omega)
 have z0:Fz=0:=(mul_zero_or (show dp a x x*Fz=0 by omega)).resolve_left (by omega)
 have gz:0<Gz:=by omega
 have m3:=Int.mul_pos hS gz
 rcases mul_zero_or (show dp a x z*Fx=0 by omega) with h0|h0
 ·rw [h0,Int.zero_mul] at e2
  omega
 ·have:=Int.mul_nonpos_of_nonpos_of_nonneg hk (show 0≤Gx by omega)
  omega
theorem first_met {f g a:Pq}(hD:0<dt f g):∀ (L:List Pq),L≠[]→(∀ z∈L,pos f g a z)→∃ x∈L,∀ z∈L,0≤crossI a x z∧(crossI a x z=0→dp a x x≤dp a x z)
 |[],h,_=>absurd rfl h
 |[z],_,_=>⟨z,.head _,fun w hw=>by
  have:w=z:=by simpa using hw
  subst this
  exact⟨by unfold crossI;grind,fun _=>Int.le_refl _⟩⟩
 |z::y::r,_,hp=>by
  obtain⟨x,hx,hm⟩:=first_met hD (y::r) (by simp) (fun w hw=>hp w (.tail _ hw))
  have px:=hp x (.tail _ hx)
  have pz:=hp z (.head _)
  rcases Int.lt_trichotomy (crossI a x z) 0 with hc|hc|hc
  ·have hzx:0<crossI a z x:=by
    have:crossI a z x = -crossI a x z:=by unfold crossI;grind
    omega
   refine⟨z,.head _,fun w hw=>?_⟩
   rcases List.mem_cons.1 hw with rfl|hw
   ·exact⟨by unfold crossI;grind,fun _=>Int.le_refl _⟩
   ·have:=turn_tr hD px pz (hp w (.tail _ hw)) hzx (hm w hw).1
    exact⟨by omega,fun h=>by omega⟩
  ·have hS:=dp_pos px
   have hk:=par_k px pz hc
   by_cases hn:dp a x x≤dp a x z
   ·refine⟨x,.tail _ hx,fun w hw=>?_⟩
    rcases List.mem_cons.1 hw with rfl|hw
    ·exact⟨by omega,fun _=>hn⟩
    ·exact hm w hw
   ·refine⟨z,.head _,fun w hw=>?_⟩
    rcases List.mem_cons.1 hw with rfl|hw
    ·exact⟨by unfold crossI;grind,fun _=>Int.le_refl _⟩
    ·obtain⟨m1,m2⟩:=hm w hw
     have e:=par_cr (w:=w) hc
     have nn:=Int.mul_nonneg (Int.le_of_lt hk) m1
     refine⟨Int.not_lt.1 fun h=>?_,fun h=>?_⟩
     ·have:=Int.mul_neg_of_pos_of_neg hS h
      omega
     ·have h0:crossI a x w=0:=by
       rw [h,Int.mul_zero] at e
       exact (mul_zero_or e.symm).resolve_left (by omega)
      have m3:=m2 h0
      have e1:=par_dp (w:=w) hc
      have e2:=par_dp (w:=z) hc
      have n1:=Int.mul_le_mul_of_nonneg_left m3 (Int.le_of_lt hk)
      have n2:=Int.mul_le_mul_of_nonneg_left (show dp a x z≤dp a x x by omega) (Int.le_of_lt hk)
      rw [Int.mul_comm (dp a x z) (dp a x x)] at n1 n2
      have n3:dp a x x*dp a z z≤dp a x x*dp a z w:=by omega
      exact Int.le_of_mul_le_mul_left n3 hS
  ·refine⟨x,.tail _ hx,fun w hw=>?_⟩
   rcases List.mem_cons.1 hw with rfl|hw
   ·exact⟨by omega,fun h=>by omega⟩
   ·exact hm w hw
def clearS (P:List Pq)(a x:Pq):Prop:=∀ z∈P,crossI a x z=0→0<dp a x z→dp a x x≤dp a x z
theorem dpr_zero {a x z:Pq}(hS:0<dp a x x)(h:crossI a x z=0)(hd:dp a x z=0):z=a:=by
 have e1:dp a x x*(z.1 - a.1)=0:=by unfold dp crossI at *;grind
 have e2:dp a x x*(z.2 - a.2)=0:=by unfold dp crossI at *;grind
 have:=(mul_zero_or e1).resolve_left (by omega)
 have:=(mul_zero_or e2).resolve_left (by omega)
 exact Prod.ext (by omega) (by omega)
theorem dpr_one {a x z:Pq}(hS:0<dp a x x)(h:crossI a x z=0)(hd:dp a x z=dp a x x):z=x:=by
 have e1:dp a x x*(z.1 - x.1)=0:=by unfold dp crossI at *;grind
 have e2:dp a x x*(z.2 - x.2)=0:=by unfold dp crossI at *;grind
 have:=(mul_zero_or e1).resolve_left (by omega)
 have:=(mul_zero_or e2).resolve_left (by omega)
 exact Prod.ext (by omega) (by omega)
theorem dp_mid {a x c d z:Pq}(hS:0<dp a x x)(hc:crossI a x c=0)(hd:crossI a x d=0)(hz:crossI a x z=0)(h1:dp a x c≤dp a x z)(h2:dp a x z≤dp a x d):onW (dp a x d - dp a x c) ((dp a x d - dp a x c)*z.1) ((dp a x d - dp a x c)*z.2) c d:=by
 refine⟨dp a x d - dp a x z,dp a x z - dp a x c,by omega,by omega,by omega,?_,?_⟩
 ·refine Int.eq_of_mul_eq_mul_left (show dp a x x≠0 by omega) ?_
  unfold dp crossI at *
  grind
 ·refine Int.eq_of_mul_eq_mul_left (show dp a x x≠0 by omega) ?_
  unfold dp crossI at *
  grind
end Go.Aw
end
