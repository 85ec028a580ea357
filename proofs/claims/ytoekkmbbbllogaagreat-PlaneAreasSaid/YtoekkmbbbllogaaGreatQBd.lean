/-
  Parts of a proof. No condition.
-/
import Derived.Test.YtoekkmbbbllogaaGreatQAv
import Derived.Test.YtoekkmbbbllogaaGreatQBc
set_option linter.unusedSimpArgs false
set_option linter.unusedVariables false
noncomputable section
namespace Go.Aw
theorem last_split {L:List Pq}(h:L≠[]):∃ R q,L=R++[q]:=⟨_,_,(List.dropLast_concat_getLast h).symm⟩
theorem first_split {L:List Pq}(h:L≠[]):∃ p R,L=p::R:=by
 cases L with
 |nil=>exact absurd rfl h
 |cons p R=>exact⟨p,R,rfl⟩
theorem cross_swap2 (a b c:Pq):crossI a c b = -crossI a b c:=by
 unfold crossI
 grind
def sgP (σ:Int):Prop:=σ=1∨σ = -1
theorem sg_of {x:Int}(h:x≠0):∃ τ,sgP τ∧0<τ*x:=by
 by_cases g:0<x
 ·exact⟨1,.inl rfl,by omega⟩
 ·exact⟨-1,.inr rfl,by omega⟩
theorem sg_same {σ τ x:Int}(hσ:sgP σ)(hτ:sgP τ)(h1:0<σ*x)(h2:0<τ*x):σ=τ:=by
 rcases hσ with rfl|rfl <;> rcases hτ with rfl|rfl <;> first|rfl|omega
def Ts (n:Nat):Prop:=∀ (v a:Pq) (K:List Pq) (b:Pq) (σ:Int),sgP σ→(v::a::(K++[b])).length=n→Simp (v::a::(K++[b]))→(∀ p∈a::(K++[b]),lx v p)→0<σ*crossI b v a→0<σ*ar (v::a::(K++[b]))
def Es (n:Nat):Prop:=∀ (v a:Pq) (K:List Pq) (b:Pq) (σ:Int) (h:0<σ*crossI b v a),sgP σ→(v::a::(K++[b])).length=n→Simp (v::a::(K++[b]))→(∀ p∈a::(K++[b]),lx v p)→K≠[]→(∀ p∈K,¬ inT (triOf a b v σ h) p)→0<σ*ar (a::(K++[b]))
theorem T_step {n:Nat}(IH:∀ m,m<n→Ts m)(hE:Es n):Ts n:=by
 intro v a K b σ hσ hl hP hmin h
 by_cases hi:∃ p∈K,inT (triOf a b v σ h) p
 ·obtain⟨x,hx,hxi,hmax⟩:=argmax (fun p=>at3 (triOf a b v σ h).V p) _ K hi
  obtain⟨N1,N2,rfl⟩:=List.append_of_mem hx
  have hP':Simp (v::a::(N1++x::(N2++[b]))):=by simpa using hP
  obtain⟨d1,d2⟩:=hP'.dia (triOf a b v σ h) hxi hmax
  obtain⟨iA,iB⟩:=hP'.inside (triOf a b v σ h) hxi
  rw [triOf_A] at iA
  rw [triOf_B] at iB
  simp only [List.length_cons,List.length_append,List.length_nil] at hl
  have t1:=IH (v::a::(N1++[x])).length (by simp;omega) v a N1 x σ hσ rfl d1 (fun p hp=>hmin p (by
   simp only [List.mem_cons,List.mem_append,List.not_mem_nil,or_false] at hp ⊢
   rcases hp with hp|hp|hp
   ·exact .inl hp
   ·exact .inr (.inl (.inl hp))
   ·exact .inr (.inl (.inr (.inl hp))))) iB
  have t2:=IH (v::x::(N2++[b])).length (by simp;omega) v x N2 b σ hσ rfl d2 (fun p hp=>hmin p (by
   simp only [List.mem_cons,List.mem_append,List.not_mem_nil,or_false] at hp ⊢
   rcases hp with hp|hp|hp
   ·exact .inr (.inl (.inr (.inl hp)))
   ·exact .inr (.inl (.inr (.inr hp)))
   ·exact .inr (.inr hp))) iA
  have e:=ar_dia v a N1 x N2 b
  have e':v::a::((N1++x::N2)++[b])=v::a::(N1++x::(N2++[b])):=by simp
  rw [e',e,Int.mul_add]
  omega
 ·by_cases hK:K=[]
  ·subst hK
   rw [show v::a::([]++[b])=[v,a,b] from rfl,ar_three]
   exact h
  ·have:=hE v a K b σ h hσ hl hP hmin hK (fun p hp g=>hi ⟨p,hp,g⟩)
   rw [ar_ear,Int.mul_add]
   omega
theorem E_step {n:Nat}(IH:∀ m,m<n→Ts m∧Es m):Es n:=by
 intro v a K b σ h hσ hl hP hmin hK hT
 have hQ:Simp (a::(K++[b])):=hP.ear hK (triOf a b v σ h) hT
 have hnQ:=hQ.nodup
 simp only [List.length_cons,List.length_append,List.length_nil] at hl
 have mva:(v,a)∈cl (v::a::(K++[b])):=by rw [cl_first];exact .head _
 have mbv:(b,v)∈cl (v::a::(K++[b])):=by rw [cl_first];exact .tail _ (List.mem_append.2 (.inr (.head _)))
 have mpe:∀ e∈pe (a::(K++[b])),e∈cl (v::a::(K++[b])):=fun e he=>by rw [cl_first];exact .tail _ (List.mem_append.2 (.inl he))
 have nv:v∉a::(K++[b]):=(List.nodup_cons.1 hP.nodup).1
 obtain⟨w,hw,hwm⟩:=lx_min (a::(K++[b])) (by simp)
 have sidea:∀ m,(m,a)∈cl (v::a::(K++[b]))∨(a,m)∈cl (v::a::(K++[b]))→m∈K→okP (m,a) (b,v):=fun m hm hmK=>by
  have mv:m≠v:=fun e=>nv (by rw [← e];simp [hmK])
  have av:a≠v:=fun e=>nv (by rw [← e];simp)
  rcases hm with hm|hm
  ·exact hP.ok _ hm _ mbv (fun e=>av (congrArg Prod.snd e))
  ·exact okP_rev (hP.ok _ hm _ mbv (fun e=>mv (congrArg Prod.snd e)))
 have sideb:∀ m,(m,b)∈cl (v::a::(K++[b]))∨(b,m)∈cl (v::a::(K++[b]))→m∈K→okP (m,b) (a,v):=fun m hm hmK=>by
  have mv:m≠v:=fun e=>nv (by rw [← e];simp [hmK])
  have bv:b≠v:=fun e=>nv (by rw [← e];simp)
  refine okP_symm (okP_rev (e:=(v,a)) (okP_symm ?_))
  rcases hm with hm|hm
  ·exact hP.ok _ hm _ mva (fun e=>mv (congrArg Prod.fst e))
  ·exact okP_rev (hP.ok _ hm _ mva (fun e=>bv (congrArg Prod.fst e)))
 by_cases hwa:w=a
 ·subst hwa
  obtain⟨m,K',rfl⟩:=first_split hK
  have na:∀ p∈m::(K'++[b]),p≠w:=fun p hp e=>(List.nodup_cons.1 hnQ).1 (by rw [← e];simpa using hp)
  have hs:=ear_side (triOf w b v σ h) (sidea m (.inr (mpe _ (by simp [pe]))) (.head _)) (hT m (.head _)) (hmin w (.head _)) (hwm b (by simp) (na b (by simp))) (hwm m (by simp) (na m (by simp)))
  rw [triOf_V] at hs
  have t:=(IH (w::m::(K'++[b])).length (by simp at hl ⊢;omega)).1 w m K' b σ hσ rfl (by simpa using hQ) (fun p hp=>hwm p (by simp only [List.cons_append];exact .tail _ hp) (na p hp)) (by
   rw [cross_swap2,Int.mul_neg]
   omega)
  simpa using t
 ·by_cases hwb:w=b
  ·subst hwb
   obtain⟨K',m,rfl⟩:=last_split hK
   have hQ2:Simp (w::a::(K'++[m])):=Simp.rot (A:=a::(K'++[m])) (B:=[w]) hQ
   have na:∀ p∈a::(K'++[m]),p≠w:=fun p hp e=>(List.nodup_cons.1 hQ2.nodup).1 (by rw [← e];exact hp)
   have hmw:(m,w)∈pe (a::((K'++[m])++[w])):=by
    have:=pe_app (a::K') m [w]
    simp only [List.cons_append,List.append_assoc,List.nil_append] at this ⊢
    rw [this]
    simp [pe]
   have hs:=ear_side (triOf a w v σ h).swap (sideb m (.inl (mpe _ hmw)) (by simp)) (fun g=>hT m (by simp) ⟨g.2.1,g.1,g.2.2⟩) (hmin w (by simp)) (hwm a (by simp) (na a (by simp))) (hwm m (by simp) (na m (by simp)))
   have hs:at3 (triOf a w v σ h).V m<0:=hs
   rw [triOf_V] at hs
   have t:=(IH (w::a::(K'++[m])).length (by simp at hl ⊢;omega)).1 w a K' m σ hσ rfl hQ2 (fun p hp=>hwm p (by
    simp only [List.mem_cons,List.mem_append,List.not_mem_nil,or_false] at hp ⊢
    rcases hp with hp|hp
    ·exact .inl hp
    ·exact .inr (.inl hp)) (na p hp)) (by
    rw [cross_flip w m a,Int.mul_neg]
    omega)
   have e:=ar_rot (a::(K'++[m])) [w]
   have e2:a::((K'++[m])++[w])=a::(K'++[m])++[w]:=by simp
   rw [e2,e]
   exact t
  ·have hwK:w∈K:=by
    simp only [List.mem_cons,List.mem_append,List.not_mem_nil,or_false] at hw
    rcases hw with hw|hw|hw
    ·exact absurd hw hwa
    ·exact hw
    ·exact absurd hw hwb
   obtain⟨A',B',rfl⟩:=List.append_of_mem hwK
   obtain⟨A1,q,hA⟩:=last_split (show a::A'≠[] by simp)
   obtain⟨p,B1,hB⟩:=first_split (show B'++[b]≠[] by simp)
   have eP:v::a::((A'++w::B')++[b])=(v::(A1++[q]))++(w::p::B1):=by rw [← hA,← hB];simp
   have eQ:a::((A'++w::B')++[b])=(A1++[q])++(w::p::B1):=by rw [← hA,← hB];simp
   have hPw:Simp (w::p::((B1++v::A1)++[q])):=by
    have:=Simp.rot (eP▸hP)
    simpa using this
   have hQw:Simp (w::p::((B1++A1)++[q])):=by
    have:=Simp.rot (eQ▸hQ)
    simpa using this
   have aQ:ar (a::((A'++w::B')++[b]))=ar (w::p::((B1++A1)++[q])):=by
    rw [eQ,ar_rot]
    simp
   have wmin:∀ r∈p::((B1++A1)++[q]),lx w r:=fun r hr=>by
    refine hwm r ?_ (fun e=>(List.nodup_cons.1 hQw.nodup).1 (by rw [← e];exact hr))
    rw [eQ]
    simp only [List.mem_cons,List.mem_append,List.not_mem_nil,or_false] at hr ⊢
    rcases hr with hr|(hr|hr)|hr
    ·exact .inr (.inr (.inl hr))
    ·exact .inr (.inr (.inr hr))
    ·exact .inl (.inl hr)
    ·exact .inl (.inr hr)
   obtain⟨τ,hτ,hτw⟩:=sg_of (turns_min hQw (wmin p (by simp)) (wmin q (by simp)))
   have hvw:lx v w:=hmin w hw
   have inQ:∀ r,r∈p::((B1++A1)++[q])→lx v r:=fun r hr=>lx_trans hvw (wmin r hr)
   have hvT:¬ inT (triOf p q w τ hτw) v:=out_min _ (inQ p (by simp)) (inQ q (by simp)) hvw
   have hlen:A1.length+B1.length+4=n:=by
    have e1:=congrArg List.length hA
    have e2:=congrArg List.length hB
    simp at e1 e2 hl
    omega
   by_cases hi:∃ r∈B1++A1,inT (triOf p q w τ hτw) r
   ·obtain⟨x,hx,hxi,hmax⟩:=argmax (fun r=>at3 (triOf p q w τ hτw).V r) _ _ hi
    have hmaxP:∀ r∈B1++v::A1,inT (triOf p q w τ hτw) r→at3 (triOf p q w τ hτw).V r≤at3 (triOf p q w τ hτw).V x:=fun r hr hri=>by
     simp only [List.mem_cons,List.mem_append] at hr
     rcases hr with hr|hr|hr
     ·exact hmax r (List.mem_append.2 (.inl hr)) hri
     ·exact absurd (hr▸hri) hvT
     ·exact hmax r (List.mem_append.2 (.inr hr)) hri
    -- both parts of the polygon without v have the sign of the turn at w
    have parts:∀ N1 N2,B1++A1=N1++x::N2→Simp (w::p::(N1++[x]))∧Simp (w::x::(N2++[q]))∧0<τ*ar (w::p::(N1++[x]))∧0<τ*ar (w::x::(N2++[q]))∧ar (w::p::((B1++A1)++[q]))=ar (w::p::(N1++[x]))+ar (w::x::(N2++[q])):=fun N1 N2 hN=>by
     have e0:w::p::((B1++A1)++[q])=w::p::(N1++x::(N2++[q])):=by rw [hN];simp
     have hQ':=e0▸hQw
     obtain⟨d1,d2⟩:=hQ'.dia (triOf p q w τ hτw) hxi (by rw [← hN];exact hmax)
     obtain⟨iA,iB⟩:=hQ'.inside (triOf p q w τ hτw) hxi
     rw [triOf_A] at iA
     rw [triOf_B] at iB
     have ln:=congrArg List.length hN
     simp at ln
     have sub:∀ r,r∈N1++x::N2→r∈p::((B1++A1)++[q]):=fun r hr=>.tail _ (List.mem_append.2 (.inl (by rw [hN];exact hr)))
     refine⟨d1,d2,?_,?_,by rw [e0,ar_dia]⟩
     ·refine (IH (w::p::(N1++[x])).length (by simp;omega)).1 w p N1 x τ hτ rfl d1 (fun r hr=>wmin r ?_) iB
      simp only [List.mem_cons,List.mem_append,List.not_mem_nil,or_false] at hr
      rcases hr with hr|hr|hr
      ·rw [hr];exact .head _
      ·exact sub r (by simp [hr])
      ·exact sub r (by simp [hr])
     ·refine (IH (w::x::(N2++[q])).length (by simp;omega)).1 w x N2 q τ hτ rfl d2 (fun r hr=>wmin r ?_) iA
      simp only [List.mem_cons,List.mem_append,List.not_mem_nil,or_false] at hr
      rcases hr with hr|hr|hr
      ·exact sub r (by simp [hr])
      ·exact sub r (by simp [hr])
      ·rw [hr];simp
    have fin:∀ {X Y:Int},0<τ*X→0<τ*Y→σ=τ→0<σ*(X+Y):=fun hX hY e=>by
     rw [e,Int.mul_add]
     omega
    have hTA:∀ r∈A',¬ inT (triOf a b v σ h) r:=fun r hr=>hT r (List.mem_append.2 (.inl hr))
    have hTB:∀ r∈B',¬ inT (triOf a b v σ h) r:=fun r hr=>hT r (List.mem_append.2 (.inr (.tail _ hr)))
    have hTw:=hT w hwK
    rw [aQ]
    rcases List.mem_append.1 hx with hxB|hxA
    ·obtain⟨N1,M,rfl⟩:=List.append_of_mem hxB
     obtain⟨d1,d2,g1,g2,g3⟩:=parts N1 (M++A1) (by simp)
     have e0:w::p::(((N1++x::M)++v::A1)++[q])=w::p::(N1++x::((M++v::A1)++[q])):=by simp
     obtain⟨-,f2⟩:=(e0▸hPw).dia (triOf p q w τ hτw) hxi (by
      intro r hr
      exact hmaxP r (by simpa using hr))
     -- the part with v
     obtain⟨M',b',hM⟩:=last_split (show x::M≠[] by simp)
     have hB2:B'++[b]=(p::N1++M')++[b']:=by
      rw [hB,← List.cons_append,hM]
      simp
     obtain⟨hB3,hb⟩:=List.append_inj' hB2 rfl
     have hb:b=b':=by simpa using hb
     subst hb
     have eR:(w::x::M)++(v::(A1++[q]))=w::x::((M++v::A1)++[q]):=by simp
     have hR:Simp ((v::(A1++[q]))++(w::x::M)):=Simp.rot (eR▸f2)
     have eR2:(v::(A1++[q]))++(w::x::M)=v::a::((A'++w::M')++[b]):=by rw [hM,← hA];simp
     rw [eR2] at hR
     have l1:=congrArg List.length hA
     have l2:=congrArg List.length hM
     simp at l1 l2 hlen
     have t:=(IH (v::a::((A'++w::M')++[b])).length (by simp;omega)).2 v a (A'++w::M') b σ h hσ rfl hR (fun r hr=>hmin r (by
      simp only [List.mem_cons,List.mem_append,List.not_mem_nil,or_false,hB3,List.cons_append] at hr ⊢
      rcases hr with hr|(hr|hr|hr)|hr
      ·exact .inl hr
      ·exact .inr (.inl (.inl hr))
      ·exact .inr (.inl (.inr (.inl hr)))
      ·exact .inr (.inl (.inr (.inr (.inr (.inr hr)))))
      ·exact .inr (.inr hr))) (by simp) (fun r hr=>by
      simp only [List.mem_cons,List.mem_append] at hr
      rcases hr with hr|hr|hr
      ·exact hTA r hr
      ·rw [hr];exact hTw
      ·exact hTB r (by rw [hB3];simp [hr]))
     have eR3:a::((A'++w::M')++[b])=(A1++[q])++(w::x::M):=by rw [hM,← hA];simp
     rw [eR3,ar_rot] at t
     have eR4:(w::x::M)++(A1++[q])=w::x::((M++A1)++[q]):=by simp
     rw [eR4] at t
     rw [g3]
     exact fin g1 g2 (sg_same hσ hτ t g2)
    ·obtain⟨M,N2,rfl⟩:=List.append_of_mem hxA
     obtain⟨d1,d2,g1,g2,g3⟩:=parts (B1++M) N2 (by simp)
     have e0:w::p::((B1++v::(M++x::N2))++[q])=w::p::((B1++v::M)++x::(N2++[q])):=by simp
     obtain⟨f1,-⟩:=(e0▸hPw).dia (triOf p q w τ hτw) hxi (by
      intro r hr
      exact hmaxP r (by simpa using hr))
     obtain⟨a',M',hM⟩:=first_split (show M++[x]≠[] by simp)
     have hA2:a::A'=a'::(M'++(N2++[q])):=by
      rw [hA,← List.cons_append,← hM]
      simp
     injection hA2 with hA3 hA4
     subst hA3
     have eR:(w::p::B1)++(v::(M++[x]))=w::p::((B1++v::M)++[x]):=by simp
     have hR:Simp ((v::(M++[x]))++(w::p::B1)):=Simp.rot (eR▸f1)
     have eR2:(v::(M++[x]))++(w::p::B1)=v::a::((M'++w::B')++[b]):=by rw [hM,← hB];simp
     rw [eR2] at hR
     have l1:=congrArg List.length hB
     have l2:=congrArg List.length hM
     simp at l1 l2 hlen
     have t:=(IH (v::a::((M'++w::B')++[b])).length (by simp;omega)).2 v a (M'++w::B') b σ h hσ rfl hR (fun r hr=>hmin r (by
      simp only [List.mem_cons,List.mem_append,List.not_mem_nil,or_false,hA4] at hr ⊢
      rcases hr with hr|(hr|hr|hr)|hr
      ·exact .inl hr
      ·exact .inr (.inl (.inl (.inl hr)))
      ·exact .inr (.inl (.inr (.inl hr)))
      ·exact .inr (.inl (.inr (.inr hr)))
      ·exact .inr (.inr hr))) (by simp) (fun r hr=>by
      simp only [List.mem_cons,List.mem_append] at hr
      rcases hr with hr|hr|hr
      ·exact hTA r (by rw [hA4];simp [hr])
      ·rw [hr];exact hTw
      ·exact hTB r hr)
     have eR3:a::((M'++w::B')++[b])=(M++[x])++(w::p::B1):=by rw [hM,← hB];simp
     rw [eR3,ar_rot] at t
     have eR4:(w::p::B1)++(M++[x])=w::p::((B1++M)++[x]):=by simp
     rw [eR4] at t
     rw [g3]
     exact fin g1 g2 (sg_same hσ hτ t g1)
   ·have hno:∀ r∈B1++A1,¬ inT (triOf p q w τ hτw) r:=fun r hr g=>hi ⟨r,hr,g⟩
    by_cases h0:B1++A1=[]
    ·obtain⟨rfl,rfl⟩:=List.append_eq_nil_iff.1 h0
     simp only [List.nil_append,List.cons.injEq] at hA
     obtain⟨rfl,rfl⟩:=hA
     have hB':B'=[]:=by
      have:=congrArg List.length hB
      simp at this
      exact this
     subst hB'
     have hs:=ear_four (triOf a b v σ h) (sidea w (.inr (mpe _ (by simp [pe]))) hwK) (sideb w (.inl (mpe _ (by simp [pe]))) hwK) (hT w hwK) (hmin a (by simp)) (hmin b (by simp)) hvw
     rw [triOf_V] at hs
     show 0<σ*ar [a,w,b]
     rw [ar_three,cross_swap2,Int.mul_neg]
     omega
    ·have t1:=(IH (w::p::((B1++A1)++[q])).length (by simp;omega)).2 w p (B1++A1) q τ hτw hτ rfl hQw wmin h0 hno
     have s:=hPw.ear (by simp) (triOf p q w τ hτw) (fun r hr=>by
      simp only [List.mem_cons,List.mem_append] at hr
      rcases hr with hr|hr|hr
      ·exact hno r (List.mem_append.2 (.inl hr))
      ·rw [hr];exact hvT
      ·exact hno r (List.mem_append.2 (.inr hr)))
     have eR:(p::B1)++(v::(A1++[q]))=p::((B1++v::A1)++[q]):=by simp
     have hR:Simp ((v::(A1++[q]))++(p::B1)):=Simp.rot (eR▸s)
     have eR2:(v::(A1++[q]))++(p::B1)=v::a::((A'++B')++[b]):=by rw [← hB,← hA];simp
     rw [eR2] at hR
     have l1:=congrArg List.length hA
     have l2:=congrArg List.length hB
     simp at l1 l2
     have hAB:A'++B'≠[]:=fun e=>h0 (by
      obtain⟨rfl,rfl⟩:=List.append_eq_nil_iff.1 e
      simp at l1 l2
      exact List.length_eq_zero_iff.1 (by rw [List.length_append];omega))
     have t2:=(IH (v::a::((A'++B')++[b])).length (by simp;omega)).2 v a (A'++B') b σ h hσ rfl hR (fun r hr=>hmin r (by
      simp only [List.mem_cons,List.mem_append,List.not_mem_nil,or_false] at hr ⊢
      rcases hr with hr|(hr|hr)|hr
      ·exact .inl hr
      ·exact .inr (.inl (.inl hr))
      ·exact .inr (.inl (.inr (.inr hr)))
      ·exact .inr (.inr hr))) hAB (fun r hr=>by
      rcases List.mem_append.1 hr with hr|hr
      ·exact hT r (List.mem_append.2 (.inl hr))
      ·exact hT r (List.mem_append.2 (.inr (.tail _ hr))))
     have eR3:a::((A'++B')++[b])=(A1++[q])++(p::B1):=by rw [← hB,← hA];simp
     rw [eR3,ar_rot] at t2
     have eR4:(p::B1)++(A1++[q])=p::((B1++A1)++[q]):=by simp
     rw [eR4] at t2
     have es:=sg_same hσ hτ t2 t1
     subst es
     rw [aQ,ar_ear,Int.mul_add]
     omega
theorem TE:∀ n,Ts n∧Es n:=fun n=>by
 induction n using Nat.strongRecOn with
 |_ n ih =>
  have hE:Es n:=E_step ih
  exact⟨T_step (fun m hm=>(ih m hm).1) hE,hE⟩
end Go.Aw
end

noncomputable section
namespace Go.Aw
theorem ends_ord {s:Sg}(h:rightG s=true):∃ a b:Pq,((a=s.1∧b=s.2)∨(a=s.2∧b=s.1))∧key a<key b∧endsS s=(a,b)∧rightS a=true∧rightS b=true:=by
 obtain⟨r1,r2,ns⟩:=right_two h
 have nk:key s.1≠key s.2:=(eqP_keyf r1 r2).1 ((eqP_f _ _).2 ns)
 unfold endsS
 simp only [ord_key r1 r2,cmp_gt]
 by_cases hk:key s.2<key s.1
 ·rw [if_pos hk];exact⟨s.2,s.1,.inr ⟨rfl,rfl⟩,hk,rfl,r2,r1⟩
 ·rw [if_neg hk];exact⟨s.1,s.2,.inl ⟨rfl,rfl⟩,by omega,rfl,r1,r2⟩
theorem meet_line {s t:Sg}(h:turnS s.1 s.2 t.1=0∧turnS s.1 s.2 t.2=0){a b c d:Pq}(hs:endsS s=(a,b))(ht:endsS t=(c,d))(ra:rightS a=true)(rb:rightS b=true)(rc:rightS c=true)(rd:rightS d=true) :
  meetS s t=if (if key a<key c then key c else key a)<(if key d<key b then key d else key b) then 4 else if (if key a<key c then key c else key a)=(if key d<key b then key d else key b) then 1 else 0:=by
 unfold meetS
 rw [if_pos h]
 unfold lowS highS
 rw [hs,ht]
 simp only [ord_key ra rc,ord_key rd rb,cmp_lt]
 by_cases h1:key a<key c
 ·by_cases h2:key d<key b
  ·simp only [if_pos h1,if_pos h2];rw [ord_key rc rd,tbl_cmp]
  ·simp only [if_pos h1,if_neg h2];rw [ord_key rc rb,tbl_cmp]
 ·by_cases h2:key d<key b
  ·simp only [if_neg h1,if_pos h2];rw [ord_key ra rd,tbl_cmp]
  ·simp only [if_neg h1,if_neg h2];rw [ord_key ra rb,tbl_cmp]
theorem onW_ends {N x y:Int}{s:Sg}{a b:Pq}(h:(a=s.1∧b=s.2)∨(a=s.2∧b=s.1)):onW N x y s.1 s.2↔onW N x y a b:=by
 rcases h with ⟨rfl,rfl⟩|⟨rfl,rfl⟩
 ·exact Iff.rfl
 ·exact⟨onW_rev,onW_rev⟩
theorem onW_key {N x y:Int}{a b:Pq}(h:onW N x y a b)(hk:key a≤key b):N*key a≤x*100000+y∧x*100000+y≤N*key b:=by
 obtain⟨α,β,h1,h2,h3,h4,h5⟩:=h
 have e:x*100000+y=α*key a+β*key b:=by
  unfold key
  rw [h4,h5]
  grind
 have m1:=Int.mul_le_mul_of_nonneg_left hk h1
 have m2:=Int.mul_le_mul_of_nonneg_left hk h2
 rw [e,← h3,Int.add_mul,Int.add_mul]
 omega
theorem onW_low {N x y:Int}{a b:Pq}(h:onW N x y a b)(hk:key a<key b)(e:x*100000+y=N*key a):x=N*a.1∧y=N*a.2:=by
 obtain⟨α,β,h1,h2,h3,h4,h5⟩:=h
 have e2:x*100000+y=α*key a+β*key b:=by
  unfold key
  rw [h4,h5]
  grind
 rw [e,← h3,Int.add_mul] at e2
 have e3:β*(key b - key a)=0:=by rw [Int.mul_sub];omega
 have hb:β=0:=(mul_zero_or e3).resolve_right (by omega)
 subst hb
 rw [Int.add_zero] at h3
 subst h3
 simp only [Int.zero_mul,Int.add_zero] at h4 h5
 exact⟨h4,h5⟩
theorem onW_high {N x y:Int}{a b:Pq}(h:onW N x y a b)(hk:key a<key b)(e:x*100000+y=N*key b):x=N*b.1∧y=N*b.2:=by
 obtain⟨α,β,h1,h2,h3,h4,h5⟩:=h
 have e2:x*100000+y=α*key a+β*key b:=by
  unfold key
  rw [h4,h5]
  grind
 rw [e,← h3,Int.add_mul] at e2
 have e3:α*(key b - key a)=0:=by rw [Int.mul_sub];omega
 have hb:α=0:=(mul_zero_or e3).resolve_right (by omega)
 subst hb
 rw [Int.zero_add] at h3
 subst h3
 simp only [Int.zero_mul,Int.zero_add] at h4 h5
 exact⟨h4,h5⟩
theorem cancel_pt {N:Int}(hN:0<N){p q:Pq}(h1:N*p.1=N*q.1)(h2:N*p.2=N*q.2):p=q :=
 Prod.ext (Int.eq_of_mul_eq_mul_left (by omega) h1) (Int.eq_of_mul_eq_mul_left (by omega) h2)
theorem cross_on {N x y α β:Int}{p q a b:Pq}(h3:α+β=N)(h4:x=α*p.1+β*q.1)(h5:y=α*p.2+β*q.2) :
  α*crossI a b p+β*crossI a b q=(b.1 - a.1)*(y - N*a.2) - (b.2 - a.2)*(x - N*a.1):=by
 subst h3 h4 h5
 unfold crossI
 grind
theorem cross_own {N x y:Int}{a b:Pq}(h:onW N x y a b):(b.1 - a.1)*(y - N*a.2) - (b.2 - a.2)*(x - N*a.1)=0:=by
 obtain⟨α,β,h1,h2,h3,h4,h5⟩:=h
 subst h3 h4 h5
 grind
theorem sgn_pos2 (A B:Int):0<sgn A*sgn B↔0<A*B:=by
 unfold sgn
 by_cases a0:A<0
 ·by_cases b0:B<0
  ·have:=Int.mul_pos_of_neg_of_neg a0 b0
   simp [a0,b0];omega
  ·by_cases b1:0<B
   ·have:=Int.mul_neg_of_neg_of_pos a0 b1
    simp [a0,b0,b1];omega
   ·have:B=0:=by omega
    subst this
    simp [a0]
 ·by_cases a1:0<A
  ·by_cases b0:B<0
   ·have:=Int.mul_neg_of_pos_of_neg a1 b0
    simp [a0,a1,b0];omega
   ·by_cases b1:0<B
    ·have:=Int.mul_pos a1 b1
     simp [a0,a1,b0,b1];omega
    ·have:B=0:=by omega
     subst this
     simp [a0,a1]
  ·have:A=0:=by omega
   subst this
   simp
theorem zero_mix {γ δ A B N:Int}(h1:0≤γ)(h2:0≤δ)(h3:γ+δ=N)(hN:0<N)(h:γ*A+δ*B=0)(hp:0<A*B):False:=by
 rcases Int.lt_or_lt_of_ne (show A≠0 from fun e=>by rw [e,Int.zero_mul] at hp;omega) with hA|hA
 ·have hB:B<0:=Int.not_le.1 fun hB=>by
   have:=Int.mul_nonpos_of_nonpos_of_nonneg (show A≤0 by omega) hB
   omega
  have m1:γ*A≤0:=Int.mul_nonpos_of_nonneg_of_nonpos h1 (by omega)
  have m2:δ*B≤0:=Int.mul_nonpos_of_nonneg_of_nonpos h2 (by omega)
  have g0:=(mul_zero_or (show γ*A=0 by omega)).resolve_right (by omega)
  have d0:=(mul_zero_or (show δ*B=0 by omega)).resolve_right (by omega)
  omega
 ·have hB:0<B:=Int.not_le.1 fun hB=>by
   have:=Int.mul_nonpos_of_nonneg_of_nonpos (show 0≤A by omega) hB
   omega
  have m1:0≤γ*A:=Int.mul_nonneg h1 (by omega)
  have m2:0≤δ*B:=Int.mul_nonneg h2 (by omega)
  have g0:=(mul_zero_or (show γ*A=0 by omega)).resolve_right (by omega)
  have d0:=(mul_zero_or (show δ*B=0 by omega)).resolve_right (by omega)
  omega
theorem one_zero {γ δ A B N x y:Int}{p q:Pq}(h3:γ+δ=N)(hx:x=γ*p.1+δ*q.1)(hy:y=γ*p.2+δ*q.2)(h:γ*A+δ*B=0)(h0:A=0∨B=0)(hn:¬ (A=0∧B=0)):∃ z:Pq,(z=p∨z=q)∧x=N*z.1∧y=N*z.2:=by
 rcases h0 with rfl|rfl
 ·have hd:=(mul_zero_or (show δ*B=0 by omega)).resolve_right (fun e=>hn ⟨rfl,e⟩)
  subst hd
  refine⟨p,.inl rfl,?_,?_⟩
  ·rw [hx,← h3];grind
  ·rw [hy,← h3];grind
 ·have hd:=(mul_zero_or (show γ*A=0 by omega)).resolve_right (fun e=>hn ⟨e,rfl⟩)
  subst hd
  refine⟨q,.inr rfl,?_,?_⟩
  ·rw [hx,← h3];grind
  ·rw [hy,← h3];grind
theorem meet_ok {s t:Sg}(hs:rightG s=true)(ht:rightG t=true)(h:meetS s t=0∨meetS s t=1):okP s t:=by
 intro N x y hN h1 h2
 by_cases hl:turnS s.1 s.2 t.1=0∧turnS s.1 s.2 t.2=0
 ·obtain⟨a,b,eab,kab,esa,ra,rb⟩:=ends_ord hs
  obtain⟨c,d,ecd,kcd,esc,rc,rd⟩:=ends_ord ht
  rw [meet_line hl esa esc ra rb rc rd] at h
  have o1:=(onW_ends eab).1 h1
  have o2:=(onW_ends ecd).1 h2
  obtain⟨k1,k2⟩:=onW_key o1 (Int.le_of_lt kab)
  obtain⟨k3,k4⟩:=onW_key o2 (Int.le_of_lt kcd)
  have i1:key a≤key d:=Int.le_of_mul_le_mul_left (Int.le_trans k1 k4) hN
  have i2:key c≤key b:=Int.le_of_mul_le_mul_left (Int.le_trans k3 k2) hN
  have sa:a=s.1∨a=s.2:=eab.elim (fun e=>.inl e.1) (fun e=>.inr e.1)
  have sb:b=s.1∨b=s.2:=eab.elim (fun e=>.inr e.2) (fun e=>.inl e.2)
  have tc:c=t.1∨c=t.2:=ecd.elim (fun e=>.inl e.1) (fun e=>.inr e.1)
  have td:d=t.1∨d=t.2:=ecd.elim (fun e=>.inr e.2) (fun e=>.inl e.2)
  have q:key a=key d∨key c=key b:=by
   by_cases g1:key a<key c <;> by_cases g2:key d<key b <;> simp only [g1,g2,if_true,if_false] at h <;> split at h <;> (try split at h) <;> omega
  rcases q with q|q
  ·obtain⟨x1,y1⟩:=onW_low o1 kab (by rw [q] at k1 ⊢;omega)
   obtain⟨x2,y2⟩:=onW_high o2 kcd (by rw [q] at k1;omega)
   have e:=cancel_pt hN (x1.symm.trans x2) (y1.symm.trans y2)
   exact⟨a,sa,by rw [e];exact td,x1,y1⟩
  ·obtain⟨x1,y1⟩:=onW_high o1 kab (by rw [q] at k3;omega)
   obtain⟨x2,y2⟩:=onW_low o2 kcd (by rw [q] at k3 ⊢;omega)
   have e:=cancel_pt hN (x1.symm.trans x2) (y1.symm.trans y2)
   exact⟨b,sb,by rw [e];exact tc,x1,y1⟩
 ·have hl':¬ (turnS t.1 t.2 s.1=0∧turnS t.1 t.2 s.2=0):=fun g=>hl (same_line s t (right_two ht).2.2 g)
  rw [meetS,if_neg hl] at h
  have c1:=cross_own h1
  have c2:=cross_own h2
  obtain⟨α,β,p1,p2,p3,p4,p5⟩:=h1
  obtain⟨γ,δ,q1,q2,q3,q4,q5⟩:=h2
  have m1:=cross_on (a:=t.1) (b:=t.2) p3 p4 p5
  have m2:=cross_on (a:=s.1) (b:=s.2) q3 q4 q5
  rw [c2] at m1
  rw [c1] at m2
  unfold kindS at h
  by_cases g:0<turnS s.1 s.2 t.1*turnS s.1 s.2 t.2∨0<turnS t.1 t.2 s.1*turnS t.1 t.2 s.2
  ·exfalso
   rcases g with g|g
   ·exact zero_mix q1 q2 q3 hN m2 ((sgn_pos2 _ _).1 g)
   ·exact zero_mix p1 p2 p3 hN m1 ((sgn_pos2 _ _).1 g)
  ·rw [if_neg g] at h
   by_cases g2:(turnS t.1 t.2 s.1=0∨turnS t.1 t.2 s.2=0)∧(turnS s.1 s.2 t.1=0∨turnS s.1 s.2 t.2=0)
   ·simp only [turn0] at g2 hl hl'
    obtain⟨z,z1,z2,z3⟩:=one_zero p3 p4 p5 m1 g2.1 hl'
    obtain⟨w,w1,w2,w3⟩:=one_zero q3 q4 q5 m2 g2.2 hl
    have e:=cancel_pt hN (z2.symm.trans w2) (z3.symm.trans w3)
    exact⟨z,z1,by rw [e];exact w1,z2,z3⟩
   ·rw [if_neg g2] at h
    split at h <;> omega
theorem onW_of_key {p a b:Pq}(h0:crossI a b p=0)(h1:key a≤key p)(h2:key p≤key b):onW (key b - key a) ((key b - key a)*p.1) ((key b - key a)*p.2) a b:=by
 refine onW_mid (k:=key p - key a) (by omega) (by omega) ?_ ?_
 ·unfold crossI at h0
  unfold key
  grind
 ·unfold crossI at h0
  unfold key
  grind
theorem cross_ab (a b p:Pq):crossI b a p = -crossI a b p:=cross_flip a b p
end Go.Aw
end
