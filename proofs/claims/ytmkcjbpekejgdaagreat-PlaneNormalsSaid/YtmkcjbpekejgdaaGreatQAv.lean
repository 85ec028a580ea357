/-
  Parts of a proof. No condition.
-/
import Derived.Test.YtmkcjbpekejgdaaGreatQAt
import Derived.Test.YtmkcjbpekejgdaaGreatQAu
import Derived.WalkKit
set_option linter.unusedSimpArgs false
set_option linter.unusedVariables false
noncomputable section
namespace Go.Aw
theorem last_split {L:List Pq}(h:L≠[]):∃ R q,L=R++[q]:=⟨_,_,(List.dropLast_concat_getLast h).symm⟩
theorem first_split {L:List Pq}(h:L≠[]):∃ p R,L=p::R:=by
 cases L with
 |nil=>exact absurd rfl h
 |cons p R=>exact⟨p,R,rfl⟩
theorem cross_swap2 (a b c:Pq):crossI a c b = -crossI a b c:=by
 unfold crossI
 grind
def sgP (σ:Int):Prop:=σ=1∨σ = -1
theorem sg_of {x:Int}(h:x≠0):∃ τ,sgP τ∧0<τ*x:=by
 by_cases g:0<x
 ·exact⟨1,.inl rfl,by omega⟩
 ·exact⟨-1,.inr rfl,by omega⟩
theorem sg_same {σ τ x:Int}(hσ:sgP σ)(hτ:sgP τ)(h1:0<σ*x)(h2:0<τ*x):σ=τ:=by
 rcases hσ with rfl|rfl <;> rcases hτ with rfl|rfl <;> first|rfl|omega
def Ts (n:Nat):Prop:=∀ (v a:Pq) (K:List Pq) (b:Pq) (σ:Int),sgP σ→(v::a::(K++[b])).length=n→Simp (v::a::(K++[b]))→(∀ p∈a::(K++[b]),lx v p)→0<σ*crossI b v a→0<σ*ar (v::a::(K++[b]))
def Es (n:Nat):Prop:=∀ (v a:Pq) (K:List Pq) (b:Pq) (σ:Int) (h:0<σ*crossI b v a),sgP σ→(v::a::(K++[b])).length=n→Simp (v::a::(K++[b]))→(∀ p∈a::(K++[b]),lx v p)→K≠[]→(∀ p∈K,¬ inT (triOf a b v σ h) p)→0<σ*ar (a::(K++[b]))
theorem T_step {n:Nat}(IH:∀ m,m<n→Ts m)(hE:Es n):Ts n:=by
 intro v a K b σ hσ hl hP hmin h
 by_cases hi:∃ p∈K,inT (triOf a b v σ h) p
 ·obtain⟨x,hx,hxi,hmax⟩:=argmax (fun p=>at3 (triOf a b v σ h).V p) _ K hi
  obtain⟨N1,N2,rfl⟩:=List.append_of_mem hx
  have hP':Simp (v::a::(N1++x::(N2++[b]))):=by simpa using hP
  obtain⟨d1,d2⟩:=hP'.dia (triOf a b v σ h) hxi hmax
  obtain⟨iA,iB⟩:=hP'.inside (triOf a b v σ h) hxi
  rw [triOf_A] at iA
  rw [triOf_B] at iB
  simp only [List.length_cons,List.length_append,List.length_nil] at hl
  have t1:=IH (v::a::(N1++[x])).length (by simp;omega) v a N1 x σ hσ rfl d1 (fun p hp=>hmin p (by
   simp only [List.mem_cons,List.mem_append,List.not_mem_nil,or_false] at hp ⊢
   rcases hp with hp|hp|hp
   ·exact .inl hp
   ·exact .inr (.inl (.inl hp))
   ·exact .inr (.inl (.inr (.inl hp))))) iB
  have t2:=IH (v::x::(N2++[b])).length (by simp;omega) v x N2 b σ hσ rfl d2 (fun p hp=>hmin p (by
   simp only [List.mem_cons,List.mem_append,List.not_mem_nil,or_false] at hp ⊢
   rcases hp with hp|hp|hp
   ·exact .inr (.inl (.inr (.inl hp)))
   ·exact .inr (.inl (.inr (.inr hp)))
   ·exact .inr (.inr hp))) iA
  have e:=ar_dia v a N1 x N2 b
  have e':v::a::((N1++x::N2)++[b])=v::a::(N1++x::(N2++[b])):=by simp
  rw [e',e,Int.mul_add]
  omega
 ·by_cases hK:K=[]
  ·subst hK
   rw [show v::a::([]++[b])=[v,a,b] from rfl,ar_three]
   exact h
  ·have:=hE v a K b σ h hσ hl hP hmin hK (fun p hp g=>hi ⟨p,hp,g⟩)
   rw [ar_ear,Int.mul_add]
   omega
theorem E_step {n:Nat}(IH:∀ m,m<n→Ts m∧Es m):Es n:=by
 intro v a K b σ h hσ hl hP hmin hK hT
 have hQ:Simp (a::(K++[b])):=hP.ear hK (triOf a b v σ h) hT
 have hnQ:=hQ.nodup
 simp only [List.length_cons,List.length_append,List.length_nil] at hl
 have mva:(v,a)∈cl (v::a::(K++[b])):=by rw [cl_first];exact .head _
 have mbv:(b,v)∈cl (v::a::(K++[b])):=by rw [cl_first];exact .tail _ (List.mem_append.2 (.inr (.head _)))
 have mpe:∀ e∈pe (a::(K++[b])),e∈cl (v::a::(K++[b])):=fun e he=>by rw [cl_first];exact .tail _ (List.mem_append.2 (.inl he))
 have nv:v∉a::(K++[b]):=(List.nodup_cons.1 hP.nodup).1
 obtain⟨w,hw,hwm⟩:=lx_min (a::(K++[b])) (by simp)
 have sidea:∀ m,(m,a)∈cl (v::a::(K++[b]))∨(a,m)∈cl (v::a::(K++[b]))→m∈K→okP (m,a) (b,v):=fun m hm hmK=>by
  have mv:m≠v:=fun e=>nv (by rw [← e];simp [hmK])
  have av:a≠v:=fun e=>nv (by rw [← e];simp)
  rcases hm with hm|hm
  ·exact hP.ok _ hm _ mbv (fun e=>av (congrArg Prod.snd e))
  ·exact okP_rev (hP.ok _ hm _ mbv (fun e=>mv (congrArg Prod.snd e)))
 have sideb:∀ m,(m,b)∈cl (v::a::(K++[b]))∨(b,m)∈cl (v::a::(K++[b]))→m∈K→okP (m,b) (a,v):=fun m hm hmK=>by
  have mv:m≠v:=fun e=>nv (by rw [← e];simp [hmK])
  have bv:b≠v:=fun e=>nv (by rw [← e];simp)
  refine okP_symm (okP_rev (e:=(v,a)) (okP_symm ?_))
  rcases hm with hm|hm
  ·exact hP.ok _ hm _ mva (fun e=>mv (congrArg Prod.fst e))
  ·exact okP_rev (hP.ok _ hm _ mva (fun e=>bv (congrArg Prod.fst e)))
 by_cases hwa:w=a
 ·subst hwa
  obtain⟨m,K',rfl⟩:=first_split hK
  have na:∀ p∈m::(K'++[b]),p≠w:=fun p hp e=>(List.nodup_cons.1 hnQ).1 (by rw [← e];simpa using hp)
  have hs:=ear_side (triOf w b v σ h) (sidea m (.inr (mpe _ (by simp [pe]))) (.head _)) (hT m (.head _)) (hmin w (.head _)) (hwm b (by simp) (na b (by simp))) (hwm m (by simp) (na m (by simp)))
  rw [triOf_V] at hs
  have t:=(IH (w::m::(K'++[b])).length (by simp at hl ⊢;omega)).1 w m K' b σ hσ rfl (by simpa using hQ) (fun p hp=>hwm p (by simp only [List.cons_append];exact .tail _ hp) (na p hp)) (by
   rw [cross_swap2,Int.mul_neg]
   omega)
  simpa using t
 ·by_cases hwb:w=b
  ·subst hwb
   obtain⟨K',m,rfl⟩:=last_split hK
   have hQ2:Simp (w::a::(K'++[m])):=Simp.rot (A:=a::(K'++[m])) (B:=[w]) hQ
   have na:∀ p∈a::(K'++[m]),p≠w:=fun p hp e=>(List.nodup_cons.1 hQ2.nodup).1 (by rw [← e];exact hp)
   have hmw:(m,w)∈pe (a::((K'++[m])++[w])):=by
    have:=pe_app (a::K') m [w]
    simp only [List.cons_append,List.append_assoc,List.nil_append] at this ⊢
    rw [this]
    simp [pe]
   have hs:=ear_side (triOf a w v σ h).swap (sideb m (.inl (mpe _ hmw)) (by simp)) (fun g=>hT m (by simp) ⟨g.2.1,g.1,g.2.2⟩) (hmin w (by simp)) (hwm a (by simp) (na a (by simp))) (hwm m (by simp) (na m (by simp)))
   have hs:at3 (triOf a w v σ h).V m<0:=hs
   rw [triOf_V] at hs
   have t:=(IH (w::a::(K'++[m])).length (by simp at hl ⊢;omega)).1 w a K' m σ hσ rfl hQ2 (fun p hp=>hwm p (by
    simp only [List.mem_cons,List.mem_append,List.not_mem_nil,or_false] at hp ⊢
    rcases hp with hp|hp
    ·exact .inl hp
    ·exact .inr (.inl hp)) (na p hp)) (by
    rw [cross_flip w m a,Int.mul_neg]
    omega)
   have e:=ar_rot (a::(K'++[m])) [w]
   have e2:a::((K'++[m])++[w])=a::(K'++[m])++[w]:=by simp
   rw [e2,e]
   exact t
  ·have hwK:w∈K:=by
    simp only [List.mem_cons,List.mem_append,List.not_mem_nil,or_false] at hw
    rcases hw with hw|hw|hw
    ·exact absurd hw hwa
    ·exact hw
    ·exact absurd hw hwb
   obtain⟨A',B',rfl⟩:=List.append_of_mem hwK
   obtain⟨A1,q,hA⟩:=last_split (show a::A'≠[] by simp)
   obtain⟨p,B1,hB⟩:=first_split (show B'++[b]≠[] by simp)
   have eP:v::a::((A'++w::B')++[b])=(v::(A1++[q]))++(w::p::B1):=by rw [← hA,← hB];simp
   have eQ:a::((A'++w::B')++[b])=(A1++[q])++(w::p::B1):=by rw [← hA,← hB];simp
   have hPw:Simp (w::p::((B1++v::A1)++[q])):=by
    have:=Simp.rot (eP▸hP)
    simpa using this
   have hQw:Simp (w::p::((B1++A1)++[q])):=by
    have:=Simp.rot (eQ▸hQ)
    simpa using this
   have aQ:ar (a::((A'++w::B')++[b]))=ar (w::p::((B1++A1)++[q])):=by
    rw [eQ,ar_rot]
    simp
   have wmin:∀ r∈p::((B1++A1)++[q]),lx w r:=fun r hr=>by
    refine hwm r ?_ (fun e=>(List.nodup_cons.1 hQw.nodup).1 (by rw [← e];exact hr))
    rw [eQ]
    simp only [List.mem_cons,List.mem_append,List.not_mem_nil,or_false] at hr ⊢
    rcases hr with hr|(hr|hr)|hr
    ·exact .inr (.inr (.inl hr))
    ·exact .inr (.inr (.inr hr))
    ·exact .inl (.inl hr)
    ·exact .inl (.inr hr)
   obtain⟨τ,hτ,hτw⟩:=sg_of (turns_min hQw (wmin p (by simp)) (wmin q (by simp)))
   have hvw:lx v w:=hmin w hw
   have inQ:∀ r,r∈p::((B1++A1)++[q])→lx v r:=fun r hr=>lx_trans hvw (wmin r hr)
   have hvT:¬ inT (triOf p q w τ hτw) v:=out_min _ (inQ p (by simp)) (inQ q (by simp)) hvw
   have hlen:A1.length+B1.length+4=n:=by
    have e1:=congrArg List.length hA
    have e2:=congrArg List.length hB
    simp at e1 e2 hl
    omega
   by_cases hi:∃ r∈B1++A1,inT (triOf p q w τ hτw) r
   ·obtain⟨x,hx,hxi,hmax⟩:=argmax (fun r=>at3 (triOf p q w τ hτw).V r) _ _ hi
    have hmaxP:∀ r∈B1++v::A1,inT (triOf p q w τ hτw) r→at3 (triOf p q w τ hτw).V r≤at3 (triOf p q w τ hτw).V x:=fun r hr hri=>by
     simp only [List.mem_cons,List.mem_append] at hr
     rcases hr with hr|hr|hr
     ·exact hmax r (List.mem_append.2 (.inl hr)) hri
     ·exact absurd (hr▸hri) hvT
     ·exact hmax r (List.mem_append.2 (.inr hr)) hri
    -- both parts of the polygon without v have the sign of the turn at w
    have parts:∀ N1 N2,B1++A1=N1++x::N2→Simp (w::p::(N1++[x]))∧Simp (w::x::(N2++[q]))∧0<τ*ar (w::p::(N1++[x]))∧0<τ*ar (w::x::(N2++[q]))∧ar (w::p::((B1++A1)++[q]))=ar (w::p::(N1++[x]))+ar (w::x::(N2++[q])):=fun N1 N2 hN=>by
     have e0:w::p::((B1++A1)++[q])=w::p::(N1++x::(N2++[q])):=by rw [hN];simp
     have hQ':=e0▸hQw
     obtain⟨d1,d2⟩:=hQ'.dia (triOf p q w τ hτw) hxi (by rw [← hN];exact hmax)
     obtain⟨iA,iB⟩:=hQ'.inside (triOf p q w τ hτw) hxi
     rw [triOf_A] at iA
     rw [triOf_B] at iB
     have ln:=congrArg List.length hN
     simp at ln
     have sub:∀ r,r∈N1++x::N2→r∈p::((B1++A1)++[q]):=fun r hr=>.tail _ (List.mem_append.2 (.inl (by rw [hN];exact hr)))
     refine⟨d1,d2,?_,?_,by rw [e0,ar_dia]⟩
     ·refine (IH (w::p::(N1++[x])).length (by simp;omega)).1 w p N1 x τ hτ rfl d1 (fun r hr=>wmin r ?_) iB
      simp only [List.mem_cons,List.mem_append,List.not_mem_nil,or_false] at hr
      rcases hr with hr|hr|hr
      ·rw [hr];exact .head _
      ·exact sub r (by simp [hr])
      ·exact sub r (by simp [hr])
     ·refine (IH (w::x::(N2++[q])).length (by simp;omega)).1 w x N2 q τ hτ rfl d2 (fun r hr=>wmin r ?_) iA
      simp only [List.mem_cons,List.mem_append,List.not_mem_nil,or_false] at hr
      rcases hr with hr|hr|hr
      ·exact sub r (by simp [hr])
      ·exact sub r (by simp [hr])
      ·rw [hr];simp
    have fin:∀ {X Y:Int},0<τ*X→0<τ*Y→σ=τ→0<σ*(X+Y):=fun hX hY e=>by
     rw [e,Int.mul_add]
     omega
    have hTA:∀ r∈A',¬ inT (triOf a b v σ h) r:=fun r hr=>hT r (List.mem_append.2 (.inl hr))
    have hTB:∀ r∈B',¬ inT (triOf a b v σ h) r:=fun r hr=>hT r (List.mem_append.2 (.inr (.tail _ hr)))
    have hTw:=hT w hwK
    rw [aQ]
    rcases List.mem_append.1 hx with hxB|hxA
    ·obtain⟨N1,M,rfl⟩:=List.append_of_mem hxB
     obtain⟨d1,d2,g1,g2,g3⟩:=parts N1 (M++A1) (by simp)
     have e0:w::p::(((N1++x::M)++v::A1)++[q])=w::p::(N1++x::((M++v::A1)++[q])):=by simp
     obtain⟨-,f2⟩:=(e0▸hPw).dia (triOf p q w τ hτw) hxi (by
      intro r hr
      exact hmaxP r (by simpa using hr))
     -- the part with v
     obtain⟨M',b',hM⟩:=last_split (show x::M≠[] by simp)
     have hB2:B'++[b]=(p::N1++M')++[b']:=by
      rw [hB,← List.cons_append,hM]
      simp
     obtain⟨hB3,hb⟩:=List.append_inj' hB2 rfl
     have hb:b=b':=by simpa using hb
     subst hb
     have eR:(w::x::M)++(v::(A1++[q]))=w::x::((M++v::A1)++[q]):=by simp
     have hR:Simp ((v::(A1++[q]))++(w::x::M)):=Simp.rot (eR▸f2)
     have eR2:(v::(A1++[q]))++(w::x::M)=v::a::((A'++w::M')++[b]):=by rw [hM,← hA];simp
     rw [eR2] at hR
     have l1:=congrArg List.length hA
     have l2:=congrArg List.length hM
     simp at l1 l2 hlen
     have t:=(IH (v::a::((A'++w::M')++[b])).length (by simp;omega)).2 v a (A'++w::M') b σ h hσ rfl hR (fun r hr=>hmin r (by
      simp only [List.mem_cons,List.mem_append,List.not_mem_nil,or_false,hB3,List.cons_append] at hr ⊢
      rcases hr with hr|(hr|hr|hr)|hr
      ·exact .inl hr
      ·exact .inr (.inl (.inl hr))
      ·exact .inr (.inl (.inr (.inl hr)))
      ·exact .inr (.inl (.inr (.inr (.inr (.inr hr)))))
      ·exact .inr (.inr hr))) (by simp) (fun r hr=>by
      simp only [List.mem_cons,List.mem_append] at hr
      rcases hr with hr|hr|hr
      ·exact hTA r hr
      ·rw [hr];exact hTw
      ·exact hTB r (by rw [hB3];simp [hr]))
     have eR3:a::((A'++w::M')++[b])=(A1++[q])++(w::x::M):=by rw [hM,← hA];simp
     rw [eR3,ar_rot] at t
     have eR4:(w::x::M)++(A1++[q])=w::x::((M++A1)++[q]):=by simp
     rw [eR4] at t
     rw [g3]
     exact fin g1 g2 (sg_same hσ hτ t g2)
    ·obtain⟨M,N2,rfl⟩:=List.append_of_mem hxA
     obtain⟨d1,d2,g1,g2,g3⟩:=parts (B1++M) N2 (by simp)
     have e0:w::p::((B1++v::(M++x::N2))++[q])=w::p::((B1++v::M)++x::(N2++[q])):=by simp
     obtain⟨f1,-⟩:=(e0▸hPw).dia (triOf p q w τ hτw) hxi (by
      intro r hr
      exact hmaxP r (by simpa using hr))
     obtain⟨a',M',hM⟩:=first_split (show M++[x]≠[] by simp)
     have hA2:a::A'=a'::(M'++(N2++[q])):=by
      rw [hA,← List.cons_append,← hM]
      simp
     injection hA2 with hA3 hA4
     subst hA3
     have eR:(w::p::B1)++(v::(M++[x]))=w::p::((B1++v::M)++[x]):=by simp
     have hR:Simp ((v::(M++[x]))++(w::p::B1)):=Simp.rot (eR▸f1)
     have eR2:(v::(M++[x]))++(w::p::B1)=v::a::((M'++w::B')++[b]):=by rw [hM,← hB];simp
     rw [eR2] at hR
     have l1:=congrArg List.length hB
     have l2:=congrArg List.length hM
     simp at l1 l2 hlen
     have t:=(IH (v::a::((M'++w::B')++[b])).length (by simp;omega)).2 v a (M'++w::B') b σ h hσ rfl hR (fun r hr=>hmin r (by
      simp only [List.mem_cons,List.mem_append,List.not_mem_nil,or_false,hA4] at hr ⊢
      rcases hr with hr|(hr|hr|hr)|hr
      ·exact .inl hr
      ·exact .inr (.inl (.inl (.inl hr)))
      ·exact .inr (.inl (.inr (.inl hr)))
      ·exact .inr (.inl (.inr (.inr hr)))
      ·exact .inr (.inr hr))) (by simp) (fun r hr=>by
      simp only [List.mem_cons,List.mem_append] at hr
      rcases hr with hr|hr|hr
      ·exact hTA r (by rw [hA4];simp [hr])
      ·rw [hr];exact hTw
      ·exact hTB r hr)
     have eR3:a::((M'++w::B')++[b])=(M++[x])++(w::p::B1):=by rw [hM,← hB];simp
     rw [eR3,ar_rot] at t
     have eR4:(w::p::B1)++(M++[x])=w::p::((B1++M)++[x]):=by simp
     rw [eR4] at t
     rw [g3]
     exact fin g1 g2 (sg_same hσ hτ t g1)
   ·have hno:∀ r∈B1++A1,¬ inT (triOf p q w τ hτw) r:=fun r hr g=>hi ⟨r,hr,g⟩
    by_cases h0:B1++A1=[]
    ·obtain⟨rfl,rfl⟩:=List.append_eq_nil_iff.1 h0
     simp only [List.nil_append,List.cons.injEq] at hA
     obtain⟨rfl,rfl⟩:=hA
     have hB':B'=[]:=by
      have:=congrArg List.length hB
      simp at this
      exact this
     subst hB'
     have hs:=ear_four (triOf a b v σ h) (sidea w (.inr (mpe _ (by simp [pe]))) hwK) (sideb w (.inl (mpe _ (by simp [pe]))) hwK) (hT w hwK) (hmin a (by simp)) (hmin b (by simp)) hvw
     rw [triOf_V] at hs
     show 0<σ*ar [a,w,b]
     rw [ar_three,cross_swap2,Int.mul_neg]
     omega
    ·have t1:=(IH (w::p::((B1++A1)++[q])).length (by simp;omega)).2 w p (B1++A1) q τ hτw hτ rfl hQw wmin h0 hno
     have s:=hPw.ear (by simp) (triOf p q w τ hτw) (fun r hr=>by
      simp only [List.mem_cons,List.mem_append] at hr
      rcases hr with hr|hr|hr
      ·exact hno r (List.mem_append.2 (.inl hr))
      ·rw [hr];exact hvT
      ·exact hno r (List.mem_append.2 (.inr hr)))
     have eR:(p::B1)++(v::(A1++[q]))=p::((B1++v::A1)++[q]):=by simp
     have hR:Simp ((v::(A1++[q]))++(p::B1)):=Simp.rot (eR▸s)
     have eR2:(v::(A1++[q]))++(p::B1)=v::a::((A'++B')++[b]):=by rw [← hB,← hA];simp
     rw [eR2] at hR
     have l1:=congrArg List.length hA
     have l2:=congrArg List.length hB
     simp at l1 l2
     have hAB:A'++B'≠[]:=fun e=>h0 (by
      obtain⟨rfl,rfl⟩:=List.append_eq_nil_iff.1 e
      simp at l1 l2
      exact List.length_eq_zero_iff.1 (by rw [List.length_append];omega))
     have t2:=(IH (v::a::((A'++B')++[b])).length (by simp;omega)).2 v a (A'++B') b σ h hσ rfl hR (fun r hr=>hmin r (by
      simp only [List.mem_cons,List.mem_append,List.not_mem_nil,or_false] at hr ⊢
      rcases hr with hr|(hr|hr)|hr
      ·exact .inl hr
      ·exact .inr (.inl (.inl hr))
      ·exact .inr (.inl (.inr (.inr hr)))
      ·exact .inr (.inr hr))) hAB (fun r hr=>by
      rcases List.mem_append.1 hr with hr|hr
      ·exact hT r (List.mem_append.2 (.inl hr))
      ·exact hT r (List.mem_append.2 (.inr (.tail _ hr))))
     have eR3:a::((A'++B')++[b])=(A1++[q])++(p::B1):=by rw [← hB,← hA];simp
     rw [eR3,ar_rot] at t2
     have eR4:(p::B1)++(A1++[q])=p::((B1++A1)++[q]):=by simp
     rw [eR4] at t2
     have es:=sg_same hσ hτ t2 t1
     subst es
     rw [aQ,ar_ear,Int.mul_add]
     omega
theorem TE:∀ n,Ts n∧Es n:=fun n=>by
 induction n using Nat.strongRecOn with
 |_ n ih =>
  have hE:Es n:=E_step ih
  exact⟨T_step (fun m hm=>(ih m hm).1) hE,hE⟩
end Go.Aw
end

noncomputable section
namespace Go.Aw
set_option maxRecDepth 100000
def firstBad:List (Int × Int)→Nat→Int
 |[],_=>-1
 |p::r,i=>if rightS p then firstBad r (i+1) else i
def fn100:Value:=.func (.func 127) #[] #[]
def S132 (l:List (Int × Int)):List Value→Option (Bool × Value)
 |[.func (.func 127) ⟨[]⟩ ⟨[]⟩]=>some (decide (l.length≤1000000000),iv (firstBad l 0))
 |_=>none
theorem S132_inv {l:List (Int × Int)}{r:List Value}{v:Value}(h:S132 l r=some (true,v)):r=[fn100]∧l.length≤1000000000∧v=iv (firstBad l 0):=by
 unfold S132 at h
 split at h
 ·injection h with h
  injection h with h1 h2
  exact⟨rfl,by simpa using h1,h2.symm⟩
 ·cases h
def X132:Nat × XF:=(159,lX elP S132)
theorem x132:XOK Go.Proofs.Tryz.prog X132.1 X132.2:=lX_ok elP (body_calls (xl:=[X100]) (.cons x100 .nil)) fun l r v hs=>by
 obtain⟨rfl,hlen,rfl⟩:=S132_inv hs
 refine⟨rfl,rfl,fun c=>?_⟩
 conv=>whnf
 refine⟨fun n e h nx=>∃ (i:Nat) (j:Int),j=i∧i≤l.length∧n=l.length - i∧firstBad l 0=firstBad (l.drop i) i ∧
  e=[(0,.slice (some ⟨0,0,none⟩) l.length c),(1,fn100),(7,iv l.length),(8,iv j)]∧h=[(0,.cells false true 2 (flat elP.fl l))]∧nx=1,⟨l.length,?_⟩,?_⟩
 ·refine Into_id (e0:=[(0,.slice (some ⟨0,0,none⟩) l.length c),(1,fn100),(7,iv l.length),(8,iv 0)]) (h0:=[(0,.cells false true 2 (flat elP.fl l))]) (n0:=1)
   ⟨0,0,rfl,Nat.zero_le _,rfl,rfl,rfl,rfl,rfl⟩ ?_ ?_ (Nat.le_refl _)
  ·exact List.forall_mem_cons.2 ⟨⟨rfl,Nat.one_pos,fun h=>(by cases h)⟩,List.forall_mem_cons.2 ⟨⟨(by show _=some (ren id fn100);rw [ren_g (show gT fn100=true from rfl)];rfl),scT_g rfl⟩,List.forall_mem_cons.2 ⟨⟨rfl,scT_g rfl⟩,List.forall_mem_cons.2 ⟨⟨rfl,scT_g rfl⟩,fun _ h=>(by cases h)⟩⟩⟩⟩
  ·exact List.forall_mem_cons.2 ⟨⟨Nat.one_pos,_,rfl,ObjRen_g (flat_g elP l)⟩,fun _ h=>(by cases h)⟩
 ·rintro n e h nx ⟨i,j,hj,hi,rfl,hb,rfl,rfl,rfl⟩
  conv=>whnf
  refine bm (fun h1=>?_) (fun h1=>?_)
  ·have hlt:i<l.length:=by simp [cfgS,std] at h1;omega
   conv=>whnf
   refine bm (fun h2=>?_) (fun h2=>?_)
   ·conv=>whnf
    refine boL (flat_get elP l hlt ?ho) ?_
    case ho=>simp [cfgS,std,elP,hj]
    have hd:l.drop i=l[i]::l.drop (i+1):=List.drop_eq_getElem_cons hlt
    rw [hd] at hb
    generalize l[i]=p at hb
    obtain⟨x,y⟩:=p
    conv=>whnf
    refine bm (fun h3=>?_) (fun h3=>?_)
    ·conv=>whnf
     simp only [Bool.not_eq_true'] at h3
     rw [hb,hj]
     simp only [firstBad,h3]
     rfl
    ·conv=>whnf
     refine bm (fun h4=>?_) (fun h4=>?_)
     ·conv=>whnf
      simp only [Bool.not_eq_false'] at h3
      refine⟨l.length - (i+1),by omega,?_⟩
      refine Into_id (e0:=[(0,.slice (some ⟨0,0,none⟩) l.length c),(1,fn100),(7,iv l.length),(8,iv (j+1))]) (h0:=[(0,.cells false true 2 (flat elP.fl l))]) (n0:=1)
       ⟨i+1,j+1,by omega,hlt,rfl,?_,rfl,rfl,rfl⟩ ?_ ?_ (Nat.le_refl _)
      ·rw [hb];simp only [firstBad,h3,if_true]
      ·exact List.forall_mem_cons.2 ⟨⟨rfl,Nat.one_pos,fun h=>(by cases h)⟩,List.forall_mem_cons.2 ⟨⟨(by show _=some (ren id fn100);rw [ren_g (show gT fn100=true from rfl)];rfl),scT_g rfl⟩,List.forall_mem_cons.2 ⟨⟨rfl,scT_g rfl⟩,List.forall_mem_cons.2 ⟨⟨rfl,scT_g rfl⟩,fun _ h=>(by cases h)⟩⟩⟩⟩
      ·exact List.forall_mem_cons.2 ⟨⟨Nat.one_pos,_,rfl,ObjRen_g (flat_g elP l)⟩,fun _ h=>(by cases h)⟩
     ·simp [cfgS,std,fitsK] at h4
      omega
   ·simp [cfgS,std] at h2
    omega
  ·have hlt:l.length≤i:=by simp [cfgS,std] at h1;omega
   conv=>whnf
   rw [hb,List.drop_eq_nil_of_le hlt]
   rfl
theorem firstBad_all:∀ (l:List (Int × Int)) (i:Nat),decide (0≤firstBad l i)=!(l.all rightS)
 |[],i=>rfl
 |p::r,i=>by
  by_cases hp:rightS p=true
  ·simp only [firstBad,List.all_cons,hp,if_true,Bool.true_and]
   exact firstBad_all r (i+1)
  ·have hp':rightS p=false:=by simpa using hp
   simp [firstBad,List.all_cons,hp']
def S99 (l:List (Int × Int)):List Value→Option (Bool × Value)
 |[.func (.func 127) ⟨[]⟩ ⟨[]⟩]=>some (decide (l.length≤1000000000),.bool (!(l.all rightS)))
 |_=>none
theorem S99_inv {l:List (Int × Int)}{r:List Value}{v:Value}(h:S99 l r=some (true,v)):r=[fn100]∧l.length≤1000000000∧v=.bool (!(l.all rightS)):=by
 unfold S99 at h
 split at h
 ·injection h with h
  injection h with h1 h2
  exact⟨rfl,by simpa using h1,h2.symm⟩
 ·cases h
theorem LsAt_own {α:Type}(E:El α){l:List α}{c:Nat}{wr g:Bool}{sz:Nat}{h:Heap}(hk:look h 0=some (.cells wr g sz (flat E.fl l))):LsAt E h (.slice (some ⟨0,0,none⟩) l.length c) l :=
 ⟨rfl,wr,g,sz,_,hk,by rw [List.drop_zero,List.take_length]⟩
def X99:Nat × XF:=(126,lX elP S99)
theorem x99:XOK Go.Proofs.Tryz.prog X99.1 X99.2:=lX_ok elP (body_calls (xl:=[X132]) (.cons x132 .nil)) fun l r v hs=>by
 obtain⟨rfl,hlen,rfl⟩:=S99_inv hs
 refine⟨rfl,rfl,fun c=>?_⟩
 conv=>whnf
 refine⟨l,LsAt_own elP rfl,?_⟩
 conv=>whnf
 refine bm (fun h1=>?_) (fun h1=>?_)
 ·conv=>whnf
  rw [← firstBad_all l 0]
  rfl
 ·exact absurd hlen (by simpa using h1)
def S54 (l:List (Int × Int)):List Value→Option (Bool × Value)
 |[]=>some (decide (l.length≤1000000000),.bool (l.all rightS))
 |_=>none
theorem S54_inv {l:List (Int × Int)}{r:List Value}{v:Value}(h:S54 l r=some (true,v)):r=[]∧l.length≤1000000000∧v=.bool (l.all rightS):=by
 unfold S54 at h
 split at h
 ·injection h with h
  injection h with h1 h2
  exact⟨rfl,by simpa using h1,h2.symm⟩
 ·cases h
def X54:Nat × XF:=(55,lX elP S54)
theorem x54:XOK Go.Proofs.Tryz.prog X54.1 X54.2:=lX_ok elP (body_calls (xl:=[X99]) (.cons x99 .nil)) fun l r v hs=>by
 obtain⟨rfl,hlen,rfl⟩:=S54_inv hs
 refine⟨rfl,rfl,fun c=>?_⟩
 conv=>whnf
 refine⟨l,LsAt_own elP rfl,?_⟩
 conv=>whnf
 refine bm (fun h1=>?_) (fun h1=>?_)
 ·conv=>whnf
  simp [cfgS,std]
 ·exact absurd hlen (by simpa using h1)
end Go.Aw
end

noncomputable section
namespace Go.Aw
set_option maxRecDepth 100000
def s0 (v:Value):List Value→Option (Bool × Value)
 |[]=>some (true,v)
 |_=>none
def X19:Nat × XF:=(15,gX (s0 (.bool true)))
theorem cross_swap (a b c:Int × Int):crossI b a c = - crossI a b c:=by
 simp only [crossI,Int.sub_mul,Int.mul_sub]
 have h1:=Int.mul_comm a.1 b.2
 have h2:=Int.mul_comm a.2 b.1
 have h3:=Int.mul_comm a.1 c.2
 have h4:=Int.mul_comm a.2 c.1
 have h5:=Int.mul_comm b.1 c.2
 have h6:=Int.mul_comm b.2 c.1
 have h7:=Int.mul_comm a.1 a.2
 have h8:=Int.mul_comm b.1 b.2
 omega
theorem turn_low (a b c:Int × Int) : -1≤turnS a b c∧turnS a b c≤1:=by
 unfold turnS sgn
 split <;> (try split) <;> omega
end Go.Aw
end

namespace Go.Aw
theorem mul_pos_cancel {D u:Int}(hD:0<D)(h:0≤D*u):0≤u:=by
 by_cases hu:0≤u
 ·exact hu
 ·have:0<D*(-u):=Int.mul_pos hD (by omega)
  rw [Int.mul_neg] at this
  omega
theorem coll {D E t u:Int}(h:D*u=E*t)(hD:0<D)(h0:0≤t)(h1:t≤D):(0≤E→0≤u∧u≤E)∧(E≤0→E≤u∧u≤0):=by
 refine⟨fun hE=>⟨?_,?_⟩,fun hE=>⟨?_,?_⟩⟩
 ·exact mul_pos_cancel hD (by rw [h];exact Int.mul_nonneg hE h0)
 ·have h2:0≤D*(E - u):=by
   rw [Int.mul_sub,h,Int.mul_comm D E,← Int.mul_sub]
   exact Int.mul_nonneg hE (by omega)
  have:=mul_pos_cancel hD h2
  omega
 ·have h2:0≤D*(u - E):=by
   rw [Int.mul_sub,h,Int.mul_comm D E,← Int.mul_sub]
   rw [show E*(t - D)=(-E)*(D - t) by rw [Int.neg_mul,← Int.mul_neg];congr 1;omega]
   exact Int.mul_nonneg (by omega) (by omega)
  have:=mul_pos_cancel hD h2
  omega
 ·have h2:0≤D*(-u):=by
   rw [Int.mul_neg,h,← Int.neg_mul]
   exact Int.mul_nonneg (by omega) h0
  have:=mul_pos_cancel hD h2
  omega
theorem coll0 {D u:Int}(h:D*u=0)(hD:D≠0):u=0:=by
 rcases Int.mul_eq_zero.1 h with h|h
 ·exact absurd h hD
 ·exact h
theorem lex_box {ax ay bx b2 px py:Int}(h:(bx - ax)*(py - ay)=(b2 - ay)*(px - ax))(hlt:ax<bx) :
  ((ax<px∨(ax=px∧ay≤py))∧(px<bx∨(px=bx∧py≤b2)))↔((ax≤px∧px≤bx)∧((ay≤b2→ay≤py∧py≤b2)∧(b2≤ay→b2≤py∧py≤ay))):=by
 constructor
 ·intro⟨h1,h2⟩
  have hx:ax≤px∧px≤bx:=by omega
  have hc:=coll (D:=bx - ax) (E:=b2 - ay) (t:=px - ax) (u:=py - ay) h (by omega) (by omega) (by omega)
  refine⟨hx,fun he=>?_,fun he=>?_⟩
  ·have:=hc.1 (by omega);omega
  ·have:=hc.2 (by omega);omega
 ·intro⟨h1,h2,h3⟩
  have hc:=coll (D:=bx - ax) (E:=b2 - ay) (t:=px - ax) (u:=py - ay) h (by omega) (by omega) (by omega)
  refine⟨?_,?_⟩
  ·by_cases e:ax<px
   ·exact .inl e
   ·have e:ax=px:=by omega
    subst e
    rw [Int.sub_self,Int.mul_zero] at h
    have:=coll0 h (by omega)
    exact .inr ⟨rfl,by omega⟩
  ·by_cases e:px<bx
   ·exact .inl e
   ·have e:px=bx:=by omega
    subst e
    have h4:(px - ax)*(py - b2)=0:=by
     rw [show py - b2=(py - ay) - (b2 - ay) by omega,Int.mul_sub,h,Int.mul_comm (b2 - ay)]
     omega
    have:=coll0 h4 (by omega)
    exact .inr ⟨rfl,by omega⟩
end Go.Aw

noncomputable section
namespace Go.Aw
set_option maxRecDepth 100000
structure Cd (α:Type) where
 dec:Value→Option α
 enc:α→Value
 ok:∀ v a,dec v=some a→v=enc a
 gr:∀ a,gA (enc a)=true
def cI:Cd Int:=⟨decI,iv,fun _ _ h=>decI_eq h,fun _=>rfl⟩
def cP:Cd (Int × Int):=⟨decP,ptv,fun _ _ h=>decP_eq h,fun _=>rfl⟩
abbrev Sg:=(Int × Int) × (Int × Int)
def sgv (s:Sg):Value:=.agg #[iv s.1.1,iv s.1.2,iv s.2.1,iv s.2.2]
def decS:Value→Option Sg
 |.agg ⟨[.int .i64 a,.int .i64 b,.int .i64 c,.int .i64 d]⟩=>some ((a,b),(c,d))
 |_=>none
theorem decS_eq {v:Value}{s:Sg}(h:decS v=some s):v=sgv s:=by
 unfold decS at h
 split at h
 ·injection h with h;subst h;rfl
 ·cases h
def cS:Cd Sg:=⟨decS,sgv,fun _ _ h=>decS_eq h,fun _=>rfl⟩
section
variable {α β γ:Type}(a:Cd α)(b:Cd β)(c:Cd γ)
def s1 (F:α→Bool × Value):List Value→Option (Bool × Value)
 |[u]=>(match a.dec u with|some x=>some (F x)|none=>none)
 |_=>none
def s2 (F:α→β→Bool × Value):List Value→Option (Bool × Value)
 |[u,v]=>(match a.dec u with|some x=>(match b.dec v with|some y=>some (F x y)|none=>none)|none=>none)
 |_=>none
def s3 (F:α→β→γ→Bool × Value):List Value→Option (Bool × Value)
 |[u,v,w]=>(match a.dec u with|some x=>(match b.dec v with|some y=>(match c.dec w with|some z=>some (F x y z)|none=>none)|none=>none)|none=>none)
 |_=>none
theorem s1_inv {F:α→Bool × Value}{args:List Value}{r:Bool × Value}(h:s1 a F args=some r):∃ x,args=[a.enc x]∧F x=r:=by
 unfold s1 at h
 split at h
 ·split at h
  ·rename_i x e
   injection h with h
   exact⟨x,by rw [a.ok _ _ e],h⟩
  ·cases h
 ·cases h
theorem s2_inv {F:α→β→Bool × Value}{args:List Value}{r:Bool × Value}(h:s2 a b F args=some r):∃ x y,args=[a.enc x,b.enc y]∧F x y=r:=by
 unfold s2 at h
 split at h
 ·split at h
  ·rename_i x e
   split at h
   ·rename_i y e2
    injection h with h
    exact⟨x,y,by rw [a.ok _ _ e,b.ok _ _ e2],h⟩
   ·cases h
  ·cases h
 ·cases h
theorem s3_inv {F:α→β→γ→Bool × Value}{args:List Value}{r:Bool × Value}(h:s3 a b c F args=some r):∃ x y z,args=[a.enc x,b.enc y,c.enc z]∧F x y z=r:=by
 unfold s3 at h
 split at h
 ·split at h
  ·rename_i x e
   split at h
   ·rename_i y e2
    split at h
    ·rename_i z e3
     injection h with h
     exact⟨x,y,z,by rw [a.ok _ _ e,b.ok _ _ e2,c.ok _ _ e3],h⟩
    ·cases h
   ·cases h
  ·cases h
 ·cases h
theorem x1 {xl:List (Nat × XF)}(hx:XLOK xl){f:Nat}{F:α→Bool × Value}(hg:∀ x,gT (F x).2=true)(h:∀ x,(F x).1=true→Does1 xl f [a.enc x] (F x).2):XOK Go.Proofs.Tryz.prog f (gX (s1 a F)) :=
 gX_ok (body_calls hx) fun args v hs=>by
  obtain⟨x,rfl,e⟩:=s1_inv a hs
  have h1:(F x).1=true:=by rw [e]
  have h2:(F x).2=v:=by rw [e]
  subst h2
  exact⟨by simp [allGA,a.gr],hg x,h x h1⟩
theorem x2 {xl:List (Nat × XF)}(hx:XLOK xl){f:Nat}{F:α→β→Bool × Value}(hg:∀ x y,gT (F x y).2=true)(h:∀ x y,(F x y).1=true→Does1 xl f [a.enc x,b.enc y] (F x y).2):XOK Go.Proofs.Tryz.prog f (gX (s2 a b F)) :=
 gX_ok (body_calls hx) fun args v hs=>by
  obtain⟨x,y,rfl,e⟩:=s2_inv a b hs
  have h1:(F x y).1=true:=by rw [e]
  have h2:(F x y).2=v:=by rw [e]
  subst h2
  exact⟨by simp [allGA,a.gr,b.gr],hg x y,h x y h1⟩
theorem x3 {xl:List (Nat × XF)}(hx:XLOK xl){f:Nat}{F:α→β→γ→Bool × Value}(hg:∀ x y z,gT (F x y z).2=true)(h:∀ x y z,(F x y z).1=true→Does1 xl f [a.enc x,b.enc y,c.enc z] (F x y z).2):XOK Go.Proofs.Tryz.prog f (gX (s3 a b c F)) :=
 gX_ok (body_calls hx) fun args v hs=>by
  obtain⟨x,y,z,rfl,e⟩:=s3_inv a b c hs
  have h1:(F x y z).1=true:=by rw [e]
  have h2:(F x y z).2=v:=by rw [e]
  subst h2
  exact⟨by simp [allGA,a.gr,b.gr,c.gr],hg x y z,h x y z h1⟩
end
def bodyF (xl:List (Nat × XF))(n:Nat):VC:=vbody cfgS (some n) (CX (look xl)) noY
theorem bodyF_calls {xl:List (Nat × XF)}(h:XLOK xl)(n:Nat):CallsOK Go.Proofs.Tryz.prog (bodyF xl n):=vbody_ok cfgS_ok (CX_ok h.look) noY_ok (CX_det h.look) noY_det (some n)
def elI:El Int:=⟨fun n=>[iv n],1,fun _=>rfl,fun _=>rfl,by decide⟩
def orI (a b:Int):Int:=if a=0 then b else a
def S114:List Int→List Value→Option (Bool × Value)
 |[a,b],[]=>some (true,iv (orI a b))
 |_,_=>none
def X114:Nat × XF:=(97,lX elI S114)
theorem x114:XOK Go.Proofs.Tryz.prog X114.1 X114.2:=lX_ok elI (bodyF_calls (xl:=[]) .nil 4) fun l r v hs=>by
 have:∃ a b,l=[a,b]∧r=[]∧v=iv (orI a b):=by
  unfold S114 at hs
  split at hs
  ·injection hs with hs;injection hs with _ h2;exact⟨_,_,rfl,rfl,h2.symm⟩
  ·cases hs
 obtain⟨a,b,rfl,rfl,rfl⟩:=this
 refine⟨rfl,rfl,fun c=>?_⟩
 repeat' (conv=>whnf
          refine bm (fun h=>?_) (fun h=>?_))
 all_goals (conv=>whnf)
 all_goals (simp only [cfgS,std,iv,orI] at *;simp at *)
 all_goals (try simp_all)
theorem pEta (p:Int × Int):(p.1,p.2)=p:=rfl
def ordS (a b:Int × Int):Int:=orI (cmpI a.1 b.1) (cmpI a.2 b.2)
def X106:Nat × XF:=(78,gX (s2 cP cP fun a b=>(true,iv (ordS a b))))
theorem x106:XOK Go.Proofs.Tryz.prog X106.1 X106.2:=x2 cP cP (xl:=[X101,X114]) (.cons x101 (.cons x114 .nil)) (fun _ _=>rfl) fun a b _=>by
 obtain⟨ax,ay⟩:=a
 obtain⟨bx,b_y⟩:=b
 unfold Does1
 conv=>whnf
 refine⟨[cmpI ax bx,cmpI ay b_y],⟨rfl,_,_,_,_,rfl,rfl⟩,?_⟩
 conv=>whnf
 rfl
def endsS (s:Sg):(Int × Int) × (Int × Int):=if 0<ordS s.1 s.2 then (s.2,s.1) else (s.1,s.2)
def X74:Nat × XF:=(94,gX (s1 cS fun s=>(true,.tuple #[ptv (endsS s).1,ptv (endsS s).2])))
theorem x74:XOK Go.Proofs.Tryz.prog X74.1 X74.2:=x1 cS (xl:=[X106]) (.cons x106 .nil) (fun _=>rfl) fun s _=>by
 obtain⟨⟨ax,ay⟩,⟨bx,b_y⟩⟩:=s
 unfold Does1
 repeat' (conv=>whnf
          refine bm (fun h=>?_) (fun h=>?_))
 all_goals (conv=>whnf)
 all_goals (simp only [cfgS,std,decide_eq_true_eq,decide_eq_false_iff_not] at h)
 ·simp [endsS,h,ptv,iv]
 ·simp [endsS,h,ptv,iv]
def betS (p:Int × Int)(s:Sg):Bool:=decide (ordS (endsS s).1 p≤0)&&decide (ordS p (endsS s).2≤0)
def wideS (s:Sg):Bool:=wide s.1&&wide s.2
def onS (p:Int × Int)(s:Sg):Bool:=decide (turnS s.1 s.2 p=0)&&betS p s
def eqP (a b:Int × Int):Bool:=decide (a.1=b.1)&&(decide (a.2=b.2)&&true)
def rightG (s:Sg):Bool:=rightS s.1&&rightS s.2&&!(eqP s.1 s.2)
theorem rightG_wide {s:Sg}(h:rightG s=true):wideS s=true:=by
 simp only [rightG,wideS,Bool.and_eq_true] at *
 exact⟨rightS_wide h.1.1,rightS_wide h.1.2⟩
end Go.Aw
end

noncomputable section
namespace Go.Aw
set_option maxRecDepth 100000
theorem all_get {l:List (Int × Int)}(h:l.all rightS=true){i:Nat}(hi:i<l.length):rightS l[i]=true:=List.all_eq_true.1 h _ (List.getElem_mem hi)
def S80 (l:List (Int × Int)):List Value→Option (Bool × Value)
 |[]=>some (decide (l.length≤1000000000),.bool (l.all rightS))
 |_=>none
def X80:Nat × XF:=(58,lX elP S80)
theorem x80:XOK Go.Proofs.Tryz.prog X80.1 X80.2:=lX_ok elP (body_calls (xl:=[X56]) (.cons x56 .nil)) fun l r v hs=>by
 have:r=[]∧l.length≤1000000000∧v=.bool (l.all rightS):=by
  unfold S80 at hs
  split at hs
  ·injection hs with hs;injection hs with h1 h2;exact⟨rfl,by simpa using h1,h2.symm⟩
  ·cases hs
 obtain⟨rfl,hlen,rfl⟩:=this
 refine⟨rfl,rfl,fun c=>?_⟩
 conv=>whnf
 refine⟨fun n e h nx=>∃ (i:Nat) (j:Int),j=i∧i≤l.length∧n=l.length - i∧l.all rightS=(l.drop i).all rightS ∧
  e=[(0,.slice (some ⟨0,0,none⟩) l.length c),(3,iv j)]∧h=[(0,.cells false true 2 (flat elP.fl l))]∧nx=1,⟨l.length,?_⟩,?_⟩
 ·refine Into_id (e0:=[(0,.slice (some ⟨0,0,none⟩) l.length c),(3,iv 0)]) (h0:=[(0,.cells false true 2 (flat elP.fl l))]) (n0:=1)
   ⟨0,0,rfl,Nat.zero_le _,rfl,rfl,rfl,rfl,rfl⟩ ?_ ?_ (Nat.le_refl _)
  ·exact List.forall_mem_cons.2 ⟨⟨rfl,Nat.one_pos,fun h=>(by cases h)⟩,List.forall_mem_cons.2 ⟨⟨rfl,scT_g rfl⟩,fun _ h=>(by cases h)⟩⟩
  ·exact List.forall_mem_cons.2 ⟨⟨Nat.one_pos,_,rfl,ObjRen_g (flat_g elP l)⟩,fun _ h=>(by cases h)⟩
 ·rintro n e h nx ⟨i,j,hj,hi,rfl,hb,rfl,rfl,rfl⟩
  conv=>whnf
  refine bm (fun h1=>?_) (fun h1=>?_)
  ·have hlt:i<l.length:=by simp [cfgS,std] at h1;omega
   conv=>whnf
   refine bm (fun h2=>?_) (fun h2=>?_)
   ·conv=>whnf
    refine boL (flat_get elP l hlt ?ho) ?_
    case ho=>simp [cfgS,std,elP,hj]
    have hd:l.drop i=l[i]::l.drop (i+1):=List.drop_eq_getElem_cons hlt
    rw [hd,List.all_cons] at hb
    generalize l[i]=p at hb
    obtain⟨x,y⟩:=p
    conv=>whnf
    refine bm (fun h3=>?_) (fun h3=>?_)
    ·conv=>whnf
     simp [cfgS,std] at h3
     rw [hb,h3]
     rfl
    ·conv=>whnf
     refine bm (fun h4=>?_) (fun h4=>?_)
     ·conv=>whnf
      simp [cfgS,std] at h3
      refine⟨l.length - (i+1),by omega,?_⟩
      refine Into_id (e0:=[(0,.slice (some ⟨0,0,none⟩) l.length c),(3,iv (j+1))]) (h0:=[(0,.cells false true 2 (flat elP.fl l))]) (n0:=1)
       ⟨i+1,j+1,by omega,hlt,rfl,?_,rfl,rfl,rfl⟩ ?_ ?_ (Nat.le_refl _)
      ·rw [hb,h3,Bool.true_and]
      ·exact List.forall_mem_cons.2 ⟨⟨rfl,Nat.one_pos,fun h=>(by cases h)⟩,List.forall_mem_cons.2 ⟨⟨rfl,scT_g rfl⟩,fun _ h=>(by cases h)⟩⟩
      ·exact List.forall_mem_cons.2 ⟨⟨Nat.one_pos,_,rfl,ObjRen_g (flat_g elP l)⟩,fun _ h=>(by cases h)⟩
     ·simp [cfgS,std,fitsK] at h4
      omega
   ·simp [cfgS,std] at h2
    omega
  ·have hlt:l.length≤i:=by simp [cfgS,std] at h1;omega
   conv=>whnf
   rw [hb,List.drop_eq_nil_of_le hlt]
   rfl
end Go.Aw
end

noncomputable section
namespace Go.Aw
set_option maxRecDepth 100000
def mx (a b:Int):Int:=if a<b then b else a
theorem cA_add (a b:Int):cfgS.A.add a b=a+b:=rfl
theorem cA_sub (a b:Int):cfgS.A.sub a b=a - b:=rfl
theorem cA_mul (a b:Int):cfgS.A.mul a b=a*b:=rfl
theorem cA_lt (a b:Int):cfgS.A.lt a b=decide (a<b):=rfl
theorem cA_le (a b:Int):cfgS.A.le a b=decide (a≤b):=rfl
theorem cA_eq (a b:Int):cfgS.A.eq a b=decide (a=b):=rfl
theorem cA_fits (k:IntKind)(a:Int):cfgS.A.fits k a=fitsK k a:=rfl
theorem cA_num (a:Nat):cfgS.A.num a=(a:Int):=rfl
theorem cA_andB (a b:Bool):cfgS.A.andB a b=(a&&b):=rfl
theorem cA_notB (a:Bool):cfgS.A.notB a=!a:=rfl
theorem cA_eqB (a b:Bool):cfgS.A.eqB a b=(a == b):=rfl
theorem right_low {p:Int × Int}(h:rightS p=true):0≤p.1∧p.1≤10000∧0≤p.2∧p.2≤10000:=by
 simp only [rightS,Bool.and_eq_true,decide_eq_true_eq] at h
 omega
def at2 (l:List (Int × Int))(i:Nat):Int × Int:=l.getD i (0,0)
theorem at2_eq {l:List (Int × Int)}{i:Nat}(h:i<l.length):at2 l i=l[i]:=by
 unfold at2
 rw [List.getD_eq_getElem?_getD,List.getElem?_eq_getElem h]
 rfl
theorem all_at {l:List (Int × Int)}(h:l.all rightS=true){i:Nat}(hi:i<l.length):rightS (at2 l i)=true:=by rw [at2_eq hi];exact all_get h hi
end Go.Aw
end
