/-
  Parts of a proof. No condition.
-/
import Derived.Test.YtoekkmbbbllogaaGreatQBb
set_option linter.unusedSimpArgs false
set_option linter.unusedVariables false
noncomputable section
namespace Go.Aw
def inT {a b v:Pq}(T:Tri a b v)(p:Pq):Prop:=0≤at3 T.A p∧0≤at3 T.B p∧0≤at3 T.V p
theorem exitT {a b v r s:Pq}(T:Tri a b v){α β:Int}(hα:0≤α)(hβ:0≤β)(hN:0<α+β)(hrs:r≠s)
  (uA:0≤α*at3 T.A r+β*at3 T.A s) (uB:0≤α*at3 T.B r+β*at3 T.B s) (uV:0≤α*at3 T.V r+β*at3 T.V s)
  (rV:0≤at3 T.V r) (hout:¬ inT T r) (okb:okP (r,s) (b,v)) (oka:okP (r,s) (a,v)) :
  α=0∧(((s=b∨s=v)∧α*at3 T.A r+β*at3 T.A s=0)∨((s=a∨s=v)∧α*at3 T.B r+β*at3 T.B s=0)):=by
 have eA:∀ c,at3 T.A r<0→(0≤(-at3 T.A r)*(α*at3 T.B r+β*at3 T.B s)+(α*at3 T.A r+β*at3 T.A s)*at3 T.B r)→c=c→α=0∧(((s=b∨s=v)∧α*at3 T.A r+β*at3 T.A s=0)∨((s=a∨s=v)∧α*at3 T.B r+β*at3 T.B s=0)):=fun (c:Nat) h1 h2 _=>by
  obtain⟨g1,g2,g3⟩:=exitA T hα hβ hN hrs uA uB uV h1 rV h2 okb
  exact⟨g2,.inl ⟨g1,g3⟩⟩
 have eB:at3 T.B r<0→(0≤(-at3 T.B r)*(α*at3 T.A r+β*at3 T.A s)+(α*at3 T.B r+β*at3 T.B s)*at3 T.A r)→α=0∧(((s=b∨s=v)∧α*at3 T.A r+β*at3 T.A s=0)∨((s=a∨s=v)∧α*at3 T.B r+β*at3 T.B s=0)):=fun h1 h2=>by
  obtain⟨g1,g2,g3⟩:=exitA T.swap hα hβ hN hrs uB uA uV h1 rV h2 oka
  exact⟨g2,.inr ⟨g1,g3⟩⟩
 by_cases hA:at3 T.A r<0
 ·by_cases hB:at3 T.B r<0
  ·by_cases hc:0≤(-at3 T.A r)*(α*at3 T.B r+β*at3 T.B s)+(α*at3 T.A r+β*at3 T.A s)*at3 T.B r
   ·exact eA 0 hA hc rfl
   ·refine eB hB ?_
    have:(-at3 T.B r)*(α*at3 T.A r+β*at3 T.A s)+(α*at3 T.B r+β*at3 T.B s)*at3 T.A r = -((-at3 T.A r)*(α*at3 T.B r+β*at3 T.B s)+(α*at3 T.A r+β*at3 T.A s)*at3 T.B r):=by
     generalize α*at3 T.A r+β*at3 T.A s=p
     generalize α*at3 T.B r+β*at3 T.B s=q
     grind
    omega
  ·exact eA 0 hA (Int.add_nonneg (Int.mul_nonneg (by omega) uB) (Int.mul_nonneg uA (by omega))) rfl
 ·by_cases hB:at3 T.B r<0
  ·exact eB hB (Int.add_nonneg (Int.mul_nonneg (by omega) uA) (Int.mul_nonneg uB (by omega)))
  ·exact absurd ⟨by omega,by omega,rV⟩ hout
theorem mix2 (F:Int × Int × Int){α β γ δ N x y:Int}{r s p q:Pq}(h1:α+β=N)(h2:x=α*r.1+β*s.1)(h3:y=α*r.2+β*s.2)(g1:γ+δ=N)(g2:x=γ*p.1+δ*q.1)(g3:y=γ*p.2+δ*q.2):α*at3 F r+β*at3 F s=γ*at3 F p+δ*at3 F q:=by
 rw [← e3_mix F α β r s,← e3_mix F γ δ p q,h1,g1,← h2,← h3,g2,g3]
theorem ear_one {a b v r s:Pq}(T:Tri a b v){α β γ δ N x y:Int}(hα:0≤α)(hβ:0≤β)(hN:0<N)(h1:α+β=N)(h2:x=α*r.1+β*s.1)(h3:y=α*r.2+β*s.2)(hγ:0≤γ)(hδ:0≤δ)(g1:γ+δ=N)(g2:x=γ*a.1+δ*b.1)(g3:y=γ*a.2+δ*b.2)
  (hrs:r≠s) (hsv:s≠v) (rV:0≤at3 T.V r) (hout:¬ inT T r) (okb:okP (r,s) (b,v)) (oka:okP (r,s) (a,v)):(s=a∨s=b)∧x=N*s.1∧y=N*s.2:=by
 have mA:=mix2 T.A h1 h2 h3 g1 g2 g3
 have mB:=mix2 T.B h1 h2 h3 g1 g2 g3
 have mV:=mix2 T.V h1 h2 h3 g1 g2 g3
 rw [T.Aa,T.Ab] at mA
 rw [T.Ba,T.Bb] at mB
 rw [T.Va,T.Vb] at mV
 have hD:=T.pos
 have pA:0≤γ*T.D:=Int.mul_nonneg hγ (by omega)
 have pB:0≤δ*T.D:=Int.mul_nonneg hδ (by omega)
 obtain⟨e1,e2⟩:=exitT T hα hβ (by omega) hrs (by omega) (by omega) (by omega) rV hout okb oka
 subst e1
 have hβN:β=N:=by omega
 subst hβN
 refine⟨?_,by rw [h2,Int.zero_mul,Int.zero_add],by rw [h3,Int.zero_mul,Int.zero_add]⟩
 rcases e2 with ⟨h|h,_⟩|⟨h|h,_⟩
 ·exact .inr h
 ·exact absurd h hsv
 ·exact .inl h
 ·exact absurd h hsv
theorem ear_ok {a b v r s:Pq}(T:Tri a b v)(hrs:r≠s)(hrv:r≠v)(hsv:s≠v)(hr:r=a∨r=b∨¬ inT T r)(hs:s=a∨s=b∨¬ inT T s)(hab:¬ ((r=a∧s=b)∨(r=b∧s=a)))(okb:okP (r,s) (b,v))(oka:okP (r,s) (a,v)):okP (r,s) (a,b):=by
 rintro N x y hN ⟨α,β,hα,hβ,h1,h2,h3⟩ ⟨γ,δ,hγ,hδ,g1,g2,g3⟩
 simp only at h2 h3 g2 g3
 have mV:=mix2 T.V h1 h2 h3 g1 g2 g3
 rw [T.Va,T.Vb,Int.mul_zero,Int.mul_zero,Int.add_zero] at mV
 by_cases c1:0≤at3 T.V r∧¬ inT T r
 ·obtain⟨q1,q2⟩:=ear_one T hα hβ hN h1 h2 h3 hγ hδ g1 g2 g3 hrs hsv c1.1 c1.2 okb oka
  exact⟨s,.inr rfl,q1,q2⟩
 ·by_cases c2:0≤at3 T.V s∧¬ inT T s
  ·obtain⟨q1,q2⟩:=ear_one T hβ hα hN (by omega) (h2.trans (Int.add_comm _ _)) (h3.trans (Int.add_comm _ _)) hγ hδ g1 g2 g3 (fun e=>hrs e.symm) hrv c2.1 c2.2 (okP_rev okb) (okP_rev oka)
   exact⟨r,.inl rfl,q1,q2⟩
  ·have Vr:(r=a∨r=b)∨at3 T.V r<0:=by
    rcases hr with h|h|h
    ·exact .inl (.inl h)
    ·exact .inl (.inr h)
    ·refine .inr (Int.not_le.1 fun h0=>c1 ⟨h0,h⟩)
   have Vs:(s=a∨s=b)∨at3 T.V s<0:=by
    rcases hs with h|h|h
    ·exact .inl (.inl h)
    ·exact .inl (.inr h)
    ·refine .inr (Int.not_le.1 fun h0=>c2 ⟨h0,h⟩)
   have z0:∀ {p:Pq},(p=a∨p=b)→at3 T.V p=0:=by
    rintro p (h|h)
    ·rw [h,T.Va]
    ·rw [h,T.Vb]
   have neg:∀ {k m:Int},0≤k→m<0→k*m≤0:=fun hk hm=>Int.mul_nonpos_of_nonneg_of_nonpos hk (by omega)
   rcases Vr with hr'|hr'
   ·rcases Vs with hs'|hs'
    ·exfalso
     rcases hr' with rfl|rfl
     ·rcases hs' with rfl|rfl
      ·exact hrs rfl
      ·exact hab (.inl ⟨rfl,rfl⟩)
     ·rcases hs' with rfl|rfl
      ·exact hab (.inr ⟨rfl,rfl⟩)
      ·exact hrs rfl
    ·have e0:β*at3 T.V s=0:=by rw [z0 hr',Int.mul_zero,Int.zero_add] at mV;exact mV
     have hb0:β=0:=(mul_zero_or e0).resolve_right (by omega)
     subst hb0
     refine⟨r,.inl rfl,hr',?_,?_⟩
     ·rw [h2,← h1];grind
     ·rw [h3,← h1];grind
   ·rcases Vs with hs'|hs'
    ·have e0:α*at3 T.V r=0:=by rw [z0 hs',Int.mul_zero,Int.add_zero] at mV;exact mV
     have hb0:α=0:=(mul_zero_or e0).resolve_right (by omega)
     subst hb0
     refine⟨s,.inr rfl,hs',?_,?_⟩
     ·rw [h2,← h1];grind
     ·rw [h3,← h1];grind
    ·exfalso
     have n1:=neg hα hr'
     have n2:=neg hβ hs'
     have e1:α*at3 T.V r=0:=by omega
     have e2:β*at3 T.V s=0:=by omega
     have a0:=(mul_zero_or e1).resolve_right (by omega)
     have b0:=(mul_zero_or e2).resolve_right (by omega)
     omega
theorem dia_one {a b v p r s:Pq}(T:Tri a b v)(pA:0<at3 T.A p)(pB:0<at3 T.B p)(pV:0≤at3 T.V p){α β γ δ N x y:Int}(hα:0<α)(hβ:0≤β)(h1:α+β=N)(h2:x=α*r.1+β*s.1)(h3:y=α*r.2+β*s.2)(hγ:0<γ)(hδ:0<δ)(g1:γ+δ=N)(g2:x=γ*v.1+δ*p.1)(g3:y=γ*v.2+δ*p.2)
  (hrs:r≠s) (hV:at3 T.V p<at3 T.V r) (hrv:r=v→s=a∨s=b) (hout:r≠v→¬ inT T r) (hok:r≠v→r≠a→r≠b→okP (r,s) (b,v)∧okP (r,s) (a,v)):False:=by
 have mA:=mix2 T.A h1 h2 h3 g1 g2 g3
 have mB:=mix2 T.B h1 h2 h3 g1 g2 g3
 have mV:=mix2 T.V h1 h2 h3 g1 g2 g3
 rw [T.Av,Int.mul_zero,Int.zero_add] at mA
 rw [T.Bv,Int.mul_zero,Int.zero_add] at mB
 rw [T.Vv] at mV
 have hD:=T.pos
 have qA:=Int.mul_pos hδ pA
 have qB:=Int.mul_pos hδ pB
 have qV:0≤δ*at3 T.V p:=Int.mul_nonneg (by omega) pV
 have qD:=Int.mul_pos hγ hD
 by_cases hv:r=v
 ·rcases hrv hv with h|h
  ·rw [h,hv,T.Bv,T.Ba] at mB
   omega
  ·rw [h,hv,T.Av,T.Ab] at mA
   omega
 ·have hra:r≠a:=fun e=>by rw [e,T.Va] at hV;omega
  have hrb:r≠b:=fun e=>by rw [e,T.Vb] at hV;omega
  obtain⟨okb,oka⟩:=hok hv hra hrb
  obtain⟨e1,_⟩:=exitT T (show 0≤α by omega) hβ (by omega) hrs (by omega) (by omega) (by omega) (by omega) (hout hv) okb oka
  omega
theorem dia_ok {a b v p r s:Pq}(T:Tri a b v)(pA:0<at3 T.A p)(pB:0<at3 T.B p)(pV:0≤at3 T.V p)(hrs:r≠s)(hrv:r=v→s=a∨s=b)(hsv:s=v→r=a∨r=b)
  (hr:r=v∨¬ inT T r∨at3 T.V r≤at3 T.V p) (hs:s=v∨¬ inT T s∨at3 T.V s≤at3 T.V p)
  (hokr:r≠v→r≠a→r≠b→okP (r,s) (b,v)∧okP (r,s) (a,v)) (hoks:s≠v→s≠a→s≠b→okP (r,s) (b,v)∧okP (r,s) (a,v))
  (hv:∀ N:Int,0<N→onW N (N*v.1) (N*v.2) r s→v=r∨v=s) (hp:∀ N:Int,0<N→onW N (N*p.1) (N*p.2) r s→p=r∨p=s):okP (v,p) (r,s):=by
 rintro N x y hN ⟨γ,δ,hγ,hδ,g1,g2,g3⟩ hon
 simp only at g2 g3 hon
 by_cases hδ0:δ=0
 ·subst hδ0
  have e1:x=N*v.1:=by rw [g2,← g1];grind
  have e2:y=N*v.2:=by rw [g3,← g1];grind
  subst e1 e2
  exact⟨v,.inl rfl,hv N hN hon,rfl,rfl⟩
 ·by_cases hγ0:γ=0
  ·subst hγ0
   have e1:x=N*p.1:=by rw [g2,← g1];grind
   have e2:y=N*p.2:=by rw [g3,← g1];grind
   subst e1 e2
   exact⟨p,.inr rfl,hp N hN hon,rfl,rfl⟩
  ·exfalso
   obtain⟨α,β,hα,hβ,h1,h2,h3⟩:=hon
   have mV:=mix2 T.V h1 h2 h3 g1 g2 g3
   rw [T.Vv] at mV
   have hps:=T.sum p
   have hlt:at3 T.V p<T.D:=by omega
   have hgt:γ*at3 T.V p<γ*T.D:=Int.mul_lt_mul_of_pos_left hlt (by omega)
   have hNp:γ*at3 T.V p+δ*at3 T.V p=α*at3 T.V p+β*at3 T.V p:=by rw [← Int.add_mul,← Int.add_mul,g1,h1]
   by_cases c1:0<α∧at3 T.V p<at3 T.V r
   ·exact dia_one T pA pB pV c1.1 hβ h1 h2 h3 (by omega) (by omega) g1 g2 g3 hrs c1.2 hrv (fun hv=>(hr.resolve_left hv).resolve_right (by omega)) hokr
   ·by_cases c2:0<β∧at3 T.V p<at3 T.V s
    ·exact dia_one T pA pB pV c2.1 hα (by omega) (h2.trans (Int.add_comm _ _)) (h3.trans (Int.add_comm _ _)) (by omega) (by omega) g1 g2 g3 (fun e=>hrs e.symm) c2.2 hsv (fun hv=>(hs.resolve_left hv).resolve_right (by omega)) (fun x1 x2 x3=>⟨okP_rev (hoks x1 x2 x3).1,okP_rev (hoks x1 x2 x3).2⟩)
    ·have le:∀ {k q:Int},0≤k→¬ (0<k∧at3 T.V p<q)→k*q≤k*at3 T.V p:=fun {k q} hk hn=>by
      by_cases h0:k=0
      ·rw [h0];omega
      ·exact Int.mul_le_mul_of_nonneg_left (by omega) hk
     have l1:=le hα c1
     have l2:=le hβ c2
     omega
end Go.Aw
end

noncomputable section
namespace Go.Aw
def pe:List Pq→List (Pq × Pq)
 |a::b::r=>(a,b)::pe (b::r)
 |_=>[]
def cl:List Pq→List (Pq × Pq)
 |[]=>[]
 |p::r=>pe (p::r++[p])
theorem pe_app:∀ (A:List Pq) (x:Pq) (B:List Pq),pe (A++x::B)=pe (A++[x])++pe (x::B)
 |[],x,B=>by simp [pe]
 |[a],x,B=>by simp [pe]
 |a::b::A,x,B=>by
  have:=pe_app (b::A) x B
  simp only [List.cons_append] at this ⊢
  rw [pe,pe,this]
  rfl
theorem pe_tail:∀ {L:List Pq} {x:Pq} {e:Pq × Pq},e∈pe (x::L)→e.2∈L
 |[],x,e,h=>by cases h
 |b::r,x,e,h=>by
  rw [pe] at h
  rcases List.mem_cons.1 h with rfl|h
  ·exact .head _
  ·exact .tail _ (pe_tail h)
theorem pe_mem:∀ {L:List Pq} {e:Pq × Pq},e∈pe L→e.1∈L∧e.2∈L
 |[],e,h=>by cases h
 |[a],e,h=>by cases h
 |a::b::r,e,h=>by
  rw [pe] at h
  rcases List.mem_cons.1 h with rfl|h
  ·exact⟨.head _,.tail _ (.head _)⟩
  ·have:=pe_mem h
   exact⟨.tail _ this.1,.tail _ this.2⟩
theorem pe_ne:∀ {L:List Pq} {e:Pq × Pq},L.Nodup→e∈pe L→e.1≠e.2
 |[],e,_,h=>by cases h
 |[a],e,_,h=>by cases h
 |a::b::r,e,hn,h=>by
  rw [pe] at h
  rw [List.nodup_cons] at hn
  rcases List.mem_cons.1 h with rfl|h
  ·exact fun e=>hn.1 (by rw [show a=b from e];exact .head _)
  ·exact pe_ne hn.2 h
theorem cl_cons (p:Pq)(r:List Pq):cl (p::r)=pe (p::r++[p]):=rfl
theorem cl_two (x:Pq)(A:List Pq)(y:Pq)(B:List Pq):cl (x::A++y::B)=pe (x::A++[y])++pe (y::B++[x]):=by
 show pe (x::(A++y::B)++[x])=_
 have:=pe_app (x::A) y (B++[x])
 simpa using this
theorem cl_rot {A B:List Pq}{e:Pq × Pq}(h:e∈cl (A++B)):e∈cl (B++A):=by
 cases A with
 |nil=>simpa using h
 |cons x A =>
  cases B with
  |nil=>simpa using h
  |cons y B =>
   rw [cl_two] at h
   rw [cl_two]
   rcases List.mem_append.1 h with h|h
   ·exact List.mem_append.2 (.inr h)
   ·exact List.mem_append.2 (.inl h)
theorem cl_mem {P:List Pq}{e:Pq × Pq}(h:e∈cl P):e.1∈P∧e.2∈P:=by
 cases P with
 |nil=>cases h
 |cons p r =>
  have:=pe_mem h
  simp only [List.mem_append,List.mem_singleton] at this
  refine⟨this.1.elim id (fun e=>by rw [e];exact .head _),this.2.elim id (fun e=>by rw [e];exact .head _)⟩
theorem cl_from {P:List Pq}{v:Pq}(h:v∈P):∃ u,(v,u)∈cl P:=by
 obtain⟨A,B,rfl⟩:=List.append_of_mem h
 have:∃ u,(v,u)∈cl ((v::B)++A):=by
  show ∃ u,(v,u)∈pe (v::(B++A)++[v])
  cases B++A with
  |nil=>exact⟨v,by simp [pe]⟩
  |cons u r=>exact⟨u,by simp [pe]⟩
 obtain⟨u,hu⟩:=this
 exact⟨u,cl_rot hu⟩
structure Simp (P:List Pq):Prop where
 nodup:P.Nodup
 len:3≤P.length
 ok:∀ e∈cl P,∀ f∈cl P,e≠f→okP e f
theorem Simp.rot {A B:List Pq}(h:Simp (A++B)):Simp (B++A):=by
 refine⟨?_,by have:=h.len;simp at this ⊢;omega,fun e he f hf=>h.ok e (cl_rot he) f (cl_rot hf)⟩
 have:=h.nodup
 rw [List.nodup_append] at this ⊢
 exact⟨this.2.1,this.1,fun a ha b hb e=>this.2.2 b hb a ha e.symm⟩
theorem Simp.ne {P:List Pq}(h:Simp P){e:Pq × Pq}(he:e∈cl P):e.1≠e.2:=by
 have hn:=h.nodup
 have hl:=h.len
 match P,hn,hl,he with
 |p::q::r,hn,hl,he =>
  have he:e∈pe (p::q::r++[p]):=he
  simp only [List.cons_append] at he
  rw [pe] at he
  rcases List.mem_cons.1 he with rfl|he
  ·rw [List.nodup_cons] at hn
   exact fun e=>hn.1 (by rw [show p=q from e];exact .head _)
  ·refine pe_ne (L:=q::r++[p]) ?_ he
   rw [List.nodup_cons] at hn
   refine List.nodup_append.2 ⟨hn.2,by simp,fun a ha b hb e=>?_⟩
   simp at hb
   exact hn.1 (by rw [← hb,← e];exact ha)
theorem Simp.on {P:List Pq}(h:Simp P){v:Pq}(hv:v∈P){f:Pq × Pq}(hf:f∈cl P){N:Int}(hN:0<N)(ho:onW N (N*v.1) (N*v.2) f.1 f.2):v=f.1∨v=f.2:=by
 obtain⟨u,hu⟩:=cl_from hv
 by_cases e:(v,u)=f
 ·rw [← e];exact .inl rfl
 ·obtain⟨z,h1,h2,h3,h4⟩:=h.ok _ hu _ hf e N _ _ hN ⟨N,0,by omega,by omega,by omega,by simp,by simp⟩ ho
  have e1:=Int.eq_of_mul_eq_mul_left (show N≠0 by omega) h3
  have e2:=Int.eq_of_mul_eq_mul_left (show N≠0 by omega) h4
  have:v=z:=Prod.ext e1 e2
  rw [this]
  exact h2
theorem cl_first (w a:Pq)(K:List Pq)(b:Pq):cl (w::a::(K++[b]))=(w,a)::(pe (a::(K++[b]))++[(b,w)]):=by
 show pe (w::a::(K++[b])++[w])=_
 have:=pe_app (w::a::K) b [w]
 simp only [List.cons_append,List.append_assoc,List.nil_append] at this ⊢
 rw [this,pe]
 rfl
theorem at_first {w a b:Pq}{K:List Pq}(hn:(w::a::(K++[b])).Nodup){f:Pq × Pq}(hf:f∈cl (w::a::(K++[b]))):(f.1=w→f.2=a)∧(f.2=w→f.1=b)∧(f.1≠w→f.2≠w→f∈pe (a::(K++[b]))):=by
 rw [cl_first] at hf
 rw [List.nodup_cons] at hn
 rcases List.mem_cons.1 hf with rfl|hf
 ·exact⟨fun _=>rfl,fun h=>absurd (by rw [← show a=w from h];exact .head _) hn.1,fun h=>absurd rfl h⟩
 ·rcases List.mem_append.1 hf with hf|hf
  ·have:=pe_mem hf
   exact⟨fun h=>absurd (by rw [← h];exact this.1) hn.1,fun h=>absurd (by rw [← h];exact this.2) hn.1,fun _ _=>hf⟩
  ·simp only [List.mem_singleton] at hf
   subst hf
   refine⟨fun h=>absurd ?_ hn.1,fun _=>rfl,fun _ h=>absurd rfl h⟩
   rw [← show b=w from h]
   simp
theorem Simp.ear {w a b:Pq}{K:List Pq}(h:Simp (w::a::(K++[b])))(hK:K≠[])(T:Tri a b w)(he:∀ p∈K,¬ inT T p):Simp (a::(K++[b])):=by
 have hn:=h.nodup
 have hn2:(a::(K++[b])).Nodup:=(List.nodup_cons.1 hn).2
 have hwL:w∉a::(K++[b]):=(List.nodup_cons.1 hn).1
 have hsub:∀ e,e∈pe (a::(K++[b]))→e∈cl (w::a::(K++[b])):=fun e he=>by
  rw [cl_first]
  exact .tail _ (List.mem_append.2 (.inl he))
 have hcl:∀ e,e∈cl (a::(K++[b]))→e∈pe (a::(K++[b]))∨e=(b,a):=fun e he=>by
  have he:e∈pe (a::(K++[b])++[a]):=he
  have:=pe_app (a::K) b [a]
  simp only [List.cons_append,List.append_assoc,List.nil_append] at this he
  rw [this] at he
  rcases List.mem_append.1 he with he|he
  ·exact .inl he
  ·exact .inr (by simpa [pe] using he)
 have key:∀ e,e∈pe (a::(K++[b]))→okP e (b,a):=fun e hem=>by
  have hm:=pe_mem hem
  have hne:=pe_ne hn2 hem
  have e1w:e.1≠w:=fun q=>hwL (by rw [← q];exact hm.1)
  have e2w:e.2≠w:=fun q=>hwL (by rw [← q];exact hm.2)
  have hc:∀ p,p∈a::(K++[b])→p=a∨p=b∨¬ inT T p:=fun p hp=>by
   rcases List.mem_cons.1 hp with hp|hp
   ·exact .inl hp
   ·rcases List.mem_append.1 hp with hp|hp
    ·exact .inr (.inr (he p hp))
    ·exact .inr (.inl (by simpa using hp))
  have hab:¬ ((e.1=a∧e.2=b)∨(e.1=b∧e.2=a)):=by
   rintro (⟨q1,q2⟩|⟨q1,q2⟩)
   ·match K,hK with
    |k::K',_ =>
     simp only [List.cons_append] at hem hn2
     rw [pe] at hem
     rcases List.mem_cons.1 hem with hem|hem
     ·rw [hem] at q2
      rw [List.nodup_cons,List.nodup_cons] at hn2
      exact hn2.2.1 (by rw [show k=b from q2];simp)
     ·have:=(pe_mem hem).1
      rw [q1] at this
      exact (List.nodup_cons.1 hn2).1 this
   ·have:=pe_tail hem
    rw [q2] at this
    exact (List.nodup_cons.1 hn2).1 this
  have hb:okP e (b,w):=h.ok e (hsub e hem) (b,w) (by rw [cl_first];exact .tail _ (List.mem_append.2 (.inr (.head _)))) (fun q=>e2w (by rw [q]))
  have ha:okP e (a,w):=okP_symm (okP_rev (okP_symm (h.ok e (hsub e hem) (w,a) (by rw [cl_first];exact .head _) (fun q=>e1w (by rw [q])))))
  have:=ear_ok (r:=e.1) (s:=e.2) T hne e1w e2w (hc _ hm.1) (hc _ hm.2) hab hb ha
  exact okP_symm (okP_rev (okP_symm this))
 refine⟨hn2,?_,fun e he' f hf hne=>?_⟩
 ·cases K with
  |nil=>exact absurd rfl hK
  |cons k K'=>simp
 ·rcases hcl e he' with h1|h1
  ·rcases hcl f hf with h2|h2
   ·exact h.ok e (hsub e h1) f (hsub f h2) hne
   ·rw [h2];exact key e h1
  ·rcases hcl f hf with h2|h2
   ·rw [h1];exact okP_symm (key f h2)
   ·exact absurd (h1.trans h2.symm) hne
theorem Simp.inside {w a b x:Pq}{N1 N2:List Pq}(h:Simp (w::a::(N1++x::(N2++[b]))))(T:Tri a b w)(hx:inT T x):0<at3 T.A x∧0<at3 T.B x:=by
 have hcl:cl (w::a::(N1++x::(N2++[b])))=(w,a)::(pe (a::(N1++x::(N2++[b])))++[(b,w)]):=by
  have:=cl_first w a (N1++x::N2) b
  simpa using this
 have hxP:x∈w::a::(N1++x::(N2++[b])):=by simp
 have hn:=h.nodup
 have xw:x≠w:=fun e=>by
  subst e
  exact (List.nodup_cons.1 hn).1 (by simp)
 have xa:x≠a:=fun e=>by
  subst e
  exact (List.nodup_cons.1 (List.nodup_cons.1 hn).2).1 (by simp)
 have xb:x≠b:=fun e=>by
  subst e
  have h2:=(List.nodup_cons.1 (List.nodup_cons.1 hn).2).2
  rw [List.nodup_append] at h2
  exact (List.nodup_cons.1 h2.2.1).1 (by simp)
 have hD:=T.pos
 have hs:=T.sum x
 have hX:=T.xs x
 have hY:=T.ys x
 obtain⟨xA,xB,xV⟩:=hx
 constructor
 ·rcases Int.lt_or_eq_of_le xA with h1|h1
  ·exact h1
  ·exfalso
   rw [← h1] at hs hX hY
   have:=h.on hxP (f:=(b,w)) (by rw [hcl];exact .tail _ (List.mem_append.2 (.inr (.head _)))) hD ⟨at3 T.B x,at3 T.V x,xB,xV,by omega,by rw [hX];show _=at3 T.B x*b.1+at3 T.V x*w.1;omega,by rw [hY];show _=at3 T.B x*b.2+at3 T.V x*w.2;omega⟩
   exact this.elim xb xw
 ·rcases Int.lt_or_eq_of_le xB with h1|h1
  ·exact h1
  ·exfalso
   rw [← h1] at hs hX hY
   have:=h.on hxP (f:=(w,a)) (by rw [hcl];exact .head _) hD ⟨at3 T.V x,at3 T.A x,xV,xA,by omega,by rw [hX];show _=at3 T.V x*w.1+at3 T.A x*a.1;omega,by rw [hY];show _=at3 T.V x*w.2+at3 T.A x*a.2;omega⟩
   exact this.elim xw xa
theorem Simp.dia {w a b x:Pq}{N1 N2:List Pq}(h:Simp (w::a::(N1++x::(N2++[b]))))(T:Tri a b w)(hx:inT T x)(hmax:∀ p∈N1++x::N2,inT T p→at3 T.V p≤at3 T.V x) :
  Simp (w::a::(N1++[x]))∧Simp (w::x::(N2++[b])):=by
 obtain⟨pA,pB⟩:=h.inside T hx
 have hLe:a::(N1++x::(N2++[b]))=a::((N1++x::N2)++[b]):=by simp
 have hn:=h.nodup
 have hxP:x∈w::a::(N1++x::(N2++[b])):=by simp
 have hcl:cl (w::a::(N1++x::(N2++[b])))=(w,a)::(pe (a::(N1++x::(N2++[b])))++[(b,w)]):=by
  have:=cl_first w a (N1++x::N2) b
  simpa using this
 have mwa:(w,a)∈cl (w::a::(N1++x::(N2++[b]))):=by rw [hcl];exact .head _
 have mbw:(b,w)∈cl (w::a::(N1++x::(N2++[b]))):=by rw [hcl];exact .tail _ (List.mem_append.2 (.inr (.head _)))
 have hpe:pe (a::(N1++x::(N2++[b])))=pe (a::(N1++[x]))++pe (x::(N2++[b])):=by
  have:=pe_app (a::N1) x (N2++[b])
  simpa using this
 have key:∀ f∈cl (w::a::(N1++x::(N2++[b]))),okP (w,x) f:=fun f hf=>by
  have hff:f∈cl (w::a::((N1++x::N2)++[b])):=by rw [← hLe];exact hf
  have hnn:(w::a::((N1++x::N2)++[b])).Nodup:=by rw [← hLe];exact hn
  obtain⟨f1,f2,_⟩:=at_first hnn hff
  have hm:=cl_mem hf
  have hc:∀ p,p∈w::a::(N1++x::(N2++[b]))→p=w∨¬ inT T p∨at3 T.V p≤at3 T.V x:=fun p hp=>by
   rcases List.mem_cons.1 hp with hp|hp
   ·exact .inl hp
   ·refine .inr ?_
    rw [hLe] at hp
    rcases List.mem_cons.1 hp with hp|hp
    ·exact .inr (by rw [hp,T.Va];exact hx.2.2)
    ·rcases List.mem_append.1 hp with hp|hp
     ·by_cases hi:inT T p
      ·exact .inr (hmax p hp hi)
      ·exact .inl hi
     ·exact .inr (by rw [show p=b by simpa using hp,T.Vb];exact hx.2.2)
  refine dia_ok (r:=f.1) (s:=f.2) T pA pB hx.2.2 (h.ne hf) (fun e=>.inl (f1 e)) (fun e=>.inr (f2 e)) (hc _ hm.1) (hc _ hm.2) ?_ ?_ (fun N hN ho=>h.on (.head _) hf hN ho) (fun N hN ho=>h.on hxP hf hN ho)
  ·intro h1 h2 h3
   exact⟨h.ok f hf _ mbw (fun q=>h3 (by rw [q])),okP_symm (okP_rev (okP_symm (h.ok f hf _ mwa (fun q=>h1 (by rw [q])))))⟩
  ·intro h1 h2 h3
   exact⟨h.ok f hf _ mbw (fun q=>h1 (by rw [q])),okP_symm (okP_rev (okP_symm (h.ok f hf _ mwa (fun q=>h2 (by rw [q])))))⟩
 have build:∀ {Q:List Pq},Q.Nodup→3≤Q.length→(∀ e∈cl Q,e∈cl (w::a::(N1++x::(N2++[b])))∨e=(w,x)∨e=(x,w))→((w,x)∈cl Q→(x,w)∉cl Q)→Simp Q:=by
  intro Q hq hl hs hno
  have kx:∀ {e f},(e=(w,x)∨e=(x,w))→f∈cl (w::a::(N1++x::(N2++[b])))→okP e f:=by
   rintro e f (rfl|rfl) hf
   ·exact key f hf
   ·exact okP_rev (key f hf)
  refine⟨hq,hl,fun e he f hf hne=>?_⟩
  rcases hs e he with h1|h1
  ·rcases hs f hf with h2|h2
   ·exact h.ok e h1 f h2 hne
   ·exact okP_symm (kx h2 h1)
  ·rcases hs f hf with h2|h2
   ·exact kx h1 h2
   ·exfalso
    rcases h1 with rfl|rfl
    ·rcases h2 with rfl|rfl
     ·exact hne rfl
     ·exact hno he hf
    ·rcases h2 with rfl|rfl
     ·exact hno hf he
     ·exact hne rfl
 have hn':=hn
 rw [List.nodup_cons,List.nodup_cons,List.nodup_append,List.nodup_cons] at hn'
 obtain⟨nw,na,nN1,⟨nx,nN2⟩,ndis⟩:=hn'
 simp only [List.mem_cons,List.mem_append,List.not_mem_nil,or_false,not_or] at nw na nx
 constructor
 ·refine build ?_ (by simp) (fun e he=>?_) ?_
  ·rw [List.nodup_cons,List.nodup_cons,List.nodup_append]
   refine⟨by simp only [List.mem_cons,List.mem_append,List.not_mem_nil,or_false,not_or];exact⟨nw.1,nw.2.1,nw.2.2.1⟩,by simp only [List.mem_append,List.mem_singleton,not_or];exact⟨na.1,na.2.1⟩,nN1,by simp,fun p hp q hq=>?_⟩
   simp only [List.mem_singleton] at hq
   subst hq
   exact ndis p hp q (.head _)
  ·rw [cl_first] at he
   rcases List.mem_cons.1 he with he|he
   ·exact .inl (by rw [he];exact mwa)
   ·rcases List.mem_append.1 he with he|he
    ·exact .inl (by rw [hcl,hpe];exact .tail _ (List.mem_append.2 (.inl (List.mem_append.2 (.inl he)))))
    ·exact .inr (.inr (by simpa using he))
  ·intro hwx
   exfalso
   rw [cl_first] at hwx
   rcases List.mem_cons.1 hwx with he|he
   ·injection he with _ he
    exact na.2.1 he.symm
   ·rcases List.mem_append.1 he with he|he
    ·have:=(pe_mem he).1
     simp only [List.mem_cons,List.mem_append,List.not_mem_nil,or_false] at this
     rcases this with h1|h1|h1
     ·exact nw.1 h1
     ·exact nw.2.1 h1
     ·exact nw.2.2.1 h1
    ·simp only [List.mem_singleton] at he
     injection he with h1 h2
     exact nw.2.2.1 h1
 ·refine build ?_ (by simp) (fun e he=>?_) ?_
  ·rw [List.nodup_cons,List.nodup_cons]
   refine⟨by simp only [List.mem_cons,List.mem_append,List.not_mem_nil,or_false,not_or];exact⟨nw.2.2.1,nw.2.2.2⟩,by simp only [List.mem_cons,List.mem_append,List.not_mem_nil,or_false,not_or];exact nx,nN2⟩
  ·rw [cl_first] at he
   rcases List.mem_cons.1 he with he|he
   ·exact .inr (.inl he)
   ·rcases List.mem_append.1 he with he|he
    ·exact .inl (by rw [hcl,hpe];exact .tail _ (List.mem_append.2 (.inl (List.mem_append.2 (.inr he)))))
    ·exact .inl (by rw [show e=(b,w) by simpa using he];exact mbw)
  ·intro _ hxw
   rw [cl_first] at hxw
   rcases List.mem_cons.1 hxw with he|he
   ·injection he with h1 h2
    exact nw.2.2.1 h1.symm
   ·rcases List.mem_append.1 he with he|he
    ·have:=(pe_mem he).2
     simp only [List.mem_cons,List.mem_append,List.not_mem_nil,or_false] at this
     rcases this with h1|h1|h1
     ·exact nw.2.2.1 h1
     ·exact nw.2.2.2.1 h1
     ·exact nw.2.2.2.2 h1
    ·simp only [List.mem_singleton] at he
     injection he with h1 h2
     exact nx.2 h1
end Go.Aw
end

noncomputable section
namespace Go.Aw
def dt (p q:Pq):Int:=p.1*q.2 - q.1*p.2
def sumE:List (Pq × Pq)→Int
 |[]=>0
 |e::r=>dt e.1 e.2+sumE r
def ar (P:List Pq):Int:=sumE (cl P)
theorem sumE_app:∀ (A B:List (Pq × Pq)),sumE (A++B)=sumE A+sumE B
 |[],B=>by simp [sumE]
 |e::A,B=>by
  have:=sumE_app A B
  simp only [List.cons_append,sumE]
  omega
theorem ar_rot (A B:List Pq):ar (A++B)=ar (B++A):=by
 cases A with
 |nil=>simp
 |cons x A =>
  cases B with
  |nil=>simp
  |cons y B =>
   unfold ar
   rw [cl_two,cl_two,sumE_app,sumE_app]
   omega
theorem dt_swap (p q:Pq):dt p q = -dt q p:=by
 unfold dt
 omega
theorem cross_dt (b v a:Pq):crossI b v a=dt b v+dt v a+dt a b:=by
 unfold crossI dt
 grind
theorem ar_cl (w a:Pq)(K:List Pq)(b:Pq):ar (w::a::(K++[b]))=dt w a+sumE (pe (a::(K++[b])))+dt b w:=by
 unfold ar
 rw [cl_first,sumE,sumE_app]
 simp only [sumE]
 omega
theorem ar_pe (a:Pq)(K:List Pq)(b:Pq):ar (a::(K++[b]))=sumE (pe (a::(K++[b])))+dt b a:=by
 unfold ar
 have:=pe_app (a::K) b [a]
 simp only [List.cons_append,List.append_assoc,List.nil_append] at this
 rw [cl_cons]
 simp only [List.cons_append,List.append_assoc,List.nil_append]
 rw [this,sumE_app]
 simp only [pe,sumE]
 omega
theorem ar_ear (w a:Pq)(K:List Pq)(b:Pq):ar (w::a::(K++[b]))=ar (a::(K++[b]))+crossI b w a:=by
 rw [ar_cl,ar_pe,cross_dt,dt_swap a b]
 omega
theorem ar_dia (w a:Pq)(N1:List Pq)(x:Pq)(N2:List Pq)(b:Pq):ar (w::a::(N1++x::(N2++[b])))=ar (w::a::(N1++[x]))+ar (w::x::(N2++[b])):=by
 have h1:=ar_cl w a (N1++x::N2) b
 simp only [List.cons_append,List.append_assoc,List.nil_append] at h1
 have h2:=pe_app (a::N1) x (N2++[b])
 simp only [List.cons_append,List.append_assoc,List.nil_append] at h2
 rw [h1,ar_cl,ar_cl,h2,sumE_app,dt_swap x w]
 omega
theorem ar_three (v a b:Pq):ar [v,a,b]=crossI b v a:=by
 unfold ar cl
 simp only [List.cons_append,List.nil_append,pe,sumE]
 rw [cross_dt]
 omega
theorem cross_flip (a b c:Pq):crossI b a c = -crossI a b c:=by
 unfold crossI
 grind
def lxp (x y:Int):Prop:=0<x∨(x=0∧0<y)
def lxw (x y:Int):Prop:=0<x∨(x=0∧0≤y)
def lx (p q:Pq):Prop:=lxp (q.1 - p.1) (q.2 - p.2)
theorem lxp_mul {k x y:Int}(hk:0<k)(h:lxp x y):lxp (k*x) (k*y):=by
 rcases h with h|⟨h,h2⟩
 ·exact .inl (Int.mul_pos hk h)
 ·exact .inr ⟨by rw [h,Int.mul_zero],Int.mul_pos hk h2⟩
theorem lxw_mul {k x y:Int}(hk:0≤k)(h:lxp x y):lxw (k*x) (k*y):=by
 rcases Int.lt_or_eq_of_le hk with h0|h0
 ·rcases lxp_mul h0 h with g|g
  ·exact .inl g
  ·exact .inr ⟨g.1,by omega⟩
 ·rw [← h0]
  exact .inr ⟨by omega,by omega⟩
theorem lxw_add {x y x' y':Int}(h:lxw x y)(g:lxw x' y'):lxw (x+x') (y+y'):=by
 unfold lxw at *
 omega
theorem lxp_add {x y x' y':Int}(h:lxp x y)(g:lxw x' y'):lxp (x+x') (y+y'):=by
 unfold lxp lxw at *
 omega
theorem lx_ne {p q:Pq}(h:lx p q):p≠q:=by
 rintro rfl
 unfold lx lxp at h
 omega
theorem lx_total {p q:Pq}(h:p≠q):lx p q∨lx q p:=by
 unfold lx lxp
 by_cases h1:p.1=q.1
 ·by_cases h2:p.2=q.2
  ·exact absurd (Prod.ext h1 h2) h
  ·omega
 ·omega
theorem lx_trans {p q r:Pq}(h:lx p q)(g:lx q r):lx p r:=by
 unfold lx lxp at *
 omega
theorem lx_min:∀ (L:List Pq),L≠[]→∃ w∈L,∀ p∈L,p≠w→lx w p
 |[],h=>absurd rfl h
 |[a],_=>⟨a,.head _,fun p hp hne=>absurd (by simpa using hp) hne⟩
 |a::b::r,_=>by
  obtain⟨w,h1,h2⟩:=lx_min (b::r) (by simp)
  by_cases e:a=w
  ·refine⟨w,.tail _ h1,fun p hp hne=>?_⟩
   rcases List.mem_cons.1 hp with hp|hp
   ·exact absurd (hp.trans e) hne
   ·exact h2 p hp hne
  ·rcases lx_total e with g|g
   ·refine⟨a,.head _,fun p hp hne=>?_⟩
    rcases List.mem_cons.1 hp with hp|hp
    ·exact absurd hp hne
    ·by_cases e2:p=w
     ·rw [e2];exact g
     ·exact lx_trans g (h2 p hp e2)
   ·refine⟨w,.tail _ h1,fun p hp hne=>?_⟩
    rcases List.mem_cons.1 hp with hp|hp
    ·rw [hp];exact g
    ·exact h2 p hp hne
theorem argmax (f:Pq→Int)(C:Pq→Prop):∀ (L:List Pq),(∃ p∈L,C p)→∃ x∈L,C x∧∀ p∈L,C p→f p≤f x
 |[],⟨_,h,_⟩=>by cases h
 |a::r,⟨p,hp,hc⟩=>by
  by_cases hr:∃ p∈r,C p
  ·obtain⟨x,h1,h2,h3⟩:=argmax f C r hr
   by_cases ha:C a∧f x<f a
   ·refine⟨a,.head _,ha.1,fun p hp hc=>?_⟩
    rcases List.mem_cons.1 hp with rfl|hp
    ·exact Int.le_refl _
    ·exact Int.le_trans (h3 p hp hc) (Int.le_of_lt ha.2)
   ·refine⟨x,.tail _ h1,h2,fun p hp hc=>?_⟩
    rcases List.mem_cons.1 hp with rfl|hp
    ·exact Int.not_lt.1 fun g=>ha ⟨hc,g⟩
    ·exact h3 p hp hc
  ·rcases List.mem_cons.1 hp with rfl|hp
   ·refine⟨p,.head _,hc,fun q hq hcq=>?_⟩
    rcases List.mem_cons.1 hq with rfl|hq
    ·exact Int.le_refl _
    ·exact absurd ⟨q,hq,hcq⟩ hr
   ·exact absurd ⟨p,hp,hc⟩ hr
theorem onW_mid {w a b:Pq}{N k:Int}(h0:0≤k)(h1:k≤N)(e1:N*(a.1 - w.1)=k*(b.1 - w.1))(e2:N*(a.2 - w.2)=k*(b.2 - w.2)):onW N (N*a.1) (N*a.2) w b :=
 ⟨N - k,k,by omega,h0,by omega,by grind,by grind⟩
theorem turns_min {w a b:Pq}{K:List Pq}(h:Simp (w::a::(K++[b])))(ha:lx w a)(hb:lx w b):crossI b w a≠0:=by
 intro hc
 have hn:=h.nodup
 have hcl:=cl_first w a K b
 have mwa:(w,a)∈cl (w::a::(K++[b])):=by rw [hcl];exact .head _
 have mbw:(b,w)∈cl (w::a::(K++[b])):=by rw [hcl];exact .tail _ (List.mem_append.2 (.inr (.head _)))
 have hab:a≠b:=fun e=>(List.nodup_cons.1 (List.nodup_cons.1 hn).2).1 (by rw [e];simp)
 have hma:a∈w::a::(K++[b]):=by simp
 have hmb:b∈w::a::(K++[b]):=by simp
 have ka:∀ N k:Int,0<N→0≤k→k≤N→N*(a.1 - w.1)=k*(b.1 - w.1)→N*(a.2 - w.2)=k*(b.2 - w.2)→False:=fun N k hN h0 h1 e1 e2=>by
  rcases h.on hma mbw hN (onW_rev (onW_mid h0 h1 e1 e2)) with e|e
  ·exact hab e
  ·exact lx_ne ha e.symm
 have kb:∀ N k:Int,0<N→0≤k→k≤N→N*(b.1 - w.1)=k*(a.1 - w.1)→N*(b.2 - w.2)=k*(a.2 - w.2)→False:=fun N k hN h0 h1 e1 e2=>by
  rcases h.on hmb mwa hN (onW_mid h0 h1 e1 e2) with e|e
  ·exact lx_ne hb e.symm
  ·exact hab e.symm
 have hx:(a.1 - w.1)*(b.2 - w.2)=(a.2 - w.2)*(b.1 - w.1):=by
  clear ka kb h
  unfold crossI at hc
  grind
 unfold lx lxp at ha hb
 generalize hu1:a.1 - w.1=u1 at ha hx ka kb
 generalize hu2:a.2 - w.2=u2 at ha hx ka kb
 generalize ht1:b.1 - w.1=t1 at hb hx ka kb
 generalize ht2:b.2 - w.2=t2 at hb hx ka kb
 rcases ha with ha|⟨ha,ha2⟩
 ·rcases hb with hb|⟨hb,hb2⟩
  ·rcases Int.le_total u1 t1 with g|g
   ·exact ka t1 u1 hb (by omega) g (Int.mul_comm _ _) (by rw [Int.mul_comm,← hx])
   ·exact kb u1 t1 ha (by omega) g (Int.mul_comm _ _) (by rw [hx,Int.mul_comm])
  ·rw [hb,Int.mul_zero] at hx
   have:=Int.mul_pos ha hb2
   omega
 ·rcases hb with hb|⟨hb,hb2⟩
  ·rw [ha,Int.zero_mul] at hx
   have:=Int.mul_pos ha2 hb
   omega
  ·rcases Int.le_total u2 t2 with g|g
   ·exact ka t2 u2 hb2 (by omega) g (by rw [ha,hb];simp) (Int.mul_comm _ _)
   ·exact kb u2 t2 ha2 (by omega) g (by rw [ha,hb];simp) (Int.mul_comm _ _)
theorem out_min {p q w v:Pq}(T:Tri p q w)(h1:lx v p)(h2:lx v q)(h3:lx v w):¬ inT T v:=by
 rintro ⟨a1,a2,a3⟩
 have hD:=T.pos
 have hs:=T.sum v
 have hx:=T.xs v
 have hy:=T.ys v
 generalize at3 T.A v=A at *
 generalize at3 T.B v=B at *
 generalize at3 T.V v=V at *
 have ex:A*(p.1 - v.1)+(B*(q.1 - v.1)+V*(w.1 - v.1))=0:=by rw [← hs] at hx;grind
 have ey:A*(p.2 - v.2)+(B*(q.2 - v.2)+V*(w.2 - v.2))=0:=by rw [← hs] at hy;grind
 have m1:=lxw_mul a1 h1
 have m2:=lxw_mul a2 h2
 have m3:=lxw_mul a3 h3
 have no:¬ lxp 0 0:=by unfold lxp;omega
 by_cases g1:0<A
 ·have:=lxp_add (lxp_mul g1 h1) (lxw_add m2 m3)
  rw [ex,ey] at this
  exact no this
 ·by_cases g2:0<B
  ·have:=lxp_add (lxp_mul g2 h2) (lxw_add m1 m3)
   rw [show B*(q.1 - v.1)+(A*(p.1 - v.1)+V*(w.1 - v.1))=0 by omega,show B*(q.2 - v.2)+(A*(p.2 - v.2)+V*(w.2 - v.2))=0 by omega] at this
   exact no this
  ·have:=lxp_add (lxp_mul (show 0<V by omega) h3) (lxw_add m1 m2)
   rw [show V*(w.1 - v.1)+(A*(p.1 - v.1)+B*(q.1 - v.1))=0 by omega,show V*(w.2 - v.2)+(A*(p.2 - v.2)+B*(q.2 - v.2))=0 by omega] at this
   exact no this
theorem ear_x {a b v m:Pq}(T:Tri a b v)(hok:okP (m,a) (b,v))(hA:at3 T.A m<0)(hB:0≤at3 T.B m)(hV:0≤at3 T.V m):False:=by
 have hD:=T.pos
 have hma:m≠a:=fun e=>by rw [e,T.Aa] at hA;omega
 have:=exitA T (r:=m) (s:=a) (α:=0) (β:=1) (by omega) (by omega) (by omega) hma (by rw [T.Aa];omega) (by rw [T.Ba];omega) (by rw [T.Va];omega) hA hV (by
  rw [T.Ba,T.Aa]
  have:=Int.mul_nonneg (show 0≤T.D by omega) hB
  simp only [Int.zero_mul,Int.zero_add,Int.one_mul,Int.mul_zero]
  exact this) hok
 have:=this.2.2
 rw [T.Aa] at this
 omega
theorem ear_side {a b v m:Pq}(T:Tri a b v)(hok:okP (m,a) (b,v))(hm:¬ inT T m)(hva:lx v a)(hab:lx a b)(ham:lx a m):at3 T.V m<0:=by
 refine Int.not_le.1 fun hV=>?_
 have hD:=T.pos
 by_cases hB:0≤at3 T.B m
 ·by_cases hA:0≤at3 T.A m
  ·exact hm ⟨hA,hB,hV⟩
  ·exact ear_x T hok (by omega) hB hV
 ·have hs:=T.sum m
  have hx:=T.xs m
  have hy:=T.ys m
  have:=lxp_add (lxp_mul (show 0 < -at3 T.B m by omega) hab) (lxw_mul hV hva)
  generalize at3 T.A m=A at *
  generalize at3 T.B m=B at *
  generalize at3 T.V m=V at *
  have ex : -B*(b.1 - a.1)+V*(a.1 - v.1)=T.D*(a.1 - m.1):=by rw [← hs] at hx ⊢;grind
  have ey : -B*(b.2 - a.2)+V*(a.2 - v.2)=T.D*(a.2 - m.2):=by rw [← hs] at hy ⊢;grind
  rw [ex,ey] at this
  have h2:=lxp_mul hD ham
  have e1:T.D*(a.1 - m.1) = -(T.D*(m.1 - a.1)):=by grind
  have e2:T.D*(a.2 - m.2) = -(T.D*(m.2 - a.2)):=by grind
  rw [e1,e2] at this
  unfold lxp at this h2
  omega
theorem ear_four {a b v w:Pq}(T:Tri a b v)(hka:okP (w,a) (b,v))(hkb:okP (w,b) (a,v))(hw:¬ inT T w)(hva:lx v a)(hvb:lx v b)(hvw:lx v w):at3 T.V w<0:=by
 refine Int.not_le.1 fun hV=>?_
 have hD:=T.pos
 by_cases hB:0≤at3 T.B w
 ·by_cases hA:0≤at3 T.A w
  ·exact hw ⟨hA,hB,hV⟩
  ·exact ear_x T hka (by omega) hB hV
 ·by_cases hA:0≤at3 T.A w
  ·exact ear_x T.swap hkb (show at3 T.B w<0 by omega) hA hV
  ·have hs:=T.sum w
   have hx:=T.xs w
   have hy:=T.ys w
   have:=lxp_add (lxp_mul (show 0 < -at3 T.B w by omega) hvb) (lxw_mul (show 0≤-at3 T.A w by omega) hva)
   generalize at3 T.A w=A at *
   generalize at3 T.B w=B at *
   generalize at3 T.V w=V at *
   have ex : -B*(b.1 - v.1) + -A*(a.1 - v.1)=T.D*(v.1 - w.1):=by rw [← hs] at hx ⊢;grind
   have ey : -B*(b.2 - v.2) + -A*(a.2 - v.2)=T.D*(v.2 - w.2):=by rw [← hs] at hy ⊢;grind
   rw [ex,ey] at this
   have h2:=lxp_mul hD hvw
   have e1:T.D*(v.1 - w.1) = -(T.D*(w.1 - v.1)):=by grind
   have e2:T.D*(v.2 - w.2) = -(T.D*(w.2 - v.2)):=by grind
   rw [e1,e2] at this
   unfold lxp at this h2
   omega
end Go.Aw
end
