/-
  Parts of a proof. No condition.
-/
import Derived.Test.YtoekkmbbbllogaaGreatQBd
import Derived.Test.YtoekkmbbbllogaaGreatQBf
set_option linter.unusedSimpArgs false
set_option linter.unusedVariables false
noncomputable section
namespace Go.Aw
theorem dp_on {N X Y α β:Int}{a x p q:Pq}(h3:α+β=N)(h4:X=α*p.1+β*q.1)(h5:Y=α*p.2+β*q.2) :
  α*dp a x p+β*dp a x q=(x.1 - a.1)*(X - N*a.1)+(x.2 - a.2)*(Y - N*a.2):=by
 subst h3 h4 h5
 unfold dp
 grind
theorem dp_self_pos {a x:Pq}(h:a≠x):0<dp a x x:=sq_pos fun g=>h (Prod.ext (by omega) (by omega))
theorem Simp.lid {a c2 x b:Pq}{N1 N2:List Pq}(h:Simp (a::c2::(N1++x::(N2++[b]))))(hL:∀ z∈a::c2::(N1++x::(N2++[b])),0≤crossI a x z)(hC:clearS (a::c2::(N1++x::(N2++[b]))) a x) :
  Simp (a::c2::(N1++[x]))∧Simp (a::x::(N2++[b])):=by
 refine h.cut ?_
 rintro ⟨c,d⟩ hf N X Y hN h1 h2
 have hn:=h.nodup
 have hm:=cl_mem hf
 simp only at hm h1 h2
 have hax:a≠x:=fun e=>(List.nodup_cons.1 hn).1 (by rw [e];simp)
 have hxc:x≠c2:=fun e=>(List.nodup_cons.1 (List.nodup_cons.1 hn).2).1 (by rw [← e];simp)
 have hxb:x≠b:=fun e=>by
  have h3:=(List.nodup_cons.1 (List.nodup_cons.1 hn).2).2
  have:=(List.nodup_cons.1 (List.nodup_append.1 h3).2.1).1
  exact this (by rw [e];simp)
 have hS:=dp_self_pos hax
 have hcd:c≠d:=h.ne hf
 have co:=cross_own h1
 obtain⟨α,β,p1,p2,p3,p4,p5⟩:=h1
 obtain⟨γ,δ,q1,q2,q3,q4,q5⟩:=h2
 have m1:=cross_on (a:=a) (b:=x) q3 q4 q5
 have d1:=dp_on (a:=a) (x:=x) q3 q4 q5
 have d2:=dp_on (a:=a) (x:=x) p3 p4 p5
 rw [← d2] at d1
 rw [co] at m1
 have da:dp a x a=0:=by unfold dp;grind
 rw [da,Int.mul_zero,Int.zero_add] at d1
 have lc:=hL c hm.1
 have ld:=hL d hm.2
 have i1:=Int.mul_nonneg q1 lc
 have i2:=Int.mul_nonneg q2 ld
 have bS:=Int.mul_nonneg p2 (Int.le_of_lt hS)
 have bN:β*dp a x x≤N*dp a x x:=Int.mul_le_mul_of_nonneg_right (by omega) (Int.le_of_lt hS)
 -- a corner of the polygon on the lid is an end of it
 have one:∀ z,z∈a::c2::(N1++x::(N2++[b]))→X=N*z.1→Y=N*z.2→z=a∨z=x:=fun z hz e1 e2=>by
  have c0:crossI a x z=0:=by
   have:N*crossI a x z=0:=by
    rw [e1,e2] at co
    rw [← co]
    unfold crossI
    grind
   exact (mul_zero_or this).resolve_left (by omega)
  have dd:β*dp a x x=N*dp a x z:=by
   rw [e1,e2,da,Int.mul_zero,Int.zero_add] at d2
   rw [d2]
   unfold dp
   grind
  by_cases hd:0<dp a x z
  ·have:=hC z hz c0 hd
   refine .inr (dpr_one hS c0 (Int.le_antisymm ?_ this))
   refine Int.le_of_mul_le_mul_left (a:=N) ?_ hN
   omega
  ·have:dp a x z=0:=by
    have:0≤dp a x z:=Int.not_lt.1 fun g=>by
     have:=Int.mul_neg_of_pos_of_neg hN g
     omega
    omega
   exact .inl (dpr_zero hS c0 this)
 by_cases hg:γ=0
 ·have hd:δ=N:=by omega
  subst hd
  rw [hg,Int.zero_mul,Int.zero_add] at q4 q5
  exact⟨d,one d hm.2 q4 q5,.inr rfl,q4,q5⟩
 ·by_cases hd:δ=0
  ·have hg:γ=N:=by omega
   subst hg
   rw [hd,Int.zero_mul,Int.add_zero] at q4 q5
   exact⟨c,one c hm.1 q4 q5,.inl rfl,q4,q5⟩
  ·exfalso
   have c0:crossI a x c=0:=(mul_zero_or (show γ*crossI a x c=0 by omega)).resolve_left hg
   have d0:crossI a x d=0:=(mul_zero_or (show δ*crossI a x d=0 by omega)).resolve_left hd
   have far:∀ z,z∈a::c2::(N1++x::(N2++[b]))→crossI a x z=0→dp a x z≤0∨dp a x x≤dp a x z:=fun z hz h0=>by
    by_cases g:0<dp a x z
    ·exact .inr (hC z hz h0 g)
    ·exact .inl (by omega)
   have crs:∀ c d:Pq,c∈a::c2::(N1++x::(N2++[b]))→d∈a::c2::(N1++x::(N2++[b]))→((c,d)∈cl (a::c2::(N1++x::(N2++[b])))∨(d,c)∈cl (a::c2::(N1++x::(N2++[b]))))→crossI a x c=0→crossI a x d=0→dp a x c≤0→dp a x x≤dp a x d→False:=fun c d hc hd hcl c0 d0 g1 g2=>by
    have ha:a=c∨a=d:=by
     have hon:=dp_mid hS c0 d0 (z:=a) (by unfold crossI;grind) (by omega) (by omega)
     rcases hcl with hcl|hcl
     ·exact h.on (.head _) hcl (by omega) hon
     ·exact (h.on (.head _) hcl (by omega) (onW_rev hon)).symm
    have hx:x=c∨x=d:=by
     have hon:=dp_mid hS c0 d0 (z:=x) (by unfold crossI;grind) (by omega) (by omega)
     rcases hcl with hcl|hcl
     ·exact h.on (by simp) hcl (by omega) hon
     ·exact (h.on (by simp) hcl (by omega) (onW_rev hon)).symm
    have e1:a=c:=ha.resolve_right fun e=>by rw [← e,da] at g2;omega
    have e2:x=d:=hx.resolve_left fun e=>by rw [← e] at g1;omega
    subst e1 e2
    have hLe:a::c2::(N1++x::(N2++[b]))=a::c2::((N1++x::N2)++[b]):=by simp
    rw [hLe] at hcl hn
    rcases hcl with hcl|hcl
    ·exact hxc ((at_first hn hcl).1 rfl)
    ·exact hxb ((at_first hn hcl).2.1 rfl)
   have gp:0<γ:=by omega
   have dp':0<δ:=by omega
   rcases far c hm.1 c0 with f1|f1 <;> rcases far d hm.2 d0 with f2|f2
   ·have n1:=Int.mul_nonpos_of_nonneg_of_nonpos q1 f1
    have n2:=Int.mul_nonpos_of_nonneg_of_nonpos q2 f2
    have z1:=(mul_zero_or (show γ*dp a x c=0 by omega)).resolve_left hg
    have z2:=(mul_zero_or (show δ*dp a x d=0 by omega)).resolve_left hd
    exact hcd ((dpr_zero hS c0 z1).trans (dpr_zero hS d0 z2).symm)
   ·exact crs c d hm.1 hm.2 (.inl hf) c0 d0 f1 f2
   ·exact crs d c hm.2 hm.1 (.inr hf) d0 c0 f2 f1
   ·have n1:=Int.mul_nonneg q1 (show 0≤dp a x c - dp a x x by omega)
    have n2:=Int.mul_nonneg q2 (show 0≤dp a x d - dp a x x by omega)
    have e:γ*(dp a x c - dp a x x)+δ*(dp a x d - dp a x x)=β*dp a x x - N*dp a x x:=by rw [← d1,← q3];grind
    have z1:=(mul_zero_or (show γ*(dp a x c - dp a x x)=0 by omega)).resolve_left hg
    have z2:=(mul_zero_or (show δ*(dp a x d - dp a x x)=0 by omega)).resolve_left hd
    exact hcd ((dpr_one hS c0 (by omega)).trans (dpr_one hS d0 (by omega)).symm)
structure SameC (P R:List Pq):Prop where
 simp:Simp P→Simp R
 ar:ar R=ar P
 fs:∀ f,fs f R=fs f P
 len:R.length=P.length
 mem:∀ z,z∈R↔z∈P
 cl:∀ e,e∈cl R↔e∈cl P
theorem SameC.rot (A B:List Pq):SameC (A++B) (B++A) :=
 ⟨fun h=>h.rot,ar_rot B A,fun f=>fs_rot f B A,by simp [Nat.add_comm],fun z=>by simp only [List.mem_append];exact Or.comm,fun e=>⟨cl_rot,cl_rot⟩⟩
theorem SameC.trans {P R S:List Pq}(h:SameC P R)(g:SameC R S):SameC P S :=
 ⟨fun x=>g.simp (h.simp x),g.ar.trans h.ar,fun f=>(g.fs f).trans (h.fs f),g.len.trans h.len,fun z=>(g.mem z).trans (h.mem z),fun e=>(g.cl e).trans (h.cl e)⟩
theorem next_path {Q:Pq × Pq→Prop}:∀ (x0 x1:Pq) (r:List Pq),Q (x0,x1)→(∃ e∈pe (x0::x1::r),¬ Q e)→∃ A c a c2 B,x0::x1::r=A++c::a::c2::B∧Q (c,a)∧¬ Q (a,c2)
 |x0,x1,[],h,⟨e,he,hn⟩=>by
  simp only [pe,List.mem_singleton] at he
  exact absurd (he▸h) hn
 |x0,x1,x2::r,h,⟨e,he,hn⟩=>by
  by_cases h2:Q (x1,x2)
  ·rw [pe] at he
   have he:e∈pe (x1::x2::r):=(List.mem_cons.1 he).resolve_left fun g=>hn (g▸h)
   obtain⟨A,c,a,c2,B,e1,e2,e3⟩:=next_path x1 x2 r h2 ⟨e,he,hn⟩
   exact⟨x0::A,c,a,c2,B,by rw [e1];rfl,e2,e3⟩
  ·exact⟨[],x0,x1,x2,r,rfl,h,h2⟩
theorem pe_split:∀ (L:List Pq) (e:Pq × Pq),e∈pe L→∃ A B,L=A++e.1::e.2::B
 |[],e,h=>by cases h
 |[a],e,h=>by cases h
 |a::b::r,e,h=>by
  rw [pe] at h
  rcases List.mem_cons.1 h with rfl|h
  ·exact⟨[],r,rfl⟩
  ·obtain⟨A,B,e1⟩:=pe_split (b::r) e h
   exact⟨a::A,B,by rw [e1];rfl⟩
theorem samec_from {P:List Pq}(h3:3≤P.length){c a:Pq}(he:(c,a)∈cl P):∃ R,SameC P (c::a::R):=by
 cases P with
 |nil=>simp at h3
 |cons p r =>
  obtain⟨A,B,e⟩:=pe_split (p::r++[p]) (c,a) he
  simp only at e
  by_cases hB:B=[]
  ·subst hB
   have e2:(p::r)++[p]=(A++[c])++[a]:=by rw [e];simp
   obtain⟨e3,e4⟩:=List.append_inj' e2 rfl
   have e4:p=a:=by simpa using e4
   cases A with
   |nil=>simp at e3;simp [e3] at h3
   |cons y A =>
    simp only [List.cons_append,List.cons.injEq] at e3
    have hs:=SameC.rot (p::A) [c]
    rw [e3.2]
    refine⟨A,?_⟩
    rw [← e4]
    exact hs
  ·obtain⟨B',y,rfl⟩:=last_split hB
   have e2:(p::r)++[p]=(A++c::a::B')++[y]:=by rw [e];simp
   obtain⟨e3,-⟩:=List.append_inj' e2 rfl
   rw [e3]
   exact⟨B'++A,SameC.rot A (c::a::B')⟩
theorem next_cyc {Q:Pq × Pq→Prop}{P:List Pq}(h3:3≤P.length){e f:Pq × Pq}(he:e∈cl P)(hq:Q e)(hf:f∈cl P)(hnf:¬ Q f):∃ a c2 K c,SameC P (a::c2::(K++[c]))∧Q (c,a)∧¬ Q (a,c2):=by
 obtain⟨c0,a0⟩:=e
 obtain⟨R,hR⟩:=samec_from h3 he
 have hf':=(hR.cl f).2 hf
 have hl:=hR.len
 obtain⟨A,c,a,c2,B,e1,e2,e3⟩:=next_path c0 a0 (R++[c0]) hq ⟨f,hf',hnf⟩
 by_cases hB:B=[]
 ·subst hB
  have e4:(c0::a0::R)++[c0]=(A++[c,a])++[c2]:=by
   have:c0::a0::(R++[c0])=(c0::a0::R)++[c0]:=rfl
   rw [← this,e1]
   simp
  obtain⟨e5,e6⟩:=List.append_inj' e4 rfl
  have e6:c0=c2:=by simpa using e6
  cases A with
  |nil =>
   have:=congrArg List.length e5
   simp only [List.length_cons,List.length_append,List.length_nil] at this hl
   omega
  |cons y A =>
   simp only [List.cons_append,List.cons.injEq] at e5
   have hs:=SameC.rot (c0::(A++[c])) [a]
   have e7:c0::a0::R=c0::(A++[c])++[a]:=by rw [e5.2];simp
   rw [← e7] at hs
   refine⟨a,c2,A,c,?_,e2,e3⟩
   rw [← e6]
   exact hR.trans hs
 ·obtain⟨B',y,rfl⟩:=last_split hB
  have e4:(c0::a0::R)++[c0]=(A++c::a::c2::B')++[y]:=by
   have:c0::a0::(R++[c0])=(c0::a0::R)++[c0]:=rfl
   rw [← this,e1]
   simp
  obtain⟨e5,-⟩:=List.append_inj' e4 rfl
  have hs:=SameC.rot (A++[c]) (a::c2::B')
  have e7:c0::a0::R=(A++[c])++a::c2::B':=by rw [e5];simp
  rw [← e7] at hs
  have e8:a::c2::B'++(A++[c])=a::c2::((B'++A)++[c]):=by simp
  rw [e8] at hs
  exact⟨a,c2,B'++A,c,hR.trans hs,e2,e3⟩
theorem fw_cr {c a x z:Pq}(h:crossI c a x=0):lf (a.1 - c.1,a.2 - c.2) c a*crossI a x z=lf (a.1 - c.1,a.2 - c.2) a x*crossI c a z:=by
 unfold lf
 unfold crossI at h ⊢
 grind
theorem fw_dp {c a x z:Pq}(h:crossI c a x=0):lf (a.1 - c.1,a.2 - c.2) c a*dp a x z=lf (a.1 - c.1,a.2 - c.2) a x*lf (a.1 - c.1,a.2 - c.2) a z:=by
 unfold lf dp
 unfold crossI at h
 grind
theorem lid_at {R:List Pq}(hR:Simp R)(ha:0<ar R){a c2 c:Pq}{K:List Pq}(e:R=a::c2::(K++[c])){x:Pq}(hx:x∈c2::(K++[c]))(hL:∀ z∈R,0≤crossI a x z)(hn:¬ leftP R (a,c2)):x∈K:=by
 have h2:x≠c2:=fun g=>hn (by rw [← g];exact hL)
 have h3:x≠c:=fun g=>by
  have:(c,a)∈cl R:=by rw [e,cl_first];exact .tail _ (List.mem_append.2 (.inr (.head _)))
  have:=hR.neg this fun z hz=>by
   have:=hL z hz
   have e:crossI c a z = -crossI a c z:=by unfold crossI;grind
   rw [g] at this
   omega
  omega
 simp only [List.mem_cons,List.mem_append,List.not_mem_nil,or_false] at hx
 rcases hx with hx|hx|hx
 ·exact absurd hx h2
 ·exact hx
 ·exact absurd hx h3
open Classical in
theorem Simp.lid_ex {P:List Pq}(h:Simp P)(ha:0<ar P)(hn:¬ ∀ e∈cl P,leftP P e):∃ a c2 N1 x N2 b,SameC P (a::c2::(N1++x::(N2++[b])))∧(∀ z∈a::c2::(N1++x::(N2++[b])),0≤crossI a x z)∧clearS (a::c2::(N1++x::(N2++[b]))) a x:=by
 have key:∃ a c2 K c x,SameC P (a::c2::(K++[c]))∧x∈c2::(K++[c])∧(∀ z∈a::c2::(K++[c]),0≤crossI a x z)∧clearS (a::c2::(K++[c])) a x∧¬ leftP (a::c2::(K++[c])) (a,c2):=by
  have self0:∀ a x:Pq,crossI a x a=0:=fun a x=>by unfold crossI;grind
  have dp0:∀ a x:Pq,dp a x a=0:=fun a x=>by unfold dp;grind
  by_cases hs:∃ e∈cl P,leftP P e
  ·obtain⟨e,he,hq⟩:=hs
   obtain⟨f,hf⟩:=Classical.not_forall.1 hn
   obtain⟨hf,hnf⟩:=Classical.not_imp.1 hf
   obtain⟨a,c2,K,c,hS,g1,g2⟩:=next_cyc (Q:=leftP P) h.len he hq hf hnf
   have hR:=hS.simp h
   have hnd:=hR.nodup
   have haK:a∉c2::(K++[c]):=(List.nodup_cons.1 hnd).1
   have hca:c≠a:=fun g=>haK (by rw [← g];simp)
   have hE:0<lf (a.1 - c.1,a.2 - c.2) c a:=sq_pos fun g=>hca (Prod.ext (by omega) (by omega))
   have g1':∀ z∈a::c2::(K++[c]),0≤crossI c a z:=fun z hz=>g1 z ((hS.mem z).1 hz)
   have g2':¬ leftP (a::c2::(K++[c])) (a,c2):=fun g=>g2 fun z hz=>g z ((hS.mem z).2 hz)
   refine⟨a,c2,K,c,?_⟩
   by_cases hfw:∃ z∈c2::(K++[c]),crossI c a z=0∧0<lf (a.1 - c.1,a.2 - c.2) a z
   ·obtain⟨z0,hz0,hz1⟩:=hfw
    obtain⟨x,hx,hm⟩:=first_met (a:=a) (f:=(a.1 - c.1,a.2 - c.2)) (g:=(-(a.2 - c.2),a.1 - c.1)) (by
     have:dt (a.1 - c.1,a.2 - c.2) (-(a.2 - c.2),a.1 - c.1)=lf (a.1 - c.1,a.2 - c.2) c a:=by unfold dt lf;grind
     omega) ((c2::(K++[c])).filter fun z=>decide (crossI c a z=0∧0<lf (a.1 - c.1,a.2 - c.2) a z)) (fun g=>by
      have:z0∈(c2::(K++[c])).filter fun z=>decide (crossI c a z=0∧0<lf (a.1 - c.1,a.2 - c.2) a z):=List.mem_filter.2 ⟨hz0,by simp [hz1]⟩
      rw [g] at this
      cases this) (fun z hz=>.inl (by
      have:=(List.mem_filter.1 hz).2
      simp at this
      exact this.2))
    have hxp:=(List.mem_filter.1 hx).2
    simp only [decide_eq_true_eq] at hxp
    have hxm:=(List.mem_filter.1 hx).1
    refine⟨x,hS,hxm,fun z hz=>?_,fun z hz hz0 hzd=>?_,g2'⟩
    ·have e:=fw_cr (z:=z) hxp.1
     have:=Int.mul_nonneg (Int.le_of_lt hxp.2) (g1' z hz)
     exact Int.not_lt.1 fun g=>by
      have:=Int.mul_neg_of_pos_of_neg hE g
      omega
    ·have e:=fw_cr (z:=z) hxp.1
     rw [hz0,Int.mul_zero] at e
     have c0:=(mul_zero_or e.symm).resolve_left (by omega)
     have e2:=fw_dp (z:=z) hxp.1
     have:=Int.mul_pos hE hzd
     have l0:0<lf (a.1 - c.1,a.2 - c.2) a z:=Int.not_le.1 fun g=>by
      have:=Int.mul_nonpos_of_nonneg_of_nonpos (Int.le_of_lt hxp.2) g
      omega
     have hza:z≠a:=fun g=>by rw [g,dp0] at hzd;omega
     exact (hm z (List.mem_filter.2 ⟨(List.mem_cons.1 hz).resolve_left hza,by simp [c0,l0]⟩)).2 hz0
   ·obtain⟨x,hx,hm⟩:=first_met (a:=a) (f:=(-(a.2 - c.2),a.1 - c.1)) (g:=(-(a.1 - c.1),-(a.2 - c.2))) (by
     have:dt (-(a.2 - c.2),a.1 - c.1) (-(a.1 - c.1),-(a.2 - c.2))=lf (a.1 - c.1,a.2 - c.2) c a:=by unfold dt lf;grind
     omega) (c2::(K++[c])) (by simp) (fun z hz=>by
      have e1:lf (-(a.2 - c.2),a.1 - c.1) a z=crossI c a z:=by unfold lf crossI;grind
      have e2:lf (-(a.1 - c.1),-(a.2 - c.2)) a z = -lf (a.1 - c.1,a.2 - c.2) a z:=by unfold lf;grind
      unfold pos lxp
      rw [e1,e2]
      have g0:=g1' z (.tail _ hz)
      by_cases hz0:crossI c a z=0
      ·refine .inr ⟨hz0,?_⟩
       have n1:¬ 0<lf (a.1 - c.1,a.2 - c.2) a z:=fun g=>hfw ⟨z,hz,hz0,g⟩
       have n2:lf (a.1 - c.1,a.2 - c.2) a z≠0:=fun g=>haK (by
        have f1:lf (a.1 - c.1,a.2 - c.2) c a*(z.1 - a.1)=0:=by unfold lf at g ⊢;unfold crossI at hz0;clear e1 e2;grind
        have f2:lf (a.1 - c.1,a.2 - c.2) c a*(z.2 - a.2)=0:=by unfold lf at g ⊢;unfold crossI at hz0;clear e1 e2;grind
        have f3:=(mul_zero_or f1).resolve_left (by omega)
        have f4:=(mul_zero_or f2).resolve_left (by omega)
        have:z=a:=Prod.ext (by omega) (by omega)
        rw [← this]
        exact hz)
       omega
      ·exact .inl (by omega))
    refine⟨x,hS,hx,fun z hz=>?_,fun z hz hz0 hzd=>?_,g2'⟩
    ·rcases List.mem_cons.1 hz with rfl|hz
     ·rw [self0];exact Int.le_refl _
     ·exact (hm z hz).1
    ·rcases List.mem_cons.1 hz with rfl|hz
     ·rw [dp0] at hzd;omega
     ·exact (hm z hz).2 hz0
  ·obtain⟨A,w,B,a,K,b,e1,e2,hsp,hm,e3⟩:=h.least
   have hS:SameC P (w::a::(K++[b])):=by
    have:=SameC.rot A (w::B)
    rw [← e1,e2] at this
    exact this
   obtain⟨x,hx,hmx⟩:=first_met (a:=w) (f:=(1,0)) (g:=(0,1)) (by decide) (a::(K++[b])) (by simp) (fun z hz=>by
    have:=hm z hz
    unfold pos lf
    unfold lx at this
    simpa using this)
   refine⟨w,a,K,b,x,hS,hx,fun z hz=>?_,fun z hz hz0 hzd=>?_,fun g=>hs ⟨(w,a),(hS.cl _).1 (by rw [cl_first];exact .head _),fun z hz=>g z ((hS.mem z).2 hz)⟩⟩
   ·rcases List.mem_cons.1 hz with rfl|hz
    ·rw [self0];exact Int.le_refl _
    ·exact (hmx z hz).1
   ·rcases List.mem_cons.1 hz with rfl|hz
    ·rw [dp0] at hzd;omega
    ·exact (hmx z hz).2 hz0
 obtain⟨a,c2,K,c,x,hS,hx,hL,hC,hnl⟩:=key
 have hxK:=lid_at (hS.simp h) (by rw [hS.ar];exact ha) rfl hx hL hnl
 obtain⟨N1,N2,rfl⟩:=List.append_of_mem hxK
 have e0:a::c2::((N1++x::N2)++[c])=a::c2::(N1++x::(N2++[c])):=by simp
 rw [e0] at hS hL hC
 exact⟨a,c2,N1,x,N2,c,hS,hL,hC⟩
theorem wn_le1 (u:Pq){N:Int}(hN:0<N)(p:Pq):∀ (n:Nat) (P:List Pq),P.length=n→Simp P→0<ar P→fs (wn u N p) P≤1:=fun n=>by
 induction n using Nat.strongRecOn with
 |_ n ih =>
  intro P hl hP ha
  by_cases hc:∀ e∈cl P,leftP P e
  ·exact hP.cx hc u hN p
  ·obtain⟨a,c2,N1,x,N2,b,hS,hL,hC⟩:=hP.lid_ex ha hc
   have hR:=hS.simp hP
   obtain⟨d1,d2⟩:=hR.lid hL hC
   have n1:ar (a::c2::(N1++[x]))<0:=by
    refine d1.neg (d:=x) (c:=a) (by rw [cl_first];exact .tail _ (List.mem_append.2 (.inr (.head _)))) fun z hz=>?_
    have hz':z∈a::c2::(N1++x::(N2++[b])):=by
     simp only [List.mem_cons,List.mem_append,List.not_mem_nil,or_false] at hz ⊢
     rcases hz with hz|hz|hz|hz
     ·exact .inl hz
     ·exact .inr (.inl hz)
     ·exact .inr (.inr (.inl hz))
     ·exact .inr (.inr (.inr (.inl hz)))
    have:=hL z hz'
    have e:crossI x a z = -crossI a x z:=by unfold crossI;grind
    omega
   have e1:=ar_dia a c2 N1 x N2 b
   have e2:=hS.ar
   have w1:=wn_nonpos u hN p d1 n1
   have w2:=ih (a::x::(N2++[b])).length (by
    have:=hS.len
    simp at this ⊢
    omega) _ rfl d2 (by omega)
   have e3:=fs_dia (wn_anti u N p) a c2 N1 x N2 b
   have e4:=hS.fs (wn u N p)
   omega
end Go.Aw
end

noncomputable section
namespace Go.Aw
def chiI (A A':Int):Int:=if 0<A∧A'≤0 then 1 else 0
theorem wedge {A B A' B' C D:Int}(hD:0<D)(h:D*C=A*B' - B*A')(h0:C=0→(0<A↔0<B)∧(0<A'↔0<B')):rI A B C - rI A' B' C=chiI B B' - chiI A A':=by
 have k1:A≤0→0<B→A'≤0→B'≤0→0<C:=fun a b a' b'=>Int.not_le.1 fun hc=>by
  have m1:=Int.mul_nonneg_of_nonpos_of_nonpos a b'
  have m2:=Int.mul_nonpos_of_nonneg_of_nonpos (Int.le_of_lt b) a'
  have m3:=Int.mul_nonpos_of_nonneg_of_nonpos (Int.le_of_lt hD) hc
  have:C=0:=(mul_zero_or (show D*C=0 by omega)).resolve_left (by omega)
  have:=h0 this
  omega
 have k2:A≤0→0<B→0<A'→0<B'→C<0:=fun a b a' b'=>Int.not_le.1 fun hc=>by
  have m1:=Int.mul_nonpos_of_nonpos_of_nonneg a (Int.le_of_lt b')
  have m2:=Int.mul_pos b a'
  have m3:=Int.mul_nonneg (Int.le_of_lt hD) hc
  omega
 have k3:0<A→B≤0→A'≤0→B'≤0→C<0:=fun a b a' b'=>Int.not_le.1 fun hc=>by
  have m1:=Int.mul_nonpos_of_nonneg_of_nonpos (Int.le_of_lt a) b'
  have m2:=Int.mul_nonneg_of_nonpos_of_nonpos b a'
  have m3:=Int.mul_nonneg (Int.le_of_lt hD) hc
  have:C=0:=(mul_zero_or (show D*C=0 by omega)).resolve_left (by omega)
  have:=h0 this
  omega
 have k4:0<A→B≤0→0<A'→0<B'→0<C:=fun a b a' b'=>Int.not_le.1 fun hc=>by
  have m1:=Int.mul_pos a b'
  have m2:=Int.mul_nonpos_of_nonpos_of_nonneg b (Int.le_of_lt a')
  have m3:=Int.mul_nonpos_of_nonneg_of_nonpos (Int.le_of_lt hD) hc
  omega
 have k5:A≤0→B≤0→A'≤0→0<B'→C≤0:=fun a b a' b'=>Int.not_lt.1 fun hc=>by
  have m1:=Int.mul_nonpos_of_nonpos_of_nonneg a (Int.le_of_lt b')
  have m2:=Int.mul_nonneg_of_nonpos_of_nonpos b a'
  have m3:=Int.mul_pos hD hc
  omega
 have k6:A≤0→B≤0→0<A'→B'≤0→0≤C:=fun a b a' b'=>Int.not_lt.1 fun hc=>by
  have m1:=Int.mul_nonneg_of_nonpos_of_nonpos a b'
  have m2:=Int.mul_nonpos_of_nonpos_of_nonneg b (Int.le_of_lt a')
  have m3:=Int.mul_neg_of_pos_of_neg hD hc
  omega
 have k7:0<A→0<B→A'≤0→0<B'→0<C:=fun a b a' b'=>Int.not_le.1 fun hc=>by
  have m1:=Int.mul_pos a b'
  have m2:=Int.mul_nonpos_of_nonneg_of_nonpos (Int.le_of_lt b) a'
  have m3:=Int.mul_nonpos_of_nonneg_of_nonpos (Int.le_of_lt hD) hc
  omega
 have k8:0<A→0<B→0<A'→B'≤0→C<0:=fun a b a' b'=>Int.not_le.1 fun hc=>by
  have m1:=Int.mul_nonpos_of_nonneg_of_nonpos (Int.le_of_lt a) b'
  have m2:=Int.mul_pos b a'
  have m3:=Int.mul_nonneg (Int.le_of_lt hD) hc
  omega
 have k0:C=0∨C<0∨0<C:=by omega
 clear h
 unfold rI chiI
 by_cases a:0<A <;> by_cases b:0<B <;> by_cases a':0<A' <;> by_cases b':0<B' <;>
  simp only [a,b,a',b',← Int.not_lt,not_true_eq_false,not_false_eq_true,and_true,and_false,true_and,false_and,and_self,if_true,if_false,forall_const,true_implies,false_implies,iff_true,true_iff,iff_false,false_iff,imp_false] at*<;>
  (repeat' split) <;> omega
def offS (N:Int)(p:Pq)(e:Pq × Pq):Prop:=¬ ∃ M:Int,0<M∧onW (M*N) (M*p.1) (M*p.2) e.1 e.2
theorem off_zero {N:Int}(hN:0<N){p a b:Pq}(hoff:offS N p (a,b))(h0:dt (vec N p a) (vec N p b)=0)(u:Pq):(0<dt u (vec N p a)↔0<dt u (vec N p b)):=by
 -- the point is beyond both,on their line
 have key:¬ (vec N p a).1*(vec N p b).1+(vec N p a).2*(vec N p b).2≤0:=fun hle=>hoff (by
  by_cases ha:vec N p a=(0,0)
  ·refine⟨1,by decide,N,0,by omega,by decide,by omega,?_,?_⟩
   ·have:=congrArg Prod.fst ha
    simp only [vec] at this
    simp only
    omega
   ·have:=congrArg Prod.snd ha
    simp only [vec] at this
    simp only
    omega
  ·have hpos:0<(vec N p a).1*(vec N p a).1+(vec N p a).2*(vec N p a).2:=sq_pos fun g=>ha (Prod.ext g.1 g.2)
   generalize hS:(vec N p a).1*(vec N p a).1+(vec N p a).2*(vec N p a).2=S at hpos
   generalize hk:(vec N p a).1*(vec N p b).1+(vec N p a).2*(vec N p b).2=k at hle
   refine⟨S - k,by omega,N * -k,N*S,Int.mul_nonneg (by omega) (by omega),Int.mul_nonneg (by omega) (by omega),by rw [← Int.mul_add,Int.mul_comm,Int.sub_eq_add_neg,Int.add_comm],?_,?_⟩
   ·have e1:S*(vec N p b).1=k*(vec N p a).1:=by
     rw [← hS,← hk]
     unfold dt at h0
     clear hoff hS hk
     generalize (vec N p a).1=x1 at *
     generalize (vec N p a).2=x2 at *
     generalize (vec N p b).1=y1 at *
     generalize (vec N p b).2=y2 at *
     grind
    simp only [vec] at e1
    simp only
    clear hS hk hoff h0
    grind
   ·have e1:S*(vec N p b).2=k*(vec N p a).2:=by
     rw [← hS,← hk]
     unfold dt at h0
     clear hoff hS hk
     generalize (vec N p a).1=x1 at *
     generalize (vec N p a).2=x2 at *
     generalize (vec N p b).1=y1 at *
     generalize (vec N p b).2=y2 at *
     grind
    simp only [vec] at e1
    simp only
    clear hS hk hoff h0
    grind)
 have hk:0<(vec N p a).1*(vec N p b).1+(vec N p a).2*(vec N p b).2:=by omega
 generalize vec N p a=x at *
 generalize vec N p b=y at *
 have e:(x.1*y.1+x.2*y.2)*dt u x=(x.1*x.1+x.2*x.2)*dt u y:=by
  unfold dt at *
  clear key hk
  grind
 have hx:0<x.1*x.1+x.2*x.2:=sq_pos fun g=>by rw [g.1,g.2] at hk;simp at hk
 constructor
 ·intro h
  have:=Int.mul_pos hk h
  exact Int.not_le.1 fun g=>by
   have:=Int.mul_nonpos_of_nonneg_of_nonpos (Int.le_of_lt hx) g
   omega
 ·intro h
  have:=Int.mul_pos hx h
  exact Int.not_le.1 fun g=>by
   have:=Int.mul_nonpos_of_nonneg_of_nonpos (Int.le_of_lt hk) g
   omega
theorem wn_two1 {N:Int}(hN:0<N){p u u':Pq}(hD:0<dt u u'){P:List Pq}(hoff:∀ e∈cl P,offS N p e):fs (wn u N p) P=fs (wn u' N p) P:=by
 have h:=tele (fun z=>chiI (dt u (vec N p z)) (dt u' (vec N p z))) P
 have key:∀ L:List (Pq × Pq),(∀ e∈L,offS N p e)→sumF (wn u N p) L - sumF (wn u' N p) L=sumF (fun e=>chiI (dt u (vec N p e.2)) (dt u' (vec N p e.2)) - chiI (dt u (vec N p e.1)) (dt u' (vec N p e.1))) L:=fun L hL=>by
  induction L with
  |nil=>rfl
  |cons e r ih =>
   have h1:=ih fun x hx=>hL x (.tail _ hx)
   have h2:=wedge (A:=dt u (vec N p e.1)) (B:=dt u (vec N p e.2)) (A':=dt u' (vec N p e.1)) (B':=dt u' (vec N p e.2)) (C:=dt (vec N p e.1) (vec N p e.2)) hD (by unfold dt;grind) fun hc=>⟨off_zero hN (hL e (.head _)) hc u,off_zero hN (hL e (.head _)) hc u'⟩
   simp only [sumF]
   unfold wn at h1 ⊢
   omega
 have:=key (cl P) hoff
 unfold fs at h ⊢
 omega
theorem wn_two {N:Int}(hN:0<N){p u u':Pq}(hu:u≠(0,0))(hu':u'≠(0,0)){P:List Pq}(hoff:∀ e∈cl P,offS N p e):fs (wn u N p) P=fs (wn u' N p) P:=by
 have pos2:∀ u:Pq,u≠(0,0)→0<dt u (-u.2,u.1):=fun u hu=>by
  have:=sq_pos (x:=u.1) (y:=u.2) fun g=>hu (Prod.ext g.1 g.2)
  unfold dt
  simp only
  rw [Int.neg_mul]
  omega
 rcases Int.lt_trichotomy (dt u u') 0 with h|h|h
 ·exact (wn_two1 hN (by rw [dt_swap];omega) hoff).symm
 ·-- through a direction across
  have h1:=pos2 u hu
  have h2:dt (-u.2,u.1) u'<0∨0<dt (-u.2,u.1) u':=by
   have:dt (-u.2,u.1) u'≠0:=fun g=>by
    have e1:(u.1*u.1+u.2*u.2)*u'.1=0:=by unfold dt at h g;simp only at g;clear h1;grind
    have e2:(u.1*u.1+u.2*u.2)*u'.2=0:=by unfold dt at h g;simp only at g;clear h1;grind
    have hp:=sq_pos (x:=u.1) (y:=u.2) fun g=>hu (Prod.ext g.1 g.2)
    exact hu' (Prod.ext ((mul_zero_or e1).resolve_left (by omega)) ((mul_zero_or e2).resolve_left (by omega)))
   omega
  rw [wn_two1 hN h1 hoff]
  rcases h2 with h2|h2
  ·exact (wn_two1 hN (by rw [dt_swap];omega) hoff).symm
  ·exact wn_two1 hN h2 hoff
 ·exact wn_two1 hN h hoff
theorem flat_wn (u:Pq)(N:Int)(p:Pq){a b w:Pq}{i j:Int}(hi:0<i)(hj:0<j)(ex:(i+j)*w.1=i*a.1+j*b.1)(ey:(i+j)*w.2=i*a.2+j*b.2):wn u N p (b,w)+wn u N p (w,a)+wn u N p (a,b)=0:=by
 have e1:(i+j)*dt u (vec N p w)=i*dt u (vec N p a)+j*dt u (vec N p b):=by unfold dt vec;simp only;grind
 have e2:(i+j)*dt (vec N p b) (vec N p w)=i*dt (vec N p b) (vec N p a):=by unfold dt vec;simp only;grind
 have e3:(i+j)*dt (vec N p w) (vec N p a)=j*dt (vec N p b) (vec N p a):=by unfold dt vec;simp only;grind
 unfold wn
 simp only
 rw [dt_swap (vec N p a) (vec N p b),rI_anti]
 generalize dt u (vec N p w)=W at *
 generalize dt u (vec N p a)=A at *
 generalize dt u (vec N p b)=B at *
 generalize dt (vec N p b) (vec N p w)=C1 at *
 generalize dt (vec N p w) (vec N p a)=C2 at *
 generalize dt (vec N p b) (vec N p a)=C at *
 have hij:0<i+j:=by omega
 have sgn:∀ {k x y:Int},0<k→(i+j)*x=k*y→(0<x↔0<y)∧(x<0↔y<0):=fun {k x y} hk h=>by
  have f1:∀ {m z:Int},0<m→(0<z↔0<m*z):=fun {m z} hm=>⟨fun hz=>Int.mul_pos hm hz,fun hz=>Int.not_le.1 fun g=>by
   have:=Int.mul_nonpos_of_nonneg_of_nonpos (Int.le_of_lt hm) g
   omega⟩
  have f2:∀ {m z:Int},0<m→(z<0↔m*z<0):=fun {m z} hm=>⟨fun hz=>Int.mul_neg_of_pos_of_neg hm hz,fun hz=>Int.not_le.1 fun g=>by
   have:=Int.mul_nonneg (Int.le_of_lt hm) g
   omega⟩
  rw [f1 hij,h,← f1 hk,f2 hij,h,← f2 hk]
  exact⟨Iff.rfl,Iff.rfl⟩
 obtain⟨s1,s2⟩:=sgn hi e2
 obtain⟨s3,s4⟩:=sgn hj e3
 have w1:0<A→0<B→0<W:=fun ha hb=>Int.not_le.1 fun g=>by
  have m1:=Int.mul_pos hi ha
  have m2:=Int.mul_pos hj hb
  have m3:=Int.mul_nonpos_of_nonneg_of_nonpos (Int.le_of_lt hij) g
  omega
 have w2:A≤0→B≤0→W≤0:=fun ha hb=>Int.not_lt.1 fun g=>by
  have m1:=Int.mul_nonpos_of_nonneg_of_nonpos (Int.le_of_lt hi) ha
  have m2:=Int.mul_nonpos_of_nonneg_of_nonpos (Int.le_of_lt hj) hb
  have m3:=Int.mul_pos hij g
  omega
 clear e1 e2 e3 sgn ex ey
 unfold rI
 (repeat' split) <;> omega
theorem ker_ind {Φ:List Pq→Prop}(hrot:∀ A B,Φ (A++B)→Φ (B++A))(hflat:∀ (w a:Pq) (K:List Pq) (b:Pq) (i j:Int),0<i→0<j→(i+j)*w.1=i*a.1+j*b.1→(i+j)*w.2=i*a.2+j*b.2→Φ (w::a::(K++[b]))→Φ (a::(K++[b]))) :
  ∀ (n:Nat) (P:List Pq),P.length=n→Simp P→Φ P→Φ (ker P):=fun n=>by
 induction n with
 |zero=>intro P hl hP;have:=hP.len;omega
 |succ n ih =>
  intro P hl hP hΦ
  by_cases hk:(ker P).length=P.length
  ·have e:ker P=P:=(ker_sub P).eq_of_length hk
   rw [e]
   exact hΦ
  ·have h3:=hP.len
   have:∃ A w B,P=A++w::B∧∃ a K b,B++A=a::(K++[b])∧crossI b w a=0:=by
    cases P with
    |nil=>simp at h3
    |cons x r =>
     obtain⟨A,w,B,e,g⟩:=kq_miss (lst x r) (x::r) x hk
     refine⟨A,w,B,e,?_⟩
     have hlen:=congrArg List.length e
     simp at hlen h3
     obtain⟨a,K,b,e2⟩:=two_split (L:=B++A) (by simp;omega)
     refine⟨a,K,b,e2,?_⟩
     have hb:∀ p,lst p (B++A)=b:=fun p=>by
      rw [e2]
      show lst a (K++[b])=b
      rw [lst_app]
      rfl
     have ha:∀ z,hd (B++A) z=a:=fun z=>by rw [e2];rfl
     have g1:lst (lst x r) A=b:=by
      cases A with
      |nil =>
       simp only [List.nil_append,List.cons.injEq] at e
       rw [← hb x,List.append_nil,← e.2]
       rfl
      |cons c A =>
       rw [← hb x,lst_app]
       rfl
     have g2:hd B x=a:=by
      cases B with
      |nil =>
       cases A with
       |nil=>simp only [List.length_nil] at hlen;omega
       |cons c A =>
        rw [← ha x]
        simp only [List.cons_append,List.cons.injEq] at e
        exact e.1
      |cons c B=>rw [← ha x];rfl
     rw [g1,g2] at g
     exact g
   obtain⟨A,w,B,rfl,a,K,b,e,hc⟩:=this
   have e2:w::B++A=w::a::(K++[b]):=by rw [List.cons_append,e]
   have hP':=hP.rot
   have hΦ':=hrot _ _ hΦ
   rw [e2] at hP' hΦ'
   have hK:K≠[]:=fun hK=>by
    subst hK
    refine hP'.area ?_
    show ar [w,a,b]=0
    rw [ar_three]
    exact hc
   have hQ:=hP'.flat hK hc
   obtain⟨i,j,hi,hj,ex,ey⟩:=hP'.between hc
   have q:=ih (a::(K++[b])) (by
    have:=congrArg List.length e
    simp at this hl ⊢
    omega) hQ (hflat w a K b i j hi hj ex ey hΦ')
   rw [← ker_flat hP' hK hc,← e2] at q
   obtain⟨U,V,r1,r2⟩:=ker_rot A (w::B)
   rw [r2] at q
   rw [r1]
   exact hrot _ _ q
theorem ker_wn (u:Pq)(N:Int)(p:Pq){P:List Pq}(h:Simp P):fs (wn u N p) (ker P)=fs (wn u N p) P:=by
 refine ker_ind (Φ:=fun Q=>fs (wn u N p) Q=fs (wn u N p) P) (fun A B h=>by rw [fs_rot,h]) (fun w a K b i j hi hj ex ey h=>?_) _ P rfl h rfl
 rw [fs_ear (wn_anti u N p),flat_wn u N p hi hj ex ey] at h
 omega
def onB (N:Int)(p:Pq)(P:List Pq):Prop:=∃ e∈cl P,¬ offS N p e
theorem onB_rot {N:Int}{p:Pq}{A B:List Pq}(h:onB N p (A++B)):onB N p (B++A):=by
 obtain⟨e,he,ho⟩:=h
 exact⟨e,cl_rot he,ho⟩
theorem cl_pe_or {w a:Pq}{K:List Pq}{b:Pq}(e:Pq × Pq):e∈cl (a::(K++[b]))↔e∈pe (a::(K++[b]))∨e=(b,a):=by
 show e∈pe (a::(K++[b])++[a])↔_
 have:=pe_app (a::K) b [a]
 simp only [List.cons_append,List.append_assoc,List.nil_append] at this ⊢
 rw [this,List.mem_append]
 simp [pe]
theorem mid_on {N:Int}{p a b w:Pq}{i j:Int}(hi:0<i)(hj:0<j)(ex:(i+j)*w.1=i*a.1+j*b.1)(ey:(i+j)*w.2=i*a.2+j*b.2):¬ offS N p (b,a)↔¬ offS N p (b,w)∨¬ offS N p (w,a):=by
 constructor
 ·intro h
  obtain⟨M,hM,α,β,h1,h2,h3,h4,h5⟩:=Classical.not_not.1 h
  simp only at h4 h5
  by_cases hle:β*(i+j)≤i*(M*N)
  ·refine .inl fun g=>g ⟨i*M,Int.mul_pos hi hM,i*(M*N) - β*(i+j),β*(i+j),by omega,Int.mul_nonneg h2 (by omega),by rw [Int.mul_assoc];omega,?_,?_⟩
   ·show _=_*b.1+_*w.1
    rw [Int.mul_assoc,h4,← h3];clear h hle;grind
   ·show _=_*b.2+_*w.2
    rw [Int.mul_assoc,h5,← h3];clear h hle;grind
  ·have hle2:α*(i+j)≤j*(M*N):=by
    have:α*(i+j)+β*(i+j)=i*(M*N)+j*(M*N):=by rw [← h3];grind
    omega
   refine .inr fun g=>g ⟨j*M,Int.mul_pos hj hM,α*(i+j),j*(M*N) - α*(i+j),Int.mul_nonneg h1 (by omega),by omega,by rw [Int.mul_assoc];omega,?_,?_⟩
   ·show _=_*w.1+_*a.1
    rw [Int.mul_assoc,h4,← h3];clear h hle hle2;grind
   ·show _=_*w.2+_*a.2
    rw [Int.mul_assoc,h5,← h3];clear h hle hle2;grind
 ·rintro (h|h)
  ·obtain⟨M,hM,α,β,h1,h2,h3,h4,h5⟩:=Classical.not_not.1 h
   simp only at h4 h5
   refine fun g=>g ⟨(i+j)*M,Int.mul_pos (by omega) hM,(i+j)*α+β*j,β*i,Int.add_nonneg (Int.mul_nonneg (by omega) h1) (Int.mul_nonneg h2 (by omega)),Int.mul_nonneg h2 (by omega),by rw [Int.mul_assoc,← h3];grind,?_,?_⟩
   ·show _=_*b.1+_*a.1
    rw [Int.mul_assoc,h4];clear h;grind
   ·show _=_*b.2+_*a.2
    rw [Int.mul_assoc,h5];clear h;grind
  ·obtain⟨M,hM,α,β,h1,h2,h3,h4,h5⟩:=Classical.not_not.1 h
   simp only at h4 h5
   refine fun g=>g ⟨(i+j)*M,Int.mul_pos (by omega) hM,α*j,(i+j)*β+α*i,Int.mul_nonneg h1 (by omega),Int.add_nonneg (Int.mul_nonneg (by omega) h2) (Int.mul_nonneg h1 (by omega)),by rw [Int.mul_assoc,← h3];grind,?_,?_⟩
   ·show _=_*b.1+_*a.1
    rw [Int.mul_assoc,h4];clear h;grind
   ·show _=_*b.2+_*a.2
    rw [Int.mul_assoc,h5];clear h;grind
theorem ker_on {N:Int}{p:Pq}{P:List Pq}(h:Simp P):onB N p (ker P)↔onB N p P:=by
 refine ker_ind (Φ:=fun Q=>onB N p Q↔onB N p P) (fun A B h=>⟨fun g=>h.1 (onB_rot g),fun g=>onB_rot (h.2 g)⟩) (fun w a K b i j hi hj ex ey h=>?_) _ P rfl h Iff.rfl
 rw [← h]
 have hm:=mid_on (N:=N) (p:=p) hi hj ex ey
 constructor
 ·rintro ⟨e,he,ho⟩
  rcases (cl_pe_or (w:=w) e).1 he with he|rfl
  ·exact⟨e,by rw [cl_first];exact .tail _ (List.mem_append.2 (.inl he)),ho⟩
  ·rcases hm.1 ho with ho|ho
   ·exact⟨_,by rw [cl_first];exact .tail _ (List.mem_append.2 (.inr (.head _))),ho⟩
   ·exact⟨_,by rw [cl_first];exact .head _,ho⟩
 ·rintro ⟨e,he,ho⟩
  rw [cl_first] at he
  rcases List.mem_cons.1 he with rfl|he
  ·exact⟨(b,a),(cl_pe_or (w:=w) _).2 (.inr rfl),hm.2 (.inr ho)⟩
  ·rcases List.mem_append.1 he with he|he
   ·exact⟨e,(cl_pe_or (w:=w) _).2 (.inl he),ho⟩
   ·have:e=(b,w):=by simpa using he
    subst this
    exact⟨(b,a),(cl_pe_or (w:=w) _).2 (.inr rfl),hm.2 (.inl ho)⟩
end Go.Aw
end
