/-
  Parts of a proof. No condition.
-/
import Derived.Test.YtmkcjbpekejgdaaGreatQAs
set_option linter.unusedSimpArgs false
set_option linter.unusedVariables false
noncomputable section
namespace Go.Aw
def cfgS:Cfg:={ A:=std,T:=tyT,FT:=look ftL,PL:=plF,PR:=fun _=>false,X:=fun _=>none,M:=0 }
theorem cfgS_ok:CfgOK Go.Proofs.Tryz.prog cfgS where
 ar:=rfl
 tab:=tyT_tab
 mixed:=by decide +kernel
 funcs:=ft_funcs
 xs:=fun _ _ h=>by cases h
def body (xl:List (Nat × XF)):VC:=vbody cfgS none (CX (look xl)) noY
def XLOK (xl:List (Nat × XF)):Prop:=∀ p∈xl,XOK Go.Proofs.Tryz.prog p.1 p.2
theorem XLOK.nil:XLOK []:=fun _ h=>by cases h
theorem XLOK.cons {f:Nat}{x:XF}{l:List (Nat × XF)}(h:XOK Go.Proofs.Tryz.prog f x)(hl:XLOK l):XLOK ((f,x)::l):=List.forall_mem_cons.2 ⟨h,hl⟩
theorem XLOK.look {xl:List (Nat × XF)}(h:XLOK xl)(f:Nat)(x:XF)(hx:look xl f=some x):XOK Go.Proofs.Tryz.prog f x:=h (f,x) (look_mem hx)
theorem body_calls {xl:List (Nat × XF)}(h:XLOK xl):CallsOK Go.Proofs.Tryz.prog (body xl):=vbody_ok cfgS_ok (CX_ok h.look) noY_ok (CX_det h.look) noY_det none
def ptv (p:Int × Int):Value:=.agg #[iv p.1,iv p.2]
def decI:Value→Option Int
 |.int .i64 n=>some n
 |_=>none
def decP:Value→Option (Int × Int)
 |.agg ⟨[.int .i64 x,.int .i64 y]⟩=>some (x,y)
 |_=>none
theorem decI_eq {v:Value}{n:Int}(h:decI v=some n):v=iv n:=by
 unfold decI at h
 split at h
 ·injection h with h;subst h;rfl
 ·cases h
theorem decP_eq {v:Value}{p:Int × Int}(h:decP v=some p):v=ptv p:=by
 unfold decP at h
 split at h
 ·injection h with h;subst h;rfl
 ·cases h
def s1P (F:Int × Int→Bool × Value):List Value→Option (Bool × Value)
 |[a]=>(match decP a with|some p=>some (F p)|none=>none)
 |_=>none
theorem s1P_inv {F:Int × Int→Bool × Value}{args:List Value}{r:Bool × Value}(h:s1P F args=some r):∃ p,args=[ptv p]∧F p=r:=by
 unfold s1P at h
 split at h
 ·split at h
  ·rename_i p e
   injection h with h
   exact⟨p,by rw [decP_eq e],h⟩
  ·cases h
 ·cases h
def s3P (F:Int × Int→Int × Int→Int × Int→Bool × Value):List Value→Option (Bool × Value)
 |[a,b,c]=>(match decP a with|some p=>(match decP b with|some q=>(match decP c with|some r=>some (F p q r)|none=>none)|none=>none)|none=>none)
 |_=>none
theorem s3P_inv {F:Int × Int→Int × Int→Int × Int→Bool × Value}{args:List Value}{r:Bool × Value}(h:s3P F args=some r):∃ p q s,args=[ptv p,ptv q,ptv s]∧F p q s=r:=by
 unfold s3P at h
 split at h
 ·split at h
  ·rename_i p e
   split at h
   ·rename_i q e2
    split at h
    ·rename_i s e3
     injection h with h
     exact⟨p,q,s,by rw [decP_eq e,decP_eq e2,decP_eq e3],h⟩
    ·cases h
   ·cases h
  ·cases h
 ·cases h
def s1I (F:Int→Bool × Value):List Value→Option (Bool × Value)
 |[a]=>(match decI a with|some p=>some (F p)|none=>none)
 |_=>none
theorem s1I_inv {F:Int→Bool × Value}{args:List Value}{r:Bool × Value}(h:s1I F args=some r):∃ p,args=[iv p]∧F p=r:=by
 unfold s1I at h
 split at h
 ·split at h
  ·rename_i p e
   injection h with h
   exact⟨p,by rw [decI_eq e],h⟩
  ·cases h
 ·cases h
def s2I (F:Int→Int→Bool × Value):List Value→Option (Bool × Value)
 |[a,b]=>(match decI a with|some p=>(match decI b with|some q=>some (F p q)|none=>none)|none=>none)
 |_=>none
theorem s2I_inv {F:Int→Int→Bool × Value}{args:List Value}{r:Bool × Value}(h:s2I F args=some r):∃ p q,args=[iv p,iv q]∧F p q=r:=by
 unfold s2I at h
 split at h
 ·split at h
  ·rename_i p e
   split at h
   ·rename_i q e2
    injection h with h
    exact⟨p,q,by rw [decI_eq e,decI_eq e2],h⟩
   ·cases h
  ·cases h
 ·cases h
def Does1 (xl:List (Nat × XF))(f:Nat)(args:List Value)(v:Value):Prop:=body xl f args [] 0 (fun u _ _=>u=v)
theorem x1P {xl:List (Nat × XF)}(hx:XLOK xl){f:Nat}{F:Int × Int→Bool × Value}(hg:∀ p,gT (F p).2=true)(h:∀ p,(F p).1=true→Does1 xl f [ptv p] (F p).2):XOK Go.Proofs.Tryz.prog f (gX (s1P F)) :=
 gX_ok (body_calls hx) fun args v hs=>by
  obtain⟨p,rfl,e⟩:=s1P_inv hs
  have h1:(F p).1=true:=by rw [e]
  have h2:(F p).2=v:=by rw [e]
  subst h2
  exact⟨rfl,hg p,h p h1⟩
theorem x3P {xl:List (Nat × XF)}(hx:XLOK xl){f:Nat}{F:Int × Int→Int × Int→Int × Int→Bool × Value}(hg:∀ p q r,gT (F p q r).2=true)(h:∀ p q r,(F p q r).1=true→Does1 xl f [ptv p,ptv q,ptv r] (F p q r).2):XOK Go.Proofs.Tryz.prog f (gX (s3P F)) :=
 gX_ok (body_calls hx) fun args v hs=>by
  obtain⟨p,q,r,rfl,e⟩:=s3P_inv hs
  have h1:(F p q r).1=true:=by rw [e]
  have h2:(F p q r).2=v:=by rw [e]
  subst h2
  exact⟨rfl,hg p q r,h p q r h1⟩
theorem x1I {xl:List (Nat × XF)}(hx:XLOK xl){f:Nat}{F:Int→Bool × Value}(hg:∀ p,gT (F p).2=true)(h:∀ p,(F p).1=true→Does1 xl f [iv p] (F p).2):XOK Go.Proofs.Tryz.prog f (gX (s1I F)) :=
 gX_ok (body_calls hx) fun args v hs=>by
  obtain⟨p,rfl,e⟩:=s1I_inv hs
  have h1:(F p).1=true:=by rw [e]
  have h2:(F p).2=v:=by rw [e]
  subst h2
  exact⟨rfl,hg p,h p h1⟩
theorem x2I {xl:List (Nat × XF)}(hx:XLOK xl){f:Nat}{F:Int→Int→Bool × Value}(hg:∀ p q,gT (F p q).2=true)(h:∀ p q,(F p q).1=true→Does1 xl f [iv p,iv q] (F p q).2):XOK Go.Proofs.Tryz.prog f (gX (s2I F)) :=
 gX_ok (body_calls hx) fun args v hs=>by
  obtain⟨p,q,rfl,e⟩:=s2I_inv hs
  have h1:(F p q).1=true:=by rw [e]
  have h2:(F p q).2=v:=by rw [e]
  subst h2
  exact⟨rfl,hg p q,h p q h1⟩
def elP:El (Int × Int):=⟨fun p=>[iv p.1,iv p.2],2,fun _=>rfl,fun _=>rfl,by decide⟩
def rightS (p:Int × Int):Bool:=decide (0≤p.1)&&decide (p.1≤10000)&&decide (0≤p.2)&&decide (p.2≤10000)
def wide (p:Int × Int):Bool:=decide (-1000000≤p.1)&&decide (p.1≤1000000)&&decide (-1000000≤p.2)&&decide (p.2≤1000000)
def crossI (a b c:Int × Int):Int:=(b.1 - a.1)*(c.2 - a.2) - (b.2 - a.2)*(c.1 - a.1)
def sgn (n:Int):Int:=if n<0 then -1 else if 0<n then 1 else 0
def cmpI (a b:Int):Int:=if a<b then -1 else if b<a then 1 else 0
def turnS (a b c:Int × Int):Int:=sgn (crossI a b c)
set_option maxRecDepth 100000
def X58:Nat × XF:=(70,gX (s1P fun p=>(true,.bool (rightS p))))
theorem x58:XOK Go.Proofs.Tryz.prog X58.1 X58.2:=x1P .nil (fun _=>rfl) fun p _=>by
 obtain⟨x,y⟩:=p
 unfold Does1
 repeat' (conv=>whnf
          refine bm (fun h=>?_) (fun h=>?_))
 all_goals (conv=>whnf)
 all_goals (simp [cfgS,std] at *;simp [rightS, *] <;> omega)
end Go.Aw
end

noncomputable section
namespace Go.Aw
theorem mulB {a b A B:Int}(h1 : -A≤a)(h2:a≤A)(h3 : -B≤b)(h4:b≤B) : -(A*B)≤a*b∧a*b≤A*B:=by
 have e1:=Int.mul_nonneg (show 0≤A - a by omega) (show 0≤B+b by omega)
 have e2:=Int.mul_nonneg (show 0≤A+a by omega) (show 0≤B - b by omega)
 have e3:=Int.mul_nonneg (show 0≤A - a by omega) (show 0≤B - b by omega)
 have e4:=Int.mul_nonneg (show 0≤A+a by omega) (show 0≤B+b by omega)
 simp only [Int.sub_mul,Int.mul_sub,Int.add_mul,Int.mul_add] at e1 e2 e3 e4
 omega
set_option maxRecDepth 100000
def X56:Nat × XF:=(128,gX (s1P fun p=>(true,.bool (rightS p))))
theorem x56:XOK Go.Proofs.Tryz.prog X56.1 X56.2:=x1P .nil (fun _=>rfl) fun p _=>by
 obtain⟨x,y⟩:=p
 unfold Does1
 repeat' (conv=>whnf
          refine bm (fun h=>?_) (fun h=>?_))
 all_goals (conv=>whnf)
 all_goals (simp [cfgS,std] at *;simp [rightS, *] <;> omega)
def X133:Nat × XF:=(160,gX (s1I fun p=>(true,.bool false)))
theorem x133:XOK Go.Proofs.Tryz.prog X133.1 X133.2:=x1I .nil (fun _=>rfl) fun p _=>by
 unfold Does1
 repeat' (conv=>whnf
          refine bm (fun h=>?_) (fun h=>?_))
 all_goals (conv=>whnf)
 all_goals (simp [cfgS,std] at *)
def X101:Nat × XF:=(132,gX (s2I fun p q=>(true,iv (cmpI p q))))
theorem x101:XOK Go.Proofs.Tryz.prog X101.1 X101.2:=x2I (xl:=[X133]) (.cons x133 .nil) (fun _ _=>rfl) fun p q _=>by
 unfold Does1
 repeat' (conv=>whnf
          refine bm (fun h=>?_) (fun h=>?_))
 all_goals (conv=>whnf)
 all_goals (simp [cfgS,std] at *;simp [cmpI,iv] <;> omega)
def X103:Nat × XF:=(134,gX (s1I fun p=>(true,iv (sgn p))))
theorem x103:XOK Go.Proofs.Tryz.prog X103.1 X103.2:=x1I .nil (fun _=>rfl) fun p _=>by
 unfold Does1
 repeat' (conv=>whnf
          refine bm (fun h=>?_) (fun h=>?_))
 all_goals (conv=>whnf)
 all_goals (simp [cfgS,std] at *;simp [sgn,iv] <;> omega)
def X102:Nat × XF:=(133,gX (s3P fun a b c=>(wide a&&wide b&&wide c,iv (crossI a b c))))
theorem x102:XOK Go.Proofs.Tryz.prog X102.1 X102.2:=x3P .nil (fun _ _ _=>rfl) fun a b c hp=>by
 obtain⟨ax,ay⟩:=a
 obtain⟨bx,b_y⟩:=b
 obtain⟨cx,cy⟩:=c
 simp only [wide,Bool.and_eq_true,decide_eq_true_eq] at hp
 have m1:=mulB (a:=bx - ax) (b:=cy - ay) (A:=2000000) (B:=2000000) (by omega) (by omega) (by omega) (by omega)
 have m2:=mulB (a:=b_y - ay) (b:=cx - ax) (A:=2000000) (B:=2000000) (by omega) (by omega) (by omega) (by omega)
 unfold Does1
 repeat' (conv=>whnf
          refine bm (fun h=>?_) (fun h=>?_))
 all_goals (conv=>whnf)
 all_goals (simp [cfgS,std,fitsK] at *)
 all_goals first|omega|simp [crossI,iv]
def X55:Nat × XF:=(63,gX (s3P fun a b c=>(wide a&&wide b&&wide c,iv (turnS a b c))))
theorem x55:XOK Go.Proofs.Tryz.prog X55.1 X55.2:=x3P (xl:=[X101,X102]) (.cons x101 (.cons x102 .nil)) (fun _ _ _=>rfl) fun a b c hp=>by
 obtain⟨ax,ay⟩:=a
 obtain⟨bx,b_y⟩:=b
 obtain⟨cx,cy⟩:=c
 unfold Does1
 repeat' (conv=>whnf
          refine bm (fun h=>?_) (fun h=>?_))
 all_goals (conv=>whnf)
 all_goals (simp at *)
 ·simp [turnS,cmpI,sgn,iv]
 ·simp_all
def X57:Nat × XF:=(64,gX (s3P fun a b c=>(wide a&&wide b&&wide c,iv (turnS a b c))))
theorem x57:XOK Go.Proofs.Tryz.prog X57.1 X57.2:=x3P (xl:=[X103]) (.cons x103 .nil) (fun _ _ _=>rfl) fun a b c hp=>by
 obtain⟨ax,ay⟩:=a
 obtain⟨bx,b_y⟩:=b
 obtain⟨cx,cy⟩:=c
 simp only [wide,Bool.and_eq_true,decide_eq_true_eq] at hp
 have m1:=mulB (a:=bx - ax) (b:=cy - ay) (A:=2000000) (B:=2000000) (by omega) (by omega) (by omega) (by omega)
 have m2:=mulB (a:=b_y - ay) (b:=cx - ax) (A:=2000000) (B:=2000000) (by omega) (by omega) (by omega) (by omega)
 unfold Does1
 repeat' (conv=>whnf
          refine bm (fun h=>?_) (fun h=>?_))
 all_goals (conv=>whnf)
 all_goals (simp [cfgS,std,fitsK] at *)
 all_goals first|omega|simp [turnS,crossI,sgn,iv]
theorem rightS_wide {p:Int × Int}(h:rightS p=true):wide p=true:=by
 simp only [rightS,wide,Bool.and_eq_true,decide_eq_true_eq] at *
 omega
def X100:Nat × XF:=(127,gX (s1P fun p=>(true,.bool (!rightS p))))
theorem x100:XOK Go.Proofs.Tryz.prog X100.1 X100.2:=x1P (xl:=[X58]) (.cons x58 .nil) (fun _=>rfl) fun p _=>by
 obtain⟨x,y⟩:=p
 unfold Does1
 repeat' (conv=>whnf
          refine bm (fun h=>?_) (fun h=>?_))
 all_goals (conv=>whnf)
 all_goals (simp [cfgS,std] at *)
end Go.Aw
end

noncomputable section
namespace Go.Aw
abbrev Pq:=Int × Int
def onW (N x y:Int)(p q:Pq):Prop:=∃ α β:Int,0≤α∧0≤β∧α+β=N∧x=α*p.1+β*q.1∧y=α*p.2+β*q.2
def okP (e f:Pq × Pq):Prop:=∀ N x y:Int,0<N→onW N x y e.1 e.2→onW N x y f.1 f.2→∃ z:Pq,(z=e.1∨z=e.2)∧(z=f.1∨z=f.2)∧x=N*z.1∧y=N*z.2
theorem onW_rev {N x y:Int}{p q:Pq}(h:onW N x y p q):onW N x y q p:=by
 obtain⟨α,β,h1,h2,h3,h4,h5⟩:=h
 exact⟨β,α,h2,h1,by omega,by omega,by omega⟩
theorem okP_symm {e f:Pq × Pq}(h:okP e f):okP f e:=fun N x y hN he hf=>by
 obtain⟨z,h1,h2,h3⟩:=h N x y hN hf he
 exact⟨z,h2,h1,h3⟩
theorem okP_rev {e f:Pq × Pq}(h:okP e f):okP (e.2,e.1) f:=fun N x y hN he hf=>by
 obtain⟨z,h1,h2,h3⟩:=h N x y hN (onW_rev he) hf
 exact⟨z,h1.symm,h2,h3⟩
def e3 (F:Int × Int × Int)(N x y:Int):Int:=F.1*N+F.2.1*x+F.2.2*y
def at3 (F:Int × Int × Int)(p:Pq):Int:=e3 F 1 p.1 p.2
theorem e3_mix (F:Int × Int × Int)(α β:Int)(p q:Pq):e3 F (α+β) (α*p.1+β*q.1) (α*p.2+β*q.2)=α*at3 F p+β*at3 F q:=by
 unfold at3 e3
 grind
structure Tri (a b v:Pq) where
 D:Int
 A:Int × Int × Int
 B:Int × Int × Int
 V:Int × Int × Int
 pos:0<D
 sum:∀ p:Pq,at3 A p+at3 B p+at3 V p=D
 xs:∀ p:Pq,D*p.1=at3 A p*a.1+at3 B p*b.1+at3 V p*v.1
 ys:∀ p:Pq,D*p.2=at3 A p*a.2+at3 B p*b.2+at3 V p*v.2
 Ab:at3 A b=0
 Av:at3 A v=0
 Ba:at3 B a=0
 Bv:at3 B v=0
 Va:at3 V a=0
 Vb:at3 V b=0
def Tri.swap {a b v:Pq}(T:Tri a b v):Tri b a v:=⟨T.D,T.B,T.A,T.V,T.pos,fun p=>by have:=T.sum p;omega,fun p=>by have:=T.xs p;omega,fun p=>by have:=T.ys p;omega,T.Ba,T.Bv,T.Ab,T.Av,T.Vb,T.Va⟩
theorem Tri.Aa {a b v:Pq}(T:Tri a b v):at3 T.A a=T.D:=by have:=T.sum a;rw [T.Ba,T.Va] at this;omega
theorem Tri.Bb {a b v:Pq}(T:Tri a b v):at3 T.B b=T.D:=by have:=T.sum b;rw [T.Ab,T.Vb] at this;omega
theorem Tri.Vv {a b v:Pq}(T:Tri a b v):at3 T.V v=T.D:=by have:=T.sum v;rw [T.Av,T.Bv] at this;omega
def triOf (a b v:Pq)(σ:Int)(h:0<σ*crossI b v a):Tri a b v where
 D:=σ*crossI b v a
 A:=(σ*((v.2 - b.2)*b.1 - (v.1 - b.1)*b.2),-(σ*(v.2 - b.2)),σ*(v.1 - b.1))
 B:=(σ*((a.2 - v.2)*v.1 - (a.1 - v.1)*v.2),-(σ*(a.2 - v.2)),σ*(a.1 - v.1))
 V:=(σ*((b.2 - a.2)*a.1 - (b.1 - a.1)*a.2),-(σ*(b.2 - a.2)),σ*(b.1 - a.1))
 pos:=h
 sum p:=by unfold at3 e3 crossI;grind
 xs p:=by unfold at3 e3 crossI;grind
 ys p:=by unfold at3 e3 crossI;grind
 Ab:=by unfold at3 e3;grind
 Av:=by unfold at3 e3;grind
 Ba:=by unfold at3 e3;grind
 Bv:=by unfold at3 e3;grind
 Va:=by unfold at3 e3;grind
 Vb:=by unfold at3 e3;grind
theorem triOf_V {a b v:Pq}{σ:Int}(h:0<σ*crossI b v a)(p:Pq):at3 (triOf a b v σ h).V p=σ*crossI b p a:=by
 show at3 (σ*((b.2 - a.2)*a.1 - (b.1 - a.1)*a.2),-(σ*(b.2 - a.2)),σ*(b.1 - a.1)) p=_
 unfold at3 e3 crossI;grind
theorem triOf_A {a b v:Pq}{σ:Int}(h:0<σ*crossI b v a)(p:Pq):at3 (triOf a b v σ h).A p=σ*crossI b v p:=by
 show at3 (σ*((v.2 - b.2)*b.1 - (v.1 - b.1)*b.2),-(σ*(v.2 - b.2)),σ*(v.1 - b.1)) p=_
 unfold at3 e3 crossI;grind
theorem triOf_B {a b v:Pq}{σ:Int}(h:0<σ*crossI b v a)(p:Pq):at3 (triOf a b v σ h).B p=σ*crossI p v a:=by
 show at3 (σ*((a.2 - v.2)*v.1 - (a.1 - v.1)*v.2),-(σ*(a.2 - v.2)),σ*(a.1 - v.1)) p=_
 unfold at3 e3 crossI;grind
theorem mul_zero_or {a b:Int}(h:a*b=0):a=0∨b=0:=Int.mul_eq_zero.1 h
theorem ex_id1 {A u ub uv Bq Vq D N:Int}(h1:u+ub+uv=D*N)(h2:A+Bq+Vq=D):((-A)*ub+u*Bq)+((-A)*uv+u*Vq)=D*((-A)*N+u):=by
 have e1:ub=D*N - u - uv:=by omega
 have e2:Bq=D - A - Vq:=by omega
 subst e1 e2
 grind
theorem ex_id2 {A u ub uv Bq Vq D α β rx sx ax bx vx:Int}(hx:D*(α*rx+β*sx)=u*ax+ub*bx+uv*vx)(xr:D*rx=A*ax+Bq*bx+Vq*vx) :
  D*(((-A)*α+u)*rx+(-A)*β*sx)=((-A)*ub+u*Bq)*bx+((-A)*uv+u*Vq)*vx:=by
 have e:D*(((-A)*α+u)*rx+(-A)*β*sx)=(-A)*(D*(α*rx+β*sx))+u*(D*rx):=by grind
 rw [e,hx,xr]
 grind
theorem ex_mix {D α β rx sx ax bx vx A As Bq Bs Vq Vs:Int}(xr:D*rx=A*ax+Bq*bx+Vq*vx)(xs:D*sx=As*ax+Bs*bx+Vs*vx) :
  D*(α*rx+β*sx)=(α*A+β*As)*ax+(α*Bq+β*Bs)*bx+(α*Vq+β*Vs)*vx:=by
 have e:D*(α*rx+β*sx)=α*(D*rx)+β*(D*sx):=by grind
 rw [e,xr,xs]
 grind
theorem ex_sum {D α β A As Bq Bs Vq Vs:Int}(sr:A+Bq+Vq=D)(ss:As+Bs+Vs=D):(α*A+β*As)+(α*Bq+β*Bs)+(α*Vq+β*Vs)=D*(α+β):=by
 rw [← sr] at ss ⊢
 have e:As=A+Bq+Vq - Bs - Vs:=by omega
 subst e
 grind
theorem exitA {a b v r s:Pq}(T:Tri a b v){α β:Int}(hα:0≤α)(hβ:0≤β)(hN:0<α+β)(hrs:r≠s)
  (uA:0≤α*at3 T.A r+β*at3 T.A s) (uB:0≤α*at3 T.B r+β*at3 T.B s) (uV:0≤α*at3 T.V r+β*at3 T.V s)
  (rA:at3 T.A r<0) (rV:0≤at3 T.V r) (rB:0≤(-at3 T.A r)*(α*at3 T.B r+β*at3 T.B s)+(α*at3 T.A r+β*at3 T.A s)*at3 T.B r)
  (hok:okP (r,s) (b,v)):(s=b∨s=v)∧α=0∧α*at3 T.A r+β*at3 T.A s=0:=by
 have hD:=T.pos
 generalize hu:α*at3 T.A r+β*at3 T.A s=u at uA rB ⊢
 generalize hub:α*at3 T.B r+β*at3 T.B s=ub at uB rB
 generalize huv:α*at3 T.V r+β*at3 T.V s=uv at uV
 generalize hrA:at3 T.A r=A at rA rB hu
 generalize hrB:at3 T.B r=Bq at rB hub
 generalize hrV:at3 T.V r=Vq at rV huv
 generalize hsA:at3 T.A s=As at hu
 generalize hsB:at3 T.B s=Bs at hub
 generalize hsV:at3 T.V s=Vs at huv
 have sr:=T.sum r
 have ss:=T.sum s
 have xr:=T.xs r
 have xs:=T.xs s
 have yr:=T.ys r
 have ys:=T.ys s
 rw [hrA,hrB,hrV] at sr xr yr
 rw [hsA,hsB,hsV] at ss xs ys
 have hk1:0≤(-A)*α+u:=Int.add_nonneg (Int.mul_nonneg (by omega) hα) uA
 have hk2:0≤(-A)*β:=Int.mul_nonneg (by omega) hβ
 have hNY:0<(-A)*(α+β)+u:=by
  have:=Int.mul_pos (show 0 < -A by omega) hN
  omega
 have hV:0≤(-A)*uv+u*Vq:=Int.add_nonneg (Int.mul_nonneg (by omega) uV) (Int.mul_nonneg uA rV)
 have hsum:u+ub+uv=T.D*(α+β):=by rw [← hu,← hub,← huv];exact ex_sum sr ss
 have hmx:T.D*(α*r.1+β*s.1)=u*a.1+ub*b.1+uv*v.1:=by rw [← hu,← hub,← huv];exact ex_mix xr xs
 have hmy:T.D*(α*r.2+β*s.2)=u*a.2+ub*b.2+uv*v.2:=by rw [← hu,← hub,← huv];exact ex_mix yr ys
 obtain⟨z,hz1,hz2,hz3,hz4⟩:=hok (T.D*((-A)*(α+β)+u)) (T.D*(((-A)*α+u)*r.1+(-A)*β*s.1)) (T.D*(((-A)*α+u)*r.2+(-A)*β*s.2)) (Int.mul_pos hD hNY)
  ⟨T.D*((-A)*α+u),T.D*((-A)*β),Int.mul_nonneg (by omega) hk1,Int.mul_nonneg (by omega) hk2,by clear hok;grind,by clear hok;grind,by clear hok;grind⟩
  ⟨(-A)*ub+u*Bq,(-A)*uv+u*Vq,rB,hV,ex_id1 hsum sr,ex_id2 hmx xr,ex_id2 hmy yr⟩
 have hAz:at3 T.A z=0:=by
  rcases hz2 with h|h
  ·rw [h];exact T.Ab
  ·rw [h];exact T.Av
 have hzs:z=s:=by
  rcases hz1 with h|h
  ·exfalso
   have h:z=r:=h
   rw [h,hrA] at hAz
   omega
  ·exact h
 subst hzs
 have g1:((-A)*α+u)*(r.1 - z.1)=0:=by
  have:=Int.eq_of_mul_eq_mul_left (show T.D≠0 by omega) (hz3.trans (Int.mul_assoc _ _ _))
  clear hok hz3 hz4
  grind
 have g2:((-A)*α+u)*(r.2 - z.2)=0:=by
  have:=Int.eq_of_mul_eq_mul_left (show T.D≠0 by omega) (hz4.trans (Int.mul_assoc _ _ _))
  clear hok hz3 hz4
  grind
 have hk0:(-A)*α+u=0:=by
  rcases mul_zero_or g1 with h|h
  ·exact h
  ·rcases mul_zero_or g2 with h2|h2
   ·exact h2
   ·exact absurd (Prod.ext (by omega) (by omega)) hrs
 have hAα:0≤(-A)*α:=Int.mul_nonneg (by omega) hα
 have hα0:(-A)*α=0:=by omega
 refine⟨hz2,?_,by omega⟩
 rcases mul_zero_or hα0 with h|h
 ·omega
 ·exact h
end Go.Aw
end

noncomputable section
namespace Go.Aw
def inT {a b v:Pq}(T:Tri a b v)(p:Pq):Prop:=0≤at3 T.A p∧0≤at3 T.B p∧0≤at3 T.V p
theorem exitT {a b v r s:Pq}(T:Tri a b v){α β:Int}(hα:0≤α)(hβ:0≤β)(hN:0<α+β)(hrs:r≠s)
  (uA:0≤α*at3 T.A r+β*at3 T.A s) (uB:0≤α*at3 T.B r+β*at3 T.B s) (uV:0≤α*at3 T.V r+β*at3 T.V s)
  (rV:0≤at3 T.V r) (hout:¬ inT T r) (okb:okP (r,s) (b,v)) (oka:okP (r,s) (a,v)) :
  α=0∧(((s=b∨s=v)∧α*at3 T.A r+β*at3 T.A s=0)∨((s=a∨s=v)∧α*at3 T.B r+β*at3 T.B s=0)):=by
 have eA:∀ c,at3 T.A r<0→(0≤(-at3 T.A r)*(α*at3 T.B r+β*at3 T.B s)+(α*at3 T.A r+β*at3 T.A s)*at3 T.B r)→c=c→α=0∧(((s=b∨s=v)∧α*at3 T.A r+β*at3 T.A s=0)∨((s=a∨s=v)∧α*at3 T.B r+β*at3 T.B s=0)):=fun (c:Nat) h1 h2 _=>by
  obtain⟨g1,g2,g3⟩:=exitA T hα hβ hN hrs uA uB uV h1 rV h2 okb
  exact⟨g2,.inl ⟨g1,g3⟩⟩
 have eB:at3 T.B r<0→(0≤(-at3 T.B r)*(α*at3 T.A r+β*at3 T.A s)+(α*at3 T.B r+β*at3 T.B s)*at3 T.A r)→α=0∧(((s=b∨s=v)∧α*at3 T.A r+β*at3 T.A s=0)∨((s=a∨s=v)∧α*at3 T.B r+β*at3 T.B s=0)):=fun h1 h2=>by
  obtain⟨g1,g2,g3⟩:=exitA T.swap hα hβ hN hrs uB uA uV h1 rV h2 oka
  exact⟨g2,.inr ⟨g1,g3⟩⟩
 by_cases hA:at3 T.A r<0
 ·by_cases hB:at3 T.B r<0
  ·by_cases hc:0≤(-at3 T.A r)*(α*at3 T.B r+β*at3 T.B s)+(α*at3 T.A r+β*at3 T.A s)*at3 T.B r
   ·exact eA 0 hA hc rfl
   ·refine eB hB ?_
    have:(-at3 T.B r)*(α*at3 T.A r+β*at3 T.A s)+(α*at3 T.B r+β*at3 T.B s)*at3 T.A r = -((-at3 T.A r)*(α*at3 T.B r+β*at3 T.B s)+(α*at3 T.A r+β*at3 T.A s)*at3 T.B r):=by
     generalize α*at3 T.A r+β*at3 T.A s=p
     generalize α*at3 T.B r+β*at3 T.B s=q
     grind
    omega
  ·exact eA 0 hA (Int.add_nonneg (Int.mul_nonneg (by omega) uB) (Int.mul_nonneg uA (by omega))) rfl
 ·by_cases hB:at3 T.B r<0
  ·exact eB hB (Int.add_nonneg (Int.mul_nonneg (by omega) uA) (Int.mul_nonneg uB (by omega)))
  ·exact absurd ⟨by omega,by omega,rV⟩ hout
theorem mix2 (F:Int × Int × Int){α β γ δ N x y:Int}{r s p q:Pq}(h1:α+β=N)(h2:x=α*r.1+β*s.1)(h3:y=α*r.2+β*s.2)(g1:γ+δ=N)(g2:x=γ*p.1+δ*q.1)(g3:y=γ*p.2+δ*q.2):α*at3 F r+β*at3 F s=γ*at3 F p+δ*at3 F q:=by
 rw [← e3_mix F α β r s,← e3_mix F γ δ p q,h1,g1,← h2,← h3,g2,g3]
theorem ear_one {a b v r s:Pq}(T:Tri a b v){α β γ δ N x y:Int}(hα:0≤α)(hβ:0≤β)(hN:0<N)(h1:α+β=N)(h2:x=α*r.1+β*s.1)(h3:y=α*r.2+β*s.2)(hγ:0≤γ)(hδ:0≤δ)(g1:γ+δ=N)(g2:x=γ*a.1+δ*b.1)(g3:y=γ*a.2+δ*b.2)
  (hrs:r≠s) (hsv:s≠v) (rV:0≤at3 T.V r) (hout:¬ inT T r) (okb:okP (r,s) (b,v)) (oka:okP (r,s) (a,v)):(s=a∨s=b)∧x=N*s.1∧y=N*s.2:=by
 have mA:=mix2 T.A h1 h2 h3 g1 g2 g3
 have mB:=mix2 T.B h1 h2 h3 g1 g2 g3
 have mV:=mix2 T.V h1 h2 h3 g1 g2 g3
 rw [T.Aa,T.Ab] at mA
 rw [T.Ba,T.Bb] at mB
 rw [T.Va,T.Vb] at mV
 have hD:=T.pos
 have pA:0≤γ*T.D:=Int.mul_nonneg hγ (by omega)
 have pB:0≤δ*T.D:=Int.mul_nonneg hδ (by omega)
 obtain⟨e1,e2⟩:=exitT T hα hβ (by omega) hrs (by omega) (by omega) (by omega) rV hout okb oka
 subst e1
 have hβN:β=N:=by omega
 subst hβN
 refine⟨?_,by rw [h2,Int.zero_mul,Int.zero_add],by rw [h3,Int.zero_mul,Int.zero_add]⟩
 rcases e2 with ⟨h|h,_⟩|⟨h|h,_⟩
 ·exact .inr h
 ·exact absurd h hsv
 ·exact .inl h
 ·exact absurd h hsv
theorem ear_ok {a b v r s:Pq}(T:Tri a b v)(hrs:r≠s)(hrv:r≠v)(hsv:s≠v)(hr:r=a∨r=b∨¬ inT T r)(hs:s=a∨s=b∨¬ inT T s)(hab:¬ ((r=a∧s=b)∨(r=b∧s=a)))(okb:okP (r,s) (b,v))(oka:okP (r,s) (a,v)):okP (r,s) (a,b):=by
 rintro N x y hN ⟨α,β,hα,hβ,h1,h2,h3⟩ ⟨γ,δ,hγ,hδ,g1,g2,g3⟩
 simp only at h2 h3 g2 g3
 have mV:=mix2 T.V h1 h2 h3 g1 g2 g3
 rw [T.Va,T.Vb,Int.mul_zero,Int.mul_zero,Int.add_zero] at mV
 by_cases c1:0≤at3 T.V r∧¬ inT T r
 ·obtain⟨q1,q2⟩:=ear_one T hα hβ hN h1 h2 h3 hγ hδ g1 g2 g3 hrs hsv c1.1 c1.2 okb oka
  exact⟨s,.inr rfl,q1,q2⟩
 ·by_cases c2:0≤at3 T.V s∧¬ inT T s
  ·obtain⟨q1,q2⟩:=ear_one T hβ hα hN (by omega) (h2.trans (Int.add_comm _ _)) (h3.trans (Int.add_comm _ _)) hγ hδ g1 g2 g3 (fun e=>hrs e.symm) hrv c2.1 c2.2 (okP_rev okb) (okP_rev oka)
   exact⟨r,.inl rfl,q1,q2⟩
  ·have Vr:(r=a∨r=b)∨at3 T.V r<0:=by
    rcases hr with h|h|h
    ·exact .inl (.inl h)
    ·exact .inl (.inr h)
    ·refine .inr (Int.not_le.1 fun h0=>c1 ⟨h0,h⟩)
   have Vs:(s=a∨s=b)∨at3 T.V s<0:=by
    rcases hs with h|h|h
    ·exact .inl (.inl h)
    ·exact .inl (.inr h)
    ·refine .inr (Int.not_le.1 fun h0=>c2 ⟨h0,h⟩)
   have z0:∀ {p:Pq},(p=a∨p=b)→at3 T.V p=0:=by
    rintro p (h|h)
    ·rw [h,T.Va]
    ·rw [h,T.Vb]
   have neg:∀ {k m:Int},0≤k→m<0→k*m≤0:=fun hk hm=>Int.mul_nonpos_of_nonneg_of_nonpos hk (by omega)
   rcases Vr with hr'|hr'
   ·rcases Vs with hs'|hs'
    ·exfalso
     rcases hr' with rfl|rfl
     ·rcases hs' with rfl|rfl
      ·exact hrs rfl
      ·exact hab (.inl ⟨rfl,rfl⟩)
     ·rcases hs' with rfl|rfl
      ·exact hab (.inr ⟨rfl,rfl⟩)
      ·exact hrs rfl
    ·have e0:β*at3 T.V s=0:=by rw [z0 hr',Int.mul_zero,Int.zero_add] at mV;exact mV
     have hb0:β=0:=(mul_zero_or e0).resolve_right (by omega)
     subst hb0
     refine⟨r,.inl rfl,hr',?_,?_⟩
     ·rw [h2,← h1];grind
     ·rw [h3,← h1];grind
   ·rcases Vs with hs'|hs'
    ·have e0:α*at3 T.V r=0:=by rw [z0 hs',Int.mul_zero,Int.add_zero] at mV;exact mV
     have hb0:α=0:=(mul_zero_or e0).resolve_right (by omega)
     subst hb0
     refine⟨s,.inr rfl,hs',?_,?_⟩
     ·rw [h2,← h1];grind
     ·rw [h3,← h1];grind
    ·exfalso
     have n1:=neg hα hr'
     have n2:=neg hβ hs'
     have e1:α*at3 T.V r=0:=by omega
     have e2:β*at3 T.V s=0:=by omega
     have a0:=(mul_zero_or e1).resolve_right (by omega)
     have b0:=(mul_zero_or e2).resolve_right (by omega)
     omega
theorem dia_one {a b v p r s:Pq}(T:Tri a b v)(pA:0<at3 T.A p)(pB:0<at3 T.B p)(pV:0≤at3 T.V p){α β γ δ N x y:Int}(hα:0<α)(hβ:0≤β)(h1:α+β=N)(h2:x=α*r.1+β*s.1)(h3:y=α*r.2+β*s.2)(hγ:0<γ)(hδ:0<δ)(g1:γ+δ=N)(g2:x=γ*v.1+δ*p.1)(g3:y=γ*v.2+δ*p.2)
  (hrs:r≠s) (hV:at3 T.V p<at3 T.V r) (hrv:r=v→s=a∨s=b) (hout:r≠v→¬ inT T r) (hok:r≠v→r≠a→r≠b→okP (r,s) (b,v)∧okP (r,s) (a,v)):False:=by
 have mA:=mix2 T.A h1 h2 h3 g1 g2 g3
 have mB:=mix2 T.B h1 h2 h3 g1 g2 g3
 have mV:=mix2 T.V h1 h2 h3 g1 g2 g3
 rw [T.Av,Int.mul_zero,Int.zero_add] at mA
 rw [T.Bv,Int.mul_zero,Int.zero_add] at mB
 rw [T.Vv] at mV
 have hD:=T.pos
 have qA:=Int.mul_pos hδ pA
 have qB:=Int.mul_pos hδ pB
 have qV:0≤δ*at3 T.V p:=Int.mul_nonneg (by omega) pV
 have qD:=Int.mul_pos hγ hD
 by_cases hv:r=v
 ·rcases hrv hv with h|h
  ·rw [h,hv,T.Bv,T.Ba] at mB
   omega
  ·rw [h,hv,T.Av,T.Ab] at mA
   omega
 ·have hra:r≠a:=fun e=>by rw [e,T.Va] at hV;omega
  have hrb:r≠b:=fun e=>by rw [e,T.Vb] at hV;omega
  obtain⟨okb,oka⟩:=hok hv hra hrb
  obtain⟨e1,_⟩:=exitT T (show 0≤α by omega) hβ (by omega) hrs (by omega) (by omega) (by omega) (by omega) (hout hv) okb oka
  omega
theorem dia_ok {a b v p r s:Pq}(T:Tri a b v)(pA:0<at3 T.A p)(pB:0<at3 T.B p)(pV:0≤at3 T.V p)(hrs:r≠s)(hrv:r=v→s=a∨s=b)(hsv:s=v→r=a∨r=b)
  (hr:r=v∨¬ inT T r∨at3 T.V r≤at3 T.V p) (hs:s=v∨¬ inT T s∨at3 T.V s≤at3 T.V p)
  (hokr:r≠v→r≠a→r≠b→okP (r,s) (b,v)∧okP (r,s) (a,v)) (hoks:s≠v→s≠a→s≠b→okP (r,s) (b,v)∧okP (r,s) (a,v))
  (hv:∀ N:Int,0<N→onW N (N*v.1) (N*v.2) r s→v=r∨v=s) (hp:∀ N:Int,0<N→onW N (N*p.1) (N*p.2) r s→p=r∨p=s):okP (v,p) (r,s):=by
 rintro N x y hN ⟨γ,δ,hγ,hδ,g1,g2,g3⟩ hon
 simp only at g2 g3 hon
 by_cases hδ0:δ=0
 ·subst hδ0
  have e1:x=N*v.1:=by rw [g2,← g1];grind
  have e2:y=N*v.2:=by rw [g3,← g1];grind
  subst e1 e2
  exact⟨v,.inl rfl,hv N hN hon,rfl,rfl⟩
 ·by_cases hγ0:γ=0
  ·subst hγ0
   have e1:x=N*p.1:=by rw [g2,← g1];grind
   have e2:y=N*p.2:=by rw [g3,← g1];grind
   subst e1 e2
   exact⟨p,.inr rfl,hp N hN hon,rfl,rfl⟩
  ·exfalso
   obtain⟨α,β,hα,hβ,h1,h2,h3⟩:=hon
   have mV:=mix2 T.V h1 h2 h3 g1 g2 g3
   rw [T.Vv] at mV
   have hps:=T.sum p
   have hlt:at3 T.V p<T.D:=by omega
   have hgt:γ*at3 T.V p<γ*T.D:=Int.mul_lt_mul_of_pos_left hlt (by omega)
   have hNp:γ*at3 T.V p+δ*at3 T.V p=α*at3 T.V p+β*at3 T.V p:=by rw [← Int.add_mul,← Int.add_mul,g1,h1]
   by_cases c1:0<α∧at3 T.V p<at3 T.V r
   ·exact dia_one T pA pB pV c1.1 hβ h1 h2 h3 (by omega) (by omega) g1 g2 g3 hrs c1.2 hrv (fun hv=>(hr.resolve_left hv).resolve_right (by omega)) hokr
   ·by_cases c2:0<β∧at3 T.V p<at3 T.V s
    ·exact dia_one T pA pB pV c2.1 hα (by omega) (h2.trans (Int.add_comm _ _)) (h3.trans (Int.add_comm _ _)) (by omega) (by omega) g1 g2 g3 (fun e=>hrs e.symm) c2.2 hsv (fun hv=>(hs.resolve_left hv).resolve_right (by omega)) (fun x1 x2 x3=>⟨okP_rev (hoks x1 x2 x3).1,okP_rev (hoks x1 x2 x3).2⟩)
    ·have le:∀ {k q:Int},0≤k→¬ (0<k∧at3 T.V p<q)→k*q≤k*at3 T.V p:=fun {k q} hk hn=>by
      by_cases h0:k=0
      ·rw [h0];omega
      ·exact Int.mul_le_mul_of_nonneg_left (by omega) hk
     have l1:=le hα c1
     have l2:=le hβ c2
     omega
end Go.Aw
end
