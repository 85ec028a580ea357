/-
  Parts of a proof. No condition.
-/
import Derived.Test.YtmkcjbpekejgdaaGreatQAr
import Derived.WalkKit
set_option linter.unusedSimpArgs false
set_option linter.unusedVariables false
noncomputable section
namespace Go.Aw
set_option maxRecDepth 100000
def firstBad:List (Int × Int)→Nat→Int
 |[],_=>-1
 |p::r,i=>if rightS p then firstBad r (i+1) else i
def fn100:Value:=.func (.func 127) #[] #[]
def S132 (l:List (Int × Int)):List Value→Option (Bool × Value)
 |[.func (.func 127) ⟨[]⟩ ⟨[]⟩]=>some (decide (l.length≤1000000000),iv (firstBad l 0))
 |_=>none
theorem S132_inv {l:List (Int × Int)}{r:List Value}{v:Value}(h:S132 l r=some (true,v)):r=[fn100]∧l.length≤1000000000∧v=iv (firstBad l 0):=by
 unfold S132 at h
 split at h
 ·injection h with h
  injection h with h1 h2
  exact⟨rfl,by simpa using h1,h2.symm⟩
 ·cases h
def X132:Nat × XF:=(159,lX elP S132)
theorem x132:XOK Go.Proofs.Tryz.prog X132.1 X132.2:=lX_ok elP (body_calls (xl:=[X100]) (.cons x100 .nil)) fun l r v hs=>by
 obtain⟨rfl,hlen,rfl⟩:=S132_inv hs
 refine⟨rfl,rfl,fun c=>?_⟩
 conv=>whnf
 refine⟨fun n e h nx=>∃ (i:Nat) (j:Int),j=i∧i≤l.length∧n=l.length - i∧firstBad l 0=firstBad (l.drop i) i ∧
  e=[(0,.slice (some ⟨0,0,none⟩) l.length c),(1,fn100),(7,iv l.length),(8,iv j)]∧h=[(0,.cells false true 2 (flat elP.fl l))]∧nx=1,⟨l.length,?_⟩,?_⟩
 ·refine Into_id (e0:=[(0,.slice (some ⟨0,0,none⟩) l.length c),(1,fn100),(7,iv l.length),(8,iv 0)]) (h0:=[(0,.cells false true 2 (flat elP.fl l))]) (n0:=1)
   ⟨0,0,rfl,Nat.zero_le _,rfl,rfl,rfl,rfl,rfl⟩ ?_ ?_ (Nat.le_refl _)
  ·exact List.forall_mem_cons.2 ⟨⟨rfl,Nat.one_pos,fun h=>(by cases h)⟩,List.forall_mem_cons.2 ⟨⟨(by show _=some (ren id fn100);rw [ren_g (show gT fn100=true from rfl)];rfl),scT_g rfl⟩,List.forall_mem_cons.2 ⟨⟨rfl,scT_g rfl⟩,List.forall_mem_cons.2 ⟨⟨rfl,scT_g rfl⟩,fun _ h=>(by cases h)⟩⟩⟩⟩
  ·exact List.forall_mem_cons.2 ⟨⟨Nat.one_pos,_,rfl,ObjRen_g (flat_g elP l)⟩,fun _ h=>(by cases h)⟩
 ·rintro n e h nx ⟨i,j,hj,hi,rfl,hb,rfl,rfl,rfl⟩
  conv=>whnf
  refine bm (fun h1=>?_) (fun h1=>?_)
  ·have hlt:i<l.length:=by simp [cfgS,std] at h1;omega
   conv=>whnf
   refine bm (fun h2=>?_) (fun h2=>?_)
   ·conv=>whnf
    refine boL (flat_get elP l hlt ?ho) ?_
    case ho=>simp [cfgS,std,elP,hj]
    have hd:l.drop i=l[i]::l.drop (i+1):=List.drop_eq_getElem_cons hlt
    rw [hd] at hb
    generalize l[i]=p at hb
    obtain⟨x,y⟩:=p
    conv=>whnf
    refine bm (fun h3=>?_) (fun h3=>?_)
    ·conv=>whnf
     simp only [Bool.not_eq_true'] at h3
     rw [hb,hj]
     simp only [firstBad,h3]
     rfl
    ·conv=>whnf
     refine bm (fun h4=>?_) (fun h4=>?_)
     ·conv=>whnf
      simp only [Bool.not_eq_false'] at h3
      refine⟨l.length - (i+1),by omega,?_⟩
      refine Into_id (e0:=[(0,.slice (some ⟨0,0,none⟩) l.length c),(1,fn100),(7,iv l.length),(8,iv (j+1))]) (h0:=[(0,.cells false true 2 (flat elP.fl l))]) (n0:=1)
       ⟨i+1,j+1,by omega,hlt,rfl,?_,rfl,rfl,rfl⟩ ?_ ?_ (Nat.le_refl _)
      ·rw [hb];simp only [firstBad,h3,if_true]
      ·exact List.forall_mem_cons.2 ⟨⟨rfl,Nat.one_pos,fun h=>(by cases h)⟩,List.forall_mem_cons.2 ⟨⟨(by show _=some (ren id fn100);rw [ren_g (show gT fn100=true from rfl)];rfl),scT_g rfl⟩,List.forall_mem_cons.2 ⟨⟨rfl,scT_g rfl⟩,List.forall_mem_cons.2 ⟨⟨rfl,scT_g rfl⟩,fun _ h=>(by cases h)⟩⟩⟩⟩
      ·exact List.forall_mem_cons.2 ⟨⟨Nat.one_pos,_,rfl,ObjRen_g (flat_g elP l)⟩,fun _ h=>(by cases h)⟩
     ·simp [cfgS,std,fitsK] at h4
      omega
   ·simp [cfgS,std] at h2
    omega
  ·have hlt:l.length≤i:=by simp [cfgS,std] at h1;omega
   conv=>whnf
   rw [hb,List.drop_eq_nil_of_le hlt]
   rfl
theorem firstBad_all:∀ (l:List (Int × Int)) (i:Nat),decide (0≤firstBad l i)=!(l.all rightS)
 |[],i=>rfl
 |p::r,i=>by
  by_cases hp:rightS p=true
  ·simp only [firstBad,List.all_cons,hp,if_true,Bool.true_and]
   exact firstBad_all r (i+1)
  ·have hp':rightS p=false:=by simpa using hp
   simp [firstBad,List.all_cons,hp']
def S99 (l:List (Int × Int)):List Value→Option (Bool × Value)
 |[.func (.func 127) ⟨[]⟩ ⟨[]⟩]=>some (decide (l.length≤1000000000),.bool (!(l.all rightS)))
 |_=>none
theorem S99_inv {l:List (Int × Int)}{r:List Value}{v:Value}(h:S99 l r=some (true,v)):r=[fn100]∧l.length≤1000000000∧v=.bool (!(l.all rightS)):=by
 unfold S99 at h
 split at h
 ·injection h with h
  injection h with h1 h2
  exact⟨rfl,by simpa using h1,h2.symm⟩
 ·cases h
theorem LsAt_own {α:Type}(E:El α){l:List α}{c:Nat}{wr g:Bool}{sz:Nat}{h:Heap}(hk:look h 0=some (.cells wr g sz (flat E.fl l))):LsAt E h (.slice (some ⟨0,0,none⟩) l.length c) l :=
 ⟨rfl,wr,g,sz,_,hk,by rw [List.drop_zero,List.take_length]⟩
def X99:Nat × XF:=(126,lX elP S99)
theorem x99:XOK Go.Proofs.Tryz.prog X99.1 X99.2:=lX_ok elP (body_calls (xl:=[X132]) (.cons x132 .nil)) fun l r v hs=>by
 obtain⟨rfl,hlen,rfl⟩:=S99_inv hs
 refine⟨rfl,rfl,fun c=>?_⟩
 conv=>whnf
 refine⟨l,LsAt_own elP rfl,?_⟩
 conv=>whnf
 refine bm (fun h1=>?_) (fun h1=>?_)
 ·conv=>whnf
  rw [← firstBad_all l 0]
  rfl
 ·exact absurd hlen (by simpa using h1)
def S54 (l:List (Int × Int)):List Value→Option (Bool × Value)
 |[]=>some (decide (l.length≤1000000000),.bool (l.all rightS))
 |_=>none
theorem S54_inv {l:List (Int × Int)}{r:List Value}{v:Value}(h:S54 l r=some (true,v)):r=[]∧l.length≤1000000000∧v=.bool (l.all rightS):=by
 unfold S54 at h
 split at h
 ·injection h with h
  injection h with h1 h2
  exact⟨rfl,by simpa using h1,h2.symm⟩
 ·cases h
def X54:Nat × XF:=(55,lX elP S54)
theorem x54:XOK Go.Proofs.Tryz.prog X54.1 X54.2:=lX_ok elP (body_calls (xl:=[X99]) (.cons x99 .nil)) fun l r v hs=>by
 obtain⟨rfl,hlen,rfl⟩:=S54_inv hs
 refine⟨rfl,rfl,fun c=>?_⟩
 conv=>whnf
 refine⟨l,LsAt_own elP rfl,?_⟩
 conv=>whnf
 refine bm (fun h1=>?_) (fun h1=>?_)
 ·conv=>whnf
  simp [cfgS,std]
 ·exact absurd hlen (by simpa using h1)
end Go.Aw
end

noncomputable section
namespace Go.Aw
set_option maxRecDepth 100000
def s0 (v:Value):List Value→Option (Bool × Value)
 |[]=>some (true,v)
 |_=>none
def X19:Nat × XF:=(15,gX (s0 (.bool true)))
theorem cross_swap (a b c:Int × Int):crossI b a c = - crossI a b c:=by
 simp only [crossI,Int.sub_mul,Int.mul_sub]
 have h1:=Int.mul_comm a.1 b.2
 have h2:=Int.mul_comm a.2 b.1
 have h3:=Int.mul_comm a.1 c.2
 have h4:=Int.mul_comm a.2 c.1
 have h5:=Int.mul_comm b.1 c.2
 have h6:=Int.mul_comm b.2 c.1
 have h7:=Int.mul_comm a.1 a.2
 have h8:=Int.mul_comm b.1 b.2
 omega
theorem turn_low (a b c:Int × Int) : -1≤turnS a b c∧turnS a b c≤1:=by
 unfold turnS sgn
 split <;> (try split) <;> omega
end Go.Aw
end

namespace Go.Aw
theorem mul_pos_cancel {D u:Int}(hD:0<D)(h:0≤D*u):0≤u:=by
 by_cases hu:0≤u
 ·exact hu
 ·have:0<D*(-u):=Int.mul_pos hD (by omega)
  rw [Int.mul_neg] at this
  omega
theorem coll {D E t u:Int}(h:D*u=E*t)(hD:0<D)(h0:0≤t)(h1:t≤D):(0≤E→0≤u∧u≤E)∧(E≤0→E≤u∧u≤0):=by
 refine⟨fun hE=>⟨?_,?_⟩,fun hE=>⟨?_,?_⟩⟩
 ·exact mul_pos_cancel hD (by rw [h];exact Int.mul_nonneg hE h0)
 ·have h2:0≤D*(E - u):=by
   rw [Int.mul_sub,h,Int.mul_comm D E,← Int.mul_sub]
   exact Int.mul_nonneg hE (by omega)
  have:=mul_pos_cancel hD h2
  omega
 ·have h2:0≤D*(u - E):=by
   rw [Int.mul_sub,h,Int.mul_comm D E,← Int.mul_sub]
   rw [show E*(t - D)=(-E)*(D - t) by rw [Int.neg_mul,← Int.mul_neg];congr 1;omega]
   exact Int.mul_nonneg (by omega) (by omega)
  have:=mul_pos_cancel hD h2
  omega
 ·have h2:0≤D*(-u):=by
   rw [Int.mul_neg,h,← Int.neg_mul]
   exact Int.mul_nonneg (by omega) h0
  have:=mul_pos_cancel hD h2
  omega
theorem coll0 {D u:Int}(h:D*u=0)(hD:D≠0):u=0:=by
 rcases Int.mul_eq_zero.1 h with h|h
 ·exact absurd h hD
 ·exact h
theorem lex_box {ax ay bx b2 px py:Int}(h:(bx - ax)*(py - ay)=(b2 - ay)*(px - ax))(hlt:ax<bx) :
  ((ax<px∨(ax=px∧ay≤py))∧(px<bx∨(px=bx∧py≤b2)))↔((ax≤px∧px≤bx)∧((ay≤b2→ay≤py∧py≤b2)∧(b2≤ay→b2≤py∧py≤ay))):=by
 constructor
 ·intro⟨h1,h2⟩
  have hx:ax≤px∧px≤bx:=by omega
  have hc:=coll (D:=bx - ax) (E:=b2 - ay) (t:=px - ax) (u:=py - ay) h (by omega) (by omega) (by omega)
  refine⟨hx,fun he=>?_,fun he=>?_⟩
  ·have:=hc.1 (by omega);omega
  ·have:=hc.2 (by omega);omega
 ·intro⟨h1,h2,h3⟩
  have hc:=coll (D:=bx - ax) (E:=b2 - ay) (t:=px - ax) (u:=py - ay) h (by omega) (by omega) (by omega)
  refine⟨?_,?_⟩
  ·by_cases e:ax<px
   ·exact .inl e
   ·have e:ax=px:=by omega
    subst e
    rw [Int.sub_self,Int.mul_zero] at h
    have:=coll0 h (by omega)
    exact .inr ⟨rfl,by omega⟩
  ·by_cases e:px<bx
   ·exact .inl e
   ·have e:px=bx:=by omega
    subst e
    have h4:(px - ax)*(py - b2)=0:=by
     rw [show py - b2=(py - ay) - (b2 - ay) by omega,Int.mul_sub,h,Int.mul_comm (b2 - ay)]
     omega
    have:=coll0 h4 (by omega)
    exact .inr ⟨rfl,by omega⟩
end Go.Aw

noncomputable section
namespace Go.Aw
set_option maxRecDepth 100000
structure Cd (α:Type) where
 dec:Value→Option α
 enc:α→Value
 ok:∀ v a,dec v=some a→v=enc a
 gr:∀ a,gA (enc a)=true
def cI:Cd Int:=⟨decI,iv,fun _ _ h=>decI_eq h,fun _=>rfl⟩
def cP:Cd (Int × Int):=⟨decP,ptv,fun _ _ h=>decP_eq h,fun _=>rfl⟩
abbrev Sg:=(Int × Int) × (Int × Int)
def sgv (s:Sg):Value:=.agg #[iv s.1.1,iv s.1.2,iv s.2.1,iv s.2.2]
def decS:Value→Option Sg
 |.agg ⟨[.int .i64 a,.int .i64 b,.int .i64 c,.int .i64 d]⟩=>some ((a,b),(c,d))
 |_=>none
theorem decS_eq {v:Value}{s:Sg}(h:decS v=some s):v=sgv s:=by
 unfold decS at h
 split at h
 ·injection h with h;subst h;rfl
 ·cases h
def cS:Cd Sg:=⟨decS,sgv,fun _ _ h=>decS_eq h,fun _=>rfl⟩
section
variable {α β γ:Type}(a:Cd α)(b:Cd β)(c:Cd γ)
def s1 (F:α→Bool × Value):List Value→Option (Bool × Value)
 |[u]=>(match a.dec u with|some x=>some (F x)|none=>none)
 |_=>none
def s2 (F:α→β→Bool × Value):List Value→Option (Bool × Value)
 |[u,v]=>(match a.dec u with|some x=>(match b.dec v with|some y=>some (F x y)|none=>none)|none=>none)
 |_=>none
def s3 (F:α→β→γ→Bool × Value):List Value→Option (Bool × Value)
 |[u,v,w]=>(match a.dec u with|some x=>(match b.dec v with|some y=>(match c.dec w with|some z=>some (F x y z)|none=>none)|none=>none)|none=>none)
 |_=>none
theorem s1_inv {F:α→Bool × Value}{args:List Value}{r:Bool × Value}(h:s1 a F args=some r):∃ x,args=[a.enc x]∧F x=r:=by
 unfold s1 at h
 split at h
 ·split at h
  ·rename_i x e
   injection h with h
   exact⟨x,by rw [a.ok _ _ e],h⟩
  ·cases h
 ·cases h
theorem s2_inv {F:α→β→Bool × Value}{args:List Value}{r:Bool × Value}(h:s2 a b F args=some r):∃ x y,args=[a.enc x,b.enc y]∧F x y=r:=by
 unfold s2 at h
 split at h
 ·split at h
  ·rename_i x e
   split at h
   ·rename_i y e2
    injection h with h
    exact⟨x,y,by rw [a.ok _ _ e,b.ok _ _ e2],h⟩
   ·cases h
  ·cases h
 ·cases h
theorem s3_inv {F:α→β→γ→Bool × Value}{args:List Value}{r:Bool × Value}(h:s3 a b c F args=some r):∃ x y z,args=[a.enc x,b.enc y,c.enc z]∧F x y z=r:=by
 unfold s3 at h
 split at h
 ·split at h
  ·rename_i x e
   split at h
   ·rename_i y e2
    split at h
    ·rename_i z e3
     injection h with h
     exact⟨x,y,z,by rw [a.ok _ _ e,b.ok _ _ e2,c.ok _ _ e3],h⟩
    ·cases h
   ·cases h
  ·cases h
 ·cases h
theorem x1 {xl:List (Nat × XF)}(hx:XLOK xl){f:Nat}{F:α→Bool × Value}(hg:∀ x,gT (F x).2=true)(h:∀ x,(F x).1=true→Does1 xl f [a.enc x] (F x).2):XOK Go.Proofs.Tryz.prog f (gX (s1 a F)) :=
 gX_ok (body_calls hx) fun args v hs=>by
  obtain⟨x,rfl,e⟩:=s1_inv a hs
  have h1:(F x).1=true:=by rw [e]
  have h2:(F x).2=v:=by rw [e]
  subst h2
  exact⟨by simp [allGA,a.gr],hg x,h x h1⟩
theorem x2 {xl:List (Nat × XF)}(hx:XLOK xl){f:Nat}{F:α→β→Bool × Value}(hg:∀ x y,gT (F x y).2=true)(h:∀ x y,(F x y).1=true→Does1 xl f [a.enc x,b.enc y] (F x y).2):XOK Go.Proofs.Tryz.prog f (gX (s2 a b F)) :=
 gX_ok (body_calls hx) fun args v hs=>by
  obtain⟨x,y,rfl,e⟩:=s2_inv a b hs
  have h1:(F x y).1=true:=by rw [e]
  have h2:(F x y).2=v:=by rw [e]
  subst h2
  exact⟨by simp [allGA,a.gr,b.gr],hg x y,h x y h1⟩
theorem x3 {xl:List (Nat × XF)}(hx:XLOK xl){f:Nat}{F:α→β→γ→Bool × Value}(hg:∀ x y z,gT (F x y z).2=true)(h:∀ x y z,(F x y z).1=true→Does1 xl f [a.enc x,b.enc y,c.enc z] (F x y z).2):XOK Go.Proofs.Tryz.prog f (gX (s3 a b c F)) :=
 gX_ok (body_calls hx) fun args v hs=>by
  obtain⟨x,y,z,rfl,e⟩:=s3_inv a b c hs
  have h1:(F x y z).1=true:=by rw [e]
  have h2:(F x y z).2=v:=by rw [e]
  subst h2
  exact⟨by simp [allGA,a.gr,b.gr,c.gr],hg x y z,h x y z h1⟩
end
def bodyF (xl:List (Nat × XF))(n:Nat):VC:=vbody cfgS (some n) (CX (look xl)) noY
theorem bodyF_calls {xl:List (Nat × XF)}(h:XLOK xl)(n:Nat):CallsOK Go.Proofs.Tryz.prog (bodyF xl n):=vbody_ok cfgS_ok (CX_ok h.look) noY_ok (CX_det h.look) noY_det (some n)
def elI:El Int:=⟨fun n=>[iv n],1,fun _=>rfl,fun _=>rfl,by decide⟩
def orI (a b:Int):Int:=if a=0 then b else a
def S114:List Int→List Value→Option (Bool × Value)
 |[a,b],[]=>some (true,iv (orI a b))
 |_,_=>none
def X114:Nat × XF:=(97,lX elI S114)
theorem x114:XOK Go.Proofs.Tryz.prog X114.1 X114.2:=lX_ok elI (bodyF_calls (xl:=[]) .nil 4) fun l r v hs=>by
 have:∃ a b,l=[a,b]∧r=[]∧v=iv (orI a b):=by
  unfold S114 at hs
  split at hs
  ·injection hs with hs;injection hs with _ h2;exact⟨_,_,rfl,rfl,h2.symm⟩
  ·cases hs
 obtain⟨a,b,rfl,rfl,rfl⟩:=this
 refine⟨rfl,rfl,fun c=>?_⟩
 repeat' (conv=>whnf
          refine bm (fun h=>?_) (fun h=>?_))
 all_goals (conv=>whnf)
 all_goals (simp only [cfgS,std,iv,orI] at *;simp at *)
 all_goals (try simp_all)
theorem pEta (p:Int × Int):(p.1,p.2)=p:=rfl
def ordS (a b:Int × Int):Int:=orI (cmpI a.1 b.1) (cmpI a.2 b.2)
def X106:Nat × XF:=(78,gX (s2 cP cP fun a b=>(true,iv (ordS a b))))
theorem x106:XOK Go.Proofs.Tryz.prog X106.1 X106.2:=x2 cP cP (xl:=[X101,X114]) (.cons x101 (.cons x114 .nil)) (fun _ _=>rfl) fun a b _=>by
 obtain⟨ax,ay⟩:=a
 obtain⟨bx,b_y⟩:=b
 unfold Does1
 conv=>whnf
 refine⟨[cmpI ax bx,cmpI ay b_y],⟨rfl,_,_,_,_,rfl,rfl⟩,?_⟩
 conv=>whnf
 rfl
def endsS (s:Sg):(Int × Int) × (Int × Int):=if 0<ordS s.1 s.2 then (s.2,s.1) else (s.1,s.2)
def X74:Nat × XF:=(94,gX (s1 cS fun s=>(true,.tuple #[ptv (endsS s).1,ptv (endsS s).2])))
theorem x74:XOK Go.Proofs.Tryz.prog X74.1 X74.2:=x1 cS (xl:=[X106]) (.cons x106 .nil) (fun _=>rfl) fun s _=>by
 obtain⟨⟨ax,ay⟩,⟨bx,b_y⟩⟩:=s
 unfold Does1
 repeat' (conv=>whnf
          refine bm (fun h=>?_) (fun h=>?_))
 all_goals (conv=>whnf)
 all_goals (simp only [cfgS,std,decide_eq_true_eq,decide_eq_false_iff_not] at h)
 ·simp [endsS,h,ptv,iv]
 ·simp [endsS,h,ptv,iv]
def betS (p:Int × Int)(s:Sg):Bool:=decide (ordS (endsS s).1 p≤0)&&decide (ordS p (endsS s).2≤0)
def wideS (s:Sg):Bool:=wide s.1&&wide s.2
def onS (p:Int × Int)(s:Sg):Bool:=decide (turnS s.1 s.2 p=0)&&betS p s
def eqP (a b:Int × Int):Bool:=decide (a.1=b.1)&&(decide (a.2=b.2)&&true)
def rightG (s:Sg):Bool:=rightS s.1&&rightS s.2&&!(eqP s.1 s.2)
theorem rightG_wide {s:Sg}(h:rightG s=true):wideS s=true:=by
 simp only [rightG,wideS,Bool.and_eq_true] at *
 exact⟨rightS_wide h.1.1,rightS_wide h.1.2⟩
end Go.Aw
end

noncomputable section
namespace Go.Aw
set_option maxRecDepth 100000
theorem all_get {l:List (Int × Int)}(h:l.all rightS=true){i:Nat}(hi:i<l.length):rightS l[i]=true:=List.all_eq_true.1 h _ (List.getElem_mem hi)
def S80 (l:List (Int × Int)):List Value→Option (Bool × Value)
 |[]=>some (decide (l.length≤1000000000),.bool (l.all rightS))
 |_=>none
def X80:Nat × XF:=(58,lX elP S80)
theorem x80:XOK Go.Proofs.Tryz.prog X80.1 X80.2:=lX_ok elP (body_calls (xl:=[X56]) (.cons x56 .nil)) fun l r v hs=>by
 have:r=[]∧l.length≤1000000000∧v=.bool (l.all rightS):=by
  unfold S80 at hs
  split at hs
  ·injection hs with hs;injection hs with h1 h2;exact⟨rfl,by simpa using h1,h2.symm⟩
  ·cases hs
 obtain⟨rfl,hlen,rfl⟩:=this
 refine⟨rfl,rfl,fun c=>?_⟩
 conv=>whnf
 refine⟨fun n e h nx=>∃ (i:Nat) (j:Int),j=i∧i≤l.length∧n=l.length - i∧l.all rightS=(l.drop i).all rightS ∧
  e=[(0,.slice (some ⟨0,0,none⟩) l.length c),(3,iv j)]∧h=[(0,.cells false true 2 (flat elP.fl l))]∧nx=1,⟨l.length,?_⟩,?_⟩
 ·refine Into_id (e0:=[(0,.slice (some ⟨0,0,none⟩) l.length c),(3,iv 0)]) (h0:=[(0,.cells false true 2 (flat elP.fl l))]) (n0:=1)
   ⟨0,0,rfl,Nat.zero_le _,rfl,rfl,rfl,rfl,rfl⟩ ?_ ?_ (Nat.le_refl _)
  ·exact List.forall_mem_cons.2 ⟨⟨rfl,Nat.one_pos,fun h=>(by cases h)⟩,List.forall_mem_cons.2 ⟨⟨rfl,scT_g rfl⟩,fun _ h=>(by cases h)⟩⟩
  ·exact List.forall_mem_cons.2 ⟨⟨Nat.one_pos,_,rfl,ObjRen_g (flat_g elP l)⟩,fun _ h=>(by cases h)⟩
 ·rintro n e h nx ⟨i,j,hj,hi,rfl,hb,rfl,rfl,rfl⟩
  conv=>whnf
  refine bm (fun h1=>?_) (fun h1=>?_)
  ·have hlt:i<l.length:=by simp [cfgS,std] at h1;omega
   conv=>whnf
   refine bm (fun h2=>?_) (fun h2=>?_)
   ·conv=>whnf
    refine boL (flat_get elP l hlt ?ho) ?_
    case ho=>simp [cfgS,std,elP,hj]
    have hd:l.drop i=l[i]::l.drop (i+1):=List.drop_eq_getElem_cons hlt
    rw [hd,List.all_cons] at hb
    generalize l[i]=p at hb
    obtain⟨x,y⟩:=p
    conv=>whnf
    refine bm (fun h3=>?_) (fun h3=>?_)
    ·conv=>whnf
     simp [cfgS,std] at h3
     rw [hb,h3]
     rfl
    ·conv=>whnf
     refine bm (fun h4=>?_) (fun h4=>?_)
     ·conv=>whnf
      simp [cfgS,std] at h3
      refine⟨l.length - (i+1),by omega,?_⟩
      refine Into_id (e0:=[(0,.slice (some ⟨0,0,none⟩) l.length c),(3,iv (j+1))]) (h0:=[(0,.cells false true 2 (flat elP.fl l))]) (n0:=1)
       ⟨i+1,j+1,by omega,hlt,rfl,?_,rfl,rfl,rfl⟩ ?_ ?_ (Nat.le_refl _)
      ·rw [hb,h3,Bool.true_and]
      ·exact List.forall_mem_cons.2 ⟨⟨rfl,Nat.one_pos,fun h=>(by cases h)⟩,List.forall_mem_cons.2 ⟨⟨rfl,scT_g rfl⟩,fun _ h=>(by cases h)⟩⟩
      ·exact List.forall_mem_cons.2 ⟨⟨Nat.one_pos,_,rfl,ObjRen_g (flat_g elP l)⟩,fun _ h=>(by cases h)⟩
     ·simp [cfgS,std,fitsK] at h4
      omega
   ·simp [cfgS,std] at h2
    omega
  ·have hlt:l.length≤i:=by simp [cfgS,std] at h1;omega
   conv=>whnf
   rw [hb,List.drop_eq_nil_of_le hlt]
   rfl
end Go.Aw
end

noncomputable section
namespace Go.Aw
set_option maxRecDepth 100000
def mx (a b:Int):Int:=if a<b then b else a
theorem cA_add (a b:Int):cfgS.A.add a b=a+b:=rfl
theorem cA_sub (a b:Int):cfgS.A.sub a b=a - b:=rfl
theorem cA_mul (a b:Int):cfgS.A.mul a b=a*b:=rfl
theorem cA_lt (a b:Int):cfgS.A.lt a b=decide (a<b):=rfl
theorem cA_le (a b:Int):cfgS.A.le a b=decide (a≤b):=rfl
theorem cA_eq (a b:Int):cfgS.A.eq a b=decide (a=b):=rfl
theorem cA_fits (k:IntKind)(a:Int):cfgS.A.fits k a=fitsK k a:=rfl
theorem cA_num (a:Nat):cfgS.A.num a=(a:Int):=rfl
theorem cA_andB (a b:Bool):cfgS.A.andB a b=(a&&b):=rfl
theorem cA_notB (a:Bool):cfgS.A.notB a=!a:=rfl
theorem cA_eqB (a b:Bool):cfgS.A.eqB a b=(a == b):=rfl
theorem right_low {p:Int × Int}(h:rightS p=true):0≤p.1∧p.1≤10000∧0≤p.2∧p.2≤10000:=by
 simp only [rightS,Bool.and_eq_true,decide_eq_true_eq] at h
 omega
def at2 (l:List (Int × Int))(i:Nat):Int × Int:=l.getD i (0,0)
theorem at2_eq {l:List (Int × Int)}{i:Nat}(h:i<l.length):at2 l i=l[i]:=by
 unfold at2
 rw [List.getD_eq_getElem?_getD,List.getElem?_eq_getElem h]
 rfl
theorem all_at {l:List (Int × Int)}(h:l.all rightS=true){i:Nat}(hi:i<l.length):rightS (at2 l i)=true:=by rw [at2_eq hi];exact all_get h hi
end Go.Aw
end

noncomputable section
namespace Go.Aw
set_option maxRecDepth 100000
theorem getP (l:List (Int × Int)){i o:Nat}(hi:i<l.length)(ho:o=i*2):getN (flat elP.fl l) o 2=some [iv (at2 l i).1,iv (at2 l i).2]:=by
 rw [at2_eq hi]
 exact flat_get elP l hi ho
end Go.Aw
end

noncomputable section
namespace Go.Aw
set_option maxRecDepth 100000
def lowS (s t:Sg):Int × Int:=if ordS (endsS s).1 (endsS t).1<0 then (endsS t).1 else (endsS s).1
def highS (s t:Sg):Int × Int:=if ordS (endsS t).2 (endsS s).2<0 then (endsS t).2 else (endsS s).2
def tblS (o:Int):Int:=if o = -1 then 4 else if o=0 then 1 else 0
def kindS (a b c d:Int):Int :=
 if 0<a*b∨0<c*d then 0
 else if (c=0∨d=0)∧(a=0∨b=0) then 1
 else if (c=0∨d=0)∨(a=0∨b=0) then 2
 else 3
def meetS (s t:Sg):Int :=
 if turnS s.1 s.2 t.1=0∧turnS s.1 s.2 t.2=0 then tblS (ordS (lowS s t) (highS s t))
 else kindS (turnS s.1 s.2 t.1) (turnS s.1 s.2 t.2) (turnS t.1 t.2 s.1) (turnS t.1 t.2 s.2)
def u8 (n:Int):Value:=.int .u8 n
theorem ordS_low (a b:Int × Int):ordS a b = -1∨ordS a b=0∨ordS a b=1:=by
 unfold ordS orI cmpI
 split <;> split <;> (try split) <;> (try split) <;> omega
theorem nth_tbl {o:Int}(h:o = -1∨o=0∨o=1){k:Nat}(hk:k=(o+1).toNat):nth [u8 4,u8 1,u8 0] k=some (u8 (tblS o)):=by
 subst hk
 rcases h with rfl|rfl|rfl <;> rfl
theorem fit_ord (a b:Int × Int):cfgS.A.fits .i64 (cfgS.A.add (ordS a b) 1)=true:=by
 rcases ordS_low a b with e|e|e <;> rw [e] <;> rfl
theorem ix_ord (a b:Int × Int):cfgS.A.andB (cfgS.A.le 0 (cfgS.A.add (ordS a b) 1)) (cfgS.A.lt (cfgS.A.add (ordS a b) 1) (cfgS.A.num 3))=true:=by
 rcases ordS_low a b with e|e|e <;> rw [e] <;> rfl
def X68:Nat × XF:=(56,gX (s2 cS cS fun s t=>(wideS s&&wideS t,u8 (meetS s t))))
theorem x68:XOK Go.Proofs.Tryz.prog X68.1 X68.2:=x2 cS cS (xl:=[X55,X74,X106]) (.cons x55 (.cons x74 (.cons x106 .nil))) (fun _ _=>rfl) fun s t hp=>by
 obtain⟨⟨ax,ay⟩,⟨bx,b2⟩⟩:=s
 obtain⟨⟨cx,cy⟩,⟨dx,dy⟩⟩:=t
 have l1:=turn_low (ax,ay) (bx,b2) (cx,cy)
 have l2:=turn_low (ax,ay) (bx,b2) (dx,dy)
 have l3:=turn_low (cx,cy) (dx,dy) (ax,ay)
 have l4:=turn_low (cx,cy) (dx,dy) (bx,b2)
 have m1:=mulB (A:=1) (B:=1) l1.1 l1.2 l2.1 l2.2
 have m2:=mulB (A:=1) (B:=1) l3.1 l3.2 l4.1 l4.2
 simp only [wideS,Bool.and_eq_true] at hp
 unfold Does1
 repeat' (conv=>whnf
          refine bm (fun h=>?_) (fun h=>?_))
 all_goals (try (refine boV (nth_tbl (ordS_low _ _) (by show 0+(_+1:Int).toNat*1=_;rw [Nat.zero_add,Nat.mul_one])) ?_))
 all_goals (try (conv=>whnf))
 all_goals (clear l3 l4)
 all_goals first
  |(show _=_
    simp only [cA_add,cA_mul,cA_lt,cA_eq,cA_fits,cA_eqB,cA_andB,cA_notB,cA_le,cA_num,fitsK,pEta,Bool.and_eq_true,beq_iff_eq,beq_eq_false_iff_ne,ne_eq,decide_eq_true_eq,decide_eq_false_iff_not,not_and,Bool.not_eq_true',Bool.not_eq_false'] at *
    simp only [meetS,kindS,lowS,highS]
    simp_all [u8,iv]
    done)
  |(show _=_
    simp only [cA_lt,cA_eq,cA_eqB,pEta,beq_iff_eq,decide_eq_true_eq,decide_eq_false_iff_not] at *
    simp only [meetS,lowS,highS, *,and_self,if_true,if_false]
    done)
  |(rw [fit_ord] at h;cases h)
  |(rw [ix_ord] at h;cases h)
  |(simp [hp] at h;done)
  |(simp only [cA_mul,cA_fits,fitsK,pEta,Bool.eq_false_iff,ne_eq,Bool.and_eq_true,decide_eq_true_eq] at h;omega)
  |skip
 trace_state
end Go.Aw
end

noncomputable section
namespace Go.Aw
set_option maxRecDepth 100000
def btw (n a b:Int):Bool:=decide ((if b<a then b else a)≤n)&&decide (n≤(if a<b then b else a))
def X120:Nat × XF:=(144,gX (s3 cI cI cI fun n a b=>(true,.bool (btw n a b))))
theorem x120:XOK Go.Proofs.Tryz.prog X120.1 X120.2:=x3 cI cI cI (xl:=[]) .nil (fun _ _ _=>rfl) fun n a b _=>by
 unfold Does1
 repeat' (conv=>whnf
          refine bm (fun h=>?_) (fun h=>?_))
 all_goals (conv=>whnf)
 all_goals (simp only [cfgS,std] at *;(try simp at h);(try simp);simp_all [btw] <;> omega)
def onR (p:Int × Int)(s:Sg):Bool:=btw p.1 s.1.1 s.2.1&&btw p.2 s.1.2 s.2.2&&decide (turnS s.1 s.2 p=0)
def X67:Nat × XF:=(141,gX (s2 cP cS fun p s=>(wide p&&wideS s,.bool (onR p s))))
theorem x67:XOK Go.Proofs.Tryz.prog X67.1 X67.2:=x2 cP cS (xl:=[X120,X57]) (.cons x120 (.cons x57 .nil)) (fun _ _=>rfl) fun p s hp=>by
 obtain⟨px,py⟩:=p
 obtain⟨⟨ax,ay⟩,⟨bx,b_y⟩⟩:=s
 simp only [wideS,Bool.and_eq_true] at hp
 unfold Does1
 repeat' (conv=>whnf
          refine bm (fun h=>?_) (fun h=>?_))
 all_goals (conv=>whnf)
 all_goals (simp only [cfgS,std,pEta] at *;(try simp at h);(try simp);(try simp_all [onR]))
theorem ordS_le (a b:Int × Int):ordS a b≤0↔a.1<b.1∨(a.1=b.1∧a.2≤b.2):=by
 unfold ordS orI cmpI
 split <;> split <;> (try split) <;> (try split) <;> omega
theorem turn0 (a b c:Int × Int):turnS a b c=0↔crossI a b c=0:=by
 unfold turnS sgn
 split <;> (try split) <;> omega
theorem on_eq (p:Int × Int)(s:Sg)(h:rightG s=true):onS p s=onR p s:=by
 obtain⟨px,py⟩:=p
 obtain⟨⟨ax,ay⟩,⟨bx,b2⟩⟩:=s
 have hne:¬ (ax=bx∧ay=b2):=by
  simp only [rightG,eqP,Bool.and_eq_true,Bool.not_eq_true',Bool.and_true,Bool.and_eq_false_imp,decide_eq_true_eq,decide_eq_false_iff_not] at h
  intro⟨e1,e2⟩
  exact h.2 e1 e2
 clear h
 unfold onS onR betS
 by_cases hc:turnS (ax,ay) (bx,b2) (px,py)=0
 ·have hcr:=(turn0 _ _ _).1 hc
  simp only [crossI] at hcr
  rw [decide_eq_true hc,Bool.true_and,Bool.and_true,Bool.eq_iff_iff]
  simp only [btw,Bool.and_eq_true,decide_eq_true_eq,ordS_le]
  by_cases h1:ax<bx
  ·have he:endsS ((ax,ay),(bx,b2))=((ax,ay),(bx,b2)):=by
    unfold endsS
    rw [if_neg]
    have:=(ordS_le (ax,ay) (bx,b2)).2 (.inl h1)
    simp only at *
    omega
   rw [he]
   have hb:=lex_box (ax:=ax) (ay:=ay) (bx:=bx) (b2:=b2) (px:=px) (py:=py) (by omega) h1
   simp only at *
   rw [hb]
   omega
  ·by_cases h2:bx<ax
   ·have he:endsS ((ax,ay),(bx,b2))=((bx,b2),(ax,ay)):=by
     unfold endsS
     rw [if_pos]
     have:=(ordS_le (ax,ay) (bx,b2))
     simp only at *
     omega
    rw [he]
    have hsw:=cross_swap (ax,ay) (bx,b2) (px,py)
    simp only [crossI] at hsw
    have hb:=lex_box (ax:=bx) (ay:=b2) (bx:=ax) (b2:=ay) (px:=px) (py:=py) (by omega) h2
    simp only at *
    rw [hb]
    omega
   ·have hx:ax=bx:=by omega
    subst hx
    have hE:b2 - ay≠0:=by omega
    rw [Int.sub_self,Int.zero_mul] at hcr
    have ht:px - ax=0:=coll0 (D:=b2 - ay) (by omega) hE
    have hpx:px=ax:=by omega
    subst hpx
    by_cases h3:ay<b2
    ·have he:endsS ((px,ay),(px,b2))=((px,ay),(px,b2)):=by
      unfold endsS
      rw [if_neg]
      have:=(ordS_le (px,ay) (px,b2)).2 (.inr ⟨rfl,by omega⟩)
      simp only at *
      omega
     rw [he]
     have h4:¬ (b2<ay):=by omega
     simp only [Int.lt_irrefl,if_false,h3,h4,if_true]
     simp
    ·have he:endsS ((px,ay),(px,b2))=((px,b2),(px,ay)):=by
      unfold endsS
      rw [if_pos]
      have:=(ordS_le (px,ay) (px,b2))
      simp only at *
      omega
     rw [he]
     have h4:b2<ay:=by omega
     simp only [Int.lt_irrefl,if_false,h3,h4,if_true]
     simp
 ·simp [hc]
end Go.Aw
end

namespace Go.Aw
theorem par {ex ey ux uy wx wy:Int}(h:ex*uy=ey*ux):ex*(wx*uy - wy*ux)=ux*(wx*ey - wy*ex):=by
 have h1:ex*(wx*uy)=wx*(ey*ux):=by rw [← h,← Int.mul_assoc,Int.mul_comm ex wx,Int.mul_assoc]
 rw [Int.mul_sub,Int.mul_sub,h1]
 congr 1
 ·rw [← Int.mul_assoc,Int.mul_comm (wx*ey),← Int.mul_assoc,Int.mul_comm ux]
 ·rw [← Int.mul_assoc,Int.mul_comm ex,Int.mul_assoc,Int.mul_comm ex,← Int.mul_assoc,Int.mul_comm wy,Int.mul_assoc]
theorem sides {ex ux q r:Int}(he:0<ex)(h:ex*q=ux*r)(hne:¬ (q=0∧r - q=0)):(0≤ux∧ux≤ex)↔(0≤q*(r - q)):=by
 have hr:r≠0:=by
  intro hr
  subst hr
  rw [Int.mul_zero] at h
  have:q=0:=by
   rcases Int.mul_eq_zero.1 h with h|h
   ·omega
   ·exact h
  exact hne ⟨this,by omega⟩
 have e2:ex*(r - q)=(ex - ux)*r:=by rw [Int.mul_sub,Int.sub_mul,h]
 have key:(ex*ex)*(q*(r - q))=(ux*(ex - ux))*(r*r):=by
  calc (ex*ex)*(q*(r - q))=(ex*q)*(ex*(r - q)):=by rw [Int.mul_assoc,Int.mul_assoc,← Int.mul_assoc ex q,Int.mul_comm ex q,Int.mul_assoc q ex]
   _=(ux*r)*((ex - ux)*r):=by rw [h,e2]
   _=(ux*(ex - ux))*(r*r):=by rw [Int.mul_assoc,Int.mul_assoc,← Int.mul_assoc r,Int.mul_comm r (ex - ux),Int.mul_assoc (ex - ux)]
 have hrr:0<r*r:=by
  rcases Int.lt_or_gt_of_ne hr with h|h
  ·exact Int.mul_pos_of_neg_of_neg h h
  ·exact Int.mul_pos h h
 have hee:0<ex*ex:=Int.mul_pos he he
 constructor
 ·intro⟨h1,h2⟩
  have h3:0≤(ux*(ex - ux))*(r*r):=Int.mul_nonneg (Int.mul_nonneg h1 (by omega)) (by omega)
  rw [← key] at h3
  by_cases hq:0≤q*(r - q)
  ·exact hq
  ·have:(ex*ex)*(q*(r - q))<0:=Int.mul_neg_of_pos_of_neg hee (by omega)
   omega
 ·intro hq
  have h3:0≤(ex*ex)*(q*(r - q)):=Int.mul_nonneg (by omega) hq
  rw [key] at h3
  have h4:0≤ux*(ex - ux):=by
   by_cases h4:0≤ux*(ex - ux)
   ·exact h4
   ·have:(ux*(ex - ux))*(r*r)<0:=Int.mul_neg_of_neg_of_pos (by omega) hrr
    omega
  constructor
  ·by_cases h5:0≤ux
   ·exact h5
   ·have:ux*(ex - ux)<0:=Int.mul_neg_of_neg_of_pos (by omega) (by omega)
    omega
  ·by_cases h5:ux≤ex
   ·exact h5
   ·have:ux*(ex - ux)<0:=Int.mul_neg_of_pos_of_neg (by omega) (by omega)
    omega
end Go.Aw

namespace Go.Aw
theorem posdiv {a b:Int}(ha:0<a)(h:0≤a*b):0≤b:=by
 by_cases hb:0≤b
 ·exact hb
 ·have:a*b<0:=Int.mul_neg_of_pos_of_neg ha (by omega)
  omega
theorem boxy {ex ey ux uy:Int}(he:0<ex)(h:ex*uy=ey*ux)(h0:0≤ux)(h1:ux≤ex):(0≤ey→0≤uy∧uy≤ey)∧(ey≤0→ey≤uy∧uy≤0):=by
 have e2:ex*(ey - uy)=ey*(ex - ux):=by
  rw [Int.mul_sub,Int.mul_sub,h,Int.mul_comm ex ey]
 constructor
 ·intro hy
  constructor
  ·exact posdiv he (by rw [h];exact Int.mul_nonneg hy h0)
  ·have:=posdiv he (show 0≤ex*(ey - uy) by rw [e2];exact Int.mul_nonneg hy (by omega))
   omega
 ·intro hy
  constructor
  ·have:0≤ex*(uy - ey):=by
    have:ex*(uy - ey)=(-ey)*(ex - ux):=by
     rw [Int.neg_mul,← e2,← Int.mul_neg];congr 1;omega
    rw [this];exact Int.mul_nonneg (by omega) (by omega)
   have:=posdiv he this
   omega
  ·have:0≤ex*(-uy):=by
    rw [Int.mul_neg,h,← Int.neg_mul];exact Int.mul_nonneg (by omega) h0
   have:=posdiv he this
   omega
def inb (e u:Int):Prop:=(if 0<e then 0 else e)≤u∧u≤(if e<0 then 0 else e)
theorem inb_neg {e u:Int}:inb (-e) (-u)↔inb e u:=by
 unfold inb
 split <;> split <;> split <;> split <;> omega
theorem inb_pos {e u:Int}(h:0<e):inb e u↔(0≤u∧u≤e):=by
 unfold inb
 split <;> split <;> omega
theorem boxside1 {ex ey ux uy q r:Int}(he:0<ex)(h:ex*uy=ey*ux)(h1:ex*q=ux*r)(hne:¬ (q=0∧r - q=0)):(inb ex ux∧inb ey uy)↔0≤q*(r - q):=by
 rw [← sides he h1 hne,inb_pos he]
 constructor
 ·exact fun h=>h.1
 ·intro h2
  refine⟨h2,?_⟩
  obtain⟨k1,k2⟩:=boxy he h h2.1 h2.2
  unfold inb
  by_cases hy:0≤ey
  ·have:=k1 hy
   split <;> split <;> omega
  ·have:=k2 (by omega)
   split <;> split <;> omega
theorem boxside {ex ey ux uy q r:Int}(he:¬ (ex=0∧ey=0))(h:ex*uy=ey*ux)(h1:ex*q=ux*r)(h2:ey*q=uy*r)(hne:¬ (q=0∧r - q=0)):(inb ex ux∧inb ey uy)↔0≤q*(r - q):=by
 by_cases a1:0<ex
 ·exact boxside1 a1 h h1 hne
 ·by_cases a2:ex<0
  ·rw [← inb_neg (e:=ex),← inb_neg (e:=ey)]
   exact boxside1 (by omega) (by rw [Int.neg_mul_neg,Int.neg_mul_neg,h]) (by rw [Int.neg_mul,Int.neg_mul,h1]) hne
  ·by_cases a3:0<ey
   ·rw [And.comm]
    exact boxside1 a3 h.symm h2 hne
   ·rw [← inb_neg (e:=ex),← inb_neg (e:=ey),And.comm]
    exact boxside1 (by omega) (by rw [Int.neg_mul_neg,Int.neg_mul_neg,h]) (by rw [Int.neg_mul,Int.neg_mul,h2]) hne
theorem once {ex ey wx wy vx vy:Int}(hd:ex*wy - ey*wx≠0)(h1:ex*vy=ey*vx)(h2:wx*vy=wy*vx):vx=0∧vy=0:=by
 constructor
 ·have:(ex*wy - ey*wx)*vx=0:=by
   rw [Int.sub_mul,Int.mul_assoc,← h2,Int.mul_right_comm ey,← h1,Int.mul_assoc,Int.mul_comm vy,Int.sub_self]
  rcases Int.mul_eq_zero.1 this with h|h
  ·exact absurd h hd
  ·exact h
 ·have:(ex*wy - ey*wx)*vy=0:=by
   rw [Int.sub_mul,Int.mul_assoc ey,h2,Int.mul_right_comm ex,h1,← Int.mul_assoc,Int.mul_right_comm ey,Int.sub_self]
  rcases Int.mul_eq_zero.1 this with h|h
  ·exact absurd h hd
  ·exact h
theorem para {ex ey wx wy vx vy:Int}(hw:¬ (wx=0∧wy=0))(h1:wx*ey=wy*ex)(h2:wx*vy=wy*vx):ex*vy=ey*vx:=by
 have k1:wx*(ex*vy - ey*vx)=0:=by
  rw [Int.mul_sub,← Int.mul_assoc,Int.mul_right_comm,h2,← Int.mul_assoc,h1,Int.mul_right_comm,Int.sub_self]
 have k2:wy*(ex*vy - ey*vx)=0:=by
  rw [Int.mul_sub,← Int.mul_assoc,← h1,Int.mul_left_comm wy,← h2,Int.mul_left_comm ey,Int.mul_assoc,Int.sub_self]
 by_cases h:wx=0
 ·rcases Int.mul_eq_zero.1 k2 with h'|h'
  ·exact absurd ⟨h,h'⟩ hw
  ·omega
 ·rcases Int.mul_eq_zero.1 k1 with h'|h'
  ·exact absurd h' h
  ·omega
end Go.Aw
