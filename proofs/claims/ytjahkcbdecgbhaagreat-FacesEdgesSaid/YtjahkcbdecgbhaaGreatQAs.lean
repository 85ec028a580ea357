/-
  Parts of the proof, put together. No condition.
-/
import Derived.Test.YtjahkcbdecgbhaaGreatQAr
import Derived.WalkKit
set_option linter.unusedSimpArgs false
set_option linter.unusedVariables false
noncomputable section
namespace Go.Aw
theorem u9 {a b A B:Int}(h1 : -A≤a)(h2:a≤A)(h3 : -B≤b)(h4:b≤B) : -(A*B)≤a*b∧a*b≤A*B:=by
 have e1:=Int.mul_nonneg (show 0≤A - a by omega) (show 0≤B+b by omega);have e2:=Int.mul_nonneg (show 0≤A+a by omega) (show 0≤B - b by omega);have e3:=Int.mul_nonneg (show 0≤A - a by omega) (show 0≤B - b by omega);have e4:=Int.mul_nonneg (show 0≤A+a by omega) (show 0≤B+b by omega);simp only [Int.sub_mul,Int.mul_sub,Int.add_mul,Int.mul_add] at e1 e2 e3 e4;omega
set_option maxRecDepth 100000
def X56:Nat × XF:=(219,gX (s1P fun p=>(true,.bool (aX p))))
theorem x56:cJ Go.Proofs.Tryz.prog X56.1 X56.2:=x1P .nil (fun _=>rfl) fun p _=>by
 obtain⟨x,y⟩:=p;unfold cT
 repeat' (conv=>whnf
          refine bm (fun h=>?_) (fun h=>?_))
 all_goals (conv=>whnf)
 all_goals (simp [aA,aB] at *;simp [aX, *] <;> omega)
def aHb:Nat × XF:=(221,gX (s1I fun p=>(true,.bool false)))
theorem aLe:cJ Go.Proofs.Tryz.prog aHb.1 aHb.2:=x1I .nil (fun _=>rfl) fun p _=>by
 unfold cT
 repeat' (conv=>whnf
          refine bm (fun h=>?_) (fun h=>?_))
 all_goals (conv=>whnf)
 all_goals (simp [aA,aB] at *)
def SA:Nat × XF:=(179,gX (s2I fun p q=>(true,iv (jA p q))))
theorem VS:cJ Go.Proofs.Tryz.prog SA.1 SA.2:=x2I (xl:=[aHb]) (.cons aLe .nil) (fun _ _=>rfl) fun p q _=>by
 unfold cT
 repeat' (conv=>whnf
          refine bm (fun h=>?_) (fun h=>?_))
 all_goals (conv=>whnf)
 all_goals (simp [aA,aB] at *;simp [jA,iv] <;> omega)
def aFb:Nat × XF:=(268,gX (s1I fun p=>(true,iv (XJ p))))
theorem aKj:cJ Go.Proofs.Tryz.prog aFb.1 aFb.2:=x1I .nil (fun _=>rfl) fun p _=>by
 unfold cT
 repeat' (conv=>whnf
          refine bm (fun h=>?_) (fun h=>?_))
 all_goals (conv=>whnf)
 all_goals (simp [aA,aB] at *;simp [XJ,iv] <;> omega)
def aFW:Nat × XF:=(249,gX (s3P fun a b c=>(wide a&&wide b&&wide c,iv (bC a b c))))
theorem aLB:cJ Go.Proofs.Tryz.prog aFW.1 aFW.2:=x3P .nil (fun _ _ _=>rfl) fun a b c hp=>by
 obtain⟨ax,ay⟩:=a;obtain⟨bx,b_y⟩:=b;obtain⟨cx,cy⟩:=c;simp only [wide,Bool.and_eq_true,decide_eq_true_eq] at hp;have m1:=u9 (a:=bx - ax) (b:=cy - ay) (A:=2000000) (B:=2000000) (by omega) (by omega) (by omega) (by omega);have m2:=u9 (a:=b_y - ay) (b:=cx - ax) (A:=2000000) (B:=2000000) (by omega) (by omega) (by omega) (by omega);unfold cT
 repeat' (conv=>whnf
          refine bm (fun h=>?_) (fun h=>?_))
 all_goals (conv=>whnf)
 all_goals (simp [aA,aB,aH] at *)
 all_goals first|omega|simp [bC,iv]
def X55:Nat × XF:=(224,gX (s3P fun a b c=>(wide a&&wide b&&wide c,iv (bA a b c))))
theorem x55:cJ Go.Proofs.Tryz.prog X55.1 X55.2:=x3P (xl:=[SA,aFW]) (.cons VS (.cons aLB .nil)) (fun _ _ _=>rfl) fun a b c hp=>by
 obtain⟨ax,ay⟩:=a;obtain⟨bx,b_y⟩:=b;obtain⟨cx,cy⟩:=c;unfold cT
 repeat' (conv=>whnf
          refine bm (fun h=>?_) (fun h=>?_))
 all_goals (conv=>whnf)
 all_goals (simp at *)
 ·simp [bA,jA,XJ,iv]
 ·simp_all
def X57:Nat × XF:=(248,gX (s3P fun a b c=>(wide a&&wide b&&wide c,iv (bA a b c))))
theorem x57:cJ Go.Proofs.Tryz.prog X57.1 X57.2:=x3P (xl:=[aFb]) (.cons aKj .nil) (fun _ _ _=>rfl) fun a b c hp=>by
 obtain⟨ax,ay⟩:=a;obtain⟨bx,b_y⟩:=b;obtain⟨cx,cy⟩:=c;simp only [wide,Bool.and_eq_true,decide_eq_true_eq] at hp;have m1:=u9 (a:=bx - ax) (b:=cy - ay) (A:=2000000) (B:=2000000) (by omega) (by omega) (by omega) (by omega);have m2:=u9 (a:=b_y - ay) (b:=cx - ax) (A:=2000000) (B:=2000000) (by omega) (by omega) (by omega) (by omega);unfold cT
 repeat' (conv=>whnf
          refine bm (fun h=>?_) (fun h=>?_))
 all_goals (conv=>whnf)
 all_goals (simp [aA,aB,aH] at *)
 all_goals first|omega|simp [bA,bC,XJ,iv]
def X17:Nat × XF:=(112,gX (s1P fun p=>(true,iv (if aX p then 0 else 1))))
theorem x17:cJ Go.Proofs.Tryz.prog X17.1 X17.2:=x1P (xl:=[X58]) (.cons x58 .nil) (fun _=>rfl) fun p _=>by
 obtain⟨x,y⟩:=p;unfold cT
 repeat' (conv=>whnf
          refine bm (fun h=>?_) (fun h=>?_))
 all_goals (conv=>whnf)
 all_goals (simp [aA,aB] at *;simp [iv, *])
def X18:Nat × XF:=(187,gX (s1P fun p=>(true,iv (if aX p then 0 else 1))))
theorem x18:cJ Go.Proofs.Tryz.prog X18.1 X18.2:=x1P (xl:=[X56]) (.cons x56 .nil) (fun _=>rfl) fun p _=>by
 obtain⟨x,y⟩:=p;unfold cT
 repeat' (conv=>whnf
          refine bm (fun h=>?_) (fun h=>?_))
 all_goals (conv=>whnf)
 all_goals (simp [aA,aB] at *;simp [iv, *])
theorem oM {p:Int × Int}(h:aX p=true):wide p=true:=by
 simp only [aX,wide,Bool.and_eq_true,decide_eq_true_eq] at *;omega
def aGx:Nat × XF:=(207,gX (s1P fun p=>(true,.bool (!aX p))))
theorem aLw:cJ Go.Proofs.Tryz.prog aGx.1 aGx.2:=x1P (xl:=[X58]) (.cons x58 .nil) (fun _=>rfl) fun p _=>by
 obtain⟨x,y⟩:=p;unfold cT
 repeat' (conv=>whnf
          refine bm (fun h=>?_) (fun h=>?_))
 all_goals (conv=>whnf)
 all_goals (simp [aA,aB] at *)
end Go.Aw
end

noncomputable section
namespace Go.Aw
set_option maxRecDepth 100000
def jQ:List (Int × Int)→Nat→Int
 |[],_=>-1
 |p::r,i=>if aX p then jQ r (i+1) else i
def xR:Value:=.func (.func 207) #[] #[]
def aGm (l:List (Int × Int)):List Value→Option (Bool × Value)
 |[.func (.func 207) ⟨[]⟩ ⟨[]⟩]=>some (decide (l.length≤1000000000),iv (jQ l 0))
 |_=>none
theorem aAD {l:List (Int × Int)}{r:List Value}{v:Value}(h:aGm l r=some (true,v)):r=[xR]∧l.length≤1000000000∧v=iv (jQ l 0):=by
 unfold aGm at h;split at h
 ·injection h with h;injection h with h1 h2;exact⟨rfl,by simpa using h1,h2.symm⟩
 ·cases h
def aG9:Nat × XF:=(240,lX aP aGm)
theorem aKw:cJ Go.Proofs.Tryz.prog aG9.1 aG9.2:=vH aP (aK (xl:=[aGx]) (.cons aLw .nil)) fun l r v hs=>by
 obtain⟨rfl,hlen,rfl⟩:=aAD hs;refine⟨rfl,rfl,fun c=>?_⟩
 conv=>whnf
 refine⟨fun n e h nx=>∃ (i:Nat) (j:Int),j=i∧i≤l.length∧n=l.length - i∧jQ l 0=jQ (l.drop i) i ∧
  e=[(0,.slice (some ⟨0,0,none⟩) l.length c),(1,xR),(7,iv l.length),(8,iv j)]∧h=[(0,.cells false true 2 (flat aP.fl l))]∧nx=1,⟨l.length,?_⟩,?_⟩
 ·refine aL (e0:=[(0,.slice (some ⟨0,0,none⟩) l.length c),(1,xR),(7,iv l.length),(8,iv 0)]) (h0:=[(0,.cells false true 2 (flat aP.fl l))]) (n0:=1)
   ⟨0,0,rfl,Nat.zero_le _,rfl,rfl,rfl,rfl,rfl⟩ ?_ ?_ (Nat.le_refl _)
  ·exact List.forall_mem_cons.2 ⟨⟨rfl,Nat.one_pos,fun h=>(by cases h)⟩,List.forall_mem_cons.2 ⟨⟨(by show _=some (fV id xR);rw [kT (show gT xR=true from rfl)];rfl),bU rfl⟩,List.forall_mem_cons.2 ⟨⟨rfl,bU rfl⟩,List.forall_mem_cons.2 ⟨⟨rfl,bU rfl⟩,fun _ h=>(by cases h)⟩⟩⟩⟩
  ·exact List.forall_mem_cons.2 ⟨⟨Nat.one_pos,_,rfl,aM (aI aP l)⟩,fun _ h=>(by cases h)⟩
 ·rintro n e h nx ⟨i,j,hj,hi,rfl,hb,rfl,rfl,rfl⟩
  conv=>whnf
  refine bm (fun h1=>?_) (fun h1=>?_)
  ·have hlt:i<l.length:=by simp [aA,aB] at h1;omega
   conv=>whnf
   refine bm (fun h2=>?_) (fun h2=>?_)
   ·conv=>whnf
    refine mR (qB aP l hlt ?ho) ?_
    case ho=>simp [aA,aB,aP,hj]
    have hd:l.drop i=l[i]::l.drop (i+1):=List.drop_eq_getElem_cons hlt;rw [hd] at hb;generalize l[i]=p at hb;obtain⟨x,y⟩:=p
    conv=>whnf
    refine bm (fun h3=>?_) (fun h3=>?_)
    ·conv=>whnf
     simp only [Bool.not_eq_true'] at h3;rw [hb,hj];simp only [jQ,h3];rfl
    ·conv=>whnf
     refine bm (fun h4=>?_) (fun h4=>?_)
     ·conv=>whnf
      simp only [Bool.not_eq_false'] at h3;refine⟨l.length - (i+1),by omega,?_⟩
      refine aL (e0:=[(0,.slice (some ⟨0,0,none⟩) l.length c),(1,xR),(7,iv l.length),(8,iv (j+1))]) (h0:=[(0,.cells false true 2 (flat aP.fl l))]) (n0:=1)
       ⟨i+1,j+1,by omega,hlt,rfl,?_,rfl,rfl,rfl⟩ ?_ ?_ (Nat.le_refl _)
      ·rw [hb];simp only [jQ,h3,if_true]
      ·exact List.forall_mem_cons.2 ⟨⟨rfl,Nat.one_pos,fun h=>(by cases h)⟩,List.forall_mem_cons.2 ⟨⟨(by show _=some (fV id xR);rw [kT (show gT xR=true from rfl)];rfl),bU rfl⟩,List.forall_mem_cons.2 ⟨⟨rfl,bU rfl⟩,List.forall_mem_cons.2 ⟨⟨rfl,bU rfl⟩,fun _ h=>(by cases h)⟩⟩⟩⟩
      ·exact List.forall_mem_cons.2 ⟨⟨Nat.one_pos,_,rfl,aM (aI aP l)⟩,fun _ h=>(by cases h)⟩
     ·simp [aA,aB,aH] at h4;omega
   ·simp [aA,aB] at h2;omega
  ·have hlt:l.length≤i:=by simp [aA,aB] at h1;omega
   conv=>whnf
   rw [hb,List.drop_eq_nil_of_le hlt];rfl
theorem zE:∀ (l:List (Int × Int)) (i:Nat),decide (0≤jQ l i)=!(l.all aX)
 |[],i=>rfl
 |p::r,i=>by
  by_cases hp:aX p=true
  ·simp only [jQ,List.all_cons,hp,if_true,Bool.true_and];exact zE r (i+1)
  ·have hp':aX p=false:=(by simpa using hp);simp [jQ,List.all_cons,hp']
def S99 (l:List (Int × Int)):List Value→Option (Bool × Value)
 |[.func (.func 207) ⟨[]⟩ ⟨[]⟩]=>some (decide (l.length≤1000000000),.bool (!(l.all aX)))
 |_=>none
theorem aC3 {l:List (Int × Int)}{r:List Value}{v:Value}(h:S99 l r=some (true,v)):r=[xR]∧l.length≤1000000000∧v=.bool (!(l.all aX)):=by
 unfold S99 at h;split at h
 ·injection h with h;injection h with h1 h2;exact⟨rfl,by simpa using h1,h2.symm⟩
 ·cases h
theorem sQ {α:Type}(E:El α){l:List α}{c:Nat}{wr g:Bool}{sz:Nat}{h:Heap}(hk:look h 0=some (.cells wr g sz (flat E.fl l))):gZ E h (.slice (some ⟨0,0,none⟩) l.length c) l :=
 ⟨rfl,wr,g,sz,_,hk,by rw [List.drop_zero,List.take_length]⟩
def X99:Nat × XF:=(206,lX aP S99)
theorem x99:cJ Go.Proofs.Tryz.prog X99.1 X99.2:=vH aP (aK (xl:=[aG9]) (.cons aKw .nil)) fun l r v hs=>by
 obtain⟨rfl,hlen,rfl⟩:=aC3 hs;refine⟨rfl,rfl,fun c=>?_⟩
 conv=>whnf
 refine⟨l,sQ aP rfl,?_⟩
 conv=>whnf
 refine bm (fun h1=>?_) (fun h1=>?_)
 ·conv=>whnf
  rw [← zE l 0];rfl
 ·exact absurd hlen (by simpa using h1)
def S54 (l:List (Int × Int)):List Value→Option (Bool × Value)
 |[]=>some (decide (l.length≤1000000000),.bool (l.all aX))
 |_=>none
theorem aDm {l:List (Int × Int)}{r:List Value}{v:Value}(h:S54 l r=some (true,v)):r=[]∧l.length≤1000000000∧v=.bool (l.all aX):=by
 unfold S54 at h;split at h
 ·injection h with h;injection h with h1 h2;exact⟨rfl,by simpa using h1,h2.symm⟩
 ·cases h
def X54:Nat × XF:=(145,lX aP S54)
theorem x54:cJ Go.Proofs.Tryz.prog X54.1 X54.2:=vH aP (aK (xl:=[X99]) (.cons x99 .nil)) fun l r v hs=>by
 obtain⟨rfl,hlen,rfl⟩:=aDm hs;refine⟨rfl,rfl,fun c=>?_⟩
 conv=>whnf
 refine⟨l,sQ aP rfl,?_⟩
 conv=>whnf
 refine bm (fun h1=>?_) (fun h1=>?_)
 ·conv=>whnf
  simp [aA,aB]
 ·exact absurd hlen (by simpa using h1)
def s0 (v:Value):List Value→Option (Bool × Value)
 |[]=>some (true,v)
 |_=>none
theorem R6 (a b c:Int × Int):bC b a c = - bC a b c:=by
 simp only [bC,Int.sub_mul,Int.mul_sub];have h1:=Int.mul_comm a.1 b.2;have h2:=Int.mul_comm a.2 b.1;have h3:=Int.mul_comm a.1 c.2;have h4:=Int.mul_comm a.2 c.1;have h5:=Int.mul_comm b.1 c.2;have h6:=Int.mul_comm b.2 c.1;have h7:=Int.mul_comm a.1 a.2;have h8:=Int.mul_comm b.1 b.2;omega
theorem lP (a b c:Int × Int) : -1≤bA a b c∧bA a b c≤1:=by
 unfold bA XJ;split <;> (try split) <;> omega
end Go.Aw
end

namespace Go.Aw
theorem kO {D u:Int}(hD:0<D)(h:0≤D*u):0≤u:=by
 by_cases hu:0≤u
 ·exact hu
 ·have:0<D*(-u):=Int.mul_pos hD (by omega);rw [Int.mul_neg] at this;omega
theorem aIE {D E t u:Int}(h:D*u=E*t)(hD:0<D)(h0:0≤t)(h1:t≤D):(0≤E→0≤u∧u≤E)∧(E≤0→E≤u∧u≤0):=by
 refine⟨fun hE=>⟨?_,?_⟩,fun hE=>⟨?_,?_⟩⟩
 ·exact kO hD (by rw [h];exact Int.mul_nonneg hE h0)
 ·have h2:0≤D*(E - u):=by
   rw [Int.mul_sub,h,Int.mul_comm D E,← Int.mul_sub];exact Int.mul_nonneg hE (by omega)
  have:=kO hD h2;omega
 ·have h2:0≤D*(u - E):=by
   rw [Int.mul_sub,h,Int.mul_comm D E,← Int.mul_sub];rw [show E*(t - D)=(-E)*(D - t) by rw [Int.neg_mul,← Int.mul_neg];congr 1;omega];exact Int.mul_nonneg (by omega) (by omega)
  have:=kO hD h2;omega
 ·have h2:0≤D*(-u):=by
   rw [Int.mul_neg,h,← Int.neg_mul];exact Int.mul_nonneg (by omega) h0
  have:=kO hD h2;omega
theorem aBe {D u:Int}(h:D*u=0)(hD:D≠0):u=0:=by
 rcases Int.mul_eq_zero.1 h with h|h
 ·exact absurd h hD
 ·exact h
theorem TQ {ax ay bx b2 px py:Int}(h:(bx - ax)*(py - ay)=(b2 - ay)*(px - ax))(hlt:ax<bx) :
  ((ax<px∨(ax=px∧ay≤py))∧(px<bx∨(px=bx∧py≤b2)))↔((ax≤px∧px≤bx)∧((ay≤b2→ay≤py∧py≤b2)∧(b2≤ay→b2≤py∧py≤ay))):=by
 constructor
 ·intro⟨h1,h2⟩;have hx:ax≤px∧px≤bx:=(by omega);have hc:=aIE (D:=bx - ax) (E:=b2 - ay) (t:=px - ax) (u:=py - ay) h (by omega) (by omega) (by omega);refine⟨hx,fun he=>?_,fun he=>?_⟩
  ·have:=hc.1 (by omega);omega
  ·have:=hc.2 (by omega);omega
 ·intro⟨h1,h2,h3⟩;have hc:=aIE (D:=bx - ax) (E:=b2 - ay) (t:=px - ax) (u:=py - ay) h (by omega) (by omega) (by omega);refine⟨?_,?_⟩
  ·by_cases e:ax<px
   ·exact .inl e
   ·have e:ax=px:=(by omega);subst e;rw [Int.sub_self,Int.mul_zero] at h;have:=aBe h (by omega);exact .inr ⟨rfl,by omega⟩
  ·by_cases e:px<bx
   ·exact .inl e
   ·have e:px=bx:=(by omega);subst e;have h4:(px - ax)*(py - b2)=0:=by
     rw [show py - b2=(py - ay) - (b2 - ay) by omega,Int.mul_sub,h,Int.mul_comm (b2 - ay)];omega
    have:=aBe h4 (by omega);exact .inr ⟨rfl,by omega⟩
end Go.Aw

noncomputable section
namespace Go.Aw
set_option maxRecDepth 100000
structure Cd (α:Type) where
 dec:Value→Option α
 enc:α→Value
 ok:∀ v a,dec v=some a→v=enc a
 gr:∀ a,gA (enc a)=true
def cI:Cd Int:=⟨V9,iv,fun _ _ h=>CS h,fun _=>rfl⟩
def cP:Cd (Int × Int):=⟨QR,SC,fun _ _ h=>yO h,fun _=>rfl⟩
abbrev Sg:=(Int × Int) × (Int × Int)
def sgv (s:Sg):Value:=.agg #[iv s.1.1,iv s.1.2,iv s.2.1,iv s.2.2]
def aBk:Value→Option Sg
 |.agg ⟨[.int .i64 a,.int .i64 b,.int .i64 c,.int .i64 d]⟩=>some ((a,b),(c,d))
 |_=>none
theorem JM {v:Value}{s:Sg}(h:aBk v=some s):v=sgv s:=by
 unfold aBk at h;split at h
 ·injection h with h;subst h;rfl
 ·cases h
def cS:Cd Sg:=⟨aBk,sgv,fun _ _ h=>JM h,fun _=>rfl⟩
section
variable {α β γ:Type}(a:Cd α)(b:Cd β)(c:Cd γ)
def s1 (F:α→Bool × Value):List Value→Option (Bool × Value)
 |[u]=>(match a.dec u with|some x=>some (F x)|none=>none)
 |_=>none
def s2 (F:α→β→Bool × Value):List Value→Option (Bool × Value)
 |[u,v]=>(match a.dec u with|some x=>(match b.dec v with|some y=>some (F x y)|none=>none)|none=>none)
 |_=>none
def s3 (F:α→β→γ→Bool × Value):List Value→Option (Bool × Value)
 |[u,v,w]=>(match a.dec u with|some x=>(match b.dec v with|some y=>(match c.dec w with|some z=>some (F x y z)|none=>none)|none=>none)|none=>none)
 |_=>none
theorem aFj {F:α→Bool × Value}{args:List Value}{r:Bool × Value}(h:s1 a F args=some r):∃ x,args=[a.enc x]∧F x=r:=by
 unfold s1 at h;split at h
 ·split at h
  ·rename_i x e;injection h with h;exact⟨x,by rw [a.ok _ _ e],h⟩
  ·cases h
 ·cases h
theorem aF8 {F:α→β→Bool × Value}{args:List Value}{r:Bool × Value}(h:s2 a b F args=some r):∃ x y,args=[a.enc x,b.enc y]∧F x y=r:=by
 unfold s2 at h;split at h
 ·split at h
  ·rename_i x e;split at h
   ·rename_i y e2;injection h with h;exact⟨x,y,by rw [a.ok _ _ e,b.ok _ _ e2],h⟩
   ·cases h
  ·cases h
 ·cases h
theorem aFG {F:α→β→γ→Bool × Value}{args:List Value}{r:Bool × Value}(h:s3 a b c F args=some r):∃ x y z,args=[a.enc x,b.enc y,c.enc z]∧F x y z=r:=by
 unfold s3 at h;split at h
 ·split at h
  ·rename_i x e;split at h
   ·rename_i y e2;split at h
    ·rename_i z e3;injection h with h;exact⟨x,y,z,by rw [a.ok _ _ e,b.ok _ _ e2,c.ok _ _ e3],h⟩
    ·cases h
   ·cases h
  ·cases h
 ·cases h
theorem x1 {xl:List (Nat × XF)}(hx:nQ xl){f:Nat}{F:α→Bool × Value}(hg:∀ x,gT (F x).2=true)(h:∀ x,(F x).1=true→cT xl f [a.enc x] (F x).2):cJ Go.Proofs.Tryz.prog f (gX (s1 a F)) :=
 yC (aK hx) fun args v hs=>by
  obtain⟨x,rfl,e⟩:=aFj a hs;have h1:(F x).1=true:=(by rw [e]);have h2:(F x).2=v:=(by rw [e]);subst h2;exact⟨by simp [eM,a.gr],hg x,h x h1⟩
theorem x2 {xl:List (Nat × XF)}(hx:nQ xl){f:Nat}{F:α→β→Bool × Value}(hg:∀ x y,gT (F x y).2=true)(h:∀ x y,(F x y).1=true→cT xl f [a.enc x,b.enc y] (F x y).2):cJ Go.Proofs.Tryz.prog f (gX (s2 a b F)) :=
 yC (aK hx) fun args v hs=>by
  obtain⟨x,y,rfl,e⟩:=aF8 a b hs;have h1:(F x y).1=true:=(by rw [e]);have h2:(F x y).2=v:=(by rw [e]);subst h2;exact⟨by simp [eM,a.gr,b.gr],hg x y,h x y h1⟩
theorem x3 {xl:List (Nat × XF)}(hx:nQ xl){f:Nat}{F:α→β→γ→Bool × Value}(hg:∀ x y z,gT (F x y z).2=true)(h:∀ x y z,(F x y z).1=true→cT xl f [a.enc x,b.enc y,c.enc z] (F x y z).2):cJ Go.Proofs.Tryz.prog f (gX (s3 a b c F)) :=
 yC (aK hx) fun args v hs=>by
  obtain⟨x,y,z,rfl,e⟩:=aFG a b c hs;have h1:(F x y z).1=true:=(by rw [e]);have h2:(F x y z).2=v:=(by rw [e]);subst h2;exact⟨by simp [eM,a.gr,b.gr,c.gr],hg x y z,h x y z h1⟩
end
def aIO (xl:List (Nat × XF))(n:Nat):VC:=vG aA (some n) (CX (look xl)) noY
theorem O1 {xl:List (Nat × XF)}(h:nQ xl)(n:Nat):bI Go.Proofs.Tryz.prog (aIO xl n):=FO lI (aEm h.look) aA4 (RT h.look) LN (some n)
def aO:El Int:=⟨fun n=>[iv n],1,fun _=>rfl,fun _=>rfl,by decide⟩
def X7 (a b:Int):Int:=if a=0 then b else a
def aIX:List Int→List Value→Option (Bool × Value)
 |[a,b],[]=>some (true,iv (X7 a b))
 |_,_=>none
def YU:Nat × XF:=(178,lX aO aIX)
theorem aGC:cJ Go.Proofs.Tryz.prog YU.1 YU.2:=vH aO (O1 (xl:=[]) .nil 4) fun l r v hs=>by
 have:∃ a b,l=[a,b]∧r=[]∧v=iv (X7 a b):=by
  unfold aIX at hs;split at hs
  ·injection hs with hs;injection hs with _ h2;exact⟨_,_,rfl,rfl,h2.symm⟩
  ·cases hs
 obtain⟨a,b,rfl,rfl,rfl⟩:=this;refine⟨rfl,rfl,fun c=>?_⟩
 repeat' (conv=>whnf
          refine bm (fun h=>?_) (fun h=>?_))
 all_goals (conv=>whnf)
 all_goals (simp only [aA,aB,iv,X7] at *;simp at *)
 all_goals (try simp_all)
theorem CH (p:Int × Int):(p.1,p.2)=p:=rfl
def kJ (a b:Int × Int):Int:=X7 (jA a.1 b.1) (jA a.2 b.2)
def aB4:Nat × XF:=(194,gX (s2 cP cP fun a b=>(true,iv (kJ a b))))
theorem aCH:cJ Go.Proofs.Tryz.prog aB4.1 aB4.2:=x2 cP cP (xl:=[SA,YU]) (.cons VS (.cons aGC .nil)) (fun _ _=>rfl) fun a b _=>by
 obtain⟨ax,ay⟩:=a;obtain⟨bx,b_y⟩:=b;unfold cT
 conv=>whnf
 refine⟨[jA ax bx,jA ay b_y],⟨rfl,_,_,_,_,rfl,rfl⟩,?_⟩
 conv=>whnf
 rfl
def bW (s:Sg):(Int × Int) × (Int × Int):=if 0<kJ s.1 s.2 then (s.2,s.1) else (s.1,s.2)
def X74:Nat × XF:=(225,gX (s1 cS fun s=>(true,.tuple #[SC (bW s).1,SC (bW s).2])))
theorem x74:cJ Go.Proofs.Tryz.prog X74.1 X74.2:=x1 cS (xl:=[aB4]) (.cons aCH .nil) (fun _=>rfl) fun s _=>by
 obtain⟨⟨ax,ay⟩,⟨bx,b_y⟩⟩:=s;unfold cT
 repeat' (conv=>whnf
          refine bm (fun h=>?_) (fun h=>?_))
 all_goals (conv=>whnf)
 all_goals (simp only [aA,aB,decide_eq_true_eq,decide_eq_false_iff_not] at h)
 ·simp [bW,h,SC,iv]
 ·simp [bW,h,SC,iv]
def G7 (p:Int × Int)(s:Sg):Bool:=decide (kJ (bW s).1 p≤0)&&decide (kJ p (bW s).2≤0)
def aFg:Nat × XF:=(250,gX (s2 cP cS fun p s=>(true,.bool (G7 p s))))
theorem aJI:cJ Go.Proofs.Tryz.prog aFg.1 aFg.2:=x2 cP cS (xl:=[aB4,X74]) (.cons aCH (.cons x74 .nil)) (fun _ _=>rfl) fun p s _=>by
 obtain⟨px,py⟩:=p;obtain⟨⟨ax,ay⟩,⟨bx,b_y⟩⟩:=s;unfold cT
 repeat' (conv=>whnf
          refine bm (fun h=>?_) (fun h=>?_))
 all_goals (conv=>whnf)
 all_goals (simp only [aA,aB,CH] at *;simp at h ⊢;simp [G7, *] <;> omega)
def gW (s:Sg):Bool:=wide s.1&&wide s.2
def onS (p:Int × Int)(s:Sg):Bool:=decide (bA s.1 s.2 p=0)&&G7 p s
def X65:Nat × XF:=(226,gX (s2 cP cS fun p s=>(wide p&&gW s,.bool (onS p s))))
theorem x65:cJ Go.Proofs.Tryz.prog X65.1 X65.2:=x2 cP cS (xl:=[X55,aFg]) (.cons x55 (.cons aJI .nil)) (fun _ _=>rfl) fun p s hp=>by
 obtain⟨px,py⟩:=p;obtain⟨⟨ax,ay⟩,⟨bx,b_y⟩⟩:=s;simp only [gW,Bool.and_eq_true] at hp;unfold cT
 repeat' (conv=>whnf
          refine bm (fun h=>?_) (fun h=>?_))
 all_goals (conv=>whnf)
 all_goals (simp only [aA,aB,CH] at *;(try simp at h);(try simp);(try simp_all [onS]))
def jH (a b:Int × Int):Bool:=decide (a.1=b.1)&&(decide (a.2=b.2)&&true)
def dU (s:Sg):Bool:=aX s.1&&aX s.2&&!(jH s.1 s.2)
def X64:Nat × XF:=(191,gX (s1 cS fun s=>(true,.bool (dU s))))
theorem x64:cJ Go.Proofs.Tryz.prog X64.1 X64.2:=x1 cS (xl:=[X58]) (.cons x58 .nil) (fun _=>rfl) fun s _=>by
 obtain⟨⟨ax,ay⟩,⟨bx,b_y⟩⟩:=s;unfold cT
 repeat' (conv=>whnf
          refine bm (fun h=>?_) (fun h=>?_))
 all_goals (conv=>whnf)
 all_goals (simp [aA,aB,jH] at *;simp [dU,jH, *])
def OnS (p:Int × Int)(s:Sg):Bool:=aX p&&dU s&&onS p s
theorem tB {s:Sg}(h:dU s=true):gW s=true:=by
 simp only [dU,gW,Bool.and_eq_true] at *;exact⟨oM h.1.1,oM h.1.2⟩
def X20:Nat × XF:=(199,gX (s2 cP cS fun p s=>(true,.bool (OnS p s))))
theorem x20:cJ Go.Proofs.Tryz.prog X20.1 X20.2:=x2 cP cS (xl:=[X58,X64,X65]) (.cons x58 (.cons x64 (.cons x65 .nil))) (fun _ _=>rfl) fun p s hp=>by
 obtain⟨px,py⟩:=p;obtain⟨⟨ax,ay⟩,⟨bx,b_y⟩⟩:=s;unfold cT
 repeat' (conv=>whnf
          refine bm (fun h=>?_) (fun h=>?_))
 all_goals (conv=>whnf)
 all_goals (simp [aA,aB] at *)
 all_goals first|(simp [OnS, *];done)|(simp_all [OnS,oM,tB];done)
theorem kL {α:Type}(E:El α)(l:List α){i k o:Nat}{v:Value}(hi:i<l.length)(hk:(E.fl l[i])[k]? = some v)(hks:k<E.sz)(ho:o=i*E.sz+k):nth (flat E.fl l) o=some v:=by
 subst ho;have h1:=K4 E l i hi;rw [wP,← hk,← h1,List.getElem?_take_of_lt hks,List.getElem?_drop]
theorem aKc (l:List (Int × Int)){i o:Nat}(hi:i<l.length)(ho:o=i*2):nth (flat aP.fl l) o=some (iv l[i].1) :=
 kL aP l (k:=0) hi rfl (by decide) (by simp [ho,aP])
theorem aK3 (l:List (Int × Int)){i o:Nat}(hi:i<l.length)(ho:o=i*2+1):nth (flat aP.fl l) o=some (iv l[i].2) :=
 kL aP l (k:=1) hi rfl (by decide) (by simp [ho,aP])
theorem aDa {l:List (Int × Int)}(h:l.all aX=true){i:Nat}(hi:i<l.length):aX l[i]=true:=List.all_eq_true.1 h _ (List.getElem_mem hi)
def S80 (l:List (Int × Int)):List Value→Option (Bool × Value)
 |[]=>some (decide (l.length≤1000000000),.bool (l.all aX))
 |_=>none
def X80:Nat × XF:=(169,lX aP S80)
theorem x80:cJ Go.Proofs.Tryz.prog X80.1 X80.2:=vH aP (aK (xl:=[X56]) (.cons x56 .nil)) fun l r v hs=>by
 have:r=[]∧l.length≤1000000000∧v=.bool (l.all aX):=by
  unfold S80 at hs;split at hs
  ·injection hs with hs;injection hs with h1 h2;exact⟨rfl,by simpa using h1,h2.symm⟩
  ·cases hs
 obtain⟨rfl,hlen,rfl⟩:=this;refine⟨rfl,rfl,fun c=>?_⟩
 conv=>whnf
 refine⟨fun n e h nx=>∃ (i:Nat) (j:Int),j=i∧i≤l.length∧n=l.length - i∧l.all aX=(l.drop i).all aX ∧
  e=[(0,.slice (some ⟨0,0,none⟩) l.length c),(3,iv j)]∧h=[(0,.cells false true 2 (flat aP.fl l))]∧nx=1,⟨l.length,?_⟩,?_⟩
 ·refine aL (e0:=[(0,.slice (some ⟨0,0,none⟩) l.length c),(3,iv 0)]) (h0:=[(0,.cells false true 2 (flat aP.fl l))]) (n0:=1)
   ⟨0,0,rfl,Nat.zero_le _,rfl,rfl,rfl,rfl,rfl⟩ ?_ ?_ (Nat.le_refl _)
  ·exact List.forall_mem_cons.2 ⟨⟨rfl,Nat.one_pos,fun h=>(by cases h)⟩,List.forall_mem_cons.2 ⟨⟨rfl,bU rfl⟩,fun _ h=>(by cases h)⟩⟩
  ·exact List.forall_mem_cons.2 ⟨⟨Nat.one_pos,_,rfl,aM (aI aP l)⟩,fun _ h=>(by cases h)⟩
 ·rintro n e h nx ⟨i,j,hj,hi,rfl,hb,rfl,rfl,rfl⟩
  conv=>whnf
  refine bm (fun h1=>?_) (fun h1=>?_)
  ·have hlt:i<l.length:=by simp [aA,aB] at h1;omega
   conv=>whnf
   refine bm (fun h2=>?_) (fun h2=>?_)
   ·conv=>whnf
    refine mR (qB aP l hlt ?ho) ?_
    case ho=>simp [aA,aB,aP,hj]
    have hd:l.drop i=l[i]::l.drop (i+1):=List.drop_eq_getElem_cons hlt;rw [hd,List.all_cons] at hb;generalize l[i]=p at hb;obtain⟨x,y⟩:=p
    conv=>whnf
    refine bm (fun h3=>?_) (fun h3=>?_)
    ·conv=>whnf
     simp [aA,aB] at h3;rw [hb,h3];rfl
    ·conv=>whnf
     refine bm (fun h4=>?_) (fun h4=>?_)
     ·conv=>whnf
      simp [aA,aB] at h3;refine⟨l.length - (i+1),by omega,?_⟩
      refine aL (e0:=[(0,.slice (some ⟨0,0,none⟩) l.length c),(3,iv (j+1))]) (h0:=[(0,.cells false true 2 (flat aP.fl l))]) (n0:=1)
       ⟨i+1,j+1,by omega,hlt,rfl,?_,rfl,rfl,rfl⟩ ?_ ?_ (Nat.le_refl _)
      ·rw [hb,h3,Bool.true_and]
      ·exact List.forall_mem_cons.2 ⟨⟨rfl,Nat.one_pos,fun h=>(by cases h)⟩,List.forall_mem_cons.2 ⟨⟨rfl,bU rfl⟩,fun _ h=>(by cases h)⟩⟩
      ·exact List.forall_mem_cons.2 ⟨⟨Nat.one_pos,_,rfl,aM (aI aP l)⟩,fun _ h=>(by cases h)⟩
     ·simp [aA,aB,aH] at h4;omega
   ·simp [aA,aB] at h2;omega
  ·have hlt:l.length≤i:=by simp [aA,aB] at h1;omega
   conv=>whnf
   rw [hb,List.drop_eq_nil_of_le hlt];rfl
def mx (a b:Int):Int:=if a<b then b else a
theorem l9 (a b:Int):aA.A.add a b=a+b:=rfl
theorem Z3 (a b:Int):aA.A.sub a b=a - b:=rfl
theorem J3 (a b:Int):aA.A.mul a b=a*b:=rfl
theorem ZS (a:Int):aA.A.neg a=0 - a:=rfl
theorem jS (a b:Int):aA.A.lt a b=decide (a<b):=rfl
theorem H6 (a b:Int):aA.A.le a b=decide (a≤b):=rfl
theorem IB (a b:Int):aA.A.eq a b=decide (a=b):=rfl
theorem gI (k:IntKind)(a:Int):aA.A.fits k a=aH k a:=rfl
theorem jI (a:Nat):aA.A.num a=(a:Int):=rfl
theorem YG (a b:Int):aA.A.max a b=mx a b:=rfl
theorem oF (a b:Bool):aA.A.andB a b=(a&&b):=rfl
theorem iZ (a:Bool):aA.A.notB a=!a:=rfl
theorem fC (a b:Bool):aA.A.eqB a b=(a == b):=rfl
theorem z8 {d:Int}(h1 : -10000≤d)(h2:d≤10000):0≤mx d (0 - d)∧mx d (0 - d)≤10000:=by
 unfold mx;split <;> omega
theorem mV {p:Int × Int}(h:aX p=true):0≤p.1∧p.1≤10000∧0≤p.2∧p.2≤10000:=by
 simp only [aX,Bool.and_eq_true,decide_eq_true_eq] at h;omega
def zG (a b:Int × Int):Int:=mx (b.1 - a.1) (0 - (b.1 - a.1))+mx (b.2 - a.2) (0 - (b.2 - a.2))
def dL (l:List (Int × Int))(i:Nat):Int × Int:=l.getD i (0,0)
theorem kE {l:List (Int × Int)}{i:Nat}(h:i<l.length):dL l i=l[i]:=by
 unfold dL;rw [List.getD_eq_getElem?_getD,List.getElem?_eq_getElem h];rfl
def pQ (l:List (Int × Int)):Nat→Int
 |0=>0
 |i+1=>pQ l i+(if i=0 then 0 else zG (dL l (i - 1)) (dL l i))
theorem EE {a b:Int × Int}(ha:aX a=true)(hb:aX b=true):0≤zG a b∧zG a b≤20000:=by
 simp only [aX,Bool.and_eq_true,decide_eq_true_eq] at ha hb;unfold zG mx;split <;> split <;> omega
theorem SN (l:List (Int × Int)){i o:Nat}(hi:i<l.length)(ho:o=i*2):nth (flat aP.fl l) o=some (iv (dL l i).1):=by rw [kE hi];exact aKc l hi ho
theorem TX (l:List (Int × Int)){i o:Nat}(hi:i<l.length)(ho:o=i*2+1):nth (flat aP.fl l) o=some (iv (dL l i).2):=by rw [kE hi];exact aK3 l hi ho
theorem KB {l:List (Int × Int)}(h:l.all aX=true){i:Nat}(hi:i<l.length):aX (dL l i)=true:=by rw [kE hi];exact aDa h hi
def CI (l:List (Int × Int)):Int:=if l.length≤400∧l.all aX=true then pQ l l.length else 0
def aDM (l:List (Int × Int)):List Value→Option (Bool × Value)
 |[]=>some (decide (l.length≤1000000000),iv (CI l))
 |_=>none
theorem MM {l:List (Int × Int)}{r:List Value}{v:Value}(hs:aDM l r=some (true,v)):r=[]∧l.length≤1000000000∧v=iv (CI l):=by
 unfold aDM at hs;split at hs
 ·injection hs with hs;injection hs with h1 h2;exact⟨rfl,by simpa using h1,h2.symm⟩
 ·cases hs
theorem TJ (l:List (Int × Int)):∀ p∈([(0,aV.cells false true 2 (flat aP.fl l))]:Heap),p.1<1∧∃ o',look [(0,aV.cells false true 2 (flat aP.fl l))] p.1=some o'∧bO id 1 p.2 o' :=
 List.forall_mem_cons.2 ⟨⟨Nat.one_pos,_,rfl,aM (aI aP l)⟩,fun _ h=>(by cases h)⟩
def X30:Nat × XF:=(99,lX aP aDM)
theorem x30:cJ Go.Proofs.Tryz.prog X30.1 X30.2:=vH aP (aK (xl:=[X54]) (.cons x54 .nil)) fun l r v hs=>by
 obtain⟨rfl,hlen,rfl⟩:=MM hs;refine⟨rfl,rfl,fun c=>?_⟩
 conv=>whnf
 refine bm (fun h1=>?_) (fun h1=>?_)
 ·conv=>whnf
  refine⟨l,sQ aP rfl,?_⟩
  conv=>whnf
  refine bm (fun h2=>?_) (fun h2=>?_)
  ·conv=>whnf
   refine bm (fun h3=>?_) (fun h3=>?_)
   ·conv=>whnf
    unfold CI;rw [if_neg (fun h=>by rw [h.2] at h3;cases h3)];rfl
   ·have h3:l.all aX=true:=by
     simp only [iZ,Bool.not_eq_false'] at h3;exact h3
    have h1:l.length≤400:=by
     simp only [fC,jS,jI,beq_iff_eq,decide_eq_false_iff_not] at h1;omega
    conv=>whnf
    refine⟨fun n e h nx=>∃ (i:Nat) (j s:Int),j=i∧1≤i∧(i≤l.length∨i=1)∧n=500 - i∧s=pQ l i∧0≤s∧s≤20000*i ∧
     e=[(0,.slice (some ⟨0,0,none⟩) l.length c),(3,iv s),(4,iv j)]∧h=[(0,.cells false true 2 (flat aP.fl l))]∧nx=1,⟨499,?_⟩,?_⟩
    ·refine aL (e0:=[(0,.slice (some ⟨0,0,none⟩) l.length c),(3,iv 0),(4,iv 1)]) (h0:=[(0,.cells false true 2 (flat aP.fl l))]) (n0:=1)
      ⟨1,1,0,rfl,Nat.le_refl _,.inr rfl,rfl,rfl,by omega,by omega,rfl,rfl,rfl⟩ ?_ (TJ l) (Nat.le_refl _)
     exact List.forall_mem_cons.2 ⟨⟨rfl,Nat.one_pos,fun h=>(by cases h)⟩,List.forall_mem_cons.2 ⟨⟨rfl,bU rfl⟩,List.forall_mem_cons.2 ⟨⟨rfl,bU rfl⟩,fun _ h=>(by cases h)⟩⟩⟩
    ·rintro n e h nx ⟨i,j,s,hj,hi1,hi,rfl,hs1,hs0,hs2,rfl,rfl,rfl⟩
     conv=>whnf
     refine bm (fun g1=>?_) (fun g1=>?_)
     ·have hlt:i<l.length:=(by simp [aA,aB] at g1;omega);have hlt1:i - 1<l.length:=(by omega);have r1:=KB h3 hlt;have r2:=KB h3 hlt1;have hd:=EE r2 r1;have hsum:pQ l (i+1)=pQ l i+zG (dL l (i - 1)) (dL l i):=by
       simp only [pQ];rw [if_neg (by omega)]
      repeat' first
       |(conv=>whnf
         refine bm (fun g=>?_) (fun g=>?_))
       |(conv=>whnf
         refine fY (SN l hlt ?_) ?_
         ·simp [aA,aB];omega)
       |(conv=>whnf
         refine fY (SN l hlt1 ?_) ?_
         ·simp [aA,aB];omega)
       |(conv=>whnf
         refine fY (TX l hlt ?_) ?_
         ·simp [aA,aB];omega)
       |(conv=>whnf
         refine fY (TX l hlt1 ?_) ?_
         ·simp [aA,aB];omega)
      ·conv=>whnf
       refine⟨500 - (i+1),by omega,?_⟩
       refine aL (e0:=[(0,.slice (some ⟨0,0,none⟩) l.length c),(3,iv (s+zG (dL l (i - 1)) (dL l i))),(4,iv (j+1))]) (h0:=[(0,.cells false true 2 (flat aP.fl l))]) (n0:=1)
        ⟨i+1,j+1,_,by omega,by omega,.inl (by omega),rfl,by omega,by omega,by omega,rfl,rfl,rfl⟩ ?_ (TJ l) (Nat.le_refl _)
       exact List.forall_mem_cons.2 ⟨⟨rfl,Nat.one_pos,fun h=>(by cases h)⟩,List.forall_mem_cons.2 ⟨⟨rfl,bU rfl⟩,List.forall_mem_cons.2 ⟨⟨rfl,bU rfl⟩,fun _ h=>(by cases h)⟩⟩⟩
      all_goals (
       have q1:=mV r1;have q2:=mV r2;have m1:=z8 (d:=(dL l i).1 - (dL l (i - 1)).1) (by omega) (by omega);have m2:=z8 (d:=(dL l i).2 - (dL l (i - 1)).2) (by omega) (by omega);simp only [l9,Z3,ZS,jS,H6,gI,jI,YG,oF,aH,Bool.eq_false_iff,ne_eq,Bool.and_eq_true,decide_eq_true_eq] at g;omega)
     ·conv=>whnf
      have hge:l.length≤i:=(by simp [aA,aB] at g1;omega);unfold CI;rw [if_pos ⟨h1,h3⟩];rcases hi with hi|hi
      ·rw [show l.length=i by omega,← hs1]
      ·subst hi;have:pQ l 1=0:=(by simp [pQ]);have h0:pQ l l.length=0:=by
        rcases Nat.lt_or_ge l.length 1 with h|h
        ·rw [show l.length=0 by omega];rfl
        ·rw [show l.length=1 by omega];exact this
       rw [h0,← this,← hs1]
  ·exact absurd hlen (by simpa using h2)
 ·conv=>whnf
  unfold CI;rw [if_neg]
  ·rfl
  ·simp only [fC,jS,jI,beq_eq_false_iff_ne,ne_eq,decide_eq_false_iff_not,Decidable.not_not] at h1;omega
def X31:Nat × XF:=(100,lX aP aDM)
theorem CZ (a b:Int):mx (a - b) (b - a)=mx (a - b) (0 - (a - b)):=by
 unfold mx;split <;> split <;> omega
theorem x31:cJ Go.Proofs.Tryz.prog X31.1 X31.2:=vH aP (aK (xl:=[X80]) (.cons x80 .nil)) fun l r v hs=>by
 obtain⟨rfl,hlen,rfl⟩:=MM hs;refine⟨rfl,rfl,fun c=>?_⟩
 conv=>whnf
 refine⟨l,sQ aP rfl,?_⟩
 conv=>whnf
 refine bm (fun h2=>?_) (fun h2=>?_)
 ·conv=>whnf
  refine bm (fun h3=>?_) (fun h3=>?_)
  ·conv=>whnf
   refine bm (fun h1=>?_) (fun h1=>?_)
   ·conv=>whnf
    unfold CI;rw [if_neg]
    ·rfl
    ·simp only [jS,jI,decide_eq_true_eq] at h1;omega
   ·have h3:l.all aX=true:=by
     simp only [iZ,fC,beq_iff_eq,Bool.not_eq_false'] at h3;exact h3
    have h1:l.length≤400:=by
     simp only [jS,jI,decide_eq_false_iff_not] at h1;omega
    conv=>whnf
    refine⟨fun n e h nx=>∃ (i:Nat) (j s:Int),j=i∧1≤i∧(i≤l.length∨i=1)∧n=500 - i∧s=pQ l i∧0≤s∧s≤20000*i ∧
     e=[(0,.slice (some ⟨0,0,none⟩) l.length c),(4,iv s),(5,iv j)]∧h=[(0,.cells false true 2 (flat aP.fl l))]∧nx=1,⟨499,?_⟩,?_⟩
    ·refine aL (e0:=[(0,.slice (some ⟨0,0,none⟩) l.length c),(4,iv 0),(5,iv 1)]) (h0:=[(0,.cells false true 2 (flat aP.fl l))]) (n0:=1)
      ⟨1,1,0,rfl,Nat.le_refl _,.inr rfl,rfl,rfl,by omega,by omega,rfl,rfl,rfl⟩ ?_ (TJ l) (Nat.le_refl _)
     exact List.forall_mem_cons.2 ⟨⟨rfl,Nat.one_pos,fun h=>(by cases h)⟩,List.forall_mem_cons.2 ⟨⟨rfl,bU rfl⟩,List.forall_mem_cons.2 ⟨⟨rfl,bU rfl⟩,fun _ h=>(by cases h)⟩⟩⟩
    ·rintro n e h nx ⟨i,j,s,hj,hi1,hi,rfl,hs1,hs0,hs2,rfl,rfl,rfl⟩
     conv=>whnf
     refine bm (fun g1=>?_) (fun g1=>?_)
     ·have hlt:i<l.length:=(by simp [aA,aB] at g1;omega);have hlt1:i - 1<l.length:=(by omega);have r1:=KB h3 hlt;have r2:=KB h3 hlt1;have hd:=EE r2 r1;have hsum:pQ l (i+1)=pQ l i+zG (dL l (i - 1)) (dL l i):=by
       simp only [pQ];rw [if_neg (by omega)]
      repeat' first
       |(conv=>whnf
         refine bm (fun g=>?_) (fun g=>?_))
       |(conv=>whnf
         refine fY (SN l hlt ?_) ?_
         ·simp [aA,aB];omega)
       |(conv=>whnf
         refine fY (SN l hlt1 ?_) ?_
         ·simp [aA,aB];omega)
       |(conv=>whnf
         refine fY (TX l hlt ?_) ?_
         ·simp [aA,aB];omega)
       |(conv=>whnf
         refine fY (TX l hlt1 ?_) ?_
         ·simp [aA,aB];omega)
      have q1:=mV r1;have q2:=mV r2;have m1:=z8 (d:=(dL l i).1 - (dL l (i - 1)).1) (by omega) (by omega);have m2:=z8 (d:=(dL l i).2 - (dL l (i - 1)).2) (by omega) (by omega);have f1:=CZ (dL l i).1 (dL l (i - 1)).1;have f2:=CZ (dL l i).2 (dL l (i - 1)).2
      ·conv=>whnf
       refine⟨500 - (i+1),by omega,?_⟩
       refine aL (e0:=[(0,.slice (some ⟨0,0,none⟩) l.length c),(4,iv (s+mx ((dL l i).1 - (dL l (i - 1)).1) ((dL l (i - 1)).1 - (dL l i).1)+mx ((dL l i).2 - (dL l (i - 1)).2) ((dL l (i - 1)).2 - (dL l i).2))),(5,iv (j+1))]) (h0:=[(0,.cells false true 2 (flat aP.fl l))]) (n0:=1)
        ⟨i+1,j+1,_,by omega,by omega,.inl (by omega),rfl,by rw [hsum,f1,f2,hs1];unfold zG;omega,by omega,by omega,rfl,rfl,rfl⟩ ?_ (TJ l) (Nat.le_refl _)
       exact List.forall_mem_cons.2 ⟨⟨rfl,Nat.one_pos,fun h=>(by cases h)⟩,List.forall_mem_cons.2 ⟨⟨rfl,bU rfl⟩,List.forall_mem_cons.2 ⟨⟨rfl,bU rfl⟩,fun _ h=>(by cases h)⟩⟩⟩
      all_goals (
       have q1:=mV r1;have q2:=mV r2;have m1:=z8 (d:=(dL l i).1 - (dL l (i - 1)).1) (by omega) (by omega);have m2:=z8 (d:=(dL l i).2 - (dL l (i - 1)).2) (by omega) (by omega);have f1:=CZ (dL l i).1 (dL l (i - 1)).1;have f2:=CZ (dL l i).2 (dL l (i - 1)).2;simp only [l9,Z3,ZS,jS,H6,gI,jI,YG,oF,aH,Bool.eq_false_iff,ne_eq,Bool.and_eq_true,decide_eq_true_eq] at g;omega)
     ·conv=>whnf
      have hge:l.length≤i:=(by simp [aA,aB] at g1;omega);unfold CI;rw [if_pos ⟨h1,h3⟩];rcases hi with hi|hi
      ·rw [show l.length=i by omega,← hs1]
      ·subst hi;have:pQ l 1=0:=(by simp [pQ]);have h0:pQ l l.length=0:=by
        rcases Nat.lt_or_ge l.length 1 with h|h
        ·rw [show l.length=0 by omega];rfl
        ·rw [show l.length=1 by omega];exact this
       rw [h0,← this,← hs1]
  ·conv=>whnf
   unfold CI;rw [if_neg (fun h=>by simp only [iZ,fC,h.2] at h3;cases h3)];rfl
 ·exact absurd hlen (by simpa using h2)
theorem NB (l:List (Int × Int)){i o:Nat}(hi:i<l.length)(ho:o=i*2):nW (flat aP.fl l) o 2=some [iv (dL l i).1,iv (dL l i).2]:=by
 rw [kE hi];exact qB aP l hi ho
end Go.Aw
end
