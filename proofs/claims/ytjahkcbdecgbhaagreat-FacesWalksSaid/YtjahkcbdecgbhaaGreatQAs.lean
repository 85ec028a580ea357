/-
  Parts of the proof, put together. No condition.
-/
import Derived.Test.YtjahkcbdecgbhaaGreatQAr
import Derived.WalkKit
set_option linter.unusedSimpArgs false
set_option linter.unusedVariables false
noncomputable section
namespace Go.Aw
theorem uR {a b A B:Int}(h1 : -A≤a)(h2:a≤A)(h3 : -B≤b)(h4:b≤B) : -(A*B)≤a*b∧a*b≤A*B:=by
 have e1:=Int.mul_nonneg (show 0≤A - a by omega) (show 0≤B+b by omega);have e2:=Int.mul_nonneg (show 0≤A+a by omega) (show 0≤B - b by omega);have e3:=Int.mul_nonneg (show 0≤A - a by omega) (show 0≤B - b by omega);have e4:=Int.mul_nonneg (show 0≤A+a by omega) (show 0≤B+b by omega);simp only [Int.sub_mul,Int.mul_sub,Int.add_mul,Int.mul_add] at e1 e2 e3 e4;omega
set_option maxRecDepth 100000
def X56:Nat × XF:=(219,gX (s1P fun p=>(true,.bool (bQ p))))
theorem x56:cE Go.Proofs.Tryz.prog X56.1 X56.2:=x1P .nil (fun _=>rfl) fun p _=>by
 obtain⟨x,y⟩:=p;unfold cT
 repeat' (conv=>whnf
          refine bm (fun h=>?_) (fun h=>?_))
 all_goals (conv=>whnf)
 all_goals (simp [aA,aC] at *;simp [bQ, *] <;> omega)
def aGl:Nat × XF:=(221,gX (s1I fun p=>(true,.bool false)))
theorem aJM:cE Go.Proofs.Tryz.prog aGl.1 aGl.2:=x1I .nil (fun _=>rfl) fun p _=>by
 unfold cT
 repeat' (conv=>whnf
          refine bm (fun h=>?_) (fun h=>?_))
 all_goals (conv=>whnf)
 all_goals (simp [aA,aC] at *)
def QW:Nat × XF:=(179,gX (s2I fun p q=>(true,iv (iS p q))))
theorem U7:cE Go.Proofs.Tryz.prog QW.1 QW.2:=x2I (xl:=[aGl]) (.cons aJM .nil) (fun _ _=>rfl) fun p q _=>by
 unfold cT
 repeat' (conv=>whnf
          refine bm (fun h=>?_) (fun h=>?_))
 all_goals (conv=>whnf)
 all_goals (simp [aA,aC] at *;simp [iS,iv] <;> omega)
def aF6:Nat × XF:=(268,gX (s1I fun p=>(true,iv (U2 p))))
theorem aJV:cE Go.Proofs.Tryz.prog aF6.1 aF6.2:=x1I .nil (fun _=>rfl) fun p _=>by
 unfold cT
 repeat' (conv=>whnf
          refine bm (fun h=>?_) (fun h=>?_))
 all_goals (conv=>whnf)
 all_goals (simp [aA,aC] at *;simp [U2,iv] <;> omega)
def aFy:Nat × XF:=(249,gX (s3P fun a b c=>(wide a&&wide b&&wide c,iv (bB a b c))))
theorem aJG:cE Go.Proofs.Tryz.prog aFy.1 aFy.2:=x3P .nil (fun _ _ _=>rfl) fun a b c hp=>by
 obtain⟨ax,ay⟩:=a;obtain⟨bx,b_y⟩:=b;obtain⟨cx,cy⟩:=c;simp only [wide,Bool.and_eq_true,decide_eq_true_eq] at hp;have m1:=uR (a:=bx - ax) (b:=cy - ay) (A:=2000000) (B:=2000000) (by omega) (by omega) (by omega) (by omega);have m2:=uR (a:=b_y - ay) (b:=cx - ax) (A:=2000000) (B:=2000000) (by omega) (by omega) (by omega) (by omega);unfold cT
 repeat' (conv=>whnf
          refine bm (fun h=>?_) (fun h=>?_))
 all_goals (conv=>whnf)
 all_goals (simp [aA,aC,aH] at *)
 all_goals first|omega|simp [bB,iv]
def X55:Nat × XF:=(224,gX (s3P fun a b c=>(wide a&&wide b&&wide c,iv (aZ a b c))))
theorem x55:cE Go.Proofs.Tryz.prog X55.1 X55.2:=x3P (xl:=[QW,aFy]) (.cons U7 (.cons aJG .nil)) (fun _ _ _=>rfl) fun a b c hp=>by
 obtain⟨ax,ay⟩:=a;obtain⟨bx,b_y⟩:=b;obtain⟨cx,cy⟩:=c;unfold cT
 repeat' (conv=>whnf
          refine bm (fun h=>?_) (fun h=>?_))
 all_goals (conv=>whnf)
 all_goals (simp at *)
 ·simp [aZ,iS,U2,iv]
 ·simp_all
def X57:Nat × XF:=(248,gX (s3P fun a b c=>(wide a&&wide b&&wide c,iv (aZ a b c))))
theorem x57:cE Go.Proofs.Tryz.prog X57.1 X57.2:=x3P (xl:=[aF6]) (.cons aJV .nil) (fun _ _ _=>rfl) fun a b c hp=>by
 obtain⟨ax,ay⟩:=a;obtain⟨bx,b_y⟩:=b;obtain⟨cx,cy⟩:=c;simp only [wide,Bool.and_eq_true,decide_eq_true_eq] at hp;have m1:=uR (a:=bx - ax) (b:=cy - ay) (A:=2000000) (B:=2000000) (by omega) (by omega) (by omega) (by omega);have m2:=uR (a:=b_y - ay) (b:=cx - ax) (A:=2000000) (B:=2000000) (by omega) (by omega) (by omega) (by omega);unfold cT
 repeat' (conv=>whnf
          refine bm (fun h=>?_) (fun h=>?_))
 all_goals (conv=>whnf)
 all_goals (simp [aA,aC,aH] at *)
 all_goals first|omega|simp [aZ,bB,U2,iv]
def X17:Nat × XF:=(112,gX (s1P fun p=>(true,iv (if bQ p then 0 else 1))))
theorem x17:cE Go.Proofs.Tryz.prog X17.1 X17.2:=x1P (xl:=[X58]) (.cons x58 .nil) (fun _=>rfl) fun p _=>by
 obtain⟨x,y⟩:=p;unfold cT
 repeat' (conv=>whnf
          refine bm (fun h=>?_) (fun h=>?_))
 all_goals (conv=>whnf)
 all_goals (simp [aA,aC] at *;simp [iv, *])
def X18:Nat × XF:=(187,gX (s1P fun p=>(true,iv (if bQ p then 0 else 1))))
theorem x18:cE Go.Proofs.Tryz.prog X18.1 X18.2:=x1P (xl:=[X56]) (.cons x56 .nil) (fun _=>rfl) fun p _=>by
 obtain⟨x,y⟩:=p;unfold cT
 repeat' (conv=>whnf
          refine bm (fun h=>?_) (fun h=>?_))
 all_goals (conv=>whnf)
 all_goals (simp [aA,aC] at *;simp [iv, *])
theorem nX {p:Int × Int}(h:bQ p=true):wide p=true:=by
 simp only [bQ,wide,Bool.and_eq_true,decide_eq_true_eq] at *;omega
end Go.Aw
end

noncomputable section
namespace Go.Aw
set_option maxRecDepth 100000
theorem aAb {α:Type}(E:El α){l:List α}{c:Nat}{wr g:Bool}{sz:Nat}{h:Heap}(hk:look h 0=some (.cells wr g sz (flat E.fl l))):gP E h (.slice (some ⟨0,0,none⟩) l.length c) l :=
 ⟨rfl,wr,g,sz,_,hk,by rw [List.drop_zero,List.take_length]⟩
def s0 (v:Value):List Value→Option (Bool × Value)
 |[]=>some (true,v)
 |_=>none
theorem O3 (a b c:Int × Int):bB b a c = - bB a b c:=by
 simp only [bB,Int.sub_mul,Int.mul_sub];have h1:=Int.mul_comm a.1 b.2;have h2:=Int.mul_comm a.2 b.1;have h3:=Int.mul_comm a.1 c.2;have h4:=Int.mul_comm a.2 c.1;have h5:=Int.mul_comm b.1 c.2;have h6:=Int.mul_comm b.2 c.1;have h7:=Int.mul_comm a.1 a.2;have h8:=Int.mul_comm b.1 b.2;omega
theorem lG (a b c:Int × Int) : -1≤aZ a b c∧aZ a b c≤1:=by
 unfold aZ U2;split <;> (try split) <;> omega
end Go.Aw
end

namespace Go.Aw
theorem kE {D u:Int}(hD:0<D)(h:0≤D*u):0≤u:=by
 by_cases hu:0≤u
 ·exact hu
 ·have:0<D*(-u):=Int.mul_pos hD (by omega);rw [Int.mul_neg] at this;omega
theorem aHJ {D E t u:Int}(h:D*u=E*t)(hD:0<D)(h0:0≤t)(h1:t≤D):(0≤E→0≤u∧u≤E)∧(E≤0→E≤u∧u≤0):=by
 refine⟨fun hE=>⟨?_,?_⟩,fun hE=>⟨?_,?_⟩⟩
 ·exact kE hD (by rw [h];exact Int.mul_nonneg hE h0)
 ·have h2:0≤D*(E - u):=by
   rw [Int.mul_sub,h,Int.mul_comm D E,← Int.mul_sub];exact Int.mul_nonneg hE (by omega)
  have:=kE hD h2;omega
 ·have h2:0≤D*(u - E):=by
   rw [Int.mul_sub,h,Int.mul_comm D E,← Int.mul_sub];rw [show E*(t - D)=(-E)*(D - t) by rw [Int.neg_mul,← Int.mul_neg];congr 1;omega];exact Int.mul_nonneg (by omega) (by omega)
  have:=kE hD h2;omega
 ·have h2:0≤D*(-u):=by
   rw [Int.mul_neg,h,← Int.neg_mul];exact Int.mul_nonneg (by omega) h0
  have:=kE hD h2;omega
theorem aAY {D u:Int}(h:D*u=0)(hD:D≠0):u=0:=by
 rcases Int.mul_eq_zero.1 h with h|h
 ·exact absurd h hD
 ·exact h
theorem S7 {ax ay bx b2 px py:Int}(h:(bx - ax)*(py - ay)=(b2 - ay)*(px - ax))(hlt:ax<bx) :
  ((ax<px∨(ax=px∧ay≤py))∧(px<bx∨(px=bx∧py≤b2)))↔((ax≤px∧px≤bx)∧((ay≤b2→ay≤py∧py≤b2)∧(b2≤ay→b2≤py∧py≤ay))):=by
 constructor
 ·intro⟨h1,h2⟩;have hx:ax≤px∧px≤bx:=(by omega);have hc:=aHJ (D:=bx - ax) (E:=b2 - ay) (t:=px - ax) (u:=py - ay) h (by omega) (by omega) (by omega);refine⟨hx,fun he=>?_,fun he=>?_⟩
  ·have:=hc.1 (by omega);omega
  ·have:=hc.2 (by omega);omega
 ·intro⟨h1,h2,h3⟩;have hc:=aHJ (D:=bx - ax) (E:=b2 - ay) (t:=px - ax) (u:=py - ay) h (by omega) (by omega) (by omega);refine⟨?_,?_⟩
  ·by_cases e:ax<px
   ·exact .inl e
   ·have e:ax=px:=(by omega);subst e;rw [Int.sub_self,Int.mul_zero] at h;have:=aAY h (by omega);exact .inr ⟨rfl,by omega⟩
  ·by_cases e:px<bx
   ·exact .inl e
   ·have e:px=bx:=(by omega);subst e;have h4:(px - ax)*(py - b2)=0:=by
     rw [show py - b2=(py - ay) - (b2 - ay) by omega,Int.mul_sub,h,Int.mul_comm (b2 - ay)];omega
    have:=aAY h4 (by omega);exact .inr ⟨rfl,by omega⟩
end Go.Aw

noncomputable section
namespace Go.Aw
set_option maxRecDepth 100000
structure Cd (α:Type) where
 dec:Value→Option α
 enc:α→Value
 ok:∀ v a,dec v=some a→v=enc a
 gr:∀ a,gA (enc a)=true
def cI:Cd Int:=⟨VH,iv,fun _ _ h=>CI h,fun _=>rfl⟩
def cP:Cd (Int × Int):=⟨OZ,RS,fun _ _ h=>yG h,fun _=>rfl⟩
abbrev Sg:=(Int × Int) × (Int × Int)
def sgv (s:Sg):Value:=.agg #[iv s.1.1,iv s.1.2,iv s.2.1,iv s.2.2]
def aAO:Value→Option Sg
 |.agg ⟨[.int .i64 a,.int .i64 b,.int .i64 c,.int .i64 d]⟩=>some ((a,b),(c,d))
 |_=>none
theorem J0 {v:Value}{s:Sg}(h:aAO v=some s):v=sgv s:=by
 unfold aAO at h;split at h
 ·injection h with h;subst h;rfl
 ·cases h
def cS:Cd Sg:=⟨aAO,sgv,fun _ _ h=>J0 h,fun _=>rfl⟩
section
variable {α β γ:Type}(a:Cd α)(b:Cd β)(c:Cd γ)
def s1 (F:α→Bool × Value):List Value→Option (Bool × Value)
 |[u]=>(match a.dec u with|some x=>some (F x)|none=>none)
 |_=>none
def s2 (F:α→β→Bool × Value):List Value→Option (Bool × Value)
 |[u,v]=>(match a.dec u with|some x=>(match b.dec v with|some y=>some (F x y)|none=>none)|none=>none)
 |_=>none
def s3 (F:α→β→γ→Bool × Value):List Value→Option (Bool × Value)
 |[u,v,w]=>(match a.dec u with|some x=>(match b.dec v with|some y=>(match c.dec w with|some z=>some (F x y z)|none=>none)|none=>none)|none=>none)
 |_=>none
theorem aES {F:α→Bool × Value}{args:List Value}{r:Bool × Value}(h:s1 a F args=some r):∃ x,args=[a.enc x]∧F x=r:=by
 unfold s1 at h;split at h
 ·split at h
  ·rename_i x e;injection h with h;exact⟨x,by rw [a.ok _ _ e],h⟩
  ·cases h
 ·cases h
theorem aG5 {F:α→β→Bool × Value}{args:List Value}{r:Bool × Value}(h:s2 a b F args=some r):∃ x y,args=[a.enc x,b.enc y]∧F x y=r:=by
 unfold s2 at h;split at h
 ·split at h
  ·rename_i x e;split at h
   ·rename_i y e2;injection h with h;exact⟨x,y,by rw [a.ok _ _ e,b.ok _ _ e2],h⟩
   ·cases h
  ·cases h
 ·cases h
theorem aEs {F:α→β→γ→Bool × Value}{args:List Value}{r:Bool × Value}(h:s3 a b c F args=some r):∃ x y z,args=[a.enc x,b.enc y,c.enc z]∧F x y z=r:=by
 unfold s3 at h;split at h
 ·split at h
  ·rename_i x e;split at h
   ·rename_i y e2;split at h
    ·rename_i z e3;injection h with h;exact⟨x,y,z,by rw [a.ok _ _ e,b.ok _ _ e2,c.ok _ _ e3],h⟩
    ·cases h
   ·cases h
  ·cases h
 ·cases h
theorem x1 {xl:List (Nat × XF)}(hx:nU xl){f:Nat}{F:α→Bool × Value}(hg:∀ x,gT (F x).2=true)(h:∀ x,(F x).1=true→cT xl f [a.enc x] (F x).2):cE Go.Proofs.Tryz.prog f (gX (s1 a F)) :=
 wX (aK hx) fun args v hs=>by
  obtain⟨x,rfl,e⟩:=aES a hs;have h1:(F x).1=true:=(by rw [e]);have h2:(F x).2=v:=(by rw [e]);subst h2;exact⟨by simp [dU,a.gr],hg x,h x h1⟩
theorem x2 {xl:List (Nat × XF)}(hx:nU xl){f:Nat}{F:α→β→Bool × Value}(hg:∀ x y,gT (F x y).2=true)(h:∀ x y,(F x y).1=true→cT xl f [a.enc x,b.enc y] (F x y).2):cE Go.Proofs.Tryz.prog f (gX (s2 a b F)) :=
 wX (aK hx) fun args v hs=>by
  obtain⟨x,y,rfl,e⟩:=aG5 a b hs;have h1:(F x y).1=true:=(by rw [e]);have h2:(F x y).2=v:=(by rw [e]);subst h2;exact⟨by simp [dU,a.gr,b.gr],hg x y,h x y h1⟩
theorem x3 {xl:List (Nat × XF)}(hx:nU xl){f:Nat}{F:α→β→γ→Bool × Value}(hg:∀ x y z,gT (F x y z).2=true)(h:∀ x y z,(F x y z).1=true→cT xl f [a.enc x,b.enc y,c.enc z] (F x y z).2):cE Go.Proofs.Tryz.prog f (gX (s3 a b c F)) :=
 wX (aK hx) fun args v hs=>by
  obtain⟨x,y,z,rfl,e⟩:=aEs a b c hs;have h1:(F x y z).1=true:=(by rw [e]);have h2:(F x y z).2=v:=(by rw [e]);subst h2;exact⟨by simp [dU,a.gr,b.gr,c.gr],hg x y z,h x y z h1⟩
end
def aHB (xl:List (Nat × XF))(n:Nat):VC:=sY aA (some n) (CX (look xl)) noY
theorem M0 {xl:List (Nat × XF)}(h:nU xl)(n:Nat):bE Go.Proofs.Tryz.prog (aHB xl n):=xE fV (ZQ h.look) QA (I9 h.look) C2 (some n)
def aP:El Int:=⟨fun n=>[iv n],1,fun _=>rfl,fun _=>rfl,by decide⟩
def XA (a b:Int):Int:=if a=0 then b else a
def aHP:List Int→List Value→Option (Bool × Value)
 |[a,b],[]=>some (true,iv (XA a b))
 |_,_=>none
def ZU:Nat × XF:=(178,lX aP aHP)
theorem aG3:cE Go.Proofs.Tryz.prog ZU.1 ZU.2:=SB aP (M0 (xl:=[]) .nil 4) fun l r v hs=>by
 have:∃ a b,l=[a,b]∧r=[]∧v=iv (XA a b):=by
  unfold aHP at hs;split at hs
  ·injection hs with hs;injection hs with _ h2;exact⟨_,_,rfl,rfl,h2.symm⟩
  ·cases hs
 obtain⟨a,b,rfl,rfl,rfl⟩:=this;refine⟨rfl,rfl,fun c=>?_⟩
 repeat' (conv=>whnf
          refine bm (fun h=>?_) (fun h=>?_))
 all_goals (conv=>whnf)
 all_goals (simp only [aA,aC,iv,XA] at *;simp at *)
 all_goals (try simp_all)
theorem B6 (p:Int × Int):(p.1,p.2)=p:=rfl
def j7 (a b:Int × Int):Int:=XA (iS a.1 b.1) (iS a.2 b.2)
def aAi:Nat × XF:=(194,gX (s2 cP cP fun a b=>(true,iv (j7 a b))))
theorem aCf:cE Go.Proofs.Tryz.prog aAi.1 aAi.2:=x2 cP cP (xl:=[QW,ZU]) (.cons U7 (.cons aG3 .nil)) (fun _ _=>rfl) fun a b _=>by
 obtain⟨ax,ay⟩:=a;obtain⟨bx,b_y⟩:=b;unfold cT
 conv=>whnf
 refine⟨[iS ax bx,iS ay b_y],⟨rfl,_,_,_,_,rfl,rfl⟩,?_⟩
 conv=>whnf
 rfl
def bT (s:Sg):(Int × Int) × (Int × Int):=if 0<j7 s.1 s.2 then (s.2,s.1) else (s.1,s.2)
def X74:Nat × XF:=(225,gX (s1 cS fun s=>(true,.tuple #[RS (bT s).1,RS (bT s).2])))
theorem x74:cE Go.Proofs.Tryz.prog X74.1 X74.2:=x1 cS (xl:=[aAi]) (.cons aCf .nil) (fun _=>rfl) fun s _=>by
 obtain⟨⟨ax,ay⟩,⟨bx,b_y⟩⟩:=s;unfold cT
 repeat' (conv=>whnf
          refine bm (fun h=>?_) (fun h=>?_))
 all_goals (conv=>whnf)
 all_goals (simp only [aA,aC,decide_eq_true_eq,decide_eq_false_iff_not] at h)
 ·simp [bT,h,RS,iv]
 ·simp [bT,h,RS,iv]
def GR (p:Int × Int)(s:Sg):Bool:=decide (j7 (bT s).1 p≤0)&&decide (j7 p (bT s).2≤0)
def aGi:Nat × XF:=(250,gX (s2 cP cS fun p s=>(true,.bool (GR p s))))
theorem aJU:cE Go.Proofs.Tryz.prog aGi.1 aGi.2:=x2 cP cS (xl:=[aAi,X74]) (.cons aCf (.cons x74 .nil)) (fun _ _=>rfl) fun p s _=>by
 obtain⟨px,py⟩:=p;obtain⟨⟨ax,ay⟩,⟨bx,b_y⟩⟩:=s;unfold cT
 repeat' (conv=>whnf
          refine bm (fun h=>?_) (fun h=>?_))
 all_goals (conv=>whnf)
 all_goals (simp only [aA,aC,B6] at *;simp at h ⊢;simp [GR, *] <;> omega)
def gM (s:Sg):Bool:=wide s.1&&wide s.2
def onS (p:Int × Int)(s:Sg):Bool:=decide (aZ s.1 s.2 p=0)&&GR p s
def X65:Nat × XF:=(226,gX (s2 cP cS fun p s=>(wide p&&gM s,.bool (onS p s))))
theorem x65:cE Go.Proofs.Tryz.prog X65.1 X65.2:=x2 cP cS (xl:=[X55,aGi]) (.cons x55 (.cons aJU .nil)) (fun _ _=>rfl) fun p s hp=>by
 obtain⟨px,py⟩:=p;obtain⟨⟨ax,ay⟩,⟨bx,b_y⟩⟩:=s;simp only [gM,Bool.and_eq_true] at hp;unfold cT
 repeat' (conv=>whnf
          refine bm (fun h=>?_) (fun h=>?_))
 all_goals (conv=>whnf)
 all_goals (simp only [aA,aC,B6] at *;(try simp at h);(try simp);(try simp_all [onS]))
def jE (a b:Int × Int):Bool:=decide (a.1=b.1)&&(decide (a.2=b.2)&&true)
def dQ (s:Sg):Bool:=bQ s.1&&bQ s.2&&!(jE s.1 s.2)
def X64:Nat × XF:=(191,gX (s1 cS fun s=>(true,.bool (dQ s))))
theorem x64:cE Go.Proofs.Tryz.prog X64.1 X64.2:=x1 cS (xl:=[X58]) (.cons x58 .nil) (fun _=>rfl) fun s _=>by
 obtain⟨⟨ax,ay⟩,⟨bx,b_y⟩⟩:=s;unfold cT
 repeat' (conv=>whnf
          refine bm (fun h=>?_) (fun h=>?_))
 all_goals (conv=>whnf)
 all_goals (simp [aA,aC,jE] at *;simp [dQ,jE, *])
def OnS (p:Int × Int)(s:Sg):Bool:=bQ p&&dQ s&&onS p s
theorem sQ {s:Sg}(h:dQ s=true):gM s=true:=by
 simp only [dQ,gM,Bool.and_eq_true] at *;exact⟨nX h.1.1,nX h.1.2⟩
def X20:Nat × XF:=(199,gX (s2 cP cS fun p s=>(true,.bool (OnS p s))))
theorem x20:cE Go.Proofs.Tryz.prog X20.1 X20.2:=x2 cP cS (xl:=[X58,X64,X65]) (.cons x58 (.cons x64 (.cons x65 .nil))) (fun _ _=>rfl) fun p s hp=>by
 obtain⟨px,py⟩:=p;obtain⟨⟨ax,ay⟩,⟨bx,b_y⟩⟩:=s;unfold cT
 repeat' (conv=>whnf
          refine bm (fun h=>?_) (fun h=>?_))
 all_goals (conv=>whnf)
 all_goals (simp [aA,aC] at *)
 all_goals first|(simp [OnS, *];done)|(simp_all [OnS,nX,sQ];done)
theorem nF {α:Type}(E:El α)(l:List α){i k o:Nat}{v:Value}(hi:i<l.length)(hk:(E.fl l[i])[k]? = some v)(hks:k<E.sz)(ho:o=i*E.sz+k):nth (flat E.fl l) o=some v:=by
 subst ho;have h1:=J1 E l i hi;rw [wC,← hk,← h1,List.getElem?_take_of_lt hks,List.getElem?_drop]
def mx (a b:Int):Int:=if a<b then b else a
theorem oZ (a b:Int):aA.A.add a b=a+b:=rfl
theorem K9 (a b:Int):aA.A.mul a b=a*b:=rfl
theorem nN (a b:Int):aA.A.lt a b=decide (a<b):=rfl
theorem R9 (a b:Int):aA.A.le a b=decide (a≤b):=rfl
theorem HV (a b:Int):aA.A.eq a b=decide (a=b):=rfl
theorem iQ (k:IntKind)(a:Int):aA.A.fits k a=aH k a:=rfl
theorem oK (a:Nat):aA.A.num a=(a:Int):=rfl
theorem tP (a b:Bool):aA.A.andB a b=(a&&b):=rfl
theorem kV (a:Bool):aA.A.notB a=!a:=rfl
theorem iB (a b:Bool):aA.A.eqB a b=(a == b):=rfl
def iM (l:List (Int × Int))(i:Nat):Int × Int:=l.getD i (0,0)
theorem nO {l:List (Int × Int)}{i:Nat}(h:i<l.length):iM l i=l[i]:=by
 unfold iM;rw [List.getD_eq_getElem?_getD,List.getElem?_eq_getElem h];rfl
theorem L4 (l:List (Int × Int)){i o:Nat}(hi:i<l.length)(ho:o=i*2):mT (flat aR.fl l) o 2=some [iv (iM l i).1,iv (iM l i).2]:=by
 rw [nO hi];exact zD aR l hi ho
def MG (s t:Sg):Int × Int:=if j7 (bT s).1 (bT t).1<0 then (bT t).1 else (bT s).1
def A6 (s t:Sg):Int × Int:=if j7 (bT t).2 (bT s).2<0 then (bT t).2 else (bT s).2
def aCy (o:Int):Int:=if o = -1 then 4 else if o=0 then 1 else 0
def R0 (a b c d:Int):Int :=
 if 0<a*b∨0<c*d then 0
 else if (c=0∨d=0)∧(a=0∨b=0) then 1
 else if (c=0∨d=0)∨(a=0∨b=0) then 2
 else 3
def rD (s t:Sg):Int :=
 if aZ s.1 s.2 t.1=0∧aZ s.1 s.2 t.2=0 then aCy (j7 (MG s t) (A6 s t))
 else R0 (aZ s.1 s.2 t.1) (aZ s.1 s.2 t.2) (aZ t.1 t.2 s.1) (aZ t.1 t.2 s.2)
def u8 (n:Int):Value:=.int .u8 n
theorem wW (a b:Int × Int):j7 a b = -1∨j7 a b=0∨j7 a b=1:=by
 unfold j7 XA iS;split <;> split <;> (try split) <;> (try split) <;> omega
theorem aCQ {o:Int}(h:o = -1∨o=0∨o=1){k:Nat}(hk:k=(o+1).toNat):nth [u8 4,u8 1,u8 0] k=some (u8 (aCy o)):=by
 subst hk;rcases h with rfl|rfl|rfl <;> rfl
theorem aD6 (a b:Int × Int):aA.A.fits .i64 (aA.A.add (j7 a b) 1)=true:=by
 rcases wW a b with e|e|e <;> rw [e] <;> rfl
theorem aFs (a b:Int × Int):aA.A.andB (aA.A.le 0 (aA.A.add (j7 a b) 1)) (aA.A.lt (aA.A.add (j7 a b) 1) (aA.A.num 3))=true:=by
 rcases wW a b with e|e|e <;> rw [e] <;> rfl
def X68:Nat × XF:=(189,gX (s2 cS cS fun s t=>(gM s&&gM t,u8 (rD s t))))
theorem x68:cE Go.Proofs.Tryz.prog X68.1 X68.2:=x2 cS cS (xl:=[X55,X74,aAi]) (.cons x55 (.cons x74 (.cons aCf .nil))) (fun _ _=>rfl) fun s t hp=>by
 obtain⟨⟨ax,ay⟩,⟨bx,b2⟩⟩:=s;obtain⟨⟨cx,cy⟩,⟨dx,dy⟩⟩:=t;have l1:=lG (ax,ay) (bx,b2) (cx,cy);have l2:=lG (ax,ay) (bx,b2) (dx,dy);have l3:=lG (cx,cy) (dx,dy) (ax,ay);have l4:=lG (cx,cy) (dx,dy) (bx,b2);have m1:=uR (A:=1) (B:=1) l1.1 l1.2 l2.1 l2.2;have m2:=uR (A:=1) (B:=1) l3.1 l3.2 l4.1 l4.2;simp only [gM,Bool.and_eq_true] at hp;unfold cT
 repeat' (conv=>whnf
          refine bm (fun h=>?_) (fun h=>?_))
 all_goals (try (refine iL (aCQ (wW _ _) (by show 0+(_+1:Int).toNat*1=_;rw [Nat.zero_add,Nat.mul_one])) ?_))
 all_goals (try (conv=>whnf))
 all_goals (clear l3 l4)
 all_goals first
  |(show _=_
    simp only [oZ,K9,nN,HV,iQ,iB,tP,kV,R9,oK,aH,B6,Bool.and_eq_true,beq_iff_eq,beq_eq_false_iff_ne,ne_eq,decide_eq_true_eq,decide_eq_false_iff_not,not_and,Bool.not_eq_true',Bool.not_eq_false'] at *;simp only [rD,R0,MG,A6]
    simp_all [u8,iv]
    done)
  |(show _=_
    simp only [nN,HV,iB,B6,beq_iff_eq,decide_eq_true_eq,decide_eq_false_iff_not] at *;simp only [rD,MG,A6, *,and_self,if_true,if_false]
    done)
  |(rw [aD6] at h;cases h)
  |(rw [aFs] at h;cases h)
  |(simp [hp] at h;done)
  |(simp only [K9,iQ,aH,B6,Bool.eq_false_iff,ne_eq,Bool.and_eq_true,decide_eq_true_eq] at h;omega)
  |skip
 trace_state
def U0 (n a b:Int):Bool:=decide ((if b<a then b else a)≤n)&&decide (n≤(if a<b then b else a))
def aFE:Nat × XF:=(247,gX (s3 cI cI cI fun n a b=>(true,.bool (U0 n a b))))
theorem aJD:cE Go.Proofs.Tryz.prog aFE.1 aFE.2:=x3 cI cI cI (xl:=[]) .nil (fun _ _ _=>rfl) fun n a b _=>by
 unfold cT
 repeat' (conv=>whnf
          refine bm (fun h=>?_) (fun h=>?_))
 all_goals (conv=>whnf)
 all_goals (simp only [aA,aC] at *;(try simp at h);(try simp);simp_all [U0] <;> omega)
def oU (p:Int × Int)(s:Sg):Bool:=U0 p.1 s.1.1 s.2.1&&U0 p.2 s.1.2 s.2.2&&decide (aZ s.1 s.2 p=0)
def X67:Nat × XF:=(223,gX (s2 cP cS fun p s=>(wide p&&gM s,.bool (oU p s))))
theorem x67:cE Go.Proofs.Tryz.prog X67.1 X67.2:=x2 cP cS (xl:=[aFE,X57]) (.cons aJD (.cons x57 .nil)) (fun _ _=>rfl) fun p s hp=>by
 obtain⟨px,py⟩:=p;obtain⟨⟨ax,ay⟩,⟨bx,b_y⟩⟩:=s;simp only [gM,Bool.and_eq_true] at hp;unfold cT
 repeat' (conv=>whnf
          refine bm (fun h=>?_) (fun h=>?_))
 all_goals (conv=>whnf)
 all_goals (simp only [aA,aC,B6] at *;(try simp at h);(try simp);(try simp_all [oU]))
def X66:Nat × XF:=(222,gX (s1 cS fun s=>(true,.bool (dQ s))))
theorem x66:cE Go.Proofs.Tryz.prog X66.1 X66.2:=x1 cS (xl:=[X56]) (.cons x56 .nil) (fun _=>rfl) fun s _=>by
 obtain⟨⟨ax,ay⟩,⟨bx,b_y⟩⟩:=s;unfold cT
 repeat' (conv=>whnf
          refine bm (fun h=>?_) (fun h=>?_))
 all_goals (conv=>whnf)
 all_goals (simp [aA,aC,jE] at *;simp [dQ,jE, *])
theorem wY (a b:Int × Int):j7 a b≤0↔a.1<b.1∨(a.1=b.1∧a.2≤b.2):=by
 unfold j7 XA iS;split <;> split <;> (try split) <;> (try split) <;> omega
theorem lW (a b c:Int × Int):aZ a b c=0↔bB a b c=0:=by
 unfold aZ U2;split <;> (try split) <;> omega
theorem RQ (p:Int × Int)(s:Sg)(h:dQ s=true):onS p s=oU p s:=by
 obtain⟨px,py⟩:=p;obtain⟨⟨ax,ay⟩,⟨bx,b2⟩⟩:=s;have hne:¬ (ax=bx∧ay=b2):=by
  simp only [dQ,jE,Bool.and_eq_true,Bool.not_eq_true',Bool.and_true,Bool.and_eq_false_imp,decide_eq_true_eq,decide_eq_false_iff_not] at h;intro⟨e1,e2⟩;exact h.2 e1 e2
 clear h;unfold onS oU GR;by_cases hc:aZ (ax,ay) (bx,b2) (px,py)=0
 ·have hcr:=(lW _ _ _).1 hc;simp only [bB] at hcr;rw [decide_eq_true hc,Bool.true_and,Bool.and_true,Bool.eq_iff_iff];simp only [U0,Bool.and_eq_true,decide_eq_true_eq,wY];by_cases h1:ax<bx
  ·have he:bT ((ax,ay),(bx,b2))=((ax,ay),(bx,b2)):=by
    unfold bT;rw [if_neg];have:=(wY (ax,ay) (bx,b2)).2 (.inl h1);simp only at *;omega
   rw [he];have hb:=S7 (ax:=ax) (ay:=ay) (bx:=bx) (b2:=b2) (px:=px) (py:=py) (by omega) h1;simp only at *;rw [hb];omega
  ·by_cases h2:bx<ax
   ·have he:bT ((ax,ay),(bx,b2))=((bx,b2),(ax,ay)):=by
     unfold bT;rw [if_pos];have:=(wY (ax,ay) (bx,b2));simp only at *;omega
    rw [he];have hsw:=O3 (ax,ay) (bx,b2) (px,py);simp only [bB] at hsw;have hb:=S7 (ax:=bx) (ay:=b2) (bx:=ax) (b2:=ay) (px:=px) (py:=py) (by omega) h2;simp only at *;rw [hb];omega
   ·have hx:ax=bx:=(by omega);subst hx;have hE:b2 - ay≠0:=(by omega);rw [Int.sub_self,Int.zero_mul] at hcr;have ht:px - ax=0:=aAY (D:=b2 - ay) (by omega) hE;have hpx:px=ax:=(by omega);subst hpx;by_cases h3:ay<b2
    ·have he:bT ((px,ay),(px,b2))=((px,ay),(px,b2)):=by
      unfold bT;rw [if_neg];have:=(wY (px,ay) (px,b2)).2 (.inr ⟨rfl,by omega⟩);simp only at *;omega
     rw [he];have h4:¬ (b2<ay):=(by omega);simp only [Int.lt_irrefl,if_false,h3,h4,if_true];simp
    ·have he:bT ((px,ay),(px,b2))=((px,b2),(px,ay)):=by
      unfold bT;rw [if_pos];have:=(wY (px,ay) (px,b2));simp only at *;omega
     rw [he];have h4:b2<ay:=(by omega);simp only [Int.lt_irrefl,if_false,h3,h4,if_true];simp
 ·simp [hc]
end Go.Aw
end

noncomputable section
namespace Go.Aw
open Go.RowKit
def mv (k0 q:Nat):Nat→Nat:=fun k=>match Nat.beq k k0 with|true=>q|false=>k
theorem MI {k0 q k:Nat}(h:k≠k0):mv k0 q k=k:=by
 unfold mv;split
 ·rename_i hb;exact absurd (beq_true hb) h
 ·rfl
theorem aDC (k0 q:Nat):mv k0 q k0=q:=by
 unfold mv;rw [Nat.beq_refl]
theorem iU {b n0 nx:Nat}{I:KS}{e0 e:List (Nat × Value)}{h0 h:Heap}(k0 q:Nat)(hb:b≤k0)(hbn:b≤n0)(hI:I e0 h0 n0)(he:∀ p∈e0,look e p.1=some (jH (mv k0 q) p.2)∧BM n0 p.2)
  (hh:∀ p∈h0,p.1<n0∧∃ o',look h (mv k0 q p.1)=some o'∧bU (mv k0 q) n0 p.2 o') (hq:∀ p∈h0,p.1≠k0→p.1≠q):qJ b I e h nx:=by
 refine⟨e0,h0,n0,mv k0 q,hI,fun t v hv=>he (t,v) (a8 hv),fun k o hk=>hh (k,o) (a8 hk),fun k k' o o' hk hk' e=>?_,fun k hk=>MI (by omega),hbn⟩;by_cases h1:k=k0
 ·by_cases h2:k'=k0
  ·rw [h1,h2]
  ·subst h1;rw [aDC,MI h2] at e;exact absurd e.symm (hq (k',o') (a8 hk') h2)
 ·by_cases h2:k'=k0
  ·subst h2;rw [aDC,MI h1] at e;exact absurd e (hq (k,o) (a8 hk) h1)
  ·rw [MI h1,MI h2] at e;exact e
def j5:Option Int→Value→Value
 |none,v=>v
 |some e,v=>.tuple #[v,.int .i64 e]
section
variable {α:Type}(E:El α)
def fX (s:List Value→Option (Bool × List α × Option Int)):XF:=fun args h nx K=>match s args with
 |some p=>dE p.1 (match p.2.1 with
  |[]=>K (j5 p.2.2 (.slice none 0 0)) h nx
  |a::r=>K (j5 p.2.2 (.slice (some ⟨nx,0,none⟩) (a::r).length (a::r).length)) (bM h nx (.cells true false E.sz (flat E.fl (a::r)))) (nx+1))
 |none=>False
def Yields (l:List α)(e:Option Int):KE:=fun v h _=>match l with
 |[]=>v=j5 e (.slice none 0 0)
 |a::r=>∃ q,v=j5 e (.slice (some ⟨q,0,none⟩) (a::r).length (a::r).length)∧look h q=some (.cells true false E.sz (flat E.fl (a::r)))
theorem uI {ρ:Nat→Nat}(e:Option Int){k n c:Nat}:jH ρ (j5 e (.slice (some ⟨k,0,none⟩) n c))=j5 e (.slice (some ⟨ρ k,0,none⟩) n c):=by
 cases e with
 |none=>rfl
 |some e=>simp [j5,jH,tr,dO,bS,dS,lH]
theorem tZ (e:Option Int):gT (j5 e (.slice none 0 0))=true:=by cases e <;> rfl
theorem N0 (e:Option Int)(n c:Nat):BM 1 (j5 e (.slice (some ⟨0,0,none⟩) n c)):=by
 cases e with
 |none=>exact⟨Nat.one_pos,fun h=>by cases h⟩
 |some e =>
  intro v hv;simp at hv;rcases hv with rfl|rfl
  ·exact⟨Nat.one_pos,fun h=>by cases h⟩
  ·trivial
theorem aIf {P:Program}{C:VC}{f:Nat}{s:List Value→Option (Bool × List α × Option Int)}(hC:bE P C)
  (hs:∀ args l e,s args=some (true,l,e)→dU args=true∧C f args [] 0 (Yields E l e)):cE P f (fX E s):=by
 refine (gF (S:=fun args0 h0 n0 v1 h1 m=>∃ l e,s args0=some (true,l,e)∧h0=[]∧n0=0∧(match l with
  |[]=>v1=j5 e (.slice none 0 0)∧h1=[]∧m=0
  |a::r=>v1=j5 e (.slice (some ⟨0,0,none⟩) (a::r).length (a::r).length)∧h1=[(0,.cells true false E.sz (flat E.fl (a::r)))]∧m=1)) hC ?_).mono ?_ ?_
 ·rintro args0 h0 n0 v1 h1 m ⟨l,e,e1,rfl,rfl,hl⟩;obtain⟨a1,a2⟩:=hs args0 l e e1;cases l with
  |nil =>
   obtain⟨rfl,rfl,rfl⟩:=hl;exact⟨rfl,_,a2,fun v h nx hv=>by rw [show v=_ from hv];exact kP (tZ e)⟩
  |cons a r =>
   obtain⟨rfl,rfl,rfl⟩:=hl;refine⟨rfl,_,a2,fun v h nx hv=>?_⟩;obtain⟨q,rfl,hq⟩:=hv;refine⟨fun _=>q,⟨fun t u hu=>?_,fun k o hk=>?_,fun k k' o o' hk hk' _=>?_,fun k hk=>absurd hk (Nat.not_lt_zero k),Nat.zero_le _⟩⟩
   ·rw [aD] at hu;split at hu
    ·rename_i hb;injection hu with hu;subst hu;exact⟨by rw [aD,hb,uI],N0 e _ _⟩
    ·exact bX hu
   ·rw [aD] at hk;split at hk
    ·rename_i hb;injection hk with hk;subst hk;exact⟨by rw [← beq_true hb];exact Nat.one_pos,_,hq,aM (aI E _)⟩
    ·exact bX hk
   ·rw [aD] at hk hk';split at hk
    ·rename_i hb1;split at hk'
     ·rename_i hb2;exact (beq_true hb1).symm.trans (beq_true hb2)
     ·exact bX hk'
    ·exact bX hk
 ·intro args h nx K hx;unfold fX at hx;split at hx
  case h_2=>exact hx.elim
  rename_i p e1;obtain⟨b,l,e⟩:=p;obtain⟨rfl,hx⟩:=aF.1 hx;obtain⟨a1,a2⟩:=hs args l e e1;cases l with
  |nil =>
   refine⟨args,[],0,_,[],0,⟨[],e,e1,rfl,rfl,rfl,rfl,rfl⟩,aG2 fun u hu=>bY a1 hu,?_⟩;simp only [nT,rI,l8,kC,pQ (tZ e),Nat.add_zero];exact hx
  |cons a r =>
   refine⟨args,[],0,_,[(0,.cells true false E.sz (flat E.fl (a::r)))],1,⟨a::r,e,e1,rfl,rfl,rfl,rfl,rfl⟩,aG2 fun u hu=>bY a1 hu,?_⟩;have hm:(flat E.fl (a::r)).map (bO (fun k=>nx+k))=flat E.fl (a::r):=cB (aI E _);simp only [nT,rI,UO,Bool.and_self,l8,R8,hm,uI,Nat.add_zero];exact hx
 ·intro args h nx K hx;unfold fX at hx;split at hx
  case h_2=>exact hx.elim
  rename_i p e1;obtain⟨hb,hx⟩:=aF.1 hx;cases hl:p.2.1 with
  |nil =>
   rw [hl] at hx;exact⟨_,_,_,hx,fun K' hk=>by unfold fX;rw [e1];simp only [hl];exact aJ hb hk⟩
  |cons a r =>
   rw [hl] at hx;exact⟨_,_,_,hx,fun K' hk=>by unfold fX;rw [e1];simp only [hl];exact aJ hb hk⟩
end
end Go.Aw
end

namespace Go.Aw
theorem par {ex ey ux uy wx wy:Int}(h:ex*uy=ey*ux):ex*(wx*uy - wy*ux)=ux*(wx*ey - wy*ex):=by
 have h1:ex*(wx*uy)=wx*(ey*ux):=(by rw [← h,← Int.mul_assoc,Int.mul_comm ex wx,Int.mul_assoc]);rw [Int.mul_sub,Int.mul_sub,h1];congr 1
 ·rw [← Int.mul_assoc,Int.mul_comm (wx*ey),← Int.mul_assoc,Int.mul_comm ux]
 ·rw [← Int.mul_assoc,Int.mul_comm ex,Int.mul_assoc,Int.mul_comm ex,← Int.mul_assoc,Int.mul_comm wy,Int.mul_assoc]
theorem aHy {ex ux q r:Int}(he:0<ex)(h:ex*q=ux*r)(hne:¬ (q=0∧r - q=0)):(0≤ux∧ux≤ex)↔(0≤q*(r - q)):=by
 have hr:r≠0:=by
  intro hr;subst hr;rw [Int.mul_zero] at h;have:q=0:=by
   rcases Int.mul_eq_zero.1 h with h|h
   ·omega
   ·exact h
  exact hne ⟨this,by omega⟩
 have e2:ex*(r - q)=(ex - ux)*r:=(by rw [Int.mul_sub,Int.sub_mul,h]);have key:(ex*ex)*(q*(r - q))=(ux*(ex - ux))*(r*r):=by
  calc (ex*ex)*(q*(r - q))=(ex*q)*(ex*(r - q)):=by rw [Int.mul_assoc,Int.mul_assoc,← Int.mul_assoc ex q,Int.mul_comm ex q,Int.mul_assoc q ex]
   _=(ux*r)*((ex - ux)*r):=by rw [h,e2]
   _=(ux*(ex - ux))*(r*r):=by rw [Int.mul_assoc,Int.mul_assoc,← Int.mul_assoc r,Int.mul_comm r (ex - ux),Int.mul_assoc (ex - ux)]
 have hrr:0<r*r:=by
  rcases Int.lt_or_gt_of_ne hr with h|h
  ·exact Int.mul_pos_of_neg_of_neg h h
  ·exact Int.mul_pos h h
 have hee:0<ex*ex:=Int.mul_pos he he;constructor
 ·intro⟨h1,h2⟩;have h3:0≤(ux*(ex - ux))*(r*r):=Int.mul_nonneg (Int.mul_nonneg h1 (by omega)) (by omega);rw [← key] at h3;by_cases hq:0≤q*(r - q)
  ·exact hq
  ·have:(ex*ex)*(q*(r - q))<0:=Int.mul_neg_of_pos_of_neg hee (by omega);omega
 ·intro hq;have h3:0≤(ex*ex)*(q*(r - q)):=Int.mul_nonneg (by omega) hq;rw [key] at h3;have h4:0≤ux*(ex - ux):=by
   by_cases h4:0≤ux*(ex - ux)
   ·exact h4
   ·have:(ux*(ex - ux))*(r*r)<0:=Int.mul_neg_of_neg_of_pos (by omega) hrr;omega
  constructor
  ·by_cases h5:0≤ux
   ·exact h5
   ·have:ux*(ex - ux)<0:=Int.mul_neg_of_neg_of_pos (by omega) (by omega);omega
  ·by_cases h5:ux≤ex
   ·exact h5
   ·have:ux*(ex - ux)<0:=Int.mul_neg_of_pos_of_neg (by omega) (by omega);omega
end Go.Aw

namespace Go.Aw
theorem J9 {a b:Int}(ha:0<a)(h:0≤a*b):0≤b:=by
 by_cases hb:0≤b
 ·exact hb
 ·have:a*b<0:=Int.mul_neg_of_pos_of_neg ha (by omega);omega
theorem aJw {ex ey ux uy:Int}(he:0<ex)(h:ex*uy=ey*ux)(h0:0≤ux)(h1:ux≤ex):(0≤ey→0≤uy∧uy≤ey)∧(ey≤0→ey≤uy∧uy≤0):=by
 have e2:ex*(ey - uy)=ey*(ex - ux):=by
  rw [Int.mul_sub,Int.mul_sub,h,Int.mul_comm ex ey]
 constructor
 ·intro hy;constructor
  ·exact J9 he (by rw [h];exact Int.mul_nonneg hy h0)
  ·have:=J9 he (show 0≤ex*(ey - uy) by rw [e2];exact Int.mul_nonneg hy (by omega));omega
 ·intro hy;constructor
  ·have:0≤ex*(uy - ey):=by
    have:ex*(uy - ey)=(-ey)*(ex - ux):=by
     rw [Int.neg_mul,← e2,← Int.mul_neg];congr 1;omega
    rw [this];exact Int.mul_nonneg (by omega) (by omega)
   have:=J9 he this;omega
  ·have:0≤ex*(-uy):=by
    rw [Int.mul_neg,h,← Int.neg_mul];exact Int.mul_nonneg (by omega) h0
   have:=J9 he this;omega
def LB (e u:Int):Prop:=(if 0<e then 0 else e)≤u∧u≤(if e<0 then 0 else e)
theorem CJ {e u:Int}:LB (-e) (-u)↔LB e u:=by
 unfold LB;split <;> split <;> split <;> split <;> omega
theorem aBl {e u:Int}(h:0<e):LB e u↔(0≤u∧u≤e):=by
 unfold LB;split <;> split <;> omega
theorem wU {ex ey ux uy q r:Int}(he:0<ex)(h:ex*uy=ey*ux)(h1:ex*q=ux*r)(hne:¬ (q=0∧r - q=0)):(LB ex ux∧LB ey uy)↔0≤q*(r - q):=by
 rw [← aHy he h1 hne,aBl he];constructor
 ·exact fun h=>h.1
 ·intro h2;refine⟨h2,?_⟩;obtain⟨k1,k2⟩:=aJw he h h2.1 h2.2;unfold LB;by_cases hy:0≤ey
  ·have:=k1 hy;split <;> split <;> omega
  ·have:=k2 (by omega);split <;> split <;> omega
theorem aCC {ex ey ux uy q r:Int}(he:¬ (ex=0∧ey=0))(h:ex*uy=ey*ux)(h1:ex*q=ux*r)(h2:ey*q=uy*r)(hne:¬ (q=0∧r - q=0)):(LB ex ux∧LB ey uy)↔0≤q*(r - q):=by
 by_cases a1:0<ex
 ·exact wU a1 h h1 hne
 ·by_cases a2:ex<0
  ·rw [← CJ (e:=ex),← CJ (e:=ey)];exact wU (by omega) (by rw [Int.neg_mul_neg,Int.neg_mul_neg,h]) (by rw [Int.neg_mul,Int.neg_mul,h1]) hne
  ·by_cases a3:0<ey
   ·rw [And.comm];exact wU a3 h.symm h2 hne
   ·rw [← CJ (e:=ex),← CJ (e:=ey),And.comm];exact wU (by omega) (by rw [Int.neg_mul_neg,Int.neg_mul_neg,h]) (by rw [Int.neg_mul,Int.neg_mul,h2]) hne
theorem once {ex ey wx wy vx vy:Int}(hd:ex*wy - ey*wx≠0)(h1:ex*vy=ey*vx)(h2:wx*vy=wy*vx):vx=0∧vy=0:=by
 constructor
 ·have:(ex*wy - ey*wx)*vx=0:=by
   rw [Int.sub_mul,Int.mul_assoc,← h2,Int.mul_right_comm ey,← h1,Int.mul_assoc,Int.mul_comm vy,Int.sub_self]
  rcases Int.mul_eq_zero.1 this with h|h
  ·exact absurd h hd
  ·exact h
 ·have:(ex*wy - ey*wx)*vy=0:=by
   rw [Int.sub_mul,Int.mul_assoc ey,h2,Int.mul_right_comm ex,h1,← Int.mul_assoc,Int.mul_right_comm ey,Int.sub_self]
  rcases Int.mul_eq_zero.1 this with h|h
  ·exact absurd h hd
  ·exact h
theorem para {ex ey wx wy vx vy:Int}(hw:¬ (wx=0∧wy=0))(h1:wx*ey=wy*ex)(h2:wx*vy=wy*vx):ex*vy=ey*vx:=by
 have k1:wx*(ex*vy - ey*vx)=0:=by
  rw [Int.mul_sub,← Int.mul_assoc,Int.mul_right_comm,h2,← Int.mul_assoc,h1,Int.mul_right_comm,Int.sub_self]
 have k2:wy*(ex*vy - ey*vx)=0:=by
  rw [Int.mul_sub,← Int.mul_assoc,← h1,Int.mul_left_comm wy,← h2,Int.mul_left_comm ey,Int.mul_assoc,Int.sub_self]
 by_cases h:wx=0
 ·rcases Int.mul_eq_zero.1 k2 with h'|h'
  ·exact absurd ⟨h,h'⟩ hw
  ·omega
 ·rcases Int.mul_eq_zero.1 k1 with h'|h'
  ·exact absurd h' h
  ·omega
end Go.Aw
