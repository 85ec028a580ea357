/-
  Parts of a proof. No condition.
-/
import Derived.Test.YtoekkmbbbllogaaGreatQAq
import Derived.Test.YtoekkmbbbllogaaGreatQAt
import Derived.Test.YtoekkmbbbllogaaGreatQAu
set_option linter.unusedSimpArgs false
set_option linter.unusedVariables false
noncomputable section
namespace Go.Aw
set_option maxRecDepth 100000
def firstBad:List (Int × Int)→Nat→Int
 |[],_=>-1
 |p::r,i=>if rightS p then firstBad r (i+1) else i
def fn100:Value:=.func (.func 94) #[] #[]
def S132 (l:List (Int × Int)):List Value→Option (Bool × Value)
 |[.func (.func 94) ⟨[]⟩ ⟨[]⟩]=>some (decide (l.length≤1000000000),iv (firstBad l 0))
 |_=>none
theorem S132_inv {l:List (Int × Int)}{r:List Value}{v:Value}(h:S132 l r=some (true,v)):r=[fn100]∧l.length≤1000000000∧v=iv (firstBad l 0):=by
 unfold S132 at h
 split at h
 ·injection h with h
  injection h with h1 h2
  exact⟨rfl,by simpa using h1,h2.symm⟩
 ·cases h
def X132:Nat × XF:=(117,lX elP S132)
theorem x132:XOK Go.Proofs.Tryz.prog X132.1 X132.2:=lX_ok elP (body_calls (xl:=[X100]) (.cons x100 .nil)) fun l r v hs=>by
 obtain⟨rfl,hlen,rfl⟩:=S132_inv hs
 refine⟨rfl,rfl,fun c=>?_⟩
 conv=>whnf
 refine⟨fun n e h nx=>∃ (i:Nat) (j:Int),j=i∧i≤l.length∧n=l.length - i∧firstBad l 0=firstBad (l.drop i) i ∧
  e=[(0,.slice (some ⟨0,0,none⟩) l.length c),(1,fn100),(7,iv l.length),(8,iv j)]∧h=[(0,.cells false true 2 (flat elP.fl l))]∧nx=1,⟨l.length,?_⟩,?_⟩
 ·refine Into_id (e0:=[(0,.slice (some ⟨0,0,none⟩) l.length c),(1,fn100),(7,iv l.length),(8,iv 0)]) (h0:=[(0,.cells false true 2 (flat elP.fl l))]) (n0:=1)
   ⟨0,0,rfl,Nat.zero_le _,rfl,rfl,rfl,rfl,rfl⟩ ?_ ?_ (Nat.le_refl _)
  ·exact List.forall_mem_cons.2 ⟨⟨rfl,Nat.one_pos,fun h=>(by cases h)⟩,List.forall_mem_cons.2 ⟨⟨(by show _=some (ren id fn100);rw [ren_g (show gT fn100=true from rfl)];rfl),scT_g rfl⟩,List.forall_mem_cons.2 ⟨⟨rfl,scT_g rfl⟩,List.forall_mem_cons.2 ⟨⟨rfl,scT_g rfl⟩,fun _ h=>(by cases h)⟩⟩⟩⟩
  ·exact List.forall_mem_cons.2 ⟨⟨Nat.one_pos,_,rfl,ObjRen_g (flat_g elP l)⟩,fun _ h=>(by cases h)⟩
 ·rintro n e h nx ⟨i,j,hj,hi,rfl,hb,rfl,rfl,rfl⟩
  conv=>whnf
  refine bm (fun h1=>?_) (fun h1=>?_)
  ·have hlt:i<l.length:=by simp [cfgS,std] at h1;omega
   conv=>whnf
   refine bm (fun h2=>?_) (fun h2=>?_)
   ·conv=>whnf
    refine boL (flat_get elP l hlt ?ho) ?_
    case ho=>simp [cfgS,std,elP,hj]
    have hd:l.drop i=l[i]::l.drop (i+1):=List.drop_eq_getElem_cons hlt
    rw [hd] at hb
    generalize l[i]=p at hb
    obtain⟨x,y⟩:=p
    conv=>whnf
    refine bm (fun h3=>?_) (fun h3=>?_)
    ·conv=>whnf
     simp only [Bool.not_eq_true'] at h3
     rw [hb,hj]
     simp only [firstBad,h3]
     rfl
    ·conv=>whnf
     refine bm (fun h4=>?_) (fun h4=>?_)
     ·conv=>whnf
      simp only [Bool.not_eq_false'] at h3
      refine⟨l.length - (i+1),by omega,?_⟩
      refine Into_id (e0:=[(0,.slice (some ⟨0,0,none⟩) l.length c),(1,fn100),(7,iv l.length),(8,iv (j+1))]) (h0:=[(0,.cells false true 2 (flat elP.fl l))]) (n0:=1)
       ⟨i+1,j+1,by omega,hlt,rfl,?_,rfl,rfl,rfl⟩ ?_ ?_ (Nat.le_refl _)
      ·rw [hb];simp only [firstBad,h3,if_true]
      ·exact List.forall_mem_cons.2 ⟨⟨rfl,Nat.one_pos,fun h=>(by cases h)⟩,List.forall_mem_cons.2 ⟨⟨(by show _=some (ren id fn100);rw [ren_g (show gT fn100=true from rfl)];rfl),scT_g rfl⟩,List.forall_mem_cons.2 ⟨⟨rfl,scT_g rfl⟩,List.forall_mem_cons.2 ⟨⟨rfl,scT_g rfl⟩,fun _ h=>(by cases h)⟩⟩⟩⟩
      ·exact List.forall_mem_cons.2 ⟨⟨Nat.one_pos,_,rfl,ObjRen_g (flat_g elP l)⟩,fun _ h=>(by cases h)⟩
     ·simp [cfgS,std,fitsK] at h4
      omega
   ·simp [cfgS,std] at h2
    omega
  ·have hlt:l.length≤i:=by simp [cfgS,std] at h1;omega
   conv=>whnf
   rw [hb,List.drop_eq_nil_of_le hlt]
   rfl
theorem firstBad_all:∀ (l:List (Int × Int)) (i:Nat),decide (0≤firstBad l i)=!(l.all rightS)
 |[],i=>rfl
 |p::r,i=>by
  by_cases hp:rightS p=true
  ·simp only [firstBad,List.all_cons,hp,if_true,Bool.true_and]
   exact firstBad_all r (i+1)
  ·have hp':rightS p=false:=by simpa using hp
   simp [firstBad,List.all_cons,hp']
def S99 (l:List (Int × Int)):List Value→Option (Bool × Value)
 |[.func (.func 94) ⟨[]⟩ ⟨[]⟩]=>some (decide (l.length≤1000000000),.bool (!(l.all rightS)))
 |_=>none
theorem S99_inv {l:List (Int × Int)}{r:List Value}{v:Value}(h:S99 l r=some (true,v)):r=[fn100]∧l.length≤1000000000∧v=.bool (!(l.all rightS)):=by
 unfold S99 at h
 split at h
 ·injection h with h
  injection h with h1 h2
  exact⟨rfl,by simpa using h1,h2.symm⟩
 ·cases h
theorem LsAt_own {α:Type}(E:El α){l:List α}{c:Nat}{wr g:Bool}{sz:Nat}{h:Heap}(hk:look h 0=some (.cells wr g sz (flat E.fl l))):LsAt E h (.slice (some ⟨0,0,none⟩) l.length c) l :=
 ⟨rfl,wr,g,sz,_,hk,by rw [List.drop_zero,List.take_length]⟩
def X99:Nat × XF:=(93,lX elP S99)
theorem x99:XOK Go.Proofs.Tryz.prog X99.1 X99.2:=lX_ok elP (body_calls (xl:=[X132]) (.cons x132 .nil)) fun l r v hs=>by
 obtain⟨rfl,hlen,rfl⟩:=S99_inv hs
 refine⟨rfl,rfl,fun c=>?_⟩
 conv=>whnf
 refine⟨l,LsAt_own elP rfl,?_⟩
 conv=>whnf
 refine bm (fun h1=>?_) (fun h1=>?_)
 ·conv=>whnf
  rw [← firstBad_all l 0]
  rfl
 ·exact absurd hlen (by simpa using h1)
def S54 (l:List (Int × Int)):List Value→Option (Bool × Value)
 |[]=>some (decide (l.length≤1000000000),.bool (l.all rightS))
 |_=>none
theorem S54_inv {l:List (Int × Int)}{r:List Value}{v:Value}(h:S54 l r=some (true,v)):r=[]∧l.length≤1000000000∧v=.bool (l.all rightS):=by
 unfold S54 at h
 split at h
 ·injection h with h
  injection h with h1 h2
  exact⟨rfl,by simpa using h1,h2.symm⟩
 ·cases h
def X54:Nat × XF:=(40,lX elP S54)
theorem x54:XOK Go.Proofs.Tryz.prog X54.1 X54.2:=lX_ok elP (body_calls (xl:=[X99]) (.cons x99 .nil)) fun l r v hs=>by
 obtain⟨rfl,hlen,rfl⟩:=S54_inv hs
 refine⟨rfl,rfl,fun c=>?_⟩
 conv=>whnf
 refine⟨l,LsAt_own elP rfl,?_⟩
 conv=>whnf
 refine bm (fun h1=>?_) (fun h1=>?_)
 ·conv=>whnf
  simp [cfgS,std]
 ·exact absurd hlen (by simpa using h1)
def X15:Nat × XF:=(34,gX (s3P fun a b c=>(true,iv (tS a b c))))
theorem x15:XOK Go.Proofs.Tryz.prog X15.1 X15.2:=x3P (xl:=[X54,X55]) (.cons x54 (.cons x55 .nil)) (fun _ _ _=>rfl) fun a b c hp=>by
 obtain⟨ax,ay⟩:=a
 obtain⟨bx,b_y⟩:=b
 obtain⟨cx,cy⟩:=c
 unfold Does1
 conv=>whnf
 refine⟨[(ax,ay),(bx,b_y),(cx,cy)],⟨rfl,_,_,_,_,rfl,rfl⟩,?_⟩
 repeat' (conv=>whnf
          refine bm (fun h=>?_) (fun h=>?_))
 all_goals (conv=>whnf)
 all_goals (clear hp;simp only [cfgS,std,tS] at *;simp at *)
 all_goals (cases ha:rightS (ax,ay) <;> cases hb:rightS (bx,b_y) <;> cases hc:rightS (cx,cy) <;> simp_all [rightS_wide,iv])
end Go.Aw
end

noncomputable section
namespace Go.Aw
set_option maxRecDepth 100000
def s0 (v:Value):List Value→Option (Bool × Value)
 |[]=>some (true,v)
 |_=>none
def X19:Nat × XF:=(8,gX (s0 (.bool true)))
theorem turn_low (a b c:Int × Int) : -1≤turnS a b c∧turnS a b c≤1:=by
 unfold turnS sgn
 split <;> (try split) <;> omega
end Go.Aw
end

noncomputable section
namespace Go.Aw
set_option maxRecDepth 100000
structure Cd (α:Type) where
 dec:Value→Option α
 enc:α→Value
 ok:∀ v a,dec v=some a→v=enc a
 gr:∀ a,gA (enc a)=true
def cP:Cd (Int × Int):=⟨decP,ptv,fun _ _ h=>decP_eq h,fun _=>rfl⟩
abbrev Sg:=(Int × Int) × (Int × Int)
def sgv (s:Sg):Value:=.agg #[iv s.1.1,iv s.1.2,iv s.2.1,iv s.2.2]
def decS:Value→Option Sg
 |.agg ⟨[.int .i64 a,.int .i64 b,.int .i64 c,.int .i64 d]⟩=>some ((a,b),(c,d))
 |_=>none
theorem decS_eq {v:Value}{s:Sg}(h:decS v=some s):v=sgv s:=by
 unfold decS at h
 split at h
 ·injection h with h;subst h;rfl
 ·cases h
def cS:Cd Sg:=⟨decS,sgv,fun _ _ h=>decS_eq h,fun _=>rfl⟩
section
variable {α β γ:Type}(a:Cd α)(b:Cd β)(c:Cd γ)
def s1 (F:α→Bool × Value):List Value→Option (Bool × Value)
 |[u]=>(match a.dec u with|some x=>some (F x)|none=>none)
 |_=>none
def s2 (F:α→β→Bool × Value):List Value→Option (Bool × Value)
 |[u,v]=>(match a.dec u with|some x=>(match b.dec v with|some y=>some (F x y)|none=>none)|none=>none)
 |_=>none
def s3 (F:α→β→γ→Bool × Value):List Value→Option (Bool × Value)
 |[u,v,w]=>(match a.dec u with|some x=>(match b.dec v with|some y=>(match c.dec w with|some z=>some (F x y z)|none=>none)|none=>none)|none=>none)
 |_=>none
theorem s1_inv {F:α→Bool × Value}{args:List Value}{r:Bool × Value}(h:s1 a F args=some r):∃ x,args=[a.enc x]∧F x=r:=by
 unfold s1 at h
 split at h
 ·split at h
  ·rename_i x e
   injection h with h
   exact⟨x,by rw [a.ok _ _ e],h⟩
  ·cases h
 ·cases h
theorem s2_inv {F:α→β→Bool × Value}{args:List Value}{r:Bool × Value}(h:s2 a b F args=some r):∃ x y,args=[a.enc x,b.enc y]∧F x y=r:=by
 unfold s2 at h
 split at h
 ·split at h
  ·rename_i x e
   split at h
   ·rename_i y e2
    injection h with h
    exact⟨x,y,by rw [a.ok _ _ e,b.ok _ _ e2],h⟩
   ·cases h
  ·cases h
 ·cases h
theorem s3_inv {F:α→β→γ→Bool × Value}{args:List Value}{r:Bool × Value}(h:s3 a b c F args=some r):∃ x y z,args=[a.enc x,b.enc y,c.enc z]∧F x y z=r:=by
 unfold s3 at h
 split at h
 ·split at h
  ·rename_i x e
   split at h
   ·rename_i y e2
    split at h
    ·rename_i z e3
     injection h with h
     exact⟨x,y,z,by rw [a.ok _ _ e,b.ok _ _ e2,c.ok _ _ e3],h⟩
    ·cases h
   ·cases h
  ·cases h
 ·cases h
theorem x1 {xl:List (Nat × XF)}(hx:XLOK xl){f:Nat}{F:α→Bool × Value}(hg:∀ x,gT (F x).2=true)(h:∀ x,(F x).1=true→Does1 xl f [a.enc x] (F x).2):XOK Go.Proofs.Tryz.prog f (gX (s1 a F)) :=
 gX_ok (body_calls hx) fun args v hs=>by
  obtain⟨x,rfl,e⟩:=s1_inv a hs
  have h1:(F x).1=true:=by rw [e]
  have h2:(F x).2=v:=by rw [e]
  subst h2
  exact⟨by simp [allGA,a.gr],hg x,h x h1⟩
theorem x2 {xl:List (Nat × XF)}(hx:XLOK xl){f:Nat}{F:α→β→Bool × Value}(hg:∀ x y,gT (F x y).2=true)(h:∀ x y,(F x y).1=true→Does1 xl f [a.enc x,b.enc y] (F x y).2):XOK Go.Proofs.Tryz.prog f (gX (s2 a b F)) :=
 gX_ok (body_calls hx) fun args v hs=>by
  obtain⟨x,y,rfl,e⟩:=s2_inv a b hs
  have h1:(F x y).1=true:=by rw [e]
  have h2:(F x y).2=v:=by rw [e]
  subst h2
  exact⟨by simp [allGA,a.gr,b.gr],hg x y,h x y h1⟩
theorem x3 {xl:List (Nat × XF)}(hx:XLOK xl){f:Nat}{F:α→β→γ→Bool × Value}(hg:∀ x y z,gT (F x y z).2=true)(h:∀ x y z,(F x y z).1=true→Does1 xl f [a.enc x,b.enc y,c.enc z] (F x y z).2):XOK Go.Proofs.Tryz.prog f (gX (s3 a b c F)) :=
 gX_ok (body_calls hx) fun args v hs=>by
  obtain⟨x,y,z,rfl,e⟩:=s3_inv a b c hs
  have h1:(F x y z).1=true:=by rw [e]
  have h2:(F x y z).2=v:=by rw [e]
  subst h2
  exact⟨by simp [allGA,a.gr,b.gr,c.gr],hg x y z,h x y z h1⟩
end
def bodyF (xl:List (Nat × XF))(n:Nat):VC:=vbody cfgS (some n) (CX (look xl)) noY
theorem bodyF_calls {xl:List (Nat × XF)}(h:XLOK xl)(n:Nat):CallsOK Go.Proofs.Tryz.prog (bodyF xl n):=vbody_ok cfgS_ok (CX_ok h.look) noY_ok (CX_det h.look) noY_det (some n)
def elI:El Int:=⟨fun n=>[iv n],1,fun _=>rfl,fun _=>rfl,by decide⟩
def orI (a b:Int):Int:=if a=0 then b else a
def S114:List Int→List Value→Option (Bool × Value)
 |[a,b],[]=>some (true,iv (orI a b))
 |_,_=>none
def X114:Nat × XF:=(82,lX elI S114)
theorem x114:XOK Go.Proofs.Tryz.prog X114.1 X114.2:=lX_ok elI (bodyF_calls (xl:=[]) .nil 4) fun l r v hs=>by
 have:∃ a b,l=[a,b]∧r=[]∧v=iv (orI a b):=by
  unfold S114 at hs
  split at hs
  ·injection hs with hs;injection hs with _ h2;exact⟨_,_,rfl,rfl,h2.symm⟩
  ·cases hs
 obtain⟨a,b,rfl,rfl,rfl⟩:=this
 refine⟨rfl,rfl,fun c=>?_⟩
 repeat' (conv=>whnf
          refine bm (fun h=>?_) (fun h=>?_))
 all_goals (conv=>whnf)
 all_goals (simp only [cfgS,std,iv,orI] at *;simp at *)
 all_goals (try simp_all)
theorem pEta (p:Int × Int):(p.1,p.2)=p:=rfl
def ordS (a b:Int × Int):Int:=orI (cmpI a.1 b.1) (cmpI a.2 b.2)
def X106:Nat × XF:=(71,gX (s2 cP cP fun a b=>(true,iv (ordS a b))))
theorem x106:XOK Go.Proofs.Tryz.prog X106.1 X106.2:=x2 cP cP (xl:=[X101,X114]) (.cons x101 (.cons x114 .nil)) (fun _ _=>rfl) fun a b _=>by
 obtain⟨ax,ay⟩:=a
 obtain⟨bx,b_y⟩:=b
 unfold Does1
 conv=>whnf
 refine⟨[cmpI ax bx,cmpI ay b_y],⟨rfl,_,_,_,_,rfl,rfl⟩,?_⟩
 conv=>whnf
 rfl
def endsS (s:Sg):(Int × Int) × (Int × Int):=if 0<ordS s.1 s.2 then (s.2,s.1) else (s.1,s.2)
def X74:Nat × XF:=(78,gX (s1 cS fun s=>(true,.tuple #[ptv (endsS s).1,ptv (endsS s).2])))
theorem x74:XOK Go.Proofs.Tryz.prog X74.1 X74.2:=x1 cS (xl:=[X106]) (.cons x106 .nil) (fun _=>rfl) fun s _=>by
 obtain⟨⟨ax,ay⟩,⟨bx,b_y⟩⟩:=s
 unfold Does1
 repeat' (conv=>whnf
          refine bm (fun h=>?_) (fun h=>?_))
 all_goals (conv=>whnf)
 all_goals (simp only [cfgS,std,decide_eq_true_eq,decide_eq_false_iff_not] at h)
 ·simp [endsS,h,ptv,iv]
 ·simp [endsS,h,ptv,iv]
def betS (p:Int × Int)(s:Sg):Bool:=decide (ordS (endsS s).1 p≤0)&&decide (ordS p (endsS s).2≤0)
def X119:Nat × XF:=(114,gX (s2 cP cS fun p s=>(true,.bool (betS p s))))
theorem x119:XOK Go.Proofs.Tryz.prog X119.1 X119.2:=x2 cP cS (xl:=[X106,X74]) (.cons x106 (.cons x74 .nil)) (fun _ _=>rfl) fun p s _=>by
 obtain⟨px,py⟩:=p
 obtain⟨⟨ax,ay⟩,⟨bx,b_y⟩⟩:=s
 unfold Does1
 repeat' (conv=>whnf
          refine bm (fun h=>?_) (fun h=>?_))
 all_goals (conv=>whnf)
 all_goals (simp only [cfgS,std,pEta] at *;simp at h ⊢;simp [betS, *] <;> omega)
def wideS (s:Sg):Bool:=wide s.1&&wide s.2
def onS (p:Int × Int)(s:Sg):Bool:=decide (turnS s.1 s.2 p=0)&&betS p s
def X65:Nat × XF:=(84,gX (s2 cP cS fun p s=>(wide p&&wideS s,.bool (onS p s))))
theorem x65:XOK Go.Proofs.Tryz.prog X65.1 X65.2:=x2 cP cS (xl:=[X55,X119]) (.cons x55 (.cons x119 .nil)) (fun _ _=>rfl) fun p s hp=>by
 obtain⟨px,py⟩:=p
 obtain⟨⟨ax,ay⟩,⟨bx,b_y⟩⟩:=s
 simp only [wideS,Bool.and_eq_true] at hp
 unfold Does1
 repeat' (conv=>whnf
          refine bm (fun h=>?_) (fun h=>?_))
 all_goals (conv=>whnf)
 all_goals (simp only [cfgS,std,pEta] at *;(try simp at h);(try simp);(try simp_all [onS]))
def eqP (a b:Int × Int):Bool:=decide (a.1=b.1)&&(decide (a.2=b.2)&&true)
def rightG (s:Sg):Bool:=rightS s.1&&rightS s.2&&!(eqP s.1 s.2)
theorem rightG_wide {s:Sg}(h:rightG s=true):wideS s=true:=by
 simp only [rightG,wideS,Bool.and_eq_true] at *
 exact⟨rightS_wide h.1.1,rightS_wide h.1.2⟩
end Go.Aw
end

noncomputable section
namespace Go.Aw
set_option maxRecDepth 100000
theorem all_get {l:List (Int × Int)}(h:l.all rightS=true){i:Nat}(hi:i<l.length):rightS l[i]=true:=List.all_eq_true.1 h _ (List.getElem_mem hi)
end Go.Aw
end

noncomputable section
namespace Go.Aw
set_option maxRecDepth 100000
def mx (a b:Int):Int:=if a<b then b else a
theorem cA_add (a b:Int):cfgS.A.add a b=a+b:=rfl
theorem cA_sub (a b:Int):cfgS.A.sub a b=a - b:=rfl
theorem cA_mul (a b:Int):cfgS.A.mul a b=a*b:=rfl
theorem cA_neg (a:Int):cfgS.A.neg a=0 - a:=rfl
theorem cA_lt (a b:Int):cfgS.A.lt a b=decide (a<b):=rfl
theorem cA_le (a b:Int):cfgS.A.le a b=decide (a≤b):=rfl
theorem cA_eq (a b:Int):cfgS.A.eq a b=decide (a=b):=rfl
theorem cA_fits (k:IntKind)(a:Int):cfgS.A.fits k a=fitsK k a:=rfl
theorem cA_num (a:Nat):cfgS.A.num a=(a:Int):=rfl
theorem cA_max (a b:Int):cfgS.A.max a b=mx a b:=rfl
theorem cA_andB (a b:Bool):cfgS.A.andB a b=(a&&b):=rfl
theorem cA_notB (a:Bool):cfgS.A.notB a=!a:=rfl
theorem cA_eqB (a b:Bool):cfgS.A.eqB a b=(a == b):=rfl
theorem right_low {p:Int × Int}(h:rightS p=true):0≤p.1∧p.1≤10000∧0≤p.2∧p.2≤10000:=by
 simp only [rightS,Bool.and_eq_true,decide_eq_true_eq] at h
 omega
def at2 (l:List (Int × Int))(i:Nat):Int × Int:=l.getD i (0,0)
theorem at2_eq {l:List (Int × Int)}{i:Nat}(h:i<l.length):at2 l i=l[i]:=by
 unfold at2
 rw [List.getD_eq_getElem?_getD,List.getElem?_eq_getElem h]
 rfl
theorem all_at {l:List (Int × Int)}(h:l.all rightS=true){i:Nat}(hi:i<l.length):rightS (at2 l i)=true:=by rw [at2_eq hi];exact all_get h hi
end Go.Aw
end

noncomputable section
namespace Go.Aw
set_option maxRecDepth 100000
theorem getP (l:List (Int × Int)){i o:Nat}(hi:i<l.length)(ho:o=i*2):getN (flat elP.fl l) o 2=some [iv (at2 l i).1,iv (at2 l i).2]:=by
 rw [at2_eq hi]
 exact flat_get elP l hi ho
end Go.Aw
end

noncomputable section
namespace Go.Aw
set_option maxRecDepth 100000
def lowS (s t:Sg):Int × Int:=if ordS (endsS s).1 (endsS t).1<0 then (endsS t).1 else (endsS s).1
def highS (s t:Sg):Int × Int:=if ordS (endsS t).2 (endsS s).2<0 then (endsS t).2 else (endsS s).2
def tblS (o:Int):Int:=if o = -1 then 4 else if o=0 then 1 else 0
def kindS (a b c d:Int):Int :=
 if 0<a*b∨0<c*d then 0
 else if (c=0∨d=0)∧(a=0∨b=0) then 1
 else if (c=0∨d=0)∨(a=0∨b=0) then 2
 else 3
def meetS (s t:Sg):Int :=
 if turnS s.1 s.2 t.1=0∧turnS s.1 s.2 t.2=0 then tblS (ordS (lowS s t) (highS s t))
 else kindS (turnS s.1 s.2 t.1) (turnS s.1 s.2 t.2) (turnS t.1 t.2 s.1) (turnS t.1 t.2 s.2)
def u8 (n:Int):Value:=.int .u8 n
theorem ordS_low (a b:Int × Int):ordS a b = -1∨ordS a b=0∨ordS a b=1:=by
 unfold ordS orI cmpI
 split <;> split <;> (try split) <;> (try split) <;> omega
theorem nth_tbl {o:Int}(h:o = -1∨o=0∨o=1){k:Nat}(hk:k=(o+1).toNat):nth [u8 4,u8 1,u8 0] k=some (u8 (tblS o)):=by
 subst hk
 rcases h with rfl|rfl|rfl <;> rfl
theorem fit_ord (a b:Int × Int):cfgS.A.fits .i64 (cfgS.A.add (ordS a b) 1)=true:=by
 rcases ordS_low a b with e|e|e <;> rw [e] <;> rfl
theorem ix_ord (a b:Int × Int):cfgS.A.andB (cfgS.A.le 0 (cfgS.A.add (ordS a b) 1)) (cfgS.A.lt (cfgS.A.add (ordS a b) 1) (cfgS.A.num 3))=true:=by
 rcases ordS_low a b with e|e|e <;> rw [e] <;> rfl
def X68:Nat × XF:=(41,gX (s2 cS cS fun s t=>(wideS s&&wideS t,u8 (meetS s t))))
theorem x68:XOK Go.Proofs.Tryz.prog X68.1 X68.2:=x2 cS cS (xl:=[X55,X74,X106]) (.cons x55 (.cons x74 (.cons x106 .nil))) (fun _ _=>rfl) fun s t hp=>by
 obtain⟨⟨ax,ay⟩,⟨bx,b2⟩⟩:=s
 obtain⟨⟨cx,cy⟩,⟨dx,dy⟩⟩:=t
 have l1:=turn_low (ax,ay) (bx,b2) (cx,cy)
 have l2:=turn_low (ax,ay) (bx,b2) (dx,dy)
 have l3:=turn_low (cx,cy) (dx,dy) (ax,ay)
 have l4:=turn_low (cx,cy) (dx,dy) (bx,b2)
 have m1:=mulB (A:=1) (B:=1) l1.1 l1.2 l2.1 l2.2
 have m2:=mulB (A:=1) (B:=1) l3.1 l3.2 l4.1 l4.2
 simp only [wideS,Bool.and_eq_true] at hp
 unfold Does1
 repeat' (conv=>whnf
          refine bm (fun h=>?_) (fun h=>?_))
 all_goals (try (refine boV (nth_tbl (ordS_low _ _) (by show 0+(_+1:Int).toNat*1=_;rw [Nat.zero_add,Nat.mul_one])) ?_))
 all_goals (try (conv=>whnf))
 all_goals (clear l3 l4)
 all_goals first
  |(show _=_
    simp only [cA_add,cA_mul,cA_lt,cA_eq,cA_fits,cA_eqB,cA_andB,cA_notB,cA_le,cA_num,fitsK,pEta,Bool.and_eq_true,beq_iff_eq,beq_eq_false_iff_ne,ne_eq,decide_eq_true_eq,decide_eq_false_iff_not,not_and,Bool.not_eq_true',Bool.not_eq_false'] at *
    simp only [meetS,kindS,lowS,highS]
    simp_all [u8,iv]
    done)
  |(show _=_
    simp only [cA_lt,cA_eq,cA_eqB,pEta,beq_iff_eq,decide_eq_true_eq,decide_eq_false_iff_not] at *
    simp only [meetS,lowS,highS, *,and_self,if_true,if_false]
    done)
  |(rw [fit_ord] at h;cases h)
  |(rw [ix_ord] at h;cases h)
  |(simp [hp] at h;done)
  |(simp only [cA_mul,cA_fits,fitsK,pEta,Bool.eq_false_iff,ne_eq,Bool.and_eq_true,decide_eq_true_eq] at h;omega)
  |skip
 trace_state
end Go.Aw
end

noncomputable section
namespace Go.Aw
set_option maxRecDepth 100000
theorem turn0 (a b c:Int × Int):turnS a b c=0↔crossI a b c=0:=by
 unfold turnS sgn
 split <;> (try split) <;> omega
end Go.Aw
end

namespace Go.Aw
theorem sides {ex ux q r:Int}(he:0<ex)(h:ex*q=ux*r)(hne:¬ (q=0∧r - q=0)):(0≤ux∧ux≤ex)↔(0≤q*(r - q)):=by
 have hr:r≠0:=by
  intro hr
  subst hr
  rw [Int.mul_zero] at h
  have:q=0:=by
   rcases Int.mul_eq_zero.1 h with h|h
   ·omega
   ·exact h
  exact hne ⟨this,by omega⟩
 have e2:ex*(r - q)=(ex - ux)*r:=by rw [Int.mul_sub,Int.sub_mul,h]
 have key:(ex*ex)*(q*(r - q))=(ux*(ex - ux))*(r*r):=by
  calc (ex*ex)*(q*(r - q))=(ex*q)*(ex*(r - q)):=by rw [Int.mul_assoc,Int.mul_assoc,← Int.mul_assoc ex q,Int.mul_comm ex q,Int.mul_assoc q ex]
   _=(ux*r)*((ex - ux)*r):=by rw [h,e2]
   _=(ux*(ex - ux))*(r*r):=by rw [Int.mul_assoc,Int.mul_assoc,← Int.mul_assoc r,Int.mul_comm r (ex - ux),Int.mul_assoc (ex - ux)]
 have hrr:0<r*r:=by
  rcases Int.lt_or_gt_of_ne hr with h|h
  ·exact Int.mul_pos_of_neg_of_neg h h
  ·exact Int.mul_pos h h
 have hee:0<ex*ex:=Int.mul_pos he he
 constructor
 ·intro⟨h1,h2⟩
  have h3:0≤(ux*(ex - ux))*(r*r):=Int.mul_nonneg (Int.mul_nonneg h1 (by omega)) (by omega)
  rw [← key] at h3
  by_cases hq:0≤q*(r - q)
  ·exact hq
  ·have:(ex*ex)*(q*(r - q))<0:=Int.mul_neg_of_pos_of_neg hee (by omega)
   omega
 ·intro hq
  have h3:0≤(ex*ex)*(q*(r - q)):=Int.mul_nonneg (by omega) hq
  rw [key] at h3
  have h4:0≤ux*(ex - ux):=by
   by_cases h4:0≤ux*(ex - ux)
   ·exact h4
   ·have:(ux*(ex - ux))*(r*r)<0:=Int.mul_neg_of_neg_of_pos (by omega) hrr
    omega
  constructor
  ·by_cases h5:0≤ux
   ·exact h5
   ·have:ux*(ex - ux)<0:=Int.mul_neg_of_neg_of_pos (by omega) (by omega)
    omega
  ·by_cases h5:ux≤ex
   ·exact h5
   ·have:ux*(ex - ux)<0:=Int.mul_neg_of_pos_of_neg (by omega) (by omega)
    omega
end Go.Aw

namespace Go.Aw
def inb (e u:Int):Prop:=(if 0<e then 0 else e)≤u∧u≤(if e<0 then 0 else e)
theorem once {ex ey wx wy vx vy:Int}(hd:ex*wy - ey*wx≠0)(h1:ex*vy=ey*vx)(h2:wx*vy=wy*vx):vx=0∧vy=0:=by
 constructor
 ·have:(ex*wy - ey*wx)*vx=0:=by
   rw [Int.sub_mul,Int.mul_assoc,← h2,Int.mul_right_comm ey,← h1,Int.mul_assoc,Int.mul_comm vy,Int.sub_self]
  rcases Int.mul_eq_zero.1 this with h|h
  ·exact absurd h hd
  ·exact h
 ·have:(ex*wy - ey*wx)*vy=0:=by
   rw [Int.sub_mul,Int.mul_assoc ey,h2,Int.mul_right_comm ex,h1,← Int.mul_assoc,Int.mul_right_comm ey,Int.sub_self]
  rcases Int.mul_eq_zero.1 this with h|h
  ·exact absurd h hd
  ·exact h
theorem para {ex ey wx wy vx vy:Int}(hw:¬ (wx=0∧wy=0))(h1:wx*ey=wy*ex)(h2:wx*vy=wy*vx):ex*vy=ey*vx:=by
 have k1:wx*(ex*vy - ey*vx)=0:=by
  rw [Int.mul_sub,← Int.mul_assoc,Int.mul_right_comm,h2,← Int.mul_assoc,h1,Int.mul_right_comm,Int.sub_self]
 have k2:wy*(ex*vy - ey*vx)=0:=by
  rw [Int.mul_sub,← Int.mul_assoc,← h1,Int.mul_left_comm wy,← h2,Int.mul_left_comm ey,Int.mul_assoc,Int.sub_self]
 by_cases h:wx=0
 ·rcases Int.mul_eq_zero.1 k2 with h'|h'
  ·exact absurd ⟨h,h'⟩ hw
  ·omega
 ·rcases Int.mul_eq_zero.1 k1 with h'|h'
  ·exact absurd h' h
  ·omega
end Go.Aw

namespace Go.Aw
theorem eqP_iff (a b:Int × Int):eqP a b=true↔a=b:=by
 obtain⟨a1,a2⟩:=a
 obtain⟨b1,b2⟩:=b
 simp [eqP]
theorem cross_base (a b p q:Int × Int)(h:q=a∨q=b):crossI a b p=(b.1 - a.1)*(p.2 - q.2) - (b.2 - a.2)*(p.1 - q.1):=by
 rcases h with rfl|rfl
 ·rfl
 ·have e1:p.2 - a.2=(p.2 - q.2)+(q.2 - a.2):=by omega
  have e2:p.1 - a.1=(p.1 - q.1)+(q.1 - a.1):=by omega
  have e3:=Int.mul_comm (q.1 - a.1) (q.2 - a.2)
  rw [crossI,e1,e2,Int.mul_add,Int.mul_add]
  omega
theorem same_line1 (s t:Sg)(p:Int × Int)(hp:p=t.1∨p=t.2)(ht:t.1≠t.2)(h1:turnS t.1 t.2 s.1=0)(h2:turnS t.1 t.2 s.2=0):turnS s.1 s.2 p=0:=by
 rw [turn0,cross_base t.1 t.2 _ p hp] at h1 h2
 have hw:¬ (t.2.1 - t.1.1=0∧t.2.2 - t.1.2=0):=by
  intro h;apply ht;exact Prod.ext (by omega) (by omega)
 have e1:(t.2.1 - t.1.1)*(s.2.2 - s.1.2)=(t.2.2 - t.1.2)*(s.2.1 - s.1.1):=by
  rw [show s.2.2 - s.1.2=(s.2.2 - p.2) - (s.1.2 - p.2) by omega,show s.2.1 - s.1.1=(s.2.1 - p.1) - (s.1.1 - p.1) by omega,Int.mul_sub,Int.mul_sub (t.2.2 - t.1.2)]
  omega
 have e2:(t.2.1 - t.1.1)*(p.2 - s.1.2)=(t.2.2 - t.1.2)*(p.1 - s.1.1):=by
  rw [show p.2 - s.1.2 = -(s.1.2 - p.2) by omega,show p.1 - s.1.1 = -(s.1.1 - p.1) by omega,Int.mul_neg,Int.mul_neg]
  omega
 have:=para hw e1 e2
 rw [turn0,crossI]
 omega
theorem same_line (s t:Sg)(ht:t.1≠t.2)(h:turnS t.1 t.2 s.1=0∧turnS t.1 t.2 s.2=0):turnS s.1 s.2 t.1=0∧turnS s.1 s.2 t.2=0 :=
 ⟨same_line1 s t _ (.inl rfl) ht h.1 h.2,same_line1 s t _ (.inr rfl) ht h.1 h.2⟩
theorem eqP_f (a b:Int × Int):eqP a b=false↔a≠b:=by
 rw [ne_eq,← eqP_iff];simp
def key (p:Int × Int):Int:=p.1*100000+p.2
theorem ord_key {a b:Int × Int}(ha:rightS a=true)(hb:rightS b=true):ordS a b=cmpI (key a) (key b):=by
 simp only [rightS,Bool.and_eq_true,decide_eq_true_eq] at ha hb
 obtain⟨a1,a2⟩:=a
 obtain⟨b1,b2⟩:=b
 simp only at ha hb
 unfold ordS orI cmpI key
 simp only
 by_cases h1:a1<b1
 ·rw [if_pos h1,if_pos (show a1*100000+a2<b1*100000+b2 by omega)];rfl
 ·by_cases h2:b1<a1
  ·rw [if_neg h1,if_pos h2,if_neg (show ¬ (a1*100000+a2<b1*100000+b2) by omega),if_pos (show b1*100000+b2<a1*100000+a2 by omega)];rfl
  ·rw [if_neg h1,if_neg h2,if_pos rfl]
   have:a1=b1:=by omega
   subst this
   by_cases h3:a2<b2
   ·rw [if_pos h3,if_pos (by omega)]
   ·rw [if_neg h3,if_neg (show ¬ (a1*100000+a2<a1*100000+b2) by omega)]
    by_cases h4:b2<a2
    ·rw [if_pos h4,if_pos (by omega)]
    ·rw [if_neg h4,if_neg (by omega)]
theorem eqP_key {a b:Int × Int}(ha:rightS a=true)(hb:rightS b=true):eqP a b=true↔key a=key b:=by
 simp only [rightS,Bool.and_eq_true,decide_eq_true_eq] at ha hb
 simp only [eqP,Bool.and_eq_true,decide_eq_true_eq,key,and_true]
 omega
theorem eqP_keyf {a b:Int × Int}(ha:rightS a=true)(hb:rightS b=true):eqP a b=false↔key a≠key b:=by
 rw [← Bool.not_eq_true,eqP_key ha hb]
theorem cmp_le (a b:Int):cmpI a b≤0↔a≤b:=by unfold cmpI;split <;> (try split) <;> omega
theorem cmp_lt (a b:Int):cmpI a b<0↔a<b:=by unfold cmpI;split <;> (try split) <;> omega
theorem cmp_gt (a b:Int):0<cmpI a b↔b<a:=by unfold cmpI;split <;> (try split) <;> omega
theorem tbl_cmp (a b:Int):tblS (cmpI a b)=if a<b then 4 else if a=b then 1 else 0:=by
 unfold tblS cmpI
 split
 ·rfl
 ·split
  ·rw [if_neg (by omega),if_neg (by omega),if_neg (by omega)]
  ·rw [if_neg (by omega),if_pos rfl,if_pos (by omega)]
theorem right_two {s:Sg}(h:rightG s=true):rightS s.1=true∧rightS s.2=true∧s.1≠s.2:=by
 simp only [rightG,Bool.and_eq_true,Bool.not_eq_true'] at h
 exact⟨h.1.1,h.1.2,(eqP_f _ _).1 h.2⟩
end Go.Aw

noncomputable section
namespace Go.Aw
set_option maxRecDepth 100000
def cellsS (s:Sg):List Value:=[iv s.1.1,iv s.1.2,iv s.2.1,iv s.2.2]
def hE (s t:Sg)(ps:List (Int × Int)):Heap:=[(0,.cells true false 1 (cellsS s)),(1,.cells true false 1 (cellsS t)),(2,.cells true false 2 (flat elP.fl ps))]
theorem flat_grow (l:List (Int × Int))(p:Int × Int):List.take (l.length*2) (List.drop 0 (flat elP.fl l))++[iv p.1,iv p.2]=flat elP.fl (l++[p]):=by
 rw [flat_append,List.drop_zero,List.take_of_length_le (by rw [flat_len];exact Nat.le_refl _)]
 rfl
end Go.Aw
end

noncomputable section
namespace Go.Aw
set_option maxRecDepth 100000
def elS:El Sg:=⟨fun s=>[iv s.1.1,iv s.1.2,iv s.2.1,iv s.2.2],4,fun _=>rfl,fun _=>rfl,by decide⟩
def hS (l:List Sg):Heap:=[(0,.cells false true 4 (flat elS.fl l))]
end Go.Aw
end

namespace Go.Aw
theorem kind_sym (a b c d:Int):kindS a b c d=kindS c d a b:=by
 unfold kindS
 simp only [Or.comm (a:=0<c*d),And.comm (a:=c=0∨d=0),Or.comm (a:=c=0∨d=0)]
def back (t:Sg):Sg:=(t.2,t.1)
theorem ends_key (s:Sg)(hs:rightG s=true):rightS (endsS s).1=true∧rightS (endsS s).2=true∧key (endsS s).1<key (endsS s).2:=by
 obtain⟨r1,r2,ns⟩:=right_two hs
 have n12:key s.1≠key s.2:=(eqP_keyf r1 r2).1 ((eqP_f _ _).2 ns)
 unfold endsS
 simp only [ord_key r1 r2,cmp_gt]
 by_cases h:key s.2<key s.1
 ·rw [if_pos h];exact⟨r2,r1,h⟩
 ·rw [if_neg h];exact⟨r1,r2,by simp only;omega⟩
theorem low_key (s t:Sg)(hs:rightG s=true)(ht:rightG t=true):rightS (lowS s t)=true∧key (lowS s t)=max (key (endsS s).1) (key (endsS t).1):=by
 obtain⟨ra1,ra2,_⟩:=ends_key s hs
 obtain⟨rb1,rb2,_⟩:=ends_key t ht
 unfold lowS
 simp only [ord_key ra1 rb1,cmp_lt]
 by_cases hk:key (endsS s).1<key (endsS t).1
 ·rw [if_pos hk];exact⟨rb1,by omega⟩
 ·rw [if_neg hk];exact⟨ra1,by omega⟩
theorem high_key (s t:Sg)(hs:rightG s=true)(ht:rightG t=true):rightS (highS s t)=true∧key (highS s t)=min (key (endsS s).2) (key (endsS t).2):=by
 obtain⟨ra1,ra2,_⟩:=ends_key s hs
 obtain⟨rb1,rb2,_⟩:=ends_key t ht
 unfold highS
 simp only [ord_key rb2 ra2,cmp_lt]
 by_cases hk:key (endsS t).2<key (endsS s).2
 ·rw [if_pos hk];exact⟨rb2,by omega⟩
 ·rw [if_neg hk];exact⟨ra2,by omega⟩
theorem meet_sym (s t:Sg)(hs:rightG s=true)(ht:rightG t=true):meetS t s=meetS s t:=by
 have ns:=(right_two hs).2.2
 have nt:=(right_two ht).2.2
 unfold meetS
 by_cases h:turnS s.1 s.2 t.1=0∧turnS s.1 s.2 t.2=0
 ·rw [if_pos h,if_pos (same_line t s ns h),ord_key (low_key t s ht hs).1 (high_key t s ht hs).1,ord_key (low_key s t hs ht).1 (high_key s t hs ht).1,(low_key t s ht hs).2,(high_key t s ht hs).2,(low_key s t hs ht).2,(high_key s t hs ht).2,Int.max_comm,Int.min_comm]
 ·rw [if_neg h,if_neg fun h'=>h (same_line s t nt h'),kind_sym]
end Go.Aw

noncomputable section
namespace Go.Aw
set_option maxRecDepth 100000
def edgeS (l:List (Int × Int))(i:Nat):Sg:=(at2 l i,at2 l ((i+1) % l.length))
def SEdge (l:List (Int × Int)):List Value→Option (Bool × Value)
 |[.int .i64 j]=>some (decide (0≤j)&&decide (j<l.length)&&decide (l.length≤1000000000),sgv (edgeS l j.toNat))
 |_=>none
theorem SEdge_inv {l:List (Int × Int)}{r:List Value}{v:Value}(hs:SEdge l r=some (true,v)):∃ (i:Nat) (j:Int),j=i∧r=[iv j]∧i<l.length∧l.length≤1000000000∧v=sgv (edgeS l i):=by
 unfold SEdge at hs
 split at hs
 ·rename_i j
  injection hs with hs;injection hs with h1 h2
  simp only [Bool.and_eq_true,decide_eq_true_eq] at h1
  refine⟨j.toNat,j,by omega,rfl,by omega,h1.2,h2.symm⟩
 ·cases hs
theorem cA_rem (a b:Int):cfgS.A.rem a b=a.tmod b:=rfl
theorem tmod_nat {i n:Nat}:((i:Int)+1).tmod (n:Int)=((i+1) % n:Nat):=by
 rw [show (i:Int)+1=((i+1:Nat):Int) from rfl]
 exact (Int.ofNat_tmod (i+1) n).symm
def X81:Nat × XF:=(42,lX elP SEdge)
theorem x81:XOK Go.Proofs.Tryz.prog X81.1 X81.2:=lX_ok elP (body_calls (xl:=[]) .nil) fun l r v hs=>by
 obtain⟨i,j,hj,rfl,hlt,hlen,rfl⟩:=SEdge_inv hs
 refine⟨rfl,rfl,fun c=>?_⟩
 have h0:0<l.length:=by omega
 have hm:(i+1) % l.length<l.length:=Nat.mod_lt _ h0
 have ht:(j+1).tmod (l.length:Int)=((i+1) % l.length:Nat):=by rw [hj];exact tmod_nat
 unfold edgeS
 ((conv=>whnf);refine bm (fun g=>?_) (fun g=>?_))
 ·(conv=>whnf)
  refine boL (getP l hlt ?_) ?_
  ·simp [cfgS,std];omega
  ((conv=>whnf);refine bm (fun g1=>?_) (fun g1=>?_))
  ·((conv=>whnf);refine bm (fun g2=>?_) (fun g2=>?_))
   ·((conv=>whnf);refine bm (fun g3=>?_) (fun g3=>?_))
    ·(conv=>whnf)
     refine boL (getP l hm ?_) ?_
     ·show 0+((j+1).tmod (l.length:Int)).toNat*2=_
      rw [ht,Int.toNat_natCast,Nat.zero_add]
     (conv=>whnf)
     rfl
    ·simp only [cA_rem,cA_lt,cA_le,cA_andB,cA_num,cA_add,Bool.eq_false_iff,ne_eq,Bool.and_eq_true,decide_eq_true_eq] at g3;omega
   ·simp only [cA_notB,cA_eq,cA_num,Bool.not_eq_false',decide_eq_true_eq] at g2;omega
  ·simp only [cA_add,cA_fits,fitsK,Bool.eq_false_iff,ne_eq,Bool.and_eq_true,decide_eq_true_eq] at g1;omega
 ·simp only [cA_lt,cA_le,cA_andB,cA_num,Bool.eq_false_iff,ne_eq,Bool.and_eq_true,decide_eq_true_eq] at g;omega
end Go.Aw
end

noncomputable section
namespace Go.Aw
set_option maxRecDepth 100000
theorem sEta (s:Sg):(s.1,s.2)=s:=rfl
def wantS (i k n:Nat):Int:=if k=i+1∨(i=0∧k=n - 1) then 1 else 0
def okE (l:List (Int × Int))(i k:Nat):Prop:=meetS (edgeS l i) (edgeS l k)=wantS i k l.length
def simpleP (l:List (Int × Int)):Prop:=∀ i k,i<k→k<l.length→okE l i k
open Classical in
def simpleB (l:List (Int × Int)):Bool:=decide (simpleP l)
def goodP (l:List (Int × Int)):Prop:=3≤l.length∧l.length≤200∧l.all rightS=true∧l.Nodup
open Classical in
def goodL (l:List (Int × Int)):Bool:=decide (goodP l)
theorem goodL_iff {l:List (Int × Int)}:goodL l=true↔goodP l:=by simp [goodL]
theorem simpleB_iff {l:List (Int × Int)}:simpleB l=true↔simpleP l:=by simp [simpleB]
theorem simpleB_f {l:List (Int × Int)}(h:¬ simpleP l):simpleB l=false:=by simp [simpleB,h]
theorem next_lt {l:List (Int × Int)}(h:0<l.length)(i:Nat):(i+1) % l.length<l.length:=Nat.mod_lt _ h
theorem next_ne {n i:Nat}(hn:2≤n)(hi:i<n):i≠(i+1) % n:=by
 by_cases h:i+1=n
 ·rw [h,Nat.mod_self];omega
 ·rw [Nat.mod_eq_of_lt (by omega)];omega
theorem nodup_get {l:List (Int × Int)}(h:l.Nodup){i k:Nat}(hi:i<l.length)(hk:k<l.length)(e:l[i]=l[k]):i=k:=by
 have hp:=List.pairwise_iff_getElem.1 h
 by_cases h1:i<k
 ·exact absurd e (hp i k hi hk h1)
 ·by_cases h2:k<i
  ·exact absurd e.symm (hp k i hk hi h2)
  ·omega
theorem nodup_at {l:List (Int × Int)}(h:l.Nodup){i k:Nat}(hi:i<l.length)(hk:k<l.length)(e:at2 l i=at2 l k):i=k:=by
 rw [at2_eq hi,at2_eq hk] at e
 exact nodup_get h hi hk e
theorem edge_right {l:List (Int × Int)}(h:goodP l){i:Nat}(hi:i<l.length):rightG (edgeS l i)=true:=by
 obtain⟨h3,h200,hr,hnd⟩:=h
 have hn:=next_lt (l:=l) (by omega) i
 have ra:=all_at hr hi
 have rb:=all_at hr hn
 simp only [rightG,edgeS,Bool.and_eq_true,Bool.not_eq_true']
 refine⟨⟨ra,rb⟩,(eqP_f _ _).2 fun e=>?_⟩
 exact next_ne (n:=l.length) (by omega) hi (nodup_at hnd hi hn e)
def hP (l:List (Int × Int)):Heap:=[(0,.cells false true 2 (flat elP.fl l))]
end Go.Aw
end

noncomputable section
namespace Go.Aw
set_option maxRecDepth 100000
def nxt (l:List (Int × Int))(i:Nat):Int × Int:=at2 l ((i+1) % l.length)
def areaI (l:List (Int × Int)):Nat→Int
 |0=>0
 |i+1=>areaI l i+((at2 l i).1*(nxt l i).2 - (nxt l i).1*(at2 l i).2)
theorem areaI_B {l:List (Int × Int)}(h:l.all rightS=true):∀ i,i≤l.length→-(200000000*i)≤areaI l i∧areaI l i≤200000000*(i:Int)
 |0,_=>by simp [areaI]
 |i+1,hi=>by
  have ih:=areaI_B h i (by omega)
  have r1:=right_low (all_at h (i:=i) (by omega))
  have r2:=right_low (all_at h (Nat.mod_lt (i+1) (show 0<l.length by omega)))
  have m1:=mulB (a:=(at2 l i).1) (b:=(nxt l i).2) (A:=10000) (B:=10000) (by omega) (by omega) (by unfold nxt;omega) (by unfold nxt;omega)
  have m2:=mulB (a:=(nxt l i).1) (b:=(at2 l i).2) (A:=10000) (B:=10000) (by unfold nxt;omega) (by unfold nxt;omega) (by omega) (by omega)
  unfold areaI
  omega
def S83 (l:List (Int × Int)):List Value→Option (Bool × Value)
 |[]=>some (decide (l.length≤400)&&l.all rightS,iv (areaI l l.length))
 |_=>none
theorem S83_inv {l:List (Int × Int)}{r:List Value}{v:Value}(hs:S83 l r=some (true,v)):r=[]∧l.length≤400∧l.all rightS=true∧v=iv (areaI l l.length):=by
 unfold S83 at hs
 split at hs
 ·injection hs with hs;injection hs with h1 h2
  simp only [Bool.and_eq_true,decide_eq_true_eq] at h1
  exact⟨rfl,h1.1,h1.2,h2.symm⟩
 ·cases hs
def e83 (l:List (Int × Int))(c:Nat)(s j:Int):List (Nat × Value):=[(0,.slice (some ⟨0,0,none⟩) l.length c),(3,iv s),(7,.slice (some ⟨0,0,none⟩) l.length c),(8,iv l.length),(9,iv j)]
def X83:Nat × XF:=(43,lX elP S83)
attribute [local irreducible] areaI in
theorem x83:XOK Go.Proofs.Tryz.prog X83.1 X83.2:=lX_ok elP (body_calls (xl:=[]) .nil) fun l r v hs=>by
 obtain⟨rfl,hlen,hall,rfl⟩:=S83_inv hs
 refine⟨rfl,rfl,fun c=>?_⟩
 (conv=>whnf)
 refine⟨fun n e h nx=>∃ (i:Nat) (j s:Int),j=i∧i≤l.length∧n=l.length - i∧s=areaI l i∧e=e83 l c s j∧h=hP l∧nx=1,⟨l.length,?_⟩,?_⟩
 ·refine Into_id (e0:=e83 l c 0 0) (h0:=hP l) (n0:=1) ⟨0,0,0,rfl,Nat.zero_le _,rfl,by unfold areaI;rfl,rfl,rfl,rfl⟩ ?_ ?_ (by decide)
  ·unfold e83
   ((repeat' refine iE rfl rfl ?_);exact iN)
  ·unfold hP
   ((repeat'(first|refine iF rfl rfl ?_|refine iJ rfl rfl rfl rfl ?_));exact iN)
 ·rintro n e h nx ⟨i,j,s,hj,hi,rfl,hs',rfl,rfl,rfl⟩
  unfold e83 hP
  have hB:=areaI_B hall i hi
  ((conv=>whnf);refine bm (fun g1=>?_) (fun g1=>?_))
  ·have hlt:i<l.length:=by simp [cfgS,std] at g1;omega
   have hm:(i+1) % l.length<l.length:=Nat.mod_lt _ (by omega)
   have ht:(j+1).tmod (l.length:Int)=((i+1) % l.length:Nat):=by rw [hj];exact tmod_nat
   have r1:=right_low (all_at hall hlt)
   have r2:=right_low (all_at hall hm)
   have m1:=mulB (a:=(at2 l i).1) (b:=(at2 l ((i+1) % l.length)).2) (A:=10000) (B:=10000) (by omega) (by omega) (by omega) (by omega)
   have m2:=mulB (a:=(at2 l ((i+1) % l.length)).1) (b:=(at2 l i).2) (A:=10000) (B:=10000) (by omega) (by omega) (by omega) (by omega)
   repeat' first
    |(((conv=>whnf);refine bm (fun g=>?_) (fun g=>?_)))
    |((conv=>whnf)
      refine boL (getP l hlt ?_) ?_
      ·simp [cfgS,std];omega)
    |((conv=>whnf)
      refine boL (getP l hm ?_) ?_
      ·show 0+((j+1).tmod (l.length:Int)).toNat*2=_
       rw [ht,Int.toNat_natCast,Nat.zero_add])
   all_goals (conv=>whnf)
   all_goals (try (simp only [cA_rem,cA_mul,cA_add,cA_sub,cA_lt,cA_le,cA_eq,cA_notB,cA_andB,cA_num,cA_fits] at g g1))
   all_goals first
    |(refine⟨l.length - (i+1),by omega,?_⟩
      refine Into_id (e0:=e83 l c (s+((at2 l i).1*(at2 l ((i+1) % l.length)).2 - (at2 l ((i+1) % l.length)).1*(at2 l i).2)) (j+1)) (h0:=hP l) (n0:=1) ⟨i+1,j+1,s+((at2 l i).1*(at2 l ((i+1) % l.length)).2 - (at2 l ((i+1) % l.length)).1*(at2 l i).2),by omega,hlt,rfl,?_,rfl,rfl,rfl⟩ ?_ ?_ (by decide)
      ·rw [areaI,hs'];rfl
      ·unfold e83
       ((repeat' refine iE rfl rfl ?_);exact iN)
      ·unfold hP
       ((repeat'(first|refine iF rfl rfl ?_|refine iJ rfl rfl rfl rfl ?_));exact iN))
    |(exfalso;simp only [fitsK,Bool.and_eq_false_iff,Bool.not_eq_false',decide_eq_false_iff_not,decide_eq_true_eq] at g;omega)
    |trace_state
  ·have hge:i=l.length:=by simp [cfgS,std] at g1;omega
   subst hge
   (conv=>whnf)
   rw [hs']
end Go.Aw
end
