/-
  Parts of the proof, put together. No condition.
-/
import Derived.Test.YtjahkcbdecgbhaaGreatQAu
set_option linter.unusedSimpArgs false
set_option linter.unusedVariables false
noncomputable section
namespace Go.Aw
set_option maxRecDepth 100000
attribute [local irreducible] pU
def IA (s t:Sg):List (Int × Int)→Int
 |[]=>if aZ s.1 s.2 t.1*aZ s.1 s.2 t.2<0∧aZ t.1 t.2 s.1*aZ t.1 t.2 s.2<0 then 3 else 0
 |[p]=>if (jE p s.1=true∨jE p s.2=true)∧(jE p t.1=true∨jE p t.2=true) then 1 else 2
 |_::_::_=>4
theorem aD9 (s t:Sg):n7 s t=IA s t (pU s t):=rfl
theorem X3 {s t:Sg}{l:List (Int × Int)}(h:pU s t=l):n7 s t=IA s t l:=by
 rw [aD9,h]
def X72:Nat × XF:=(243,gX (s2 cS cS fun s t=>(gM s&&gM t,u8 (n7 s t))))
theorem x72:cE Go.Proofs.Tryz.prog X72.1 X72.2:=x2 cS cS (xl:=[X70,X57]) (.cons x70 (.cons x57 .nil)) (fun _ _=>rfl) fun s t hp=>by
 obtain⟨⟨ax,ay⟩,⟨bx,b2⟩⟩:=s;obtain⟨⟨cx,cy⟩,⟨dx,dy⟩⟩:=t;have l1:=lG (ax,ay) (bx,b2) (cx,cy);have l2:=lG (ax,ay) (bx,b2) (dx,dy);have l3:=lG (cx,cy) (dx,dy) (ax,ay);have l4:=lG (cx,cy) (dx,dy) (bx,b2);have m1:=uR (A:=1) (B:=1) l1.1 l1.2 l2.1 l2.2;have m2:=uR (A:=1) (B:=1) l3.1 l3.2 l4.1 l4.2;have hp':=hp;simp only [gM,Bool.and_eq_true] at hp;unfold cT;((conv=>whnf);refine bm (fun g=>?_) (fun g=>?_))
 ·(conv=>whnf);generalize he:pU _ _=L;have hm:n7 ((ax,ay),(bx,b2)) ((cx,cy),(dx,dy))=IA ((ax,ay),(bx,b2)) ((cx,cy),(dx,dy)) L:=X3 he;clear he g hp';rcases L with _|⟨p,_|⟨q,r⟩⟩
  ·repeat' ((conv=>whnf);refine bm (fun g=>?_) (fun g=>?_))
   all_goals (conv=>whnf)
   all_goals (clear l1 l2 l3 l4)
   all_goals (try (show u8 _=u8 (n7 ((ax,ay),(bx,b2)) ((cx,cy),(dx,dy)));rw [hm];clear hm))
   all_goals (simp only [K9,nN,iQ,iB,oK,aH,B6,Bool.and_eq_true,beq_iff_eq,beq_eq_false_iff_ne,ne_eq,decide_eq_true_eq,decide_eq_false_iff_not,not_and,Bool.not_eq_true',Bool.not_eq_false'] at *)
   all_goals first
    |(simp only [IA,u8];simp_all;done)
    |(simp_all;done)
    |(simp only [Bool.and_eq_false_iff,decide_eq_false_iff_not] at *;omega)
    |(rw [IA,if_neg fun h=>g h.1];done)
  ·repeat' ((conv=>whnf);refine bm (fun g=>?_) (fun g=>?_))
   all_goals (conv=>whnf)
   all_goals (clear l1 l2 l3 l4 m1 m2 hp)
   all_goals (show u8 _=u8 (n7 ((ax,ay),(bx,b2)) ((cx,cy),(dx,dy)));rw [hm];clear hm)
   all_goals (simp only [HV,tP,K9,nN,iQ,iB,oK,aH,B6,beq_iff_eq,beq_eq_false_iff_ne,ne_eq] at *)
   all_goals (simp only [IA,u8];simp_all [jE] <;> omega)
  ·((conv=>whnf);refine bm (fun g=>?_) (fun g=>?_))
   ·(conv=>whnf);show u8 _=u8 (n7 ((ax,ay),(bx,b2)) ((cx,cy),(dx,dy)));rw [hm];rfl
   ·exfalso;simp [nN,oK] at g;omega
 ·exfalso;rw [show _=true from hp'] at g;cases g
def fD (s t:Sg):Int:=if dQ s=true∧dQ t=true then rD s t else 0
def X22:Nat × XF:=(198,gX (s2 cS cS fun s t=>(true,u8 (fD s t))))
theorem x22:cE Go.Proofs.Tryz.prog X22.1 X22.2:=x2 cS cS (xl:=[X64,X68]) (.cons x64 (.cons x68 .nil)) (fun _ _=>rfl) fun s t _=>by
 obtain⟨⟨ax,ay⟩,⟨bx,b2⟩⟩:=s;obtain⟨⟨cx,cy⟩,⟨dx,dy⟩⟩:=t;unfold cT
 repeat' ((conv=>whnf);refine bm (fun g=>?_) (fun g=>?_))
 all_goals (conv=>whnf)
 all_goals (simp only [iB,kV,B6,Bool.not_eq_true',Bool.not_eq_false',beq_iff_eq,beq_eq_false_iff_ne,ne_eq,Bool.not_eq_false,Bool.not_eq_true] at *)
 all_goals first
  |(show u8 _=u8 _;simp [fD, *];done)
  |(simp_all [sQ];done)
  |trace_state
def X25:Nat × XF:=(213,gX (s2 cS cS fun s t=>(true,u8 (fD s t))))
theorem x25:cE Go.Proofs.Tryz.prog X25.1 X25.2:=x2 cS cS (xl:=[X66,X72]) (.cons x66 (.cons x72 .nil)) (fun _ _=>rfl) fun s t _=>by
 have e:=TJ s t;obtain⟨⟨ax,ay⟩,⟨bx,b2⟩⟩:=s;obtain⟨⟨cx,cy⟩,⟨dx,dy⟩⟩:=t;unfold cT
 repeat' ((conv=>whnf);refine bm (fun g=>?_) (fun g=>?_))
 all_goals (conv=>whnf)
 all_goals (simp only [iB,kV,B6,Bool.not_eq_true',Bool.not_eq_false',beq_iff_eq,beq_eq_false_iff_ne,ne_eq,Bool.not_eq_false,Bool.not_eq_true] at *)
 all_goals first
  |(show u8 _=u8 _;simp [fD, *];done)
  |(simp_all [sQ];done)
  |trace_state
def aEK:Nat × XF:=(170,gX (s2 cP cP fun a b=>(true,iv (j7 a b))))
theorem aIc:cE Go.Proofs.Tryz.prog aEK.1 aEK.2:=x2 cP cP (xl:=[QW,ZU]) (.cons U7 (.cons aG3 .nil)) (fun _ _=>rfl) fun a b _=>by
 obtain⟨ax,ay⟩:=a;obtain⟨bx,b_y⟩:=b;unfold cT
 conv=>whnf
 refine⟨[iS ax bx,iS ay b_y],⟨rfl,_,_,_,_,rfl,rfl⟩,?_⟩
 conv=>whnf
 rfl
section
variable {α β γ δ:Type}(a:Cd α)(b:Cd β)(c:Cd γ)(d:Cd δ)
def s4 (F:α→β→γ→δ→Bool × Value):List Value→Option (Bool × Value)
 |[u,v,w,t]=>(match a.dec u with|some x=>(match b.dec v with|some y=>(match c.dec w with|some z=>(match d.dec t with|some s=>some (F x y z s)|none=>none)|none=>none)|none=>none)|none=>none)
 |_=>none
theorem aFU {F:α→β→γ→δ→Bool × Value}{args:List Value}{r:Bool × Value}(h:s4 a b c d F args=some r):∃ x y z s,args=[a.enc x,b.enc y,c.enc z,d.enc s]∧F x y z s=r:=by
 unfold s4 at h;split at h
 ·split at h
  ·rename_i x e;split at h
   ·rename_i y e2;split at h
    ·rename_i z e3;split at h
     ·rename_i s e4;injection h with h;exact⟨x,y,z,s,by rw [a.ok _ _ e,b.ok _ _ e2,c.ok _ _ e3,d.ok _ _ e4],h⟩
     ·cases h
    ·cases h
   ·cases h
  ·cases h
 ·cases h
theorem x4' {xl:List (Nat × XF)}(hx:nU xl){f:Nat}{F:α→β→γ→δ→Bool × Value}(hg:∀ x y z s,gT (F x y z s).2=true)(h:∀ x y z s,(F x y z s).1=true→cT xl f [a.enc x,b.enc y,c.enc z,d.enc s] (F x y z s).2):cE Go.Proofs.Tryz.prog f (gX (s4 a b c d F)) :=
 wX (aK hx) fun args v hs=>by
  obtain⟨x,y,z,s,rfl,e⟩:=aFU a b c d hs;have h1:(F x y z s).1=true:=(by rw [e]);have h2:(F x y z s).2=v:=(by rw [e]);subst h2;exact⟨by simp [dU,a.gr,b.gr,c.gr,d.gr],hg x y z s,h x y z s h1⟩
end
theorem aDH {b:Bool}(h:aA.A.eqB b false=true):b=false:=by cases b <;> first|rfl|cases h
theorem aEi {b:Bool}(h:aA.A.eqB b false=false):b=true:=by cases b <;> first|rfl|cases h
def mxI (a b:Int):Int:=if b > a then b else a
def mnI (a b:Int):Int:=if b<a then b else a
def apI (a b c d:Int):Bool:=decide (mxI a b<mnI c d) || decide (mxI c d<mnI a b)
def aEV:Nat × XF:=(228,gX (s4 cI cI cI cI fun a b c d=>(true,.bool (apI a b c d))))
theorem aJs:cE Go.Proofs.Tryz.prog aEV.1 aEV.2:=x4' cI cI cI cI (xl:=[]) .nil (fun _ _ _ _=>rfl) fun a b c d _=>by
 unfold cT
 repeat' (conv=>whnf
          refine bm (fun h=>?_) (fun h=>?_))
 all_goals (conv=>whnf)
 all_goals (show _=Value.bool (apI a b c d))
 ·have h1:decide (mxI a b<mnI c d)=false:=aDH h;unfold apI;rw [h1];rfl
 ·have h1:decide (mxI a b<mnI c d)=true:=aEi h;unfold apI;rw [h1];rfl
def zY (s t:Sg):Bool:=apI s.1.1 s.2.1 t.1.1 t.2.1 || apI s.1.2 s.2.2 t.1.2 t.2.2
def aGA:Nat × XF:=(197,gX (s2 cS cS fun s t=>(true,.bool (zY s t))))
theorem aKg:cE Go.Proofs.Tryz.prog aGA.1 aGA.2:=x2 cS cS (xl:=[aEV]) (.cons aJs .nil) (fun _ _=>rfl) fun s t _=>by
 obtain⟨⟨ax,ay⟩,⟨bx,b2⟩⟩:=s;obtain⟨⟨cx,cy⟩,⟨dx,dy⟩⟩:=t;unfold cT
 repeat' (conv=>whnf
          refine bm (fun h=>?_) (fun h=>?_))
 all_goals (conv=>whnf)
 ·have h1:apI ax bx cx dx=false:=aDH h;show _=Value.bool (zY _ _);unfold zY;rw [h1];rfl
 ·have h1:apI ax bx cx dx=true:=aEi h;show _=Value.bool (zY _ _);unfold zY;rw [h1];rfl
def E8 (s t:Sg):Int:=if zY s t=true then 0 else fD s t
def SI:Nat × XF:=(119,gX (s2 cS cS fun s t=>(true,u8 (E8 s t))))
theorem aDT:cE Go.Proofs.Tryz.prog SI.1 SI.2:=x2 cS cS (xl:=[aGA,X22]) (.cons aKg (.cons x22 .nil)) (fun _ _=>rfl) fun s t _=>by
 obtain⟨⟨ax,ay⟩,⟨bx,b2⟩⟩:=s;obtain⟨⟨cx,cy⟩,⟨dx,dy⟩⟩:=t;unfold cT
 repeat' (conv=>whnf
          refine bm (fun h=>?_) (fun h=>?_))
 all_goals (conv=>whnf)
 ·have h1:zY ((ax,ay),(bx,b2)) ((cx,cy),(dx,dy))=true:=h;show _=u8 _;simp only [E8,h1,if_true];rfl
 ·have h1:zY ((ax,ay),(bx,b2)) ((cx,cy),(dx,dy))=false:=h;show _=u8 _;simp only [E8,h1];rfl
def fK (a b:Int × Int):Bool:=decide (a.1<b.1) || (decide (a.1=b.1)&&decide (a.2<b.2))
def aFb:Nat × XF:=(212,gX (s2 cP cP fun a b=>(true,.bool (fK a b))))
theorem aJf:cE Go.Proofs.Tryz.prog aFb.1 aFb.2:=x2 cP cP (xl:=[]) .nil (fun _ _=>rfl) fun a b _=>by
 obtain⟨ax,ay⟩:=a;obtain⟨bx,b_y⟩:=b;unfold cT
 repeat' ((conv=>whnf);refine bm (fun h=>?_) (fun h=>?_))
 all_goals (conv=>whnf)
 all_goals (simp only [nN,HV,iB,kV,beq_iff_eq,beq_eq_false_iff_ne,ne_eq,Bool.not_eq_false,Bool.not_eq_true,decide_eq_true_eq,decide_eq_false_iff_not] at *)
 all_goals (show _=Value.bool (fK _ _);unfold fK;simp_all)
def aEP (a b c:Int × Int):Int:=(b.1 - a.1)*(c.1 - a.1)+(b.2 - a.2)*(c.2 - a.2)
def aBK:Nat × XF:=(217,gX (s3 cP cP cP fun a b c=>(wide a&&wide b&&wide c,iv (bB a b c))))
theorem aHI:cE Go.Proofs.Tryz.prog aBK.1 aBK.2:=x3 cP cP cP (xl:=[]) .nil (fun _ _ _=>rfl) fun a b c hp=>by
 obtain⟨ax,ay⟩:=a;obtain⟨bx,b_y⟩:=b;obtain⟨cx,cy⟩:=c;simp only [wide,Bool.and_eq_true,decide_eq_true_eq] at hp;have m1:=uR (a:=bx - ax) (b:=cy - ay) (A:=2000000) (B:=2000000) (by omega) (by omega) (by omega) (by omega);have m2:=uR (a:=b_y - ay) (b:=cx - ax) (A:=2000000) (B:=2000000) (by omega) (by omega) (by omega) (by omega);unfold cT
 repeat' (conv=>whnf
          refine bm (fun h=>?_) (fun h=>?_))
 all_goals (conv=>whnf)
 all_goals (simp [aA,aC,aH] at *)
 all_goals first|omega|simp [bB,iv]
def aFi:Nat × XF:=(245,gX (s3 cP cP cP fun a b c=>(wide a&&wide b&&wide c,iv (aEP a b c))))
theorem aJh:cE Go.Proofs.Tryz.prog aFi.1 aFi.2:=x3 cP cP cP (xl:=[]) .nil (fun _ _ _=>rfl) fun a b c hp=>by
 obtain⟨ax,ay⟩:=a;obtain⟨bx,b_y⟩:=b;obtain⟨cx,cy⟩:=c;simp only [wide,Bool.and_eq_true,decide_eq_true_eq] at hp;have m1:=uR (a:=bx - ax) (b:=cx - ax) (A:=2000000) (B:=2000000) (by omega) (by omega) (by omega) (by omega);have m2:=uR (a:=b_y - ay) (b:=cy - ay) (A:=2000000) (B:=2000000) (by omega) (by omega) (by omega) (by omega);unfold cT
 repeat' (conv=>whnf
          refine bm (fun h=>?_) (fun h=>?_))
 all_goals (conv=>whnf)
 all_goals (simp [aA,aC,aH] at *)
 all_goals first|omega|simp [aEP,iv]
def A4 (v u w:Int × Int):Int:=if bB v u w<0 then 0 else if 0<bB v u w then 2 else if aEP v u w<0 then 1 else 3
def aGm:Nat × XF:=(216,gX (s3 cP cP cP fun a b c=>(wide a&&wide b&&wide c,iv (A4 a b c))))
theorem aKq:cE Go.Proofs.Tryz.prog aGm.1 aGm.2:=x3 cP cP cP (xl:=[aBK,aFi]) (.cons aHI (.cons aJh .nil)) (fun _ _ _=>rfl) fun a b c hp=>by
 obtain⟨ax,ay⟩:=a;obtain⟨bx,b_y⟩:=b;obtain⟨cx,cy⟩:=c;simp only [Bool.and_eq_true] at hp;unfold cT
 repeat' ((conv=>whnf);refine bm (fun h=>?_) (fun h=>?_))
 all_goals (conv=>whnf)
 all_goals (simp only [nN,B6,decide_eq_true_eq,decide_eq_false_iff_not] at *)
 all_goals first
  |(show iv _=iv (A4 _ _ _);unfold A4;(repeat' split) <;> first|rfl|omega)
  |(simp_all;done)
  |trace_state
def pP (v u w x:Int × Int):Bool:=if A4 v u w=A4 v u x then decide (bB v w x<0) else decide (A4 v u w<A4 v u x)
def aEX:Nat × XF:=(164,gX (s4 cP cP cP cP fun a b c d=>(wide a&&wide b&&wide c&&wide d,.bool (pP a b c d))))
theorem aKD:cE Go.Proofs.Tryz.prog aEX.1 aEX.2:=x4' cP cP cP cP (xl:=[aGm,aBK]) (.cons aKq (.cons aHI .nil)) (fun _ _ _ _=>rfl) fun a b c d hp=>by
 obtain⟨ax,ay⟩:=a;obtain⟨bx,b_y⟩:=b;obtain⟨cx,cy⟩:=c;obtain⟨dx,dy⟩:=d;simp only [Bool.and_eq_true] at hp;unfold cT
 repeat' ((conv=>whnf);refine bm (fun h=>?_) (fun h=>?_))
 all_goals (conv=>whnf)
 all_goals (simp only [nN,HV,kV,B6,Bool.not_eq_true',Bool.not_eq_false',decide_eq_true_eq,decide_eq_false_iff_not] at *)
 all_goals first
  |(show _=Value.bool (pP _ _ _ _);unfold pP;(repeat' split) <;> first|rfl|(simp_all;done)|omega)
  |(simp_all;done)
  |trace_state
abbrev Pt:=Int × Int
structure Ed where
 a:Int
 b:Int
 l:Int
 r:Int
 n:Int
def aU:El Ed:=⟨fun e=>[iv e.a,iv e.b,iv e.l,iv e.r,iv e.n],5,fun _=>rfl,fun _=>rfl,by decide⟩
def cW (m:List Ed)(i:Nat):Ed:=m.getD i ⟨0,0,0,0,0⟩
theorem JO {m:List Ed}{i:Nat}(h:i<m.length):cW m i=m[i]:=by
 unfold cW;rw [List.getD_eq_getElem?_getD,List.getElem?_eq_getElem h];rfl
theorem JN (m:List Ed){i o:Nat}(hi:i<m.length)(ho:o=i*5):mT (flat aU.fl m) o 5=some [iv (cW m i).a,iv (cW m i).b,iv (cW m i).l,iv (cW m i).r,iv (cW m i).n]:=by
 rw [JO hi];exact zD aU m hi ho
theorem GV (m:List Ed)(k:Nat){i o:Nat}{v:Value}(hi:i<m.length)(hk:(aU.fl (cW m i))[k]? = some v)(hk5:k<5)(ho:o=i*5+k):nth (flat aU.fl m) o=some v:=by
 rw [JO hi] at hk;exact nF aU m hi hk hk5 ho
theorem jB (l:List Pt){i o:Nat}(hi:i<l.length)(ho:o=i*2):mT (flat aR.fl l) o 2=some [iv (iM l i).1,iv (iM l i).2]:=by
 rw [nO hi];exact zD aR l hi ho
theorem aG {α:Type}(E:El α){l:List α}{k c:Nat}{wr g:Bool}{sz:Nat}{h:Heap}(hk:look h k=some (.cells wr g sz (flat E.fl l))):gP E h (.slice (some ⟨k,0,none⟩) l.length c) l :=
 ⟨rfl,wr,g,sz,_,hk,by rw [List.drop_zero,List.take_length]⟩
def bL (m:List Ed)(d:Int):Int:=if d % 2=0 then (cW m (d / 2).toNat).a else (cW m (d / 2).toNat).b
def gI (m:List Ed)(d:Int):Int:=bL m (d+1 - 2*(d % 2))
abbrev MS:=List Pt→List Ed→Int→List Value→Option (Bool × Value)
def kM (m:List Ed)(d:Int):Bool:=decide (0≤d)&&decide (d<2*m.length)&&decide (m.length≤1000000)
def sMD (F:List Pt→List Ed→Int→Int→Bool × Value):MS:=fun l m n r=>match r with
 |[.int .i64 d]=>some (F l m n d)
 |_=>none
theorem uL {F:List Pt→List Ed→Int→Int→Bool × Value}{l:List Pt}{m:List Ed}{n:Int}{r:List Value}{v:Value}(h:sMD F l m n r=some (true,v)):∃ d,r=[iv d]∧(F l m n d).1=true∧(F l m n d).2=v:=by
 unfold sMD at h;split at h
 ·rename_i d;injection h with h;exact⟨d,rfl,by rw [h],by rw [h]⟩
 ·cases h
def X87:Nat × XF:=(87,mX aR aU (sMD fun l m n d=>(kM m d,iv (bL m d))))
theorem x87:cE Go.Proofs.Tryz.prog X87.1 X87.2:=l7 aR aU (aK (xl:=[]) .nil) fun l m n r v hs=>by
 obtain⟨d,rfl,hd,rfl⟩:=uL hs;simp only [kM,Bool.and_eq_true,decide_eq_true_eq] at hd;have q1:d.tdiv 2=d / 2:=Int.tdiv_eq_ediv_of_nonneg hd.1.1;have q2:d.tmod 2=d % 2:=Int.tmod_eq_emod_of_nonneg hd.1.1;refine⟨rfl,rfl,fun c1 c2=>?_⟩;((conv=>whnf);refine bm (fun h1=>?_) (fun h1=>?_))
 ·((conv=>whnf);refine bm (fun h2=>?_) (fun h2=>?_))
  ·(conv=>whnf);refine oY (JN m (i:=(d / 2).toNat) (by omega) ?_) ?_
   ·show _+Int.toNat (d.tdiv 2)*5=_;rw [q1];omega
   ((conv=>whnf);refine bm (fun h4=>?_) (fun h4=>?_))
   ·(conv=>whnf);have h4:decide (d.tmod 2=0)=true:=h4;simp only [q2,decide_eq_true_eq] at h4;simp only [bL,if_pos h4]
   ·(conv=>whnf);have h4:decide (d.tmod 2=0)=false:=h4;simp only [q2,decide_eq_false_iff_not] at h4;simp only [bL,if_neg h4]
  ·simp only [aA,aC,q1] at h2;simp at h2;have:=h2 (by omega);omega
 ·simp only [aA,aC,q1,aH] at h1;simp at h1;omega
theorem XQ {m:List Ed}{d:Int}(h:kM m d=true):kM m (d+1 - 2*(d % 2))=true:=by
 simp only [kM,Bool.and_eq_true,decide_eq_true_eq] at *;omega
def aCX:Nat × XF:=(163,mX aR aU (sMD fun l m n d=>(kM m d,iv (gI m d))))
theorem aIi:cE Go.Proofs.Tryz.prog aCX.1 aCX.2:=l7 aR aU (aK (xl:=[X87]) (.cons x87 .nil)) fun l m n r v hs=>by
 obtain⟨d,rfl,hd,rfl⟩:=uL hs;have hd2:=XQ hd;simp only [kM,Bool.and_eq_true,decide_eq_true_eq] at hd;have q2:d.tmod 2=d % 2:=Int.tmod_eq_emod_of_nonneg hd.1.1;refine⟨rfl,rfl,fun c1 c2=>?_⟩
 repeat' ((conv=>whnf);refine bm (fun h1=>?_) (fun h1=>?_))
 all_goals try (simp only [aA,aC,aH,q2] at h1;simp at h1;omega)
 (conv=>whnf);have e:d+1 - 2*(d.tmod 2)=d+1 - 2*(d % 2):=(by rw [q2]);refine⟨l,m,aAb aR rfl,aG aU rfl,?_⟩;((conv=>whnf);refine bm (fun h2=>?_) (fun h2=>?_))
 ·(conv=>whnf);show iv (bL m (d+1 - 2*(d.tmod 2)))=iv (gI m d);rw [e];rfl
 ·have h2:kM m (d+1 - 2*(d.tmod 2))=false:=h2;rw [e,hd2] at h2;cases h2
def fO:El Bool:=⟨fun b=>[.bool b],1,fun _=>rfl,fun _=>rfl,by decide⟩
def cQ (k:List Bool)(i:Nat):Bool:=k.getD i false
theorem qW {k:List Bool}{i:Nat}(h:i<k.length):cQ k i=k[i]:=by
 unfold cQ;rw [List.getD_eq_getElem?_getD,List.getElem?_eq_getElem h];rfl
theorem MD (k:List Bool){i o:Nat}(hi:i<k.length)(ho:o=i*1):nth (flat fO.fl k) o=some (.bool (cQ k i)):=by
 rw [qW hi];exact nF fO k hi (k:=0) rfl Nat.one_pos (by rw [ho];rfl)
def dN (l:List Pt)(i:Int):Pt:=iM l i.toNat
def mF (l:List Pt)(m:List Ed):Bool:=l.all wide&&m.all (fun e=>decide (0≤e.a)&&decide (e.a<l.length)&&decide (0≤e.b)&&decide (e.b<l.length))&&decide (m.length≤1000)&&decide (l.length≤1000)
theorem qF {l:List Pt}{m:List Ed}(h:mF l m=true){i:Nat}(hi:i<m.length):0≤(cW m i).a∧(cW m i).a<l.length∧0≤(cW m i).b∧(cW m i).b<l.length:=by
 simp only [mF,Bool.and_eq_true] at h;have:=List.all_eq_true.1 h.1.1.2 _ (List.getElem_mem hi);rw [JO hi];simp only [Bool.and_eq_true,decide_eq_true_eq] at this;omega
theorem sF {l:List Pt}{m:List Ed}(h:mF l m=true){d:Int}(hd:kM m d=true):0≤bL m d∧bL m d<l.length:=by
 simp only [kM,Bool.and_eq_true,decide_eq_true_eq] at hd;have:=qF h (i:=(d / 2).toNat) (by omega);unfold bL;split <;> omega
theorem D1 {l:List Pt}{m:List Ed}(h:mF l m=true){d:Int}(hd:kM m d=true):0≤gI m d∧gI m d<l.length:=sF h (XQ hd)
theorem pA {l:List Pt}{m:List Ed}(h:mF l m=true){i:Int}(h0:0≤i)(h1:i<l.length):wide (dN l i)=true:=by
 simp only [mF,Bool.and_eq_true] at h;unfold dN;rw [nO (by omega)];exact List.all_eq_true.1 h.1.1.1 _ (List.getElem_mem _)
def fF (l:List Pt)(m:List Ed)(k:List Bool)(d:Int):Nat→Int
 |0=>-1
 |j+1=>if (cQ k j=true∧bL m j=gI m d)∧(fF l m k d j<0∨pP (dN l (gI m d)) (dN l (bL m d)) (dN l (gI m j)) (dN l (gI m (fF l m k d j)))=true) then j else fF l m k d j
theorem xS (l:List Pt)(m:List Ed)(k:List Bool)(d:Int):∀ j:Nat,-1≤fF l m k d j∧fF l m k d j<j
 |0=>by unfold fF;omega
 |j+1=>by
  have:=xS l m k d j;unfold fF;split <;> omega
theorem aCh {l:List Pt}{m:List Ed}{k:List Bool}{d:Int}{j:Nat}(h:¬ ((cQ k j=true∧bL m j=gI m d)∧(fF l m k d j<0∨pP (dN l (gI m d)) (dN l (bL m d)) (dN l (gI m j)) (dN l (gI m (fF l m k d j)))=true))):fF l m k d (j+1)=fF l m k d j:=by
 conv=>lhs;unfold fF
 exact if_neg h
theorem aG9 {l:List Pt}{m:List Ed}{k:List Bool}{d:Int}{j:Nat}(h:((cQ k j=true∧bL m j=gI m d)∧(fF l m k d j<0∨pP (dN l (gI m d)) (dN l (bL m d)) (dN l (gI m j)) (dN l (gI m (fF l m k d j)))=true))):fF l m k d (j+1)=j:=by
 conv=>lhs;unfold fF
 exact if_pos h
def aDk (l:List Pt)(m:List Ed)(n:Int)(k:List Bool):List Value→Option (Bool × Value)
 |[.int .i64 d]=>some (mF l m&&kM m d&&decide (k.length=2*m.length),iv (fF l m k d (2*m.length)))
 |_=>none
theorem Z2 {l:List Pt}{m:List Ed}{n:Int}{k:List Bool}{r:List Value}{v:Value}(h:aDk l m n k r=some (true,v)):∃ d,r=[iv d]∧mF l m=true∧kM m d=true∧k.length=2*m.length∧v=iv (fF l m k d (2*m.length)):=by
 unfold aDk at h;split at h
 ·rename_i d;injection h with h;injection h with h1 h2;simp only [Bool.and_eq_true,decide_eq_true_eq] at h1;exact⟨d,rfl,h1.1.1,h1.1.2,h1.2,h2.symm⟩
 ·cases h
def aX (a b:Nat)(c1 c2:Nat)(n:Int):aV:=.cells true false 1 [.slice (some ⟨0,0,none⟩) a c1,.slice (some ⟨1,0,none⟩) b c2,iv n]
def SY (k:List Bool)(c3:Nat)(d at_ best j:Int):List (Nat × Value):=[(2,.slice (some ⟨2,0,none⟩) k.length c3),(3,.pointer (some ⟨3,0,none⟩)),(7,.pointer (some ⟨4,0,none⟩)),(8,iv at_),(9,.pointer (some ⟨5,0,none⟩)),(10,iv best),(11,iv j)]
def UA (l:List Pt)(m:List Ed)(k:List Bool)(c1 c2:Nat)(n:Int)(u v:Pt):Heap:=(5,.cells true false 1 [iv v.1,iv v.2])::(4,.cells true false 1 [iv u.1,iv u.2])::(3,aX l.length m.length c1 c2 n)::jL aR aU fO l m k
def X79:Nat × XF:=(79,mLX aR aU fO aDk)
theorem x79:cE Go.Proofs.Tryz.prog X79.1 X79.2:=X9 aR aU fO (aK (xl:=[X87,aCX,aEX]) (.cons x87 (.cons aIi (.cons aKD .nil)))) fun l m n k r v hs=>by
 obtain⟨d,rfl,hM,hd,hk,rfl⟩:=Z2 hs;refine⟨rfl,rfl,fun c1 c2 c3=>?_⟩;have hf:=sF hM hd;have ht:=D1 hM hd;have hm:m.length≤1000:=(by simp only [mF,Bool.and_eq_true,decide_eq_true_eq] at hM;exact hM.1.2);(conv=>whnf);refine⟨l,m,aG aR rfl,aG aU rfl,?_⟩;((conv=>whnf);refine bm (fun h1=>?_) (fun h1=>?_))
 ·((conv=>whnf);refine bm (fun h2=>?_) (fun h2=>?_))
  ·(conv=>whnf);refine oY (jB l (i:=(bL m d).toNat) (by omega) ?_) ?_
   ·show _+Int.toNat (bL m d)*2=_;omega
   (conv=>whnf);refine⟨l,m,aG aR rfl,aG aU rfl,?_⟩;((conv=>whnf);refine bm (fun h3=>?_) (fun h3=>?_))
   ·((conv=>whnf);refine bm (fun h4=>?_) (fun h4=>?_))
    ·(conv=>whnf);refine oY (jB l (i:=(gI m d).toNat) (by omega) ?_) ?_
     ·show _+Int.toNat (gI m d)*2=_;omega
     (conv=>whnf);refine⟨fun q e h nx=>∃ (i:Nat) (j:Int),j=i∧i≤2*m.length∧q=2*m.length - i∧e=SY k c3 d (gI m d) (fF l m k d i) j∧h=UA l m k c1 c2 n (dN l (bL m d)) (dN l (gI m d))∧nx=6,⟨2*m.length,?_⟩,?_⟩
     ·refine aL (e0:=SY k c3 d (gI m d) (-1) 0) (h0:=UA l m k c1 c2 n (dN l (bL m d)) (dN l (gI m d))) (n0:=6) ⟨0,0,rfl,Nat.zero_le _,rfl,rfl,rfl,rfl⟩ ?_ ?_ (by decide)
      ·unfold SY;((repeat' refine iE rfl rfl ?_);exact iN)
      ·unfold UA aX jL;((repeat'(first|refine iF rfl rfl ?_|refine iC rfl rfl rfl ?_|refine iJ rfl rfl rfl rfl ?_));exact iN)
     ·rintro q e h nx ⟨i,j,hj,hi,rfl,rfl,rfl,rfl⟩;unfold SY UA aX jL;have lo:=xS l m k d i;((conv=>whnf);refine bm (fun h5=>?_) (fun h5=>?_))
      ·((conv=>whnf);refine bm (fun h6=>?_) (fun h6=>?_))
       ·have hlt:i<2*m.length:=(by simp [aA,aC] at h6;omega);have hdj:kM m j=true:=(by simp only [kM,Bool.and_eq_true,decide_eq_true_eq];omega);have hfj:=sF hM hdj;have htj:=D1 hM hdj;((conv=>whnf);refine bm (fun h7=>?_) (fun h7=>?_))
        ·(conv=>whnf);refine iL (MD k (i:=i) (by omega) ?_) ?_
         ·show _+Int.toNat j*1=_;omega
         ((conv=>whnf);refine bm (fun h8=>?_) (fun h8=>?_))
         ·(conv=>whnf);refine⟨l,m,aG aR rfl,aG aU rfl,?_⟩;((conv=>whnf);refine bm (fun h9=>?_) (fun h9=>?_))
          ·((conv=>whnf);refine bm (fun h10=>?_) (fun h10=>?_))
           ·have h10:bL m j≠gI m d:=(by simpa [aA,aC] using h10);((conv=>whnf);refine bm (fun h11=>?_) (fun h11=>?_))
            ·(conv=>whnf);refine⟨2*m.length - (i+1),by omega,?_⟩;refine aL (e0:=SY k c3 d (gI m d) (fF l m k d i) (j+1)) (h0:=UA l m k c1 c2 n (dN l (bL m d)) (dN l (gI m d))) (n0:=6) ⟨i+1,j+1,by omega,by omega,rfl,?_,rfl,rfl⟩ ?_ ?_ (by decide)
             ·rw [aCh (fun hh=>h10 (by rw [hj];exact hh.1.2))];rfl
             ·unfold SY;((repeat' refine iE rfl rfl ?_);exact iN)
             ·unfold UA aX jL;((repeat'(first|refine iF rfl rfl ?_|refine iC rfl rfl rfl ?_|refine iJ rfl rfl rfl rfl ?_));exact iN)
            ·exfalso;simp [aA,aC,aH] at h11;omega
           ·have h10:bL m j=gI m d:=(by simpa [aA,aC] using h10);(conv=>whnf);refine⟨l,m,aG aR rfl,aG aU rfl,?_⟩;((conv=>whnf);refine bm (fun h11=>?_) (fun h11=>?_))
            ·((conv=>whnf);refine bm (fun h12=>?_) (fun h12=>?_))
             ·(conv=>whnf);refine oY (jB l (i:=(gI m j).toNat) (by omega) ?_) ?_
              ·show _+Int.toNat (gI m j)*2=_;omega
              have h8:cQ k i=true:=(by simpa [aA,aC] using h8);have h10':bL m i=gI m d:=(by rw [← hj];exact h10);((conv=>whnf);refine bm (fun h13=>?_) (fun h13=>?_))
              ·have h13:¬ fF l m k d i<0:=(by simpa [aA,aC] using h13);have hdb:kM m (fF l m k d i)=true:=(by simp only [kM,Bool.and_eq_true,decide_eq_true_eq];omega);have htb:=D1 hM hdb;(conv=>whnf);refine⟨l,m,aG aR rfl,aG aU rfl,?_⟩;((conv=>whnf);refine bm (fun h14=>?_) (fun h14=>?_))
               ·((conv=>whnf);refine bm (fun h15=>?_) (fun h15=>?_))
                ·(conv=>whnf);refine oY (jB l (i:=(gI m (fF l m k d i)).toNat) (by omega) ?_) ?_
                 ·show _+Int.toNat (gI m (fF l m k d i))*2=_;omega
                 ((conv=>whnf);refine bm (fun h16=>?_) (fun h16=>?_))
                 ·((conv=>whnf);refine bm (fun h17=>?_) (fun h17=>?_))
                  ·have h17:pP (dN l (gI m d)) (dN l (bL m d)) (dN l (gI m i)) (dN l (gI m (fF l m k d i)))=true:=(by rw [← hj];exact h17);((conv=>whnf);refine bm (fun h18=>?_) (fun h18=>?_))
                   ·(conv=>whnf);refine⟨2*m.length - (i+1),by omega,?_⟩;refine aL (e0:=SY k c3 d (gI m d) (j) (j+1)) (h0:=UA l m k c1 c2 n (dN l (bL m d)) (dN l (gI m d))) (n0:=6) ⟨i+1,j+1,by omega,by omega,rfl,?_,rfl,rfl⟩ ?_ ?_ (by decide)
                    ·rw [aG9 ⟨⟨h8,h10'⟩,.inr h17⟩,hj];rfl
                    ·unfold SY;((repeat' refine iE rfl rfl ?_);exact iN)
                    ·unfold UA aX jL;((repeat'(first|refine iF rfl rfl ?_|refine iC rfl rfl rfl ?_|refine iJ rfl rfl rfl rfl ?_));exact iN)
                   ·exfalso;simp [aA,aC,aH] at h18;omega
                  ·have h17:¬ pP (dN l (gI m d)) (dN l (bL m d)) (dN l (gI m i)) (dN l (gI m (fF l m k d i)))=true:=(by rw [← hj];exact fun hh=>Bool.false_ne_true (h17.symm.trans hh));((conv=>whnf);refine bm (fun h18=>?_) (fun h18=>?_))
                   ·(conv=>whnf);refine⟨2*m.length - (i+1),by omega,?_⟩;refine aL (e0:=SY k c3 d (gI m d) (fF l m k d i) (j+1)) (h0:=UA l m k c1 c2 n (dN l (bL m d)) (dN l (gI m d))) (n0:=6) ⟨i+1,j+1,by omega,by omega,rfl,?_,rfl,rfl⟩ ?_ ?_ (by decide)
                    ·rw [aCh (fun hh=>hh.2.elim h13 h17)];rfl
                    ·unfold SY;((repeat' refine iE rfl rfl ?_);exact iN)
                    ·unfold UA aX jL;((repeat'(first|refine iF rfl rfl ?_|refine iC rfl rfl rfl ?_|refine iJ rfl rfl rfl rfl ?_));exact iN)
                   ·exfalso;simp [aA,aC,aH] at h18;omega
                 ·exfalso;have e1:=pA hM ht.1 ht.2;have e2:=pA hM hf.1 hf.2;have e3:=pA hM htj.1 htj.2;have e4:=pA hM htb.1 htb.2;have h16:(wide (dN l (gI m d))&&wide (dN l (bL m d))&&wide (dN l (gI m j))&&wide (dN l (gI m (fF l m k d i))))=false:=h16;rw [e1,e2,e3,e4] at h16;cases h16
                ·exfalso;simp [aA,aC] at h15;omega
               ·exfalso;rw [show kM m (fF l m k d i)=false from h14] at hdb;cases hdb
              ·have h13:fF l m k d i<0:=(by simpa [aA,aC] using h13);((conv=>whnf);refine bm (fun h18=>?_) (fun h18=>?_))
               ·(conv=>whnf);refine⟨2*m.length - (i+1),by omega,?_⟩;refine aL (e0:=SY k c3 d (gI m d) (j) (j+1)) (h0:=UA l m k c1 c2 n (dN l (bL m d)) (dN l (gI m d))) (n0:=6) ⟨i+1,j+1,by omega,by omega,rfl,?_,rfl,rfl⟩ ?_ ?_ (by decide)
                ·rw [aG9 ⟨⟨h8,h10'⟩,.inl h13⟩,hj];rfl
                ·unfold SY;((repeat' refine iE rfl rfl ?_);exact iN)
                ·unfold UA aX jL;((repeat'(first|refine iF rfl rfl ?_|refine iC rfl rfl rfl ?_|refine iJ rfl rfl rfl rfl ?_));exact iN)
               ·exfalso;simp [aA,aC,aH] at h18;omega
             ·exfalso;simp [aA,aC] at h12;omega
            ·exfalso;rw [show kM m j=false from h11] at hdj;cases hdj
          ·exfalso;rw [show kM m j=false from h9] at hdj;cases hdj
         ·have h8:cQ k i=false:=(by simpa [aA,aC] using h8);((conv=>whnf);refine bm (fun h11=>?_) (fun h11=>?_))
          ·(conv=>whnf);refine⟨2*m.length - (i+1),by omega,?_⟩;refine aL (e0:=SY k c3 d (gI m d) (fF l m k d i) (j+1)) (h0:=UA l m k c1 c2 n (dN l (bL m d)) (dN l (gI m d))) (n0:=6) ⟨i+1,j+1,by omega,by omega,rfl,?_,rfl,rfl⟩ ?_ ?_ (by decide)
           ·rw [aCh (fun hh=>by rw [h8] at hh;cases hh.1.1)];rfl
           ·unfold SY;((repeat' refine iE rfl rfl ?_);exact iN)
           ·unfold UA aX jL;((repeat'(first|refine iF rfl rfl ?_|refine iC rfl rfl rfl ?_|refine iJ rfl rfl rfl rfl ?_));exact iN)
          ·exfalso;simp [aA,aC,aH] at h11;omega
        ·exfalso;simp [aA,aC] at h7;omega
       ·have hge:i=2*m.length:=(by simp [aA,aC] at h6;omega);(conv=>whnf);rw [hge]
      ·exfalso;simp [aA,aC,aH] at h5;omega
    ·exfalso;simp [aA,aC] at h4;omega
   ·exfalso;rw [show kM m d=false from h3] at hd;cases hd
  ·exfalso;simp [aA,aC] at h2;omega
 ·exfalso;rw [show kM m d=false from h1] at hd;cases hd
def aN (k:List Int)(i:Nat):Int:=k.getD i 0
theorem gK {k:List Int}{i:Nat}(h:i<k.length):aN k i=k[i]:=by
 unfold aN;rw [List.getD_eq_getElem?_getD,List.getElem?_eq_getElem h];rfl
theorem fP (k:List Int){i o:Nat}(hi:i<k.length)(ho:o=i*1):nth (flat aP.fl k) o=some (iv (aN k i)):=by
 rw [gK hi];exact nF aP k hi (k:=0) rfl Nat.one_pos (by rw [ho];rfl)
def LF (l:List Pt)(m:List Ed)(d:Int):Int:=(dN l (bL m d)).1*(dN l (gI m d)).2 - (dN l (gI m d)).1*(dN l (bL m d)).2
def lK (l:List Pt)(m:List Ed)(k:List Int):Nat→Int
 |0=>0
 |i+1=>lK l m k i+LF l m (aN k i)
theorem MC {p:Pt}(h:wide p=true) : -1000000≤p.1∧p.1≤1000000∧-1000000≤p.2∧p.2≤1000000:=by
 simp only [wide,Bool.and_eq_true,decide_eq_true_eq] at h;omega
theorem L6 {l:List Pt}{m:List Ed}(hM:mF l m=true){d:Int}(hd:kM m d=true) :
  -1000000000000≤(dN l (bL m d)).1*(dN l (gI m d)).2∧(dN l (bL m d)).1*(dN l (gI m d)).2≤1000000000000∧-1000000000000≤(dN l (gI m d)).1*(dN l (bL m d)).2∧(dN l (gI m d)).1*(dN l (bL m d)).2≤1000000000000:=by
 have hf:=sF hM hd;have ht:=D1 hM hd;have w1:=MC (pA hM hf.1 hf.2);have w2:=MC (pA hM ht.1 ht.2);have m1:=uR (a:=(dN l (bL m d)).1) (b:=(dN l (gI m d)).2) (A:=1000000) (B:=1000000) (by omega) (by omega) (by omega) (by omega);have m2:=uR (a:=(dN l (gI m d)).1) (b:=(dN l (bL m d)).2) (A:=1000000) (B:=1000000) (by omega) (by omega) (by omega) (by omega);omega
theorem L9 {l:List Pt}{m:List Ed}{k:List Int}(hM:mF l m=true)(hk:∀ i,i<k.length→kM m (aN k i)=true):∀ i,i≤k.length→-2000000000000*(i:Int)≤lK l m k i∧lK l m k i≤2000000000000*(i:Int)
 |0,_=>by unfold lK;omega
 |i+1,hi=>by
  have h1:=L9 hM hk i (by omega);have h2:=L6 hM (hk i (by omega));unfold lK LF;omega
def J5 (m:List Ed)(k:List Int):Bool:=k.all (kM m)
theorem pY {m:List Ed}{k:List Int}(h:J5 m k=true){i:Nat}(hi:i<k.length):kM m (aN k i)=true:=by
 rw [gK hi];exact List.all_eq_true.1 h _ (List.getElem_mem hi)
def aCS (l:List Pt)(m:List Ed)(n:Int)(k:List Int):List Value→Option (Bool × Value)
 |[]=>some (mF l m&&J5 m k&&decide (k.length≤10000),iv (lK l m k k.length))
 |_=>none
theorem XN {l:List Pt}{m:List Ed}{n:Int}{k:List Int}{r:List Value}{v:Value}(h:aCS l m n k r=some (true,v)):r=[]∧mF l m=true∧J5 m k=true∧k.length≤10000∧v=iv (lK l m k k.length):=by
 unfold aCS at h;split at h
 ·injection h with h;injection h with h1 h2;simp only [Bool.and_eq_true,decide_eq_true_eq] at h1;exact⟨rfl,h1.1.1,h1.1.2,h1.2,h2.symm⟩
 ·cases h
def e90 (k:List Int)(c3:Nat)(a j:Int):List (Nat × Value):=[(1,.slice (some ⟨2,0,none⟩) k.length c3),(2,.pointer (some ⟨3,0,none⟩)),(5,iv a),(6,iv j)]
def h90 (l:List Pt)(m:List Ed)(k:List Int)(c1 c2:Nat)(n:Int):Heap:=(3,aX l.length m.length c1 c2 n)::jL aR aU aP l m k
def X90:Nat × XF:=(90,mLX aR aU aP aCS)
theorem x90:cE Go.Proofs.Tryz.prog X90.1 X90.2:=X9 aR aU aP (aK (xl:=[X87,aCX]) (.cons x87 (.cons aIi .nil))) fun l m n k r v hs=>by
 obtain⟨rfl,hM,hkk,hk,rfl⟩:=XN hs;refine⟨rfl,rfl,fun c1 c2 c3=>?_⟩;have hm:m.length≤1000:=(by simp only [mF,Bool.and_eq_true,decide_eq_true_eq] at hM;exact hM.1.2);(conv=>whnf);refine⟨fun q e h nx=>∃ (i:Nat) (j:Int),j=i∧i≤k.length∧q=k.length - i∧e=e90 k c3 (lK l m k i) j∧h=h90 l m k c1 c2 n∧nx=4,⟨k.length,?_⟩,?_⟩
 ·refine aL (e0:=e90 k c3 0 0) (h0:=h90 l m k c1 c2 n) (n0:=4) ⟨0,0,rfl,Nat.zero_le _,rfl,rfl,rfl,rfl⟩ ?_ ?_ (by decide)
  ·unfold e90;((repeat' refine iE rfl rfl ?_);exact iN)
  ·unfold h90 aX jL;((repeat'(first|refine iF rfl rfl ?_|refine iC rfl rfl rfl ?_|refine iJ rfl rfl rfl rfl ?_));exact iN)
 ·rintro q e h nx ⟨i,j,hj,hi,rfl,rfl,rfl,rfl⟩;unfold e90 h90 aX jL;((conv=>whnf);refine bm (fun h6=>?_) (fun h6=>?_))
  ·have hlt:i<k.length:=(by simp [aA,aC] at h6;omega);have hdj:=pY hkk hlt;have hf:=sF hM hdj;have ht:=D1 hM hdj;have lo:=L9 hM (fun i hi=>pY hkk hi) i hi;have pl:=L6 hM hdj;((conv=>whnf);refine bm (fun h7=>?_) (fun h7=>?_))
   ·(conv=>whnf);refine iL (fP k (i:=i) hlt ?_) ?_
    ·show _+Int.toNat j*1=_;omega
    (conv=>whnf);refine⟨l,m,aG aR rfl,aG aU rfl,?_⟩;((conv=>whnf);refine bm (fun h8=>?_) (fun h8=>?_))
    ·((conv=>whnf);refine bm (fun h9=>?_) (fun h9=>?_))
     ·(conv=>whnf);refine oY (jB l (i:=(bL m (aN k i)).toNat) (by omega) ?_) ?_
      ·show _+Int.toNat (bL m (aN k i))*2=_;omega
      ((conv=>whnf);refine bm (fun h10=>?_) (fun h10=>?_))
      ·(conv=>whnf);refine iL (fP k (i:=i) hlt ?_) ?_
       ·show _+Int.toNat j*1=_;omega
       (conv=>whnf);refine⟨l,m,aG aR rfl,aG aU rfl,?_⟩;((conv=>whnf);refine bm (fun h11=>?_) (fun h11=>?_))
       ·((conv=>whnf);refine bm (fun h12=>?_) (fun h12=>?_))
        ·(conv=>whnf);refine oY (jB l (i:=(gI m (aN k i)).toNat) (by omega) ?_) ?_
         ·show _+Int.toNat (gI m (aN k i))*2=_;omega
         repeat' ((conv=>whnf);refine bm (fun h13=>?_) (fun h13=>?_))
         all_goals try (exfalso;simp [aA,aC,aH] at h13;simp only [dN] at *;omega)
         (conv=>whnf);refine⟨k.length - (i+1),by omega,?_⟩;refine aL (e0:=e90 k c3 (lK l m k i+(dN l (bL m (aN k i))).1*(dN l (gI m (aN k i))).2 - (dN l (gI m (aN k i))).1*(dN l (bL m (aN k i))).2) (j+1)) (h0:=h90 l m k c1 c2 n) (n0:=4) ⟨i+1,j+1,by omega,hlt,rfl,?_,rfl,rfl⟩ ?_ ?_ (by decide)
         ·congr 4;rw [show lK l m k (i+1)=lK l m k i+LF l m (aN k i) from rfl];unfold LF;omega
         ·unfold e90;((repeat' refine iE rfl rfl ?_);exact iN)
         ·unfold h90 aX jL;((repeat'(first|refine iF rfl rfl ?_|refine iC rfl rfl rfl ?_|refine iJ rfl rfl rfl rfl ?_));exact iN)
        ·exfalso;simp [aA,aC] at h12;omega
       ·exfalso;rw [show kM m (aN k i)=false from h11] at hdj;cases hdj
      ·exfalso;simp [aA,aC] at h10;omega
     ·exfalso;simp [aA,aC] at h9;omega
    ·exfalso;rw [show kM m (aN k i)=false from h8] at hdj;cases hdj
   ·exfalso;simp [aA,aC] at h7;omega
  ·have hge:i=k.length:=(by simp [aA,aC] at h6;omega);(conv=>whnf);rw [hge]
end Go.Aw
end
