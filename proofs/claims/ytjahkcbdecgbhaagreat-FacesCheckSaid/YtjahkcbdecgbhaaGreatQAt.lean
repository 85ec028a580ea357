/-
  Parts of the proof, put together. No condition.
-/
import Derived.Test.YtjahkcbdecgbhaaGreatQAr
import Derived.Test.YtjahkcbdecgbhaaGreatQAs
set_option linter.unusedSimpArgs false
set_option linter.unusedVariables false
noncomputable section
namespace Go.Aw
set_option maxRecDepth 100000
def X170:Nat × XF:=(170,gX (s2 cP cP fun a b=>(true,iv (ordS a b))))
theorem x170:XOK Go.Proofs.Tryz.prog X170.1 X170.2:=x2 cP cP (xl:=[X101,X114]) (.cons x101 (.cons x114 .nil)) (fun _ _=>rfl) fun a b _=>by
 obtain⟨ax,ay⟩:=a
 obtain⟨bx,b_y⟩:=b
 unfold Does1
 conv=>whnf
 refine⟨[cmpI ax bx,cmpI ay b_y],⟨rfl,_,_,_,_,rfl,rfl⟩,?_⟩
 conv=>whnf
 rfl
section
variable {α β γ δ:Type}(a:Cd α)(b:Cd β)(c:Cd γ)(d:Cd δ)
def s4 (F:α→β→γ→δ→Bool × Value):List Value→Option (Bool × Value)
 |[u,v,w,t]=>(match a.dec u with|some x=>(match b.dec v with|some y=>(match c.dec w with|some z=>(match d.dec t with|some s=>some (F x y z s)|none=>none)|none=>none)|none=>none)|none=>none)
 |_=>none
theorem s4_inv {F:α→β→γ→δ→Bool × Value}{args:List Value}{r:Bool × Value}(h:s4 a b c d F args=some r):∃ x y z s,args=[a.enc x,b.enc y,c.enc z,d.enc s]∧F x y z s=r:=by
 unfold s4 at h
 split at h
 ·split at h
  ·rename_i x e
   split at h
   ·rename_i y e2
    split at h
    ·rename_i z e3
     split at h
     ·rename_i s e4
      injection h with h
      exact⟨x,y,z,s,by rw [a.ok _ _ e,b.ok _ _ e2,c.ok _ _ e3,d.ok _ _ e4],h⟩
     ·cases h
    ·cases h
   ·cases h
  ·cases h
 ·cases h
theorem x4' {xl:List (Nat × XF)}(hx:XLOK xl){f:Nat}{F:α→β→γ→δ→Bool × Value}(hg:∀ x y z s,gT (F x y z s).2=true)(h:∀ x y z s,(F x y z s).1=true→Does1 xl f [a.enc x,b.enc y,c.enc z,d.enc s] (F x y z s).2):XOK Go.Proofs.Tryz.prog f (gX (s4 a b c d F)) :=
 gX_ok (body_calls hx) fun args v hs=>by
  obtain⟨x,y,z,s,rfl,e⟩:=s4_inv a b c d hs
  have h1:(F x y z s).1=true:=by rw [e]
  have h2:(F x y z s).2=v:=by rw [e]
  subst h2
  exact⟨by simp [allGA,a.gr,b.gr,c.gr,d.gr],hg x y z s,h x y z s h1⟩
end
theorem eqF_t {b:Bool}(h:cfgS.A.eqB b false=true):b=false:=by cases b <;> first|rfl|cases h
theorem eqF_f {b:Bool}(h:cfgS.A.eqB b false=false):b=true:=by cases b <;> first|rfl|cases h
def mxI (a b:Int):Int:=if b > a then b else a
def mnI (a b:Int):Int:=if b<a then b else a
def apI (a b c d:Int):Bool:=decide (mxI a b<mnI c d) || decide (mxI c d<mnI a b)
def X228:Nat × XF:=(228,gX (s4 cI cI cI cI fun a b c d=>(true,.bool (apI a b c d))))
theorem x228:XOK Go.Proofs.Tryz.prog X228.1 X228.2:=x4' cI cI cI cI (xl:=[]) .nil (fun _ _ _ _=>rfl) fun a b c d _=>by
 unfold Does1
 repeat' (conv=>whnf
          refine bm (fun h=>?_) (fun h=>?_))
 all_goals (conv=>whnf)
 all_goals (show _=Value.bool (apI a b c d))
 ·have h1:decide (mxI a b<mnI c d)=false:=eqF_t h
  unfold apI;rw [h1];rfl
 ·have h1:decide (mxI a b<mnI c d)=true:=eqF_f h
  unfold apI;rw [h1];rfl
def farS (s t:Sg):Bool:=apI s.1.1 s.2.1 t.1.1 t.2.1 || apI s.1.2 s.2.2 t.1.2 t.2.2
def X197:Nat × XF:=(197,gX (s2 cS cS fun s t=>(true,.bool (farS s t))))
theorem x197:XOK Go.Proofs.Tryz.prog X197.1 X197.2:=x2 cS cS (xl:=[X228]) (.cons x228 .nil) (fun _ _=>rfl) fun s t _=>by
 obtain⟨⟨ax,ay⟩,⟨bx,b2⟩⟩:=s
 obtain⟨⟨cx,cy⟩,⟨dx,dy⟩⟩:=t
 unfold Does1
 repeat' (conv=>whnf
          refine bm (fun h=>?_) (fun h=>?_))
 all_goals (conv=>whnf)
 ·have h1:apI ax bx cx dx=false:=eqF_t h
  show _=Value.bool (farS _ _);unfold farS;rw [h1];rfl
 ·have h1:apI ax bx cx dx=true:=eqF_f h
  show _=Value.bool (farS _ _);unfold farS;rw [h1];rfl
def meetF (s t:Sg):Int:=if farS s t=true then 0 else MeetV s t
def X119m:Nat × XF:=(119,gX (s2 cS cS fun s t=>(true,u8 (meetF s t))))
theorem x119m:XOK Go.Proofs.Tryz.prog X119m.1 X119m.2:=x2 cS cS (xl:=[X197,X22]) (.cons x197 (.cons x22 .nil)) (fun _ _=>rfl) fun s t _=>by
 obtain⟨⟨ax,ay⟩,⟨bx,b2⟩⟩:=s
 obtain⟨⟨cx,cy⟩,⟨dx,dy⟩⟩:=t
 unfold Does1
 repeat' (conv=>whnf
          refine bm (fun h=>?_) (fun h=>?_))
 all_goals (conv=>whnf)
 ·have h1:farS ((ax,ay),(bx,b2)) ((cx,cy),(dx,dy))=true:=h
  show _=u8 _;simp only [meetF,h1,if_true];rfl
 ·have h1:farS ((ax,ay),(bx,b2)) ((cx,cy),(dx,dy))=false:=h
  show _=u8 _;simp only [meetF,h1];rfl
end Go.Aw
end

noncomputable section
namespace Go.Aw
set_option maxRecDepth 100000
def lessI (a b:Int × Int):Bool:=decide (a.1<b.1) || (decide (a.1=b.1)&&decide (a.2<b.2))
def X212:Nat × XF:=(212,gX (s2 cP cP fun a b=>(true,.bool (lessI a b))))
theorem x212:XOK Go.Proofs.Tryz.prog X212.1 X212.2:=x2 cP cP (xl:=[]) .nil (fun _ _=>rfl) fun a b _=>by
 obtain⟨ax,ay⟩:=a
 obtain⟨bx,b_y⟩:=b
 unfold Does1
 repeat' ((conv=>whnf);refine bm (fun h=>?_) (fun h=>?_))
 all_goals (conv=>whnf)
 all_goals (simp only [cA_lt,cA_eq,cA_eqB,cA_notB,beq_iff_eq,beq_eq_false_iff_ne,ne_eq,Bool.not_eq_false,Bool.not_eq_true,decide_eq_true_eq,decide_eq_false_iff_not] at *)
 all_goals (show _=Value.bool (lessI _ _);unfold lessI;simp_all)
def dotI (a b c:Int × Int):Int:=(b.1 - a.1)*(c.1 - a.1)+(b.2 - a.2)*(c.2 - a.2)
def X217:Nat × XF:=(217,gX (s3 cP cP cP fun a b c=>(wide a&&wide b&&wide c,iv (crossI a b c))))
theorem x217:XOK Go.Proofs.Tryz.prog X217.1 X217.2:=x3 cP cP cP (xl:=[]) .nil (fun _ _ _=>rfl) fun a b c hp=>by
 obtain⟨ax,ay⟩:=a
 obtain⟨bx,b_y⟩:=b
 obtain⟨cx,cy⟩:=c
 simp only [wide,Bool.and_eq_true,decide_eq_true_eq] at hp
 have m1:=mulB (a:=bx - ax) (b:=cy - ay) (A:=2000000) (B:=2000000) (by omega) (by omega) (by omega) (by omega)
 have m2:=mulB (a:=b_y - ay) (b:=cx - ax) (A:=2000000) (B:=2000000) (by omega) (by omega) (by omega) (by omega)
 unfold Does1
 repeat' (conv=>whnf
          refine bm (fun h=>?_) (fun h=>?_))
 all_goals (conv=>whnf)
 all_goals (simp [cfgS,std,fitsK] at *)
 all_goals first|omega|simp [crossI,iv]
def X245:Nat × XF:=(245,gX (s3 cP cP cP fun a b c=>(wide a&&wide b&&wide c,iv (dotI a b c))))
theorem x245:XOK Go.Proofs.Tryz.prog X245.1 X245.2:=x3 cP cP cP (xl:=[]) .nil (fun _ _ _=>rfl) fun a b c hp=>by
 obtain⟨ax,ay⟩:=a
 obtain⟨bx,b_y⟩:=b
 obtain⟨cx,cy⟩:=c
 simp only [wide,Bool.and_eq_true,decide_eq_true_eq] at hp
 have m1:=mulB (a:=bx - ax) (b:=cx - ax) (A:=2000000) (B:=2000000) (by omega) (by omega) (by omega) (by omega)
 have m2:=mulB (a:=b_y - ay) (b:=cy - ay) (A:=2000000) (B:=2000000) (by omega) (by omega) (by omega) (by omega)
 unfold Does1
 repeat' (conv=>whnf
          refine bm (fun h=>?_) (fun h=>?_))
 all_goals (conv=>whnf)
 all_goals (simp [cfgS,std,fitsK] at *)
 all_goals first|omega|simp [dotI,iv]
def rankI (v u w:Int × Int):Int:=if crossI v u w<0 then 0 else if 0<crossI v u w then 2 else if dotI v u w<0 then 1 else 3
def X216:Nat × XF:=(216,gX (s3 cP cP cP fun a b c=>(wide a&&wide b&&wide c,iv (rankI a b c))))
theorem x216:XOK Go.Proofs.Tryz.prog X216.1 X216.2:=x3 cP cP cP (xl:=[X217,X245]) (.cons x217 (.cons x245 .nil)) (fun _ _ _=>rfl) fun a b c hp=>by
 obtain⟨ax,ay⟩:=a
 obtain⟨bx,b_y⟩:=b
 obtain⟨cx,cy⟩:=c
 simp only [Bool.and_eq_true] at hp
 unfold Does1
 repeat' ((conv=>whnf);refine bm (fun h=>?_) (fun h=>?_))
 all_goals (conv=>whnf)
 all_goals (simp only [cA_lt,pEta,decide_eq_true_eq,decide_eq_false_iff_not] at *)
 all_goals first
  |(show iv _=iv (rankI _ _ _);unfold rankI;(repeat' split) <;> first|rfl|omega)
  |(simp_all;done)
  |trace_state
def soonI (v u w x:Int × Int):Bool:=if rankI v u w=rankI v u x then decide (crossI v w x<0) else decide (rankI v u w<rankI v u x)
def X164:Nat × XF:=(164,gX (s4 cP cP cP cP fun a b c d=>(wide a&&wide b&&wide c&&wide d,.bool (soonI a b c d))))
theorem x164:XOK Go.Proofs.Tryz.prog X164.1 X164.2:=x4' cP cP cP cP (xl:=[X216,X217]) (.cons x216 (.cons x217 .nil)) (fun _ _ _ _=>rfl) fun a b c d hp=>by
 obtain⟨ax,ay⟩:=a
 obtain⟨bx,b_y⟩:=b
 obtain⟨cx,cy⟩:=c
 obtain⟨dx,dy⟩:=d
 simp only [Bool.and_eq_true] at hp
 unfold Does1
 repeat' ((conv=>whnf);refine bm (fun h=>?_) (fun h=>?_))
 all_goals (conv=>whnf)
 all_goals (simp only [cA_lt,cA_eq,cA_notB,pEta,Bool.not_eq_true',Bool.not_eq_false',decide_eq_true_eq,decide_eq_false_iff_not] at *)
 all_goals first
  |(show _=Value.bool (soonI _ _ _ _);unfold soonI;(repeat' split) <;> first|rfl|(simp_all;done)|omega)
  |(simp_all;done)
  |trace_state
end Go.Aw
end

noncomputable section
namespace Go.Aw
set_option maxRecDepth 100000
abbrev Pt:=Int × Int
structure Ed where
 a:Int
 b:Int
 l:Int
 r:Int
 n:Int
def elE:El Ed:=⟨fun e=>[iv e.a,iv e.b,iv e.l,iv e.r,iv e.n],5,fun _=>rfl,fun _=>rfl,by decide⟩
def atE (m:List Ed)(i:Nat):Ed:=m.getD i ⟨0,0,0,0,0⟩
theorem atE_eq {m:List Ed}{i:Nat}(h:i<m.length):atE m i=m[i]:=by
 unfold atE
 rw [List.getD_eq_getElem?_getD,List.getElem?_eq_getElem h]
 rfl
theorem getE (m:List Ed){i o:Nat}(hi:i<m.length)(ho:o=i*5):getN (flat elE.fl m) o 5=some [iv (atE m i).a,iv (atE m i).b,iv (atE m i).l,iv (atE m i).r,iv (atE m i).n]:=by
 rw [atE_eq hi]
 exact flat_get elE m hi ho
theorem ed_k (m:List Ed)(k:Nat){i o:Nat}{v:Value}(hi:i<m.length)(hk:(elE.fl (atE m i))[k]? = some v)(hk5:k<5)(ho:o=i*5+k):nth (flat elE.fl m) o=some v:=by
 rw [atE_eq hi] at hk
 exact nth_flat elE m hi hk hk5 ho
theorem getPt (l:List Pt){i o:Nat}(hi:i<l.length)(ho:o=i*2):getN (flat elP.fl l) o 2=some [iv (at2 l i).1,iv (at2 l i).2]:=by
 rw [at2_eq hi]
 exact flat_get elP l hi ho
theorem LsAt_at {α:Type}(E:El α){l:List α}{k c:Nat}{wr g:Bool}{sz:Nat}{h:Heap}(hk:look h k=some (.cells wr g sz (flat E.fl l))):LsAt E h (.slice (some ⟨k,0,none⟩) l.length c) l :=
 ⟨rfl,wr,g,sz,_,hk,by rw [List.drop_zero,List.take_length]⟩
def fromI (m:List Ed)(d:Int):Int:=if d % 2=0 then (atE m (d / 2).toNat).a else (atE m (d / 2).toNat).b
def toI (m:List Ed)(d:Int):Int:=fromI m (d+1 - 2*(d % 2))
abbrev MS:=List Pt→List Ed→Int→List Value→Option (Bool × Value)
def inD (m:List Ed)(d:Int):Bool:=decide (0≤d)&&decide (d<2*m.length)&&decide (m.length≤1000000)
def sMD (F:List Pt→List Ed→Int→Int→Bool × Value):MS:=fun l m n r=>match r with
 |[.int .i64 d]=>some (F l m n d)
 |_=>none
theorem sMD_inv {F:List Pt→List Ed→Int→Int→Bool × Value}{l:List Pt}{m:List Ed}{n:Int}{r:List Value}{v:Value}(h:sMD F l m n r=some (true,v)):∃ d,r=[iv d]∧(F l m n d).1=true∧(F l m n d).2=v:=by
 unfold sMD at h
 split at h
 ·rename_i d
  injection h with h
  exact⟨d,rfl,by rw [h],by rw [h]⟩
 ·cases h
def X87:Nat × XF:=(87,mX elP elE (sMD fun l m n d=>(inD m d,iv (fromI m d))))
theorem x87:XOK Go.Proofs.Tryz.prog X87.1 X87.2:=mX_ok elP elE (body_calls (xl:=[]) .nil) fun l m n r v hs=>by
 obtain⟨d,rfl,hd,rfl⟩:=sMD_inv hs
 simp only [inD,Bool.and_eq_true,decide_eq_true_eq] at hd
 have q1:d.tdiv 2=d / 2:=Int.tdiv_eq_ediv_of_nonneg hd.1.1
 have q2:d.tmod 2=d % 2:=Int.tmod_eq_emod_of_nonneg hd.1.1
 refine⟨rfl,rfl,fun c1 c2=>?_⟩
 ((conv=>whnf);refine bm (fun h1=>?_) (fun h1=>?_))
 ·((conv=>whnf);refine bm (fun h2=>?_) (fun h2=>?_))
  ·(conv=>whnf)
   refine boL (getE m (i:=(d / 2).toNat) (by omega) ?_) ?_
   ·show _+Int.toNat (d.tdiv 2)*5=_;rw [q1];omega
   ((conv=>whnf);refine bm (fun h4=>?_) (fun h4=>?_))
   ·(conv=>whnf)
    have h4:decide (d.tmod 2=0)=true:=h4
    simp only [q2,decide_eq_true_eq] at h4
    simp only [fromI,if_pos h4]
   ·(conv=>whnf)
    have h4:decide (d.tmod 2=0)=false:=h4
    simp only [q2,decide_eq_false_iff_not] at h4
    simp only [fromI,if_neg h4]
  ·simp only [cfgS,std,q1] at h2
   simp at h2
   have:=h2 (by omega)
   omega
 ·simp only [cfgS,std,q1,fitsK] at h1
  simp at h1
  omega
theorem inD_to {m:List Ed}{d:Int}(h:inD m d=true):inD m (d+1 - 2*(d % 2))=true:=by
 simp only [inD,Bool.and_eq_true,decide_eq_true_eq] at *
 omega
def X163:Nat × XF:=(163,mX elP elE (sMD fun l m n d=>(inD m d,iv (toI m d))))
theorem x163:XOK Go.Proofs.Tryz.prog X163.1 X163.2:=mX_ok elP elE (body_calls (xl:=[X87]) (.cons x87 .nil)) fun l m n r v hs=>by
 obtain⟨d,rfl,hd,rfl⟩:=sMD_inv hs
 have hd2:=inD_to hd
 simp only [inD,Bool.and_eq_true,decide_eq_true_eq] at hd
 have q2:d.tmod 2=d % 2:=Int.tmod_eq_emod_of_nonneg hd.1.1
 refine⟨rfl,rfl,fun c1 c2=>?_⟩
 repeat' ((conv=>whnf);refine bm (fun h1=>?_) (fun h1=>?_))
 all_goals try (simp only [cfgS,std,fitsK,q2] at h1;simp at h1;omega)
 (conv=>whnf)
 have e:d+1 - 2*(d.tmod 2)=d+1 - 2*(d % 2):=by rw [q2]
 refine⟨l,m,LsAt_own elP rfl,LsAt_at elE rfl,?_⟩
 ((conv=>whnf);refine bm (fun h2=>?_) (fun h2=>?_))
 ·(conv=>whnf)
  show iv (fromI m (d+1 - 2*(d.tmod 2)))=iv (toI m d)
  rw [e];rfl
 ·have h2:inD m (d+1 - 2*(d.tmod 2))=false:=h2
  rw [e,hd2] at h2
  cases h2
end Go.Aw
end

noncomputable section
namespace Go.Aw
set_option maxRecDepth 100000
def elB:El Bool:=⟨fun b=>[.bool b],1,fun _=>rfl,fun _=>rfl,by decide⟩
def atB (k:List Bool)(i:Nat):Bool:=k.getD i false
theorem atB_eq {k:List Bool}{i:Nat}(h:i<k.length):atB k i=k[i]:=by
 unfold atB
 rw [List.getD_eq_getElem?_getD,List.getElem?_eq_getElem h]
 rfl
theorem getB (k:List Bool){i o:Nat}(hi:i<k.length)(ho:o=i*1):nth (flat elB.fl k) o=some (.bool (atB k i)):=by
 rw [atB_eq hi]
 exact nth_flat elB k hi (k:=0) rfl Nat.one_pos (by rw [ho];rfl)
def ptI (l:List Pt)(i:Int):Pt:=at2 l i.toNat
def okM (l:List Pt)(m:List Ed):Bool:=l.all wide&&m.all (fun e=>decide (0≤e.a)&&decide (e.a<l.length)&&decide (0≤e.b)&&decide (e.b<l.length))&&decide (m.length≤1000)&&decide (l.length≤1000)
theorem okM_at {l:List Pt}{m:List Ed}(h:okM l m=true){i:Nat}(hi:i<m.length):0≤(atE m i).a∧(atE m i).a<l.length∧0≤(atE m i).b∧(atE m i).b<l.length:=by
 simp only [okM,Bool.and_eq_true] at h
 have:=List.all_eq_true.1 h.1.1.2 _ (List.getElem_mem hi)
 rw [atE_eq hi]
 simp only [Bool.and_eq_true,decide_eq_true_eq] at this
 omega
theorem okM_from {l:List Pt}{m:List Ed}(h:okM l m=true){d:Int}(hd:inD m d=true):0≤fromI m d∧fromI m d<l.length:=by
 simp only [inD,Bool.and_eq_true,decide_eq_true_eq] at hd
 have:=okM_at h (i:=(d / 2).toNat) (by omega)
 unfold fromI
 split <;> omega
theorem okM_to {l:List Pt}{m:List Ed}(h:okM l m=true){d:Int}(hd:inD m d=true):0≤toI m d∧toI m d<l.length:=okM_from h (inD_to hd)
theorem okM_wide {l:List Pt}{m:List Ed}(h:okM l m=true){i:Int}(h0:0≤i)(h1:i<l.length):wide (ptI l i)=true:=by
 simp only [okM,Bool.and_eq_true] at h
 unfold ptI
 rw [at2_eq (by omega)]
 exact List.all_eq_true.1 h.1.1.1 _ (List.getElem_mem _)
def folR (l:List Pt)(m:List Ed)(k:List Bool)(d:Int):Nat→Int
 |0=>-1
 |j+1=>if (atB k j=true∧fromI m j=toI m d)∧(folR l m k d j<0∨soonI (ptI l (toI m d)) (ptI l (fromI m d)) (ptI l (toI m j)) (ptI l (toI m (folR l m k d j)))=true) then j else folR l m k d j
theorem folR_low (l:List Pt)(m:List Ed)(k:List Bool)(d:Int):∀ j:Nat,-1≤folR l m k d j∧folR l m k d j<j
 |0=>by unfold folR;omega
 |j+1=>by
  have:=folR_low l m k d j
  unfold folR
  split <;> omega
theorem folK {l:List Pt}{m:List Ed}{k:List Bool}{d:Int}{j:Nat}(h:¬ ((atB k j=true∧fromI m j=toI m d)∧(folR l m k d j<0∨soonI (ptI l (toI m d)) (ptI l (fromI m d)) (ptI l (toI m j)) (ptI l (toI m (folR l m k d j)))=true))):folR l m k d (j+1)=folR l m k d j:=by
 conv=>lhs;unfold folR
 exact if_neg h
theorem folT {l:List Pt}{m:List Ed}{k:List Bool}{d:Int}{j:Nat}(h:((atB k j=true∧fromI m j=toI m d)∧(folR l m k d j<0∨soonI (ptI l (toI m d)) (ptI l (fromI m d)) (ptI l (toI m j)) (ptI l (toI m (folR l m k d j)))=true))):folR l m k d (j+1)=j:=by
 conv=>lhs;unfold folR
 exact if_pos h
def folS (l:List Pt)(m:List Ed)(n:Int)(k:List Bool):List Value→Option (Bool × Value)
 |[.int .i64 d]=>some (okM l m&&inD m d&&decide (k.length=2*m.length),iv (folR l m k d (2*m.length)))
 |_=>none
theorem folS_inv {l:List Pt}{m:List Ed}{n:Int}{k:List Bool}{r:List Value}{v:Value}(h:folS l m n k r=some (true,v)):∃ d,r=[iv d]∧okM l m=true∧inD m d=true∧k.length=2*m.length∧v=iv (folR l m k d (2*m.length)):=by
 unfold folS at h
 split at h
 ·rename_i d
  injection h with h
  injection h with h1 h2
  simp only [Bool.and_eq_true,decide_eq_true_eq] at h1
  exact⟨d,rfl,h1.1.1,h1.1.2,h1.2,h2.symm⟩
 ·cases h
def bxM (a b:Nat)(c1 c2:Nat)(n:Int):AObj:=.cells true false 1 [.slice (some ⟨0,0,none⟩) a c1,.slice (some ⟨1,0,none⟩) b c2,iv n]
def e79 (k:List Bool)(c3:Nat)(d at_ best j:Int):List (Nat × Value):=[(2,.slice (some ⟨2,0,none⟩) k.length c3),(3,.pointer (some ⟨3,0,none⟩)),(7,.pointer (some ⟨4,0,none⟩)),(8,iv at_),(9,.pointer (some ⟨5,0,none⟩)),(10,iv best),(11,iv j)]
def h79 (l:List Pt)(m:List Ed)(k:List Bool)(c1 c2:Nat)(n:Int)(u v:Pt):Heap:=(5,.cells true false 1 [iv v.1,iv v.2])::(4,.cells true false 1 [iv u.1,iv u.2])::(3,bxM l.length m.length c1 c2 n)::mapH3 elP elE elB l m k
def X79:Nat × XF:=(79,mLX elP elE elB folS)
theorem x79:XOK Go.Proofs.Tryz.prog X79.1 X79.2:=mLX_ok elP elE elB (body_calls (xl:=[X87,X163,X164]) (.cons x87 (.cons x163 (.cons x164 .nil)))) fun l m n k r v hs=>by
 obtain⟨d,rfl,hM,hd,hk,rfl⟩:=folS_inv hs
 refine⟨rfl,rfl,fun c1 c2 c3=>?_⟩
 have hf:=okM_from hM hd
 have ht:=okM_to hM hd
 have hm:m.length≤1000:=by simp only [okM,Bool.and_eq_true,decide_eq_true_eq] at hM;exact hM.1.2
 (conv=>whnf)
 refine⟨l,m,LsAt_at elP rfl,LsAt_at elE rfl,?_⟩
 ((conv=>whnf);refine bm (fun h1=>?_) (fun h1=>?_))
 ·((conv=>whnf);refine bm (fun h2=>?_) (fun h2=>?_))
  ·(conv=>whnf)
   refine boL (getPt l (i:=(fromI m d).toNat) (by omega) ?_) ?_
   ·show _+Int.toNat (fromI m d)*2=_;omega
   (conv=>whnf)
   refine⟨l,m,LsAt_at elP rfl,LsAt_at elE rfl,?_⟩
   ((conv=>whnf);refine bm (fun h3=>?_) (fun h3=>?_))
   ·((conv=>whnf);refine bm (fun h4=>?_) (fun h4=>?_))
    ·(conv=>whnf)
     refine boL (getPt l (i:=(toI m d).toNat) (by omega) ?_) ?_
     ·show _+Int.toNat (toI m d)*2=_;omega
     (conv=>whnf)
     refine⟨fun q e h nx=>∃ (i:Nat) (j:Int),j=i∧i≤2*m.length∧q=2*m.length - i∧e=e79 k c3 d (toI m d) (folR l m k d i) j∧h=h79 l m k c1 c2 n (ptI l (fromI m d)) (ptI l (toI m d))∧nx=6,⟨2*m.length,?_⟩,?_⟩
     ·refine Into_id (e0:=e79 k c3 d (toI m d) (-1) 0) (h0:=h79 l m k c1 c2 n (ptI l (fromI m d)) (ptI l (toI m d))) (n0:=6) ⟨0,0,rfl,Nat.zero_le _,rfl,rfl,rfl,rfl⟩ ?_ ?_ (by decide)
      ·unfold e79;((repeat'(refine List.forall_mem_cons.2 ⟨⟨rfl,?_⟩,?_⟩;(first|exact scT_g rfl|exact⟨by decide,rfl⟩|exact⟨by decide,fun h=>(by cases h)⟩)));exact fun _ h=>(by cases h))
      ·unfold h79 bxM mapH3;((repeat'(refine List.forall_mem_cons.2 ⟨⟨Nat.le_of_ble_eq_true rfl,_,rfl,?_⟩,?_⟩;(first|exact ObjRen_g (flat_g _ _)|(refine ObjRen_2 ?_;(repeat'(refine List.forall_mem_cons.2 ⟨⟨rfl,?_⟩,?_⟩;(first|exact scS_g rfl|exact⟨by decide,rfl⟩|exact⟨by decide,fun h=>(by cases h)⟩)));exact fun _ h=>(by cases h))|(refine⟨rfl,rfl,rfl,rfl,?_⟩;(repeat'(refine List.forall_mem_cons.2 ⟨?_,?_⟩;(first|exact scS_g rfl|exact⟨by decide,rfl⟩|exact⟨by decide,fun h=>(by cases h)⟩)));exact fun _ h=>(by cases h))|exact ObjRen_j rfl rfl)));exact fun _ h=>(by cases h))
     ·rintro q e h nx ⟨i,j,hj,hi,rfl,rfl,rfl,rfl⟩
      unfold e79 h79 bxM mapH3
      have lo:=folR_low l m k d i
      ((conv=>whnf);refine bm (fun h5=>?_) (fun h5=>?_))
      ·((conv=>whnf);refine bm (fun h6=>?_) (fun h6=>?_))
       ·have hlt:i<2*m.length:=by simp [cfgS,std] at h6;omega
        have hdj:inD m j=true:=by simp only [inD,Bool.and_eq_true,decide_eq_true_eq];omega
        have hfj:=okM_from hM hdj
        have htj:=okM_to hM hdj
        ((conv=>whnf);refine bm (fun h7=>?_) (fun h7=>?_))
        ·(conv=>whnf)
         refine boV (getB k (i:=i) (by omega) ?_) ?_
         ·show _+Int.toNat j*1=_;omega
         ((conv=>whnf);refine bm (fun h8=>?_) (fun h8=>?_))
         ·(conv=>whnf)
          refine⟨l,m,LsAt_at elP rfl,LsAt_at elE rfl,?_⟩
          ((conv=>whnf);refine bm (fun h9=>?_) (fun h9=>?_))
          ·((conv=>whnf);refine bm (fun h10=>?_) (fun h10=>?_))
           ·have h10:fromI m j≠toI m d:=by simpa [cfgS,std] using h10
            ((conv=>whnf);refine bm (fun h11=>?_) (fun h11=>?_))
            ·(conv=>whnf)
             refine⟨2*m.length - (i+1),by omega,?_⟩
             refine Into_id (e0:=e79 k c3 d (toI m d) (folR l m k d i) (j+1)) (h0:=h79 l m k c1 c2 n (ptI l (fromI m d)) (ptI l (toI m d))) (n0:=6) ⟨i+1,j+1,by omega,by omega,rfl,?_,rfl,rfl⟩ ?_ ?_ (by decide)
             ·rw [folK (fun hh=>h10 (by rw [hj];exact hh.1.2))];rfl
             ·unfold e79;((repeat'(refine List.forall_mem_cons.2 ⟨⟨rfl,?_⟩,?_⟩;(first|exact scT_g rfl|exact⟨by decide,rfl⟩|exact⟨by decide,fun h=>(by cases h)⟩)));exact fun _ h=>(by cases h))
             ·unfold h79 bxM mapH3;((repeat'(refine List.forall_mem_cons.2 ⟨⟨Nat.le_of_ble_eq_true rfl,_,rfl,?_⟩,?_⟩;(first|exact ObjRen_g (flat_g _ _)|(refine ObjRen_2 ?_;(repeat'(refine List.forall_mem_cons.2 ⟨⟨rfl,?_⟩,?_⟩;(first|exact scS_g rfl|exact⟨by decide,rfl⟩|exact⟨by decide,fun h=>(by cases h)⟩)));exact fun _ h=>(by cases h))|(refine⟨rfl,rfl,rfl,rfl,?_⟩;(repeat'(refine List.forall_mem_cons.2 ⟨?_,?_⟩;(first|exact scS_g rfl|exact⟨by decide,rfl⟩|exact⟨by decide,fun h=>(by cases h)⟩)));exact fun _ h=>(by cases h))|exact ObjRen_j rfl rfl)));exact fun _ h=>(by cases h))
            ·exfalso;simp [cfgS,std,fitsK] at h11;omega
           ·have h10:fromI m j=toI m d:=by simpa [cfgS,std] using h10
            (conv=>whnf)
            refine⟨l,m,LsAt_at elP rfl,LsAt_at elE rfl,?_⟩
            ((conv=>whnf);refine bm (fun h11=>?_) (fun h11=>?_))
            ·((conv=>whnf);refine bm (fun h12=>?_) (fun h12=>?_))
             ·(conv=>whnf)
              refine boL (getPt l (i:=(toI m j).toNat) (by omega) ?_) ?_
              ·show _+Int.toNat (toI m j)*2=_;omega
              have h8:atB k i=true:=by simpa [cfgS,std] using h8
              have h10':fromI m i=toI m d:=by rw [← hj];exact h10
              ((conv=>whnf);refine bm (fun h13=>?_) (fun h13=>?_))
              ·have h13:¬ folR l m k d i<0:=by simpa [cfgS,std] using h13
               have hdb:inD m (folR l m k d i)=true:=by simp only [inD,Bool.and_eq_true,decide_eq_true_eq];omega
               have htb:=okM_to hM hdb
               (conv=>whnf)
               refine⟨l,m,LsAt_at elP rfl,LsAt_at elE rfl,?_⟩
               ((conv=>whnf);refine bm (fun h14=>?_) (fun h14=>?_))
               ·((conv=>whnf);refine bm (fun h15=>?_) (fun h15=>?_))
                ·(conv=>whnf)
                 refine boL (getPt l (i:=(toI m (folR l m k d i)).toNat) (by omega) ?_) ?_
                 ·show _+Int.toNat (toI m (folR l m k d i))*2=_;omega
                 ((conv=>whnf);refine bm (fun h16=>?_) (fun h16=>?_))
                 ·((conv=>whnf);refine bm (fun h17=>?_) (fun h17=>?_))
                  ·have h17:soonI (ptI l (toI m d)) (ptI l (fromI m d)) (ptI l (toI m i)) (ptI l (toI m (folR l m k d i)))=true:=by rw [← hj];exact h17
                   ((conv=>whnf);refine bm (fun h18=>?_) (fun h18=>?_))
                   ·(conv=>whnf)
                    refine⟨2*m.length - (i+1),by omega,?_⟩
                    refine Into_id (e0:=e79 k c3 d (toI m d) (j) (j+1)) (h0:=h79 l m k c1 c2 n (ptI l (fromI m d)) (ptI l (toI m d))) (n0:=6) ⟨i+1,j+1,by omega,by omega,rfl,?_,rfl,rfl⟩ ?_ ?_ (by decide)
                    ·rw [folT ⟨⟨h8,h10'⟩,.inr h17⟩,hj];rfl
                    ·unfold e79;((repeat'(refine List.forall_mem_cons.2 ⟨⟨rfl,?_⟩,?_⟩;(first|exact scT_g rfl|exact⟨by decide,rfl⟩|exact⟨by decide,fun h=>(by cases h)⟩)));exact fun _ h=>(by cases h))
                    ·unfold h79 bxM mapH3;((repeat'(refine List.forall_mem_cons.2 ⟨⟨Nat.le_of_ble_eq_true rfl,_,rfl,?_⟩,?_⟩;(first|exact ObjRen_g (flat_g _ _)|(refine ObjRen_2 ?_;(repeat'(refine List.forall_mem_cons.2 ⟨⟨rfl,?_⟩,?_⟩;(first|exact scS_g rfl|exact⟨by decide,rfl⟩|exact⟨by decide,fun h=>(by cases h)⟩)));exact fun _ h=>(by cases h))|(refine⟨rfl,rfl,rfl,rfl,?_⟩;(repeat'(refine List.forall_mem_cons.2 ⟨?_,?_⟩;(first|exact scS_g rfl|exact⟨by decide,rfl⟩|exact⟨by decide,fun h=>(by cases h)⟩)));exact fun _ h=>(by cases h))|exact ObjRen_j rfl rfl)));exact fun _ h=>(by cases h))
                   ·exfalso;simp [cfgS,std,fitsK] at h18;omega
                  ·have h17:¬ soonI (ptI l (toI m d)) (ptI l (fromI m d)) (ptI l (toI m i)) (ptI l (toI m (folR l m k d i)))=true:=by rw [← hj];exact fun hh=>Bool.false_ne_true (h17.symm.trans hh)
                   ((conv=>whnf);refine bm (fun h18=>?_) (fun h18=>?_))
                   ·(conv=>whnf)
                    refine⟨2*m.length - (i+1),by omega,?_⟩
                    refine Into_id (e0:=e79 k c3 d (toI m d) (folR l m k d i) (j+1)) (h0:=h79 l m k c1 c2 n (ptI l (fromI m d)) (ptI l (toI m d))) (n0:=6) ⟨i+1,j+1,by omega,by omega,rfl,?_,rfl,rfl⟩ ?_ ?_ (by decide)
                    ·rw [folK (fun hh=>hh.2.elim h13 h17)];rfl
                    ·unfold e79;((repeat'(refine List.forall_mem_cons.2 ⟨⟨rfl,?_⟩,?_⟩;(first|exact scT_g rfl|exact⟨by decide,rfl⟩|exact⟨by decide,fun h=>(by cases h)⟩)));exact fun _ h=>(by cases h))
                    ·unfold h79 bxM mapH3;((repeat'(refine List.forall_mem_cons.2 ⟨⟨Nat.le_of_ble_eq_true rfl,_,rfl,?_⟩,?_⟩;(first|exact ObjRen_g (flat_g _ _)|(refine ObjRen_2 ?_;(repeat'(refine List.forall_mem_cons.2 ⟨⟨rfl,?_⟩,?_⟩;(first|exact scS_g rfl|exact⟨by decide,rfl⟩|exact⟨by decide,fun h=>(by cases h)⟩)));exact fun _ h=>(by cases h))|(refine⟨rfl,rfl,rfl,rfl,?_⟩;(repeat'(refine List.forall_mem_cons.2 ⟨?_,?_⟩;(first|exact scS_g rfl|exact⟨by decide,rfl⟩|exact⟨by decide,fun h=>(by cases h)⟩)));exact fun _ h=>(by cases h))|exact ObjRen_j rfl rfl)));exact fun _ h=>(by cases h))
                   ·exfalso;simp [cfgS,std,fitsK] at h18;omega
                 ·exfalso
                  have e1:=okM_wide hM ht.1 ht.2
                  have e2:=okM_wide hM hf.1 hf.2
                  have e3:=okM_wide hM htj.1 htj.2
                  have e4:=okM_wide hM htb.1 htb.2
                  have h16:(wide (ptI l (toI m d))&&wide (ptI l (fromI m d))&&wide (ptI l (toI m j))&&wide (ptI l (toI m (folR l m k d i))))=false:=h16
                  rw [e1,e2,e3,e4] at h16
                  cases h16
                ·exfalso;simp [cfgS,std] at h15;omega
               ·exfalso;rw [show inD m (folR l m k d i)=false from h14] at hdb;cases hdb
              ·have h13:folR l m k d i<0:=by simpa [cfgS,std] using h13
               ((conv=>whnf);refine bm (fun h18=>?_) (fun h18=>?_))
               ·(conv=>whnf)
                refine⟨2*m.length - (i+1),by omega,?_⟩
                refine Into_id (e0:=e79 k c3 d (toI m d) (j) (j+1)) (h0:=h79 l m k c1 c2 n (ptI l (fromI m d)) (ptI l (toI m d))) (n0:=6) ⟨i+1,j+1,by omega,by omega,rfl,?_,rfl,rfl⟩ ?_ ?_ (by decide)
                ·rw [folT ⟨⟨h8,h10'⟩,.inl h13⟩,hj];rfl
                ·unfold e79;((repeat'(refine List.forall_mem_cons.2 ⟨⟨rfl,?_⟩,?_⟩;(first|exact scT_g rfl|exact⟨by decide,rfl⟩|exact⟨by decide,fun h=>(by cases h)⟩)));exact fun _ h=>(by cases h))
                ·unfold h79 bxM mapH3;((repeat'(refine List.forall_mem_cons.2 ⟨⟨Nat.le_of_ble_eq_true rfl,_,rfl,?_⟩,?_⟩;(first|exact ObjRen_g (flat_g _ _)|(refine ObjRen_2 ?_;(repeat'(refine List.forall_mem_cons.2 ⟨⟨rfl,?_⟩,?_⟩;(first|exact scS_g rfl|exact⟨by decide,rfl⟩|exact⟨by decide,fun h=>(by cases h)⟩)));exact fun _ h=>(by cases h))|(refine⟨rfl,rfl,rfl,rfl,?_⟩;(repeat'(refine List.forall_mem_cons.2 ⟨?_,?_⟩;(first|exact scS_g rfl|exact⟨by decide,rfl⟩|exact⟨by decide,fun h=>(by cases h)⟩)));exact fun _ h=>(by cases h))|exact ObjRen_j rfl rfl)));exact fun _ h=>(by cases h))
               ·exfalso;simp [cfgS,std,fitsK] at h18;omega
             ·exfalso;simp [cfgS,std] at h12;omega
            ·exfalso;rw [show inD m j=false from h11] at hdj;cases hdj
          ·exfalso;rw [show inD m j=false from h9] at hdj;cases hdj
         ·have h8:atB k i=false:=by simpa [cfgS,std] using h8
          ((conv=>whnf);refine bm (fun h11=>?_) (fun h11=>?_))
          ·(conv=>whnf)
           refine⟨2*m.length - (i+1),by omega,?_⟩
           refine Into_id (e0:=e79 k c3 d (toI m d) (folR l m k d i) (j+1)) (h0:=h79 l m k c1 c2 n (ptI l (fromI m d)) (ptI l (toI m d))) (n0:=6) ⟨i+1,j+1,by omega,by omega,rfl,?_,rfl,rfl⟩ ?_ ?_ (by decide)
           ·rw [folK (fun hh=>by rw [h8] at hh;cases hh.1.1)];rfl
           ·unfold e79;((repeat'(refine List.forall_mem_cons.2 ⟨⟨rfl,?_⟩,?_⟩;(first|exact scT_g rfl|exact⟨by decide,rfl⟩|exact⟨by decide,fun h=>(by cases h)⟩)));exact fun _ h=>(by cases h))
           ·unfold h79 bxM mapH3;((repeat'(refine List.forall_mem_cons.2 ⟨⟨Nat.le_of_ble_eq_true rfl,_,rfl,?_⟩,?_⟩;(first|exact ObjRen_g (flat_g _ _)|(refine ObjRen_2 ?_;(repeat'(refine List.forall_mem_cons.2 ⟨⟨rfl,?_⟩,?_⟩;(first|exact scS_g rfl|exact⟨by decide,rfl⟩|exact⟨by decide,fun h=>(by cases h)⟩)));exact fun _ h=>(by cases h))|(refine⟨rfl,rfl,rfl,rfl,?_⟩;(repeat'(refine List.forall_mem_cons.2 ⟨?_,?_⟩;(first|exact scS_g rfl|exact⟨by decide,rfl⟩|exact⟨by decide,fun h=>(by cases h)⟩)));exact fun _ h=>(by cases h))|exact ObjRen_j rfl rfl)));exact fun _ h=>(by cases h))
          ·exfalso;simp [cfgS,std,fitsK] at h11;omega
        ·exfalso;simp [cfgS,std] at h7;omega
       ·have hge:i=2*m.length:=by simp [cfgS,std] at h6;omega
        (conv=>whnf)
        rw [hge]
      ·exfalso;simp [cfgS,std,fitsK] at h5;omega
    ·exfalso;simp [cfgS,std] at h4;omega
   ·exfalso;rw [show inD m d=false from h3] at hd;cases hd
  ·exfalso;simp [cfgS,std] at h2;omega
 ·exfalso;rw [show inD m d=false from h1] at hd;cases hd
end Go.Aw
end

noncomputable section
namespace Go.Aw
set_option maxRecDepth 100000
def atI (k:List Int)(i:Nat):Int:=k.getD i 0
theorem atI_eq {k:List Int}{i:Nat}(h:i<k.length):atI k i=k[i]:=by
 unfold atI
 rw [List.getD_eq_getElem?_getD,List.getElem?_eq_getElem h]
 rfl
theorem getI (k:List Int){i o:Nat}(hi:i<k.length)(ho:o=i*1):nth (flat elI.fl k) o=some (iv (atI k i)):=by
 rw [atI_eq hi]
 exact nth_flat elI k hi (k:=0) rfl Nat.one_pos (by rw [ho];rfl)
def partI (l:List Pt)(m:List Ed)(d:Int):Int:=(ptI l (fromI m d)).1*(ptI l (toI m d)).2 - (ptI l (toI m d)).1*(ptI l (fromI m d)).2
def areaN (l:List Pt)(m:List Ed)(k:List Int):Nat→Int
 |0=>0
 |i+1=>areaN l m k i+partI l m (atI k i)
theorem wide_low {p:Pt}(h:wide p=true) : -1000000≤p.1∧p.1≤1000000∧-1000000≤p.2∧p.2≤1000000:=by
 simp only [wide,Bool.and_eq_true,decide_eq_true_eq] at h
 omega
theorem part_low {l:List Pt}{m:List Ed}(hM:okM l m=true){d:Int}(hd:inD m d=true) :
  -1000000000000≤(ptI l (fromI m d)).1*(ptI l (toI m d)).2∧(ptI l (fromI m d)).1*(ptI l (toI m d)).2≤1000000000000∧-1000000000000≤(ptI l (toI m d)).1*(ptI l (fromI m d)).2∧(ptI l (toI m d)).1*(ptI l (fromI m d)).2≤1000000000000:=by
 have hf:=okM_from hM hd
 have ht:=okM_to hM hd
 have w1:=wide_low (okM_wide hM hf.1 hf.2)
 have w2:=wide_low (okM_wide hM ht.1 ht.2)
 have m1:=mulB (a:=(ptI l (fromI m d)).1) (b:=(ptI l (toI m d)).2) (A:=1000000) (B:=1000000) (by omega) (by omega) (by omega) (by omega)
 have m2:=mulB (a:=(ptI l (toI m d)).1) (b:=(ptI l (fromI m d)).2) (A:=1000000) (B:=1000000) (by omega) (by omega) (by omega) (by omega)
 omega
theorem area_low {l:List Pt}{m:List Ed}{k:List Int}(hM:okM l m=true)(hk:∀ i,i<k.length→inD m (atI k i)=true):∀ i,i≤k.length→-2000000000000*(i:Int)≤areaN l m k i∧areaN l m k i≤2000000000000*(i:Int)
 |0,_=>by unfold areaN;omega
 |i+1,hi=>by
  have h1:=area_low hM hk i (by omega)
  have h2:=part_low hM (hk i (by omega))
  unfold areaN partI
  omega
def allD (m:List Ed)(k:List Int):Bool:=k.all (inD m)
theorem allD_at {m:List Ed}{k:List Int}(h:allD m k=true){i:Nat}(hi:i<k.length):inD m (atI k i)=true:=by
 rw [atI_eq hi]
 exact List.all_eq_true.1 h _ (List.getElem_mem hi)
def areS (l:List Pt)(m:List Ed)(n:Int)(k:List Int):List Value→Option (Bool × Value)
 |[]=>some (okM l m&&allD m k&&decide (k.length≤10000),iv (areaN l m k k.length))
 |_=>none
theorem areS_inv {l:List Pt}{m:List Ed}{n:Int}{k:List Int}{r:List Value}{v:Value}(h:areS l m n k r=some (true,v)):r=[]∧okM l m=true∧allD m k=true∧k.length≤10000∧v=iv (areaN l m k k.length):=by
 unfold areS at h
 split at h
 ·injection h with h
  injection h with h1 h2
  simp only [Bool.and_eq_true,decide_eq_true_eq] at h1
  exact⟨rfl,h1.1.1,h1.1.2,h1.2,h2.symm⟩
 ·cases h
def e90 (k:List Int)(c3:Nat)(a j:Int):List (Nat × Value):=[(1,.slice (some ⟨2,0,none⟩) k.length c3),(2,.pointer (some ⟨3,0,none⟩)),(5,iv a),(6,iv j)]
def h90 (l:List Pt)(m:List Ed)(k:List Int)(c1 c2:Nat)(n:Int):Heap:=(3,bxM l.length m.length c1 c2 n)::mapH3 elP elE elI l m k
def X90:Nat × XF:=(90,mLX elP elE elI areS)
theorem x90:XOK Go.Proofs.Tryz.prog X90.1 X90.2:=mLX_ok elP elE elI (body_calls (xl:=[X87,X163]) (.cons x87 (.cons x163 .nil))) fun l m n k r v hs=>by
 obtain⟨rfl,hM,hkk,hk,rfl⟩:=areS_inv hs
 refine⟨rfl,rfl,fun c1 c2 c3=>?_⟩
 have hm:m.length≤1000:=by simp only [okM,Bool.and_eq_true,decide_eq_true_eq] at hM;exact hM.1.2
 (conv=>whnf)
 refine⟨fun q e h nx=>∃ (i:Nat) (j:Int),j=i∧i≤k.length∧q=k.length - i∧e=e90 k c3 (areaN l m k i) j∧h=h90 l m k c1 c2 n∧nx=4,⟨k.length,?_⟩,?_⟩
 ·refine Into_id (e0:=e90 k c3 0 0) (h0:=h90 l m k c1 c2 n) (n0:=4) ⟨0,0,rfl,Nat.zero_le _,rfl,rfl,rfl,rfl⟩ ?_ ?_ (by decide)
  ·unfold e90;((repeat'(refine List.forall_mem_cons.2 ⟨⟨rfl,?_⟩,?_⟩;(first|exact scT_g rfl|exact⟨by decide,rfl⟩|exact⟨by decide,fun h=>(by cases h)⟩)));exact fun _ h=>(by cases h))
  ·unfold h90 bxM mapH3;((repeat'(refine List.forall_mem_cons.2 ⟨⟨Nat.le_of_ble_eq_true rfl,_,rfl,?_⟩,?_⟩;(first|exact ObjRen_g (flat_g _ _)|(refine ObjRen_2 ?_;(repeat'(refine List.forall_mem_cons.2 ⟨⟨rfl,?_⟩,?_⟩;(first|exact scS_g rfl|exact⟨by decide,rfl⟩|exact⟨by decide,fun h=>(by cases h)⟩)));exact fun _ h=>(by cases h))|(refine⟨rfl,rfl,rfl,rfl,?_⟩;(repeat'(refine List.forall_mem_cons.2 ⟨?_,?_⟩;(first|exact scS_g rfl|exact⟨by decide,rfl⟩|exact⟨by decide,fun h=>(by cases h)⟩)));exact fun _ h=>(by cases h))|exact ObjRen_j rfl rfl)));exact fun _ h=>(by cases h))
 ·rintro q e h nx ⟨i,j,hj,hi,rfl,rfl,rfl,rfl⟩
  unfold e90 h90 bxM mapH3
  ((conv=>whnf);refine bm (fun h6=>?_) (fun h6=>?_))
  ·have hlt:i<k.length:=by simp [cfgS,std] at h6;omega
   have hdj:=allD_at hkk hlt
   have hf:=okM_from hM hdj
   have ht:=okM_to hM hdj
   have lo:=area_low hM (fun i hi=>allD_at hkk hi) i hi
   have pl:=part_low hM hdj
   ((conv=>whnf);refine bm (fun h7=>?_) (fun h7=>?_))
   ·(conv=>whnf)
    refine boV (getI k (i:=i) hlt ?_) ?_
    ·show _+Int.toNat j*1=_;omega
    (conv=>whnf)
    refine⟨l,m,LsAt_at elP rfl,LsAt_at elE rfl,?_⟩
    ((conv=>whnf);refine bm (fun h8=>?_) (fun h8=>?_))
    ·((conv=>whnf);refine bm (fun h9=>?_) (fun h9=>?_))
     ·(conv=>whnf)
      refine boL (getPt l (i:=(fromI m (atI k i)).toNat) (by omega) ?_) ?_
      ·show _+Int.toNat (fromI m (atI k i))*2=_;omega
      ((conv=>whnf);refine bm (fun h10=>?_) (fun h10=>?_))
      ·(conv=>whnf)
       refine boV (getI k (i:=i) hlt ?_) ?_
       ·show _+Int.toNat j*1=_;omega
       (conv=>whnf)
       refine⟨l,m,LsAt_at elP rfl,LsAt_at elE rfl,?_⟩
       ((conv=>whnf);refine bm (fun h11=>?_) (fun h11=>?_))
       ·((conv=>whnf);refine bm (fun h12=>?_) (fun h12=>?_))
        ·(conv=>whnf)
         refine boL (getPt l (i:=(toI m (atI k i)).toNat) (by omega) ?_) ?_
         ·show _+Int.toNat (toI m (atI k i))*2=_;omega
         repeat' ((conv=>whnf);refine bm (fun h13=>?_) (fun h13=>?_))
         all_goals try (exfalso;simp [cfgS,std,fitsK] at h13;simp only [ptI] at *;omega)
         (conv=>whnf)
         refine⟨k.length - (i+1),by omega,?_⟩
         refine Into_id (e0:=e90 k c3 (areaN l m k i+(ptI l (fromI m (atI k i))).1*(ptI l (toI m (atI k i))).2 - (ptI l (toI m (atI k i))).1*(ptI l (fromI m (atI k i))).2) (j+1)) (h0:=h90 l m k c1 c2 n) (n0:=4) ⟨i+1,j+1,by omega,hlt,rfl,?_,rfl,rfl⟩ ?_ ?_ (by decide)
         ·congr 4
          rw [show areaN l m k (i+1)=areaN l m k i+partI l m (atI k i) from rfl];unfold partI;omega
         ·unfold e90;((repeat'(refine List.forall_mem_cons.2 ⟨⟨rfl,?_⟩,?_⟩;(first|exact scT_g rfl|exact⟨by decide,rfl⟩|exact⟨by decide,fun h=>(by cases h)⟩)));exact fun _ h=>(by cases h))
         ·unfold h90 bxM mapH3;((repeat'(refine List.forall_mem_cons.2 ⟨⟨Nat.le_of_ble_eq_true rfl,_,rfl,?_⟩,?_⟩;(first|exact ObjRen_g (flat_g _ _)|(refine ObjRen_2 ?_;(repeat'(refine List.forall_mem_cons.2 ⟨⟨rfl,?_⟩,?_⟩;(first|exact scS_g rfl|exact⟨by decide,rfl⟩|exact⟨by decide,fun h=>(by cases h)⟩)));exact fun _ h=>(by cases h))|(refine⟨rfl,rfl,rfl,rfl,?_⟩;(repeat'(refine List.forall_mem_cons.2 ⟨?_,?_⟩;(first|exact scS_g rfl|exact⟨by decide,rfl⟩|exact⟨by decide,fun h=>(by cases h)⟩)));exact fun _ h=>(by cases h))|exact ObjRen_j rfl rfl)));exact fun _ h=>(by cases h))
        ·exfalso;simp [cfgS,std] at h12;omega
       ·exfalso;rw [show inD m (atI k i)=false from h11] at hdj;cases hdj
      ·exfalso;simp [cfgS,std] at h10;omega
     ·exfalso;simp [cfgS,std] at h9;omega
    ·exfalso;rw [show inD m (atI k i)=false from h8] at hdj;cases hdj
   ·exfalso;simp [cfgS,std] at h7;omega
  ·have hge:i=k.length:=by simp [cfgS,std] at h6;omega
   (conv=>whnf)
   rw [hge]
end Go.Aw
end
