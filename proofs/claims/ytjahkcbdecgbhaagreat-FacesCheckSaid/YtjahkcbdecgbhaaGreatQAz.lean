/-
  Parts of the proof, put together. No condition.
-/
import Derived.Test.YtjahkcbdecgbhaaGreatQAr
import Derived.Test.YtjahkcbdecgbhaaGreatQAy
set_option linter.unusedSimpArgs false
set_option linter.unusedVariables false
noncomputable section
namespace Go.Aw
theorem apart {F1 F2 G1 G2 s1 s2 t1 t2 c:Int}(hi:G1*s2 - G2*s1=F2*t1 - F1*t2)(hd:G1 - G2=F2 - F1)(hF:F1*F2<0)(hG:G1*G2<0)
  (h1:s1≤c) (h2:s2≤c) (h3:c+1≤t1) (h4:c+1≤t2):False:=by
 have key:∀ {F1 F2 G1 G2 s1 s2 t1 t2:Int},G1*s2 - G2*s1=F2*t1 - F1*t2→G1 - G2=F2 - F1→F1<0→0<F2→0<G1→G2<0→s1≤c→s2≤c→c+1≤t1→c+1≤t2→False:=by
  intro F1 F2 G1 G2 s1 s2 t1 t2 hi hd f1 f2 g1 g2 h1 h2 h3 h4
  have e1:=Int.mul_le_mul_of_nonneg_left h2 (Int.le_of_lt g1)
  have e2:=Int.mul_le_mul_of_nonneg_left h1 (show 0≤-G2 by omega)
  have e3:=Int.mul_le_mul_of_nonneg_left h3 (Int.le_of_lt f2)
  have e4:=Int.mul_le_mul_of_nonneg_left h4 (show 0≤-F1 by omega)
  have d:(G1 - G2)*c=(F2 - F1)*c:=by rw [hd]
  simp only [Int.mul_add,Int.mul_one,Int.neg_mul,Int.sub_mul] at e1 e2 e3 e4 d
  omega
 rcases Int.lt_or_le F1 0 with f1|f1
 ·have f2:0<F2:=by
   rcases Int.lt_or_le 0 F2 with h|h
   ·exact h
   ·have:=Int.mul_nonneg_of_nonpos_of_nonpos (Int.le_of_lt f1) h
    omega
  rcases Int.lt_or_le G1 0 with g1|g1
  ·have g2:0<G2:=by
    rcases Int.lt_or_le 0 G2 with h|h
    ·exact h
    ·have:=Int.mul_nonneg_of_nonpos_of_nonpos (Int.le_of_lt g1) h
     omega
   omega
  ·have g1':0<G1:=by
    rcases Int.lt_or_le 0 G1 with h|h
    ·exact h
    ·have:G1=0:=by omega
     rw [this] at hG;omega
   have g2:G2<0:=by
    rcases Int.lt_or_le G2 0 with h|h
    ·exact h
    ·have:=Int.mul_nonneg g1 h
     omega
   exact key hi hd f1 f2 g1' g2 h1 h2 h3 h4
 ·have f1':0<F1:=by
   rcases Int.lt_or_le 0 F1 with h|h
   ·exact h
   ·have:F1=0:=by omega
    rw [this] at hF;omega
  have f2:F2<0:=by
   rcases Int.lt_or_le F2 0 with h|h
   ·exact h
   ·have:=Int.mul_nonneg f1 h
    omega
  rcases Int.lt_or_le G1 0 with g1|g1
  ·have g2:0<G2:=by
    rcases Int.lt_or_le 0 G2 with h|h
    ·exact h
    ·have:=Int.mul_nonneg_of_nonpos_of_nonpos (Int.le_of_lt g1) h
     omega
   exact key (F1:=F2) (F2:=F1) (G1:=G2) (G2:=G1) (s1:=s2) (s2:=s1) (t1:=t2) (t2:=t1) (by omega) (by omega) f2 f1' g2 g1 h2 h1 h4 h3
  ·have g2:G2<0:=by
    rcases Int.lt_or_le G2 0 with h|h
    ·exact h
    ·have:=Int.mul_nonneg g1 h
     omega
   omega
theorem sgn_neg0 {a b:Int}(h:sgn a*sgn b<0):a*b<0:=by
 unfold sgn at h
 split at h <;> split at h <;> first
  |omega
  |(exact Int.mul_neg_of_neg_of_pos (by omega) (by omega))
  |(exact Int.mul_neg_of_pos_of_neg (by omega) (by omega))
  |(split at h <;> first|omega|(exact Int.mul_neg_of_neg_of_pos (by omega) (by omega))|(exact Int.mul_neg_of_pos_of_neg (by omega) (by omega)))
theorem line_d (s t:Sg):crossI t.1 t.2 s.1 - crossI t.1 t.2 s.2=crossI s.1 s.2 t.2 - crossI s.1 s.2 t.1:=by
 obtain⟨⟨a,b⟩,⟨c,d⟩⟩:=s
 obtain⟨⟨e,f⟩,⟨g,h⟩⟩:=t
 simp only [crossI,Int.sub_mul,Int.mul_sub,Int.mul_comm,Int.mul_left_comm,Int.mul_assoc]
 omega
theorem line_x (s t:Sg):crossI t.1 t.2 s.1*s.2.1 - crossI t.1 t.2 s.2*s.1.1=crossI s.1 s.2 t.2*t.1.1 - crossI s.1 s.2 t.1*t.2.1:=by
 obtain⟨⟨a,b⟩,⟨c,d⟩⟩:=s
 obtain⟨⟨e,f⟩,⟨g,h⟩⟩:=t
 simp only [crossI,Int.sub_mul,Int.mul_sub,Int.mul_comm,Int.mul_left_comm,Int.mul_assoc]
 omega
theorem line_y (s t:Sg):crossI t.1 t.2 s.1*s.2.2 - crossI t.1 t.2 s.2*s.1.2=crossI s.1 s.2 t.2*t.1.2 - crossI s.1 s.2 t.1*t.2.2:=by
 obtain⟨⟨a,b⟩,⟨c,d⟩⟩:=s
 obtain⟨⟨e,f⟩,⟨g,h⟩⟩:=t
 simp only [crossI,Int.sub_mul,Int.mul_sub,Int.mul_comm,Int.mul_left_comm,Int.mul_assoc]
 omega
theorem ap_or {a b c d:Int}(h:apI a b c d=true):(∃ k,a≤k∧b≤k∧k+1≤c∧k+1≤d)∨(∃ k,c≤k∧d≤k∧k+1≤a∧k+1≤b):=by
 unfold apI mxI mnI at h
 simp only [Bool.or_eq_true,decide_eq_true_eq] at h
 rcases h with h|h
 ·refine .inl ⟨if b > a then b else a,?_⟩
  split at h <;> split at h <;> omega
 ·refine .inr ⟨if d > c then d else c,?_⟩
  split at h <;> split at h <;> omega
theorem far_cross {s t:Sg}(h:farS s t=true):¬ (turnS s.1 s.2 t.1*turnS s.1 s.2 t.2<0∧turnS t.1 t.2 s.1*turnS t.1 t.2 s.2<0):=by
 rintro ⟨h1,h2⟩
 have h1:=sgn_neg0 h1
 have h2:=sgn_neg0 h2
 have d1:=line_d s t
 have d2:=line_d t s
 unfold farS at h
 rw [Bool.or_eq_true] at h
 rcases h with h|h
 ·rcases ap_or h with ⟨k,a1,a2,a3,a4⟩|⟨k,a1,a2,a3,a4⟩
  ·exact apart (line_x s t) d1 h1 h2 a1 a2 a3 a4
  ·exact apart (line_x t s) d2 h2 h1 a1 a2 a3 a4
 ·rcases ap_or h with ⟨k,a1,a2,a3,a4⟩|⟨k,a1,a2,a3,a4⟩
  ·exact apart (line_y s t) d1 h1 h2 a1 a2 a3 a4
  ·exact apart (line_y t s) d2 h2 h1 a1 a2 a3 a4
theorem far_off {s t:Sg}(h:farS s t=true)(p:Pt):¬ (onR p s=true∧onR p t=true):=by
 rintro ⟨h1,h2⟩
 simp only [onR,btw,Bool.and_eq_true,decide_eq_true_eq] at h1 h2
 obtain⟨⟨⟨x1,x2⟩,y1,y2⟩,_⟩:=h1
 obtain⟨⟨⟨x3,x4⟩,y3,y4⟩,_⟩:=h2
 unfold farS at h
 rw [Bool.or_eq_true] at h
 rcases h with h|h
 ·rcases ap_or h with ⟨k,a1,a2,a3,a4⟩|⟨k,a1,a2,a3,a4⟩ <;>
   (split at x1 <;> split at x2 <;> split at x3 <;> split at x4 <;> omega)
 ·rcases ap_or h with ⟨k,a1,a2,a3,a4⟩|⟨k,a1,a2,a3,a4⟩ <;>
   (split at y1 <;> split at y2 <;> split at y3 <;> split at y4 <;> omega)
theorem far_meet {s t:Sg}(h:farS s t=true):MeetV s t=0:=by
 unfold MeetV
 split
 ·rename_i hr
  rw [meet_eq s t hr.1 hr.2]
  have he:endsL s t=[]:=by
   unfold endsL
   have:∀ p,addE s t [] p=[]:=fun p=>by
    unfold addE
    rw [if_neg (fun hh=>far_off h p ⟨hh.1,hh.2.1⟩)]
   rw [this,this,this,this]
  unfold meetR
  rw [he]
  exact if_neg (far_cross h)
 ·rfl
theorem meetF_eq (s t:Sg):meetF s t=MeetV s t:=by
 unfold meetF
 split
 ·rename_i h;rw [far_meet h]
 ·rfl
end Go.Aw
end

noncomputable section
namespace Go.Aw
set_option maxRecDepth 100000
def lowI (v:Pt):Bool:=decide (v.2<0) || (decide (v.2=0)&&decide (v.1<0))
def X242:Nat × XF:=(242,gX (s1 cP fun v=>(true,.bool (lowI v))))
theorem x242:XOK Go.Proofs.Tryz.prog X242.1 X242.2:=x1 cP (xl:=[]) .nil (fun _=>rfl) fun a _=>by
 obtain⟨ax,ay⟩:=a
 unfold Does1
 repeat' ((conv=>whnf);refine bm (fun h=>?_) (fun h=>?_))
 all_goals (conv=>whnf)
 all_goals (simp only [cA_lt,cA_eq,cA_eqB,cA_notB,beq_iff_eq,beq_eq_false_iff_ne,ne_eq,Bool.not_eq_false,Bool.not_eq_true,decide_eq_true_eq,decide_eq_false_iff_not] at *)
 all_goals (show _=Value.bool (lowI _);unfold lowI;simp_all)
def crP (w v:Pt):Int:=w.1*v.2 - w.2*v.1
def trnI (w v:Pt):Int:=if lowI w=lowI v then cmpI 0 (crP w v) else if lowI v=true then -1 else 1
def X210:Nat × XF:=(210,gX (s2 cP cP fun w v=>(wide w&&wide v,iv (trnI w v))))
theorem x210:XOK Go.Proofs.Tryz.prog X210.1 X210.2:=x2 cP cP (xl:=[X242,X101]) (.cons x242 (.cons x101 .nil)) (fun _ _=>rfl) fun w v hp=>by
 obtain⟨wx,wy⟩:=w
 obtain⟨vx,vy⟩:=v
 simp only [wide,Bool.and_eq_true,decide_eq_true_eq] at hp
 have m1:=mulB (a:=wx) (b:=vy) (A:=1000000) (B:=1000000) (by omega) (by omega) (by omega) (by omega)
 have m2:=mulB (a:=wy) (b:=vx) (A:=1000000) (B:=1000000) (by omega) (by omega) (by omega) (by omega)
 unfold Does1
 repeat' ((conv=>whnf);refine bm (fun h=>?_) (fun h=>?_))
 all_goals (conv=>whnf)
 all_goals first
  |(exfalso;simp [cfgS,std,fitsK] at h;omega)
  |(show iv _=iv (trnI _ _);unfold trnI;simp [cfgS,std] at *;simp_all;done)
  |(show iv _=iv (trnI _ _);unfold trnI crP;simp [cfgS,std] at *;simp_all)
  |trace_state
end Go.Aw
end

noncomputable section
namespace Go.Aw
set_option maxRecDepth 100000
structure Dt where
 dx:Int
 dy:Int
 no:Int
 fr:Int
 tt:Int
def elD:El Dt:=⟨fun e=>[iv e.dx,iv e.dy,iv e.no,iv e.fr,iv e.tt],5,fun _=>rfl,fun _=>rfl,by decide⟩
def atD (m:List Dt)(i:Nat):Dt:=m.getD i ⟨0,0,0,0,0⟩
theorem atD_eq {m:List Dt}{i:Nat}(h:i<m.length):atD m i=m[i]:=by
 unfold atD
 rw [List.getD_eq_getElem?_getD,List.getElem?_eq_getElem h]
 rfl
theorem getDt (m:List Dt){i o:Nat}(hi:i<m.length)(ho:o=i*5):getN (flat elD.fl m) o 5=some [iv (atD m i).dx,iv (atD m i).dy,iv (atD m i).no,iv (atD m i).fr,iv (atD m i).tt]:=by
 rw [atD_eq hi]
 exact flat_get elD m hi ho
def dirD (d:Dt):Pt:=(d.dx,d.dy)
theorem getN5_2 (m:List Dt){i o:Nat}(hi:i<m.length)(ho:o=i*5):getN (flat elD.fl m) o 2=some [iv (dirD (atD m i)).1,iv (dirD (atD m i)).2]:=by
 have h1:nth (flat elD.fl m) o=some (iv (atD m i).dx):=by
  rw [atD_eq hi];exact nth_flat elD m hi (k:=0) rfl (by decide) (by rw [ho];rfl)
 have h2:nth (flat elD.fl m) (o+1)=some (iv (atD m i).dy):=by
  rw [atD_eq hi];exact nth_flat elD m hi (k:=1) rfl (by decide) (by rw [ho];rfl)
 simp only [getN,h1,h2]
 rfl
def DirAt (h:Heap)(p:Nat)(D:List Dt):Prop:=∃ b c k0 k1 wr g sz r0 wr1 g1 sz1 r1 wr2 g2 sz2 cs n0 c0 n1 c1 F cc,
 look h p=some (.cells wr g sz (.pointer (some ⟨b,0,none⟩)::r0)) ∧
 look h b=some (.cells wr1 g1 sz1 (.slice (some ⟨k0,0,none⟩) n0 c0::.slice (some ⟨k1,0,none⟩) n1 c1::iv F::.slice (some ⟨c,0,none⟩) D.length cc::r1)) ∧
 look h c=some (.cells wr2 g2 sz2 cs)∧cs.take (flat elD.fl D).length=flat elD.fl D
def allW (D:List Dt):Bool:=D.all fun d=>wide (dirD d)
def c209 (D:List Dt)(x y:Int):Int:=trnI (dirD (atD D x.toNat)) (dirD (atD D y.toNat))
def ok209 (D:List Dt)(x y:Int):Bool:=decide (0≤x)&&decide (x<D.length)&&(decide (0≤y)&&decide (y<D.length))&&allW D
def Xf209:Nat × XF:=(209,fun args h nx K=>∃ x y p D,args=[iv x,iv y,.pointer (some ⟨p,0,none⟩)]∧DirAt h p D∧must (ok209 D x y) (K (iv (c209 D x y)) h nx))
def dirH (D:List Dt)(n0 c0 n1 c1:Nat)(F:Int)(cc:Nat):Heap:=[(0,.cells false false 1 [.pointer (some ⟨1,0,none⟩)]),(1,.cells false false 1 [.slice (some ⟨3,0,none⟩) n0 c0,.slice (some ⟨4,0,none⟩) n1 c1,iv F,.slice (some ⟨2,0,none⟩) D.length cc]),(2,.cells false true 5 (flat elD.fl D))]
def dirR (p b c k0 k1:Nat):Nat→Nat
 |0=>p
 |1=>b
 |2=>c
 |3=>k0
 |_=>k1
theorem In_dir {h:Heap}{p nx:Nat}{D:List Dt}(hd:DirAt h p D)(x y:Int):∃ n0 c0 n1 c1 F cc,In [iv x,iv y,.pointer (some ⟨0,0,none⟩)] (dirH D n0 c0 n1 c1 F cc) 5 [iv x,iv y,.pointer (some ⟨p,0,none⟩)] h nx:=by
 obtain⟨b,c,k0,k1,wr,g,sz,r0,wr1,g1,sz1,r1,wr2,g2,sz2,cs,n0,c0,n1,c1,F,cc,h1,h2,h3,h4⟩:=hd
 refine⟨n0,c0,n1,c1,F,cc,In_ren (dirR p b c k0 k1) rfl ?_ ?_⟩
 ·refine List.forall_mem_cons.2 ⟨scT_g rfl,List.forall_mem_cons.2 ⟨scT_g rfl,List.forall_mem_cons.2 ⟨⟨by decide,rfl⟩,fun _ h=>by cases h⟩⟩⟩
 ·intro k o hk
  unfold dirH at hk
  rw [look_cons] at hk
  split at hk
  ·rename_i hb;injection hk with hk;subst hk;rw [← beq_true hb]
   refine⟨by decide,false,1,_,rfl,by decide,(fun h=>by cases h),List.forall_mem_cons.2 ⟨⟨by decide,rfl⟩,fun _ h=>by cases h⟩,wr,g,sz,_,h1,rfl⟩
  rw [look_cons] at hk
  split at hk
  ·rename_i hb;injection hk with hk;subst hk;rw [← beq_true hb]
   refine⟨by decide,false,1,_,rfl,by decide,(fun h=>by cases h),?_,wr1,g1,sz1,_,h2,rfl⟩
   refine List.forall_mem_cons.2 ⟨⟨by decide,fun h=>by cases h⟩,List.forall_mem_cons.2 ⟨⟨by decide,fun h=>by cases h⟩,List.forall_mem_cons.2 ⟨scS_g rfl,List.forall_mem_cons.2 ⟨⟨by decide,fun h=>by cases h⟩,fun _ h=>by cases h⟩⟩⟩⟩
  rw [look_cons] at hk
  split at hk
  ·rename_i hb;injection hk with hk;subst hk;rw [← beq_true hb]
   exact⟨by decide,true,5,_,rfl,by decide,fun _=>flat_g elD D,fun v hv=>scS_g (allG_mem (flat_g elD D) hv),wr2,g2,sz2,cs,h3,by rw [h4];exact (map_trS_g (flat_g elD D)).symm⟩
  ·exact noLook hk
theorem xf209:XOK Go.Proofs.Tryz.prog Xf209.1 Xf209.2:=by
 refine (xOf_ok (S:=fun args0 h0 n0 v1 h1 m=>∃ x y D n1 c1 n2 c2 F cc,ok209 D x y=true∧args0=[iv x,iv y,.pointer (some ⟨0,0,none⟩)]∧h0=dirH D n1 c1 n2 c2 F cc∧n0=5∧v1=iv (c209 D x y)∧h1=[]∧m=0) (body_calls (xl:=[X210]) (.cons x210 .nil)) ?_).mono ?_ ?_
 ·rintro args0 h0 n0 v1 h1 m ⟨x,y,D,n1,c1,n2,c2,F,cc,hok,rfl,rfl,rfl,rfl,rfl,rfl⟩
  refine⟨rfl,fun u _ _=>u=iv (c209 D x y),?_,fun v h nx e=>by rw [e];exact Outc_g rfl⟩
  simp only [ok209,Bool.and_eq_true,decide_eq_true_eq] at hok
  obtain⟨⟨⟨h0,h1⟩,h2,h3⟩,hw⟩:=hok
  have wx:wide (dirD (atD D x.toNat))=true:=by
   rw [atD_eq (by omega)];exact List.all_eq_true.1 hw _ (List.getElem_mem _)
  have wy:wide (dirD (atD D y.toNat))=true:=by
   rw [atD_eq (by omega)];exact List.all_eq_true.1 hw _ (List.getElem_mem _)
  ((conv=>whnf);refine bm (fun a1=>?_) (fun a1=>?_))
  ·(conv=>whnf)
   refine boL (getN5_2 D (i:=x.toNat) (by omega) ?_) ?_
   ·show _+Int.toNat x*5=_;omega
   ((conv=>whnf);refine bm (fun a2=>?_) (fun a2=>?_))
   ·(conv=>whnf)
    refine boL (getN5_2 D (i:=y.toNat) (by omega) ?_) ?_
    ·show _+Int.toNat y*5=_;omega
    ((conv=>whnf);refine bm (fun a3=>?_) (fun a3=>?_))
    ·(conv=>whnf)
     rfl
    ·exfalso
     have a3:(wide (dirD (atD D x.toNat))&&wide (dirD (atD D y.toNat)))=false:=a3
     rw [wx,wy] at a3
     cases a3
   ·exfalso;simp [cfgS,std] at a2;omega
  ·exfalso;simp [cfgS,std] at a1;omega
 ·rintro args h nx K ⟨x,y,p,D,rfl,hd,hx⟩
  obtain⟨hb,hx⟩:=must_iff.1 hx
  obtain⟨n0,c0,n1,c1,F,cc,i⟩:=In_dir (nx:=nx) hd x y
  refine⟨_,_,5,_,[],0,⟨x,y,D,n0,c0,n1,c1,F,cc,hb,rfl,rfl,rfl,rfl,rfl,rfl⟩,i,?_⟩
  exact hx
 ·rintro args h nx K ⟨x,y,p,D,rfl,hd,hx⟩
  obtain⟨hb,hx⟩:=must_iff.1 hx
  exact⟨_,_,_,hx,fun K' hk'=>⟨x,y,p,D,rfl,hd,must_of hb hk'⟩⟩
end Go.Aw
end

noncomputable section
namespace Go.Aw
open Go.RowKit
section
variable {α:Type}(E:El α)
theorem ORel_g {ι ι':Nat→Loc}{B:Nat}{w:World}{sz:Nat}{cs:List Value}{loc:Loc}(hg:allG cs=true)(h:ORel ι B w (.cells true false sz cs) loc):ORel ι' B w (.cells true false sz cs) loc:=by
 cases loc with
 |nil p=>exact h
 |lay b o e =>
  obtain⟨x1,x2,arr,t,x3,x4,x5⟩:=h
  refine⟨x1,x2,arr,t,x3,x4,fun i v hv=>?_⟩
  rw [x5 i v hv,trS_g (allG_mem hg (List.mem_of_getElem? hv)),trS_g (allG_mem hg (List.mem_of_getElem? hv))]
end
end Go.Aw
end

noncomputable section
namespace Go.Aw
open Go.RowKit
def pre0 (k:Nat)(ι:Nat→Loc):Nat→Loc:=fun j=>if j=0 then ι k else ι (j - 1)
theorem pre0_0 (k:Nat)(ι:Nat→Loc):pre0 k ι 0=ι k:=if_pos rfl
theorem pre0_s (k:Nat)(ι:Nat→Loc)(j:Nat):pre0 k ι (1+j)=ι j:=by
 unfold pre0
 rw [if_neg (by omega),Nat.add_sub_cancel_left]
def FrOK (F:Heap)(nx:Nat):Prop:=1≤nx∧∀ j o,look F j=some o→0<j∧j<nx∧ObjRen id nx o o
theorem Into_fr {b n0 nx:Nat}{I:KS}{e0 e:List (Nat × Value)}{F:Heap}{o0 o:AObj}(hF:FrOK F n0)(hI:I e0 ((0,o0)::F) n0)(he:∀ p∈e0,look e p.1=some (ren id p.2)∧nmT n0 p.2)(ho:ObjRen id n0 o0 o)(hb:b≤n0) :
  Into b I e ((0,o)::F) nx:=by
 refine⟨e0,(0,o0)::F,n0,id,hI,fun t v hv=>he (t,v) (look_mem hv),fun k q hk=>?_,fun k k' q q' _ _ e=>e,fun k _=>rfl,hb⟩
 rw [look_cons] at hk
 split at hk
 ·rename_i hb1
  injection hk with hk
  subst hk
  have:=beq_true hb1
  subst this
  exact⟨hF.1,o,rfl,ho⟩
 ·obtain⟨h1,h2,h3⟩:=hF.2 k q hk
  refine⟨h2,q,?_,h3⟩
  show look ((0,o)::F) k=some q
  rw [look_cons]
  rename_i hb1
  rw [hb1]
  exact hk
theorem look_shH' {n:Nat}:∀ (h:Heap) {j:Nat} {o:AObj},look h j=some o→look (shH n h) (n+j)=some (shO n o)
 |[],j,o,hl=>(by cases hl)
 |(i,q)::r,j,o,hl=>by
  rw [look_cons] at hl
  simp only [shH]
  rw [look_cons]
  split at hl
  ·rename_i hb
   injection hl with hl
   subst hl
   have:=beq_true hb
   subst this
   rw [Nat.beq_refl]
  ·rename_i hb
   have hne:Nat.beq (n+i) (n+j)=false:=by
    cases hb':Nat.beq (n+i) (n+j) with
    |false=>rfl
    |true =>
     have:=beq_true hb'
     have:i=j:=by omega
     subst this
     rw [Nat.beq_refl] at hb
     cases hb
   rw [hne]
   exact look_shH' r hl
theorem scP_at {ι:Nat→Loc}{σ:Nat→Nat}{n:Nat}{v:Value}(h:scP ι n v):scP (at0 σ) n v:=by
 cases v with
 |pointer a=>cases a with
  |none=>trivial
  |some a=>exact⟨h.1,rfl⟩
 |slice a l c=>cases a with
  |none=>trivial
  |some a=>exact⟨h.1,fun hf=>by cases hf⟩
 |map a=>cases a with
  |none=>trivial
  |some a=>exact⟨h.1,rfl⟩
 |agg c=>exact h.elim
 |tuple c=>exact h.elim
 |_=>trivial
theorem scS_at {ι:Nat→Loc}{σ:Nat→Nat}{n:Nat}{v:Value}(h:scS ι n v):scS (at0 σ) n v:=by
 cases v with
 |func f a c =>
  refine⟨?_,fun x hx=>scP_at (h.2 x hx)⟩
  have h1:=h.1
  cases f with
  |yield l=>exact⟨h1.1,rfl⟩
  |_=>trivial
 |pointer a=>have:=scP_at (ι:=ι) (σ:=σ) (n:=n) (v:=.pointer a);cases a <;> exact this h
 |slice a l c=>have:=scP_at (ι:=ι) (σ:=σ) (n:=n) (v:=.slice a l c);cases a <;> exact this h
 |map a=>have:=scP_at (ι:=ι) (σ:=σ) (n:=n) (v:=.map a);cases a <;> exact this h
 |agg c=>exact h.elim
 |tuple c=>exact h.elim
 |_=>trivial
section
variable {ι ι0:Nat→Loc}{B n:Nat}{w:World}
theorem sh_sc {v:Value}(hs:scS ι n v)(hι:∀ j,j<n→ι0 (1+j)=ι j):scS ι0 (1+n) (ren1 (fun k=>1+k) v) :=
 scS_into (m:=n) (scS_mono (ι:=ι) (ι':=fun k=>ι0 (1+k)) (Nat.le_refl _) hι hs) (fun k hk=>by omega)
theorem sh_tr {v:Value}(hs:scS ι n v)(hι:∀ j,j<n→ι0 (1+j)=ι j):trS ι0 (ren1 (fun k=>1+k) v)=trS ι v:=by
 unfold ren1
 rw [trS_ren (n:=1+n) (sh_sc hs hι)]
 exact trS_eq (ι:=ι) (ι':=fun k=>ι0 (1+k)) hι hs
theorem sh_nm {v:Value}(hs:scS ι n v):nmS (1+n) (ren1 (fun k=>1+k) v) :=
 scS_into (m:=n) (scS_at hs) (fun k hk=>by omega)
theorem sh_id {v:Value}(hs:scS ι n v):ren1 id (ren1 (fun k=>1+k) v)=ren1 (fun k=>1+k) v:=by
 unfold ren1
 rw [trS_ren (n:=1+n) (sh_nm hs)]
 rfl
theorem ORel_sh {wr g:Bool}{sz:Nat}{cs:List Value}{l:Loc}(h:ORel ι B w (.cells wr g sz cs) l)(hs:∀ v∈cs,scS ι n v)(hι:∀ j,j<n→ι0 (1+j)=ι j):ORel ι0 B w (shO 1 (.cells wr g sz cs)) l:=by
 have hg:∀ {q:Prop},(g=true→allG cs=true)→g=true→allG (cs.map (ren1 fun k=>1+k))=true:=fun hq e=>allG_of fun v hv=>by
  obtain⟨u,hu,rfl⟩:=List.mem_map.1 hv
  exact gS_sh (allG_mem (hq e) hu)
 have key:∀ {Φ:Nat→Value→Prop},(∀ (i:Nat) v,cs[i]? = some v→Φ i (trS ι v))→∀ (i:Nat) v,(cs.map (ren1 fun k=>1+k))[i]? = some v→Φ i (trS ι0 v):=fun hΦ i v hv=>by
  rw [List.getElem?_map] at hv
  obtain⟨u,hu,rfl⟩:=Option.map_eq_some_iff.1 hv
  rw [sh_tr (hs u (List.mem_of_getElem? hu)) hι]
  exact hΦ i u hu
 cases l with
 |nil p =>
  have h1:cs=[]∧(sz=0∨wr=true→p.isSome=true):=by cases wr <;> exact h
  obtain⟨rfl,hz⟩:=h1
  cases wr <;> exact⟨rfl,hz⟩
 |lay b o e =>
  cases wr with
  |true =>
   obtain⟨x1,x2,arr,t,x3,x4,x5⟩:=h
   exact⟨x1,hg (q:=True) x2,arr,t,x3,by rw [List.length_map];exact x4,key (Φ:=fun i v=>arr[o+i]? = some v) x5⟩
  |false =>
   obtain⟨x1,x2,x3⟩:=h
   exact⟨x1,hg (q:=True) x2,key (Φ:=fun i v=>w.cell? ⟨b,o+i,none⟩=some v) x3⟩
theorem ORel_unsh {wr g:Bool}{sz:Nat}{cs:List Value}{l:Loc}(h:ORel ι0 B w (shO 1 (.cells wr g sz cs)) l)(hs:∀ v∈cs,scS ι n v)(hι:∀ j,j<n→ι0 (1+j)=ι j)(hg0:g=true→allG cs=true):ORel ι B w (.cells wr g sz cs) l:=by
 have key:∀ {Φ:Nat→Value→Prop},(∀ (i:Nat) v,(cs.map (ren1 fun k=>1+k))[i]? = some v→Φ i (trS ι0 v))→∀ (i:Nat) v,cs[i]? = some v→Φ i (trS ι v):=fun hΦ i v hv=>by
  rw [← sh_tr (hs v (List.mem_of_getElem? hv)) hι]
  exact hΦ i _ (by rw [List.getElem?_map,hv];rfl)
 cases l with
 |nil p =>
  have h1:cs.map (ren1 fun k=>1+k)=[]∧(sz=0∨wr=true→p.isSome=true):=by cases wr <;> exact h
  have h2:cs=[]:=by simpa using h1.1
  cases wr <;> exact⟨h2,h1.2⟩
 |lay b o e =>
  cases wr with
  |true =>
   obtain⟨x1,x2,arr,t,x3,x4,x5⟩:=h
   rw [List.length_map] at x4
   exact⟨x1,hg0,arr,t,x3,x4,key (Φ:=fun i v=>arr[o+i]? = some v) x5⟩
  |false =>
   obtain⟨x1,x2,x3⟩:=h
   exact⟨x1,hg0,key (Φ:=fun i v=>w.cell? ⟨b,o+i,none⟩=some v) x3⟩
end
theorem shO_alone (n:Nat)(o:AObj):(shO n o).alone=o.alone:=by cases o <;> rfl
section
variable {α:Type}(E:El α)
end
end Go.Aw
end

noncomputable section
namespace Go.Aw
def cmpV (p:Nat):Value:=.func (.func 209) #[] #[.pointer (some ⟨p,0,none⟩)]
theorem cmpV_tr {ι:Nat→Loc}{k p:Nat}:tr ι (cmpV p)=tr (pre0 k ι) (cmpV (1+p)):=by
 simp [cmpV,tr,trA,trS,trFn,trP,pre0_s]
theorem cmpV_sc {ι:Nat→Loc}{k p n:Nat}(h:scT ι n (cmpV p)):scT (pre0 k ι) (1+n) (cmpV (1+p)):=by
 have h1:scP ι n (.pointer (some ⟨p,0,none⟩)):=h.2 _ (by simp)
 refine⟨trivial,fun v hv=>?_⟩
 simp only [List.mem_cons,List.not_mem_nil,or_false] at hv
 subst hv
 exact⟨by have:=h1.1;show 1+p<1+n;simp only at this;omega,by show (pre0 k ι (1+p)).isAt=true;rw [pre0_s];exact h1.2⟩
theorem DirAt_sh {F:Heap}{p:Nat}{D:List Dt}(h:DirAt F p D):DirAt (shH 1 F) (1+p) D:=by
 obtain⟨b,c,k0,k1,wr,g,sz,r0,wr1,g1,sz1,r1,wr2,g2,sz2,cs,n0,c0,n1,c1,f,cc,h1,h2,h3,h4⟩:=h
 refine⟨1+b,1+c,1+k0,1+k1,wr,g,sz,_,wr1,g1,sz1,_,wr2,g2,sz2,cs.map (ren1 fun k=>1+k),n0,c0,n1,c1,f,cc,look_shH' F h1,look_shH' F h2,look_shH' F h3,?_⟩
 rw [← List.map_take,h4]
 exact map_trS_g (flat_g elD D)
theorem DirAt_shut {F:Heap}{p:Nat}{D:List Dt}(h:DirAt F p D):DirAt (shutH F) p D:=by
 obtain⟨b,c,k0,k1,wr,g,sz,r0,wr1,g1,sz1,r1,wr2,g2,sz2,cs,n0,c0,n1,c1,f,cc,h1,h2,h3,h4⟩:=h
 exact⟨b,c,k0,k1,_,g,sz,r0,_,g1,sz1,r1,_,g2,sz2,cs,n0,c0,n1,c1,f,cc,by rw [look_shutH,h1];rfl,by rw [look_shutH,h2];rfl,by rw [look_shutH,h3];rfl,h4⟩
theorem DirAt_cons {F:Heap}{p nx:Nat}{D:List Dt}{o:AObj}(hF:FrOK F nx)(h:DirAt F p D):DirAt ((0,o)::F) p D:=by
 have key:∀ {j q},look F j=some q→look ((0,o)::F) j=some q:=fun {j q} hj=>by
  have:=(hF.2 j q hj).1
  rw [look_cons,show Nat.beq 0 j=false by cases hb:Nat.beq 0 j with|false=>rfl|true=>have:=beq_true hb;omega]
  exact hj
 obtain⟨b,c,k0,k1,wr,g,sz,r0,wr1,g1,sz1,r1,wr2,g2,sz2,cs,n0,c0,n1,c1,f,cc,h1,h2,h3,h4⟩:=h
 exact⟨b,c,k0,k1,wr,g,sz,r0,wr1,g1,sz1,r1,wr2,g2,sz2,cs,n0,c0,n1,c1,f,cc,key h1,key h2,key h3,h4⟩
theorem DirAt_q {F:Heap}{p nx:Nat}{D:List Dt}{o:AObj}(hF:FrOK F nx)(h:DirAt F p D):DirAt (shutH ((0,o)::F)) p D:=DirAt_shut (DirAt_cons hF h)
def AllC (h:Heap):Prop:=∀ j o,look h j=some o→∃ wr g sz cs,o=.cells wr g sz cs
theorem AllC_cons {F:Heap}{k:Nat}{wr g:Bool}{sz:Nat}{cs:List Value}(h:AllC F):AllC ((k,.cells wr g sz cs)::F):=by
 intro j o hj
 rw [look_cons] at hj
 split at hj
 ·injection hj with hj;exact⟨_,_,_,_,hj.symm⟩
 ·exact h j o hj
theorem cmpV_ren {p:Nat}:ren id (cmpV p)=cmpV p:=by simp [cmpV,ren,tr,trA,trS,trFn,trP,at0]
theorem DirAt_rem {F:Heap}{p nx:Nat}{D:List Dt}{o:AObj}(hF:FrOK F nx)(h:DirAt F p D):DirAt (rem ((0,o)::F) 0) p D:=by
 have key:∀ {j q},look F j=some q→look (rem ((0,o)::F) 0) j=some q:=fun {j q} hj=>by
  have:=(hF.2 j q hj).1
  rw [look_rem,if_neg (by omega),look_cons,show Nat.beq 0 j=false by cases hb:Nat.beq 0 j with|false=>rfl|true=>have:=beq_true hb;omega]
  exact hj
 obtain⟨b,c,k0,k1,wr,g,sz,r0,wr1,g1,sz1,r1,wr2,g2,sz2,cs,n0,c0,n1,c1,f,cc,h1,h2,h3,h4⟩:=h
 exact⟨b,c,k0,k1,wr,g,sz,r0,wr1,g1,sz1,r1,wr2,g2,sz2,cs,n0,c0,n1,c1,f,cc,key h1,key h2,key h3,h4⟩
def frD (s:List Dt→List Int→List Value→Nat→Option (Bool × List Int)):XF:=fun args h nx K=>∃ k c r p l D,args=.slice (some ⟨k,0,none⟩) l.length c::(r++[cmpV p])∧look h k=some (.cells true false 1 (flat elI.fl l))∧AllC h∧DirAt (rem h k) p D ∧
 (match s D l r c with|some pr=>must pr.1 (K (.tuple #[]) (upd h k (.cells true false 1 (flat elI.fl pr.2))) nx)|none=>False)
section
theorem frD_ok {P:Program}{C:VC}{f:Nat}{s:List Dt→List Int→List Value→Nat→Option (Bool × List Int)}(hC:CallsOK P C)
  (hs:∀ D l r c l',s D l r c=some (true,l')→allGA r=true ∧
   ∀ F nx p,FrOK F nx→AllC F→DirAt F p D→C f (.slice (some ⟨0,0,none⟩) l.length c::(r++[cmpV p])) ((0,.cells true false 1 (flat elI.fl l))::F) nx (fun v h _=>v=.tuple #[]∧h=(0,.cells true false 1 (flat elI.fl l'))::F)):XOK P f (frD s):=by
 refine⟨fun args h nx K hx ι B w H hsc=>?_,fun args h nx K hx=>?_⟩
 ·obtain⟨k,c,r,p,l,D,rfl,hk,hcH,hdir,hx⟩:=hx
  split at hx
  case h_2=>exact hx.elim
  rename_i pr e1
  obtain⟨b,l'⟩:=pr
  obtain⟨rfl,hx⟩:=must_iff.1 hx
  obtain⟨a1,a4⟩:=hs D l r c l' e1
  have a2:allG (flat elI.fl l')=true:=flat_g elI l'
  have hcp:=hsc (cmpV p) (.tail _ (List.mem_append_right _ (.head _)))
  have hsl:k<nx∧((ι k).isAt=false→l.length=0∧c=0):=hsc _ (.head _)
  have hcells:∀ j o,look h j=some o→∃ wr g sz cs,o=.cells wr g sz cs:=hcH
  have hι0:∀ j,j<nx→pre0 k ι (1+j)=ι j:=fun j _=>pre0_s k ι j
  have hF:∀ j q,look (shH 1 (rem h k)) j=some q→∃ i o,j=1+i∧i≠k∧look h i=some o∧q=shO 1 o:=by
   intro j q hq
   obtain⟨i,o,e2,e3,e4⟩:=look_shH _ hq
   rw [look_rem] at e3
   split at e3
   ·cases e3
   ·rename_i hne
    exact⟨i,o,e2,hne,e3,e4⟩
  have hFr:FrOK (shH 1 (rem h k)) (1+nx):=by
   refine⟨by omega,fun j q hq=>?_⟩
   obtain⟨i,o,rfl,hne,hi,rfl⟩:=hF j q hq
   have hlow:=H.low i o hi
   obtain⟨wr,g,sz,cs,rfl⟩:=hcells i o hi
   refine⟨by omega,by omega,rfl,rfl,rfl,?_,fun v hv=>?_⟩
   ·rw [List.map_map]
    exact List.map_congr_left fun v hv=>(sh_id (H.sc i _ hi v hv)).symm
   ·obtain⟨u,hu,rfl⟩:=List.mem_map.1 hv
    exact sh_nm (H.sc i _ hi u hu)
  have hAll:AllC (shH 1 (rem h k)):=fun j q hq=>by
   obtain⟨i,o,_,_,hi,rfl⟩:=hF j q hq
   obtain⟨wr,g,sz,cs,rfl⟩:=hcells i o hi
   exact⟨_,_,_,_,rfl⟩
  have H0:RelH (pre0 k ι) B ((0,.cells true false 1 (flat elI.fl l))::shH 1 (rem h k)) (1+nx) w:=by
   refine⟨fun j q hq=>?_,fun j j' q q' hq hq' hne ha b hb=>?_,fun j q hq=>?_,H.size,fun j q hq=>?_⟩
   ·rw [look_cons] at hq
    split at hq
    ·rename_i hb
     injection hq with hq
     subst hq
     have:=beq_true hb
     subst this
     rw [pre0_0]
     exact ORel_g (flat_g elI l) (H.obj k _ hk)
    ·obtain⟨i,o,rfl,hne,hi,rfl⟩:=hF j q hq
     obtain⟨wr,g,sz,cs,rfl⟩:=hcells i o hi
     rw [pre0_s]
     exact ORel_sh (H.obj i _ hi) (H.sc i _ hi) hι0
   ·rw [look_cons] at hq hq'
    split at hq
    ·rename_i hb1
     have:=beq_true hb1
     subst this
     split at hq'
     ·rename_i hb2;exact absurd (beq_true hb2) hne
     ·obtain⟨i,o,rfl,hni,hi,rfl⟩:=hF j' q' hq'
      rw [pre0_0] at hb
      rw [pre0_s]
      exact H.sep k i _ _ hk hi (fun e=>hni e.symm) rfl b hb
    ·obtain⟨i,o,rfl,hni,hi,rfl⟩:=hF j q hq
     rw [shO_alone] at ha
     rw [pre0_s] at hb
     split at hq'
     ·rename_i hb2
      have:=beq_true hb2
      subst this
      rw [pre0_0]
      exact H.sep i k _ _ hi hk hni ha b hb
     ·obtain⟨i',o',rfl,hni',hi',rfl⟩:=hF j' q' hq'
      rw [pre0_s]
      exact H.sep i i' _ _ hi hi' (fun e=>hne (by rw [e])) ha b hb
   ·rw [look_cons] at hq
    split at hq
    ·rename_i hb;rw [← beq_true hb];omega
    ·exact (hFr.2 j q hq).2.1
   ·rw [look_cons] at hq
    split at hq
    ·injection hq with hq
     subst hq
     exact fun v hv=>scS_g (allG_mem (flat_g elI l) hv)
    ·obtain⟨i,o,rfl,hni,hi,rfl⟩:=hF j q hq
     obtain⟨wr,g,sz,cs,rfl⟩:=hcells i o hi
     intro v hv
     obtain⟨u,hu,rfl⟩:=List.mem_map.1 hv
     exact sh_sc (H.sc i _ hi u hu) hι0
  have hrun:=hC f _ _ (1+nx) _ (a4 _ _ (1+p) hFr hAll (DirAt_sh hdir)) (pre0 k ι) B w H0 (fun v hv=>by
   cases hv with
   |head=>exact⟨show 0<1+nx by omega,fun hf=>hsl.2 (by rw [pre0_0] at hf;exact hf)⟩
   |tail _ hm =>
    rcases List.mem_append.1 hm with hm|hm
    ·exact scT_g (allGA_mem a1 hm)
    ·simp only [List.mem_cons,List.not_mem_nil,or_false] at hm
     subst hm
     exact cmpV_sc hcp)
  refine⟨hrun.1,?_⟩
  have he:((.slice (some ⟨k,0,none⟩) l.length c::(r++[cmpV p])):List Value).map (tr ι)=((.slice (some ⟨0,0,none⟩) l.length c::(r++[cmpV (1+p)])):List Value).map (tr (pre0 k ι)):=by
   rw [List.map_cons,List.map_cons,List.map_append,List.map_append]
   congr 1
   congr 1
   ·exact List.map_congr_left fun v hv=>by rw [tr_g (allGA_mem a1 hv),tr_g (allGA_mem a1 hv)]
   ·exact congrArg (fun v=>[v]) cmpV_tr
  rw [he]
  refine CallsIn.mono hrun.2 fun e w' hret=>?_
  cases e with
  |returned u =>
   obtain⟨v,h',nx',ι1,⟨rfl,rfl⟩,q2,q3,q4,q5,q6,rfl⟩:=hret
   have hι1:∀ j,j<nx→ι1 (1+j)=ι j:=fun j hj=>(q5 (1+j) (by omega)).trans (pre0_s k ι j)
   have hι10:ι1 0=ι k:=(q5 0 (by omega)).trans (pre0_0 k ι)
   have hback:∀ j o,look (upd h k (.cells true false 1 (flat elI.fl l'))) j=some o→(j=k∧o=.cells true false 1 (flat elI.fl l'))∨(j≠k∧look h j=some o):=by
    intro j o hj
    rw [look_upd] at hj
    split at hj
    ·rename_i e;injection hj with hj;exact .inl ⟨e,hj.symm⟩
    ·rename_i e;exact .inr ⟨e,hj⟩
   refine⟨.tuple #[],_,nx,ι,hx,?_,⟨fun j o hj=>?_,fun j j' o o' hj hj' hne ha b hb=>?_,fun j o hj=>?_,q3.size,fun j o hj=>?_⟩,q4,fun _ _=>rfl,Nat.le_refl _,?_⟩
   ·exact fun v hv=>(by cases hv)
   ·rcases hback j o hj with ⟨rfl,rfl⟩|⟨hne,hj⟩
    ·have:=q3.obj 0 (.cells true false 1 (flat elI.fl l')) rfl
     rw [hι10] at this
     exact ORel_g a2 this
    ·obtain⟨wr,g,sz,cs,rfl⟩:=hcells j o hj
     have hlow:=H.low j _ hj
     have h1:look ((0,.cells true false 1 (flat elI.fl l'))::shH 1 (rem h k)) (1+j)=some (shO 1 (.cells wr g sz cs)):=by
      rw [look_cons,show Nat.beq 0 (1+j)=false by cases hb:Nat.beq 0 (1+j) with|false=>rfl|true=>have:=beq_true hb;omega]
      exact look_shH' _ (by rw [look_rem,if_neg hne];exact hj)
     have h2:=q3.obj _ _ h1
     rw [hι1 j hlow] at h2
     refine ORel_unsh h2 (H.sc j _ hj) hι1 ?_
     intro hgt
     have h3:=H.obj j _ hj
     cases hl:ι j with
     |nil p =>
      rw [hl] at h3
      have h4:cs=[]∧(sz=0∨wr=true→p.isSome=true):=by cases wr <;> exact h3
      rw [h4.1];rfl
     |lay b off ex =>
      rw [hl] at h3
      cases wr with
      |true=>exact h3.2.1 hgt
      |false=>exact h3.2.1 hgt
   ·rcases hback j o hj with ⟨e3,e4⟩|⟨hnk,hj2⟩
    ·rcases hback j' o' hj' with ⟨e5,e6⟩|⟨hnk',hj3⟩
     ·exact absurd (e3.trans e5.symm) hne
     ·exact H.sep j j' _ _ (by rw [e3];exact hk) hj3 hne rfl b hb
    ·rcases hback j' o' hj' with ⟨e5,e6⟩|⟨hnk',hj3⟩
     ·exact H.sep j j' _ _ hj2 (by rw [e5];exact hk) hne ha b hb
     ·exact H.sep j j' _ _ hj2 hj3 hne ha b hb
   ·rcases hback j o hj with ⟨rfl,rfl⟩|⟨hnk,hj⟩
    ·exact hsl.1
    ·exact H.low j o hj
   ·rcases hback j o hj with ⟨rfl,rfl⟩|⟨hnk,hj⟩
    ·exact fun v hv=>scS_g (allG_mem a2 hv)
    ·exact H.sc j o hj
   ·simp [tr]
  |_=>exact hret.elim
 ·obtain⟨k,c,r,p,l,D,rfl,hk,hcH,hdir,hx⟩:=hx
  split at hx
  case h_2=>exact hx.elim
  rename_i pr e1
  obtain⟨hb,hx⟩:=must_iff.1 hx
  exact⟨_,_,_,hx,fun K' hk'=>⟨k,c,r,p,l,D,rfl,hk,hcH,hdir,by rw [e1];exact must_of hb hk'⟩⟩
end
end Go.Aw
end

noncomputable section
namespace Go.Aw
set_option maxRecDepth 100000
def swpL (L:List Int)(x y:Nat):List Int:=(L.set x (atI L y)).set y (atI L x)
theorem swpL_len (L:List Int)(x y:Nat):(swpL L x y).length=L.length:=by simp [swpL]
theorem put_swp {L:List Int}{x y o1 o2:Nat}(h1:o1=x*1)(h2:o2=y*1)(hx:x<L.length)(hy:y<L.length):putN (putN (flat elI.fl L) o1 [iv (atI L y)]) o2 [iv (atI L x)]=flat elI.fl (swpL L x y):=by
 rw [h1,h2,put_int _ _ _ hx,put_int _ _ _ (by rw [List.length_set];exact hy)]
 rfl
def swrN (L:List Int)(a b:Nat):Nat→List Int
 |0=>L
 |i+1=>swpL (swrN L a b i) (a+i) (b+i)
theorem swrN_len (L:List Int)(a b:Nat):∀ i,(swrN L a b i).length=L.length
 |0=>rfl
 |i+1=>by unfold swrN;rw [swpL_len];exact swrN_len L a b i
def swrS (D:List Dt)(l:List Int)(r:List Value)(c:Nat):Option (Bool × List Int):=match r with
 |[.int .i64 a,.int .i64 b,.int .i64 n]=>some (decide (0≤a)&&decide (0≤b)&&decide (0≤n)&&decide (a+n≤l.length)&&decide (b+n≤l.length)&&decide (l.length≤1000000),swrN l a.toNat b.toNat n.toNat)
 |_=>none
theorem swrS_inv {D:List Dt}{l:List Int}{r:List Value}{c:Nat}{l':List Int}(h:swrS D l r c=some (true,l')):∃ a b n:Int,r=[iv a,iv b,iv n]∧0≤a∧0≤b∧0≤n∧a+n≤l.length∧b+n≤l.length∧l.length≤1000000∧l'=swrN l a.toNat b.toNat n.toNat:=by
 unfold swrS at h
 split at h
 ·rename_i a b n
  injection h with h
  injection h with h1 h2
  simp only [Bool.and_eq_true,decide_eq_true_eq] at h1
  exact⟨a,b,n,rfl,h1.1.1.1.1.1,h1.1.1.1.1.2,h1.1.1.1.2,h1.1.1.2,h1.1.2,h1.2,h2.symm⟩
 ·cases h
def e276 (N c:Nat)(a b n j:Int):List (Nat × Value):=[(0,.slice (some ⟨0,0,none⟩) N c),(1,iv a),(2,iv b),(3,iv n),(10,iv j)]
theorem env_sl {nx N c k:Nat}{e:List (Nat × Value)}(h:1≤nx)(he:look e k=some (.slice (some ⟨0,0,none⟩) N c)):look e k=some (ren id (.slice (some ⟨0,0,none⟩) N c))∧nmT nx (.slice (some ⟨0,0,none⟩) N c):=⟨he,h,fun h=>by cases h⟩
def Xf276:Nat × XF:=(276,frD swrS)
theorem xf276:XOK Go.Proofs.Tryz.prog Xf276.1 Xf276.2:=frD_ok (body_calls (xl:=[]) .nil) fun D l r c l' hs=>by
 obtain⟨a,b,n,rfl,ha,hb,hn,han,hbn,hl,rfl⟩:=swrS_inv hs
 refine⟨rfl,fun F nx p hF hC hD=>?_⟩
 (conv=>whnf)
 refine⟨fun q e h nx'=>∃ (i:Nat) (j:Int),j=i∧i≤n.toNat∧q=n.toNat - i∧e=e276 l.length c a b n j∧h=(0,.cells true false 1 (flat elI.fl (swrN l a.toNat b.toNat i)))::F∧nx'=nx,⟨n.toNat,?_⟩,?_⟩
 ·refine Into_fr (e0:=e276 l.length c a b n 0) (o0:=.cells true false 1 (flat elI.fl l)) (n0:=nx) hF ⟨0,0,rfl,Nat.zero_le _,rfl,rfl,rfl,rfl⟩ ?_ (ObjRen_g (flat_g _ _)) (Nat.le_refl _)
  unfold e276
  refine List.forall_mem_cons.2 ⟨env_sl hF.1 rfl,?_⟩
  ((repeat'(refine List.forall_mem_cons.2 ⟨⟨rfl,?_⟩,?_⟩;(first|exact scT_g rfl|exact⟨by decide,rfl⟩|exact⟨by decide,fun h=>(by cases h)⟩)));exact fun _ h=>(by cases h))
 ·rintro q e h nx' ⟨i,j,hj,hi,rfl,rfl,rfl,rfl⟩
  have sl:=swrN_len l a.toNat b.toNat i
  have nxt:swrN l a.toNat b.toNat (i+1)=swpL (swrN l a.toNat b.toNat i) (a.toNat+i) (b.toNat+i):=rfl
  generalize hs0:swrN l a.toNat b.toNat i=L at sl nxt
  have hl1:(flat elI.fl L).length=L.length:=by rw [flat_len];exact Nat.mul_one _
  unfold e276
  ((conv=>whnf);refine bm (fun h1=>?_) (fun h1=>?_))
  ·have hlt:i<n.toNat:=by simp [cfgS,std] at h1;omega
   have hput:=put_swp (L:=L) (x:=a.toNat+i) (y:=b.toNat+i) (o1:=0+(a+j).toNat*1) (o2:=0+(b+j).toNat*1) (by omega) (by omega) (by omega) (by omega)
   repeat' first
    |(((conv=>whnf);refine bm (fun g=>?_) (fun g=>?_)))
    |((conv=>whnf)
      refine boV (getI L (i:=a.toNat+i) (by omega) ?_) ?_
      ·show _+Int.toNat (a+j)*1=_;omega)
    |((conv=>whnf)
      refine boV (getI L (i:=b.toNat+i) (by omega) ?_) ?_
      ·show _+Int.toNat (b+j)*1=_;omega)
   all_goals first
    |(exfalso;simp [cfgS,std,fitsK] at g;omega)
    |(have g:(0+(a+j).toNat*1+1).ble (flat elI.fl L).length=false:=g
      rw [hl1] at g
      exact ble_no g (by omega))
    |(have g:(0+(b+j).toNat*1+1).ble (putN (flat elI.fl L) (0+(a+j).toNat*1) [iv (atI L (b.toNat+i))]).length=false:=g
      rw [putN_length (by rw [hl1];show 0+(a+j).toNat*1+1≤L.length;omega),hl1] at g
      exact ble_no g (by omega))
    |skip
   (conv=>whnf)
   refine⟨n.toNat - (i+1),by omega,?_⟩
   refine Into_fr (e0:=e276 l.length c a b n (j+1)) (o0:=.cells true false 1 (flat elI.fl (swpL L (a.toNat+i) (b.toNat+i)))) (n0:=nx') hF ⟨i+1,j+1,by omega,by omega,rfl,rfl,by rw [nxt],rfl⟩ ?_ (ObjRen_j (flat_g _ _) hput) (Nat.le_refl _)
   unfold e276
   refine List.forall_mem_cons.2 ⟨env_sl hF.1 rfl,?_⟩
   ((repeat'(refine List.forall_mem_cons.2 ⟨⟨rfl,?_⟩,?_⟩;(first|exact scT_g rfl|exact⟨by decide,rfl⟩|exact⟨by decide,fun h=>(by cases h)⟩)));exact fun _ h=>(by cases h))
  ·have hge:i=n.toNat:=by simp [cfgS,std] at h1;omega
   (conv=>whnf)
   exact⟨rfl,by rw [← hs0,hge]⟩
end Go.Aw
end
