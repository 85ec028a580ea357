/-
  Parts of a proof. No condition.
-/
import Derived.Test.YthgjfhncomhofaaGreatQAi
import Derived.Test.YthgjfhncomhofaaGreatQAj
import Derived.Test.YthgjfhncomhofaaGreatQAk
set_option linter.unusedSimpArgs false
set_option linter.unusedVariables false
noncomputable section
namespace Go.Aw
open Proofs
set_option maxRecDepth 100000
def liS (l:List Pt)(m:List Ed)(n:Int):List Value->Option (Bool × Value)
 |[]=>some (decide (l.length<=1000)&&decide (m.length<=1000),.bool (eO l m n))
 |_=>none
theorem aHu {l:List Pt}{m:List Ed}{n:Int}{r:List Value}{v:Value}(h:liS l m n r=some (true,v)):r=[]/\l.length<=1000/\m.length<=1000/\v=.bool (eO l m n):=by
 unfold liS at h;split at h
 ·injection h with h;injection h with h1 h2;simp only[af,ag]at h1;exact⟨rfl,h1.1,h1.2,h2.symm⟩
 ·cases h
def aCZ (N c:Nat)(j:Int):List (Nat × Value):=[(1,ao 2),(35,ak 0 N c),(36,iv N),(37,iv j)]
def OI (N M c:Nat)(j:Int):List (Nat × Value):=[(1,ao 2),(5,ak 3 N N),(66,ak 1 M c),(67,iv M),(68,iv j)]
def aBy:Nat × XF:=(140,mX aX bS liS)
theorem aQl:c7 Tryz.prog aBy.1 aBy.2:=xF aX bS (aL (xl:=[X17,Y5,RN,aCi,Z5]) (.cons x17 (.cons aDC (.cons UQ (.cons aIB (.cons aKC .nil)))))) fun l m n r v hs=>by
 obtain⟨rfl,hl,hm,rfl⟩:=aHu hs;clear hs;refine⟨rfl,rfl,fun c1 c2=>?_⟩;have hszf:¬(l.length<=400/\3<=m.length/\m.length<=400/\1<=n/\n<=100)->eO l m n=false:=fun h=>aLA (by
  cases hz:XW l m n with
  |false=>rfl
  |true=>simp only[XW,af,ag]at hz;exact absurd ⟨hz.1.1.1.1,hz.1.1.1.2,hz.1.1.2,hz.1.2,hz.2⟩ h)
 ((conv=>whnf);apply bm<;>intro a1);rotate_left
 ·have a1:400<l.length:=(by simp[aB,aF]at a1;omega);(conv=>whnf);rw[hszf aa]
 have a1:¬ 400<l.length:=(by simp[aB,aF]at a1;omega);((conv=>whnf);apply bm<;>intro a2);rotate_left
 ·have a2:m.length<3:=(by simp[aB,aF]at a2;omega);(conv=>whnf);rw[hszf aa]
 have a2:¬ m.length<3:=(by simp[aB,aF]at a2;omega);((conv=>whnf);apply bm<;>intro a3);rotate_left
 ·have a3:400<m.length:=(by simp[aB,aF]at a3;omega);(conv=>whnf);rw[hszf aa]
 have a3:¬ 400<m.length:=(by simp[aB,aF]at a3;omega);((conv=>whnf);apply bm<;>intro a4);rotate_left
 ·have a4:n<1:=(by simp[aB,aF]at a4;omega);(conv=>whnf);rw[hszf aa]
 have a4:¬ n<1:=(by simp[aB,aF]at a4;omega);((conv=>whnf);apply bm<;>intro a5)
 ·have a5:100<n:=(by simp[aB,aF]at a5;omega);(conv=>whnf);rw[hszf aa]
 have a5:¬ 100<n:=(by simp[aB,aF]at a5;omega);have hsz:XW l m n=true:=by
  simp only[XW,af,ag];omega
 clear hszf;(conv=>whnf);refine⟨fun q e h nx=>∃(i:Nat) (j:Int),j=i/\i<=l.length/\q=l.length - i/\(∀ t,t<i->FK l t=true)/\e=aCZ l.length c1 j/\h=cM l m c1 c2 n/\nx=3,⟨l.length,?_⟩,?_⟩
 ·exact aJ (h0:=cM l m c1 c2 n) (n0:=3) ⟨0,0,rfl,Nat.zero_le _,rfl,fun t ht=>absurd ht (Nat.not_lt_zero t),rfl,rfl,rfl⟩
 rintro q e h nx ⟨i,j,hj,hi,rfl,hpt,rfl,rfl,rfl⟩;unfold aCZ cM dU aS;((conv=>whnf);apply bm<;>intro b1)
 ·have hlt:i<l.length:=(by simp[aB,aF]at b1;omega);(conv=>whnf);refine bt ?_;(conv=>whnf);refine eZ (eU l (i:=i) hlt ?_) ?_
  ·show _+Int.toNat j*2=_;omega
  ((conv=>whnf);apply bm<;>intro b3);rotate_left
  ·have hr:bF (bI l i)=false:=(by simpa[aB,aF]using b3);(conv=>whnf);rw[aFC hlt (show FK l i=false by rw[FK,hr];rfl)]
  have hr:bF (bI l i)=true:=(by simpa[aB,aF]using b3);((conv=>whnf);apply bm<;>intro b4);rotate_left
  ·have hi0:i=0:=(by simp[aB,aF]at b4;omega);have hyes:FK l i=true:=(by rw[FK,hr,hi0];rfl);(conv=>whnf);refine bt ?_;(conv=>whnf);refine⟨l.length - (i+1),aa,?_⟩;refine cU (e0:=aCZ l.length c1 (j+1)) (h0:=cM l m c1 c2 n) (n0:=3) ⟨i+1,j+1,aa,aa,rfl,fun t ht=>?_,rfl,rfl,rfl⟩ ?_ ?_ (by decide)
   ·by_cases hti:t=i
    ·rw[hti];exact hyes
    exact hpt t aa
   ·unfold aCZ;exact xE
   unfold cM dU aS;exact xH
  have hi0:i≠0:=(by simp[aB,aF]at b4;omega);(conv=>whnf);refine bt ?_;(conv=>whnf);refine bt ?_;(conv=>whnf);refine eZ (eU l (i:=i - 1) aa ?_) ?_
  ·show _+Int.toNat (j - 1)*2=_;omega
  ((conv=>whnf);apply bm<;>intro b8)
  ·have b8:bL (bI l (i - 1)) (bI l i)=false:=by
    rw[DR];have:0<=iV (bI l (i - 1)) (bI l i):=(by simpa[aB,aF]using b8);exact aj aa
   (conv=>whnf);rw[aFC hlt (show FK l i=false by rw[FK,hr,b8,aj hi0];rfl)]
  have b8:bL (bI l (i - 1)) (bI l i)=true:=by
   rw[DR];have:¬ 0<=iV (bI l (i - 1)) (bI l i):=(by simpa[aB,aF]using b8);exact ai aa
  have hyes:FK l i=true:=(by rw[FK,hr,b8];simp);(conv=>whnf);refine bt ?_;(conv=>whnf);refine⟨l.length - (i+1),aa,?_⟩;refine cU (e0:=aCZ l.length c1 (j+1)) (h0:=cM l m c1 c2 n) (n0:=3) ⟨i+1,j+1,aa,aa,rfl,fun t ht=>?_,rfl,rfl,rfl⟩ ?_ ?_ (by decide)
  ·by_cases hti:t=i
   ·rw[hti];exact hyes
   exact hpt t aa
  ·unfold aCZ;exact xE
  unfold cM dU aS;exact xH
 have hge:i=l.length:=(by simp[aB,aF]at b1;omega);subst hge;clear b1 hi hj;(conv=>whnf);refine bt ?_;(conv=>whnf);refine⟨fun q e h nx=>∃(i:Nat) (j:Int),j=i/\i<=m.length/\q=m.length - i/\(∀ t,t<i->G8 l m t=true)/\e=OI l.length m.length c2 j/\h=cW l m c1 c2 n (nN m (List.replicate l.length false) i)/\nx=4,⟨m.length,?_⟩,?_⟩
 ·refine aJ (h0:=cW l m c1 c2 n (List.replicate l.length false)) (n0:=4) ⟨0,0,rfl,Nat.zero_le _,rfl,fun t ht=>absurd ht (Nat.not_lt_zero t),rfl,rfl,rfl⟩ (hh:=?_)
  ·unfold cW cM dU aS;have hrep:=Q3 l.length;((repeat'(first|refine iW rfl rfl (aK (aC gJ _) hrep) ?_|refine iF rfl rfl ?_|refine iC rfl rfl rfl ?_|refine iJ rfl rfl rfl rfl ?_));exact iN)
 rintro q e h nx ⟨i,j,hj,hi,rfl,hed0,rfl,rfl,rfl⟩;have rl:(nN m (List.replicate l.length false) i).length=l.length:=(by rw[uF,List.length_replicate]);have nxt:nN m (List.replicate l.length false) (i+1)=((nN m (List.replicate l.length false) i).set (aU m i).a.toNat true).set (aU m i).b.toNat true:=rfl;generalize hs0:nN m (List.replicate l.length false) i=s at rl nxt;have hsl:(flat gJ.fl s).length=l.length:=(by rw[aO,rl];exact Nat.mul_one _);unfold OI cW cM dU aS;((conv=>whnf);apply bm<;>intro d1);rotate_left
 ·have hge:i=m.length:=(by simp[aB,aF]at d1;omega);subst hge;(conv=>whnf);refine⟨s,⟨rl.symm,_,_,_,_,rfl,by rw[List.drop_zero,List.take_length]⟩,?_⟩;((conv=>whnf);apply bm<;>intro g1)
  ·(conv=>whnf);rw[eO,hsz,eN hpt,eN hed0,hs0];show Value.bool (!(!(s.all id)))=_;rw[Bool.not_not];rfl
  exfalso;have g1:decide (s.length<=1000000)=false:=g1;simp at g1;omega
 have hlt:i<m.length:=(by simp[aB,aF]at d1;omega);(conv=>whnf);refine bt ?_;(conv=>whnf);refine eZ (BE m (i:=i) hlt ?_) ?_
 ·show _+Int.toNat j*5=_;omega
 generalize hed:aU m i=ed at nxt;((conv=>whnf);apply bm<;>intro f1);rotate_left
 ·have f1:¬ 0<=ed.a:=(by simp[aB,aF]at f1;omega);(conv=>whnf);rw[EM hlt (qV hed aa)]
 have f1:0<=ed.a:=(by simp[aB,aF]at f1;omega);((conv=>whnf);apply bm<;>intro f2);rotate_left
 ·have f2:¬ ed.a<ed.b:=(by simp[aB,aF]at f2;omega);(conv=>whnf);rw[EM hlt (qV hed aa)]
 have f2:ed.a<ed.b:=(by simp[aB,aF]at f2;omega);((conv=>whnf);apply bm<;>intro f3);rotate_left
 ·have f3:¬ ed.b<l.length:=(by simp[aB,aF]at f3;omega);(conv=>whnf);rw[EM hlt (qV hed aa)]
 have f3:ed.b<l.length:=(by simp[aB,aF]at f3;omega);((conv=>whnf);apply bm<;>intro f4);rotate_left
 ·have f4:¬ -1<=ed.n:=(by simp[aB,aF]at f4;omega);(conv=>whnf);rw[EM hlt (qV hed aa)]
 have f4 : -1<=ed.n:=(by simp[aB,aF]at f4;omega);((conv=>whnf);apply bm<;>intro f5)
 ·have f5:200<=ed.n:=(by simp[aB,aF]at f5;omega);(conv=>whnf);rw[EM hlt (qV hed aa)]
 have f5:ed.n<200:=(by simp[aB,aF]at f5;omega);((conv=>whnf);apply bm<;>intro f6);rotate_left
 ·have f6:i=0:=(by simp[aB,aF]at f6;omega);have hyes:G8 l m i=true:=CN hed ⟨f1,f2,f3,f4,f5⟩ (by simp[f6]);(conv=>whnf);refine bt ?_;((conv=>whnf);apply bm<;>intro k2)
  ·(conv=>whnf);refine bt ?_;((conv=>whnf);apply bm<;>intro k4)
   ·(conv=>whnf);refine bt ?_;(conv=>whnf);refine⟨m.length - (i+1),aa,?_⟩;refine cU (e0:=OI l.length m.length c2 (j+1)) (h0:=cW l m c1 c2 n (nN m (List.replicate l.length false) (i+1))) (n0:=4) ⟨i+1,j+1,aa,aa,rfl,fun t ht=>?_,rfl,rfl,rfl⟩ ?_ ?_ (by decide)
    ·by_cases hti:t=i
     ·rw[hti];exact hyes
     exact hed0 t aa
    ·unfold OI;exact xE
    unfold cW cM dU aS;have cO:=X8 (s:=s) (a:=ed.a.toNat) (b:=ed.b.toNat) (o1:=0+ed.a.toNat*1) (o2:=0+ed.b.toNat*1) aa aa aa aa;rw[nxt];((repeat'(first|refine iW rfl rfl (aK (aC gJ _) cO) ?_|refine iF rfl rfl ?_|refine iC rfl rfl rfl ?_|refine iJ rfl rfl rfl rfl ?_));exact iN)
   have hpl:(bU (flat gJ.fl s) (0+ed.a.toNat*1) [.bool true]).length=l.length:=(by rw[cG (by rw[hsl];show 0+ed.a.toNat*1+1<=l.length;omega)];exact hsl);have k4:(0+ed.b.toNat*1+1).ble (bU (flat gJ.fl s) (0+ed.a.toNat*1) [.bool true]).length=false:=k4;rw[hpl]at k4;exact eD k4 aa
  rw[hsl]at k2;exact eD k2 (by show 0+ed.a.toNat*1+1<=l.length;omega)
 have f6:0<i:=(by simp[aB,aF]at f6;omega);(conv=>whnf);refine bt ?_;(conv=>whnf);refine bt ?_;(conv=>whnf);refine fD (HE m 0 (i:=i - 1) aa rfl (by decide) ?_) ?_
 ·show _+Int.toNat (j - 1)*5+0=_;omega
 (conv=>whnf);refine bt ?_;(conv=>whnf);refine bt ?_;(conv=>whnf);refine fD (HE m 1 (i:=i - 1) aa rfl (by decide) ?_) ?_
 ·show _+Int.toNat (j - 1)*5+1=_;omega
 generalize hd0:aU m (i - 1)=dd;(conv=>whnf);refine⟨[jN dd.a ed.a,jN dd.b ed.b],⟨rfl,_,_,_,_,rfl,rfl⟩,?_⟩;((conv=>whnf);apply bm<;>intro f11)
 ·have f11:W2 dd ed=false:=by
   rw[aAh];have:0<=orI (jN dd.a ed.a) (jN dd.b ed.b):=(by simpa[aB,aF]using f11);exact aj aa
  (conv=>whnf);rw[EM hlt (ZL hed hd0 aa f11)]
 have f11:W2 dd ed=true:=by
  rw[aAh];have:¬ 0<=orI (jN dd.a ed.a) (jN dd.b ed.b):=(by simpa[aB,aF]using f11);exact ai aa
 have hyes:G8 l m i=true:=CN hed ⟨f1,f2,f3,f4,f5⟩ (by rw[hd0,f11,Bool.or_true]);(conv=>whnf);refine bt ?_;((conv=>whnf);apply bm<;>intro k2);rotate_left
 ·rw[hsl]at k2;exact eD k2 (by show 0+ed.a.toNat*1+1<=l.length;omega)
 (conv=>whnf);refine bt ?_;((conv=>whnf);apply bm<;>intro k4)
 ·(conv=>whnf);refine bt ?_;(conv=>whnf);refine⟨m.length - (i+1),aa,?_⟩;refine cU (e0:=OI l.length m.length c2 (j+1)) (h0:=cW l m c1 c2 n (nN m (List.replicate l.length false) (i+1))) (n0:=4) ⟨i+1,j+1,aa,aa,rfl,fun t ht=>?_,rfl,rfl,rfl⟩ ?_ ?_ (by decide)
  ·by_cases hti:t=i
   ·rw[hti];exact hyes
   exact hed0 t aa
  ·unfold OI;exact xE
  unfold cW cM dU aS;have cO:=X8 (s:=s) (a:=ed.a.toNat) (b:=ed.b.toNat) (o1:=0+ed.a.toNat*1) (o2:=0+ed.b.toNat*1) aa aa aa aa;rw[nxt];((repeat'(first|refine iW rfl rfl (aK (aC gJ _) cO) ?_|refine iF rfl rfl ?_|refine iC rfl rfl rfl ?_|refine iJ rfl rfl rfl rfl ?_));exact iN)
 have hpl:(bU (flat gJ.fl s) (0+ed.a.toNat*1) [.bool true]).length=l.length:=(by rw[cG (by rw[hsl];show 0+ed.a.toNat*1+1<=l.length;omega)];exact hsl);have k4:(0+ed.b.toNat*1+1).ble (bU (flat gJ.fl s) (0+ed.a.toNat*1) [.bool true]).length=false:=k4;rw[hpl]at k4;exact eD k4 aa
theorem apart {F1 F2 G1 G2 s1 s2 t1 t2 c:Int}(hi:G1*s2 - G2*s1=F2*t1 - F1*t2)(hd:G1 - G2=F2 - F1)(hF:F1*F2<0)(hG:G1*G2<0)
  (h1:s1<=c) (h2:s2<=c) (h3:c+1<=t1) (h4:c+1<=t2):False:=by
 have key:∀{F1 F2 G1 G2 s1 s2 t1 t2:Int},G1*s2 - G2*s1=F2*t1 - F1*t2->G1 - G2=F2 - F1->F1<0->0<F2->0<G1->G2<0->s1<=c->s2<=c->c+1<=t1->c+1<=t2->False:=by
  intro F1 F2 G1 G2 s1 s2 t1 t2 hi hd f1 f2 g1 g2 h1 h2 h3 h4;have e1:=Int.mul_le_mul_of_nonneg_left h2 (Int.le_of_lt g1);have e2:=Int.mul_le_mul_of_nonneg_left h1 (aa:0<=-G2);have e3:=Int.mul_le_mul_of_nonneg_left h3 (Int.le_of_lt f2);have e4:=Int.mul_le_mul_of_nonneg_left h4 (aa:0<=-F1);have d:(G1 - G2)*c=(F2 - F1)*c:=(by rw[hd]);simp only[Int.mul_add,Int.mul_one,Int.neg_mul,Int.sub_mul]at e1 e2 e3 e4 d;omega
 rcases Int.lt_or_le F1 0 with f1|f1
 ·have f2:0<F2:=by
   rcases Int.lt_or_le 0 F2 with h|h
   ·exact h
   have:=Int.mul_nonneg_of_nonpos_of_nonpos (Int.le_of_lt f1) h;omega
  rcases Int.lt_or_le G1 0 with g1|g1
  ·have g2:0<G2:=by
    rcases Int.lt_or_le 0 G2 with h|h
    ·exact h
    have:=Int.mul_nonneg_of_nonpos_of_nonpos (Int.le_of_lt g1) h;omega
   omega
  have g1':0<G1:=by
   rcases Int.lt_or_le 0 G1 with h|h
   ·exact h
   have:G1=0:=aa;rw[this]at hG;omega
  have g2:G2<0:=by
   rcases Int.lt_or_le G2 0 with h|h
   ·exact h
   have:=Int.mul_nonneg g1 h;omega
  exact key hi hd f1 f2 g1' g2 h1 h2 h3 h4
 have f1':0<F1:=by
  rcases Int.lt_or_le 0 F1 with h|h
  ·exact h
  have:F1=0:=aa;rw[this]at hF;omega
 have f2:F2<0:=by
  rcases Int.lt_or_le F2 0 with h|h
  ·exact h
  have:=Int.mul_nonneg f1 h;omega
 rcases Int.lt_or_le G1 0 with g1|g1
 ·have g2:0<G2:=by
   rcases Int.lt_or_le 0 G2 with h|h
   ·exact h
   have:=Int.mul_nonneg_of_nonpos_of_nonpos (Int.le_of_lt g1) h;omega
  exact key (F1:=F2) (F2:=F1) (G1:=G2) (G2:=G1) (s1:=s2) (s2:=s1) (t1:=t2) (t2:=t1) aa aa f2 f1' g2 g1 h2 h1 h4 h3
 have g2:G2<0:=by
  rcases Int.lt_or_le G2 0 with h|h
  ·exact h
  have:=Int.mul_nonneg g1 h;omega
 omega
theorem UX {a b:Int}(h:sgn a*sgn b<0):a*b<0:=by
 unfold sgn at h
 split at h <;> split at h <;> first
  |omega
  |(exact Int.mul_neg_of_neg_of_pos aa aa)
  |(exact Int.mul_neg_of_pos_of_neg aa aa)
  |(split at h <;> first|omega|(exact Int.mul_neg_of_neg_of_pos aa aa)|(exact Int.mul_neg_of_pos_of_neg aa aa))
theorem aE8 (s t:Sg):bO t.1 t.2 s.1 - bO t.1 t.2 s.2=bO s.1 s.2 t.2 - bO s.1 s.2 t.1:=by
 obtain⟨⟨a,b⟩,⟨c,d⟩⟩:=s;obtain⟨⟨e,f⟩,⟨g,h⟩⟩:=t;simp only[bO,Int.sub_mul,Int.mul_sub,Int.mul_comm,Int.mul_left_comm,Int.mul_assoc];omega
theorem aF8 (s t:Sg):bO t.1 t.2 s.1*s.2.1 - bO t.1 t.2 s.2*s.1.1=bO s.1 s.2 t.2*t.1.1 - bO s.1 s.2 t.1*t.2.1:=by
 obtain⟨⟨a,b⟩,⟨c,d⟩⟩:=s;obtain⟨⟨e,f⟩,⟨g,h⟩⟩:=t;simp only[bO,Int.sub_mul,Int.mul_sub,Int.mul_comm,Int.mul_left_comm,Int.mul_assoc];omega
theorem aG8 (s t:Sg):bO t.1 t.2 s.1*s.2.2 - bO t.1 t.2 s.2*s.1.2=bO s.1 s.2 t.2*t.1.2 - bO s.1 s.2 t.1*t.2.2:=by
 obtain⟨⟨a,b⟩,⟨c,d⟩⟩:=s;obtain⟨⟨e,f⟩,⟨g,h⟩⟩:=t;simp only[bO,Int.sub_mul,Int.mul_sub,Int.mul_comm,Int.mul_left_comm,Int.mul_assoc];omega
theorem aB0 {a b c d:Int}(h:apI a b c d=true):(∃ k,a<=k/\b<=k/\k+1<=c/\k+1<=d)\/(∃ k,c<=k/\d<=k/\k+1<=a/\k+1<=b):=by
 unfold apI mxI WH at h;simp only[Bool.or_eq_true,ag]at h;rcases h with h|h
 ·refine .inl ⟨if b > a then b else a,?_⟩;split at h <;> split at h <;> omega
 refine .inr ⟨if d > c then d else c,?_⟩;split at h <;> split at h <;> omega
theorem aCd {s t:Sg}(h:E9 s t=true):¬(bH s.1 s.2 t.1*bH s.1 s.2 t.2<0/\bH t.1 t.2 s.1*bH t.1 t.2 s.2<0):=by
 rintro⟨h1,h2⟩;have h1:=UX h1;have h2:=UX h2;have d1:=aE8 s t;have d2:=aE8 t s;unfold E9 at h;rw[Bool.or_eq_true]at h;rcases h with h|h
 ·rcases aB0 h with⟨k,a1,a2,a3,a4⟩|⟨k,a1,a2,a3,a4⟩
  ·exact apart (aF8 s t) d1 h1 h2 a1 a2 a3 a4
  exact apart (aF8 t s) d2 h2 h1 a1 a2 a3 a4
 ·rcases aB0 h with⟨k,a1,a2,a3,a4⟩|⟨k,a1,a2,a3,a4⟩
  ·exact apart (aG8 s t) d1 h1 h2 a1 a2 a3 a4
  exact apart (aG8 t s) d2 h2 h1 a1 a2 a3 a4
theorem aHV {s t:Sg}(h:E9 s t=true)(p:Pt):¬(rR p s=true/\rR p t=true):=by
 rintro⟨h1,h2⟩;simp only[rR,btw,af,ag]at h1 h2;obtain⟨⟨⟨x1,x2⟩,y1,y2⟩,_⟩:=h1;obtain⟨⟨⟨x3,x4⟩,y3,y4⟩,_⟩:=h2;unfold E9 at h;rw[Bool.or_eq_true]at h;rcases h with h|h
 ·rcases aB0 h with⟨k,a1,a2,a3,a4⟩|⟨k,a1,a2,a3,a4⟩ <;>
   (split at x1 <;> split at x2 <;> split at x3 <;> split at x4 <;> omega)
 ·rcases aB0 h with⟨k,a1,a2,a3,a4⟩|⟨k,a1,a2,a3,a4⟩ <;>
   (split at y1 <;> split at y2 <;> split at y3 <;> split at y4 <;> omega)
theorem aGt {s t:Sg}(h:E9 s t=true):dW s t=0:=by
 unfold dW;split
 ·rename_i hr;rw[PT s t hr.1 hr.2];have he:l7 s t=[]:=by
   unfold l7;have:∀ p,m9 s t [] p=[]:=fun p=>by
    unfold m9;rw[if_neg (fun hh=>aHV h p ⟨hh.1,hh.2.1⟩)]
   rw[this,this,this,this]
  unfold qP;rw[he];exact if_neg (aCd h)
 rfl
theorem aFd (s t:Sg):J9 s t=dW s t:=by
 unfold J9;split
 ·rename_i h;rw[aGt h]
 rfl
def HP (v:Pt):Bool:=decide (v.2<0) || (decide (v.2=0)&&decide (v.1<0))
def aNe:Nat × XF:=(212,gX (s1 cP fun v=>(true,.bool (HP v))))
theorem aRd:c7 Tryz.prog aNe.1 aNe.2:=x1 cP (xl:=[]) .nil (fun _=>rfl) fun a _=>by
 obtain⟨ax,ay⟩:=a;unfold dM
 repeat' ((conv=>whnf);apply bm<;>intro h)
 all_goals(conv=>whnf)
 all_goals(simp only[iZ,xR,j5,jE,beq_iff_eq,beq_eq_false_iff_ne,ne_eq,Bool.not_eq_false,Bool.not_eq_true,ag,decide_eq_false_iff_not]at *)
 all_goals(show _=Value.bool (HP _);unfold HP;simp_all)
def crP (w v:Pt):Int:=w.1*v.2 - w.2*v.1
def YQ (w v:Pt):Int:=if HP w=HP v then jN 0 (crP w v)else if HP v=true then -1 else 1
def aM1:Nat × XF:=(179,gX (s2 cP cP fun w v=>(wide w&&wide v,iv (YQ w v))))
theorem aRP:c7 Tryz.prog aM1.1 aM1.2:=x2 cP cP (xl:=[aNe,RN]) (.cons aRd (.cons UQ .nil)) (fun _ _=>rfl) fun w v hp=>by
 obtain⟨wx,wy⟩:=w;obtain⟨vx,vy⟩:=v;simp only[wide,af,ag]at hp;have m1:=uH (a:=wx) (b:=vy) (A:=1000000) (B:=1000000) aa aa aa aa;have m2:=uH (a:=wy) (b:=vx) (A:=1000000) (B:=1000000) aa aa aa aa;unfold dM
 repeat' ((conv=>whnf);apply bm<;>intro h)
 all_goals(conv=>whnf)
 all_goals first
  |(exfalso;simp[aB,aF,aN]at h;omega)
  |(show iv _=iv (YQ _ _);unfold YQ;simp[aB,aF]at *;simp_all;done)
  |(show iv _=iv (YQ _ _);unfold YQ crP;simp[aB,aF]at *;simp_all)
  |trace_state
structure Dt where
 dx:Int
 dy:Int
 no:Int
 fr:Int
 tt:Int
def wQ:El Dt:=⟨fun e=>[iv e.dx,iv e.dy,iv e.no,iv e.fr,iv e.tt],5,fun _=>rfl,fun _=>rfl,by decide⟩
def cV (m:List Dt)(i:Nat):Dt:=m.getD i ⟨0,0,0,0,0⟩
theorem sH {m:List Dt}{i:Nat}(h:i<m.length):cV m i=m[i]:=by
 unfold cV;rw[List.getD_eq_getElem?_getD,List.getElem?_eq_getElem h];rfl
theorem aKl (m:List Dt){i o:Nat}(hi:i<m.length)(ho:o=i*5):kI (flat wQ.fl m) o 5=some [iv (cV m i).dx,iv (cV m i).dy,iv (cV m i).no,iv (cV m i).fr,iv (cV m i).tt]:=by
 rw[sH hi];exact qX wQ m hi ho
def gG (d:Dt):Pt:=(d.dx,d.dy)
theorem aAC (m:List Dt){i o:Nat}(hi:i<m.length)(ho:o=i*5):kI (flat wQ.fl m) o 2=some [iv (gG (cV m i)).1,iv (gG (cV m i)).2]:=by
 have h1:nth (flat wQ.fl m) o=some (iv (cV m i).dx):=by
  rw[sH hi];exact lK wQ m hi (k:=0) rfl (by decide) (by rw[ho];rfl)
 have h2:nth (flat wQ.fl m) (o+1)=some (iv (cV m i).dy):=by
  rw[sH hi];exact lK wQ m hi (k:=1) rfl (by decide) (by rw[ho];rfl)
 simp only[kI,h1,h2];rfl
def aGB (h:Heap)(p:Nat)(D:List Dt):Prop:=∃ b c k0 k1 wr g sz r0 wr1 g1 sz1 r1 wr2 g2 sz2 cs n0 c0 n1 c1 F cc,
 aw h p=some (.cells wr g sz (.pointer (some ⟨b,0,none⟩)::r0)) /\
 aw h b=some (.cells wr1 g1 sz1 (.slice (some ⟨k0,0,none⟩) n0 c0::.slice (some ⟨k1,0,none⟩) n1 c1::iv F::.slice (some ⟨c,0,none⟩) D.length cc::r1)) /\
 aw h c=some (.cells wr2 g2 sz2 cs)/\cs.take (flat wQ.fl D).length=flat wQ.fl D
def ZG (D:List Dt):Bool:=D.all fun d=>wide (gG d)
def aCD (D:List Dt)(x y:Int):Int:=YQ (gG (cV D x.toNat)) (gG (cV D y.toNat))
def aAa (D:List Dt)(x y:Int):Bool:=decide (0<=x)&&decide (x<D.length)&&(decide (0<=y)&&decide (y<D.length))&&ZG D
def aEl:Nat × XF:=(178,fun args h nx K=>∃ x y p D,args=[iv x,iv y,.pointer (some ⟨p,0,none⟩)]/\aGB h p D/\eF (aAa D x y) (K (iv (aCD D x y)) h nx))
def aMv (D:List Dt)(n0 c0 n1 c1:Nat)(F:Int)(cc:Nat):Heap:=[(0,av 1 [ao 1]),(1,av 1 [ak 3 n0 c0,ak 4 n1 c1,iv F,ak 2 D.length cc]),(2,au 5 (flat wQ.fl D))]
def aRA (p b c k0 k1:Nat):Nat->Nat
 |0=>p
 |1=>b
 |2=>c
 |3=>k0
 |_=>k1
theorem aN1 {h:Heap}{p nx:Nat}{D:List Dt}(hd:aGB h p D)(x y:Int):∃ n0 c0 n1 c1 F cc,In [iv x,iv y,ao 0] (aMv D n0 c0 n1 c1 F cc) 5 [iv x,iv y,.pointer (some ⟨p,0,none⟩)] h nx:=by
 obtain⟨b,c,k0,k1,wr,g,sz,r0,wr1,g1,sz1,r1,wr2,g2,sz2,cs,n0,c0,n1,c1,F,cc,h1,h2,h3,h4⟩:=hd;refine⟨n0,c0,n1,c1,F,cc,vU (aRA p b c k0 k1) rfl ?_ ?_⟩
 ·refine ae.2 ⟨c9 rfl,ae.2 ⟨c9 rfl,ae.2 ⟨⟨by decide,rfl⟩,fun _ h=>by cases h⟩⟩⟩
 intro k o hk;unfold aMv at hk;rw[aD]at hk;split at hk
 ·rename_i hb;injection hk with hk;subst hk;rw[<- az hb]
  refine⟨by decide,false,1,_,rfl,by decide,(fun h=>by cases h),ae.2 ⟨⟨by decide,rfl⟩,fun _ h=>by cases h⟩,wr,g,sz,_,h1,rfl⟩
 rw[aD]at hk;split at hk
 ·rename_i hb;injection hk with hk;subst hk;rw[<- az hb]
  refine⟨by decide,false,1,_,rfl,by decide,(fun h=>by cases h),?_,wr1,g1,sz1,_,h2,rfl⟩;refine ae.2 ⟨⟨by decide,fun h=>by cases h⟩,ae.2 ⟨⟨by decide,fun h=>by cases h⟩,ae.2 ⟨bM rfl,ae.2 ⟨⟨by decide,fun h=>by cases h⟩,fun _ h=>by cases h⟩⟩⟩⟩
 rw[aD]at hk;split at hk
 ·rename_i hb;injection hk with hk;subst hk;rw[<- az hb]
  exact⟨by decide,true,5,_,rfl,by decide,fun _=>aC wQ D,fun v hv=>bM (a9 (aC wQ D) hv),wr2,g2,sz2,cs,h3,by rw[h4];exact(bK (aC wQ D)).symm⟩
 exact cA hk
theorem aQ0:c7 Tryz.prog aEl.1 aEl.2:=by
 refine(eJ (S:=fun args0 h0 n0 v1 h1 m=>∃ x y D n1 c1 n2 c2 F cc,aAa D x y=true/\args0=[iv x,iv y,ao 0]/\h0=aMv D n1 c1 n2 c2 F cc/\n0=5/\v1=iv (aCD D x y)/\h1=[]/\m=0) (aL (xl:=[aM1]) (.cons aRP .nil)) ?_).mono ?_ ?_
 ·rintro args0 h0 n0 v1 h1 m ⟨x,y,D,n1,c1,n2,c2,F,cc,hok,rfl,rfl,rfl,rfl,rfl,rfl⟩;refine⟨rfl,fun u _ _=>u=iv (aCD D x y),?_,fun v h nx e=>by rw[e];exact gM rfl⟩;simp only[aAa,af,ag]at hok;obtain⟨⟨⟨h0,h1⟩,h2,h3⟩,hw⟩:=hok;have wx:wide (gG (cV D x.toNat))=true:=by
   rw[sH aa];exact List.all_eq_true.1 hw _ (List.getElem_mem _)
  have wy:wide (gG (cV D y.toNat))=true:=by
   rw[sH aa];exact List.all_eq_true.1 hw _ (List.getElem_mem _)
  (conv=>whnf);refine bt ?_;(conv=>whnf);refine eZ (aAC D (i:=x.toNat) aa ?_) ?_
  ·show _+Int.toNat x*5=_;omega
  (conv=>whnf);refine bt ?_;(conv=>whnf);refine eZ (aAC D (i:=y.toNat) aa ?_) ?_
  ·show _+Int.toNat y*5=_;omega
  ((conv=>whnf);apply bm<;>intro a3)
  ·(conv=>whnf);rfl
  exfalso;have a3:(wide (gG (cV D x.toNat))&&wide (gG (cV D y.toNat)))=false:=a3;rw[wx,wy]at a3;cases a3
 ·rintro args h nx K ⟨x,y,p,D,rfl,hd,hx⟩;obtain⟨hb,hx⟩:=aH.1 hx;obtain⟨n0,c0,n1,c1,F,cc,i⟩:=aN1 (nx:=nx) hd x y;refine⟨_,_,5,_,[],0,⟨x,y,D,n0,c0,n1,c1,F,cc,hb,rfl,rfl,rfl,rfl,rfl,rfl⟩,i,?_⟩;exact hx
 rintro args h nx K ⟨x,y,p,D,rfl,hd,hx⟩;obtain⟨hb,hx⟩:=aH.1 hx;exact⟨_,_,_,hx,fun K' hk'=>⟨x,y,p,D,rfl,hd,aM hb hk'⟩⟩
set_option maxHeartbeats 2000000
def aEC (xl:List (Nat × XF))(k:Nat):EI:={ aB with X:=aw xl,M:=k }
theorem CP {xl:List (Nat × XF)}(h:lA xl)(k:Nat):o6 Tryz.prog (aEC xl k) where
 ar:=gE.ar
 tab:=gE.tab
 mixed:=gE.mixed
 funcs:=gE.funcs
 xs:=h.look
def hgN (s:Sg)(y:Int):Int:=2*(s.2.1 - s.1.1)*s.1.2+(s.2.2 - s.1.2)*(y - 2*s.1.1)
def hgD (s:Sg):Int:=s.2.1 - s.1.1
theorem W5 {s:Sg}(hs:bF s.1=true/\bF s.2=true){y:Int}(h0:0<=y)(h1:y<=30000):(-200000000<=2*(s.2.1 - s.1.1)*s.1.2/\2*(s.2.1 - s.1.1)*s.1.2<=200000000)/\(-300000000<=(s.2.2 - s.1.2)*(y - 2*s.1.1)/\(s.2.2 - s.1.2)*(y - 2*s.1.1)<=300000000):=by
 obtain⟨h2,h3⟩:=hs;simp only[bF,af,ag]at h2 h3;have m1:=uH (a:=2*(s.2.1 - s.1.1)) (b:=s.1.2) (A:=20000) (B:=10000) aa aa aa aa;have m2:=uH (a:=s.2.2 - s.1.2) (b:=y - 2*s.1.1) (A:=10000) (B:=30000) aa aa aa aa;omega
theorem aEn {s t:Sg}(hs:bF s.1=true/\bF s.2=true)(ht:bF t.1=true/\bF t.2=true){y:Int}(h0:0<=y)(h1:y<=30000):(-10000000000000<=hgN s y*(2*hgD t)/\hgN s y*(2*hgD t)<=10000000000000)/\(-5000000000000<=hgN s y*hgD t/\hgN s y*hgD t<=5000000000000):=by
 have b1:=W5 hs h0 h1;obtain⟨h2,h3⟩:=ht;simp only[bF,af,ag]at h2 h3;have e:hgN s y=2*(s.2.1 - s.1.1)*s.1.2+(s.2.2 - s.1.2)*(y - 2*s.1.1):=rfl;have e2:hgD t=t.2.1 - t.1.1:=rfl;have m1:=uH (a:=hgN s y) (b:=2*hgD t) (A:=500000000) (B:=20000) aa aa aa aa;have m2:=uH (a:=hgN s y) (b:=hgD t) (A:=500000000) (B:=10000) aa aa aa aa;omega
def hgV (s t:Sg)(x:Int):Int:=jN (hgN s (2*x+1)*(2*hgD t)) (hgN t (2*x+1)*(2*hgD s))
def okX (x:Int):Bool:=decide (0<=x)&&decide (x<=10000)
def rgS (s:Sg):Bool:=bF s.1&&bF s.2
def aMX:Nat × XF:=(174,gX (s3 cS cS cI fun s t x=>(rgS s&&rgS t&&okX x,iv (hgV s t x))))
theorem aSJ:c7 Tryz.prog aMX.1 aMX.2:=AF (kA (CP (xl:=[RN]) (.cons UQ .nil) 4) 6).1 fun args v hs=>by
 obtain⟨s,t,x,rfl,e⟩:=aFV cS cS cI hs;injection e with hp e;subst e;clear hs;refine⟨rfl,rfl,?_⟩;simp only[rgS,okX,af,ag]at hp;obtain⟨⟨hS,hT⟩,h0,h1⟩:=hp;have b1:=W5 hS (y:=2*x+1) aa aa;have b2:=W5 hT (y:=2*x+1) aa aa;have b3:=aEn hS hT (y:=2*x+1) aa aa;have b4:=aEn hT hS (y:=2*x+1) aa aa;obtain⟨⟨ax,ay⟩,⟨bx,b_y⟩⟩:=s;obtain⟨⟨cx,cy⟩,⟨dx,dy⟩⟩:=t;obtain⟨hS1,hS2⟩:=hS;obtain⟨hT1,hT2⟩:=hT;simp only[bF,af,ag]at hS1 hS2 hT1 hT2;unfold hgV;unfold hgN hgD at *;dsimp only at *
 repeat' (((conv=>whnf);apply bm<;>intro g))
 all_goals(conv=>whnf)
 all_goals first
  |rfl
  |(exfalso;simp[aEC,aB,aF,aN]at g;omega)
theorem aAJ {l:List Pt}{m:List Ed}(hM:jS l m=true)(hr:l.all bF=true){i:Nat}(hi:i<m.length):bF (bB l m i).1=true/\bF (bB l m i).2=true:=by
 have he:=nU hM hi;have key:∀ a:Int,0<=a->a<l.length->bF (fC l a)=true:=fun a h0 h1=>by
  unfold fC bI;rw[List.getD_eq_getElem?_getD,List.getElem?_eq_getElem aa];exact List.all_eq_true.1 hr _ (List.getElem_mem _)
 exact⟨key _ he.1 he.2.1,key _ he.2.2.1 he.2.2.2⟩
end Go.Aw
end

noncomputable section
namespace Go.Aw
open Proofs
open Go.RowKit
section
variable {α:Type}(E:El α)
theorem FO {ι ι':Nat->Loc}{B:Nat}{w:World}{sz:Nat}{cs:List Value}{loc:Loc}(hg:dT cs=true)(h:m3 ι B w (.cells true false sz cs) loc):m3 ι' B w (.cells true false sz cs) loc:=by
 cases loc with
 |nil p=>exact h
 |lay b o e =>
  obtain⟨x1,x2,arr,t,x3,x4,x5⟩:=h;refine⟨x1,x2,arr,t,x3,x4,fun i v hv=>?_⟩;rw[x5 i v hv,oI (a9 hg (List.mem_of_getElem? hv)),oI (a9 hg (List.mem_of_getElem? hv))]
end
def vT (k:Nat)(ι:Nat->Loc):Nat->Loc:=fun j=>if j=0 then ι k else ι (j - 1)
theorem lT (k:Nat)(ι:Nat->Loc):vT k ι 0=ι k:=if_pos rfl
theorem iS (k:Nat)(ι:Nat->Loc)(j:Nat):vT k ι (1+j)=ι j:=by
 unfold vT;rw[if_neg aa,Nat.add_sub_cancel_left]
def MG (F:Heap)(nx:Nat):Prop:=1<=nx/\∀ j o,aw F j=some o->0<j/\j<nx/\cK id nx o o
theorem aV {b n0 nx:Nat}{I:KS}{e0 e:List (Nat × Value)}{F:Heap}{o0 o:bV}(hF:MG F n0)(hI:I e0 ((0,o0)::F) n0)(he:∀ p∈e0,aw e p.1=some (fJ id p.2)/\BO n0 p.2)(ho:cK id n0 o0 o)(hb:b<=n0) :
  sW b I e ((0,o)::F) nx:=by
 refine⟨e0,(0,o0)::F,n0,id,hI,fun t v hv=>he (t,v) (aT hv),fun k q hk=>?_,fun k k' q q' _ _ e=>e,fun k _=>rfl,hb⟩;rw[aD]at hk;split at hk
 ·rename_i hb1;injection hk with hk;subst hk;have:=az hb1;subst this;exact⟨hF.1,o,rfl,ho⟩
 obtain⟨h1,h2,h3⟩:=hF.2 k q hk;refine⟨h2,q,?_,h3⟩;show aw ((0,o)::F) k=some q;rw[aD];rename_i hb1;rw[hb1];exact hk
theorem pW {n:Nat}:∀(h:Heap) {j:Nat} {o:bV},aw h j=some o->aw (nK n h) (n+j)=some (WG n o)
 |[],j,o,hl=>(by cases hl)
 |(i,q)::r,j,o,hl=>by
  rw[aD]at hl;simp only[nK];rw[aD];split at hl
  ·rename_i hb;injection hl with hl;subst hl;have:=az hb;subst this;rw[Nat.beq_refl]
  rename_i hb;have hne:Nat.beq (n+i) (n+j)=false:=by
   cases hb':Nat.beq (n+i) (n+j)with
   |false=>rfl
   |true =>
    have:=az hb';have:i=j:=aa;subst this;rw[Nat.beq_refl]at hb;cases hb
  rw[hne];exact pW r hl
theorem SG {ι:Nat->Loc}{σ:Nat->Nat}{n:Nat}{v:Value}(h:rG ι n v):rG (j4 σ) n v:=by
 cases v with
 |pointer a=>cases a with
  |none=>trivial
  |some a=>exact⟨h.1,rfl⟩
 |slice a l c=>cases a with
  |none=>trivial
  |some a=>exact⟨h.1,fun hf=>by cases hf⟩
 |map a=>cases a with
  |none=>trivial
  |some a=>exact⟨h.1,rfl⟩
 |agg c=>exact h.elim
 |tuple c=>exact h.elim
 |_=>trivial
theorem Y1 {ι:Nat->Loc}{σ:Nat->Nat}{n:Nat}{v:Value}(h:jJ ι n v):jJ (j4 σ) n v:=by
 cases v with
 |func f a c =>
  refine⟨?_,fun x hx=>SG (h.2 x hx)⟩;have h1:=h.1;cases f with
  |yield l=>exact⟨h1.1,rfl⟩
  |_=>trivial
 |pointer a=>have:=SG (ι:=ι) (σ:=σ) (n:=n) (v:=.pointer a);cases a <;> exact this h
 |slice a l c=>have:=SG (ι:=ι) (σ:=σ) (n:=n) (v:=.slice a l c);cases a <;> exact this h
 |map a=>have:=SG (ι:=ι) (σ:=σ) (n:=n) (v:=.map a);cases a <;> exact this h
 |agg c=>exact h.elim
 |tuple c=>exact h.elim
 |_=>trivial
section
variable {ι ι0:Nat->Loc}{B n:Nat}{w:World}
theorem aAT {v:Value}(hs:jJ ι n v)(hι:∀ j,j<n->ι0 (1+j)=ι j):jJ ι0 (1+n) (cB (fun k=>1+k) v) :=
 iQ (m:=n) (kG (ι:=ι) (ι':=fun k=>ι0 (1+k)) (ah _) hι hs) (fun k hk=>by omega)
theorem aKd {v:Value}(hs:jJ ι n v)(hι:∀ j,j<n->ι0 (1+j)=ι j):cF ι0 (cB (fun k=>1+k) v)=cF ι v:=by
 unfold cB;rw[iL (n:=1+n) (aAT hs hι)];exact oT (ι:=ι) (ι':=fun k=>ι0 (1+k)) hι hs
theorem aAx {v:Value}(hs:jJ ι n v):wM (1+n) (cB (fun k=>1+k) v) :=
 iQ (m:=n) (Y1 hs) (fun k hk=>by omega)
theorem aH7 {v:Value}(hs:jJ ι n v):cB id (cB (fun k=>1+k) v)=cB (fun k=>1+k) v:=by
 unfold cB;rw[iL (n:=1+n) (aAx hs)];rfl
theorem SI {wr g:Bool}{sz:Nat}{cs:List Value}{l:Loc}(h:m3 ι B w (.cells wr g sz cs) l)(hs:∀ v∈cs,jJ ι n v)(hι:∀ j,j<n->ι0 (1+j)=ι j):m3 ι0 B w (WG 1 (.cells wr g sz cs)) l:=by
 have hg:∀{q:Prop},(g=true->dT cs=true)->g=true->dT (cs.map (cB fun k=>1+k))=true:=fun hq e=>r7 fun v hv=>by
  obtain⟨u,hu,rfl⟩:=List.mem_map.1 hv;exact aDX (a9 (hq e) hu)
 have key:∀{Φ:Nat->Value->Prop},(∀(i:Nat) v,cs[i]? = some v->Φ i (cF ι v))->∀(i:Nat) v,(cs.map (cB fun k=>1+k))[i]? = some v->Φ i (cF ι0 v):=fun hΦ i v hv=>by
  rw[List.getElem?_map]at hv;obtain⟨u,hu,rfl⟩:=Option.map_eq_some_iff.1 hv;rw[aKd (hs u (List.mem_of_getElem? hu)) hι];exact hΦ i u hu
 cases l with
 |nil p =>
  have h1:cs=[]/\(sz=0\/wr=true->p.isSome=true):=(by cases wr <;> exact h);obtain⟨rfl,hz⟩:=h1;cases wr <;> exact⟨rfl,hz⟩
 |lay b o e =>
  cases wr with
  |true =>
   obtain⟨x1,x2,arr,t,x3,x4,x5⟩:=h;exact⟨x1,hg (q:=True) x2,arr,t,x3,by rw[List.length_map];exact x4,key (Φ:=fun i v=>arr[o+i]? = some v) x5⟩
  |false =>
   obtain⟨x1,x2,x3⟩:=h;exact⟨x1,hg (q:=True) x2,key (Φ:=fun i v=>w.cell? ⟨b,o+i,none⟩=some v) x3⟩
theorem EZ {wr g:Bool}{sz:Nat}{cs:List Value}{l:Loc}(h:m3 ι0 B w (WG 1 (.cells wr g sz cs)) l)(hs:∀ v∈cs,jJ ι n v)(hι:∀ j,j<n->ι0 (1+j)=ι j)(hg0:g=true->dT cs=true):m3 ι B w (.cells wr g sz cs) l:=by
 have key:∀{Φ:Nat->Value->Prop},(∀(i:Nat) v,(cs.map (cB fun k=>1+k))[i]? = some v->Φ i (cF ι0 v))->∀(i:Nat) v,cs[i]? = some v->Φ i (cF ι v):=fun hΦ i v hv=>by
  rw[<- aKd (hs v (List.mem_of_getElem? hv)) hι];exact hΦ i _ (by rw[List.getElem?_map,hv];rfl)
 cases l with
 |nil p =>
  have h1:cs.map (cB fun k=>1+k)=[]/\(sz=0\/wr=true->p.isSome=true):=(by cases wr <;> exact h);have h2:cs=[]:=(by simpa using h1.1);cases wr <;> exact⟨h2,h1.2⟩
 |lay b o e =>
  cases wr with
  |true =>
   obtain⟨x1,x2,arr,t,x3,x4,x5⟩:=h;rw[List.length_map]at x4;exact⟨x1,hg0,arr,t,x3,x4,key (Φ:=fun i v=>arr[o+i]? = some v) x5⟩
  |false =>
   obtain⟨x1,x2,x3⟩:=h;exact⟨x1,hg0,key (Φ:=fun i v=>w.cell? ⟨b,o+i,none⟩=some v) x3⟩
end
theorem FU (n:Nat)(o:bV):(WG n o).alone=o.alone:=by cases o <;> rfl
def rv (k c:Nat):Option Nat->Value
 |none=>.tuple #[]
 |some m=>.slice (some ⟨k,0,none⟩) m c
section
variable {α:Type}(E:El α)
def frX (s:List α->List Value->Nat->Option (Bool × Option Nat × List Value)):XF:=fun args h nx K=>match args with
 |.slice (some ⟨k,0,none⟩) n c::r=>∃ l,n=l.length/\aw h k=some (.cells true false E.sz (flat E.fl l))/\fL h=true/\(match s l r c with|some p=>eF p.1 (K (rv k c p.2.1) (xQ h k (.cells true false E.sz p.2.2)) nx)|none=>False)
 |_=>False
theorem aNx {P:Program}{C:VC}{f:Nat}{s:List α->List Value->Nat->Option (Bool × Option Nat × List Value)}(hC:bN P C)
  (hs:∀ l r c m cs',s l r c=some (true,m,cs')->fI r=true/\dT cs'=true/\(∀ q,m=some q->q<=l.length) /\
   ∀ F nx,MG F nx->C f (ak 0 l.length c::r) ((0,.cells true false E.sz (flat E.fl l))::F) nx (fun v h _=>v=rv 0 c m/\h=(0,.cells true false E.sz cs')::F)):c7 P f (frX E s):=by
 refine⟨fun args h nx K hx ι B w H hsc=>?_,fun args h nx K hx=>?_⟩
 ·unfold frX at hx;split at hx
  case h_2=>exact hx.elim
  rename_i k n c r;obtain⟨l,rfl,hk,hcH,hx⟩:=hx;split at hx
  case h_2=>exact hx.elim
  rename_i p e1;obtain⟨b,m,cs'⟩:=p;obtain⟨rfl,hx⟩:=aH.1 hx;obtain⟨a1,a2,a3,a4⟩:=hs l r c m cs' e1;have hsl:k<nx/\((ι k).jD=false->l.length=0/\c=0):=hsc _ (.head _);have hcells:∀ j o,aw h j=some o->∃ wr g sz cs,o=.cells wr g sz cs:=fun j o hj=>kD hcH hj;have hι0:∀ j,j<nx->vT k ι (1+j)=ι j:=fun j _=>iS k ι j;have hF:∀ j q,aw (nK 1 (rem h k)) j=some q->∃ i o,j=1+i/\i≠k/\aw h i=some o/\q=WG 1 o:=by
   intro j q hq;obtain⟨i,o,e2,e3,e4⟩:=mM _ hq;rw[dO]at e3;split at e3
   ·cases e3
   rename_i hne;exact⟨i,o,e2,hne,e3,e4⟩
  have hFr:MG (nK 1 (rem h k)) (1+nx):=by
   refine⟨aa,fun j q hq=>?_⟩;obtain⟨i,o,rfl,hne,hi,rfl⟩:=hF j q hq;have hlow:=H.low i o hi;obtain⟨wr,g,sz,cs,rfl⟩:=hcells i o hi;refine⟨aa,aa,rfl,rfl,rfl,?_,fun v hv=>?_⟩
   ·rw[List.map_map];exact List.map_congr_left fun v hv=>(aH7 (H.sc i _ hi v hv)).symm
   obtain⟨u,hu,rfl⟩:=List.mem_map.1 hv;exact aAx (H.sc i _ hi u hu)
  have H0:aY (vT k ι) B ((0,.cells true false E.sz (flat E.fl l))::nK 1 (rem h k)) (1+nx) w:=by
   refine⟨fun j q hq=>?_,fun j j' q q' hq hq' hne ha b hb=>?_,fun j q hq=>?_,H.size,fun j q hq=>?_⟩
   ·rw[aD]at hq;split at hq
    ·rename_i hb;injection hq with hq;subst hq;have:=az hb;subst this;rw[lT];exact FO (aC E l) (H.obj k _ hk)
    obtain⟨i,o,rfl,hne,hi,rfl⟩:=hF j q hq;obtain⟨wr,g,sz,cs,rfl⟩:=hcells i o hi;rw[iS];exact SI (H.obj i _ hi) (H.sc i _ hi) hι0
   ·rw[aD]at hq hq';split at hq
    ·rename_i hb1;have:=az hb1;subst this;split at hq'
     ·rename_i hb2;exact absurd (az hb2) hne
     obtain⟨i,o,rfl,hni,hi,rfl⟩:=hF j' q' hq';rw[lT]at hb;rw[iS];exact H.sep k i _ _ hk hi (fun e=>hni e.symm) rfl b hb
    obtain⟨i,o,rfl,hni,hi,rfl⟩:=hF j q hq;rw[FU]at ha;rw[iS]at hb;split at hq'
    ·rename_i hb2;have:=az hb2;subst this;rw[lT];exact H.sep i k _ _ hi hk hni ha b hb
    obtain⟨i',o',rfl,hni',hi',rfl⟩:=hF j' q' hq';rw[iS];exact H.sep i i' _ _ hi hi' (fun e=>hne (by rw[e])) ha b hb
   ·rw[aD]at hq;split at hq
    ·rename_i hb;rw[<- az hb];omega
    exact(hFr.2 j q hq).2.1
   rw[aD]at hq;split at hq
   ·injection hq with hq;subst hq;exact fun v hv=>bM (a9 (aC E l) hv)
   obtain⟨i,o,rfl,hni,hi,rfl⟩:=hF j q hq;obtain⟨wr,g,sz,cs,rfl⟩:=hcells i o hi;intro v hv;obtain⟨u,hu,rfl⟩:=List.mem_map.1 hv;exact aAT (H.sc i _ hi u hu) hι0
  have hrun:=hC f _ _ (1+nx) _ (a4 _ _ hFr) (vT k ι) B w H0 (fun v hv=>by
   cases hv with
   |head=>exact⟨(aa:0<1+nx),fun hf=>hsl.2 (by rw[lT]at hf;exact hf)⟩
   |tail _ hm=>exact c9 (cD a1 hm))
  refine⟨hrun.1,?_⟩;have he:((.slice (some ⟨k,0,none⟩) l.length c::r):List Value).map (tr ι)=((ak 0 l.length c::r):List Value).map (tr (vT k ι)):=by
   rw[List.map_cons,List.map_cons];congr 1;exact List.map_congr_left fun v hv=>by rw[iU (cD a1 hv),iU (cD a1 hv)]
  rw[he];refine CallsIn.mono hrun.2 fun e w' hret=>?_;cases e with
  |returned u =>
   obtain⟨v,h',nx',ι1,⟨rfl,rfl⟩,q2,q3,q4,q5,q6,rfl⟩:=hret;have hι1:∀ j,j<nx->ι1 (1+j)=ι j:=fun j hj=>(q5 (1+j) aa).trans (iS k ι j);have hι10:ι1 0=ι k:=(q5 0 aa).trans (lT k ι);have hback:∀ j o,aw (xQ h k (.cells true false E.sz cs')) j=some o->(j=k/\o=.cells true false E.sz cs')\/(j≠k/\aw h j=some o):=by
    intro j o hj;rw[m7]at hj;split at hj
    ·rename_i e;injection hj with hj;exact .inl ⟨e,hj.symm⟩
    rename_i e;exact .inr ⟨e,hj⟩
   refine⟨rv k c m,_,nx,ι,hx,?_,⟨fun j o hj=>?_,fun j j' o o' hj hj' hne ha b hb=>?_,fun j o hj=>?_,q3.size,fun j o hj=>?_⟩,q4,fun _ _=>rfl,ah _,?_⟩
   ·cases m with
    |none=>exact fun v hv=>(by cases hv)
    |some q =>
     refine⟨hsl.1,fun hf=>?_⟩;have:=hsl.2 hf;have:=a3 q rfl;omega
   ·rcases hback j o hj with⟨rfl,rfl⟩|⟨hne,hj⟩
    ·have:=q3.obj 0 (.cells true false E.sz cs') rfl;rw[hι10]at this;exact FO a2 this
    obtain⟨wr,g,sz,cs,rfl⟩:=hcells j o hj;have hlow:=H.low j _ hj;have h1:aw ((0,.cells true false E.sz cs')::nK 1 (rem h k)) (1+j)=some (WG 1 (.cells wr g sz cs)):=by
     rw[aD,show Nat.beq 0 (1+j)=false by cases hb:Nat.beq 0 (1+j)with|false=>rfl|true=>have:=az hb;omega];exact pW _ (by rw[dO,if_neg hne];exact hj)
    have h2:=q3.obj _ _ h1;rw[hι1 j hlow]at h2;refine EZ h2 (H.sc j _ hj) hι1 ?_;intro hgt;have h3:=H.obj j _ hj;cases hl:ι j with
    |nil p =>
     rw[hl]at h3;have h4:cs=[]/\(sz=0\/wr=true->p.isSome=true):=(by cases wr <;> exact h3);rw[h4.1];rfl
    |lay b off ex =>
     rw[hl]at h3;cases wr with
     |true=>exact h3.2.1 hgt
     |false=>exact h3.2.1 hgt
   ·rcases hback j o hj with⟨e3,e4⟩|⟨hnk,hj2⟩
    ·rcases hback j' o' hj' with⟨e5,e6⟩|⟨hnk',hj3⟩
     ·exact absurd (e3.trans e5.symm) hne
     exact H.sep j j' _ _ (by rw[e3];exact hk) hj3 hne rfl b hb
    ·rcases hback j' o' hj' with⟨e5,e6⟩|⟨hnk',hj3⟩
     ·exact H.sep j j' _ _ hj2 (by rw[e5];exact hk) hne ha b hb
     exact H.sep j j' _ _ hj2 hj3 hne ha b hb
   ·rcases hback j o hj with⟨rfl,rfl⟩|⟨hnk,hj⟩
    ·exact hsl.1
    exact H.low j o hj
   ·rcases hback j o hj with⟨rfl,rfl⟩|⟨hnk,hj⟩
    ·exact fun v hv=>bM (a9 a2 hv)
    exact H.sc j o hj
   ·cases m with
    |none=>simp[rv,tr]
    |some q=>simp only[rv,tr,eK,cF,eM,hι10]
  |_=>exact hret.elim
 unfold frX at hx;split at hx
 case h_2=>exact hx.elim
 rename_i k n c r;obtain⟨l,hn,hk,hcH,hx⟩:=hx;split at hx
 case h_2=>exact hx.elim
 rename_i p e1;obtain⟨hb,hx⟩:=aH.1 hx;exact⟨_,_,_,hx,fun K' hk'=>⟨l,hn,hk,hcH,by rw[e1];exact aM hb hk'⟩⟩
end
set_option maxRecDepth 100000
abbrev pV (k:Nat):Value:=.pointer (some ⟨k,0,none⟩)
def sT (f:Nat->Bool):Nat->Nat->Nat->Nat
 |0,i,_=>i
 |k+1,i,j=>if i<j then(if f ((i+j) / 2)=true then sT f k i ((i+j) / 2)else sT f k ((i+j) / 2+1) j)else i
theorem mO {f:Nat->Bool}:∀{k i j:Nat},i<=j->i<=sT f k i j/\sT f k i j<=j
 |0,i,j,h=>by unfold sT;omega
 |k+1,i,j,h=>by
  unfold sT;split
  ·split
   ·have:=mO (f:=f) (k:=k) (i:=i) (j:=(i+j) / 2) aa;omega
   have:=mO (f:=f) (k:=k) (i:=(i+j) / 2+1) (j:=j) aa;omega
  omega
theorem pD {f:Nat->Bool}{k i:Nat}:sT f k i i=i:=by
 cases k with
 |zero=>rfl
 |succ k=>unfold sT;rw[if_neg (Nat.lt_irrefl _)]
theorem C6 {f:Nat->Bool}{k i j:Nat}(h:i<j):sT f (k+1) i j=if f ((i+j) / 2)=true then sT f k i ((i+j) / 2)else sT f k ((i+j) / 2+1) j:=by
 conv=>lhs;unfold sT
 rw[if_pos h]
set_option maxHeartbeats 2000000
def lqP (l:List Pt)(P:Pt)(h:Nat):Bool:=decide (iV ((bI l h).1,(bI l h).2) P<0)
def BW (l:List Pt)(P:Pt):Nat:=sT (fun h=>!(lqP l P h)) l.length 0 l.length
def cfP:Value:=.func (.func 114) #[] #[]
theorem Y9 {nx k:Nat}{e:List (Nat × Value)}(he:aw e k=some cfP):aw e k=some (fJ id cfP)/\BO nx cfP:=⟨by rw[show fJ id cfP=cfP from lJ rfl];exact he,trivial,fun _ h=>by cases h⟩
def aQf (l:List Pt):List Value->Option (Bool × Value)
 |[.agg ⟨[.int .i64 x,.int .i64 y]⟩,.func (.func f) ⟨[]⟩ ⟨[]⟩]=>some (Nat.beq f 114&&decide (l.length<=1000000),.tuple #[iv (BW l (x,y)),.bool (decide (BW l (x,y)<l.length)&&decide (iV ((bI l (BW l (x,y))).1,(bI l (BW l (x,y))).2) (x,y)=0))])
 |_=>none
def WQ (N c:Nat)(i j:Int):List (Nat × Value):=[(2,cfP),(0,ak 0 N c),(4,pV 1),(8,iv N),(9,iv i),(10,iv j)]
def X7 (l:List Pt)(P:Pt):Heap:=[(1,aq 1 [iv P.1,iv P.2]),(0,au 2 (flat aX.fl l))]
def aG5:Nat × XF:=(119,lX aX aQf)
theorem aPZ:c7 Tryz.prog aG5.1 aG5.2:=OV aX (aL (xl:=[Y5]) (.cons aDC .nil)) fun l r v hs=>by
 have:∃ P:Pt,r=[.agg #[iv P.1,iv P.2],cfP]/\l.length<=1000000/\v=.tuple #[iv (BW l P),.bool (decide (BW l P<l.length)&&decide (iV ((bI l (BW l P)).1,(bI l (BW l P)).2) P=0))]:=by
  unfold aQf at hs;split at hs
  ·injection hs with hs;injection hs with h1 h2;simp only[af,ag]at h1;have:=Nat.eq_of_beq_eq_true h1.1;subst this;exact⟨(_,_),rfl,h1.2,h2.symm⟩
  ·cases hs
 obtain⟨P,rfl,hl,rfl⟩:=this;clear hs;obtain⟨p1,p2⟩:=P;refine⟨rfl,rfl,fun c=>?_⟩;(conv=>whnf);refine⟨fun q e h nx=>∃(i j k:Nat) (x y:Int),x=i/\y=j/\i<=j/\j<=l.length/\j - i<=k/\q=j - i/\BW l (p1,p2)=sT (fun h=>!(lqP l (p1,p2) h)) k i j/\e=WQ l.length c x y/\h=X7 l (p1,p2)/\nx=2,⟨l.length,?_⟩,?_⟩
 ·refine aJ (h0:=X7 l (p1,p2)) (n0:=2) ⟨0,l.length,_,_,_,rfl,rfl,Nat.zero_le _,ah _,ah _,rfl,rfl,rfl,rfl,rfl⟩ (he:=?_)
  ·unfold WQ;refine ae.2 ⟨Y9 rfl,?_⟩;exact xE
 rintro q e h nx ⟨i,j,k,x,y,hx,hy,hij,hj,hk,rfl,hbs,rfl,rfl,rfl⟩;unfold WQ X7;((conv=>whnf);apply bm<;>intro h1);rotate_left
 ·have h1:i=j:=(by simp[aB,aF]at h1;omega);subst h1;rw[pD]at hbs;rw[hbs]
  repeat' first
   |(((conv=>whnf);apply bm<;>intro g))
   |((conv=>whnf)
     refine eZ (eU l (i:=i) (by simp[aB,aF]at *;omega) ?_) ?_
     ·show _+Int.toNat x*2=_;omega)
  all_goals first
   |(have hlt:i<l.length:=by simp[aB,aF]at *;omega
     (conv=>whnf);rw[ai hlt,Bool.true_and,hx];rfl)
   |(have hge:¬ i<l.length:=by simp[aB,aF]at *;omega
     (conv=>whnf);rw[aj hge,Bool.false_and,hx])
   |(exfalso;simp[aB,aF,aN]at *;first|omega|(simp_all;done)|(simp_all;omega))
 have h1:i<j:=(by simp[aB,aF]at h1;omega);obtain⟨k',rfl⟩:∃ k',k=k'+1:=⟨k - 1,aa⟩;rw[C6 h1]at hbs;have qh:(x+y).tdiv 2=(((i+j) / 2:Nat):Int):=(by rw[Int.tdiv_eq_ediv_of_nonneg aa];omega);cases hq:lqP l (p1,p2) ((i+j) / 2)
 all_goals rw[hq]at hbs
 all_goals repeat' first
  |(((conv=>whnf);apply bm<;>intro g))
  |((conv=>whnf)
    refine eZ (eU l (i:=(i+j) / 2) aa ?_) ?_
    ·show _+Int.toNat ((x+y).tdiv 2)*2=_;rw[qh];omega)
 all_goals first
  |((conv=>whnf)
    refine⟨(i+j) / 2 - i,aa,?_⟩;refine cU (e0:=WQ l.length c x ((x+y).tdiv 2)) (h0:=X7 l (p1,p2)) (n0:=2) ⟨i,(i+j) / 2,k',_,_,hx,qh,aa,aa,aa,rfl,(by rw[hbs];rfl),rfl,rfl,rfl⟩ ?_ ?_ (by decide)
    ·unfold WQ;refine ae.2 ⟨Y9 rfl,?_⟩;exact xE
    unfold X7;exact xI)
  |((conv=>whnf)
    refine⟨j - ((i+j) / 2+1),aa,?_⟩;refine cU (e0:=WQ l.length c ((x+y).tdiv 2+1) y) (h0:=X7 l (p1,p2)) (n0:=2) ⟨(i+j) / 2+1,j,k',_,_,by rw[qh];omega,hy,aa,aa,aa,rfl,(by rw[hbs];rfl),rfl,rfl,rfl⟩ ?_ ?_ (by decide)
    ·unfold WQ;refine ae.2 ⟨Y9 rfl,?_⟩;exact xE
    unfold X7;exact xI)
  |(exfalso;clear hbs;unfold lqP at hq;simp[aB,aF,aN,qh]at *;first|omega|(simp_all;done)|(simp_all;omega))
def QP {α:Type}(E:El α)(h:Heap)(k:Nat)(L:List α):Prop:=∃ q c wr g sz r0 wr1 g1 sz1 cs,aw h k=some (.cells wr g sz (.slice (some ⟨q,0,none⟩) L.length c::r0))/\aw h q=some (.cells wr1 g1 sz1 cs)/\cs.take (flat E.fl L).length=flat E.fl L
def aLP (l:List Pt)(c:Nat):Heap:=[(0,av 1 [ak 1 l.length c]),(1,au 2 (flat aX.fl l))]
theorem aMJ {h:Heap}{nx k:Nat}{l:List Pt}(hb:QP aX h k l)(P:Pt):∃ c,In [.agg #[iv P.1,iv P.2],pV 0] (aLP l c) 2 [.agg #[iv P.1,iv P.2],pV k] h nx:=by
 obtain⟨q,c,wr,g,sz,r0,wr1,g1,sz1,cs,h1,h2,h3⟩:=hb;refine⟨c,vU (fun i=>if i=0 then k else q) ?_ ?_ fun i o hk=>?_⟩
 ·show[_,_]=[fJ _ (Value.agg #[iv P.1,iv P.2]),fJ _ (pV 0)];rw[lJ (v:=.agg #[iv P.1,iv P.2]) rfl];rfl
 ·exact ae.2 ⟨c9 rfl,ae.2 ⟨n9 rfl,fun _ h=>by cases h⟩⟩
 unfold aLP at hk;rw[aD]at hk;split at hk
 ·rename_i hq;injection hk with hk;subst hk;rw[<- az hq]
  exact⟨by decide,false,1,_,rfl,by decide,(fun h=>by cases h),ae.2 ⟨⟨by decide,fun h=>by cases h⟩,fun _ h=>by cases h⟩,wr,g,sz,_,h1,rfl⟩
 rw[aD]at hk;split at hk
 ·rename_i hq;injection hk with hk;subst hk;rw[<- az hq]
  exact⟨by decide,true,2,_,rfl,by decide,fun _=>aC aX l,fun v hv=>bM (a9 (aC aX l) hv),wr1,g1,sz1,cs,h2,by rw[h3];exact(bK (aC aX l)).symm⟩
 exact cA hk
def aGq:Nat × XF:=(118,fun args h nx K=>∃(P:Pt) (k:Nat) (l:List Pt),args=[.agg #[iv P.1,iv P.2],pV k]/\QP aX h k l/\l.length<=1000000/\K (iv (BW l P)) h nx)
theorem aOs:c7 Tryz.prog aGq.1 aGq.2:=by
 refine(eJ (S:=fun args0 h0 n0 v1 h1 j=>∃(P:Pt) (l:List Pt) (c:Nat),l.length<=1000000/\args0=[.agg #[iv P.1,iv P.2],pV 0]/\h0=aLP l c/\n0=2/\v1=iv (BW l P)/\h1=[]/\j=0) (aL (xl:=[aG5]) (.cons aPZ .nil)) ?_).mono ?_ ?_
 ·rintro args0 h0 n0 v1 h1 j ⟨P,l,c,hl,rfl,rfl,rfl,rfl,rfl,rfl⟩;refine⟨rfl,fun u _ _=>u=iv (BW l P),?_,fun v h nx e=>by rw[e];exact gM rfl⟩;obtain⟨p1,p2⟩:=P;(conv=>whnf);refine⟨l,aP aX rfl,?_⟩;refine aM (show(Nat.beq 114 114&&decide (l.length<=1000000))=true by rw[ai hl];rfl) ?_;rfl
 ·rintro args h nx K ⟨P,k,l,rfl,hb,hl,hx⟩;obtain⟨c,hi⟩:=aMJ (nx:=nx) hb P;exact⟨_,_,2,_,[],0,⟨P,l,c,hl,rfl,rfl,rfl,rfl,rfl,rfl⟩,hi,hx⟩
 rintro args h nx K ⟨P,k,l,rfl,hb,hl,hx⟩;exact⟨_,_,_,hx,fun K' hk=>⟨P,k,l,rfl,hb,hl,hk⟩⟩
structure gC where
 a:Pt
 b:Pt
 ln:Int
 fm:Int
def DM:El gC:=⟨fun e=>[iv e.a.1,iv e.a.2,iv e.b.1,iv e.b.2,iv e.ln,iv e.fm],6,fun _=>rfl,fun _=>rfl,by decide⟩
def gF (m:List gC)(i:Nat):gC:=m.getD i ⟨(0,0),(0,0),0,0⟩
theorem nT {m:List gC}{i:Nat}(h:i<m.length):gF m i=m[i]:=by
 unfold gF;rw[List.getD_eq_getElem?_getD,List.getElem?_eq_getElem h];rfl
theorem aOo (m:List gC){i o:Nat}(hi:i<m.length)(ho:o=i*6):kI (flat DM.fl m) o 6=some [iv (gF m i).a.1,iv (gF m i).a.2,iv (gF m i).b.1,iv (gF m i).b.2,iv (gF m i).ln,iv (gF m i).fm]:=by
 rw[nT hi];exact qX DM m hi ho
theorem WK (m:List gC){i o k:Nat}{v:Value}(hi:i<m.length)(hv:(DM.fl (gF m i))[k]? = some v)(ho:o=i*6+k):nth (flat DM.fl m) o=some v:=by
 have hk:k<6:=(List.getElem?_eq_some_iff.1 hv).1;rw[nT hi]at hv;exact lK DM m hi (k:=k) hv hk ho
theorem aPK (m:List gC){i o:Nat}(hi:i<m.length)(ho:o=i*6):kI (flat DM.fl m) o 2=some [iv (gF m i).a.1,iv (gF m i).a.2]:=by
 have h1:=WK m (k:=0) hi rfl ho;have h2:=WK m (o:=o+1) (k:=1) hi rfl aa;simp only[kI,h1,h2]
theorem aOm (m:List gC){i o:Nat}(hi:i<m.length)(ho:o=i*6+2):kI (flat DM.fl m) o 2=some [iv (gF m i).b.1,iv (gF m i).b.2]:=by
 have h1:=WK m (k:=2) hi rfl ho;have h2:=WK m (o:=o+1) (k:=3) hi rfl aa;simp only[kI,h1,h2]
def uP (L:List Pt)(l:List gC)(i:Int):Pt:=(BW L (gF l i.toNat).a,BW L (gF l i.toNat).b)
def VU (h:Heap)(ib lb:Nat)(L:List Pt)(l:List gC):Prop:=∃ mb wr g sz r0,aw h ib=some (.cells wr g sz (.func (.func 118) #[] #[pV mb]::r0))/\QP aX h mb L/\QP DM h lb l
def P9 (L:List Pt)(l:List gC)(c c1:Nat):Heap:=[(0,av 1 [.func (.func 118) #[] #[pV 2]]),(1,av 1 [ak 4 l.length c1]),(2,av 1 [ak 3 L.length c]),(3,au 2 (flat aX.fl L)),(4,au 6 (flat DM.fl l))]
def aKR (a b c d e f:Nat):Nat->Nat
 |0=>a
 |1=>b
 |2=>c
 |3=>d
 |4=>e
 |_=>f
theorem aAY {h:Heap}{ib lb p n0:Nat}{L:List Pt}{l:List gC}(he:VU h ib lb L l)(hn:5<=n0):∃ c c1 ρ,ρ 0=ib/\ρ 1=lb/\ρ 5=p /\
  ∀ k o,aw (P9 L l c c1) k=some o->k<n0/\∃ g sz cs0,o=.cells false g sz cs0/\sz≠0/\(g=true->dT cs0=true)/\(∀ v∈cs0,wM n0 v)/\∃ wr g' sz' cs,aw h (ρ k)=some (.cells wr g' sz' cs)/\cs.take cs0.length=cs0.map (cB ρ):=by
 obtain⟨mb,wr,g,sz,r0,h1,⟨q,c,wr2,g2,sz2,r2,wr3,g3,sz3,cs3,h2,h3,h3t⟩,⟨q',c1,wr4,g4,sz4,r4,wr5,g5,sz5,cs5,h4,h5,h5t⟩⟩:=he;refine⟨c,c1,aKR ib lb mb q q' p,rfl,rfl,rfl,fun k o hm=>?_⟩;unfold P9 at hm;rw[aD]at hm;split at hm
 ·rename_i hq;injection hm with hm;subst hm;rw[<- az hq]
  exact⟨aa,false,1,_,rfl,by decide,(fun h=>by cases h),ae.2 ⟨⟨trivial,ae.2 ⟨⟨(aa:2<n0),rfl⟩,fun _ h=>by cases h⟩⟩,fun _ h=>by cases h⟩,wr,g,sz,_,h1,by simp[cB,tr,eK,cF,nB,eM,j4,aKR]⟩
 rw[aD]at hm;split at hm
 ·rename_i hq;injection hm with hm;subst hm;rw[<- az hq]
  exact⟨aa,false,1,_,rfl,by decide,(fun h=>by cases h),ae.2 ⟨⟨(aa:4<n0),fun h=>by cases h⟩,fun _ h=>by cases h⟩,wr4,g4,sz4,_,h4,rfl⟩
 rw[aD]at hm;split at hm
 ·rename_i hq;injection hm with hm;subst hm;rw[<- az hq]
  exact⟨aa,false,1,_,rfl,by decide,(fun h=>by cases h),ae.2 ⟨⟨(aa:3<n0),fun h=>by cases h⟩,fun _ h=>by cases h⟩,wr2,g2,sz2,_,h2,rfl⟩
 rw[aD]at hm;split at hm
 ·rename_i hq;injection hm with hm;subst hm;rw[<- az hq]
  exact⟨aa,true,2,_,rfl,by decide,fun _=>aC aX L,fun v hv=>bM (a9 (aC aX L) hv),wr3,g3,sz3,cs3,h3,by rw[h3t];exact(bK (aC aX L)).symm⟩
 rw[aD]at hm;split at hm
 ·rename_i hq;injection hm with hm;subst hm;rw[<- az hq]
  exact⟨aa,true,6,_,rfl,by decide,fun _=>aC DM l,fun v hv=>bM (a9 (aC DM l) hv),wr5,g5,sz5,cs5,h5,by rw[h5t];exact(bK (aC DM l)).symm⟩
 exact cA hm
def okE (L:List Pt)(l:List gC)(x:Int):Bool:=decide (0<=x)&&decide (x<l.length)&&decide (L.length<=1000000)&&decide (l.length<=1000000)
def aBn:Nat × XF:=(120,fun args h nx K=>∃(i:Int) (ib lb:Nat) (L:List Pt) (l:List gC),args=[iv i,pV ib,pV lb]/\VU h ib lb L l/\eF (okE L l i) (K (.agg #[iv (uP L l i).1,iv (uP L l i).2]) h nx))
theorem aKM:c7 Tryz.prog aBn.1 aBn.2:=by
 refine(eJ (S:=fun args0 h0 n0 v1 h1 j=>∃(i:Int) (L:List Pt) (l:List gC) (c c1:Nat),okE L l i=true/\args0=[iv i,pV 0,pV 1]/\h0=P9 L l c c1/\n0=5/\v1=.agg #[iv (uP L l i).1,iv (uP L l i).2]/\h1=[]/\j=0) (aL (xl:=[aGq]) (.cons aOs .nil)) ?_).mono ?_ ?_
 ·rintro args0 h0 n0 v1 h1 j ⟨i,L,l,c,c1,hok,rfl,rfl,rfl,rfl,rfl,rfl⟩;refine⟨rfl,fun u _ _=>u=.agg #[iv (uP L l i).1,iv (uP L l i).2],?_,fun v h nx e=>by rw[e];exact gM rfl⟩;unfold okE at hok;simp only[af,ag]at hok;obtain⟨⟨⟨h0,h1⟩,h2⟩,h3⟩:=hok;have hb:∀ h:Heap,aw h 2=some (av 1 [ak 3 L.length c])->aw h 3=some (au 2 (flat aX.fl L))->QP aX h 2 L:=fun h e1 e2=>⟨3,c,false,false,1,[],false,true,2,flat aX.fl L,e1,e2,List.take_length⟩;(conv=>whnf);refine bt ?_;(conv=>whnf);refine eZ (aPK l (i:=i.toNat) aa (by show _+Int.toNat i*6=_;omega)) ?_;(conv=>whnf);refine⟨_,2,L,rfl,hb _ rfl rfl,h2,?_⟩;(conv=>whnf);refine bt ?_;(conv=>whnf);refine eZ (aOm l (i:=i.toNat) aa (by show _+Int.toNat i*6+2=_;omega)) ?_;(conv=>whnf);refine⟨_,2,L,rfl,hb _ rfl rfl,h2,?_⟩;(conv=>whnf);rfl
 ·rintro args h nx K ⟨i,ib,lb,L,l,rfl,he,hx⟩;obtain⟨hok,hx⟩:=aH.1 hx;obtain⟨c,c1,ρ,e0,e1,_,hob⟩:=aAY (p:=0) he (ah 5);refine⟨_,_,5,_,[],0,⟨i,L,l,c,c1,hok,rfl,rfl,rfl,rfl,rfl,rfl⟩,vU ρ (by rw[<- e0,<- e1];rfl) (ae.2 ⟨c9 rfl,ae.2 ⟨n9 rfl,ae.2 ⟨n9 rfl,fun _ h=>by cases h⟩⟩⟩) hob,?_⟩;rw[lJ rfl];exact hx
 rintro args h nx K ⟨i,ib,lb,L,l,rfl,he,hx⟩;obtain⟨hok,hx⟩:=aH.1 hx;exact⟨_,_,_,hx,fun K' hk=>⟨i,ib,lb,L,l,rfl,he,aM hok hk⟩⟩
def aKZ (h:Heap)(p:Nat)(L:List Pt)(l:List gC):Prop:=∃ ib lb wr g sz r0,aw h p=some (.cells wr g sz (.func (.func 120) #[] #[pV ib,pV lb]::r0))/\VU h ib lb L l
def aP1 (L:List Pt)(l:List gC)(c c1:Nat):Heap:=(5,av 1 [.func (.func 120) #[] #[pV 0,pV 1]])::P9 L l c c1
def aHw (L:List Pt)(l:List gC)(x y:Int):Int:=iV (uP L l x) (uP L l y)
def aBe:Nat × XF:=(122,fun args h nx K=>∃(x y:Int) (p:Nat) (L:List Pt) (l:List gC),args=[iv x,iv y,pV p]/\aKZ h p L l/\eF (okE L l x&&okE L l y) (K (iv (aHw L l x y)) h nx))
theorem aQn:c7 Tryz.prog aBe.1 aBe.2:=by
 refine(eJ (S:=fun args0 h0 n0 v1 h1 j=>∃(x y:Int) (L:List Pt) (l:List gC) (c c1:Nat),(okE L l x&&okE L l y)=true/\args0=[iv x,iv y,pV 5]/\h0=aP1 L l c c1/\n0=6/\v1=iv (aHw L l x y)/\h1=[]/\j=0) (aL (xl:=[aBn,RN,aCi]) (.cons aKM (.cons UQ (.cons aIB .nil)))) ?_).mono ?_ ?_
 ·rintro args0 h0 n0 v1 h1 j ⟨x,y,L,l,c,c1,hok,rfl,rfl,rfl,rfl,rfl,rfl⟩;refine⟨rfl,fun u _ _=>u=iv (aHw L l x y),?_,fun v h nx e=>by rw[e];exact gM rfl⟩;simp only[af]at hok;have hb:∀ h:Heap,aw h 0=aw (P9 L l c c1) 0->aw h 1=aw (P9 L l c c1) 1->aw h 2=aw (P9 L l c c1) 2->aw h 3=aw (P9 L l c c1) 3->aw h 4=aw (P9 L l c c1) 4->VU h 0 1 L l:=fun h e0 e1 e2 e3 e4=>⟨2,false,false,1,[],e0,⟨3,c,false,false,1,[],false,true,2,flat aX.fl L,e2,e3,List.take_length⟩,⟨4,c1,false,false,1,[],false,true,6,flat DM.fl l,e1,e4,List.take_length⟩⟩;(conv=>whnf);refine⟨x,0,1,L,l,rfl,hb _ rfl rfl rfl rfl rfl,aM hok.1 ?_⟩;(conv=>whnf);refine⟨y,0,1,L,l,rfl,hb _ rfl rfl rfl rfl rfl,aM hok.2 ?_⟩;(conv=>whnf);refine⟨[jN (uP L l x).1 (uP L l y).1,jN (uP L l x).2 (uP L l y).2],⟨rfl,_,_,_,_,rfl,rfl⟩,?_⟩;(conv=>whnf);rfl
 ·rintro args h nx K ⟨x,y,p,L,l,rfl,⟨ib,lb,wr,g,sz,r0,h1,he⟩,hx⟩;obtain⟨hok,hx⟩:=aH.1 hx;obtain⟨c,c1,ρ,e0,e1,e5,hob⟩:=aAY (p:=p) (n0:=6) he aa;refine⟨_,_,6,_,[],0,⟨x,y,L,l,c,c1,hok,rfl,rfl,rfl,rfl,rfl,rfl⟩,vU ρ (by rw[<- e5];rfl) (ae.2 ⟨c9 rfl,ae.2 ⟨c9 rfl,ae.2 ⟨n9 rfl,fun _ h=>by cases h⟩⟩⟩) fun k o hk=>?_,hx⟩;unfold aP1 at hk;rw[aD]at hk;split at hk
  ·rename_i hq;injection hk with hk;subst hk;rw[<- az hq]
   exact⟨aa,false,1,_,rfl,by decide,(fun h=>by cases h),ae.2 ⟨⟨trivial,ae.2 ⟨⟨by decide,rfl⟩,ae.2 ⟨⟨by decide,rfl⟩,fun _ h=>by cases h⟩⟩⟩,fun _ h=>by cases h⟩,wr,g,sz,_,by rw[e5];exact h1,by rw[<- e0,<- e1];simp[cB,tr,eK,cF,nB,eM,j4]⟩
  exact hob k o hk
 rintro args h nx K ⟨x,y,p,L,l,rfl,he,hx⟩;obtain⟨hok,hx⟩:=aH.1 hx;exact⟨_,_,_,hx,fun K' hk=>⟨x,y,p,L,l,rfl,he,aM hok hk⟩⟩
inductive CW where
 |dirs (D:List Dt)
 |cols (l:List Pt) (m:List Ed) (x:Int)
 |pnts (l:List Pt)
 |ords (L:List Pt) (l:List gC)
instance:Coe (List Dt) CW:=⟨.dirs⟩
def CW.num:CW->Nat
 |.dirs D=>D.length
 |.cols _ m _=>m.length
 |.pnts l=>l.length
 |.ords _ l=>l.length
def uT:CW->Bool
 |.dirs D=>ZG D
 |.cols l m x=>jS l m&&l.all bF&&okX x
 |.pnts _=>false
 |.ords L l=>decide (L.length<=1000000)&&decide (l.length<=1000000)
def cmC:CW->Int->Int->Int
 |.dirs D,a,b=>aCD D a b
 |.cols l m x,a,b=>hgV (bB l m a.toNat) (bB l m b.toNat) x
 |.pnts l,a,b=>iV (bI l a.toNat) (bI l b.toNat)
 |.ords L l,a,b=>aHw L l a b
def WZ (C:CW)(x y:Int):Bool:=decide (0<=x)&&decide (x<C.num)&&(decide (0<=y)&&decide (y<C.num))&&uT C
def fcC:CW->Nat
 |.dirs _=>178
 |.cols _ _ _=>173
 |.pnts _=>114
 |.ords _ _=>122
def aCE:CW->Nat × Nat->List Value
 |.dirs _,p=>[.pointer (some ⟨p.1,0,none⟩)]
 |.cols _ _ _,p=>[.pointer (some ⟨p.1,0,none⟩),.pointer (some ⟨p.2,0,none⟩)]
 |.pnts _,_=>[]
 |.ords _ _,p=>[.pointer (some ⟨p.1,0,none⟩)]
def mI (C:CW)(p:Nat × Nat):Value:=.func (.func (fcC C)) #[] ⟨aCE C p⟩
def aGI (h:Heap)(p q:Nat)(l:List Pt)(m:List Ed)(x:Int):Prop:=∃ b k0 k1 wr g sz r0 wr1 g1 sz1 r1 wr2 g2 sz2 cs2 wr3 g3 sz3 cs3 wr4 g4 sz4 r4 c0 c1 F,
 aw h p=some (.cells wr g sz (.pointer (some ⟨b,0,none⟩)::r0)) /\
 aw h b=some (.cells wr1 g1 sz1 (.slice (some ⟨k0,0,none⟩) l.length c0::.slice (some ⟨k1,0,none⟩) m.length c1::iv F::r1)) /\
 (aw h k0=some (.cells wr2 g2 sz2 cs2)/\cs2.take (flat aX.fl l).length=flat aX.fl l) /\
 (aw h k1=some (.cells wr3 g3 sz3 cs3)/\cs3.take (flat bS.fl m).length=flat bS.fl m) /\
 aw h q=some (.cells wr4 g4 sz4 (iv x::r4))
def aNb (l:List Pt)(m:List Ed)(x:Int)(c0 c1:Nat)(F:Int):Heap:=[(0,av 1 [ao 1]),(1,av 1 [ak 3 l.length c0,ak 4 m.length c1,iv F]),(2,au 1 [iv x]),
 (3,.cells false true aX.sz (flat aX.fl l)),(4,.cells false true bS.sz (flat bS.fl m))]
def aPH (p b q k0 k1:Nat):Nat->Nat
 |0=>p
 |1=>b
 |2=>q
 |3=>k0
 |_=>k1
theorem aMB {h:Heap}{p q nx:Nat}{l:List Pt}{m:List Ed}{x:Int}(hd:aGI h p q l m x){r:List Value}(hr:fI r=true):∃ c0 c1 F,In (r++[ao 0,ao 2]) (aNb l m x c0 c1 F) 5 (r++[.pointer (some ⟨p,0,none⟩),.pointer (some ⟨q,0,none⟩)]) h nx:=by
 obtain⟨b0,k0,k1,wr,g,sz,r0,wr1,g1,sz1,r1,wr2,g2,sz2,cs2,wr3,g3,sz3,cs3,wr4,g4,sz4,r4,c0,c1,F,h1,h2,⟨h3,h3t⟩,⟨h4,h4t⟩,h5⟩:=hd;refine⟨c0,c1,F,vU (aPH p b0 q k0 k1) ?_ ?_ ?_⟩
 ·rw[List.map_append,show r.map (fJ (aPH p b0 q k0 k1))=r from by
   conv=>rhs;rw[<- List.map_id r]
   exact List.map_congr_left fun v hv=>lJ (cD hr hv)]
  rfl
 ·intro v hv;rcases List.mem_append.1 hv with hv|hv
  ·exact c9 (cD hr hv)
  simp only[List.mem_cons,List.not_mem_nil,or_false]at hv;rcases hv with rfl|rfl <;> exact⟨by decide,rfl⟩
 intro k o hk;unfold aNb at hk;rw[aD]at hk;split at hk
 ·rename_i hb;injection hk with hk;subst hk;rw[<- az hb]
  refine⟨by decide,false,1,_,rfl,by decide,(fun h=>by cases h),ae.2 ⟨⟨by decide,rfl⟩,fun _ h=>by cases h⟩,wr,g,sz,_,h1,rfl⟩
 rw[aD]at hk;split at hk
 ·rename_i hb;injection hk with hk;subst hk;rw[<- az hb]
  refine⟨by decide,false,1,_,rfl,by decide,(fun h=>by cases h),?_,wr1,g1,sz1,_,h2,rfl⟩;refine ae.2 ⟨⟨by decide,fun h=>by cases h⟩,ae.2 ⟨⟨by decide,fun h=>by cases h⟩,ae.2 ⟨bM rfl,fun _ h=>by cases h⟩⟩⟩
 rw[aD]at hk;split at hk
 ·rename_i hb;injection hk with hk;subst hk;rw[<- az hb]
  exact⟨by decide,true,1,_,rfl,by decide,fun _=>rfl,ae.2 ⟨bM rfl,fun _ h=>by cases h⟩,wr4,g4,sz4,_,h5,rfl⟩
 rw[aD]at hk;split at hk
 ·rename_i hb;injection hk with hk;subst hk;rw[<- az hb]
  exact⟨by decide,true,_,_,rfl,aX.pos,fun _=>aC aX l,fun v hv=>bM (a9 (aC aX l) hv),wr2,g2,sz2,cs2,h3,by rw[h3t];exact(bK (aC aX l)).symm⟩
 rw[aD]at hk;split at hk
 ·rename_i hb;injection hk with hk;subst hk;rw[<- az hb]
  exact⟨by decide,true,_,_,rfl,bS.pos,fun _=>aC bS m,fun v hv=>bM (a9 (aC bS m) hv),wr3,g3,sz3,cs3,h4,by rw[h4t];exact(bK (aC bS m)).symm⟩
 exact cA hk
def aBj:Nat × XF:=(173,fun args h nx K=>∃ a b p q l m x,args=[iv a,iv b,.pointer (some ⟨p,0,none⟩),.pointer (some ⟨q,0,none⟩)]/\aGI h p q l m x/\eF (WZ (.cols l m x) a b) (K (iv (cmC (.cols l m x) a b)) h nx))
theorem aPS:c7 Tryz.prog aBj.1 aBj.2:=by
 refine(eJ (S:=fun args0 h0 n0 v1 h1 j=>∃ a b l m x c0 c1 F,WZ (.cols l m x) a b=true/\args0=[iv a,iv b,ao 0,ao 2]/\h0=aNb l m x c0 c1 F/\n0=5/\v1=iv (cmC (.cols l m x) a b)/\h1=[]/\j=0) (aL (xl:=[XE,aMX]) (.cons aMZ (.cons aSJ .nil))) ?_).mono ?_ ?_
 ·rintro args0 h0 n0 v1 h1 j ⟨a,b,l,m,x,c0,c1,F,hok,rfl,rfl,rfl,rfl,rfl,rfl⟩;refine⟨rfl,fun u _ _=>u=iv (cmC (.cols l m x) a b),?_,fun v h nx e=>by rw[e];exact gM rfl⟩;have hok:(decide (0<=a)&&decide (a<(m.length:Int))&&(decide (0<=b)&&decide (b<(m.length:Int)))&&(jS l m&&l.all bF&&okX x))=true:=hok;simp only[af,ag]at hok;obtain⟨⟨⟨h0,h1⟩,h2,h3⟩,⟨hM,hR⟩,hx⟩:=hok;have hS:=aAJ hM hR (i:=a.toNat) aa;have hT:=aAJ hM hR (i:=b.toNat) aa;(conv=>whnf);refine⟨l,m,aP aX rfl,aP bS rfl,?_⟩;refine aM (show(jS l m&&(decide (0<=a)&&decide (a<m.length)))=true by rw[hM,ai h0,ai h1];rfl) ?_;(conv=>whnf);refine⟨l,m,aP aX rfl,aP bS rfl,?_⟩;refine aM (show(jS l m&&(decide (0<=b)&&decide (b<m.length)))=true by rw[hM,ai h2,ai h3];rfl) ?_;(conv=>whnf);refine aM (show(rgS (bB l m a.toNat)&&rgS (bB l m b.toNat)&&okX x)=true by unfold rgS;rw[hS.1,hS.2,hT.1,hT.2,hx];rfl) ?_;(conv=>whnf);rfl
 ·rintro args h nx K ⟨a,b,p,q,l,m,x,rfl,hd,hx⟩;obtain⟨hb,hx⟩:=aH.1 hx;obtain⟨c0,c1,F,i⟩:=aMB (nx:=nx) hd (r:=[iv a,iv b]) rfl;exact⟨_,_,5,_,[],0,⟨a,b,l,m,x,c0,c1,F,hb,rfl,rfl,rfl,rfl,rfl,rfl⟩,i,hx⟩
 rintro args h nx K ⟨a,b,p,q,l,m,x,rfl,hd,hx⟩;obtain⟨hb,hx⟩:=aH.1 hx;exact⟨_,_,_,hx,fun K' hk'=>⟨a,b,p,q,l,m,x,rfl,hd,aM hb hk'⟩⟩
def PU (h:Heap)(p:Nat × Nat):CW->Prop
 |.dirs D=>aGB h p.1 D
 |.cols l m x=>aGI h p.1 p.2 l m x
 |.pnts _=>True
 |.ords L l=>aKZ h p.1 L l
def CQ (xl:List (Nat × XF)):VC:=fun f args h nx K=>(∃(C:CW) (x y:Int) (p:Nat × Nat),f=fcC C/\args=iv x::iv y::aCE C p/\PU h p C/\eF (WZ C x y) (K (iv (cmC C x y)) h nx))\/CX (aw xl) f args h nx K
theorem xC (C:CW)(x y:Int)(p:Nat × Nat)(h:Heap)(nx:Nat)(K:KE)(hC:PU h p C)(hk:eF (WZ C x y) (K (iv (cmC C x y)) h nx)):CX (aw [aEl,aBj,aBe]) (fcC C) (iv x::iv y::aCE C p) h nx K:=by
 cases C with
 |dirs D =>
  refine⟨x,y,p.1,D,rfl,hC,?_⟩;have e:WZ (.dirs D) x y=aAa D x y:=rfl;rw[<- e];exact hk
 |cols l m z=>exact⟨x,y,p.1,p.2,l,m,z,rfl,hC,hk⟩
 |pnts l =>
  have e:WZ (.pnts l) x y=false:=(by unfold WZ;exact Bool.and_false _);rw[e]at hk;exact hk.elim
 |ords L l =>
  obtain⟨hb,hk⟩:=aH.1 hk;refine⟨x,y,p.1,L,l,rfl,hC,aM ?_ hk⟩;have hb:(decide (0<=x)&&decide (x<(l.length:Int))&&(decide (0<=y)&&decide (y<(l.length:Int)))&&(decide (L.length<=1000000)&&decide (l.length<=1000000)))=true:=hb;unfold okE;simp only[af,ag]at *;exact⟨⟨⟨⟨hb.1.1.1,hb.1.1.2⟩,hb.2.1⟩,hb.2.2⟩,⟨⟨hb.1.2.1,hb.1.2.2⟩,hb.2.1⟩,hb.2.2⟩
theorem aP9 {xl:List (Nat × XF)}(h:lA xl):bN Tryz.prog (CQ xl):=by
 intro f args hp nx K hx ι B w H hs;rcases hx with⟨C,x,y,p,rfl,rfl,hC,hk⟩|hx
 ·exact PF (lA.cons (l:=[aBj,aBe]) aQ0 (.cons aPS (.cons aQn .nil))).look _ _ _ _ _ (xC C x y p hp nx K hC hk) ι B w H hs
 exact PF h.look f args hp nx K hx ι B w H hs
theorem aMu {xl:List (Nat × XF)}(h:lA xl):fG (CQ xl):=by
 intro f args hp nx K hx;rcases hx with⟨C,x,y,p,rfl,rfl,hC,hk⟩|hx
 ·obtain⟨hb,hk⟩:=aH.1 hk;exact⟨_,_,_,hk,fun K' hk'=>.inl ⟨C,x,y,p,rfl,rfl,hC,aM hb hk'⟩⟩
 obtain⟨v,h',nx',k1,k2⟩:=ER h.look f args hp nx K hx;exact⟨v,h',nx',k1,fun K' hk'=>.inr (k2 K' hk')⟩
def aQd (xl:List (Nat × XF)):VC:=tK aB none (CQ xl) noY
theorem GR {xl:List (Nat × XF)}(h:lA xl):bN Tryz.prog (aQd xl):=tM gE (aP9 h) LZ (aMu h) uY none
def sh1 (p:Nat × Nat):Nat × Nat:=(1+p.1,1+p.2)
def CLt:CW->Nat × Nat->Nat->Prop
 |.dirs _,p,n=>p.1<n
 |.cols _ _ _,p,n=>p.1<n/\p.2<n
 |.pnts _,_,_=>True
 |.ords _ _,p,n=>p.1<n
theorem aBz {ι:Nat->Loc}{k:Nat}{C:CW}{p:Nat × Nat}:tr ι (mI C p)=tr (vT k ι) (mI C (sh1 p)):=by
 cases C <;> simp[mI,aCE,sh1,tr,eK,cF,nB,eM,iS]
theorem aJh {ι:Nat->Loc}{k n:Nat}{C:CW}{p:Nat × Nat}(h:fU ι n (mI C p)):fU (vT k ι) (1+n) (mI C (sh1 p)):=by
 have key:∀{q:Nat},rG ι n (.pointer (some ⟨q,0,none⟩))->rG (vT k ι) (1+n) (.pointer (some ⟨1+q,0,none⟩)):=fun{q} h1 =>
  ⟨by have:=h1.1;show 1+q<1+n;simp only at this;omega,by show(vT k ι (1+q)).jD=true;rw[iS];exact h1.2⟩
 cases C with
 |dirs D=>exact⟨trivial,ae.2 ⟨key (h.2 _ (.head _)),fun _ h=>by cases h⟩⟩
 |cols l m x=>exact⟨trivial,ae.2 ⟨key (h.2 _ (.head _)),ae.2 ⟨key (h.2 _ (.tail _ (.head _))),fun _ h=>by cases h⟩⟩⟩
 |pnts l=>exact⟨trivial,fun _ h=>by cases h⟩
 |ords L l=>exact⟨trivial,ae.2 ⟨key (h.2 _ (.head _)),fun _ h=>by cases h⟩⟩
theorem aHG {F F':Heap}{C:CW}{p:Nat × Nat}{g:Nat->Nat}(hF:∀ j wr gg sz cs,aw F j=some (.cells wr gg sz cs)->∃ wr',aw F' (g j)=some (.cells wr' gg sz (cs.map (cB g))))(h:PU F p C):PU F' (g p.1,g p.2) C:=by
 cases C with
 |dirs D =>
  obtain⟨b,c,k0,k1,wr,gg,sz,r0,wr1,g1,sz1,r1,wr2,g2,sz2,cs,n0,c0,n1,c1,f,cc,h1,h2,h3,h4⟩:=h;obtain⟨w1,e1⟩:=hF _ _ _ _ _ h1;obtain⟨w2,e2⟩:=hF _ _ _ _ _ h2;obtain⟨w3,e3⟩:=hF _ _ _ _ _ h3;refine⟨g b,g c,g k0,g k1,w1,gg,sz,_,w2,g1,sz1,_,w3,g2,sz2,cs.map (cB g),n0,c0,n1,c1,f,cc,e1,e2,e3,?_⟩;rw[<- List.map_take,h4];exact bK (aC wQ D)
 |cols l m x =>
  obtain⟨b,k0,k1,wr,gg,sz,r0,wr1,g1,sz1,r1,wr2,g2,sz2,cs2,wr3,g3,sz3,cs3,wr4,g4,sz4,r4,c0,c1,f,h1,h2,⟨h3,h3t⟩,⟨h4,h4t⟩,h5⟩:=h;obtain⟨w1,e1⟩:=hF _ _ _ _ _ h1;obtain⟨w2,e2⟩:=hF _ _ _ _ _ h2;obtain⟨w3,e3⟩:=hF _ _ _ _ _ h3;obtain⟨w4,e4⟩:=hF _ _ _ _ _ h4;obtain⟨w5,e5⟩:=hF _ _ _ _ _ h5;refine⟨g b,g k0,g k1,w1,gg,sz,_,w2,g1,sz1,_,w3,g2,sz2,_,w4,g3,sz3,_,w5,g4,sz4,_,c0,c1,f,e1,e2,⟨e3,?_⟩,⟨e4,?_⟩,e5⟩
  ·rw[<- List.map_take,h3t];exact bK (aC aX l)
  rw[<- List.map_take,h4t];exact bK (aC bS m)
 |pnts l=>exact trivial
 |ords L l =>
  have hbx:∀{α:Type} (E:El α) {k:Nat} {X:List α},QP E F k X->QP E F' (g k) X:=fun{α} E {k X} ⟨q,c,wr,gg,sz,r0,wr1,g1,sz1,cs,e1,e2,e3⟩=>by
   obtain⟨w1,e1'⟩:=hF _ _ _ _ _ e1;obtain⟨w2,e2'⟩:=hF _ _ _ _ _ e2;exact⟨g q,c,w1,gg,sz,_,w2,g1,sz1,_,e1',e2',by rw[<- List.map_take,e3];exact bK (aC E X)⟩
  obtain⟨ib,lb,wr,gg,sz,r0,h1,mb,wr1,g1,sz1,r1,h2,h3,h4⟩:=h;obtain⟨w1,e1⟩:=hF _ _ _ _ _ h1;obtain⟨w2,e2⟩:=hF _ _ _ _ _ h2;exact⟨g ib,g lb,w1,gg,sz,r0.map (cB g),by rw[e1];simp[cB,tr,eK,cF,nB,eM,j4],g mb,w2,g1,sz1,r1.map (cB g),by rw[e2];simp[cB,tr,eK,cF,nB,eM,j4],hbx aX h3,hbx DM h4⟩
theorem MZ {F F':Heap}{C:CW}{p:Nat × Nat}(hF:∀ j wr gg sz cs,aw F j=some (.cells wr gg sz cs)->∃ wr',aw F' j=some (.cells wr' gg sz cs))(h:PU F p C):PU F' p C:=by
 cases C with
 |dirs D =>
  obtain⟨b,c,k0,k1,wr,gg,sz,r0,wr1,g1,sz1,r1,wr2,g2,sz2,cs,n0,c0,n1,c1,f,cc,h1,h2,h3,h4⟩:=h;obtain⟨w1,e1⟩:=hF _ _ _ _ _ h1;obtain⟨w2,e2⟩:=hF _ _ _ _ _ h2;obtain⟨w3,e3⟩:=hF _ _ _ _ _ h3;exact⟨b,c,k0,k1,w1,gg,sz,_,w2,g1,sz1,_,w3,g2,sz2,cs,n0,c0,n1,c1,f,cc,e1,e2,e3,h4⟩
 |cols l m x =>
  obtain⟨b,k0,k1,wr,gg,sz,r0,wr1,g1,sz1,r1,wr2,g2,sz2,cs2,wr3,g3,sz3,cs3,wr4,g4,sz4,r4,c0,c1,f,h1,h2,⟨h3,h3t⟩,⟨h4,h4t⟩,h5⟩:=h;obtain⟨w1,e1⟩:=hF _ _ _ _ _ h1;obtain⟨w2,e2⟩:=hF _ _ _ _ _ h2;obtain⟨w3,e3⟩:=hF _ _ _ _ _ h3;obtain⟨w4,e4⟩:=hF _ _ _ _ _ h4;obtain⟨w5,e5⟩:=hF _ _ _ _ _ h5;exact⟨b,k0,k1,w1,gg,sz,_,w2,g1,sz1,_,w3,g2,sz2,_,w4,g3,sz3,_,w5,g4,sz4,_,c0,c1,f,e1,e2,⟨e3,h3t⟩,⟨e4,h4t⟩,e5⟩
 |pnts l=>exact trivial
 |ords L l =>
  have hbx:∀{α:Type} (E:El α) {k:Nat} {X:List α},QP E F k X->QP E F' k X:=fun{α} E {k X} ⟨q,c,wr,gg,sz,r0,wr1,g1,sz1,cs,e1,e2,e3⟩=>by
   obtain⟨w1,e1'⟩:=hF _ _ _ _ _ e1;obtain⟨w2,e2'⟩:=hF _ _ _ _ _ e2;exact⟨q,c,w1,gg,sz,_,w2,g1,sz1,_,e1',e2',e3⟩
  obtain⟨ib,lb,wr,gg,sz,r0,h1,mb,wr1,g1,sz1,r1,h2,h3,h4⟩:=h;obtain⟨w1,e1⟩:=hF _ _ _ _ _ h1;obtain⟨w2,e2⟩:=hF _ _ _ _ _ h2;exact⟨ib,lb,w1,gg,sz,_,e1,mb,w2,g1,sz1,_,e2,hbx aX h3,hbx DM h4⟩
theorem aNA {F:Heap}{p:Nat × Nat}{C:CW}(h:PU F p C):PU (nK 1 F) (sh1 p) C:=aHG (g:=fun k=>1+k) (fun j wr gg sz cs hj=>⟨wr,pW F hj⟩) h
theorem aFu {F:Heap}{p:Nat × Nat}{C:CW}(h:PU F p C):PU (iH F) p C:=MZ (fun j wr gg sz cs hj=>⟨false,by rw[nZ,hj];rfl⟩) h
theorem aEN {F:Heap}{p:Nat × Nat}{nx:Nat}{C:CW}{o:bV}(hF:MG F nx)(h:PU F p C):PU ((0,o)::F) p C:=MZ (fun j wr gg sz cs hj=>⟨wr,by
 have:=(hF.2 j _ hj).1;rw[aD,show Nat.beq 0 j=false by cases hb:Nat.beq 0 j with|false=>rfl|true=>have:=az hb;omega];exact hj⟩) h
theorem P8 {F:Heap}{p:Nat × Nat}{nx:Nat}{C:CW}(hF:MG F nx)(h:PU F p C):CLt C p nx:=by
 cases C with
 |dirs D =>
  obtain⟨b,c,k0,k1,wr,g,sz,r0,wr1,g1,sz1,r1,wr2,g2,sz2,cs,n0,c0,n1,c1,f,cc,h1,_⟩:=h;exact(hF.2 _ _ h1).2.1
 |cols l m x =>
  obtain⟨b,k0,k1,wr,gg,sz,r0,wr1,g1,sz1,r1,wr2,g2,sz2,cs2,wr3,g3,sz3,cs3,wr4,g4,sz4,r4,c0,c1,f,h1,_,_,_,h5⟩:=h;exact⟨(hF.2 _ _ h1).2.1,(hF.2 _ _ h5).2.1⟩
 |pnts l=>exact trivial
 |ords L l =>
  obtain⟨ib,lb,wr,gg,sz,r0,h1,_⟩:=h;exact(hF.2 _ _ h1).2.1
theorem TY {F:Heap}{p:Nat × Nat}{nx:Nat}{C:CW}{o:bV}(hF:MG F nx)(h:PU F p C):PU (iH ((0,o)::F)) p C:=aFu (aEN hF h)
def NI (h:Heap):Prop:=∀ j o,aw h j=some o->∃ wr g sz cs,o=.cells wr g sz cs
theorem bD {F:Heap}{k:Nat}{wr g:Bool}{sz:Nat}{cs:List Value}(h:NI F):NI ((k,.cells wr g sz cs)::F):=by
 intro j o hj;rw[aD]at hj;split at hj
 ·injection hj with hj;exact⟨_,_,_,_,hj.symm⟩
 exact h j o hj
theorem aA4 {h:Heap}(hc:fL h=true):NI h:=fun j o hj=>kD hc hj
theorem aGO {C:CW}{p:Nat × Nat}:fJ id (mI C p)=mI C p:=by cases C <;> simp[mI,aCE,fJ,tr,eK,cF,nB,eM,j4]
theorem jF {F:Heap}{p:Nat × Nat}{nx:Nat}{C:CW}{o:bV}(hF:MG F nx)(h:PU F p C):PU (rem ((0,o)::F) 0) p C:=MZ (fun j wr gg sz cs hj=>⟨wr,by
 have:=(hF.2 j _ hj).1;rw[dO,if_neg aa,aD,show Nat.beq 0 j=false by cases hb:Nat.beq 0 j with|false=>rfl|true=>have:=az hb;omega];exact hj⟩) h
def OE (s:CW->List Int->List Value->Nat->Option (Bool × List Int)):XF:=fun args h nx K=>∃ k c r p l D,args=.slice (some ⟨k,0,none⟩) l.length c::(r++[mI D p])/\aw h k=some (aq 1 (flat aW.fl l))/\NI h/\PU (rem h k) p D /\
 (match s D l r c with|some pr=>eF pr.1 (K (.tuple #[]) (xQ h k (aq 1 (flat aW.fl pr.2))) nx)|none=>False)
section
theorem xP {P:Program}{C:VC}{f:Nat}{s:CW->List Int->List Value->Nat->Option (Bool × List Int)}(hC:bN P C)
  (hs:∀ D l r c l',s D l r c=some (true,l')->fI r=true /\
   ∀ F nx p,MG F nx->NI F->PU F p D->C f (ak 0 l.length c::(r++[mI D p])) ((0,aq 1 (flat aW.fl l))::F) nx (fun v h _=>v=.tuple #[]/\h=(0,aq 1 (flat aW.fl l'))::F)):c7 P f (OE s):=by
 refine⟨fun args h nx K hx ι B w H hsc=>?_,fun args h nx K hx=>?_⟩
 ·obtain⟨k,c,r,p,l,D,rfl,hk,hcH,hdir,hx⟩:=hx;split at hx
  case h_2=>exact hx.elim
  rename_i pr e1;obtain⟨b,l'⟩:=pr;obtain⟨rfl,hx⟩:=aH.1 hx;obtain⟨a1,a4⟩:=hs D l r c l' e1;have a2:dT (flat aW.fl l')=true:=aC aW l';have hcp:=hsc (mI D p) (.tail _ (List.mem_append_right _ (.head _)));have hsl:k<nx/\((ι k).jD=false->l.length=0/\c=0):=hsc _ (.head _);have hcells:∀ j o,aw h j=some o->∃ wr g sz cs,o=.cells wr g sz cs:=hcH;have hι0:∀ j,j<nx->vT k ι (1+j)=ι j:=fun j _=>iS k ι j;have hF:∀ j q,aw (nK 1 (rem h k)) j=some q->∃ i o,j=1+i/\i≠k/\aw h i=some o/\q=WG 1 o:=by
   intro j q hq;obtain⟨i,o,e2,e3,e4⟩:=mM _ hq;rw[dO]at e3;split at e3
   ·cases e3
   rename_i hne;exact⟨i,o,e2,hne,e3,e4⟩
  have hFr:MG (nK 1 (rem h k)) (1+nx):=by
   refine⟨aa,fun j q hq=>?_⟩;obtain⟨i,o,rfl,hne,hi,rfl⟩:=hF j q hq;have hlow:=H.low i o hi;obtain⟨wr,g,sz,cs,rfl⟩:=hcells i o hi;refine⟨aa,aa,rfl,rfl,rfl,?_,fun v hv=>?_⟩
   ·rw[List.map_map];exact List.map_congr_left fun v hv=>(aH7 (H.sc i _ hi v hv)).symm
   obtain⟨u,hu,rfl⟩:=List.mem_map.1 hv;exact aAx (H.sc i _ hi u hu)
  have hAll:NI (nK 1 (rem h k)):=fun j q hq=>by
   obtain⟨i,o,_,_,hi,rfl⟩:=hF j q hq;obtain⟨wr,g,sz,cs,rfl⟩:=hcells i o hi;exact⟨_,_,_,_,rfl⟩
  have H0:aY (vT k ι) B ((0,aq 1 (flat aW.fl l))::nK 1 (rem h k)) (1+nx) w:=by
   refine⟨fun j q hq=>?_,fun j j' q q' hq hq' hne ha b hb=>?_,fun j q hq=>?_,H.size,fun j q hq=>?_⟩
   ·rw[aD]at hq;split at hq
    ·rename_i hb;injection hq with hq;subst hq;have:=az hb;subst this;rw[lT];exact FO (aC aW l) (H.obj k _ hk)
    obtain⟨i,o,rfl,hne,hi,rfl⟩:=hF j q hq;obtain⟨wr,g,sz,cs,rfl⟩:=hcells i o hi;rw[iS];exact SI (H.obj i _ hi) (H.sc i _ hi) hι0
   ·rw[aD]at hq hq';split at hq
    ·rename_i hb1;have:=az hb1;subst this;split at hq'
     ·rename_i hb2;exact absurd (az hb2) hne
     obtain⟨i,o,rfl,hni,hi,rfl⟩:=hF j' q' hq';rw[lT]at hb;rw[iS];exact H.sep k i _ _ hk hi (fun e=>hni e.symm) rfl b hb
    obtain⟨i,o,rfl,hni,hi,rfl⟩:=hF j q hq;rw[FU]at ha;rw[iS]at hb;split at hq'
    ·rename_i hb2;have:=az hb2;subst this;rw[lT];exact H.sep i k _ _ hi hk hni ha b hb
    obtain⟨i',o',rfl,hni',hi',rfl⟩:=hF j' q' hq';rw[iS];exact H.sep i i' _ _ hi hi' (fun e=>hne (by rw[e])) ha b hb
   ·rw[aD]at hq;split at hq
    ·rename_i hb;rw[<- az hb];omega
    exact(hFr.2 j q hq).2.1
   rw[aD]at hq;split at hq
   ·injection hq with hq;subst hq;exact fun v hv=>bM (a9 (aC aW l) hv)
   obtain⟨i,o,rfl,hni,hi,rfl⟩:=hF j q hq;obtain⟨wr,g,sz,cs,rfl⟩:=hcells i o hi;intro v hv;obtain⟨u,hu,rfl⟩:=List.mem_map.1 hv;exact aAT (H.sc i _ hi u hu) hι0
  have hrun:=hC f _ _ (1+nx) _ (a4 _ _ (sh1 p) hFr hAll (aNA hdir)) (vT k ι) B w H0 (fun v hv=>by
   cases hv with
   |head=>exact⟨(aa:0<1+nx),fun hf=>hsl.2 (by rw[lT]at hf;exact hf)⟩
   |tail _ hm =>
    rcases List.mem_append.1 hm with hm|hm
    ·exact c9 (cD a1 hm)
    simp only[List.mem_cons,List.not_mem_nil,or_false]at hm;subst hm;exact aJh hcp)
  refine⟨hrun.1,?_⟩;have he:((.slice (some ⟨k,0,none⟩) l.length c::(r++[mI D p])):List Value).map (tr ι)=((ak 0 l.length c::(r++[mI D (sh1 p)])):List Value).map (tr (vT k ι)):=by
   rw[List.map_cons,List.map_cons,List.map_append,List.map_append];congr 1;congr 1
   ·exact List.map_congr_left fun v hv=>by rw[iU (cD a1 hv),iU (cD a1 hv)]
   exact congrArg (fun v=>[v]) aBz
  rw[he];refine CallsIn.mono hrun.2 fun e w' hret=>?_;cases e with
  |returned u =>
   obtain⟨v,h',nx',ι1,⟨rfl,rfl⟩,q2,q3,q4,q5,q6,rfl⟩:=hret;have hι1:∀ j,j<nx->ι1 (1+j)=ι j:=fun j hj=>(q5 (1+j) aa).trans (iS k ι j);have hι10:ι1 0=ι k:=(q5 0 aa).trans (lT k ι);have hback:∀ j o,aw (xQ h k (aq 1 (flat aW.fl l'))) j=some o->(j=k/\o=aq 1 (flat aW.fl l'))\/(j≠k/\aw h j=some o):=by
    intro j o hj;rw[m7]at hj;split at hj
    ·rename_i e;injection hj with hj;exact .inl ⟨e,hj.symm⟩
    rename_i e;exact .inr ⟨e,hj⟩
   refine⟨.tuple #[],_,nx,ι,hx,?_,⟨fun j o hj=>?_,fun j j' o o' hj hj' hne ha b hb=>?_,fun j o hj=>?_,q3.size,fun j o hj=>?_⟩,q4,fun _ _=>rfl,ah _,?_⟩
   ·exact fun v hv=>(by cases hv)
   ·rcases hback j o hj with⟨rfl,rfl⟩|⟨hne,hj⟩
    ·have:=q3.obj 0 (aq 1 (flat aW.fl l')) rfl;rw[hι10]at this;exact FO a2 this
    obtain⟨wr,g,sz,cs,rfl⟩:=hcells j o hj;have hlow:=H.low j _ hj;have h1:aw ((0,aq 1 (flat aW.fl l'))::nK 1 (rem h k)) (1+j)=some (WG 1 (.cells wr g sz cs)):=by
     rw[aD,show Nat.beq 0 (1+j)=false by cases hb:Nat.beq 0 (1+j)with|false=>rfl|true=>have:=az hb;omega];exact pW _ (by rw[dO,if_neg hne];exact hj)
    have h2:=q3.obj _ _ h1;rw[hι1 j hlow]at h2;refine EZ h2 (H.sc j _ hj) hι1 ?_;intro hgt;have h3:=H.obj j _ hj;cases hl:ι j with
    |nil p =>
     rw[hl]at h3;have h4:cs=[]/\(sz=0\/wr=true->p.isSome=true):=(by cases wr <;> exact h3);rw[h4.1];rfl
    |lay b off ex =>
     rw[hl]at h3;cases wr with
     |true=>exact h3.2.1 hgt
     |false=>exact h3.2.1 hgt
   ·rcases hback j o hj with⟨e3,e4⟩|⟨hnk,hj2⟩
    ·rcases hback j' o' hj' with⟨e5,e6⟩|⟨hnk',hj3⟩
     ·exact absurd (e3.trans e5.symm) hne
     exact H.sep j j' _ _ (by rw[e3];exact hk) hj3 hne rfl b hb
    ·rcases hback j' o' hj' with⟨e5,e6⟩|⟨hnk',hj3⟩
     ·exact H.sep j j' _ _ hj2 (by rw[e5];exact hk) hne ha b hb
     exact H.sep j j' _ _ hj2 hj3 hne ha b hb
   ·rcases hback j o hj with⟨rfl,rfl⟩|⟨hnk,hj⟩
    ·exact hsl.1
    exact H.low j o hj
   ·rcases hback j o hj with⟨rfl,rfl⟩|⟨hnk,hj⟩
    ·exact fun v hv=>bM (a9 a2 hv)
    exact H.sc j o hj
   simp[tr]
  |_=>exact hret.elim
 obtain⟨k,c,r,p,l,D,rfl,hk,hcH,hdir,hx⟩:=hx;split at hx
 case h_2=>exact hx.elim
 rename_i pr e1;obtain⟨hb,hx⟩:=aH.1 hx;exact⟨_,_,_,hx,fun K' hk'=>⟨k,c,r,p,l,D,rfl,hk,hcH,hdir,by rw[e1];exact aM hb hk'⟩⟩
end
def lH (L:List Int)(x y:Nat):List Int:=(L.set x (aG L y)).set y (aG L x)
theorem jK (L:List Int)(x y:Nat):(lH L x y).length=L.length:=by simp[lH]
theorem HZ {L:List Int}{x y o1 o2:Nat}(h1:o1=x*1)(h2:o2=y*1)(hx:x<L.length)(hy:y<L.length):bU (bU (flat aW.fl L) o1 [iv (aG L y)]) o2 [iv (aG L x)]=flat aW.fl (lH L x y):=by
 rw[h1,h2,gB _ _ _ hx,gB _ _ _ (by rw[List.length_set];exact hy)];rfl
def mL (L:List Int)(a b:Nat):Nat->List Int
 |0=>L
 |i+1=>lH (mL L a b i) (a+i) (b+i)
theorem gV (L:List Int)(a b:Nat):∀ i,(mL L a b i).length=L.length
 |0=>rfl
 |i+1=>by unfold mL;rw[jK];exact gV L a b i
def aJ8 (D:CW)(l:List Int)(r:List Value)(c:Nat):Option (Bool × List Int):=match r with
 |[.int .i64 a,.int .i64 b,.int .i64 n]=>some (decide (0<=a)&&decide (0<=b)&&decide (0<=n)&&decide (a+n<=l.length)&&decide (b+n<=l.length)&&decide (l.length<=1000000),mL l a.toNat b.toNat n.toNat)
 |_=>none
theorem UU {D:CW}{l:List Int}{r:List Value}{c:Nat}{l':List Int}(h:aJ8 D l r c=some (true,l')):∃ a b n:Int,r=[iv a,iv b,iv n]/\0<=a/\0<=b/\0<=n/\a+n<=l.length/\b+n<=l.length/\l.length<=1000000/\l'=mL l a.toNat b.toNat n.toNat:=by
 unfold aJ8 at h;split at h
 ·rename_i a b n;injection h with h;injection h with h1 h2;simp only[af,ag]at h1;exact⟨a,b,n,rfl,h1.1.1.1.1.1,h1.1.1.1.1.2,h1.1.1.1.2,h1.1.1.2,h1.1.2,h1.2,h2.symm⟩
 ·cases h
def HF (N c:Nat)(a b n j:Int):List (Nat × Value):=[(0,ak 0 N c),(1,iv a),(2,iv b),(3,iv n),(10,iv j)]
theorem bE {nx N c k:Nat}{e:List (Nat × Value)}(h:1<=nx)(he:aw e k=some (ak 0 N c)):aw e k=some (fJ id (ak 0 N c))/\BO nx (ak 0 N c):=⟨he,h,fun h=>by cases h⟩
def aER:Nat × XF:=(244,OE aJ8)
theorem aP5:c7 Tryz.prog aER.1 aER.2:=xP (aL (xl:=[]) .nil) fun D l r c l' hs=>by
 obtain⟨a,b,n,rfl,ha,hb,hn,han,hbn,hl,rfl⟩:=UU hs;refine⟨rfl,fun F nx p hF hC hD=>?_⟩;(conv=>whnf);refine⟨fun q e h nx'=>∃(i:Nat) (j:Int),j=i/\i<=n.toNat/\q=n.toNat - i/\e=HF l.length c a b n j/\h=(0,aq 1 (flat aW.fl (mL l a.toNat b.toNat i)))::F/\nx'=nx,⟨n.toNat,?_⟩,?_⟩
 ·refine aV (e0:=HF l.length c a b n 0) (o0:=aq 1 (flat aW.fl l)) (n0:=nx) hF ⟨0,0,rfl,Nat.zero_le _,rfl,rfl,rfl,rfl⟩ ?_ (aE (aC _ _)) (ah _);unfold HF;refine ae.2 ⟨bE hF.1 rfl,?_⟩;exact xE
 rintro q e h nx' ⟨i,j,hj,hi,rfl,rfl,rfl,rfl⟩;have sl:=gV l a.toNat b.toNat i;have nxt:mL l a.toNat b.toNat (i+1)=lH (mL l a.toNat b.toNat i) (a.toNat+i) (b.toNat+i):=rfl;generalize hs0:mL l a.toNat b.toNat i=L at sl nxt;have hl1:(flat aW.fl L).length=L.length:=(by rw[aO];exact Nat.mul_one _);unfold HF;((conv=>whnf);apply bm<;>intro h1);rotate_left
 ·have hge:i=n.toNat:=(by simp[aB,aF]at h1;omega);(conv=>whnf);exact⟨rfl,by rw[<- hs0,hge]⟩
 have hlt:i<n.toNat:=(by simp[aB,aF]at h1;omega);have cO:=HZ (L:=L) (x:=a.toNat+i) (y:=b.toNat+i) (o1:=0+(a+j).toNat*1) (o2:=0+(b+j).toNat*1) aa aa aa aa
 repeat' first
  |(((conv=>whnf);apply bm<;>intro g))
  |((conv=>whnf)
    refine fD (dY L (i:=a.toNat+i) aa ?_) ?_
    ·show _+Int.toNat (a+j)*1=_;omega)
  |((conv=>whnf)
    refine fD (dY L (i:=b.toNat+i) aa ?_) ?_
    ·show _+Int.toNat (b+j)*1=_;omega)
 all_goals first
  |(exfalso;simp[aB,aF,aN]at g;omega)
  |(have g:(0+(a+j).toNat*1+1).ble (flat aW.fl L).length=false:=g
    rw[hl1]at g;exact eD g aa)
  |(have g:(0+(b+j).toNat*1+1).ble (bU (flat aW.fl L) (0+(a+j).toNat*1) [iv (aG L (b.toNat+i))]).length=false:=g
    rw[cG (by rw[hl1];show 0+(a+j).toNat*1+1<=L.length;omega),hl1]at g;exact eD g aa)
  |skip
 (conv=>whnf);refine⟨n.toNat - (i+1),aa,?_⟩;refine aV (e0:=HF l.length c a b n (j+1)) (o0:=aq 1 (flat aW.fl (lH L (a.toNat+i) (b.toNat+i)))) (n0:=nx') hF ⟨i+1,j+1,aa,aa,rfl,rfl,by rw[nxt],rfl⟩ ?_ (aK (aC _ _) cO) (ah _);unfold HF;refine ae.2 ⟨bE hF.1 rfl,?_⟩;exact xE
end Go.Aw
end
