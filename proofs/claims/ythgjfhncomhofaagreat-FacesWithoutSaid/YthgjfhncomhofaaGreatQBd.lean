/-
  Parts of a proof. No condition.
-/
import Derived.Test.YthgjfhncomhofaaGreatQAp
import Derived.Test.YthgjfhncomhofaaGreatQAq
import Derived.Test.YthgjfhncomhofaaGreatQBb
import Derived.Test.YthgjfhncomhofaaGreatQBc
set_option linter.unusedSimpArgs false
set_option linter.unusedVariables false
noncomputable section
namespace Go.Aw
open Proofs
set_option maxRecDepth 100000
set_option maxHeartbeats 4000000
def chV (p q r o:Value)(e:Int):Value:=.tuple #[.agg #[p,q,r,o],iv e]
def rD:bV:=aq 1 [aI,aI,iv 0,aI]
def EG (l:List Pt)(m:List Ed)(n ln:Int)(c1 c2:Nat):Heap:=[(0,au 1 [iv ln]),(1,av 1 [ak 2 l.length c1,ak 3 m.length c2,iv n]),(2,au 2 (flat aX.fl l)),(3,au 5 (flat bS.fl m))]
def kW (l:List Pt)(m:List Ed)(n ln:Int)(c1 c2:Nat)(one:List Int):Heap:=(6,aq 1 (flat aW.fl one))::(5,rD)::EG l m n ln c1 c2
def aNf (N:Nat)(j:Int):List (Nat × Value):=[(1,pV 0),(2,pV 1),(4,pV 5),(6,bX 6 N),(35,iv N),(36,iv j)]
def QF (N E c2:Nat)(v:Value)(j:Int):List (Nat × Value):=[(1,pV 0),(2,pV 1),(4,pV 5),(6,bX 6 N),(8,v),(45,ak 3 E c2),(46,iv E),(47,iv j)]
def aJQ (N E c2:Nat)(v:Value)(j a b x:Int):List (Nat × Value):=(11,iv a)::(12,iv b)::(77,iv N)::(78,iv x)::QF N E c2 v j
def rK (l:List Pt)(m:List Ed)(n ln:Int)(c1 c2:Nat)(one:List Int)(P:List gC):Heap:=(7,aq 6 (flat DM.fl P))::kW l m n ln c1 c2 one
def HQ (l:List Pt)(m:List Ed)(n ln:Int)(c1 c2:Nat)(one:List Int)(P:List gC)(now:List Int):Heap:=(12,aq 1 (flat aW.fl now))::(11,aq 1 [bX 8 (aQ P).length,bX 9 (aR P).length,iv (bG (aQ P) (aR P)).many])::(8,aq 2 (flat aX.fl (aQ P)))::(9,aq 5 (flat bS.fl (lQ P)))::(10,aq 1 (flat aW.fl (cL P)))::rK l m n ln c1 c2 one P
def aLl (N:Nat)(P:List gC)(j:Int):List (Nat × Value):=[(2,pV 1),(4,pV 5),(6,bX 6 N),(8,bX 7 P.length),(14,pV 11),(17,bX 12 N),(113,bX 10 P.length),(114,iv P.length),(115,iv j)]
def aNO (N:Nat)(j:Int):List (Nat × Value):=[(4,pV 5),(6,bX 6 N),(14,pV 11),(17,bX 12 N),(21,bX 13 N),(161,iv N),(162,iv j)]
def aMT (e:Int):Value:=chV aI aI (iv 0) aI e
def vW (P:List gC)(N:Nat):Value:=chV (bX 8 (aQ P).length) (bX 9 (aR P).length) (iv (bG (aQ P) (aR P)).many) (bX 13 N) 0
def hW (P:List gC)(out:List Int):Heap:=[(8,aq 2 (flat aX.fl (aQ P))),(9,aq 5 (flat bS.fl (lQ P))),(13,aq 1 (flat aW.fl out))]
def aQp (l:List Pt)(m:List Ed)(ln:Int)(N:Nat):KE:=fun v h nx=>(GL l m ln≠0/\v=aMT (GL l m ln))\/(GL l m ln=0/\BX (vW (cY l m ln) N) (hW (cY l m ln) (wtO l m ln N)) 14 v h nx)
theorem aAv {l:List Pt}{m:List Ed}{ln:Int}(h:ln<0\/200<=ln):GL l m ln=1:=if_pos h
theorem aP7 {l:List Pt}{m:List Ed}{ln:Int}(h:¬(ln<0\/200<=ln))(h2:(cY l m ln).length=m.length):GL l m ln=5:=by
 unfold GL;rw[if_neg h,if_pos h2]
theorem aEy {l:List Pt}{m:List Ed}{ln:Int}(h:¬(ln<0\/200<=ln))(h2:(cY l m ln).length≠m.length)(h3:CM (cY l m ln)≠0):GL l m ln=20:=by
 unfold GL;rw[if_neg h,if_neg h2,if_pos h3]
theorem aPR {l:List Pt}{m:List Ed}{ln:Int}(h:¬(ln<0\/200<=ln))(h2:(cY l m ln).length≠m.length)(h3:CM (cY l m ln)=0):GL l m ln=0:=by
 unfold GL;rw[if_neg h,if_neg h2,if_neg (by rw[h3];decide)]
theorem IG {l:List Pt}{m:List Ed}{ln:Int}{i:Nat}(h:(aU m i).n=ln):BV l m ln (i+1)=BV l m ln i:=if_pos h
theorem uK {l:List Pt}{m:List Ed}{ln:Int}{i:Nat}(h:¬(aU m i).n=ln):BV l m ln (i+1)=BV l m ln i++[UF (bB l m i) (aU m i).n i]:=if_neg h
theorem aAI {m:List Ed}{ln:Int}{N i:Nat}(h:¬(aU m i).n=ln):bW m ln N (i+1)=bW m ln N i:=if_neg h
theorem w47 (l:List Pt)(m:List Ed)(n ln:Int)(c1 c2 N:Nat)(hM:jS l m=true)(hm:1<=m.length/\m.length<=400)(hn:0<=n/\n<=1000)(hN:N=(n+1).toNat)(hF:∀ i,i<m.length->(0<=(aU m i).l/\(aU m i).l<=n)/\(0<=(aU m i).r/\(aU m i).r<=n))
  (hO:∀ i,i<=m.length->∀ f,f<N->0<=aG (bW m ln N i) f/\aG (bW m ln N i) f<N) (hA:1<=(cY l m ln).length->okA (cY l m ln)) (hfm:∀ i,i<(cY l m ln).length->0<=(gF (cY l m ln) i).fm/\(gF (cY l m ln) i).fm<m.length)
  (hord:∀ i,i<(cY l m ln).length->0<=aG (cL (cY l m ln)) i/\aG (cL (cY l m ln)) i<(cY l m ln).length) :
  body [X50,X48,XE] 47 [pV 4,pV 0,pV 1] (EG l m n ln c1 c2) 5 (aQp l m ln N):=by
 subst hN;unfold EG;((conv=>whnf);apply bm<;>intro a1);rotate_left
 ·have a1:ln<0:=(by simp[aB,aF]at a1;omega);(conv=>whnf);exact .inl ⟨by rw[aAv (.inl a1)];decide,by rw[aAv (.inl a1)];rfl⟩
 have a1:¬ ln<0:=(by simpa[aB,aF]using a1);((conv=>whnf);apply bm<;>intro a2)
 ·have a2:200<=ln:=(by simpa[aB,aF]using a2);(conv=>whnf);exact .inl ⟨by rw[aAv (.inr a2)];decide,by rw[aAv (.inr a2)];rfl⟩
 have a2:¬ 200<=ln:=(by simp[aB,aF]at a2;omega);have hln:¬(ln<0\/200<=ln):=aa;(conv=>whnf);refine bt ?_;(conv=>whnf);refine bt ?_;(conv=>whnf);refine⟨fun q e h nx=>∃(i:Nat) (j:Int),j=i/\i<=(n+1).toNat/\q=(n+1).toNat - i/\e=aNf (n+1).toNat j/\h=kW l m n ln c1 c2 (sR (n+1).toNat i)/\nx=7,⟨(n+1).toNat,?_⟩,?_⟩
 ·refine aJ (h0:=kW l m n ln c1 c2 (sR (n+1).toNat 0)) (n0:=7) ⟨0,0,rfl,Nat.zero_le _,rfl,rfl,rfl,rfl⟩ (hh:=?_)
  ·(unfold kW EG rD;try unfold bX;try unfold aI)
   refine ae.2 ⟨⟨ab,_,rfl,aK (aC _ _) ?_⟩,?_⟩
   ·show rep (n+1).toNat [iv 0]=_;rw[EY,aGp]
   exact xH
 rintro q e h nx ⟨i,j,hj,hi,rfl,rfl,rfl,rfl⟩;have hxl:(sR (n+1).toNat i).length=(n+1).toNat:=WD _ _
 (unfold aNf kW EG rD;try unfold bX;try unfold aI)
 ((conv=>whnf);apply bm<;>intro h1)
 ·have hlt:i<(n+1).toNat:=by simp[aB,aF]at h1;omega
  repeat' first
   |(((conv=>whnf);apply bm<;>intro g))
  all_goals first
   |(exfalso;simp[aB,aF,aN]at g;omega)
   |(exfalso
     have hb:Nat.ble (0+Int.toNat j*1+1) (flat aW.fl (sR (n+1).toNat i)).length=true:=Nat.ble_eq_true_of_le (by rw[aO,hxl];show _<=(n+1).toNat*1;omega);exact Bool.false_ne_true (g.symm.trans hb))
   |skip
  (conv=>whnf);refine⟨(n+1).toNat - (i+1),aa,?_⟩;refine aJ (e0:=aNf (n+1).toNat (j+1)) (h0:=kW l m n ln c1 c2 (sR (n+1).toNat (i+1))) (n0:=7) ⟨i+1,_,aa,aa,rfl,rfl,rfl,rfl⟩ (hh:=?_)
  ·(unfold kW EG rD;try unfold bX;try unfold aI)
   refine ae.2 ⟨⟨ab,_,rfl,aK (aC _ _) ?_⟩,?_⟩
   ·show bU (flat aW.fl (sR (n+1).toNat i)) (0+Int.toNat j*1) [iv j]=_;rw[(aa:0+Int.toNat j*1=i*1),gB _ _ _ (by rw[hxl];exact hlt),aFA hlt,hj]
   exact xH
 have hge:i=(n+1).toNat:=(by simp[aB,aF]at h1;omega);(conv=>whnf);refine⟨fun q e h nx=>∃(i:Nat) (j:Int),j=i/\i<=m.length/\q=m.length - i/\(((BV l m ln i).length=0/\e=QF (n+1).toNat m.length c2 aI j/\h=kW l m n ln c1 c2 (bW m ln (n+1).toNat i)/\nx=7)\/(∃ k P,k=P.length/\0<k/\P=BV l m ln i/\e=QF (n+1).toNat m.length c2 (bX 7 k) j/\h=rK l m n ln c1 c2 (bW m ln (n+1).toNat i) P/\nx=8)),⟨m.length,?_⟩,?_⟩
 ·refine aJ (h0:=kW l m n ln c1 c2 (bW m ln (n+1).toNat 0)) (n0:=7) ⟨0,0,rfl,Nat.zero_le _,rfl,.inl ⟨rfl,rfl,rfl,rfl⟩⟩ (hh:=?_)
  ·rw[hge,aFE]
   (unfold kW EG rD;try unfold bX;try unfold aI;unfold bW);exact xH
 clear hj hi hxl h1 hge;rintro q e h nx ⟨i,j,hj,hi,rfl,⟨hP0,rfl,rfl,rfl⟩|⟨k,P,hk,hk0,hP,rfl,rfl,rfl⟩⟩
 ·have hk:True:=trivial;have k:Nat:=0;have hkb:True:=trivial;have hOl:=rC m ln (n+1).toNat i;have hOi:=hO i hi
  (unfold QF kW EG rD;try unfold bX;try unfold aI)
  ((conv=>whnf);apply bm<;>intro h1);rotate_left
  ·have hge:i=m.length:=(by simp[aB,aF]at h1;omega);subst hge;have hPe:cY l m ln=[]:=List.eq_nil_of_length_eq_zero hP0;((conv=>whnf);apply bm<;>intro b1)
   ·exfalso;simp[aB,aF]at b1;omega
   (conv=>whnf);refine .inr ⟨aI,rfl,⟨rfl,rfl,rfl⟩,?_⟩;(conv=>whnf);have e20:GL l m ln=20:=aEy hln (by rw[hPe];show 0≠_;omega) (by rw[hPe];decide);exact .inl ⟨by rw[e20];decide,by rw[e20];rfl⟩
  have hlt:i<m.length:=(by simp[aB,aF]at h1;omega);have ej:j.toNat=i:=aa;have hfi:=hF i hlt;(conv=>whnf);(conv=>whnf);refine bt ?_;(conv=>whnf);refine eZ (BE m (i:=i) aa (by show _+Int.toNat j*5=_;omega)) ?_;((conv=>whnf);apply bm<;>intro h3)
  ·have hne:¬(aU m i).n=ln:=(by simpa[aB,aF]using h3);(conv=>whnf);refine⟨l,m,aP aX rfl,aP bS rfl,?_⟩;refine aM (show(jS l m&&(decide (0<=j)&&decide (j<m.length)))=true by rw[hM,ai (aa:0<=j),ai (aa:j<m.length)];rfl) ?_
   repeat' first
    |((conv=>whnf)
      refine YX (k:=k) ?_)
    |(((conv=>whnf);apply bm<;>intro g))
   all_goals first
    |(exfalso;simp[aB,aF,aN]at g;omega)
    |exact iP (by rw[aO,<- hk];rfl) aa g
    |skip
   (conv=>whnf);refine⟨m.length - (i+1),aa,?_⟩;refine bC (e0:=QF (n+1).toNat m.length c2 (bX 7 1) (j+1)) (h0:=rK l m n ln c1 c2 (bW m ln (n+1).toNat (i+1)) (BV l m ln (i+1))) (n0:=8) [(7,9)] ⟨i+1,j+1,aa,aa,rfl,.inr ⟨_,_,by rw[uK hne,List.length_append,hP0];rfl,aa,rfl,rfl,rfl,rfl⟩⟩ (hh:=?_)
   ·(unfold rK kW EG rD;try unfold bX;try unfold aI)
    refine ae.2 ⟨⟨ab,_,rfl,aK (aC _ _) ?_⟩,ae.2 ⟨⟨ab,_,rfl,aK (aC _ _) (by rw[aAI hne])⟩,?_⟩⟩
    ·subst hj;rw[uK hne,List.eq_nil_of_length_eq_zero hP0];rfl
    exact xH
  have hne:(aU m i).n=ln:=by simpa[aB,aF]using h3
  repeat' first
   |(((conv=>whnf);apply bm<;>intro g))
   |((conv=>whnf)
     refine fD (dY (bW m ln (n+1).toNat i) (i:=(aU m i).l.toNat) aa ?_) ?_
     ·show _+Int.toNat (aU m i).l*1=_;omega)
   |((conv=>whnf)
     refine fD (dY (bW m ln (n+1).toNat i) (i:=(aU m i).r.toNat) aa ?_) ?_
     ·show _+Int.toNat (aU m i).r*1=_;omega)
  all_goals first
   |(exfalso;simp[aB,aF,aN]at g;omega)
   |skip
  (conv=>whnf);refine⟨fun q e h nx=>∃(f:Nat) (x:Int),x=f/\f<=(n+1).toNat/\q=(n+1).toNat - f/\e=aJQ (n+1).toNat m.length c2 aI j (aG (bW m ln (n+1).toNat i) (aU m i).l.toNat) (aG (bW m ln (n+1).toNat i) (aU m i).r.toNat) x/\h=kW l m n ln c1 c2 (jT (bW m ln (n+1).toNat i) (aG (bW m ln (n+1).toNat i) (aU m i).l.toNat) (aG (bW m ln (n+1).toNat i) (aU m i).r.toNat) f)/\nx=7,⟨(n+1).toNat,?_⟩,?_⟩
  ·exact aJ (h0:=kW l m n ln c1 c2 (jT (bW m ln (n+1).toNat i) (aG (bW m ln (n+1).toNat i) (aU m i).l.toNat) (aG (bW m ln (n+1).toNat i) (aU m i).r.toNat) 0)) (n0:=7) ⟨0,0,rfl,Nat.zero_le _,rfl,rfl,rfl,rfl⟩
  rintro q e h nx ⟨f,x,hx,hf,rfl,rfl,rfl,rfl⟩;have hml:=tU (bW m ln (n+1).toNat i) (aG (bW m ln (n+1).toNat i) (aU m i).l.toNat) (aG (bW m ln (n+1).toNat i) (aU m i).r.toNat) f;rw[hOl]at hml;have hmn:jT (bW m ln (n+1).toNat i) (aG (bW m ln (n+1).toNat i) (aU m i).l.toNat) (aG (bW m ln (n+1).toNat i) (aU m i).r.toNat) (f+1)=_:=rfl;have hon:bW m ln (n+1).toNat (i+1)=jT (bW m ln (n+1).toNat i) (aG (bW m ln (n+1).toNat i) (aU m i).l.toNat) (aG (bW m ln (n+1).toNat i) (aU m i).r.toNat) (n+1).toNat:=if_pos hne;generalize aG (bW m ln (n+1).toNat i) (aU m i).l.toNat=a at *;generalize aG (bW m ln (n+1).toNat i) (aU m i).r.toNat=b at *
  (unfold aJQ QF kW EG rD;try unfold bX;try unfold aI)
  ((conv=>whnf);apply bm<;>intro k1);rotate_left
  ·have hfe:f=(n+1).toNat:=(by simp[aB,aF]at k1;omega);(conv=>whnf);refine bt ?_;(conv=>whnf);refine⟨m.length - (i+1),aa,?_⟩;refine aJ (h0:=kW l m n ln c1 c2 (bW m ln (n+1).toNat (i+1))) (n0:=7) ⟨i+1,j+1,aa,aa,rfl,.inl ⟨by rw[IG hne];exact hP0,rfl,rfl,rfl⟩⟩ (hh:=?_)
   ·rw[hon,<- hfe]
    (unfold kW EG rD;try unfold bX;try unfold aI);exact xH
  have hfl:f<(n+1).toNat:=(by simp[aB,aF]at k1;omega);(conv=>whnf);refine bt ?_;(conv=>whnf);refine fD (dY (jT (bW m ln (n+1).toNat i) a b f) (i:=f) aa (by show _+Int.toNat x*1=_;omega)) ?_;((conv=>whnf);apply bm<;>intro k3);rotate_left
  ·have k3:¬ aG (jT (bW m ln (n+1).toNat i) a b f) f=b:=(by simpa[aB,aF]using k3);(conv=>whnf);refine bt ?_;(conv=>whnf);refine⟨(n+1).toNat - (f+1),aa,?_⟩;refine aJ (h0:=kW l m n ln c1 c2 (jT (bW m ln (n+1).toNat i) a b (f+1))) (n0:=7) ⟨f+1,x+1,aa,aa,rfl,rfl,rfl,rfl⟩ (hh:=?_)
   ·rw[jT,if_neg k3]
    (unfold kW EG rD;try unfold bX;try unfold aI);exact xH
  have k3:aG (jT (bW m ln (n+1).toNat i) a b f) f=b:=(by simpa[aB,aF]using k3);rw[jT,if_pos k3]at hmn
  repeat' first
   |(((conv=>whnf);apply bm<;>intro g))
  all_goals first
   |(exfalso;simp[aB,aF,aN]at g;omega)
   |(exfalso
     have hb:Nat.ble (0+Int.toNat x*1+1) (flat aW.fl (jT (bW m ln (n+1).toNat i) a b f)).length=true:=Nat.ble_eq_true_of_le (by rw[aO,hml];show _<=(n+1).toNat*1;omega);exact Bool.false_ne_true (g.symm.trans hb))
   |skip
  (conv=>whnf);refine⟨(n+1).toNat - (f+1),aa,?_⟩;refine aJ (h0:=kW l m n ln c1 c2 (jT (bW m ln (n+1).toNat i) a b (f+1))) (n0:=7) ⟨f+1,x+1,aa,aa,rfl,rfl,rfl,rfl⟩ (hh:=?_)
  ·(unfold kW EG rD;try unfold bX;try unfold aI)
   refine ae.2 ⟨⟨ab,_,rfl,aK (aC _ _) ?_⟩,?_⟩
   ·show bU (flat aW.fl (jT (bW m ln (n+1).toNat i) a b f)) (0+Int.toNat x*1) [iv a]=_;rw[(aa:0+Int.toNat x*1=f*1),gB _ _ _ aa,jT,if_pos k3]
   exact xH
 skip
 have hkb:k<=i:=(by rw[hk,hP];exact MW l m ln i);have hOl:=rC m ln (n+1).toNat i;have hOi:=hO i hi
 (unfold QF rK kW EG rD;try unfold bX;try unfold aI)
 ((conv=>whnf);apply bm<;>intro h1)
 ·have hlt:i<m.length:=(by simp[aB,aF]at h1;omega);have ej:j.toNat=i:=aa;have hfi:=hF i hlt;(conv=>whnf);(conv=>whnf);refine bt ?_;(conv=>whnf);refine eZ (BE m (i:=i) aa (by show _+Int.toNat j*5=_;omega)) ?_;((conv=>whnf);apply bm<;>intro h3)
  ·have hne:¬(aU m i).n=ln:=(by simpa[aB,aF]using h3);(conv=>whnf);refine⟨l,m,aP aX rfl,aP bS rfl,?_⟩;refine aM (show(jS l m&&(decide (0<=j)&&decide (j<m.length)))=true by rw[hM,ai (aa:0<=j),ai (aa:j<m.length)];rfl) ?_
   repeat' first
    |((conv=>whnf)
      refine YX (k:=k) ?_)
    |(((conv=>whnf);apply bm<;>intro g))
   all_goals first
    |(exfalso;simp[aB,aF,aN]at g;omega)
    |exact iP (by rw[aO,<- hk];rfl) aa g
    |skip
   (conv=>whnf);refine⟨m.length - (i+1),aa,?_⟩;refine bC (e0:=QF (n+1).toNat m.length c2 (bX 7 (k+1)) (j+1)) (h0:=rK l m n ln c1 c2 (bW m ln (n+1).toNat (i+1)) (BV l m ln (i+1))) (n0:=8) [(7,10)] ⟨i+1,j+1,aa,aa,rfl,.inr ⟨_,_,by rw[uK hne,<- hP,List.length_append,<- hk];rfl,aa,rfl,rfl,rfl,rfl⟩⟩ (hh:=?_)
   ·(unfold rK kW EG rD;try unfold bX;try unfold aI)
    refine ae.2 ⟨⟨ab,_,rfl,aK (aC _ _) ?_⟩,ae.2 ⟨⟨ab,_,rfl,aK (aC _ _) (by rw[aAI hne])⟩,?_⟩⟩
    ·rw[uK hne,<- hP];have hg:=cT DM P (UF (bB l m i) (aU m i).n i) (n:=k) hk;subst hj;rw[<- hg];rfl
    exact xH
  have hne:(aU m i).n=ln:=by simpa[aB,aF]using h3
  repeat' first
   |(((conv=>whnf);apply bm<;>intro g))
   |((conv=>whnf)
     refine fD (dY (bW m ln (n+1).toNat i) (i:=(aU m i).l.toNat) aa ?_) ?_
     ·show _+Int.toNat (aU m i).l*1=_;omega)
   |((conv=>whnf)
     refine fD (dY (bW m ln (n+1).toNat i) (i:=(aU m i).r.toNat) aa ?_) ?_
     ·show _+Int.toNat (aU m i).r*1=_;omega)
  all_goals first
   |(exfalso;simp[aB,aF,aN]at g;omega)
   |skip
  (conv=>whnf);refine⟨fun q e h nx=>∃(f:Nat) (x:Int),x=f/\f<=(n+1).toNat/\q=(n+1).toNat - f/\e=aJQ (n+1).toNat m.length c2 (bX 7 k) j (aG (bW m ln (n+1).toNat i) (aU m i).l.toNat) (aG (bW m ln (n+1).toNat i) (aU m i).r.toNat) x/\h=rK l m n ln c1 c2 (jT (bW m ln (n+1).toNat i) (aG (bW m ln (n+1).toNat i) (aU m i).l.toNat) (aG (bW m ln (n+1).toNat i) (aU m i).r.toNat) f) (P)/\nx=8,⟨(n+1).toNat,?_⟩,?_⟩
  ·exact aJ (h0:=rK l m n ln c1 c2 (jT (bW m ln (n+1).toNat i) (aG (bW m ln (n+1).toNat i) (aU m i).l.toNat) (aG (bW m ln (n+1).toNat i) (aU m i).r.toNat) 0) (P)) (n0:=8) ⟨0,0,rfl,Nat.zero_le _,rfl,rfl,rfl,rfl⟩
  rintro q e h nx ⟨f,x,hx,hf,rfl,rfl,rfl,rfl⟩;have hml:=tU (bW m ln (n+1).toNat i) (aG (bW m ln (n+1).toNat i) (aU m i).l.toNat) (aG (bW m ln (n+1).toNat i) (aU m i).r.toNat) f;rw[hOl]at hml;have hmn:jT (bW m ln (n+1).toNat i) (aG (bW m ln (n+1).toNat i) (aU m i).l.toNat) (aG (bW m ln (n+1).toNat i) (aU m i).r.toNat) (f+1)=_:=rfl;have hon:bW m ln (n+1).toNat (i+1)=jT (bW m ln (n+1).toNat i) (aG (bW m ln (n+1).toNat i) (aU m i).l.toNat) (aG (bW m ln (n+1).toNat i) (aU m i).r.toNat) (n+1).toNat:=if_pos hne;generalize aG (bW m ln (n+1).toNat i) (aU m i).l.toNat=a at *;generalize aG (bW m ln (n+1).toNat i) (aU m i).r.toNat=b at *
  (unfold aJQ QF rK kW EG rD;try unfold bX;try unfold aI)
  ((conv=>whnf);apply bm<;>intro k1);rotate_left
  ·have hfe:f=(n+1).toNat:=(by simp[aB,aF]at k1;omega);(conv=>whnf);refine bt ?_;(conv=>whnf);refine⟨m.length - (i+1),aa,?_⟩;refine aJ (h0:=rK l m n ln c1 c2 (bW m ln (n+1).toNat (i+1)) (P)) (n0:=8) ⟨i+1,j+1,aa,aa,rfl,.inr ⟨k,P,hk,hk0,by rw[IG hne,hP],rfl,rfl,rfl⟩⟩ (hh:=?_)
   ·rw[hon,<- hfe]
    (unfold rK kW EG rD;try unfold bX;try unfold aI);exact xH
  have hfl:f<(n+1).toNat:=(by simp[aB,aF]at k1;omega);(conv=>whnf);refine bt ?_;(conv=>whnf);refine fD (dY (jT (bW m ln (n+1).toNat i) a b f) (i:=f) aa (by show _+Int.toNat x*1=_;omega)) ?_;((conv=>whnf);apply bm<;>intro k3);rotate_left
  ·have k3:¬ aG (jT (bW m ln (n+1).toNat i) a b f) f=b:=(by simpa[aB,aF]using k3);(conv=>whnf);refine bt ?_;(conv=>whnf);refine⟨(n+1).toNat - (f+1),aa,?_⟩;refine aJ (h0:=rK l m n ln c1 c2 (jT (bW m ln (n+1).toNat i) a b (f+1)) (P)) (n0:=8) ⟨f+1,x+1,aa,aa,rfl,rfl,rfl,rfl⟩ (hh:=?_)
   ·rw[jT,if_neg k3]
    (unfold rK kW EG rD;try unfold bX;try unfold aI);exact xH
  have k3:aG (jT (bW m ln (n+1).toNat i) a b f) f=b:=(by simpa[aB,aF]using k3);rw[jT,if_pos k3]at hmn
  repeat' first
   |(((conv=>whnf);apply bm<;>intro g))
  all_goals first
   |(exfalso;simp[aB,aF,aN]at g;omega)
   |(exfalso
     have hb:Nat.ble (0+Int.toNat x*1+1) (flat aW.fl (jT (bW m ln (n+1).toNat i) a b f)).length=true:=Nat.ble_eq_true_of_le (by rw[aO,hml];show _<=(n+1).toNat*1;omega);exact Bool.false_ne_true (g.symm.trans hb))
   |skip
  (conv=>whnf);refine⟨(n+1).toNat - (f+1),aa,?_⟩;refine aJ (h0:=rK l m n ln c1 c2 (jT (bW m ln (n+1).toNat i) a b (f+1)) (P)) (n0:=8) ⟨f+1,x+1,aa,aa,rfl,rfl,rfl,rfl⟩ (hh:=?_)
  ·(unfold rK kW EG rD;try unfold bX;try unfold aI)
   refine ae.2 ⟨⟨ab,_,rfl,aE (aC _ _)⟩,ae.2 ⟨⟨ab,_,rfl,aK (aC _ _) ?_⟩,?_⟩⟩
   ·show bU (flat aW.fl (jT (bW m ln (n+1).toNat i) a b f)) (0+Int.toNat x*1) [iv a]=_;rw[(aa:0+Int.toNat x*1=f*1),gB _ _ _ aa,jT,if_pos k3]
   exact xH
 have hge:i=m.length:=(by simp[aB,aF]at h1;omega);subst hge;have hPe:P=cY l m ln:=hP;clear hP;subst hPe;subst hk;have hasm:CM (cY l m ln)=oQ (cY l m ln):=if_neg aa;((conv=>whnf);apply bm<;>intro b1)
 ·have e5:GL l m ln=5:=aP7 hln (by simp[aB,aF]at b1;omega);(conv=>whnf);exact .inl ⟨by rw[e5];decide,by rw[e5];rfl⟩
 have hlen:(cY l m ln).length≠m.length:=(by simp[aB,aF]at b1;omega);(conv=>whnf);refine .inl ⟨cY l m ln,_,rfl,aP DM rfl,⟨aa,aa⟩,hA aa,?_⟩;by_cases hz:oQ (cY l m ln)=0
 ·refine .inr ⟨hz,?_⟩;have e0:GL l m ln=0:=aPR hln hlen (by rw[hasm,hz]);generalize hPg:cY l m ln=P at *;generalize hOg:bW m ln (n+1).toNat m.length=O at *;have hOrd:=gU P;have hEF:=JX P;(conv=>whnf);refine bu fun b2=>?_;(conv=>whnf);refine bu fun b3=>?_;(conv=>whnf);refine⟨fun q e h nx=>∃(i:Nat) (j:Int),j=i/\i<=P.length/\q=P.length - i/\e=aLl (n+1).toNat P j/\h=HQ l m n ln c1 c2 O P (BI O m (lQ P) P (cL P) (n+1).toNat i)/\nx=13,⟨P.length,?_⟩,?_⟩
  ·have hfl:∀{α:Type} (E:El α) (x:List α),(flat E.fl x).map (cB fun k=>8+k)=flat E.fl x:=fun E x=>bK (aC E x);refine bC (h0:=HQ l m n ln c1 c2 O P (BI O m (lQ P) P (cL P) (n+1).toNat 0)) (n0:=13) [] ⟨0,0,rfl,Nat.zero_le _,rfl,rfl,rfl,rfl⟩ (hh:=?_)
   ·(unfold HQ rK kW EG rD;try unfold bX;try unfold aI)
    refine ae.2 ⟨⟨ab,_,rfl,aK (aC aW _) ?_⟩,?_⟩
    ·show rep (n+1).toNat [iv 0]=_;rw[EY,aLT]
    refine ae.2 ⟨?_,ae.2 ⟨⟨ab,_,rfl,aK (aC aX _) (hfl aX _)⟩,ae.2 ⟨⟨ab,_,rfl,aK (aC bS _) (hfl bS _)⟩,ae.2 ⟨⟨ab,_,rfl,aK (aC aW _) (hfl aW _)⟩,?_⟩⟩⟩⟩
    ·exact⟨ab,_,rfl,rfl,rfl,rfl,rfl,ae.2 ⟨⟨by decide,fun h=>by cases h⟩,ae.2 ⟨⟨by decide,fun h=>by cases h⟩,ae.2 ⟨bM rfl,fun _ h=>(by cases h)⟩⟩⟩⟩
    exact xH
  clear b1 b2 b3;rintro q e h nx ⟨i,j,hj,hi,rfl,rfl,rfl,rfl⟩;have hnl:=KF O m (lQ P) P (cL P) (n+1).toNat i;have hOl:O.length=(n+1).toNat:=(by rw[<- hOg];exact rC _ _ _ _);have hOi:∀ f,f<(n+1).toNat->0<=aG O f/\aG O f<((n+1).toNat:Nat):=fun f hf=>by rw[<- hOg];exact hO m.length (ah _) f hf
  (unfold aLl HQ rK kW EG rD;try unfold bX;try unfold aI)
  ((conv=>whnf);apply bm<;>intro h1);rotate_left
  ·have hge:i=P.length:=(by simp[aB,aF]at h1;omega);subst hge;(conv=>whnf);refine bu fun b2=>?_;(conv=>whnf);refine bu fun b3=>?_;(conv=>whnf);generalize hWg:BI O m (lQ P) P (cL P) (n+1).toNat P.length=W at *;refine⟨fun q e h nx=>∃(i:Nat) (j:Int),j=i/\i<=(n+1).toNat/\q=(n+1).toNat - i/\e=aNO (n+1).toNat j/\h=(13,aq 1 (flat aW.fl (FD O W (n+1).toNat i)))::HQ l m n ln c1 c2 O P W/\nx=14,⟨(n+1).toNat,?_⟩,?_⟩
   ·refine aJ (h0:=(13,aq 1 (flat aW.fl (FD O W (n+1).toNat 0)))::HQ l m n ln c1 c2 O P W) (n0:=14) ⟨0,0,rfl,Nat.zero_le _,rfl,rfl,rfl,rfl⟩ (hh:=?_)
    ·(unfold HQ rK kW EG rD;try unfold bX;try unfold aI)
     refine ae.2 ⟨⟨ab,_,rfl,aK (aC aW _) ?_⟩,?_⟩
     ·show rep (n+1).toNat [iv 0]=_;rw[EY,aNj]
     exact xH
   clear hj hi h1 b2 b3;rintro q e h nx ⟨i,j,hj,hi,rfl,rfl,rfl,rfl⟩;have htl:=xA O W (n+1).toNat i
   (unfold aNO HQ rK kW EG rD;try unfold bX;try unfold aI)
   ((conv=>whnf);apply bm<;>intro h1)
   ·have hlt:i<(n+1).toNat:=(by simp[aB,aF]at h1;omega);have hoi:=hOi i hlt
    repeat' first
     |(((conv=>whnf);apply bm<;>intro g))
     |((conv=>whnf)
       refine fD (dY O (i:=i) aa ?_) ?_
       ·show _+Int.toNat j*1=_;omega)
     |((conv=>whnf)
       refine fD (dY W (i:=(aG O i).toNat) aa ?_) ?_
       ·show _+Int.toNat (aG O i)*1=_;omega)
    all_goals first
     |(exfalso;simp[aB,aF,aN]at g;omega)
     |(exfalso
       have hb:Nat.ble (0+Int.toNat j*1+1) (flat aW.fl (FD O W (n+1).toNat i)).length=true:=Nat.ble_eq_true_of_le (by rw[aO,htl];show _<=(n+1).toNat*1;omega);exact Bool.false_ne_true (g.symm.trans hb))
     |skip
    (conv=>whnf);refine⟨(n+1).toNat - (i+1),aa,?_⟩;refine aJ (e0:=aNO (n+1).toNat (j+1)) (h0:=(13,aq 1 (flat aW.fl (FD O W (n+1).toNat (i+1))))::HQ l m n ln c1 c2 O P W) (n0:=14) ⟨i+1,_,aa,aa,rfl,rfl,rfl,rfl⟩ (hh:=?_)
    ·(unfold HQ rK kW EG rD;try unfold bX;try unfold aI)
     refine ae.2 ⟨⟨ab,_,rfl,aK (aC aW _) ?_⟩,?_⟩
     ·show bU (flat aW.fl (FD O W (n+1).toNat i)) (0+Int.toNat j*1) [iv (aG W (aG O i).toNat)]=_;rw[(aa:0+Int.toNat j*1=i*1),gB _ _ _ (by rw[htl];omega),aH6]
     exact xH
   have hge:i=(n+1).toNat:=(by simp[aB,aF]at h1;omega);(conv=>whnf);refine .inr ⟨e0,id,fun t u hu=>?_,fun k o hk=>?_,fun _ _ _ _ _ _ e=>e,fun _ _=>rfl,aa⟩
   ·have hm:=aT hu;simp only[List.mem_cons,List.not_mem_nil,or_false]at hm;injection hm with e1 e2;subst e1 e2;rw[hPg];unfold vW chV;generalize(bG (aQ P) (aR P)).many=x;generalize(aQ P).length=x1;generalize(aR P).length=x2;refine⟨by simp[bX,fJ,tr,eK,cF,eM,j4];rfl,?_⟩;have hsl:∀{q a b:Nat},q<14->wM 14 (.slice (some ⟨q,0,none⟩) a b):=fun{q a b} hq=>⟨hq,fun h=>by cases h⟩;exact ae.2 ⟨ae.2 ⟨hsl aa,ae.2 ⟨hsl aa,ae.2 ⟨bM rfl,ae.2 ⟨hsl aa,fun _ h=>(by cases h)⟩⟩⟩⟩,ae.2 ⟨dH (bM rfl),fun _ h=>(by cases h)⟩⟩
   have hm:=aT hk;unfold hW wtO at hm;rw[hPg,hOg,gU,hWg]at hm;simp only[List.mem_cons,List.not_mem_nil,or_false]at hm;rcases hm with h|h|h
   ·injection h with e1 e2;subst e1 e2;exact⟨aa,_,rfl,aE (aC aX _)⟩
   ·injection h with e1 e2;subst e1 e2;exact⟨aa,_,rfl,aE (aC bS _)⟩
   injection h with e1 e2;subst e1 e2;exact⟨aa,_,rfl,aK (aC aW _) (by rw[hge])⟩
  have hlt:i<P.length:=(by simp[aB,aF]at h1;omega);have ho:=hord i hlt;have hf:=hfm (aG (cL P) i).toNat aa;have hfi:=hF (gF P (aG (cL P) i).toNat).fm.toNat aa;generalize hk1:(aU m (gF P (aG (cL P) i).toNat).fm.toNat).l=fl at hfi;generalize hk2:(aU m (gF P (aG (cL P) i).toNat).fm.toNat).r=fr at hfi;have hol:=hOi fl.toNat aa;have hor:=hOi fr.toNat aa
  repeat' first
   |(((conv=>whnf);apply bm<;>intro g))
   |((conv=>whnf)
     refine fD (dY (cL P) (i:=i) aa ?_) ?_
     ·show _+Int.toNat j*1=_;omega)
   |((conv=>whnf)
     refine fD (WK P (i:=(aG (cL P) i).toNat) (k:=5) aa rfl ?_) ?_
     ·show _+Int.toNat (aG (cL P) i)*6+5=_;omega)
   |((conv=>whnf)
     refine eZ (BE m (i:=(gF P (aG (cL P) i).toNat).fm.toNat) aa ?_) ?_
     ·show _+Int.toNat (gF P (aG (cL P) i).toNat).fm*5=_;omega
     rw[hk1,hk2])
   |((conv=>whnf)
     refine fD (dY O (i:=fl.toNat) aa ?_) ?_
     ·show _+Int.toNat fl*1=_;omega)
   |((conv=>whnf)
     refine fD (dY O (i:=fr.toNat) aa ?_) ?_
     ·show _+Int.toNat fr*1=_;omega)
   |((conv=>whnf)
     refine fD (aOD (lQ P) (i:=i) (k:=2) aa rfl ?_) ?_
     ·show _+Int.toNat j*5+2=_;omega)
   |((conv=>whnf)
     refine fD (aOD (lQ P) (i:=i) (k:=3) aa rfl ?_) ?_
     ·show _+Int.toNat j*5+3=_;omega)
  all_goals first
   |(exfalso;simp[aB,aF,aN]at g;omega)
   |(exfalso;simp[aB,aF,m4]at g;omega)
   |(exfalso
     have hb:Nat.ble (0+Int.toNat (aG O fl.toNat)*1+1) (flat aW.fl (BI O m (lQ P) P (cL P) (n+1).toNat i)).length=true:=Nat.ble_eq_true_of_le (by rw[aO,hnl];show _<=(n+1).toNat*1;omega);exact Bool.false_ne_true (g.symm.trans hb))
   |(exfalso
     have hb:Nat.ble (0+Int.toNat (aG O fr.toNat)*1+1) (bU (flat aW.fl (BI O m (lQ P) P (cL P) (n+1).toNat i)) (0+Int.toNat (aG O fl.toNat)*1) [iv (aU (lQ P) i).l]).length=true:=Nat.ble_eq_true_of_le (by
      rw[cG (by rw[aO,hnl];show 0+Int.toNat (aG O fl.toNat)*1+1<=(n+1).toNat*1;omega),aO,hnl];show _<=(n+1).toNat*1;omega)
     exact Bool.false_ne_true (g.symm.trans hb))
   |skip
  (conv=>whnf);refine⟨P.length - (i+1),aa,?_⟩;refine aJ (e0:=aLl (n+1).toNat P (j+1)) (h0:=HQ l m n ln c1 c2 O P (BI O m (lQ P) P (cL P) (n+1).toNat (i+1))) (n0:=13) ⟨i+1,_,aa,aa,rfl,rfl,rfl,rfl⟩ (hh:=?_)
  ·(unfold HQ rK kW EG rD;try unfold bX;try unfold aI)
   refine ae.2 ⟨⟨ab,_,rfl,aK (aC aW _) ?_⟩,?_⟩
   ·show bU (bU (flat aW.fl (BI O m (lQ P) P (cL P) (n+1).toNat i)) (0+Int.toNat (aG O fl.toNat)*1) [iv (aU (lQ P) i).l]) (0+Int.toNat (aG O fr.toNat)*1) [iv (aU (lQ P) i).r]=_;rw[(aa:0+Int.toNat (aG O fl.toNat)*1=(aG O fl.toNat).toNat*1),(aa:0+Int.toNat (aG O fr.toNat)*1=(aG O fr.toNat).toNat*1),gB _ _ _ (by rw[hnl];omega),gB _ _ _ (by rw[List.length_set,hnl];omega),aFx,hk1,hk2]
   exact xH
 refine .inl ⟨hz,?_⟩;have e20:GL l m ln=20:=aEy hln hlen (by rw[hasm];exact hz);((conv=>whnf);apply bm<;>intro b2)
 ·(conv=>whnf);exact .inl ⟨by rw[e20];decide,by rw[e20];rfl⟩
 exfalso;have b2:(!decide (oQ (cY l m ln)=0))=false:=b2;simp[hz]at b2
set_option maxHeartbeats 2000000
def aHC:Nat × XF:=(63,fun args h nx K=>∃ l m n p q,args=[mapA p q n]/\eY aX h p l/\eY bS h q m/\(l.length<=1000/\m.length<=1000) /\
 ((iY l m n=true/\K (.tuple #[.pointer (some ⟨nx+7,0,none⟩),iv 0]) h (nx+8))\/(iY l m n=false/\K (.tuple #[.pointer none,iv 1]) h nx)))
theorem aS4:c7 Tryz.prog aHC.1 aHC.2:=by
 refine(eJ (S:=fun args0 h0 n0 v1 h1 j=>∃ l m n c1 c2,(l.length<=1000/\m.length<=1000)/\args0=[fH l.length m.length c1 c2 n]/\h0=aS aX bS l m/\n0=2 /\
  ((iY l m n=true/\v1=.tuple #[ao 7,iv 0]/\h1=[]/\j=8)\/(iY l m n=false/\v1=.tuple #[.pointer none,iv 1]/\h1=[]/\j=0))) (aL (xl:=[aBy,XE,aA9,aB4,UG,(127,aMw)]) (.cons aQl (.cons aMZ (.cons aKO (.cons aOC (.cons aLd (.cons aPO .nil))))))) ?_).mono ?_ ?_
 ·rintro args0 h0 n0 v1 h1 j ⟨l,m,n,c1,c2,⟨hl,hm⟩,rfl,rfl,rfl,hc⟩;have hw:=w69 l m n c1 c2 hl hm fun hok=>⟨W9 (cE hok),FA (cE hok),aEK (cE hok),(qG hok).2.2.1⟩;rcases hc with⟨ho,rfl,rfl,rfl⟩|⟨ho,rfl,rfl,rfl⟩
  ·refine⟨rfl,_,hw,fun v h nx e=>?_⟩;rcases e with⟨_,ρ,r⟩|⟨e,_⟩
   ·refine⟨ρ,fun t u hu=>⟨(r.env t u hu).1,?_⟩,fun k o hk=>cA hk,fun k k' o o' hk=>cA hk,fun k hk=>absurd hk (Nat.not_lt_zero k),Nat.zero_le _⟩;have hm:=aT hu;simp only[List.mem_cons,List.not_mem_nil,or_false]at hm;injection hm with e1 e2;subst e1 e2;exact ae.2 ⟨⟨by decide,rfl⟩,ae.2 ⟨dH (bM rfl),fun _ h=>(by cases h)⟩⟩
   rw[ho]at e;cases e
  refine⟨rfl,_,hw,fun v h nx e=>?_⟩;rcases e with⟨e,_⟩|⟨_,rfl⟩
  ·rw[ho]at e;cases e
  exact gM rfl
 ·rintro args h nx K ⟨l,m,n,p,q,rfl,hl,hm,hlm,hx⟩;rcases hx with⟨ho,hx⟩|⟨ho,hx⟩
  ·refine⟨_,_,2,_,[],8,⟨l,m,n,oO p,oO q,hlm,rfl,rfl,rfl,.inl ⟨ho,rfl,rfl,rfl⟩⟩,rQ aX bS rfl hl hm,?_⟩;have e:fJ (fun k=>nx+k) (.tuple #[ao 7,iv 0])=.tuple #[.pointer (some ⟨nx+7,0,none⟩),iv 0]:=(by simp[fJ,tr,eK,cF,eM,j4];rfl);rw[e];exact hx
  refine⟨_,_,2,_,[],0,⟨l,m,n,oO p,oO q,hlm,rfl,rfl,rfl,.inr ⟨ho,rfl,rfl,rfl⟩⟩,rQ aX bS rfl hl hm,?_⟩;simp only[qY,pF,nK,lL,Nat.add_zero];rw[lJ rfl];exact hx
 rintro args h nx K ⟨l,m,n,p,q,rfl,hl,hm,hlm,hx⟩;rcases hx with⟨ho,hx⟩|⟨ho,hx⟩
 ·exact⟨_,_,_,hx,fun K' hk=>⟨l,m,n,p,q,rfl,hl,hm,hlm,.inl ⟨ho,hk⟩⟩⟩
 exact⟨_,_,_,hx,fun K' hk=>⟨l,m,n,p,q,rfl,hl,hm,hlm,.inr ⟨ho,hk⟩⟩⟩
def okW (l:List Pt)(m:List Ed)(n ln:Int):Prop:=jS l m=true/\(1<=m.length/\m.length<=400)/\(0<=n/\n<=1000)/\(∀ i,i<m.length->(0<=(aU m i).l/\(aU m i).l<=n)/\(0<=(aU m i).r/\(aU m i).r<=n)) /\
 (∀ i,i<=m.length->∀ f,f<(n+1).toNat->0<=aG (bW m ln (n+1).toNat i) f/\aG (bW m ln (n+1).toNat i) f<(n+1).toNat)/\(1<=(cY l m ln).length->okA (cY l m ln))/\(∀ i,i<(cY l m ln).length->0<=(gF (cY l m ln) i).fm/\(gF (cY l m ln) i).fm<m.length) /\
 (∀ i,i<(cY l m ln).length->0<=aG (cL (cY l m ln)) i/\aG (cL (cY l m ln)) i<(cY l m ln).length)
def aR3 (a b c d e:Nat):Nat->Nat
 |0=>a
 |1=>b
 |2=>c
 |3=>d
 |_=>e
def aNG (nx:Nat)(P:List gC)(N:Nat):Value:=chV (bX (nx+8) (aQ P).length) (bX (nx+9) (aR P).length) (iv (bG (aQ P) (aR P)).many) (bX (nx+13) N) 0
def X47:Nat × XF:=(47,fun args h nx K=>∃ w lb mb k0 k1 l m n ln c1 c2 wr g sz r0 wr1 g1 sz1 r1 wr2 g2 sz2 cs2 wr3 g3 sz3 cs3,args=[pV w,pV lb,pV mb]/\aw h lb=some (.cells wr g sz (iv ln::r0))/\aw h mb=some (.cells wr1 g1 sz1 (.slice (some ⟨k0,0,none⟩) l.length c1::.slice (some ⟨k1,0,none⟩) m.length c2::iv n::r1)) /\
 (aw h k0=some (.cells wr2 g2 sz2 cs2)/\cs2.take (flat aX.fl l).length=flat aX.fl l)/\(aw h k1=some (.cells wr3 g3 sz3 cs3)/\cs3.take (flat bS.fl m).length=flat bS.fl m)/\okW l m n ln /\
 ((GL l m ln≠0/\K (aMT (GL l m ln)) h nx)\/(GL l m ln=0/\K (aNG nx (cY l m ln) (n+1).toNat) (app (nK nx (hW (cY l m ln) (wtO l m ln (n+1).toNat))) h) (nx+14))))
theorem x47:c7 Tryz.prog X47.1 X47.2:=by
 refine(eJ (S:=fun args0 h0 n0 v1 h1 j=>∃ l m n ln c1 c2,okW l m n ln/\args0=[pV 4,pV 0,pV 1]/\h0=EG l m n ln c1 c2/\n0=5 /\
  ((GL l m ln≠0/\v1=aMT (GL l m ln)/\h1=[]/\j=0)\/(GL l m ln=0/\v1=vW (cY l m ln) (n+1).toNat/\h1=hW (cY l m ln) (wtO l m ln (n+1).toNat)/\j=14))) (aL (xl:=[X50,X48,XE]) (.cons x50 (.cons x48 (.cons aMZ .nil)))) ?_).mono ?_ ?_
 ·rintro args0 h0 n0 v1 h1 j ⟨l,m,n,ln,c1,c2,⟨a1,a2,a3,a4,a5,a6,a7,a8⟩,rfl,rfl,rfl,hc⟩;have hw:=w47 l m n ln c1 c2 _ a1 a2 a3 rfl a4 a5 a6 a7 a8;rcases hc with⟨ho,rfl,rfl,rfl⟩|⟨ho,rfl,rfl,rfl⟩
  ·refine⟨rfl,_,hw,fun v h nx e=>?_⟩;rcases e with⟨_,rfl⟩|⟨e,_⟩
   ·exact gM rfl
   exact absurd e ho
  refine⟨rfl,_,hw,fun v h nx e=>?_⟩;rcases e with⟨e,_⟩|⟨_,e⟩
  ·exact absurd ho e
  exact e
 ·rintro args h nx K ⟨w,lb,mb,k0,k1,l,m,n,ln,c1,c2,wr,g,sz,r0,wr1,g1,sz1,r1,wr2,g2,sz2,cs2,wr3,g3,sz3,cs3,rfl,h1,h2,⟨h3,h3t⟩,⟨h4,h4t⟩,hok,hx⟩;have hi:In [pV 4,pV 0,pV 1] (EG l m n ln c1 c2) 5 [pV w,pV lb,pV mb] h nx:=by
   refine vU (aR3 lb mb k0 k1 w) rfl (ae.2 ⟨n9 rfl,ae.2 ⟨n9 rfl,ae.2 ⟨n9 rfl,fun _ h=>by cases h⟩⟩⟩) fun k o hk=>?_;unfold EG at hk;rw[aD]at hk;split at hk
   ·rename_i hb;injection hk with hk;subst hk;rw[<- az hb]
    exact⟨by decide,true,1,_,rfl,by decide,fun _=>rfl,ae.2 ⟨bM rfl,fun _ h=>by cases h⟩,wr,g,sz,_,h1,rfl⟩
   rw[aD]at hk;split at hk
   ·rename_i hb;injection hk with hk;subst hk;rw[<- az hb]
    refine⟨by decide,false,1,_,rfl,by decide,(fun h=>by cases h),?_,wr1,g1,sz1,_,h2,rfl⟩;exact ae.2 ⟨⟨by decide,fun h=>by cases h⟩,ae.2 ⟨⟨by decide,fun h=>by cases h⟩,ae.2 ⟨bM rfl,fun _ h=>by cases h⟩⟩⟩
   rw[aD]at hk;split at hk
   ·rename_i hb;injection hk with hk;subst hk;rw[<- az hb]
    exact⟨by decide,true,_,_,rfl,aX.pos,fun _=>aC aX l,fun v hv=>bM (a9 (aC aX l) hv),wr2,g2,sz2,cs2,h3,by rw[h3t];exact(bK (aC aX l)).symm⟩
   rw[aD]at hk;split at hk
   ·rename_i hb;injection hk with hk;subst hk;rw[<- az hb]
    exact⟨by decide,true,_,_,rfl,bS.pos,fun _=>aC bS m,fun v hv=>bM (a9 (aC bS m) hv),wr3,g3,sz3,cs3,h4,by rw[h4t];exact(bK (aC bS m)).symm⟩
   exact cA hk
  rcases hx with⟨ho,hx⟩|⟨ho,hx⟩
  ·refine⟨_,_,5,_,[],0,⟨l,m,n,ln,c1,c2,hok,rfl,rfl,rfl,.inl ⟨ho,rfl,rfl,rfl⟩⟩,hi,?_⟩;rw[lJ rfl];exact hx
  refine⟨_,_,5,_,_,_,⟨l,m,n,ln,c1,c2,hok,rfl,rfl,rfl,.inr ⟨ho,rfl,rfl,rfl⟩⟩,hi,?_⟩;have e:fJ (fun k=>nx+k) (vW (cY l m ln) (n+1).toNat)=aNG nx (cY l m ln) (n+1).toNat:=by
   unfold vW aNG chV;generalize(bG (aQ (cY l m ln)) (aR (cY l m ln))).many=x;generalize(aQ (cY l m ln)).length=x1;generalize(aR (cY l m ln)).length=x2;simp[bX,fJ,tr,eK,cF,eM,j4]
   first|rfl|exact⟨rfl,rfl⟩
  rw[e];exact hx
 rintro args h nx K ⟨w,lb,mb,k0,k1,l,m,n,ln,c1,c2,wr,g,sz,r0,wr1,g1,sz1,r1,wr2,g2,sz2,cs2,wr3,g3,sz3,cs3,rfl,h1,h2,h3,h4,hok,hx⟩;rcases hx with⟨ho,hx⟩|⟨ho,hx⟩
 ·exact⟨_,_,_,hx,fun K' hk=>⟨w,lb,mb,k0,k1,l,m,n,ln,c1,c2,wr,g,sz,r0,wr1,g1,sz1,r1,wr2,g2,sz2,cs2,wr3,g3,sz3,cs3,rfl,h1,h2,h3,h4,hok,.inl ⟨ho,hk⟩⟩⟩
 exact⟨_,_,_,hx,fun K' hk=>⟨w,lb,mb,k0,k1,l,m,n,ln,c1,c2,wr,g,sz,r0,wr1,g1,sz1,r1,wr2,g2,sz2,cs2,wr3,g3,sz3,cs3,rfl,h1,h2,h3,h4,hok,.inr ⟨ho,hk⟩⟩⟩
def woC (l:List Pt)(m:List Ed)(n ln:Int):Int:=if iY l m n=true then GL l m ln else 1
def vWo (P:List gC)(N:Nat):Value:=.tuple #[.agg #[bX 0 (aQ P).length,bX 1 (aR P).length,iv (bG (aQ P) (aR P)).many],bX 2 N,iv 0]
def hWo (P:List gC)(out:List Int):Heap:=[(0,aq 2 (flat aX.fl (aQ P))),(1,aq 5 (flat bS.fl (lQ P))),(2,aq 1 (flat aW.fl out))]
def aPw (l:List Pt)(m:List Ed)(n ln:Int):KE:=fun v h nx=>(woC l m n ln≠0/\v=HA (woC l m n ln))\/(woC l m n ln=0/\BX (vWo (cY l m ln) (n+1).toNat) (hWo (cY l m ln) (wtO l m ln (n+1).toNat)) 3 v h nx)
def aPt:Nat->Nat
 |0=>24
 |1=>25
 |2=>29
 |k=>k
theorem w12 (l:List Pt)(m:List Ed)(n ln:Int)(c1 c2:Nat)(hlm:l.length<=1000/\m.length<=1000)(hok:iY l m n=true->okW l m n ln):qI (aOu [aHC,X47] 4) 6 false 12 [fH l.length m.length c1 c2 n,iv ln] (aS aX bS l m) 2 (aPw l m n ln):=by
 (conv=>whnf);refine⟨l,m,n,ak 0 l.length c1,ak 1 m.length c2,rfl,aP aX rfl,aP bS rfl,hlm,?_⟩;cases ho:iY l m n with
 |false =>
  have e1:woC l m n ln=1:=if_neg (by rw[ho];decide);refine .inr ⟨rfl,?_⟩;(conv=>whnf);exact .inl ⟨by rw[e1];decide,by rw[e1];rfl⟩
 |true =>
  have ew:woC l m n ln=GL l m ln:=if_pos ho;refine .inl ⟨rfl,?_⟩;(conv=>whnf);refine⟨_,3,2,0,1,l,m,n,ln,c1,c2,_,_,_,_,_,_,_,_,_,_,_,_,_,_,_,_,rfl,rfl,rfl,⟨rfl,List.take_length⟩,⟨rfl,List.take_length⟩,hok ho,?_⟩;by_cases hz:GL l m ln=0
  ·refine .inr ⟨hz,?_⟩;(conv=>whnf);have hfl:∀{α:Type} (E:El α) (x:List α),(flat E.fl x).map (cB fun k=>16+k)=flat E.fl x:=fun E x=>bK (aC E x);refine .inr ⟨by rw[ew,hz],aPt,fun t u hu=>?_,fun k o hk=>?_,fun k k' o o' hk hk' e=>?_,fun k hk=>absurd hk (Nat.not_lt_zero k),aa⟩
   ·have hm:=aT hu;simp only[List.mem_cons,List.not_mem_nil,or_false]at hm;injection hm with e1 e2;subst e1 e2;unfold vWo;generalize(bG (aQ (cY l m ln)) (aR (cY l m ln))).many=x;generalize(aQ (cY l m ln)).length=x1;generalize(aR (cY l m ln)).length=x2;refine⟨by simp[bX,fJ,tr,eK,cF,eM,j4,aPt];rfl,?_⟩;have hsl:∀{q a b:Nat},q<3->wM 3 (.slice (some ⟨q,0,none⟩) a b):=fun{q a b} hq=>⟨hq,fun h=>by cases h⟩;exact ae.2 ⟨ae.2 ⟨hsl aa,ae.2 ⟨hsl aa,ae.2 ⟨bM rfl,fun _ h=>(by cases h)⟩⟩⟩,ae.2 ⟨hsl aa,ae.2 ⟨dH (bM rfl),fun _ h=>(by cases h)⟩⟩⟩
   ·have hm:=aT hk;unfold hWo at hm;simp only[List.mem_cons,List.not_mem_nil,or_false]at hm;rcases hm with h|h|h
    ·injection h with e1 e2;subst e1 e2;exact⟨aa,_,rfl,aK (aC aX _) (hfl aX _)⟩
    ·injection h with e1 e2;subst e1 e2;exact⟨aa,_,rfl,aK (aC bS _) (hfl bS _)⟩
    injection h with e1 e2;subst e1 e2;exact⟨aa,_,rfl,aK (aC aW _) (hfl aW _)⟩
   have hm:=aT hk;have hm':=aT hk';unfold hWo at hm hm';simp only[List.mem_cons,List.not_mem_nil,or_false]at hm hm';rcases hm with h|h|h <;> rcases hm' with h'|h'|h' <;> (injection h with e1 e2;injection h' with e3 e4;subst e1 e3;first|rfl|(exfalso;revert e;decide))
  refine .inl ⟨hz,?_⟩;((conv=>whnf);apply bm<;>intro g1)
  ·(conv=>whnf);exact .inl ⟨by rw[ew];exact hz,by rw[ew];rfl⟩
  exfalso;have g1:(!decide (GL l m ln=0))=false:=g1;simp[hz]at g1
def aIP (nx:Nat)(P:List gC)(N:Nat):Value:=.tuple #[.agg #[bX nx (aQ P).length,bX (nx+1) (aR P).length,iv (bG (aQ P) (aR P)).many],bX (nx+2) N,iv 0]
def aN3:Nat × XF:=(12,fun args h nx K=>∃ l m n p q ln,args=[mapA p q n,iv ln]/\eY aX h p l/\eY bS h q m/\(l.length<=1000/\m.length<=1000)/\(iY l m n=true->okW l m n ln) /\
 ((woC l m n ln≠0/\K (HA (woC l m n ln)) h nx)\/(woC l m n ln=0/\K (aIP nx (cY l m ln) (n+1).toNat) (app (nK nx (hWo (cY l m ln) (wtO l m ln (n+1).toNat))) h) (nx+3))))
theorem aSM:c7 Tryz.prog aN3.1 aN3.2:=by
 refine(eJ (S:=fun args0 h0 n0 v1 h1 j=>∃ l m n ln c1 c2,(l.length<=1000/\m.length<=1000)/\(iY l m n=true->okW l m n ln)/\args0=[fH l.length m.length c1 c2 n,iv ln]/\h0=aS aX bS l m/\n0=2 /\
  ((woC l m n ln≠0/\v1=HA (woC l m n ln)/\h1=[]/\j=0)\/(woC l m n ln=0/\v1=vWo (cY l m ln) (n+1).toNat/\h1=hWo (cY l m ln) (wtO l m ln (n+1).toNat)/\j=3))) (kA (aIN (xl:=[aHC,X47]) (.cons aS4 (.cons x47 .nil)) 4) 6).1 ?_).mono ?_ ?_
 ·rintro args0 h0 n0 v1 h1 j ⟨l,m,n,ln,c1,c2,hlm,hok,rfl,rfl,rfl,hc⟩;have hw:=w12 l m n ln c1 c2 hlm hok;rcases hc with⟨ho,rfl,rfl,rfl⟩|⟨ho,rfl,rfl,rfl⟩
  ·refine⟨rfl,_,hw,fun v h nx e=>?_⟩;rcases e with⟨_,rfl⟩|⟨e,_⟩
   ·exact gM rfl
   exact absurd e ho
  refine⟨rfl,_,hw,fun v h nx e=>?_⟩;rcases e with⟨e,_⟩|⟨_,e⟩
  ·exact absurd ho e
  exact e
 ·rintro args h nx K ⟨l,m,n,p,q,ln,rfl,hl,hm,hlm,hok,hx⟩;rcases hx with⟨ho,hx⟩|⟨ho,hx⟩
  ·refine⟨_,_,2,_,[],0,⟨l,m,n,ln,oO p,oO q,hlm,hok,rfl,rfl,rfl,.inl ⟨ho,rfl,rfl,rfl⟩⟩,rQ aX bS rfl hl hm,?_⟩;simp only[qY,pF,nK,lL,Nat.add_zero];rw[lJ rfl];exact hx
  refine⟨_,_,2,_,_,_,⟨l,m,n,ln,oO p,oO q,hlm,hok,rfl,rfl,rfl,.inr ⟨ho,rfl,rfl,rfl⟩⟩,rQ aX bS rfl hl hm,?_⟩;have e:fJ (fun k=>nx+k) (vWo (cY l m ln) (n+1).toNat)=aIP nx (cY l m ln) (n+1).toNat:=by
   unfold vWo aIP;generalize(bG (aQ (cY l m ln)) (aR (cY l m ln))).many=x;generalize(aQ (cY l m ln)).length=x1;generalize(aR (cY l m ln)).length=x2;simp[bX,fJ,tr,eK,cF,eM,j4]
   first|rfl|exact⟨rfl,rfl⟩
  rw[e];exact hx
 rintro args h nx K ⟨l,m,n,p,q,ln,rfl,hl,hm,hlm,hok,hx⟩;rcases hx with⟨ho,hx⟩|⟨ho,hx⟩
 ·exact⟨_,_,_,hx,fun K' hk=>⟨l,m,n,p,q,ln,rfl,hl,hm,hlm,hok,.inl ⟨ho,hk⟩⟩⟩
 exact⟨_,_,_,hx,fun K' hk=>⟨l,m,n,p,q,ln,rfl,hl,hm,hlm,hok,.inr ⟨ho,hk⟩⟩⟩
def kpN (m:List Ed)(ln:Int)(i:Nat):List Nat:=(List.range i).filter fun k=>!decide ((aU m k).n=ln)
def ptK (l:List Pt)(m:List Ed)(k:Nat):gC:=⟨(bB l m k).1,(bB l m k).2,(aU m k).n,k⟩
theorem aMU (m:List Ed)(ln:Int)(i:Nat):(kpN m ln i).Pairwise (·<·):=List.Pairwise.filter _ List.pairwise_lt_range
theorem aJ1 {m:List Ed}{ln:Int}{i k:Nat}:k∈kpN m ln i↔k<i/\(aU m k).n≠ln:=by
 unfold kpN;rw[List.mem_filter,List.mem_range];simp
section
variable {l:List Pt}{m:List Ed}{n ln:Int}
theorem aGy (hok:eO l m n=true):∀ i,i<=m.length->BV l m ln i=(kpN m ln i).map (ptK l m)
 |0,_=>rfl
 |i+1,hi=>by
  have ih:=aGy hok i aa;have hs:=(sY hok (i:=i) aa).2;unfold kpN at *;rw[List.range_succ,List.filter_append];by_cases h:(aU m i).n=ln
  ·rw[IG h,ih];simp[h]
  rw[uK h,ih];have e:UF (bB l m i) (aU m i).n i=ptK l m i:=if_neg (by rw[qS hs];decide);rw[e];simp[h]
theorem aBE (hok:eO l m n=true):∀ i,i<=m.length->G6 l m ln i=(BV l m ln i).map HO
 |0,_=>rfl
 |i+1,hi=>by
  have ih:=aBE hok i aa;have hs:=(sY hok (i:=i) aa).2;by_cases h:(aU m i).n=ln
  ·rw[IG h,QN h,ih]
  rw[uK h,JP h,ih,List.map_append];have e:UF (bB l m i) (aU m i).n i=ptK l m i:=if_neg (by rw[qS hs];decide);rw[e];rfl
theorem kZ (hok:eO l m n=true){t:Nat}(ht:t<(cY l m ln).length):∃ k,k<m.length/\(aU m k).n≠ln/\gF (cY l m ln) t=ptK l m k/\(kpN m ln m.length)[t]? = some k:=by
 have e:=aGy (ln:=ln) hok m.length (ah _);have hl:t<(kpN m ln m.length).length:=by
  have:=congrArg List.length e;rw[List.length_map]at this;unfold cY at ht;omega
 have hk:=aJ1.1 (List.getElem_mem hl);refine⟨_,hk.1,hk.2,?_,List.getElem?_eq_getElem hl⟩;unfold cY at ht ⊢;rw[nT ht];simp only[e,List.getElem_map]
theorem ES (hok:eO l m n=true){s t:Nat}(hst:s<t)(ht:t<(cY l m ln).length):(gF (cY l m ln) s).fm<(gF (cY l m ln) t).fm:=by
 obtain⟨a,ha,_,ea,ga⟩:=kZ hok (ln:=ln) (t:=s) aa;obtain⟨b,hb,_,eb,gb⟩:=kZ hok (ln:=ln) ht;rw[ea,eb];show((a:Nat):Int)<((b:Nat):Int);obtain⟨h1,e1⟩:=List.getElem?_eq_some_iff.1 ga;obtain⟨h2,e2⟩:=List.getElem?_eq_some_iff.1 gb;have:=List.pairwise_iff_getElem.1 (aMU m ln m.length) s t h1 h2 hst;rw[e1,e2]at this;omega
theorem RH:(cY l m ln).length<=m.length:=MW l m ln m.length
theorem qR (hp:fE l m n=true)(h1:1<=(cY l m ln).length):Good (cY l m ln):=by
 have hok:=eC hp;obtain⟨hM,h3,h4,h5,h6,_,_⟩:=qG hok;have hle:=RH (l:=l) (m:=m) (ln:=ln);have hpt:∀ k,k<m.length->(bB l m k).1∈l/\(bB l m k).2∈l:=fun k hk=>by
  obtain⟨a1,a2,a3⟩:=yP (cE hok) hk;exact⟨vB (i:=(aU m k).a.toNat) aa,vB (i:=(aU m k).b.toNat) aa⟩
 refine⟨h1,aa,?_,fun k hk=>?_,fun k hk=>?_,fun k hk=>?_,?_⟩
 ·refine List.pairwise_iff_getElem.2 fun i j hi hj hij=>?_;rw[List.length_map]at hi hj;rw[List.getElem_map,List.getElem_map,<- nT hi,<- nT hj];obtain⟨a,ha,_,ea,_⟩:=kZ hok hi;obtain⟨b,hb,_,eb,_⟩:=kZ hok hj;have hlt:=ES hok hij hj;rw[ea,eb]at hlt ⊢;intro e;have:=aAn hp ha hb e;subst this;exact Int.lt_irrefl _ hlt
 ·obtain⟨a,ha,_,ea,_⟩:=kZ hok hk;rw[ea];exact(sY hok ha).2
 ·obtain⟨a,ha,_,ea,_⟩:=kZ hok hk;rw[ea];have:=(sY hok ha).1;simp only[c8,af]at this;exact this.1
 ·obtain⟨a,ha,_,ea,_⟩:=kZ hok hk;rw[ea];simp only[eO,af]at hok;have:=eR hok.2.2.1 ha;simp only[G8,af,ag]at this;exact⟨this.1.1.2,this.1.2⟩
 have hA:=oR h1 (by omega:(cY l m ln).length<=400);have:=List.Nodup.length_le_of_subset hA.1.nodup (l₂:=l) (fun x hx=>by
  obtain⟨k,hk,e⟩:=(hA.2 x).1 hx;obtain⟨a,ha,_,ea,_⟩:=kZ hok hk;rw[ea]at e;rcases e with e|e
  ·rw[e];exact(hpt a ha).1
  rw[e];exact(hpt a ha).2)
 omega
theorem aGm (hp:fE l m n=true){i k:Nat}(hi:i<(cY l m ln).length)(hk:k<(cY l m ln).length)(hne:i≠k):dW (sgT (gF (cY l m ln) i)) (sgT (gF (cY l m ln) k))=0\/dW (sgT (gF (cY l m ln) i)) (sgT (gF (cY l m ln) k))=1:=by
 have hok:=eC hp;obtain⟨a,ha,_,ea,_⟩:=kZ hok hi;obtain⟨b,hb,_,eb,_⟩:=kZ hok hk;have hab:a≠b:=fun e=>by
  subst e;rcases Nat.lt_trichotomy i k with h|h|h
  ·have:=ES hok h hk;rw[ea,eb]at this;exact Int.lt_irrefl _ this
  ·exact hne h
  have:=ES hok h hi;rw[ea,eb]at this;exact Int.lt_irrefl _ this
 rw[ea,eb];exact J5 hp ha hb hab
theorem QL (hp:fE l m n=true)(h1:1<=(cY l m ln).length){i:Nat}(hi:i<(cY l m ln).length):aG (cL (cY l m ln)) i=i:=by
 have hok:=eC hp;have hg:=qR hp h1;have hasc:aDd ((cY l m ln).map HO):=by
  refine List.pairwise_iff_getElem.2 fun i j hi hj hij=>?_;rw[List.length_map]at hi hj;rw[List.getElem_map,List.getElem_map,<- nT hi,<- nT hj];obtain⟨a,ha,_,ea,_⟩:=kZ hok hi;obtain⟨b,hb,_,eb,_⟩:=kZ hok hj;have hlt:=ES hok hij hj;rw[ea,eb]at hlt ⊢;exact aJK (i:=a) (j:=b) hok (by have:((a:Nat):Int)<((b:Nat):Int):=hlt;omega) hb
 have he:LU (cY l m ln)=(cY l m ln).map HO:=aBc (LC hg) hasc (FR hg);have h2:=DJ hi;rw[he]at h2;have h3:atR ((cY l m ln).map HO) i=HO (gF (cY l m ln) i):=by
  rw[nO (by rw[List.length_map];exact hi),List.getElem_map,<- nT hi]
 rw[h3]at h2;have hx:=lP hg hi;obtain⟨a,ha,_,ea,ga⟩:=kZ hok hi;obtain⟨b,hb,_,eb,gb⟩:=kZ hok (ln:=ln) (t:=(aG (cL (cY l m ln)) i).toNat) aa;rw[ea,eb]at h2;have hs:bB l m a=bB l m b:=congrArg Prod.fst h2;have hab:=aAn hp ha hb hs;rcases Nat.lt_trichotomy i (aG (cL (cY l m ln)) i).toNat with h|h|h
 ·have:=ES (ln:=ln) hok h aa;rw[ea,eb,hab]at this;exact absurd this (Int.lt_irrefl _)
 ·omega
 have:=ES (ln:=ln) hok h hi;rw[ea,eb,hab]at this;exact absurd this (Int.lt_irrefl _)
end
def rO (l:List Pt)(m:List Ed)(c1 c2:Nat)(n:Int):Heap:=(3,dK)::cM l m c1 c2 n
def gW (l:List Pt)(m:List Ed)(c1 c2:Nat)(n:Int)(C:List Int):Heap:=(4,aq 1 (flat aW.fl C))::rO l m c1 c2 n
def wO (l:List Pt)(m:List Ed)(c1 c2:Nat)(n:Int)(C:List Int)(P:List Rt):Heap:=(5,aq 5 (flat z9.fl P))::gW l m c1 c2 n C
def aHr (ln:Int)(v:Value)(j:Int):List (Nat × Value):=[(1,iv ln),(2,pV 2),(4,pV 3),(8,aI),(9,v),(10,iv j)]
def EV (ln:Int)(N:Nat)(v:Value)(g j:Int):List (Nat × Value):=[(1,iv ln),(2,pV 2),(4,pV 3),(8,v),(9,bX 4 N),(11,iv g),(12,iv j)]
def aDB (ln:Int)(N:Nat)(v:Value)(g j a b x:Int):List (Nat × Value):=(14,iv a)::(15,iv b)::(16,iv x)::EV ln N v g j
def CJ (l:List Pt)(m:List Ed)(c1 c2:Nat)(n:Int)(C:List Int)(Q:List Pt)(E:List Ed)(F:Int):Heap:=(8,aq 1 [bX 6 Q.length,bX 7 E.length,iv F])::(6,aq 2 (flat aX.fl Q))::(7,aq 5 (flat bS.fl E))::gW l m c1 c2 n C
def sZ (l:List Pt)(m:List Ed)(c1 c2:Nat)(n:Int)(C:List Int)(Q:List Pt)(E:List Ed)(F:Int)(D:List Int):Heap:=(9,aq 1 (flat aW.fl D))::CJ l m c1 c2 n C Q E F
def aHF (N:Nat)(v:Value)(j:Int):List (Nat × Value):=[(2,pV 2),(4,pV 3),(9,bX 4 N),(17,pV 8),(21,v),(22,iv j)]
def aIY (N:Nat)(j:Int):List (Nat × Value):=[(2,pV 2),(4,pV 3),(9,bX 4 N),(17,pV 8),(21,bX 9 N),(23,iv j)]
def aOk (N:Nat)(j k x:Int):List (Nat × Value):=(24,iv k)::(25,iv x)::aIY N j
def aOW:List (Nat × XF):=[aNd,X52,aNm,aFz]
theorem aIU:lA aOW:=.cons aSz (.cons x52 (.cons aSs (.cons aNr .nil)))
theorem aNy (n:Nat):fM (n+1)=fM n++[(n:Int)]:=by unfold fM;rw[List.range_succ,List.map_append];rfl
theorem aQc (n:Nat):List.replicate (n+1) (0:Int)=List.replicate n 0++[0]:=List.replicate_succ'
theorem QE {C L:List Int}{a b nl nr:Int}{x:Nat}(qa:aG C x=a)(qb:aG C x=b):qA C L a b nl nr (x+1)=((qA C L a b nl nr x).set x nl).set x nr:=by
 rw[qA,if_pos qb,if_pos qa]
theorem P0 {C L:List Int}{a b nl nr:Int}{x:Nat}(qa:aG C x=a)(qb:¬ aG C x=b):qA C L a b nl nr (x+1)=(qA C L a b nl nr x).set x nl:=by
 rw[qA,if_neg qb,if_pos qa]
theorem QU {C L:List Int}{a b nl nr:Int}{x:Nat}(qa:¬ aG C x=a)(qb:aG C x=b):qA C L a b nl nr (x+1)=(qA C L a b nl nr x).set x nr:=by
 rw[qA,if_pos qb,if_neg qa]
theorem RP {C L:List Int}{a b nl nr:Int}{x:Nat}(qa:¬ aG C x=a)(qb:¬ aG C x=b):qA C L a b nl nr (x+1)=qA C L a b nl nr x:=by
 rw[qA,if_neg qb,if_neg qa]
theorem aBJ {C:List Int}{i o:Nat}{a:Int}(ha:aG C i=a)(hi:i<C.length)(ho:o=i*1):nth (flat aW.fl C) o=some (iv a):=by rw[<- ha];exact dY C hi ho
theorem w13 (l:List Pt)(m:List Ed)(n ln:Int)(c1 c2 N:Nat)(hlm:l.length<=1000/\m.length<=1000)(hN:N=(n+1).toNat)(hok:sP l m n=true->OkR l m n ln):body aOW 13 [fH l.length m.length c1 c2 n,iv ln] (aS aX bS l m) 2 (aOw l m n ln):=by
 (conv=>whnf);refine⟨l,m,aP aX rfl,aP bS rfl,?_⟩;refine aM (show(decide (l.length<=1000)&&decide (m.length<=1000))=true by rw[ai hlm.1,ai hlm.2];rfl) ?_;((conv=>whnf);apply bm<;>intro a1);rotate_left
 ·have a1:sP l m n=false:=(by simpa[aB,aF]using a1);(conv=>whnf);exact .inl ⟨by rw[OZ (.inl a1)];decide,by rw[OZ (.inl a1)];rfl⟩
 have a1:sP l m n=true:=(by simpa[aB,aF]using a1);((conv=>whnf);apply bm<;>intro a2);rotate_left
 ·have a2:ln<0:=(by simpa[aB,aF]using a2);(conv=>whnf);exact .inl ⟨by rw[OZ (.inr (.inl a2))];decide,by rw[OZ (.inr (.inl a2))];rfl⟩
 have a2:¬ ln<0:=(by simpa[aB,aF]using a2);((conv=>whnf);apply bm<;>intro a3)
 ·have a3:200<=ln:=(by simpa[aB,aF]using a3);(conv=>whnf);exact .inl ⟨by rw[OZ (.inr (.inr a3))];decide,by rw[OZ (.inr (.inr a3))];rfl⟩
 have a3:¬ 200<=ln:=(by simp[aB,aF]at a3;omega);have hno:¬(sP l m n=false\/ln<0\/200<=ln):=fun h=>by
  rcases h with h|h|h
  ·rw[a1]at h;cases h
  ·exact a2 h
  exact a3 h
 obtain⟨hM,hm,hn,hF,hS,hPM,hOM,hK⟩:=hok a1;clear hok;(conv=>whnf);refine⟨fun q e h nx=>∃(i:Nat) (j:Int),j=i/\i<=N/\q=N - i/\((i=0/\e=aHr ln aI j/\h=rO l m c1 c2 n/\nx=4)\/(0<i/\∃ k C,k=i/\C=fM i/\e=aHr ln (bX 4 k) j/\h=gW l m c1 c2 n C/\nx=5)),⟨N,?_⟩,?_⟩
 ·exact aJ (h0:=rO l m c1 c2 n) (n0:=4) ⟨0,0,rfl,Nat.zero_le _,rfl,.inl ⟨rfl,rfl,rfl,rfl⟩⟩
 rintro q e h nx ⟨i,j,hj,hi,rfl,⟨hi0,rfl,rfl,rfl⟩|⟨hip,k,C,hk,hC,rfl,rfl,rfl⟩⟩
 ·subst hi0;unfold aHr rO cM dU aS dK aI;(conv=>whnf);refine bt ?_
  repeat' first
   |(((conv=>whnf);apply bm<;>intro g))
  all_goals first
   |(exfalso;simp[aB,aF,aN]at g;omega)
   |skip
  (conv=>whnf);refine⟨N - (0+1),aa,?_⟩;refine bC (h0:=gW l m c1 c2 n (fM 1)) (n0:=5) [(4,5)] ⟨1,j+1,aa,aa,rfl,.inr ⟨aa,1,_,rfl,rfl,rfl,rfl,rfl⟩⟩ (hh:=?_)
  ·unfold gW rO cM dU aS dK aI;refine ae.2 ⟨⟨ab,_,rfl,aK (aC aW _) ?_⟩,?_⟩
   ·rw[hj];rfl
   exact xH
 have hCl:k=C.length:=(by rw[hC,eH,hk]);unfold aHr gW rO cM dU aS dK aI bX;((conv=>whnf);apply bm<;>intro b1)
 ·have hlt:i<N:=by simp[aB,aF]at b1;omega
  repeat' first
   |((conv=>whnf)
     refine YX (k:=k) ?_)
   |(((conv=>whnf);apply bm<;>intro g))
  all_goals first
   |(exfalso;simp[aB,aF,aN]at g;omega)
   |exact iP (by rw[aO,<- hCl];rfl) aa g
   |skip
  (conv=>whnf);refine⟨N - (i+1),aa,?_⟩;refine bC (h0:=gW l m c1 c2 n (fM (i+1))) (n0:=5) [(4,6)] ⟨i+1,j+1,aa,aa,rfl,.inr ⟨aa,k+1,_,aa,rfl,rfl,rfl,rfl⟩⟩ (hh:=?_)
  ·unfold gW rO cM dU aS dK aI;refine ae.2 ⟨⟨ab,_,rfl,aK (aC aW _) ?_⟩,?_⟩
   ·have hg:=cT aW C (i:Int) (n:=k) hCl;rw[aNy,<- hC,<- hg,hj];rfl
   exact xH
 have hge:i=N:=(by simp[aB,aF]at b1;omega);have hC0:C=lC m ln N 0:=(by rw[hC,hge];rfl);obtain rfl:k=N:=aa;clear b1 hC hip hi hj hk hge;(conv=>whnf);refine⟨fun q e h nx=>∃(i:Nat) (j:Int) (C:List Int),j=i/\i<=m.length/\q=m.length - i/\C=lC m ln k i/\((G6 l m ln i=[]/\e=EV ln k aI (j - ((0:Nat):Int)) j/\h=gW l m c1 c2 n C/\nx=5)\/(∃ P s,P=G6 l m ln i/\s=P.length/\0<s/\e=EV ln k (bX 5 s) (j - (s:Int)) j/\h=wO l m c1 c2 n C P/\nx=6)),⟨m.length,?_⟩,?_⟩
 ·exact aJ (h0:=gW l m c1 c2 n C) (n0:=5) ⟨0,0,C,rfl,Nat.zero_le _,rfl,hC0,.inl ⟨rfl,rfl,rfl,rfl⟩⟩
 clear hC0 hCl C;generalize k=N at *;rintro q e h nx ⟨i,j,C,hj,hi,rfl,hC,⟨hP,rfl,rfl,rfl⟩|⟨P,k,hP,hk,hkp,rfl,rfl,rfl⟩⟩
 ·have hCl:C.length=N:=(by rw[hC,yC]);unfold EV;unfold gW rO cM dU aS dK aI;(try unfold bX);((conv=>whnf);apply bm<;>intro h1);rotate_left
  ·have hge:i=m.length:=(by simp[aB,aF]at h1;omega);have hPe:rP l m ln=[]:=(by unfold rP;rw[<- hge];exact hP);have h2:¬(rP l m ln).length=m.length:=(by rw[hPe];simp;omega);have e20:E3 l m n ln=20:=RE hno h2 (by rw[hPe];rfl);((conv=>whnf);apply bm<;>intro z1)
   ·exfalso;simp[aB,aF]at z1;omega
   (conv=>whnf);refine .inr ⟨aI,rfl,⟨rfl,rfl,rfl⟩,?_⟩;unfold aJr;(conv=>whnf);exact .inl ⟨by rw[e20];decide,by rw[e20];rfl⟩
  have hlt:i<m.length:=(by simp[aB,aF]at h1;omega);obtain⟨⟨hf1,hf2⟩,hf3,hf4⟩:=hF i hlt;have hea:=nU hM hlt;(conv=>whnf);refine bt ?_;(conv=>whnf);refine eZ (BE m (i:=i) aa (by show _+Int.toNat j*5=_;omega)) ?_;((conv=>whnf);apply bm<;>intro h3)
  ·have hne:¬(aU m i).n=ln:=by simpa[aB,aF]using h3
   repeat' first
    |(((conv=>whnf);apply bm<;>intro g))
    |((conv=>whnf)
      refine eZ (eU l (i:=(aU m i).a.toNat) aa ?_) ?_
      ·show _+Int.toNat (aU m i).a*2=_;omega)
    |((conv=>whnf)
      refine eZ (eU l (i:=(aU m i).b.toNat) aa ?_) ?_
      ·show _+Int.toNat (aU m i).b*2=_;omega)
   all_goals first
    |(exfalso;simp[aB,aF,aN]at g;omega)
    |skip
   (conv=>whnf);refine⟨m.length - (i+1),aa,?_⟩;refine bC (e0:=EV ln N (bX 5 1) (j+1 - ((1:Nat):Int)) (j+1)) (h0:=wO l m c1 c2 n C [(bB l m i,(aU m i).n)]) (n0:=6) [(5,7)] ⟨i+1,j+1,C,aa,aa,rfl,by rw[RA hne];exact hC,.inr ⟨_,1,by rw[JP hne,hP];rfl,rfl,aa,rfl,rfl,rfl⟩⟩ (he:=?_) (hh:=?_)
   ·rw[(aa:j+1 - ((1:Nat):Int)=j - ((0:Nat):Int))];unfold EV bX;exact xE
   unfold wO gW rO cM dU aS dK aI;(try unfold bX);refine ae.2 ⟨⟨ab,_,rfl,aK (aC z9 _) ?_⟩,?_⟩
   ·rfl
   refine ae.2 ⟨⟨ab,_,rfl,aE (aC aW _)⟩,?_⟩;exact xH
  have heq:(aU m i).n=ln:=(by simpa[aB,aF]using h3);obtain⟨a,ha⟩:∃ a,aG C (aU m i).l.toNat=a:=⟨_,rfl⟩;obtain⟨b,hb⟩:∃ b,aG C (aU m i).r.toNat=b:=⟨_,rfl⟩
  repeat' first
   |(((conv=>whnf);apply bm<;>intro g))
   |((conv=>whnf)
     refine fD (aBJ ha aa ?_) ?_
     ·show _+Int.toNat (aU m i).l*1=_;omega)
   |((conv=>whnf)
     refine fD (aBJ hb aa ?_) ?_
     ·show _+Int.toNat (aU m i).r*1=_;omega)
  all_goals first
   |(exfalso;simp[aB,aF,aN]at g;omega)
   |skip
  (conv=>whnf);refine⟨fun q e h nx=>∃(x:Nat) (y:Int) (D:List Int),y=x/\x<=N/\q=N - x/\D=uL C a b x/\e=aDB ln N aI (j+1 - ((0:Nat):Int)) j a b y/\h=(gW l m c1 c2 n D)/\nx=5,⟨N,?_⟩,?_⟩
  ·refine bC (h0:=(gW l m c1 c2 n C)) (n0:=5) [] ⟨0,0,C,rfl,Nat.zero_le _,rfl,rfl,rfl,rfl,rfl⟩ (he:=?_) (hh:=?_)
   ·rw[(aa:j+1 - ((0:Nat):Int)=j - ((0:Nat):Int)+1)];unfold aDB EV bX;(try unfold aI);exact xE
   unfold gW rO cM dU aS dK aI;(try unfold bX);refine ae.2 ⟨⟨ab,_,rfl,aE (aC aW _)⟩,?_⟩;exact xH
  rintro q e h nx ⟨x,y,D,hy,hx,rfl,hD,rfl,rfl,rfl⟩;have hDl:D.length=N:=(by rw[hD,tW];exact hCl);unfold aDB EV;unfold gW rO cM dU aS dK aI;(try unfold bX);((conv=>whnf);apply bm<;>intro g0);rotate_left
  ·have hxN:x=N:=by simp[aB,aF]at g0;omega
   repeat' first
    |(((conv=>whnf);apply bm<;>intro g))
   all_goals first
    |(exfalso;simp[aB,aF,aN]at g;omega)
    |skip
   (conv=>whnf);refine⟨m.length - (i+1),aa,?_⟩;refine bC (h0:=gW l m c1 c2 n D) (n0:=5) [] ⟨i+1,j+1,D,aa,aa,rfl,by rw[MN heq,<- hC,ha,hb,hD,hxN],.inl ⟨by rw[QN heq];exact hP,rfl,rfl,rfl⟩⟩ (hh:=?_)
   ·unfold gW rO cM dU aS dK aI;(try unfold bX);refine ae.2 ⟨⟨ab,_,rfl,aE (aC aW _)⟩,?_⟩;exact xH
  have hlx:x<N:=by simp[aB,aF]at g0;omega
  repeat' first
   |(((conv=>whnf);apply bm<;>intro g))
   |((conv=>whnf)
     refine fD (dY D (i:=x) aa ?_) ?_
     ·show _+Int.toNat y*1=_;omega)
  all_goals first
   |(exfalso;simp[aB,aF,aN]at g;omega)
   |(exfalso
     have hb:Nat.ble (0+Int.toNat y*1+1) (flat aW.fl D).length=true:=Nat.ble_eq_true_of_le (by rw[aO,hDl];show _<=N*1;omega);exact Bool.false_ne_true (g.symm.trans hb))
   |skip
  ·have q:aG D x=b:=by
    have:aB.A.eq (aG D x) b=true:=(by assumption);simpa[aB,aF]using this
   (conv=>whnf);refine⟨N - (x+1),aa,?_⟩;refine bC (h0:=gW l m c1 c2 n (D.set x (WH a b))) (n0:=5) [] ⟨x+1,y+1,_,aa,aa,rfl,by rw[CU (by rw[<- hD];exact .inr q),<- hD],rfl,rfl,rfl⟩ (hh:=?_)
   ·unfold gW rO cM dU aS dK aI;(try unfold bX);refine ae.2 ⟨⟨ab,_,rfl,aK (aC aW _) ?_⟩,?_⟩
    ·show bU (flat aW.fl D) (0+Int.toNat y*1) [iv _]=_;rw[(aa:0+Int.toNat y*1=x*1),gB _ _ _ aa];rfl
    exact xH
  ·have q:¬ aG D x=b:=by
    have:aB.A.eq (aG D x) b=false:=(by assumption);simpa[aB,aF]using this
   have q2:¬ aG D x=a:=by
    have:aB.A.eqB (aB.A.eq (aG D x) a) false=true:=(by assumption);simpa[aB,aF]using this
   (conv=>whnf);refine⟨N - (x+1),aa,?_⟩;refine bC (h0:=gW l m c1 c2 n D) (n0:=5) [] ⟨x+1,y+1,_,aa,aa,rfl,by rw[aBZ (by rw[<- hD];exact fun h=>h.elim q2 q),<- hD],rfl,rfl,rfl⟩ (hh:=?_)
   ·unfold gW rO cM dU aS dK aI;(try unfold bX);refine ae.2 ⟨⟨ab,_,rfl,aE (aC aW _)⟩,?_⟩;exact xH
  have q:aG D x=a:=by
   have:aB.A.eqB (aB.A.eq (aG D x) a) false=false:=(by assumption);simpa[aB,aF]using this
  (conv=>whnf);refine⟨N - (x+1),aa,?_⟩;refine bC (h0:=gW l m c1 c2 n (D.set x (WH a b))) (n0:=5) [] ⟨x+1,y+1,_,aa,aa,rfl,by rw[CU (by rw[<- hD];exact .inl q),<- hD],rfl,rfl,rfl⟩ (hh:=?_)
  ·unfold gW rO cM dU aS dK aI;(try unfold bX);refine ae.2 ⟨⟨ab,_,rfl,aK (aC aW _) ?_⟩,?_⟩
   ·show bU (flat aW.fl D) (0+Int.toNat y*1) [iv _]=_;rw[(aa:0+Int.toNat y*1=x*1),gB _ _ _ aa];rfl
   exact xH
 have hCl:C.length=N:=(by rw[hC,yC]);have hki:k<=i:=(by rw[hk,hP];exact VZ l m ln i);unfold EV;unfold wO gW rO cM dU aS dK aI;(try unfold bX);((conv=>whnf);apply bm<;>intro h1)
 ·have hlt:i<m.length:=(by simp[aB,aF]at h1;omega);obtain⟨⟨hf1,hf2⟩,hf3,hf4⟩:=hF i hlt;have hea:=nU hM hlt;(conv=>whnf);refine bt ?_;(conv=>whnf);refine eZ (BE m (i:=i) aa (by show _+Int.toNat j*5=_;omega)) ?_;((conv=>whnf);apply bm<;>intro h3)
  ·have hne:¬(aU m i).n=ln:=by simpa[aB,aF]using h3
   repeat' first
    |((conv=>whnf)
      refine YX (k:=k) ?_)
    |(((conv=>whnf);apply bm<;>intro g))
    |((conv=>whnf)
      refine eZ (eU l (i:=(aU m i).a.toNat) aa ?_) ?_
      ·show _+Int.toNat (aU m i).a*2=_;omega)
    |((conv=>whnf)
      refine eZ (eU l (i:=(aU m i).b.toNat) aa ?_) ?_
      ·show _+Int.toNat (aU m i).b*2=_;omega)
   all_goals first
    |(exfalso;simp[aB,aF,aN]at g;omega)
    |exact iP (by rw[aO,<- hk];rfl) aa g
    |skip
   (conv=>whnf);refine⟨m.length - (i+1),aa,?_⟩;refine bC (e0:=EV ln N (bX 5 (k+1)) (j+1 - ((k+1:Nat):Int)) (j+1)) (h0:=wO l m c1 c2 n C (P++[(bB l m i,(aU m i).n)])) (n0:=6) [(5,8)] ⟨i+1,j+1,C,aa,aa,rfl,by rw[RA hne];exact hC,.inr ⟨_,k+1,by rw[JP hne,<- hP],by rw[List.length_append,<- hk];rfl,aa,rfl,rfl,rfl⟩⟩ (he:=?_) (hh:=?_)
   ·rw[(aa:j+1 - ((k+1:Nat):Int)=j - (k:Int))];unfold EV bX;exact xE
   unfold wO gW rO cM dU aS dK aI;(try unfold bX);refine ae.2 ⟨⟨ab,_,rfl,aK (aC z9 _) ?_⟩,?_⟩
   ·have hg:=cT z9 P (bB l m i,(aU m i).n) (n:=k) hk;rw[<- hg];rfl
   refine ae.2 ⟨⟨ab,_,rfl,aE (aC aW _)⟩,?_⟩;exact xH
  have heq:(aU m i).n=ln:=(by simpa[aB,aF]using h3);obtain⟨a,ha⟩:∃ a,aG C (aU m i).l.toNat=a:=⟨_,rfl⟩;obtain⟨b,hb⟩:∃ b,aG C (aU m i).r.toNat=b:=⟨_,rfl⟩
  repeat' first
   |(((conv=>whnf);apply bm<;>intro g))
   |((conv=>whnf)
     refine fD (aBJ ha aa ?_) ?_
     ·show _+Int.toNat (aU m i).l*1=_;omega)
   |((conv=>whnf)
     refine fD (aBJ hb aa ?_) ?_
     ·show _+Int.toNat (aU m i).r*1=_;omega)
  all_goals first
   |(exfalso;simp[aB,aF,aN]at g;omega)
   |skip
  (conv=>whnf);refine⟨fun q e h nx=>∃(x:Nat) (y:Int) (D:List Int),y=x/\x<=N/\q=N - x/\D=uL C a b x/\e=aDB ln N (bX 5 k) (j+1 - (k:Int)) j a b y/\h=(wO l m c1 c2 n D P)/\nx=6,⟨N,?_⟩,?_⟩
  ·refine bC (h0:=(wO l m c1 c2 n C P)) (n0:=6) [] ⟨0,0,C,rfl,Nat.zero_le _,rfl,rfl,rfl,rfl,rfl⟩ (he:=?_) (hh:=?_)
   ·rw[(aa:j+1 - (k:Int)=j - (k:Int)+1)];unfold aDB EV bX;(try unfold aI);exact xE
   unfold wO gW rO cM dU aS dK aI;(try unfold bX);refine ae.2 ⟨⟨ab,_,rfl,aE (aC z9 _)⟩,?_⟩;refine ae.2 ⟨⟨ab,_,rfl,aE (aC aW _)⟩,?_⟩;exact xH
  rintro q e h nx ⟨x,y,D,hy,hx,rfl,hD,rfl,rfl,rfl⟩;have hDl:D.length=N:=(by rw[hD,tW];exact hCl);unfold aDB EV;unfold wO gW rO cM dU aS dK aI;(try unfold bX);((conv=>whnf);apply bm<;>intro g0);rotate_left
  ·have hxN:x=N:=by simp[aB,aF]at g0;omega
   repeat' first
    |(((conv=>whnf);apply bm<;>intro g))
   all_goals first
    |(exfalso;simp[aB,aF,aN]at g;omega)
    |skip
   (conv=>whnf);refine⟨m.length - (i+1),aa,?_⟩;refine bC (h0:=wO l m c1 c2 n D P) (n0:=6) [] ⟨i+1,j+1,D,aa,aa,rfl,by rw[MN heq,<- hC,ha,hb,hD,hxN],.inr ⟨P,k,by rw[QN heq];exact hP,hk,hkp,rfl,rfl,rfl⟩⟩ (hh:=?_)
   ·unfold wO gW rO cM dU aS dK aI;(try unfold bX);refine ae.2 ⟨⟨ab,_,rfl,aE (aC z9 _)⟩,?_⟩;refine ae.2 ⟨⟨ab,_,rfl,aE (aC aW _)⟩,?_⟩;exact xH
  have hlx:x<N:=by simp[aB,aF]at g0;omega
  repeat' first
   |(((conv=>whnf);apply bm<;>intro g))
   |((conv=>whnf)
     refine fD (dY D (i:=x) aa ?_) ?_
     ·show _+Int.toNat y*1=_;omega)
  all_goals first
   |(exfalso;simp[aB,aF,aN]at g;omega)
   |(exfalso
     have hb:Nat.ble (0+Int.toNat y*1+1) (flat aW.fl D).length=true:=Nat.ble_eq_true_of_le (by rw[aO,hDl];show _<=N*1;omega);exact Bool.false_ne_true (g.symm.trans hb))
   |skip
  ·have q:aG D x=b:=by
    have:aB.A.eq (aG D x) b=true:=(by assumption);simpa[aB,aF]using this
   (conv=>whnf);refine⟨N - (x+1),aa,?_⟩;refine bC (h0:=wO l m c1 c2 n (D.set x (WH a b)) P) (n0:=6) [] ⟨x+1,y+1,_,aa,aa,rfl,by rw[CU (by rw[<- hD];exact .inr q),<- hD],rfl,rfl,rfl⟩ (hh:=?_)
   ·unfold wO gW rO cM dU aS dK aI;(try unfold bX);refine ae.2 ⟨⟨ab,_,rfl,aE (aC z9 _)⟩,?_⟩;refine ae.2 ⟨⟨ab,_,rfl,aK (aC aW _) ?_⟩,?_⟩
    ·show bU (flat aW.fl D) (0+Int.toNat y*1) [iv _]=_;rw[(aa:0+Int.toNat y*1=x*1),gB _ _ _ aa];rfl
    exact xH
  ·have q:¬ aG D x=b:=by
    have:aB.A.eq (aG D x) b=false:=(by assumption);simpa[aB,aF]using this
   have q2:¬ aG D x=a:=by
    have:aB.A.eqB (aB.A.eq (aG D x) a) false=true:=(by assumption);simpa[aB,aF]using this
   (conv=>whnf);refine⟨N - (x+1),aa,?_⟩;refine bC (h0:=wO l m c1 c2 n D P) (n0:=6) [] ⟨x+1,y+1,_,aa,aa,rfl,by rw[aBZ (by rw[<- hD];exact fun h=>h.elim q2 q),<- hD],rfl,rfl,rfl⟩ (hh:=?_)
   ·unfold wO gW rO cM dU aS dK aI;(try unfold bX);refine ae.2 ⟨⟨ab,_,rfl,aE (aC z9 _)⟩,?_⟩;refine ae.2 ⟨⟨ab,_,rfl,aE (aC aW _)⟩,?_⟩;exact xH
  have q:aG D x=a:=by
   have:aB.A.eqB (aB.A.eq (aG D x) a) false=false:=(by assumption);simpa[aB,aF]using this
  (conv=>whnf);refine⟨N - (x+1),aa,?_⟩;refine bC (h0:=wO l m c1 c2 n (D.set x (WH a b)) P) (n0:=6) [] ⟨x+1,y+1,_,aa,aa,rfl,by rw[CU (by rw[<- hD];exact .inl q),<- hD],rfl,rfl,rfl⟩ (hh:=?_)
  ·unfold wO gW rO cM dU aS dK aI;(try unfold bX);refine ae.2 ⟨⟨ab,_,rfl,aE (aC z9 _)⟩,?_⟩;refine ae.2 ⟨⟨ab,_,rfl,aK (aC aW _) ?_⟩,?_⟩
   ·show bU (flat aW.fl D) (0+Int.toNat y*1) [iv _]=_;rw[(aa:0+Int.toNat y*1=x*1),gB _ _ _ aa];rfl
   exact xH
 have hge:i=m.length:=(by simp[aB,aF]at h1;omega);have hPe:P=rP l m ln:=(by rw[hP,hge];rfl);have hCe:C=lC m ln N m.length:=(by rw[hC,hge]);((conv=>whnf);apply bm<;>intro z1)
 ·have z1:k=m.length:=(by simp[aB,aF]at z1;omega);have e5:E3 l m n ln=5:=aQo hno (by rw[<- hPe,<- hk];exact z1);(conv=>whnf);exact .inl ⟨by rw[e5];decide,by rw[e5];rfl⟩
 have z1:¬ k=m.length:=(by simp[aB,aF]at z1;omega);have h2:¬(rP l m ln).length=m.length:=(by rw[<- hPe,<- hk];exact z1);(conv=>whnf);refine .inl ⟨P,_,rfl,by rw[hk];exact aP z9 rfl,⟨aa,aa⟩,by rw[hPe];exact hS,by rw[hPe];exact hPM,?_⟩;have hF3:(SB (tB P) (oL P)).length=k:=(by rw[aBl,aBT,hk]);have hrQ:z8 l m ln=tB P:=(by rw[hPe];rfl);have hrF:KQ l m ln=SB (tB P) (oL P):=(by rw[hPe];rfl);have hrE:oL (rP l m ln)=oL P:=(by rw[hPe]);have hb1:mK (tB P) (oL P)=false->C1 (rP l m ln)=true:=fun h=>(by unfold C1;rw[<- hPe,h];simp);have hb2:mdR (tB P) (oL P)=false->C1 (rP l m ln)=true:=fun h=>by
  unfold mdR at h;unfold C1;rw[<- hPe];cases hq:mK (tB P) (oL P)with
  |false=>simp
  |true=>rw[hq,Bool.true_and]at h;rw[h];simp
 have hb3:k<3->C1 (rP l m ln)=true:=fun h=>(by unfold C1;rw[<- hPe,<- hk,ai h];simp);have hb0:mdR (tB P) (oL P)=true->¬ k<3->C1 (rP l m ln)=false:=fun h h3=>by
  unfold mdR at h;rw[af]at h;unfold C1;rw[<- hPe,<- hk,h.1,h.2,aj (aa:¬ k=0),aj h3];rfl
 have hrN:mdN (z8 l m ln) (oL (rP l m ln))=mdN (tB P) (oL P):=(by rw[hrQ,hrE]);rw[hrQ,hrF]at hOM;rw[hrQ,hrF]at hK;clear hS hPM hP hC;generalize oL P=E0 at *;generalize tB P=Q at *;generalize SB Q E0=F at *;generalize mdN Q E0=fc at *;generalize mK Q E0=jn at *;generalize mdU Q E0=u at *;generalize mdR Q E0=rt at *;unfold vMn;((conv=>whnf);apply bm<;>intro d1);rotate_left
 ·have d1:jn=false:=(by simpa[aB,aF]using d1);have e20:E3 l m n ln=20:=RE hno h2 (hb1 d1);(conv=>whnf);exact .inl ⟨by rw[e20];decide,by rw[e20];rfl⟩
 have d1:jn=true:=(by simpa[aB,aF]using d1);((conv=>whnf);apply bm<;>intro d2);rotate_left
 ·have d2:rt=false:=(by simpa[aB,aF]using d2);have e20:E3 l m n ln=20:=RE hno h2 (hb2 d2);(conv=>whnf);exact .inl ⟨by rw[e20];decide,by rw[e20];rfl⟩
 have d2:rt=true:=(by simpa[aB,aF]using d2);((conv=>whnf);apply bm<;>intro d3)
 ·have d3:F.length<3:=(by simp[aB,aF]at d3;omega);have e20:E3 l m n ln=20:=RE hno h2 (hb3 aa);(conv=>whnf);exact .inl ⟨by rw[e20];decide,by rw[e20];rfl⟩
 have d3:¬ F.length<3:=(by simp[aB,aF]at d3;omega);have e0:E3 l m n ln=0:=aPA hno h2 (hb0 d2 aa);clear hb0 hb1 hb2 hb3 hno h2;(conv=>whnf);refine⟨fun q e h nx=>∃(i:Nat) (j:Int),j=i/\i<=N/\q=N - i/\((i=0/\e=aHF N aI j/\h=CJ l m c1 c2 n C Q F fc/\nx=9)\/(0<i/\∃ k D,k=i/\D=List.replicate i (0:Int)/\e=aHF N (bX 9 k) j/\h=sZ l m c1 c2 n C Q F fc D/\nx=10)),⟨N,?_⟩,?_⟩
 ·refine aJ (h0:=CJ l m c1 c2 n C Q F fc) (n0:=9) ⟨0,0,rfl,Nat.zero_le _,rfl,.inl ⟨rfl,rfl,rfl,rfl⟩⟩ (hh:=?_)
  ·unfold CJ gW rO cM dU aS dK aI;(try unfold bX);have hfl:∀{α:Type} (E:El α) (x:List α),(flat E.fl x).map (cB fun k=>6+k)=flat E.fl x:=fun E x=>bK (aC E x);refine ae.2 ⟨⟨ab,_,rfl,⟨rfl,rfl,rfl,rfl,zC rfl⟩⟩,ae.2 ⟨⟨ab,_,rfl,aK (aC aX _) (hfl aX _)⟩,ae.2 ⟨⟨ab,_,rfl,aK (aC bS _) (hfl bS _)⟩,?_⟩⟩⟩;exact xH
 rintro q e h nx ⟨i,j,hj,hi,rfl,⟨hi0,rfl,rfl,rfl⟩|⟨hip,k,D,hk,hD,rfl,rfl,rfl⟩⟩
 ·subst hi0;unfold aHF;unfold CJ gW rO cM dU aS dK aI;(try unfold bX);(conv=>whnf);refine bt ?_
  repeat' first
   |(((conv=>whnf);apply bm<;>intro g))
  all_goals first
   |(exfalso;simp[aB,aF,aN]at g;omega)
   |skip
  (conv=>whnf);refine⟨N - (0+1),aa,?_⟩;refine bC (h0:=sZ l m c1 c2 n C Q F fc [0]) (n0:=10) [(9,10)] ⟨1,j+1,aa,aa,rfl,.inr ⟨aa,1,_,rfl,rfl,rfl,rfl,rfl⟩⟩ (hh:=?_)
  ·unfold sZ CJ gW rO cM dU aS dK aI;(try unfold bX);refine ae.2 ⟨⟨ab,_,rfl,aK (aC aW _) ?_⟩,?_⟩
   ·rfl
   exact xH
 have hDl:k=D.length:=(by rw[hD,List.length_replicate,hk]);unfold aHF;unfold sZ CJ gW rO cM dU aS dK aI;(try unfold bX);((conv=>whnf);apply bm<;>intro b1)
 ·have hlt:i<N:=by simp[aB,aF]at b1;omega
  repeat' first
   |((conv=>whnf)
     refine YX (k:=k) ?_)
   |(((conv=>whnf);apply bm<;>intro g))
  all_goals first
   |(exfalso;simp[aB,aF,aN]at g;omega)
   |exact iP (by rw[aO,<- hDl];rfl) aa g
   |skip
  (conv=>whnf);refine⟨N - (i+1),aa,?_⟩;refine bC (h0:=sZ l m c1 c2 n C Q F fc (List.replicate (i+1) 0)) (n0:=10) [(9,11)] ⟨i+1,j+1,aa,aa,rfl,.inr ⟨aa,k+1,_,aa,rfl,rfl,rfl,rfl⟩⟩ (hh:=?_)
  ·unfold sZ CJ gW rO cM dU aS dK aI;(try unfold bX);refine ae.2 ⟨⟨ab,_,rfl,aK (aC aW _) ?_⟩,?_⟩
   ·have hg:=cT aW D 0 (n:=k) hDl;rw[aQc,<- hD,<- hg];rfl
   exact xH
 have hge:i=N:=(by simp[aB,aF]at b1;omega);have hD0:D=QK C l m Q F N 0:=(by rw[hD,hge];rfl);obtain rfl:k=N:=aa;clear b1 hD hip hi hj hk hge;(conv=>whnf);refine⟨fun q e h nx=>∃(i:Nat) (j:Int) (D:List Int),j=i/\i<=F.length/\q=F.length - i/\D=QK C l m Q F k i/\e=aIY k j/\h=sZ l m c1 c2 n C Q F fc D/\nx=10,⟨F.length,?_⟩,?_⟩
 ·exact aJ (h0:=sZ l m c1 c2 n C Q F fc D) (n0:=10) ⟨0,0,D,rfl,Nat.zero_le _,rfl,hD0,rfl,rfl,rfl⟩
 clear hD0 hDl D;generalize k=N at *;rintro q e h nx ⟨i,j,D,hj,hi,rfl,hD,rfl,rfl,rfl⟩;have hDl:D.length=N:=(by rw[hD,DL]);unfold aIY;unfold sZ CJ gW rO cM dU aS dK aI;(try unfold bX);((conv=>whnf);apply bm<;>intro b1);rotate_left
 ·have hge:i=F.length:=(by simp[aB,aF]at b1;omega);(conv=>whnf);refine .inr ⟨e0,?_⟩;have hrO:rwO l m ln (n+1).toNat=D:=(by unfold rwO;rw[hrQ,hrF,<- hN,<- hCe,hD,hge]);rw[hrN,hrO,hrQ,hrF,<- hN];exact aOv (a:=6) (b:=7) (c:=9) rfl rfl rfl rfl rfl rfl
 have hlt:i<F.length:=(by simp[aB,aF]at b1;omega);have hjn:j.toNat=i:=aa;have hKi:=hK j.toNat aa;have hKl:=(aJq l m (bB Q F j.toNat)).2;have hko:vO l m (bB Q F i)=vO l m (bB Q F j.toNat):=(by rw[hjn]);obtain⟨⟨hf1,hf2⟩,hf3,hf4⟩:=hF (vO l m (bB Q F j.toNat)).toNat aa;(conv=>whnf);refine⟨Q,F,aP aX rfl,aP bS rfl,aM (show(jS Q F&&(decide (0<=j)&&decide (j<F.length)))=true by rw[hOM,ai (aa:0<=j),ai (aa:j<F.length)];rfl) ?_⟩;(conv=>whnf);refine⟨l,m,aP aX rfl,aP bS rfl,aM hM ?_⟩;(conv=>whnf);refine⟨fun q e h nx=>∃(x:Nat) (y:Int) (D2:List Int),y=x/\x<=N/\q=N - x/\D2=qA C D (aG C (aU m (vO l m (bB Q F j.toNat)).toNat).l.toNat) (aG C (aU m (vO l m (bB Q F j.toNat)).toNat).r.toNat) (aU F i).l (aU F i).r x/\e=aOk N j (vO l m (bB Q F j.toNat)) y/\h=sZ l m c1 c2 n C Q F fc D2/\nx=10,⟨N,?_⟩,?_⟩
 ·exact aJ (h0:=sZ l m c1 c2 n C Q F fc D) (n0:=10) ⟨0,0,D,rfl,Nat.zero_le _,rfl,rfl,rfl,rfl,rfl⟩
 rintro q e h nx ⟨x,y,D2,hy,hx,rfl,hD2,rfl,rfl,rfl⟩;generalize vO l m (bB Q F j.toNat)=ko at *;have hD2l:D2.length=N:=(by rw[hD2,D9,hDl]);unfold aOk aIY;unfold sZ CJ gW rO cM dU aS dK aI;(try unfold bX);((conv=>whnf);apply bm<;>intro g0);rotate_left
 ·have hxN:x=N:=by simp[aB,aF]at g0;omega
  repeat' first
   |(((conv=>whnf);apply bm<;>intro g))
  all_goals first
   |(exfalso;simp[aB,aF,aN]at g;omega)
   |skip
  (conv=>whnf);refine⟨F.length - (i+1),aa,?_⟩;exact aJ (h0:=sZ l m c1 c2 n C Q F fc D2) (n0:=10) ⟨i+1,j+1,D2,aa,aa,rfl,by rw[QK,<- hD,hko,hD2,hxN],rfl,rfl,rfl⟩
 have hlx:x<N:=by simp[aB,aF]at g0;omega
 repeat' first
  |(((conv=>whnf);apply bm<;>intro g))
  |((conv=>whnf)
    refine fD (dY C (i:=x) aa ?_) ?_
    ·show _+Int.toNat y*1=_;omega)
  |((conv=>whnf)
    refine fD (dY C (i:=(aU m ko.toNat).l.toNat) aa ?_) ?_
    ·show _+Int.toNat (aU m ko.toNat).l*1=_;omega)
  |((conv=>whnf)
    refine fD (dY C (i:=(aU m ko.toNat).r.toNat) aa ?_) ?_
    ·show _+Int.toNat (aU m ko.toNat).r*1=_;omega)
  |((conv=>whnf)
    refine fD (HE m 2 (i:=ko.toNat) aa rfl (by decide) ?_) ?_
    ·show _+Int.toNat ko*5+2=_;omega)
  |((conv=>whnf)
    refine fD (HE m 3 (i:=ko.toNat) aa rfl (by decide) ?_) ?_
    ·show _+Int.toNat ko*5+3=_;omega)
  |((conv=>whnf)
    refine fD (HE F 2 (i:=i) aa rfl (by decide) ?_) ?_
    ·show _+Int.toNat j*5+2=_;omega)
  |((conv=>whnf)
    refine fD (HE F 3 (i:=i) aa rfl (by decide) ?_) ?_
    ·show _+Int.toNat j*5+3=_;omega)
 all_goals first
  |(exfalso;simp[aB,aF,aN]at g;omega)
  |(exfalso
    have hb:Nat.ble (0+Int.toNat y*1+1) (flat aW.fl D2).length=true:=Nat.ble_eq_true_of_le (by rw[aO,hD2l];show _<=N*1;omega);exact Bool.false_ne_true (g.symm.trans hb))
  |(exfalso
    have hb:Nat.ble (0+Int.toNat y*1+1) (bU (flat aW.fl D2) (0+Int.toNat y*1) [iv (aU F i).l]).length=true:=Nat.ble_eq_true_of_le (by
     rw[cG (by rw[aO,hD2l];show 0+Int.toNat y*1+1<=N*1;omega),aO,hD2l];show _<=N*1;omega)
    exact Bool.false_ne_true (g.symm.trans hb))
  |skip
 ·have qa:aG C x=aG C (aU m ko.toNat).l.toNat:=by
   have:aB.A.eq (aG C x) (aG C (aU m ko.toNat).l.toNat)=true:=(by assumption);simpa[aB,aF]using this
  have qb:aG C x=aG C (aU m ko.toNat).r.toNat:=by
   have:aB.A.eq (aG C x) (aG C (aU m ko.toNat).r.toNat)=true:=(by assumption);simpa[aB,aF]using this
  (conv=>whnf);refine⟨N - (x+1),aa,?_⟩;refine bC (h0:=sZ l m c1 c2 n C Q F fc ((D2.set x (aU F i).l).set x (aU F i).r)) (n0:=10) [] ⟨x+1,y+1,_,aa,aa,rfl,by rw[QE qa qb,<- hD2],rfl,rfl,rfl⟩ (hh:=?_)
  ·unfold sZ CJ gW rO cM dU aS dK aI;(try unfold bX);refine ae.2 ⟨⟨ab,_,rfl,aK (aC aW _) ?_⟩,?_⟩
   ·show bU (bU (flat aW.fl D2) (0+Int.toNat y*1) [iv _]) (0+Int.toNat y*1) [iv _]=_;rw[(aa:0+Int.toNat y*1=x*1),gB _ _ _ aa,gB _ _ _ (by rw[List.length_set];omega)]
   exact xH
 ·have qa:aG C x=aG C (aU m ko.toNat).l.toNat:=by
   have:aB.A.eq (aG C x) (aG C (aU m ko.toNat).l.toNat)=true:=(by assumption);simpa[aB,aF]using this
  have qb:¬ aG C x=aG C (aU m ko.toNat).r.toNat:=by
   have:aB.A.eq (aG C x) (aG C (aU m ko.toNat).r.toNat)=false:=(by assumption);simpa[aB,aF]using this
  (conv=>whnf);refine⟨N - (x+1),aa,?_⟩;refine bC (h0:=sZ l m c1 c2 n C Q F fc (D2.set x (aU F i).l)) (n0:=10) [] ⟨x+1,y+1,_,aa,aa,rfl,by rw[P0 qa qb,<- hD2],rfl,rfl,rfl⟩ (hh:=?_)
  ·unfold sZ CJ gW rO cM dU aS dK aI;(try unfold bX);refine ae.2 ⟨⟨ab,_,rfl,aK (aC aW _) ?_⟩,?_⟩
   ·show bU (flat aW.fl D2) (0+Int.toNat y*1) [iv _]=_;rw[(aa:0+Int.toNat y*1=x*1),gB _ _ _ aa]
   exact xH
 ·have qa:¬ aG C x=aG C (aU m ko.toNat).l.toNat:=by
   have:aB.A.eq (aG C x) (aG C (aU m ko.toNat).l.toNat)=false:=(by assumption);simpa[aB,aF]using this
  have qb:aG C x=aG C (aU m ko.toNat).r.toNat:=by
   have:aB.A.eq (aG C x) (aG C (aU m ko.toNat).r.toNat)=true:=(by assumption);simpa[aB,aF]using this
  (conv=>whnf);refine⟨N - (x+1),aa,?_⟩;refine bC (h0:=sZ l m c1 c2 n C Q F fc (D2.set x (aU F i).r)) (n0:=10) [] ⟨x+1,y+1,_,aa,aa,rfl,by rw[QU qa qb,<- hD2],rfl,rfl,rfl⟩ (hh:=?_)
  ·unfold sZ CJ gW rO cM dU aS dK aI;(try unfold bX);refine ae.2 ⟨⟨ab,_,rfl,aK (aC aW _) ?_⟩,?_⟩
   ·show bU (flat aW.fl D2) (0+Int.toNat y*1) [iv _]=_;rw[(aa:0+Int.toNat y*1=x*1),gB _ _ _ aa]
   exact xH
 have qa:¬ aG C x=aG C (aU m ko.toNat).l.toNat:=by
  have:aB.A.eq (aG C x) (aG C (aU m ko.toNat).l.toNat)=false:=(by assumption);simpa[aB,aF]using this
 have qb:¬ aG C x=aG C (aU m ko.toNat).r.toNat:=by
  have:aB.A.eq (aG C x) (aG C (aU m ko.toNat).r.toNat)=false:=(by assumption);simpa[aB,aF]using this
 (conv=>whnf);refine⟨N - (x+1),aa,?_⟩;refine bC (h0:=sZ l m c1 c2 n C Q F fc D2) (n0:=10) [] ⟨x+1,y+1,_,aa,aa,rfl,by rw[RP qa qb,<- hD2],rfl,rfl,rfl⟩ (hh:=?_)
 ·unfold sZ CJ gW rO cM dU aS dK aI;(try unfold bX);refine ae.2 ⟨⟨ab,_,rfl,aE (aC aW _)⟩,?_⟩;exact xH
end Go.Aw
end
