/-
  Parts of a proof. No condition.
-/
import Derived.Test.YthgjfhncomhofaaGreatQAj
import Derived.Test.YthgjfhncomhofaaGreatQAk
import Derived.Test.YthgjfhncomhofaaGreatQAl
import Derived.Test.YthgjfhncomhofaaGreatQAn
import Derived.Test.YthgjfhncomhofaaGreatQAo
import Derived.Test.YthgjfhncomhofaaGreatQAp
import Derived.Test.YthgjfhncomhofaaGreatQAq
import Derived.Test.YthgjfhncomhofaaGreatQAz
import Derived.Test.YthgjfhncomhofaaGreatQBa
set_option linter.unusedSimpArgs false
set_option linter.unusedVariables false
noncomputable section
namespace Go.Aw
open Proofs
set_option maxRecDepth 100000
set_option maxHeartbeats 4000000
def aLg (xl:List (Nat × XF))(vs:List Nat):VC:=tK aB none (N3 (aEC [] 4) vs (aw xl)) noY
theorem UD {xl:List (Nat × XF)}(h:lA xl)(vs:List Nat):bN Tryz.prog (aLg xl vs):=tM gE (aI4 (CP .nil 4) h.look) LZ (aFO (CP .nil 4) h.look) uY none
def aQ9:List (Nat × XF):=[(115,frQ (WV 1000)),(117,frX aX SCo),(121,OE (zX 1000)),aBn,aGV,UG,(127,aLh)]
theorem aAQ {S:List Pt}:∀{n:Nat},1<=n->1<=(nH S n).length
 |1,_=>ah _
 |n+2,_=>by
  have:=aAQ (S:=S) (n:=n+1) aa;unfold nH;rw[List.length_append];omega
theorem aF9 {h:Heap}{nx k q r:Nat}{g:Bool}{sz:Nat}{cs:List Value}(hk:aw h k=some (.cells true g sz cs))(hr:q+r<=cs.length):TT h nx k q r=cO (rem h k) nx (.cells true g sz ((cs.drop q).take r)):=by
 unfold TT;rw[hk];simp only[Nat.ble_eq_true_of_le hr]
def sR (n i:Nat):List Int:=(List.range n).map fun(t:Nat)=>if t<i then(t:Int)else 0
theorem WD (n i:Nat):(sR n i).length=n:=by unfold sR;rw[List.length_map,List.length_range]
theorem aGp (n:Nat):List.replicate n 0=sR n 0:=by
 unfold sR;apply List.ext_getElem?;intro i;rw[List.getElem?_map,List.getElem?_replicate];by_cases h:i<n
 ·rw[if_pos h,List.getElem?_range h];rfl
 rw[if_neg h,List.getElem?_eq_none (by rw[List.length_range];omega)];rfl
theorem aFE (n:Nat):sR n n=fM n:=by
 unfold sR fM;exact List.map_congr_left fun t ht=>if_pos (List.mem_range.1 ht)
theorem aFA {n i:Nat}(h:i<n):sR n (i+1)=(sR n i).set i i:=by
 unfold sR;apply List.ext_getElem?;intro t;rw[List.getElem?_map,List.getElem?_set,List.length_map,List.length_range,List.getElem?_map];by_cases ht:t<n
 ·rw[List.getElem?_range ht];by_cases e:i=t
  ·subst e;rw[if_pos rfl,if_pos ht];show some (if i<i+1 then(i:Int)else 0)=_;rw[if_pos aa]
  rw[if_neg e];show some (if t<i+1 then(t:Int)else 0)=some (if t<i then(t:Int)else 0);by_cases h2:t<i
  ·rw[if_pos h2,if_pos aa]
  rw[if_neg h2,if_neg aa]
 rw[List.getElem?_eq_none (by rw[List.length_range];omega),if_neg aa];rfl
def aFs (N c:Nat)(j:Int):List (Nat × Value):=[(1,pV 1),(2,pV 2),(5,pV 3),(23,ak 0 N c),(24,iv N),(25,iv j)]
def aNk (N:Nat)(j:Int):List (Nat × Value):=[(1,pV 1),(2,pV 2),(5,pV 3),(8,pV 5),(9,bX 6 N),(51,bX 6 N),(52,iv N),(53,iv j)]
def aCC (l:List gC)(c:Nat)(D:List Pt)(x:List Int):Heap:=(6,aq 1 (flat aW.fl x))::(5,aq 1 [.func (.func 118) #[] #[pV 3]])::(4,aq 2 (flat aX.fl D))::u6 l c (bX 4 D.length) aI
def aEa (N:Nat)(j:Int):List (Nat × Value):=[(1,pV 1),(2,pV 2),(5,pV 3),(9,bX 6 N),(11,pV 7),(65,bX 6 N),(66,iv N),(67,iv j)]
theorem WO:∀(l:List Ed) (i:Nat) (a b:Int),i<l.length->bU (bU (flat bS.fl l) (i*5+2) [iv a]) (i*5+3) [iv b]=flat bS.fl (l.set i ⟨(aU l i).a,(aU l i).b,a,b,(aU l i).n⟩)
 |[],i,a,b,h=>by cases h
 |e::r,0,a,b,h=>rfl
 |e::r,i+1,a,b,h=>by
  have ih:=WO r i a b (by simpa using h);rw[List.set_cons_succ];show _=bS.fl e++flat bS.fl (r.set i ⟨(aU r i).a,(aU r i).b,a,b,(aU r i).n⟩);rw[<- ih,(aa:(i+1)*5+2=(i*5+2)+5),(aa:(i+1)*5+3=(i*5+3)+5)];rfl
def oQ (l:List gC):Int:=if sU (aQ l) (aR l)=false then 20 else if 400<(aQ l).length\/100<(bG (aQ l) (aR l)).many then 2 else if nC (bG (aQ l) (aR l))=false\/(bG (aQ l) (aR l)).many<1\/l.length<3 then 20 else 0
theorem MB {l:List gC}(h:sU (aQ l) (aR l)=false):oQ l=20:=if_pos h
theorem aEJ {l:List gC}(h:sU (aQ l) (aR l)=true)(h2:400<(aQ l).length\/100<(bG (aQ l) (aR l)).many):oQ l=2:=by
 unfold oQ;rw[if_neg (by rw[h];decide),if_pos h2]
theorem L4 {l:List gC}(h:sU (aQ l) (aR l)=true)(h2:¬(400<(aQ l).length\/100<(bG (aQ l) (aR l)).many))(h3:nC (bG (aQ l) (aR l))=false\/(bG (aQ l) (aR l)).many<1\/l.length<3):oQ l=20:=by
 unfold oQ;rw[if_neg (by rw[h];decide),if_neg h2,if_pos h3]
theorem aFP {l:List gC}(h:sU (aQ l) (aR l)=true)(h2:¬(400<(aQ l).length\/100<(bG (aQ l) (aR l)).many))(h3:¬(nC (bG (aQ l) (aR l))=false\/(bG (aQ l) (aR l)).many<1\/l.length<3)):oQ l=0:=by
 unfold oQ;rw[if_neg (by rw[h];decide),if_neg h2,if_neg h3]
def lQ (l:List gC):List Ed:=wP (aR l) (bG (aQ l) (aR l)).face (aR l).length
def vA (l:List gC):Value:=.tuple #[.agg #[bX 0 (aQ l).length,bX 1 (aR l).length,iv (bG (aQ l) (aR l)).many],bX 2 l.length,iv 0]
def hA (l:List gC):Heap:=[(0,aq 2 (flat aX.fl (aQ l))),(1,aq 5 (flat bS.fl (lQ l))),(2,aq 1 (flat aW.fl (cL l)))]
def aPn (l:List gC):KE:=fun v h nx=>(oQ l≠0/\v=.tuple #[.agg #[aI,aI,iv 0],aI,iv (oQ l)])\/(oQ l=0/\BX (vA l) (hA l) 3 v h nx)
def aPI:Nat->Nat
 |0=>4
 |1=>8
 |2=>6
 |k=>k
def aGP (l:List gC)(j:Int):List (Nat × Value):=[(2,pV 2),(5,pV 3),(9,bX 6 l.length),(15,pV 14),(16,iv (bG (aQ l) (aR l)).many),(131,iv (aR l).length),(132,iv j)]
def U3 (l:List gC)(c:Nat)(M:List Ed):Heap:=[(8,aq 5 (flat bS.fl M)),(3,aq 1 [bX 4 (aQ l).length,bX 8 (aR l).length,iv 0]),(2,dK),(4,aq 2 (flat aX.fl (aQ l))),(6,aq 1 (flat aW.fl (cL l))),
 (14,aq 1 [bX 4 (aQ l).length,bX 8 (aR l).length,iv 0,bX 16 (aA l c).D.length,bX 15 (aA l c).ls.length,bX 2010 (aA l c).D.length]),(2010,aq 1 (flat aW.fl (bG (aQ l) (aR l)).face))]
theorem aFJ (m:List Ed)(fc:List Int){i k:Nat}(h:i<=k):aU (wP m fc i) k=aU m k:=by
 induction i with
 |zero=>rfl
 |succ i ih =>
  unfold wP aU;rw[List.getD_eq_getElem?_getD,List.getElem?_set,if_neg aa,<- List.getD_eq_getElem?_getD];exact ih aa
theorem aGs {l:List gC}{c:Nat}{M:List Ed}:D3 (U3 l c M) 2011:=by
 have hsl:∀{q a b:Nat},q<2011->wM 2011 (.slice (some ⟨q,0,none⟩) a b):=fun{q a b} hq=>⟨hq,fun h=>by cases h⟩;refine cJ (cJ (cJ (cJ (cJ (cJ (cJ (fun k o hk=>by cases hk) aa (aE (aC _ _))) aa ⟨rfl,rfl,rfl,rfl,?_⟩) aa (aE (aC _ _))) aa (aE (aC _ _))) aa (aE rfl)) aa ⟨rfl,rfl,rfl,rfl,?_⟩) aa (aE (aC _ _))
 ·exact ae.2 ⟨hsl aa,ae.2 ⟨hsl aa,ae.2 ⟨bM rfl,ae.2 ⟨hsl aa,ae.2 ⟨hsl aa,ae.2 ⟨hsl aa,fun _ h=>(by cases h)⟩⟩⟩⟩⟩⟩
 exact ae.2 ⟨hsl aa,ae.2 ⟨hsl aa,ae.2 ⟨bM rfl,fun _ h=>(by cases h)⟩⟩⟩
theorem aFp {l:List gC}{c:Nat}(k:Nat)(o:bV)(hk:aw (U3 l c (aR l)) k=some o):aw (J7 (aA l c)) k=some o:=by
 unfold U3 at hk;have hm:=aT hk;simp only[List.mem_cons,List.not_mem_nil,or_false]at hm;rcases hm with h|h|h|h|h|h|h <;> (injection h with e1 e2;subst e1 e2)
 ·rw[lM aa];rfl
 ·rw[lM aa];rfl
 ·rw[lM aa];rfl
 ·rw[lM aa];rfl
 ·rw[lM aa];rfl
 ·rfl
 rfl
theorem w50 (l:List gC)(c:Nat)(hl:1<=l.length)(hl2:l.length<=400)(hok:aMM (aQ l) (aR l)/\1<=(aQ l).length/\vV (aQ l) (bA (aQ l) (aR l) (aR l).length) (outs (aQ l) (aR l))=true/\RJ (bA (aQ l) (aR l) (aR l).length) (outs (aQ l) (aR l))=true/\S4 (bA (aQ l) (aR l) (aR l).length) (outs (aQ l) (aR l))=true)(hP6:(aQ l).length<=1000000)(hin:∀ i,i<l.length->0<=aG (cL l) i/\aG (cL l) i<l.length):aLg aQ9 [116] 50 [ak 0 l.length c] [(0,au 6 (flat DM.fl l))] 1 (aPn l):=by
 ((conv=>whnf);apply bm<;>intro g1)
 ·exfalso;simp[aB,aF]at g1;omega
 (conv=>whnf);refine⟨fun q e h nx=>∃(i:Nat) (j:Int),j=i/\i<=l.length/\q=l.length - i/\e=aFs l.length c j/\((i=0/\h=u6 l c aI aI/\nx=4)\/(0<i/\(∃ k P,k=2*i/\P=V7 l i/\h=(4,aq 2 (flat aX.fl P))::u6 l c (bX 4 k) aI)/\nx=5)),⟨l.length,?_⟩,?_⟩
 ·exact aJ (h0:=u6 l c aI aI) (n0:=4) ⟨0,0,rfl,Nat.zero_le _,rfl,rfl,.inl ⟨rfl,rfl,rfl⟩⟩
 rintro q e h nx ⟨i,j,hj,hi,rfl,rfl,⟨hi0,rfl,rfl⟩|⟨hip,⟨k,P,hk,hP,rfl⟩,rfl⟩⟩
 ·subst hi0;unfold aFs u6 dK;(conv=>whnf);refine bt ?_
  repeat' first
   |(((conv=>whnf);apply bm<;>intro g))
   |((conv=>whnf)
     refine eZ (aOo l (i:=0) aa ?_) ?_
     ·show _+Int.toNat j*6=_;omega)
  all_goals first
   |(exfalso;simp[aB,aF,aN]at g;omega)
   |skip
  (conv=>whnf);refine⟨l.length - 1,aa,?_⟩;refine bC (e0:=aFs l.length c (j+1)) (h0:=(4,aq 2 (flat aX.fl (V7 l 1)))::u6 l c (bX 4 2) aI) (n0:=5) [(4,6)] ⟨1,_,aa,aa,rfl,rfl,.inr ⟨Nat.one_pos,⟨2,_,rfl,rfl,rfl⟩,rfl⟩⟩ (hh:=?_)
  ·unfold u6 dK bX;refine ae.2 ⟨⟨ab,_,rfl,aK (aC _ _) rfl⟩,?_⟩;exact xH
 have hPl:P.length=k:=(by rw[hP,RZ,hk]);unfold aFs u6 dK bX;((conv=>whnf);apply bm<;>intro h1)
 ·have hlt:i<l.length:=by simp[aB,aF]at h1;omega
  repeat' first
   |((conv=>whnf)
     refine bm2 (k:=k) ?_)
   |(((conv=>whnf);apply bm<;>intro g))
   |((conv=>whnf)
     refine eZ (aOo l (i:=i) aa ?_) ?_
     ·show _+Int.toNat j*6=_;omega)
  all_goals first
   |(exfalso;simp[aB,aF,aN]at g;omega)
   |skip
  ·(conv=>whnf);refine⟨l.length - (i+1),aa,?_⟩;refine bC (e0:=aFs l.length c (j+1)) (h0:=(4,aq 2 (flat aX.fl (V7 l (i+1))))::u6 l c (bX 4 (k+2)) aI) (n0:=5) [(4,7)] ⟨i+1,_,aa,aa,rfl,rfl,.inr ⟨aa,⟨k+2,_,aa,rfl,rfl⟩,rfl⟩⟩ (hh:=?_)
   ·unfold u6 dK bX;refine ae.2 ⟨⟨ab,_,rfl,aK (aC _ _) ?_⟩,?_⟩
    ·rw[V7,<- hP];have hg:=KC aX P (gF l i).a (gF l i).b (n:=k) hPl.symm;rw[<- hg];rfl
    exact xH
  exact aB6 (by rw[aO,hPl];rfl) aa g
 have hge:i=l.length:=(by simp[aB,aF]at h1;omega);have hPe:P=V7 l l.length:=(by rw[hP,hge]);(conv=>whnf);refine⟨4,k,[],P,fM k,by rw[eH];rfl,?_,?_,?_⟩
 ·rw[XX,<- hPl,VO];rfl
 ·exact aA4 rfl
 rw[show WV 1000 (.pnts P) (fM k) [] k=some (true,kO (.pnts P) 1000 (fM k))from by
  show some (decide ((fM k).length<=1000)&&decide ((fM k).length<=1000000)&&kJ (.pnts P) (fM k),_)=_;rw[eH,aA7 (D:=.pnts P) (by show k<=P.length;omega),ai aa,ai aa];rfl]
 simp only[XX];have hSl:(HM P (kO (.pnts P) 1000 (fM k))).length=k:=(by unfold HM;rw[List.length_map,qQ,eH]);have hSe:HM P (kO (.pnts P) 1000 (fM k))=HV (V7 l l.length):=(by rw[<- hPe,HV,hPl]);generalize HM P (kO (.pnts P) 1000 (fM k))=S at hSl hSe;refine aM rfl ?_;(conv=>whnf);refine⟨S,hSl.symm,rfl,rfl,?_⟩;rw[show SCo S ([].append #[].toList) k=some (true,some (nH S S.length).length,flat aX.fl (nH S S.length)++rep (S.length - (nH S S.length).length) [iv 0,iv 0])from by
  show some (decide (S.length<=1000000)&&decide (S.length<=k),_)=_;rw[ai aa,ai aa];rfl]
 have hDe:nH S S.length=aQ l:=(by rw[hSe];rfl);have hDl:=DK S S.length;have hD1:1<=(nH S S.length).length:=aAQ aa;have hzl:(rep (S.length - (nH S S.length).length) [iv 0,iv 0]).length=(S.length - (nH S S.length).length)*2:=(by rw[uN];rfl);generalize rep (S.length - (nH S S.length).length) [iv 0,iv 0]=Z at hzl;generalize nH S S.length=D at hDe hDl hD1 hzl;refine aM rfl ?_;obtain⟨d0,D',hDc⟩:∃ d0 D',D=d0::D':=(by cases D with|nil=>simp at hD1|cons a r=>exact⟨a,r,rfl⟩);rw[hDc];((conv=>whnf);apply bm<;>intro b1)
 ·rw[aF9 (g:=false) (sz:=2) (cs:=flat aX.fl (d0::D')++Z)]
  ·rw[<- hDc];rw[<- hDc]at b1;clear hDc;(conv=>whnf);refine bu fun b2=>?_;(conv=>whnf);refine⟨fun q e h nx=>∃(i:Nat) (j:Int),j=i/\i<=l.length/\q=l.length - i/\e=aNk l.length j/\h=aCC l c D (sR l.length i)/\nx=7,⟨l.length,?_⟩,?_⟩
   ·refine bC (h0:=aCC l c D (sR l.length 0)) (n0:=7) [(4,5),(5,6),(6,7)] ⟨0,0,rfl,Nat.zero_le _,rfl,rfl,rfl,rfl⟩ (hh:=?_)
    ·unfold aCC u6 dK bX;refine ae.2 ⟨⟨ab,_,rfl,aK (aC _ _) ?_⟩,ae.2 ⟨⟨ab,_,rfl,pT (by decide) rfl⟩,ae.2 ⟨⟨ab,_,rfl,aK (aC _ _) ?_⟩,?_⟩⟩⟩
     ·show rep l.length [iv 0]=_;rw[EY,aGp]
     ·show((flat aX.fl D++Z).drop 0).take (D.length*2)=_;rw[List.drop_zero,List.take_left' (yE D)]
     exact xH
   clear h1 hip hge hi hj b1 b2 hk hP hPe hSe hSl hzl hDl;rintro q e h nx ⟨i,j,hj,hi,rfl,rfl,rfl,rfl⟩;have hxl:(sR l.length i).length=l.length:=WD _ _;unfold aNk aCC u6 dK bX;((conv=>whnf);apply bm<;>intro h1)
   ·have hlt:i<l.length:=by simp[aB,aF]at h1;omega
    repeat' first
     |(((conv=>whnf);apply bm<;>intro g))
    all_goals first
     |(exfalso;simp[aB,aF,aN]at g;omega)
     |(exfalso
       have hb:Nat.ble (0+Int.toNat j*1+1) (flat aW.fl (sR l.length i)).length=true:=Nat.ble_eq_true_of_le (by rw[aO,hxl];show _<=l.length*1;omega);exact Bool.false_ne_true (g.symm.trans hb))
     |skip
    (conv=>whnf);refine⟨l.length - (i+1),aa,?_⟩;refine bC (e0:=aNk l.length (j+1)) (h0:=aCC l c D (sR l.length (i+1))) (n0:=7) [] ⟨i+1,_,aa,aa,rfl,rfl,rfl,rfl⟩ (hh:=?_)
    ·unfold aCC u6 dK bX;refine ae.2 ⟨⟨ab,_,rfl,aK (aC _ _) ?_⟩,ae.2 ⟨⟨ab,_,rfl,pT (by decide) rfl⟩,ae.2 ⟨⟨ab,_,rfl,aE (aC _ _)⟩,?_⟩⟩⟩
     ·show bU (flat aW.fl (sR l.length i)) (0+Int.toNat j*1) [iv j]=_;rw[(aa:0+Int.toNat j*1=i*1),gB _ _ _ (by rw[hxl];exact hlt),aFA hlt,hj]
     exact xH
   have hge:i=l.length:=(by simp[aB,aF]at h1;omega);(conv=>whnf);refine⟨6,l.length,[],(7,0),fM l.length,.ords D l,by rw[eH];rfl,by rw[hge,aFE];rfl,aA4 rfl,?_,?_⟩
   ·exact⟨5,1,true,false,1,[],rfl,3,true,false,1,[],rfl,⟨4,D.length,true,false,1,[aI,iv 0],true,false,2,_,rfl,rfl,List.take_length⟩,⟨0,c,true,false,1,[],false,true,6,_,rfl,rfl,List.take_length⟩⟩
   have hO:kO (.ords D l) 1000 (fM l.length)=cL l:=(by rw[hDe];rfl);rw[show zX 1000 (.ords D l) (fM l.length) [] l.length=some (true,cL l)from by
    show some (decide ((fM l.length).length<=1000)&&decide ((fM l.length).length<=1000000)&&kJ (.ords D l) (fM l.length)&&(decide (D.length<=1000000)&&decide (l.length<=1000000)),_)=_;rw[eH,aA7 (n:=l.length) (D:=.ords D l) (ah _),ai aa,ai aa,ai (show D.length<=1000000 by rw[hDe];exact hP6),hO];rfl]
   have hOl:(cL l).length=l.length:=(by rw[<- hO,qQ,eH]);refine aM rfl ?_;(conv=>whnf);clear hO h1 hj;subst hDe;refine⟨fun q e h nx=>∃(i:Nat) (j:Int),j=i/\i<=l.length/\q=l.length - i/\e=aEa l.length j/\((i=0/\h=HB l c aI/\nx=8)\/(0<i/\(∃ k M,k=i/\M=((cL l).take i).map (edA l)/\h=(8,aq 5 (flat bS.fl M))::HB l c (bX 8 k))/\nx=10)),⟨l.length,?_⟩,?_⟩
   ·refine aJ (h0:=HB l c aI) (n0:=8) ⟨0,0,rfl,Nat.zero_le _,rfl,rfl,.inl ⟨rfl,rfl,rfl⟩⟩ (hh:=?_)
    ·unfold HB u6 dK bX;refine ae.2 ⟨⟨ab,_,rfl,zK (by decide) (by decide) rfl rfl⟩,ae.2 ⟨⟨ab,_,rfl,aE (aC _ _)⟩,ae.2 ⟨⟨ab,_,rfl,pT (by decide) rfl⟩,?_⟩⟩⟩;exact xH
   clear hi hge hxl;have hE:∀(h:Heap) (r0:List Value),aw h 5=some (aq 1 [.func (.func 118) #[] #[pV 3]])->aw h 3=some (aq 1 (ak 4 (aQ l).length (aQ l).length::r0))->aw h 4=some (aq 2 (flat aX.fl (aQ l)))->aw h 1=some (aq 1 [ak 0 l.length c])->aw h 0=some (au 6 (flat DM.fl l))->VU h 5 1 (aQ l) l:=fun h r0 e5 e3 e4 e1 e0=>⟨3,true,false,1,[],e5,⟨4,(aQ l).length,true,false,1,r0,true,false,2,_,e3,e4,List.take_length⟩,⟨0,c,true,false,1,[],false,true,6,_,e1,e0,List.take_length⟩⟩;rintro q e h nx ⟨i,j,hj,hi,rfl,rfl,⟨hi0,rfl,rfl⟩|⟨hip,⟨k,M,hk,hM,rfl⟩,rfl⟩⟩
   ·subst hi0;unfold aEa HB u6 dK bX;(conv=>whnf);refine bt ?_;have hx:=hin 0 aa
    repeat' first
     |(((conv=>whnf);apply bm<;>intro g))
     |((conv=>whnf)
       refine fD (dY (cL l) (i:=0) aa ?_) ?_
       ·show _+Int.toNat j*1=_;omega)
     |((conv=>whnf)
       refine⟨_,5,1,aQ l,l,rfl,hE _ _ rfl rfl rfl rfl rfl,aM ?_ ?_⟩
       ·unfold okE;rw[ai hx.1,ai hx.2,ai hP6,ai (aa:l.length<=1000000)];rfl)
     |((conv=>whnf)
       refine fD (WK l (i:=(aG (cL l) 0).toNat) (k:=4) aa rfl ?_) ?_
       ·show _+Int.toNat (aG (cL l) 0)*6+4=_;omega)
    all_goals first
     |(exfalso;simp[aB,aF,aN]at g;omega)
     |skip
    (conv=>whnf);refine⟨l.length - 1,aa,?_⟩;refine bC (e0:=aEa l.length (j+1)) (h0:=(8,aq 5 (flat bS.fl (((cL l).take 1).map (edA l))))::HB l c (bX 8 1)) (n0:=10) [(8,10)] ⟨1,_,aa,aa,rfl,rfl,.inr ⟨Nat.one_pos,⟨1,_,rfl,rfl,rfl⟩,rfl⟩⟩ (hh:=?_)
    ·unfold HB u6 dK bX;refine ae.2 ⟨⟨ab,_,rfl,aK (aC _ _) ?_⟩,ae.2 ⟨⟨ab,_,rfl,zK (by decide) (by decide) rfl rfl⟩,ae.2 ⟨⟨ab,_,rfl,aE (aC _ _)⟩,ae.2 ⟨⟨ab,_,rfl,pT (by decide) rfl⟩,?_⟩⟩⟩⟩
     ·rw[AN l (i:=0) aa];rfl
     exact xH
   have hMl:M.length=k:=(by rw[hM,List.length_map,List.length_take,hOl,hk];omega);unfold aEa;((conv=>whnf);apply bm<;>intro h1)
   ·have hlt:i<l.length:=(by simp[aB,aF]at h1;omega);have hx:=hin i hlt;unfold HB u6 dK bX
    repeat' first
     |((conv=>whnf)
       refine YX (k:=k) ?_)
     |(((conv=>whnf);apply bm<;>intro g))
     |((conv=>whnf)
       refine fD (dY (cL l) (i:=i) aa ?_) ?_
       ·show _+Int.toNat j*1=_;omega)
     |((conv=>whnf)
       refine⟨_,5,1,aQ l,l,rfl,hE _ _ rfl rfl rfl rfl rfl,aM ?_ ?_⟩
       ·unfold okE;rw[ai hx.1,ai hx.2,ai hP6,ai (aa:l.length<=1000000)];rfl)
     |((conv=>whnf)
       refine fD (WK l (i:=(aG (cL l) i).toNat) (k:=4) aa rfl ?_) ?_
       ·show _+Int.toNat (aG (cL l) i)*6+4=_;omega)
    all_goals first
     |(exfalso;simp[aB,aF,aN]at g;omega)
     |exact iP (by rw[aO,hMl];rfl) aa g
     |skip
    (conv=>whnf);refine⟨l.length - (i+1),aa,?_⟩;refine bC (e0:=aEa l.length (j+1)) (h0:=(8,aq 5 (flat bS.fl (((cL l).take (i+1)).map (edA l))))::HB l c (bX 8 (k+1))) (n0:=10) [(8,12)] ⟨i+1,_,aa,aa,rfl,rfl,.inr ⟨aa,⟨k+1,_,aa,rfl,rfl⟩,rfl⟩⟩ (hh:=?_)
    ·unfold HB u6 dK bX;refine ae.2 ⟨⟨ab,_,rfl,aK (aC _ _) ?_⟩,ae.2 ⟨⟨ab,_,rfl,zK (by decide) (by decide) rfl rfl⟩,ae.2 ⟨⟨ab,_,rfl,aE (aC _ _)⟩,ae.2 ⟨⟨ab,_,rfl,pT (by decide) rfl⟩,?_⟩⟩⟩⟩
     ·rw[AN l (i:=i) aa,<- hM];have hg:=cT bS M (edA l (aG (cL l) i)) (n:=k) hMl.symm;rw[<- hg];rfl
     exact xH
   have hge:i=l.length:=(by simp[aB,aF]at h1;omega);have hMe:M=aR l:=(by rw[hM,hge,aR,<- hOl,List.take_length]);clear hM;subst hMe;subst hMl;clear h1 hj hi hip hE;rw[show(8,aq 5 (flat bS.fl (aR l)))::HB l c (bX 8 (aR l).length)=hB l c from rfl];(conv=>whnf);refine⟨_,_,_,_,_,_,GJ,⟨aQ l,aR l,0,_,_,hok.1,rfl,rfl,rfl,rfl,rfl,rfl⟩,aRv,?_⟩;rw[show fJ (sX 2 GJ 10) (ao 4)=pV 14 from by simp[fJ,tr,eK,cF,eM,j4,sX]];rw[show app (shT (sX 2 GJ 10) 10 (YE (aQ l) (aR l) (aQ l).length (aR l).length 0)) (hB l c)=_ from aP6];(conv=>whnf);rw[aAw (aa:1<10)];((conv=>whnf);apply bm<;>intro b3);rotate_left
   ·exfalso;simp[aB,aF]at b3;rw[b3]at hl;simp at hl
   have hW:AM ((14,AQ (aA l c) aI)::pY l c) 14 4 8 16 15 0 (fun i=>10+(i+1000)) (aQ l) (bA (aQ l) (aR l) (aR l).length) (outs (aQ l) (aR l)) (aR l).length (aQ l).length (aR l).length 0 none:=aDS.at (bc (fun _ _ h=>h) aKn) rfl;(conv=>whnf);refine⟨14,[],4,8,16,15,0,(fun i=>10+(i+1000)),aQ l,bA (aQ l) (aR l) (aR l).length,outs (aQ l) (aR l),(aR l).length,(aQ l).length,(aR l).length,0,none,rfl,hW,?_⟩;rw[show cnS (aQ l) (bA (aQ l) (aR l) (aR l).length) (outs (aQ l) (aR l)) []=some (true,.bool (sU (aQ l) (aR l)))from by
    unfold cnS;rw[vQ hok.2.2.1,hok.2.2.2.2,fV,ai hok.2.1];rfl]
   refine aM rfl ?_;((conv=>whnf);apply bm<;>intro b4)
   ·have hc:sU (aQ l) (aR l)=false:=by
     have b4:(!sU (aQ l) (aR l))=true:=b4;simpa using b4
    (conv=>whnf);rw[aAw (aa:2<10)];(conv=>whnf);rw[jP];(conv=>whnf);exact .inl ⟨by rw[MB hc];decide,by rw[MB hc];rfl⟩
   have hc:sU (aQ l) (aR l)=true:=by
    have b4:(!sU (aQ l) (aR l))=false:=b4;simpa using b4
   (conv=>whnf);refine⟨aA l c,aON (by have:=hok.1.1;omega) hok.2.2.1 hok.2.2.2.1,rfl,rfl,rfl,?_⟩;(conv=>whnf);rw[lM (aa:3<10)];have key:∀ a b,aB.A.eqB (aB.A.lt a b) false=true->aB.A.lt a b=false:=fun a b h=>(by simpa[aB,aF]using h);((conv=>whnf);apply bm<;>intro b5);rotate_left
   ·exfalso;have:=hok.1.1;simp[aB,aF]at b5;omega
   have hp4:(aQ l).length<=400:=(by simp[aB,aF]at b5;omega);((conv=>whnf);apply bm<;>intro b6)
   ·have hm:100<(bG (aQ l) (aR l)).many:=by
     have b6:decide (100<(bG (aQ l) (aR l)).many)=true:=b6;simpa using b6
    (conv=>whnf);rw[lM (aa:2<10)];(conv=>whnf);rw[jP];(conv=>whnf);exact .inl ⟨by rw[aEJ hc (.inr hm)];decide,by rw[aEJ hc (.inr hm)];rfl⟩
   have hm:¬ 100<(bG (aQ l) (aR l)).many:=by
    have b6:decide (100<(bG (aQ l) (aR l)).many)=false:=b6;simpa using b6
   have hl4:¬(400<(aQ l).length\/100<(bG (aQ l) (aR l)).many):=fun h=>h.elim (fun h=>by omega) hm;((conv=>whnf);apply bm<;>intro b7);rotate_left
   ·have e20:oQ l=20:=L4 hc hl4 (.inl (by
     have b7:((!nC (bG (aQ l) (aR l))) == false)=false:=b7;simpa using b7))
    (conv=>whnf);rw[lM (aa:2<10)];(conv=>whnf);rw[jP];(conv=>whnf);exact .inl ⟨by rw[e20];decide,by rw[e20];rfl⟩
   have hno:nC (bG (aQ l) (aR l))=true:=by
    have b7:((!nC (bG (aQ l) (aR l))) == false)=true:=b7;simpa using b7
   ((conv=>whnf);apply bm<;>intro b8);rotate_left
   ·have e20:oQ l=20:=L4 hc hl4 (.inr (.inl (by
     have b8:(decide ((bG (aQ l) (aR l)).many<1) == false)=false:=b8;simpa using b8)))
    (conv=>whnf);rw[lM (aa:2<10)];(conv=>whnf);rw[jP];(conv=>whnf);exact .inl ⟨by rw[e20];decide,by rw[e20];rfl⟩
   have hm1:¬(bG (aQ l) (aR l)).many<1:=by
    have b8:(decide ((bG (aQ l) (aR l)).many<1) == false)=true:=b8;simpa using b8
   (conv=>whnf);rw[lM (aa:1<10)];((conv=>whnf);apply bm<;>intro b9)
   ·have e20:oQ l=20:=L4 hc hl4 (.inr (.inr (by simp[aB,aF]at b9;omega)));(conv=>whnf);rw[lM (aa:2<10)];(conv=>whnf);rw[jP];(conv=>whnf);exact .inl ⟨by rw[e20];decide,by rw[e20];rfl⟩
   have e0:oQ l=0:=aFP hc hl4 fun h=>by
    rcases h with h|h|h
    ·rw[hno]at h;cases h
    ·exact hm1 h
    simp[aB,aF]at b9;omega
   clear b3 b4 b5 b6 b7 b8 b9 hW key;(conv=>whnf);rw[lM (aa:3<10)];(conv=>whnf);have hMl:(aR l).length=l.length:=(by rw[hk,hge]);have hfl:(bG (aQ l) (aR l)).face.length=2*(aR l).length:=by
    have:=(mD (aQ l) (bA (aQ l) (aR l) (aR l).length) (outs (aQ l) (aR l)) (bA (aQ l) (aR l) (aR l).length).length).1;exact this.trans (bT (aQ l) (aR l) (aR l).length)
   have hDl:(aA l c).D.length=2*(aR l).length:=bT (aQ l) (aR l) (aR l).length;have hp1:(aQ l).length<=400:=hok.1.1;clear hge hk hin hok;refine⟨fun q e h nx=>∃(i:Nat) (j:Int),j=i/\i<=(aR l).length/\q=(aR l).length - i/\e=aGP l j/\h=U3 l c (wP (aR l) (bG (aQ l) (aR l)).face i)/\nx=2011,⟨(aR l).length,?_⟩,?_⟩
   ·refine E6 (e0:=aGP l 0) (h0:=U3 l c (wP (aR l) (bG (aQ l) (aR l)).face 0)) (n0:=2011) ⟨0,0,rfl,Nat.zero_le _,rfl,rfl,rfl,rfl⟩ ?_ ?_ aGs aa
    ·unfold aGP;exact xE
    exact aFp
   rintro q e h nx ⟨i,j,hj,hi,rfl,rfl,rfl,rfl⟩;have hgl:(wP (aR l) (bG (aQ l) (aR l)).face i).length=(aR l).length:=vJ _ _ _;unfold aGP U3 bX;((conv=>whnf);apply bm<;>intro h1);rotate_left
   ·have hge:i=(aR l).length:=(by simp[aB,aF]at h1;omega);(conv=>whnf);subst hge;refine .inr ⟨e0,aPI,fun t u hu=>?_,fun k o hk=>?_,fun k k' o o' hk hk' e=>?_,fun k hk=>absurd hk (Nat.not_lt_zero k),aa⟩
    ·have hm:=aT hu;simp only[List.mem_cons,List.not_mem_nil,or_false]at hm;injection hm with e1 e2;subst e1 e2;refine⟨by simp[vA,bX,fJ,tr,eK,cF,eM,j4,aPI];rfl,?_⟩;have hsl:∀{q a b:Nat},q<3->wM 3 (.slice (some ⟨q,0,none⟩) a b):=fun{q a b} hq=>⟨hq,fun h=>by cases h⟩;exact ae.2 ⟨ae.2 ⟨hsl aa,ae.2 ⟨hsl aa,ae.2 ⟨bM rfl,fun _ h=>(by cases h)⟩⟩⟩,ae.2 ⟨hsl aa,ae.2 ⟨dH (bM rfl),fun _ h=>(by cases h)⟩⟩⟩
    ·have hm:=aT hk;unfold hA at hm;simp only[List.mem_cons,List.not_mem_nil,or_false]at hm;rcases hm with h|h|h <;> (injection h with e1 e2;subst e1 e2;exact⟨aa,_,rfl,aE (aC _ _)⟩)
    have hm:=aT hk;have hm':=aT hk';unfold hA at hm hm';simp only[List.mem_cons,List.not_mem_nil,or_false]at hm hm';rcases hm with h|h|h <;> rcases hm' with h'|h'|h' <;> (injection h with e1 e2;injection h' with e3 e4;subst e1 e3;first|rfl|(exfalso;revert e;decide))
   have hlt:i<(aR l).length:=by simp[aB,aF]at h1;omega
   repeat' first
    |(((conv=>whnf);apply bm<;>intro g))
    |((conv=>whnf)
      refine fD (dY (bG (aQ l) (aR l)).face (i:=2*i) aa ?_) ?_
      ·show _+Int.toNat (2*j)*1=_;omega)
    |((conv=>whnf)
      refine fD (dY (bG (aQ l) (aR l)).face (i:=2*i+1) aa ?_) ?_
      ·show _+Int.toNat (2*j+1)*1=_;omega)
   all_goals first
    |(exfalso;simp[aB,aF,aN]at g;omega)
    |(exfalso;simp[aB,aF,hDl]at g;omega)
    |(exfalso
      have hb:Nat.ble (0+Int.toNat j*5+2+1) (flat bS.fl (wP (aR l) (bG (aQ l) (aR l)).face i)).length=true:=Nat.ble_eq_true_of_le (by rw[aO,hgl];show _<=(aR l).length*5;omega);exact Bool.false_ne_true (g.symm.trans hb))
    |(exfalso
      have hb:Nat.ble (0+Int.toNat j*5+3+1) (bU (flat bS.fl (wP (aR l) (bG (aQ l) (aR l)).face i)) (0+Int.toNat j*5+2) [iv (aG (bG (aQ l) (aR l)).face (2*i))]).length=true:=Nat.ble_eq_true_of_le (by
       rw[cG (by rw[aO,hgl];show 0+Int.toNat j*5+2+1<=(aR l).length*5;omega),aO,hgl];show _<=(aR l).length*5;omega)
      exact Bool.false_ne_true (g.symm.trans hb))
    |skip
   (conv=>whnf);refine⟨(aR l).length - (i+1),aa,?_⟩;refine aJ (e0:=aGP l (j+1)) (h0:=U3 l c (wP (aR l) (bG (aQ l) (aR l)).face (i+1))) (n0:=2011) ⟨i+1,_,aa,aa,rfl,rfl,rfl,rfl⟩ (hh:=?_)
   ·unfold U3 dK bX;refine ae.2 ⟨⟨ab,_,rfl,aK (aC _ _) ?_⟩,?_⟩
    ·show bU (bU (flat bS.fl (wP (aR l) (bG (aQ l) (aR l)).face i)) (0+Int.toNat j*5+2) [iv (aG (bG (aQ l) (aR l)).face (2*i))]) (0+Int.toNat j*5+3) [iv (aG (bG (aQ l) (aR l)).face (2*i+1))]=_;rw[(aa:0+Int.toNat j*5+2=i*5+2),(aa:0+Int.toNat j*5+3=i*5+3),WO _ _ _ _ aa,wP,aFJ _ _ (ah i)]
    exact xH
  ·rfl
  show 0+(d0::D').length*2<=_;rw[List.length_append,yE];omega
 exfalso;rw[<- hDc]at b1;simp[aEC,aB,aF]at b1;omega
def inX (f:Nat):Nat × XF:=(f,fun args h nx K=>qI (aEC [] 4) 8 false f args h nx K)
theorem M7 (f:Nat):c7 Tryz.prog (inX f).1 (inX f).2:=⟨fun args h nx K hx=>(kA (CP .nil 4) 8).1 f args h nx K hx,(kA (CP .nil 4) 8).2.2.1 f⟩
def hE0 (n:Int)(c1 c2:Nat):Heap:=[(3,aq 1 [pV 4]),(4,aq 1 [ak 0 0 c1,ak 1 0 c2,iv n,aI,ak 5 0 0,aI]),(5,aq 1 [])]
theorem aOU (n:Int)(c1 c2:Nat):body [(121,OE (zX 1000))] 125 [fH 0 0 c1 c2 n] (aS aX bS [] []) 2 (fun v h nx=>v=pV 4):=by
 (conv=>whnf);refine⟨aLz [] [] n c1 c2,aBb aEg uY (O4 [] [] n c1 c2 (by decide)).h,?_⟩;rintro e h nx ⟨rfl,rfl,rfl⟩;unfold O9 oM aS;(conv=>whnf);refine⟨fun q e h nx=>q=0/\e=ML [] c2 0/\h=oM [] [] c1 c2 n/\nx=6,⟨0,?_⟩,?_⟩
 ·refine aJ (h0:=oM [] [] c1 c2 n) (n0:=6) ⟨rfl,rfl,rfl,rfl⟩ (hh:=?_)
  ·unfold oM dU aS rZ aI;refine ae.2 ⟨⟨ab,_,rfl,aE rfl⟩,?_⟩;exact xH
 rintro q e h nx ⟨rfl,rfl,rfl,rfl⟩;unfold ML oM dU aS rZ aI;(conv=>whnf);refine⟨fun q e h nx=>q=0/\e=[(3,pV 3),(89,aI),(90,iv 0),(91,iv 0)]/\h=hE0 n c1 c2/\nx=6,⟨0,?_⟩,?_⟩
 ·exact aJ (h0:=hE0 n c1 c2) (n0:=6) ⟨rfl,rfl,rfl,rfl⟩
 rintro q e h nx ⟨rfl,rfl,rfl,rfl⟩;unfold hE0 aI;(conv=>whnf);refine⟨fun q e h nx=>q=0/\e=[(3,pV 3),(118,ak 5 0 0),(119,iv 0),(120,iv 0)]/\h=hE0 n c1 c2/\nx=6,⟨0,?_⟩,?_⟩
 ·exact aJ (h0:=hE0 n c1 c2) (n0:=6) ⟨rfl,rfl,rfl,rfl⟩
 rintro q e h nx ⟨rfl,rfl,rfl,rfl⟩;unfold hE0 aI;(conv=>whnf)
def aEF:Nat × XF:=(125,fun args h nx K=>∃ p q n,args=[mapA p q n]/\eY aX h p []/\eY bS h q []/\K (pV (nx+4)) h (nx+5))
theorem aPJ:c7 Tryz.prog aEF.1 aEF.2:=by
 refine(eJ (S:=fun args0 h0 n0 v1 h1 j=>∃ n c1 c2,args0=[fH 0 0 c1 c2 n]/\h0=aS aX bS [] []/\n0=2/\v1=pV 4/\h1=[]/\j=5) (aL (xl:=[(121,OE (zX 1000))]) (.cons (TS 1000) .nil)) ?_).mono ?_ ?_
 ·rintro args0 h0 n0 v1 h1 j ⟨n,c1,c2,rfl,rfl,rfl,rfl,rfl,rfl⟩;refine⟨rfl,_,aOU n c1 c2,fun v h nx e=>?_⟩;subst e;refine⟨id,fun t u hu=>?_,fun k o hk=>cA hk,fun k k' o o' hk=>cA hk,fun _ _=>rfl,Nat.zero_le _⟩;have hm:=aT hu;simp only[List.mem_cons,List.not_mem_nil,or_false]at hm;injection hm with e1 e2;subst e1 e2;exact⟨rfl,by decide,rfl⟩
 ·rintro args h nx K ⟨p,q,n,rfl,hl,hm,hx⟩;exact⟨_,_,2,_,[],5,⟨n,oO p,oO q,rfl,rfl,rfl,rfl,rfl,rfl⟩,rQ aX bS rfl hl hm,hx⟩
 rintro args h nx K ⟨p,q,n,rfl,hl,hm,hx⟩;exact⟨_,_,_,hx,fun K' hk=>⟨p,q,n,rfl,hl,hm,hk⟩⟩
def aOR:List (Nat × XF):=[inX 115,inX 117,inX 116,inX 121,aEF]
theorem aJt:lA aOR:=.cons (M7 _) (.cons (M7 _) (.cons (M7 _) (.cons (M7 _) (.cons aPJ .nil))))
theorem aSw (c:Nat):aFf aOR 4 50 [ak 0 0 c] [(0,au 6 [])] 1 (fun v h nx=>v=.tuple #[.agg #[aI,aI,iv 0],aI,iv 20]):=by
 (conv=>whnf);refine⟨_,_,_,rfl,⟨rfl,rfl,rfl⟩,⟨rfl,rfl,rfl⟩,?_⟩;(conv=>whnf);rfl
set_option maxHeartbeats 2000000
theorem aGv {P:Program}{f:Nat}{x y:XF}(h1:c7 P f x)(h2:c7 P f y):c7 P f (fun a h n K=>x a h n K\/y a h n K):=by
 refine⟨fun a h n K hx=>hx.elim (h1.1 a h n K) (h2.1 a h n K),fun a h n K hx=>?_⟩;rcases hx with hx|hx
 ·obtain⟨v,h',n',k1,k2⟩:=h1.2 a h n K hx;exact⟨v,h',n',k1,fun K' hk=>.inl (k2 K' hk)⟩
 obtain⟨v,h',n',k1,k2⟩:=h2.2 a h n K hx;exact⟨v,h',n',k1,fun K' hk=>.inr (k2 K' hk)⟩
def HA (e:Int):Value:=.tuple #[.agg #[aI,aI,iv 0],aI,iv e]
def aMg (nx:Nat)(l:List gC):Value:=.tuple #[.agg #[bX nx (aQ l).length,bX (nx+1) (aR l).length,iv (bG (aQ l) (aR l)).many],bX (nx+2) l.length,iv 0]
def CM (l:List gC):Int:=if l.length=0 then 20 else oQ l
def aPa:XF:=fun args h nx K=>∃ l v,args=[v]/\eY DM h v l/\(1<=l.length/\l.length<=400)/\okA l/\((oQ l≠0/\K (HA (oQ l)) h nx)\/(oQ l=0/\K (aMg nx l) (app (nK nx (hA l)) h) (nx+3)))
def aOO:XF:=fun args h nx K=>∃ v,args=[v]/\eY DM h v []/\K (HA 20) h nx
theorem aIz:lA aQ9:=.cons (aQs 1000) (.cons aOQ (.cons (TS 1000) (.cons aKM (.cons aPs (.cons aLd (.cons aMm .nil))))))
theorem aSj:c7 Tryz.prog 50 aPa:=by
 refine(eJ (S:=fun args0 h0 n0 v1 h1 j=>∃ l c,(1<=l.length/\l.length<=400)/\okA l/\args0=[ak 0 l.length c]/\h0=[(0,.cells false true DM.sz (flat DM.fl l))]/\n0=1 /\
  ((oQ l≠0/\v1=HA (oQ l)/\h1=[]/\j=0)\/(oQ l=0/\v1=vA l/\h1=hA l/\j=3))) (UD aIz [116]) ?_).mono ?_ ?_
 ·rintro args0 h0 n0 v1 h1 j ⟨l,c,⟨h1',h2'⟩,hok,rfl,rfl,rfl,hc⟩;have hw:=w50 l c h1' h2' hok.2 (by have:=hok.2.1.1;omega) (fun i hi=>by
   have:=qH hok.1 (i:=i) (by rw[show(cL l).length=l.length from by unfold cL;rw[qQ,eH]];exact hi);exact this)
  rcases hc with⟨ho,rfl,rfl,rfl⟩|⟨ho,rfl,rfl,rfl⟩
  ·refine⟨rfl,_,hw,fun v h nx e=>?_⟩;rcases e with⟨_,rfl⟩|⟨e,_⟩
   ·exact gM rfl
   exact absurd e ho
  refine⟨rfl,_,hw,fun v h nx e=>?_⟩;rcases e with⟨e,_⟩|⟨_,e⟩
  ·exact absurd ho e
  exact e
 ·rintro args h nx K ⟨l,v,rfl,hl,hb,hok,hx⟩;rcases hx with⟨ho,hx⟩|⟨ho,hx⟩
  ·refine⟨_,_,1,_,[],0,⟨l,oO v,hb,hok,rfl,rfl,rfl,.inl ⟨ho,rfl,rfl,rfl⟩⟩,A8 DM hl,?_⟩;rw[lJ rfl];exact hx
  refine⟨_,_,1,_,_,_,⟨l,oO v,hb,hok,rfl,rfl,rfl,.inr ⟨ho,rfl,rfl,rfl⟩⟩,A8 DM hl,?_⟩;have e:fJ (fun k=>nx+k) (vA l)=aMg nx l:=by
   unfold vA aMg;generalize(bG (aQ l) (aR l)).many=x;generalize(aQ l).length=a;generalize(aR l).length=b;simp[bX,fJ,tr,eK,cF,eM,j4];exact⟨rfl,rfl⟩
  rw[e];exact hx
 rintro args h nx K ⟨l,v,rfl,hl,hb,hok,hx⟩;rcases hx with⟨ho,hx⟩|⟨ho,hx⟩
 ·exact⟨_,_,_,hx,fun K' hk=>⟨l,v,rfl,hl,hb,hok,.inl ⟨ho,hk⟩⟩⟩
 exact⟨_,_,_,hx,fun K' hk=>⟨l,v,rfl,hl,hb,hok,.inr ⟨ho,hk⟩⟩⟩
theorem aSL:c7 Tryz.prog 50 aOO:=by
 refine(eJ (S:=fun args0 h0 n0 v1 h1 j=>∃ c,args0=[ak 0 0 c]/\h0=[(0,.cells false true DM.sz [])]/\n0=1/\v1=HA 20/\h1=[]/\j=0) (yJ aJt 4) ?_).mono ?_ ?_
 ·rintro args0 h0 n0 v1 h1 j ⟨c,rfl,rfl,rfl,rfl,rfl,rfl⟩;exact⟨rfl,_,aSw c,fun v h nx e=>by rw[e];exact gM rfl⟩
 ·rintro args h nx K ⟨v,rfl,hl,hx⟩;refine⟨_,_,1,_,[],0,⟨oO v,rfl,rfl,rfl,rfl,rfl,rfl⟩,A8 DM hl,?_⟩;rw[lJ rfl];exact hx
 rintro args h nx K ⟨v,rfl,hl,hx⟩;exact⟨_,_,_,hx,fun K' hk=>⟨v,rfl,hl,hk⟩⟩
def X50:Nat × XF:=(50,fun a h n K=>aPa a h n K\/aOO a h n K)
theorem x50:c7 Tryz.prog X50.1 X50.2:=aGv aSj aSL
def UF (s:Sg)(ln fm:Int):gC:=if 0<iV s.1 s.2 then⟨s.2,s.1,ln,fm⟩else⟨s.1,s.2,ln,fm⟩
def aRf (p:gC):Value:=.agg #[iv p.a.1,iv p.a.2,iv p.b.1,iv p.b.2,iv p.ln,iv p.fm]
def X48:Nat × XF:=(48,gX (s3 cS cI cI fun s a b=>(true,aRf (UF s a b))))
theorem x48:c7 Tryz.prog X48.1 X48.2:=x3 cS cI cI (xl:=[Y5]) (.cons aDC .nil) (fun _ _ _=>rfl) fun s a b _=>by
 obtain⟨⟨x1,y1⟩,x2,y2⟩:=s;unfold dM;((conv=>whnf);apply bm<;>intro h1)
 ·have h1:0<iV (x1,y1) (x2,y2):=(by simpa[aB,aF]using h1);(conv=>whnf);unfold UF;rw[if_pos h1];rfl
 have h1:¬ 0<iV (x1,y1) (x2,y2):=(by simpa[aB,aF]using h1);(conv=>whnf);unfold UF;rw[if_neg h1];rfl
def jT (L:List Int)(a b:Int):Nat->List Int
 |0=>L
 |f+1=>if aG (jT L a b f) f=b then(jT L a b f).set f a else jT L a b f
theorem tU (L:List Int)(a b:Int):∀ f,(jT L a b f).length=L.length
 |0=>rfl
 |f+1=>by
  unfold jT;split
  ·rw[List.length_set];exact tU L a b f
  exact tU L a b f
def bW (m:List Ed)(ln:Int)(N:Nat):Nat->List Int
 |0=>fM N
 |i+1=>if(aU m i).n=ln then jT (bW m ln N i) (aG (bW m ln N i) (aU m i).l.toNat) (aG (bW m ln N i) (aU m i).r.toNat) N else bW m ln N i
theorem rC (m:List Ed)(ln:Int)(N:Nat):∀ i,(bW m ln N i).length=N
 |0=>eH N
 |i+1=>by
  unfold bW;split
  ·rw[tU];exact rC m ln N i
  exact rC m ln N i
def BV (l:List Pt)(m:List Ed)(ln:Int):Nat->List gC
 |0=>[]
 |i+1=>if(aU m i).n=ln then BV l m ln i else BV l m ln i++[UF (bB l m i) (aU m i).n i]
theorem MW (l:List Pt)(m:List Ed)(ln:Int):∀ i,(BV l m ln i).length<=i
 |0=>ah _
 |i+1=>by
  have:=MW l m ln i;unfold BV;split
  ·omega
  rw[List.length_append];show _+1<=_;omega
def BI (one:List Int)(m F:List Ed)(P:List gC)(o:List Int)(N:Nat):Nat->List Int
 |0=>List.replicate N 0
 |i+1=>((BI one m F P o N i).set (aG one (aU m (gF P (aG o i).toNat).fm.toNat).l.toNat).toNat (aU F i).l).set (aG one (aU m (gF P (aG o i).toNat).fm.toNat).r.toNat).toNat (aU F i).r
theorem KF (one:List Int)(m F:List Ed)(P:List gC)(o:List Int)(N:Nat):∀ i,(BI one m F P o N i).length=N
 |0=>List.length_replicate
 |i+1=>by unfold BI;rw[List.length_set,List.length_set];exact KF one m F P o N i
theorem aLT {one:List Int}{m F:List Ed}{P:List gC}{o:List Int}{N:Nat}:BI one m F P o N 0=List.replicate N 0:=rfl
theorem aFx {one:List Int}{m F:List Ed}{P:List gC}{o:List Int}{N i:Nat}:BI one m F P o N (i+1)=((BI one m F P o N i).set (aG one (aU m (gF P (aG o i).toNat).fm.toNat).l.toNat).toNat (aU F i).l).set (aG one (aU m (gF P (aG o i).toNat).fm.toNat).r.toNat).toNat (aU F i).r:=rfl
def FD (one now:List Int)(N:Nat):Nat->List Int
 |0=>List.replicate N 0
 |f+1=>(FD one now N f).set f (aG now (aG one f).toNat)
theorem xA (one now:List Int)(N:Nat):∀ i,(FD one now N i).length=N
 |0=>List.length_replicate
 |i+1=>by unfold FD;rw[List.length_set];exact xA one now N i
theorem aOD (m:List Ed){i o k:Nat}{v:Value}(hi:i<m.length)(hv:(bS.fl (aU m i))[k]? = some v)(ho:o=i*5+k):nth (flat bS.fl m) o=some v:=by
 have hk:k<5:=(List.getElem?_eq_some_iff.1 hv).1;rw[u7 hi]at hv;exact lK bS m hi (k:=k) hv hk ho
theorem gU (P:List gC):(cL P).length=P.length:=by unfold cL;rw[qQ,eH]
theorem m4 (P:List gC):(aR P).length=P.length:=by unfold aR;rw[List.length_map,gU]
theorem JX (P:List gC):(lQ P).length=P.length:=by unfold lQ;rw[vJ,m4]
theorem aNj {one now:List Int}{N:Nat}:FD one now N 0=List.replicate N 0:=rfl
theorem aH6 {one now:List Int}{N f:Nat}:FD one now N (f+1)=(FD one now N f).set f (aG now (aG one f).toNat):=rfl
def cY (l:List Pt)(m:List Ed)(ln:Int):List gC:=BV l m ln m.length
def GL (l:List Pt)(m:List Ed)(ln:Int):Int:=if ln<0\/200<=ln then 1 else if(cY l m ln).length=m.length then 5 else if CM (cY l m ln)≠0 then 20 else 0
def wtO (l:List Pt)(m:List Ed)(ln:Int)(N:Nat):List Int:=FD (bW m ln N m.length) (BI (bW m ln N m.length) m (lQ (cY l m ln)) (cY l m ln) (cL (cY l m ln)) N (cL (cY l m ln)).length) N N
def HI (p:Pt):List Pt->Nat->Int
 |[],_=>-1
 |b::r,i=>if fS b p=true then i else HI p r (i+1)
def mJ (l:List Pt)(p:Pt):Int:=HI p l 0
theorem aAl (p:Pt):∀(l:List Pt) (i:Nat),-1<=HI p l i/\HI p l i<((i+l.length:Nat):Int)
 |[],i=>by unfold HI;simp;omega
 |b::r,i=>by
  unfold HI;split
  ·simp;omega
  have:=aAl p r (i+1);simp only[List.length_cons]at *;omega
theorem aII (l:List Pt)(p:Pt) : -1<=mJ l p/\mJ l p<l.length:=by
 have:=aAl p l 0;unfold mJ;omega
def aDN (l:List Pt):List Value->Option (Bool × Value)
 |[.agg ⟨[.int .i64 x,.int .i64 y]⟩]=>some (decide (l.length<=1000000),iv (mJ l (x,y)))
 |_=>none
theorem aCA {l:List Pt}{r:List Value}{v:Value}(hs:aDN l r=some (true,v)):∃ p:Pt,r=[.agg #[iv p.1,iv p.2]]/\l.length<=1000000/\v=iv (mJ l p):=by
 unfold aDN at hs;split at hs
 ·rename_i x y;injection hs with hs;injection hs with h1 h2;exact⟨(x,y),rfl,by simpa using h1,h2.symm⟩
 ·cases hs
def aLb (l:List Pt)(c:Nat)(j:Int):List (Nat × Value):=[(0,ak 0 l.length c),(3,pV 1),(5,iv j)]
def mR (l:List Pt)(p:Pt):Heap:=[(1,aq 1 [iv p.1,iv p.2]),(0,au 2 (flat aX.fl l))]
def aC9:Nat × XF:=(133,lX aX aDN)
theorem aKJ:c7 Tryz.prog aC9.1 aC9.2:=OV aX (aL (xl:=[]) .nil) fun l r v hs=>by
 obtain⟨p,rfl,hlen,rfl⟩:=aCA hs;obtain⟨p1,p2⟩:=p;refine⟨rfl,rfl,fun c=>?_⟩;(conv=>whnf);refine⟨fun q e h nx=>∃(i:Nat) (j:Int),j=i/\i<=l.length/\q=l.length - i/\mJ l (p1,p2)=HI (p1,p2) (l.drop i) i/\e=aLb l c j/\h=mR l (p1,p2)/\nx=2,⟨l.length,?_⟩,?_⟩
 ·exact aJ (h0:=mR l (p1,p2)) (n0:=2) ⟨0,0,rfl,Nat.zero_le _,rfl,rfl,rfl,rfl,rfl⟩
 rintro q e h nx ⟨i,j,hj,hi,rfl,hb,rfl,rfl,rfl⟩;unfold aLb mR;((conv=>whnf);apply bm<;>intro h1)
 ·have hlt:i<l.length:=(by simp[aB,aF]at h1;omega);have hd:l.drop i=bI l i::l.drop (i+1):=(by rw[gK hlt];exact List.drop_eq_getElem_cons hlt);rw[hd,HI]at hb;(conv=>whnf);refine bt ?_;(conv=>whnf);refine eZ (eU l (i:=i) hlt (by show _+Int.toNat j*2=_;omega)) ?_;((conv=>whnf);apply bm<;>intro h3)
  ·have h3:fS (bI l i) (p1,p2)=true:=h3;(conv=>whnf);rw[hb,if_pos h3,hj]
  have h3:fS (bI l i) (p1,p2)=false:=h3;(conv=>whnf);refine bt ?_;(conv=>whnf);refine⟨l.length - (i+1),aa,?_⟩;exact aJ (h0:=mR l (p1,p2)) (n0:=2) ⟨i+1,j+1,aa,hlt,rfl,by rw[hb,if_neg (by rw[h3];decide)],rfl,rfl,rfl⟩
 have hge:l.length<=i:=(by simp[aB,aF]at h1;omega);(conv=>whnf);rw[hb,List.drop_eq_nil_of_le hge];rfl
def kL (l:List Pt)(p:Pt):Nat->List Pt × Bool
 |0=>([],false)
 |i+1=>if(!(kL l p i).2&&bL p (bI l i))=true then((kL l p i).1++[p,bI l i],true)else((kL l p i).1++[bI l i],(kL l p i).2)
theorem V8 (l:List Pt)(p:Pt):∀ i,i<=(kL l p i).1.length/\(kL l p i).1.length<=2*i
 |0=>by unfold kL;simp
 |i+1=>by
  have:=V8 l p i;unfold kL;split
  ·simp only[List.length_append,List.length_cons,List.length_nil];omega
  simp only[List.length_append,List.length_cons,List.length_nil];omega
theorem uE {l:List Pt}{p:Pt}{i:Nat}(h:(!(kL l p i).2&&bL p (bI l i))=true):kL l p (i+1)=((kL l p i).1++[p,bI l i],true):=if_pos h
theorem oP {l:List Pt}{p:Pt}{i:Nat}(h:(!(kL l p i).2&&bL p (bI l i))=false):kL l p (i+1)=((kL l p i).1++[bI l i],(kL l p i).2):=if_neg (by rw[h];decide)
def oD (l:List Pt)(p:Pt):List Pt:=if(kL l p l.length).2=true then(kL l p l.length).1 else(kL l p l.length).1++[p]
def oU (l:List Pt)(p:Pt):List Pt:=if 0<=mJ l p then l else oD l p
def aBk (l:List Pt):List Value->Option (Bool × Bool × List Pt)
 |[.agg ⟨[.int .i64 x,.int .i64 y]⟩]=>some (decide (l.length<=1000000),decide (0<=mJ l (x,y)),oD l (x,y))
 |_=>none
theorem aCx {l:List Pt}{r:List Value}{b:Bool}{out:List Pt}(hs:aBk l r=some (true,b,out)):∃ p:Pt,r=[.agg #[iv p.1,iv p.2]]/\l.length<=1000000/\b=decide (0<=mJ l p)/\out=oD l p:=by
 unfold aBk at hs;split at hs
 ·rename_i x y;injection hs with hs;injection hs with h1 h2;injection h2 with h2 h3;exact⟨(x,y),rfl,by simpa using h1,h2.symm,h3.symm⟩
 ·cases hs
def DN (N:Nat)(v:Value)(b:Bool)(j:Int):List (Nat × Value):=[(0,ak 0 N N),(3,pV 1),(5,v),(6,.bool b),(7,iv j)]
theorem aAB {P:List Pt}{k q nx:Nat}{h:Heap}(hP:P.length=k)(hk:0<k)(hq:aw h q=some (aq 2 (flat aX.fl P))):Yields aX P none (.slice (some ⟨q,0,none⟩) k k) h nx:=by
 subst hP;exact BF aX (e:=none) hk hq
def aFX:Nat × XF:=(132,irX aX aX aBk)
theorem aOr:c7 Tryz.prog aFX.1 aFX.2:=aMS aX aX (aL (xl:=[aC9,aFH]) (.cons aKJ (.cons aMi .nil))) fun l r b out hs=>by
 obtain⟨p,rfl,hlen,rfl,rfl⟩:=aCx hs;clear hs;obtain⟨p1,p2⟩:=p;refine⟨rfl,?_⟩;(conv=>whnf);refine⟨l,aP aX rfl,?_⟩;refine aM (show decide (l.length<=1000000)=true from ai hlen) ?_;((conv=>whnf);apply bm<;>intro h0)
 ·have h0:decide (0<=mJ l (p1,p2))=true:=h0;rw[h0];(conv=>whnf)
 have h0:decide (0<=mJ l (p1,p2))=false:=h0;rw[h0];(conv=>whnf);refine⟨fun q e h nx=>∃(i:Nat) (j:Int),j=i/\i<=l.length/\q=l.length - i/\((i=0/\e=DN l.length aI false j/\h=mR l (p1,p2)/\nx=2)\/(0<i/\∃ k O b,O=(kL l (p1,p2) i).1/\b=(kL l (p1,p2) i).2/\k=O.length/\e=DN l.length (ak 2 k k) b j/\h=(2,aq 2 (flat aX.fl O))::mR l (p1,p2)/\nx=3)),⟨l.length,?_⟩,?_⟩
 ·exact aJ (h0:=mR l (p1,p2)) (n0:=2) ⟨0,0,rfl,Nat.zero_le _,rfl,.inl ⟨rfl,rfl,rfl,rfl⟩⟩
 rintro q e h nx ⟨i,j,hj,hi,rfl,⟨hi0,rfl,rfl,rfl⟩|⟨hip,k,O,b,hO,hb,hk,rfl,rfl,rfl⟩⟩
 ·subst hi0;unfold DN mR aI;((conv=>whnf);apply bm<;>intro h1);rotate_left
  ·have hge:l=[]:=(by simp[aB,aF]at h1;exact List.eq_nil_of_length_eq_zero aa);subst hge;(conv=>whnf);exact BF aX (l:=[(p1,p2)]) (e:=none) (nx:=0) Nat.one_pos rfl
  have hlt:0<l.length:=(by simp[aB,aF]at h1;omega);(conv=>whnf);refine bt ?_;(conv=>whnf);refine eZ (eU l (i:=0) hlt (by show _+Int.toNat j*2=_;omega)) ?_;((conv=>whnf);apply bm<;>intro h3)
  ·have h3:bL (p1,p2) (bI l 0)=true:=h3
   repeat' first
    |(((conv=>whnf);apply bm<;>intro g))
    |((conv=>whnf)
      refine eZ (eU l (i:=0) hlt ?_) ?_
      ·show _+Int.toNat j*2=_;omega)
   all_goals first
    |(exfalso;simp[aB,aF,aN]at g;omega)
    |skip
   (conv=>whnf);refine⟨l.length - 1,aa,?_⟩;refine bC (e0:=DN l.length (ak 2 2 2) true (j+1)) (h0:=(2,aq 2 (flat aX.fl [(p1,p2),bI l 0]))::mR l (p1,p2)) (n0:=3) [(2,5)] ⟨1,_,aa,aa,rfl,.inr ⟨Nat.one_pos,2,_,_,(by rw[uE (i:=0) (by rw[show(kL l (p1,p2) 0).2=false from rfl,h3];rfl)];rfl),(by rw[uE (i:=0) (by rw[show(kL l (p1,p2) 0).2=false from rfl,h3];rfl)]),rfl,rfl,rfl,rfl⟩⟩ (hh:=?_)
   ·unfold mR;refine ae.2 ⟨⟨ab,_,rfl,aK (aC aX _) rfl⟩,?_⟩;exact xH
  have h3:bL (p1,p2) (bI l 0)=false:=h3
  repeat' first
   |(((conv=>whnf);apply bm<;>intro g))
   |((conv=>whnf)
     refine eZ (eU l (i:=0) hlt ?_) ?_
     ·show _+Int.toNat j*2=_;omega)
  all_goals first
   |(exfalso;simp[aB,aF,aN]at g;omega)
   |skip
  (conv=>whnf);refine⟨l.length - 1,aa,?_⟩;refine bC (e0:=DN l.length (ak 2 1 1) false (j+1)) (h0:=(2,aq 2 (flat aX.fl [bI l 0]))::mR l (p1,p2)) (n0:=3) [(2,3)] ⟨1,_,aa,aa,rfl,.inr ⟨Nat.one_pos,1,_,_,(by rw[oP (i:=0) (by rw[h3,Bool.and_false])];rfl),(by rw[oP (i:=0) (by rw[h3,Bool.and_false])];rfl),rfl,rfl,rfl,rfl⟩⟩ (hh:=?_)
  ·unfold mR;refine ae.2 ⟨⟨ab,_,rfl,aK (aC aX _) rfl⟩,?_⟩;exact xH
 have hkl:=V8 l (p1,p2) i;rw[<- hO,<- hk]at hkl;unfold DN mR;((conv=>whnf);apply bm<;>intro h1);rotate_left
 ·have hge:i=l.length:=(by simp[aB,aF]at h1;omega);subst hge;cases hbb:b with
  |true =>
   have hout:oD l (p1,p2)=O:=(by unfold oD;rw[<- hb,hbb,if_pos rfl,hO]);rw[hout];(conv=>whnf);exact aAB (nx:=0) hk.symm aa rfl
  |false =>
   have hout:oD l (p1,p2)=O++[(p1,p2)]:=(by unfold oD;rw[<- hb,hbb,if_neg (by decide),hO]);rw[hout]
   repeat' first
    |((conv=>whnf)
      refine YX (k:=k) ?_)
    |(((conv=>whnf);apply bm<;>intro g))
   all_goals first
    |exact iP (by rw[aO,<- hk];rfl) aa g
    |skip
   (conv=>whnf);refine aAB (nx:=0) (k:=k+1) (by rw[List.length_append,<- hk];rfl) aa ?_;have hg:=cT aX O (p1,p2) (n:=k) hk;rw[<- hg];rfl
 have hlt:i<l.length:=(by simp[aB,aF]at h1;omega);cases hbb:b with
 |false =>
  rw[hbb]at hb;(conv=>whnf);refine bt ?_;(conv=>whnf);refine eZ (eU l (i:=i) hlt (by show _+Int.toNat j*2=_;omega)) ?_;((conv=>whnf);apply bm<;>intro h3);rotate_left
  ·have h3:bL (p1,p2) (bI l i)=false:=h3
   repeat' first
    |((conv=>whnf)
      refine YX (k:=k) ?_)
    |(((conv=>whnf);apply bm<;>intro g))
    |((conv=>whnf)
      refine eZ (eU l (i:=i) hlt ?_) ?_
      ·show _+Int.toNat j*2=_;omega)
   all_goals first
    |(exfalso;simp[aB,aF,aN]at g;omega)
    |exact iP (by rw[aO,<- hk];rfl) aa g
    |skip
   (conv=>whnf);refine⟨l.length - (i+1),aa,?_⟩;refine bC (e0:=DN l.length (ak 2 (k+1) (k+1)) false (j+1)) (h0:=(2,aq 2 (flat aX.fl (O++[bI l i])))::mR l (p1,p2)) (n0:=3) [(2,4)] ⟨i+1,_,aa,aa,rfl,.inr ⟨aa,k+1,_,_,(by rw[oP (by rw[h3,Bool.and_false]),hO]),(by rw[oP (by rw[h3,Bool.and_false]),<- hb]),(by rw[List.length_append,<- hk];rfl),rfl,rfl,rfl⟩⟩ (hh:=?_)
   ·unfold mR;refine ae.2 ⟨⟨ab,_,rfl,aK (aC aX _) ?_⟩,?_⟩
    ·have hg:=cT aX O (bI l i) (n:=k) hk;rw[<- hg];rfl
    exact xH
  have h3:bL (p1,p2) (bI l i)=true:=h3
  repeat' first
   |((conv=>whnf)
     refine YX (k:=k) ?_)
   |((conv=>whnf)
     refine YX (k:=k+1) ?_)
   |(((conv=>whnf);apply bm<;>intro g))
   |((conv=>whnf)
     refine eZ (eU l (i:=i) hlt ?_) ?_
     ·show _+Int.toNat j*2=_;omega)
  all_goals first
   |(exfalso;simp[aB,aF,aN]at g;omega)
   |exact iP (by rw[aO,<- hk];rfl) aa g
   |skip
  all_goals first
   |(have hg1:((flat aX.fl O).drop 0).take (k*2)++[iv p1,iv p2]=flat aX.fl (O++[(p1,p2)]):=cT aX O (p1,p2) hk
     exact iP (i:=k+1) (N:=(((flat aX.fl O).drop 0).take (k*2)++[iv p1,iv p2]).length) (by rw[hg1,aO,List.length_append,<- hk];rfl) aa g)
   |skip
  (conv=>whnf);refine⟨l.length - (i+1),aa,?_⟩;refine bC (e0:=DN l.length (ak 2 (k+2) (k+2)) true (j+1)) (h0:=(2,aq 2 (flat aX.fl (O++[(p1,p2),bI l i])))::mR l (p1,p2)) (n0:=3) [(2,6)] ⟨i+1,_,aa,aa,rfl,.inr ⟨aa,k+2,_,_,(by rw[uE (by rw[<- hb,h3];rfl),hO]),(by rw[uE (by rw[<- hb,h3];rfl)]),(by rw[List.length_append,<- hk];rfl),rfl,rfl,rfl⟩⟩ (hh:=?_)
  ·unfold mR;refine ae.2 ⟨⟨ab,_,rfl,aK (aC aX _) ?_⟩,?_⟩
   ·have hg1:=cT aX O (p1,p2) (n:=k) hk;have hg2:=cT aX (O++[(p1,p2)]) (bI l i) (n:=k+1) (by rw[List.length_append,<- hk];rfl);rw[show O++[(p1,p2),bI l i]=(O++[(p1,p2)])++[bI l i] by simp,<- hg2,<- hg1];rfl
   exact xH
 |true =>
  rw[hbb]at hb
  repeat' first
   |((conv=>whnf)
     refine YX (k:=k) ?_)
   |(((conv=>whnf);apply bm<;>intro g))
   |((conv=>whnf)
     refine eZ (eU l (i:=i) hlt ?_) ?_
     ·show _+Int.toNat j*2=_;omega)
  all_goals first
   |(exfalso;simp[aB,aF,aN]at g;omega)
   |exact iP (by rw[aO,<- hk];rfl) aa g
   |skip
  (conv=>whnf);refine⟨l.length - (i+1),aa,?_⟩;refine bC (e0:=DN l.length (ak 2 (k+1) (k+1)) true (j+1)) (h0:=(2,aq 2 (flat aX.fl (O++[bI l i])))::mR l (p1,p2)) (n0:=3) [(2,4)] ⟨i+1,_,aa,aa,rfl,.inr ⟨aa,k+1,_,_,(by rw[oP (by rw[<- hb];rfl),hO]),(by rw[oP (by rw[<- hb];rfl),<- hb]),(by rw[List.length_append,<- hk];rfl),rfl,rfl,rfl⟩⟩ (hh:=?_)
  ·unfold mR;refine ae.2 ⟨⟨ab,_,rfl,aK (aC aX _) ?_⟩,?_⟩
   ·have hg:=cT aX O (bI l i) (n:=k) hk;rw[<- hg];rfl
   exact xH
abbrev Rt:=Sg × Int
def rtv (s:Rt):Value:=.agg #[iv s.1.1.1,iv s.1.1.2,iv s.1.2.1,iv s.1.2.2,iv s.2]
def aMh:Value->Option Rt
 |.agg ⟨[.int .i64 a,.int .i64 b,.int .i64 c,.int .i64 d,.int .i64 e]⟩=>some (((a,b),(c,d)),e)
 |_=>none
theorem aIT {v:Value}{s:Rt}(h:aMh v=some s):v=rtv s:=by
 unfold aMh at h;split at h
 ·injection h with h;subst h;rfl
 ·cases h
def cR:Cd Rt:=⟨aMh,rtv,fun _ _ h=>aIT h,fun _=>rfl⟩
def fT (p q:Rt):Bool:=bL p.1.1 q.1.1 || (fS p.1.1 q.1.1&&bL p.1.2 q.1.2)
def aFL:Nat × XF:=(131,gX (s2 cR cR fun a b=>(true,.bool (fT a b))))
theorem aOx:c7 Tryz.prog aFL.1 aFL.2:=x2 cR cR (xl:=[aFH]) (.cons aMi .nil) (fun _ _=>rfl) fun a b _=>by
 obtain⟨⟨⟨a1,a2⟩,a3,a4⟩,a5⟩:=a;obtain⟨⟨⟨b1,b2⟩,b3,b4⟩,b5⟩:=b;unfold dM;((conv=>whnf);apply bm<;>intro h1)
 ·have h1:(bL (a1,a2) (b1,b2) == false)=true:=h1;((conv=>whnf);apply bm<;>intro h2)
  ·have h2:(fS (a1,a2) (b1,b2) == true)=true:=h2;(conv=>whnf);unfold fT;simp only[beq_iff_eq]at h1 h2;simp only[h1,h2,Bool.false_or,Bool.true_and]
  have h2:(fS (a1,a2) (b1,b2) == true)=false:=h2;have h2:fS (a1,a2) (b1,b2)=false:=(by simpa using h2);(conv=>whnf);unfold fT;simp only[beq_iff_eq]at h1;simp only[h1,h2,Bool.false_or,Bool.false_and]
 have h1:(bL (a1,a2) (b1,b2) == false)=false:=h1;(conv=>whnf);unfold fT;have:bL (a1,a2) (b1,b2)=true:=(by simpa using h1);simp only[this,Bool.true_or]
def z9:El Rt:=⟨fun e=>[iv e.1.1.1,iv e.1.1.2,iv e.1.2.1,iv e.1.2.2,iv e.2],5,fun _=>rfl,fun _=>rfl,by decide⟩
def atR (m:List Rt)(i:Nat):Rt:=m.getD i (((0,0),(0,0)),0)
theorem nO {m:List Rt}{i:Nat}(h:i<m.length):atR m i=m[i]:=by
 unfold atR;rw[List.getD_eq_getElem?_getD,List.getElem?_eq_getElem h];rfl
theorem U9 (m:List Rt){i o:Nat}(hi:i<m.length)(ho:o=i*5):kI (flat z9.fl m) o 5=some [iv (atR m i).1.1.1,iv (atR m i).1.1.2,iv (atR m i).1.2.1,iv (atR m i).1.2.2,iv (atR m i).2]:=by
 rw[nO hi];exact qX z9 m hi ho
theorem aCp (m:List Rt){i o k:Nat}{v:Value}(hi:i<m.length)(hv:(z9.fl (atR m i))[k]? = some v)(ho:o=i*5+k):nth (flat z9.fl m) o=some v:=by
 have hk:k<5:=(List.getElem?_eq_some_iff.1 hv).1;rw[nO hi]at hv;exact lK z9 m hi (k:=k) hv hk ho
theorem aAH (m:List Rt){i o:Nat}(hi:i<m.length)(ho:o=i*5):kI (flat z9.fl m) o 2=some [iv (atR m i).1.1.1,iv (atR m i).1.1.2]:=by
 have h1:=aCp m (k:=0) hi rfl ho;have h2:=aCp m (o:=o+1) (k:=1) hi rfl aa;simp only[kI,h1,h2]
theorem UW (m:List Rt){i o:Nat}(hi:i<m.length)(ho:o=i*5+2):kI (flat z9.fl m) o 2=some [iv (atR m i).1.2.1,iv (atR m i).1.2.2]:=by
 have h1:=aCp m (k:=2) hi rfl ho;have h2:=aCp m (o:=o+1) (k:=3) hi rfl aa;simp only[kI,h1,h2]
def dI (P L:List Rt):Nat->Int
 |0=>-1
 |i+1=>if 0<L.length/\fT (atR L (L.length - 1)) (atR P i)=false then dI P L i else if dI P L i<0\/fT (atR P i) (atR P (dI P L i).toNat)=true then i else dI P L i
theorem R0 (P L:List Rt):∀ i,-1<=dI P L i/\dI P L i<i
 |0=>by unfold dI;omega
 |i+1=>by
  have:=R0 P L i;unfold dI;split
  ·omega
  split <;> omega
def kX (P:List Rt):Nat->List Rt
 |0=>[]
 |k+1=>kX P k++[atR P (dI P (kX P k) P.length).toNat]
theorem qJ (P:List Rt):∀ k,(kX P k).length=k
 |0=>rfl
 |k+1=>by unfold kX;rw[List.length_append,qJ P k];rfl
def MX (P:List Rt):Prop:=∀ k,k<P.length->0<=dI P (kX P k) P.length
def ptR (L:List Rt):Nat->List Pt
 |0=>[]
 |i+1=>oU (oU (ptR L i) (atR L i).1.1) (atR L i).1.2
theorem OS (l:List Pt)(p:Pt):∀ i,(kL l p i).1.length=i+(if(kL l p i).2=true then 1 else 0)
 |0=>rfl
 |i+1=>by
  have:=OS l p i;cases h:(!(kL l p i).2&&bL p (bI l i))with
  |true =>
   rw[uE h];simp only[af,Bool.not_eq_true']at h;rw[h.1]at this;simp only[List.length_append,List.length_cons,List.length_nil,if_true];rw[this];simp
  |false =>
   rw[oP h];simp only[List.length_append,List.length_cons,List.length_nil];omega
theorem qK (l:List Pt)(p:Pt):(oD l p).length=l.length+1:=by
 have:=OS l p l.length;unfold oD;split
 ·rename_i h;rw[h,if_pos rfl]at this;exact this
 rename_i h;rw[if_neg h]at this;rw[List.length_append,this];rfl
theorem KV (l:List Pt)(p:Pt):l.length<=(oU l p).length/\(oU l p).length<=l.length+1/\1<=(oU l p).length:=by
 unfold oU;split
 ·rename_i h;have:=aII l p;omega
 rw[qK];omega
theorem aAt (L:List Rt):∀ i,(ptR L i).length<=2*i/\(1<=i->1<=(ptR L i).length)
 |0=>⟨ah _,fun h=>by omega⟩
 |i+1=>by
  have h0:=aAt L i;have h1:=KV (ptR L i) (atR L i).1.1;have h2:=KV (oU (ptR L i) (atR L i).1.1) (atR L i).1.2;unfold ptR;omega
def edR (Q:List Pt)(L:List Rt)(i:Nat):List Ed:=(L.take i).map fun p=>⟨mJ Q p.1.1,mJ Q p.1.2,0,0,p.2⟩
def mdL (P:List Rt):List Rt:=kX P P.length
def tB (P:List Rt):List Pt:=ptR (mdL P) (mdL P).length
def oL (P:List Rt):List Ed:=edR (tB P) (mdL P) (mdL P).length
def SB (Q:List Pt)(E:List Ed):List Ed:=if mK Q E=true then wP E (cQ Q E).of E.length else E
def mdN (Q:List Pt)(E:List Ed):Int:=if mK Q E=true then(cQ Q E).faces else 0
def aGK (r:Nat):Option gQ:=match Nat.beq r 17 with
 |true=>some ⟨[0,1,2,3,4,5,6],[],[(7,false),(8,false),(9,false)],[]⟩
 |false=>(match Nat.beq r 18 with|true=>some ⟨[0,1,2,3,4,5,6],[],[(7,false),(8,false),(9,false)],[]⟩|false=>plF 52 r)
def cN:EI:={ aB with FT:=fun f=>(match Nat.beq f 52 with|true=>some Tryz.f52|false=>none),PL:=fun _ r=>aGK r }
theorem aF0:(match Tryz.f52.body with|some b=>fF aGK b|none=>true)=true:=by decide +kernel
theorem aEX:o6 Tryz.prog cN where
 ar:=rfl
 tab:=gE.tab
 mixed:=gE.mixed
 funcs:=fun f fn h=>by
  have h:(match Nat.beq f 52 with|true=>some Tryz.f52|false=>none)=some fn:=h;split at h
  ·rename_i e;have e:=Nat.eq_of_beq_eq_true e;subst e;injection h with h;subst h;refine⟨Tryz.func52,by decide +kernel,fun b hb=>?_⟩;have:=aF0;rw[hb]at this;exact this
  ·cases h
 xs:=fun _ _ h=>by cases h
def aGr (xl:List (Nat × XF)):VC:=tK cN none (CX (aw xl)) noY
theorem SP {xl:List (Nat × XF)}(h:lA xl):bN Tryz.prog (aGr xl):=tM aEX (PF h.look) LZ (ER h.look) uY none
theorem m6 (a:Pt):bL a a=false:=by unfold bL;simp
theorem MO {a b:Pt}(h:bL a b=true):bL b a=false:=by
 cases h2:bL b a with
 |false=>rfl
 |true=>have:=rE h h2;rw[m6]at this;cases this
theorem w8 {a b:Pt}(h:a≠b):bL a b=true\/bL b a=true:=by
 obtain⟨a1,a2⟩:=a;obtain⟨b1,b2⟩:=b;simp only[bL,Bool.or_eq_true,af,ag];simp only[ne_eq,Prod.mk.injEq]at h;omega
theorem mA (a b:Pt):bL a b=decide (iV a b<0):=by
 unfold bL iV orI jN;obtain⟨a1,a2⟩:=a;obtain⟨b1,b2⟩:=b;rw[Bool.eq_iff_iff];simp only[Bool.or_eq_true,af,ag]
 repeat' split
 all_goals omega
theorem GP {a b c:Pt}(h1:bL b a=false)(h2:bL c b=false):bL c a=false:=by
 cases h:bL c a with
 |false=>rfl
 |true =>
  exfalso;obtain⟨a1,a2⟩:=a;obtain⟨b1,b2⟩:=b;obtain⟨c1,c2⟩:=c;simp only[bL,Bool.or_eq_true,af,ag,Bool.or_eq_false_iff,Bool.and_eq_false_iff,decide_eq_false_iff_not]at *;omega
theorem UH {D:CW}{U:Int->Prop}{f:Int->Pt}(h:∀ x y,U x->U y->cmC D x y=iV (f x) (f y)):Ord D U where
 trans:=fun x y z hx hy hz h1 h2=>by
  unfold BP gI at *;rw[h _ _ hy hx,<- mA]at h1;rw[h _ _ hz hy,<- mA]at h2;rw[h _ _ hz hx,<- mA];exact GP h1 h2
 asym:=fun x y hx hy h1=>by
  unfold BP gI at *;rw[h _ _ hx hy,<- mA]at h1;rw[h _ _ hy hx,<- mA];exact MO h1
def ND (L:List Pt):Prop:=L.Pairwise fun a b=>bL a b=true
theorem ND.lt {L:List Pt}(h:ND L){i j:Nat}(hij:i<j)(hj:j<L.length):bL (bI L i) (bI L j)=true:=by
 rw[gK aa,gK hj];exact List.pairwise_iff_getElem.1 h i j aa hj hij
theorem ND.inj {L:List Pt}(h:ND L){i j:Nat}(hi:i<L.length)(hj:j<L.length)(e:bI L i=bI L j):i=j:=by
 rcases Nat.lt_trichotomy i j with h1|h1|h1
 ·have:=h.lt h1 hj;rw[e,m6]at this;cases this
 ·exact h1
 have:=h.lt h1 hi;rw[e,m6]at this;cases this
theorem ND.lt_iff {L:List Pt}(h:ND L){i j:Nat}(hi:i<L.length)(hj:j<L.length):bL (bI L i) (bI L j)=true↔i<j:=by
 refine⟨fun hl=>?_,fun hl=>h.lt hl hj⟩;rcases Nat.lt_trichotomy i j with h1|h1|h1
 ·exact h1
 ·rw[h1,m6]at hl;cases hl
 have:=h.lt h1 hi;rw[MO this]at hl;cases hl
theorem ND.nodup {L:List Pt}(h:ND L):L.Nodup:=h.imp fun{a b} h e=>by rw[e,m6]at h;cases h
theorem vB {L:List Pt}{i:Nat}(h:i<L.length):bI L i∈L:=by rw[gK h];exact List.getElem_mem h
theorem pN {L:List Pt}{p:Pt}(h:p∈L):∃ i,i<L.length/\bI L i=p:=by
 obtain⟨i,hi,rfl⟩:=List.getElem_of_mem h;exact⟨i,hi,gK hi⟩
theorem aLQ {L M:List Pt}(h1:ND L)(h2:ND M)(h:∀ p,p∈L↔p∈M):L=M:=by
 refine List.Perm.eq_of_pairwise (le:=fun a b=>bL a b=true) (fun a b _ _ q1 q2=>?_) h1 h2 ((List.perm_ext_iff_of_nodup h1.nodup h2.nodup).2 h);rw[MO q1]at q2;cases q2
theorem K5 {n:Nat}{x:Int}:x∈fM n↔0<=x/\x<n:=by
 unfold fM;rw[List.mem_map];constructor
 ·rintro⟨i,hi,rfl⟩;have:=List.mem_range.1 hi;omega
 intro h;exact⟨x.toNat,List.mem_range.2 aa,aa⟩
theorem aJO (P:List Pt)(h:P.length<=1000):(∀ i j,i<j->j<(HV P).length->bL (bI (HV P) j) (bI (HV P) i)=false)/\(HV P).Perm P:=by
 have hO:Ord (.pnts P) (fun x=>0<=x/\x<P.length):=UH (f:=fun x=>bI P x.toNat) fun x y _ _=>rfl;have hS:=Q6 hO (f:=1000) (L:=fM P.length) (by rw[eH];exact h) (fun i _ hi=>by
  rw[eH]at hi;rw[I5 hi];omega)
 have hl:(kO (.pnts P) 1000 (fM P.length)).length=P.length:=(by rw[qQ,eH]);unfold HV;constructor
 ·intro i j hij hj;unfold HM at hj;rw[List.length_map,hl]at hj;have:=hS.1 i j (Nat.zero_le _) hij (by rw[eH];exact hj);unfold BP gI at this;have ha:∀ k,k<P.length->bI (HM P (kO (.pnts P) 1000 (fM P.length))) k=bI P (aG (kO (.pnts P) 1000 (fM P.length)) k).toNat:=fun k hk=>by
   rw[gK (by unfold HM;rw[List.length_map,hl];exact hk),fK (by rw[hl];exact hk)];simp only[HM,List.getElem_map]
  rw[ha i aa,ha j hj,mA];exact this
 have:=hS.2.map (fun i:Int=>bI P i.toNat);have e:(fM P.length).map (fun i:Int=>bI P i.toNat)=P:=VO P;rw[e]at this;exact this
theorem aE2 {S:List Pt}(hS:∀ i j,i<j->j<S.length->bL (bI S j) (bI S i)=false):∀ p,p<S.length->ND (nH S (p+1))/\∀ x,x∈nH S (p+1)↔∃ i,i<=p/\x=bI S i
 |0,_=>by
  refine⟨List.pairwise_singleton _ _,fun x=>?_⟩;show x∈[bI S 0]↔_;rw[List.mem_singleton];exact⟨fun h=>⟨0,ah _,h⟩,fun⟨i,hi,h⟩=>by rw[h,Nat.le_zero.1 hi]⟩
 |p+1,hp=>by
  obtain⟨h1,h2⟩:=aE2 hS p aa;cases he:fS (bI S (p+1)) (bI S (p+1 - 1))with
  |true =>
   rw[LG aa he];have he:=(eL _ _).1 he;refine⟨h1,fun x=>(h2 x).trans ⟨fun⟨i,hi,e⟩=>⟨i,aa,e⟩,fun⟨i,hi,e⟩=>?_⟩⟩;by_cases hip:i<=p
   ·exact⟨i,hip,e⟩
   exact⟨p,ah _,by rw[e,(aa:i=p+1)];exact he⟩
  |false =>
   rw[ID he];have hne:bI S p≠bI S (p+1):=fun e=>by
    have:fS (bI S (p+1)) (bI S (p+1 - 1))=true:=(eL _ _).2 e.symm;rw[he]at this;cases this
   have hlt:bL (bI S p) (bI S (p+1))=true:=(w8 hne).resolve_right (by rw[hS p (p+1) aa hp];decide);refine⟨List.pairwise_append.2 ⟨h1,List.pairwise_singleton _ _,fun x hx y hy=>?_⟩,fun x=>?_⟩
   ·rw[List.mem_singleton.1 hy];obtain⟨i,hi,rfl⟩:=(h2 x).1 hx;by_cases hip:i=p
    ·rw[hip];exact hlt
    have:=hS i p aa aa;cases hc:bL (bI S i) (bI S (p+1))with
    |true=>rfl
    |false=>have:=GP hc this;rw[hlt]at this;cases this
   rw[List.mem_append,List.mem_singleton,h2 x];constructor
   ·rintro(⟨i,hi,e⟩|e)
    ·exact⟨i,aa,e⟩
    exact⟨p+1,ah _,e⟩
   rintro⟨i,hi,e⟩;by_cases hip:i<=p
   ·exact .inl ⟨i,hip,e⟩
   exact .inr (by rw[e,(aa:i=p+1)])
theorem aC1 {l:List gC}{x:Pt}:∀{i:Nat},x∈V7 l i↔∃ k,k<i/\(x=(gF l k).a\/x=(gF l k).b)
 |0=>by
  constructor
  ·intro h;cases h
  rintro⟨k,hk,_⟩;omega
 |i+1=>by
  unfold V7;rw[List.mem_append,aC1 (i:=i)];simp only[List.mem_cons,List.not_mem_nil,or_false];constructor
  ·rintro(⟨k,hk,h⟩|h)
   ·exact⟨k,aa,h⟩
   exact⟨i,aa,h⟩
  rintro⟨k,hk,h⟩;by_cases e:k=i
  ·subst e;exact .inr h
  exact .inl ⟨k,aa,h⟩
theorem oR {l:List gC}(h0:1<=l.length)(h:l.length<=400):ND (aQ l)/\∀ x,x∈aQ l↔∃ k,k<l.length/\(x=(gF l k).a\/x=(gF l k).b):=by
 have hl:=RZ l l.length;obtain⟨h1,h2⟩:=aJO (V7 l l.length) aa;have hS:=h2.length_eq;have h3:=aE2 h1 ((HV (V7 l l.length)).length - 1) aa;rw[(aa:(HV (V7 l l.length)).length - 1+1=(HV (V7 l l.length)).length)]at h3;refine⟨h3.1,fun x=>(h3.2 x).trans ?_⟩;rw[<- aC1 (i:=l.length),<- h2.mem_iff];constructor
 ·rintro⟨i,hi,rfl⟩;exact vB aa
 intro hx;obtain⟨i,hi,rfl⟩:=pN hx;exact⟨i,aa,rfl⟩
theorem BL {L:List Pt}(hL:ND L){i:Nat}(hi:i<L.length):BW L (bI L i)=i:=by
 unfold BW;have hf:∀ h,lqP L (bI L i) h=bL (bI L h) (bI L i):=fun h=>(by rw[mA];rfl);have hb:=O1 (f:=fun h=>!(lqP L (bI L i) h)) (k:=L.length) (i:=0) (j:=L.length) aa (fun s t _ hst ht h=>by
  simp only[hf,Bool.not_eq_true']at h ⊢;cases hc:bL (bI L t) (bI L i)with
  |false=>rfl
  |true =>
   have h1:=(hL.lt_iff ht hi).1 hc;have h2:=(hL.lt_iff (i:=s) aa hi).2 aa;rw[h]at h2;cases h2)
 have hlow:=mO (f:=fun h=>!(lqP L (bI L i) h)) (k:=L.length) (i:=0) (j:=L.length) (Nat.zero_le _);generalize sT (fun h=>!(lqP L (bI L i) h)) L.length 0 L.length=b at *;rcases Nat.lt_trichotomy b i with h|h|h
 ·have:=hb.2 b (ah _) aa;simp only[hf,hL.lt h hi]at this;cases this
 ·exact h
 have:=hb.1 i (Nat.zero_le _) h;simp only[hf,m6]at this;cases this
theorem aHs {L:List Pt}{i:Nat}(hi:i<L.length)(hn:∀ k,k<i->bI L k≠bI L i):∀ o,HI (bI L i) L o=((o+i:Nat):Int):=by
 induction L generalizing i with
 |nil=>cases hi
 |cons b r ih =>
  intro o;unfold HI;cases i with
  |zero=>exact if_pos ((eL b b).2 rfl)
  |succ i =>
   have h0:¬ fS b (bI (b::r) (i+1))=true:=fun h=>hn 0 aa ((eL _ _).1 h);rw[if_neg h0];have:=ih (i:=i) (by simpa using hi) (fun k hk e=>hn (k+1) aa e) (o+1);rw[(aa:o+(i+1)=o+1+i)];exact this
theorem aBs {L:List Pt}(hL:L.Nodup){i:Nat}(hi:i<L.length):mJ L (bI L i)=i:=by
 have:=aHs hi (fun k hk e=>by
  rw[gK aa,gK hi]at e;have:=(List.getElem_inj hL).1 e;omega) 0
 unfold mJ;rw[this,Nat.zero_add]
theorem aAD {p:Pt}:∀{L:List Pt} {o:Nat},p∉L->HI p L o = -1
 |[],_,_=>rfl
 |b::r,o,h=>by
  unfold HI;rw[if_neg (fun e=>h (by rw[<- (eL _ _).1 e];exact List.mem_cons_self)),aAD (fun e=>h (List.mem_cons_of_mem _ e))]
theorem UL {L:List Pt}(hL:L.Nodup){p:Pt}:0<=mJ L p↔p∈L:=by
 constructor
 ·intro h;by_cases hp:p∈L
  ·exact hp
  have:mJ L p = -1:=aAD hp;omega
 intro h;obtain⟨i,hi,rfl⟩:=pN h;rw[aBs hL hi];omega
theorem aBa {L:List Pt}(hL:ND L){p:Pt}(hp:p∉L):∀ i,i<=L.length->ND (kL L p i).1/\((kL L p i).2=true↔∃ k,k<i/\bL p (bI L k)=true)/\∀ x,x∈(kL L p i).1↔(∃ k,k<i/\x=bI L k)\/(x=p/\(kL L p i).2=true)
 |0,_=>by
  refine⟨List.Pairwise.nil,⟨fun h=>(by cases h),fun⟨k,hk,_⟩=>aa⟩,fun x=>⟨fun h=>(by cases h),?_⟩⟩;rintro(⟨k,hk,_⟩|⟨_,h⟩)
  ·omega
  ·cases h
 |i+1,hi=>by
  obtain⟨h1,h2,h3⟩:=aBa hL hp i aa;have hlast:∀ x,x∈(kL L p i).1->x≠p->bL x (bI L i)=true:=fun x hx hne=>by
   rcases(h3 x).1 hx with⟨k,hk,rfl⟩|⟨e,_⟩
   ·exact hL.lt hk aa
   exact absurd e hne
  cases hc:(!(kL L p i).2&&bL p (bI L i))with
  |true =>
   rw[uE hc];simp only[af,Bool.not_eq_true']at hc;have hno:∀ k,k<i->bL (bI L k) p=true:=fun k hk=>by
    refine(w8 (fun e=>hp (by rw[<- e];exact vB aa))).resolve_right fun h=>?_;have:=h2.2 ⟨k,hk,h⟩;rw[hc.1]at this;cases this
   have hm:∀ x,x∈(kL L p i).1↔∃ k,k<i/\x=bI L k:=fun x=>by
    rw[h3 x,hc.1];simp
   refine⟨List.pairwise_append.2 ⟨h1,List.pairwise_cons.2 ⟨fun y hy=>?_,List.pairwise_singleton _ _⟩,fun x hx y hy=>?_⟩,⟨fun _=>⟨i,aa,hc.2⟩,fun _=>rfl⟩,fun x=>?_⟩
   ·rw[List.mem_singleton.1 hy];exact hc.2
   ·obtain⟨k,hk,rfl⟩:=(hm x).1 hx;rcases List.mem_cons.1 hy with e|e
    ·rw[e];exact hno k hk
    rw[List.mem_singleton.1 e];exact hL.lt hk aa
   rw[List.mem_append,hm x];simp only[List.mem_cons,List.not_mem_nil,or_false,and_true];constructor
   ·rintro(⟨k,hk,e⟩|e|e)
    ·exact .inl ⟨k,aa,e⟩
    ·exact .inr e
    exact .inl ⟨i,aa,e⟩
   rintro(⟨k,hk,e⟩|e)
   ·by_cases hki:k=i
    ·subst hki;exact .inr (.inr e)
    exact .inl ⟨k,aa,e⟩
   exact .inr (.inl e)
  |false =>
   rw[oP hc];have hd:(kL L p i).2=true↔∃ k,k<i+1/\bL p (bI L k)=true:=by
    refine h2.trans ⟨fun⟨k,hk,e⟩=>⟨k,aa,e⟩,fun⟨k,hk,e⟩=>?_⟩;by_cases hki:k=i
    ·subst hki;rw[e,Bool.and_true,Bool.not_eq_false']at hc;exact h2.1 hc
    exact⟨k,aa,e⟩
   refine⟨List.pairwise_append.2 ⟨h1,List.pairwise_singleton _ _,fun x hx y hy=>?_⟩,hd,fun x=>?_⟩
   ·rw[List.mem_singleton.1 hy];by_cases e:x=p
    ·rcases(h3 x).1 hx with⟨k,hk,rfl⟩|⟨_,hq⟩
     ·exact hL.lt hk aa
     obtain⟨k,hk,hl⟩:=h2.1 hq;rw[e];exact rE hl (hL.lt hk aa)
    exact hlast x hx e
   rw[List.mem_append,h3 x,List.mem_singleton];constructor
   ·rintro((⟨k,hk,e⟩|e)|e)
    ·exact .inl ⟨k,aa,e⟩
    ·exact .inr e
    exact .inl ⟨i,aa,e⟩
   rintro(⟨k,hk,e⟩|e)
   ·by_cases hki:k=i
    ·subst hki;exact .inr e
    exact .inl (.inl ⟨k,aa,e⟩)
   exact .inl (.inr e)
theorem Z1 {L:List Pt}(hL:ND L)(p:Pt):ND (oU L p)/\∀ x,x∈oU L p↔x∈L\/x=p:=by
 unfold oU;split
 ·rename_i h;have hp:=(UL hL.nodup).1 h;exact⟨hL,fun x=>⟨.inl,fun h=>h.elim id fun e=>by rw[e];exact hp⟩⟩
 rename_i h;have hp:p∉L:=fun hp=>h ((UL hL.nodup).2 hp);obtain⟨h1,h2,h3⟩:=aBa hL hp L.length (ah _);have hm:∀ x,(∃ k,k<L.length/\x=bI L k)↔x∈L:=fun x=>⟨fun⟨k,hk,e⟩=>by rw[e];exact vB hk,fun hx=>by
  obtain⟨k,hk,e⟩:=pN hx;exact⟨k,hk,e.symm⟩⟩
 unfold oD;split
 ·rename_i hd;refine⟨h1,fun x=>?_⟩;rw[h3 x,hm x,hd];simp
 rename_i hd;have hx:∀ x,x∈(kL L p L.length).1↔x∈L:=fun x=>by
  rw[h3 x,hm x];exact⟨fun h=>h.elim id fun h=>absurd h.2 hd,.inl⟩
 refine⟨List.pairwise_append.2 ⟨h1,List.pairwise_singleton _ _,fun x hxm y hy=>?_⟩,fun x=>?_⟩
 ·rw[List.mem_singleton.1 hy];have hxL:=(hx x).1 hxm;refine(w8 (fun e=>hp (by rw[<- e];exact hxL))).resolve_right fun hl=>hd (h2.2 ?_);obtain⟨k,hk,e⟩:=pN hxL;exact⟨k,hk,by rw[e];exact hl⟩
 rw[List.mem_append,hx x,List.mem_singleton]
theorem aA3 (L:List Rt):∀ i,ND (ptR L i)/\∀ x,x∈ptR L i↔∃ k,k<i/\(x=(atR L k).1.1\/x=(atR L k).1.2)
 |0=>⟨List.Pairwise.nil,fun x=>⟨fun h=>(by cases h),fun⟨k,hk,_⟩=>aa⟩⟩
 |i+1=>by
  obtain⟨h1,h2⟩:=aA3 L i;obtain⟨h3,h4⟩:=Z1 h1 (atR L i).1.1;obtain⟨h5,h6⟩:=Z1 h3 (atR L i).1.2;refine⟨h5,fun x=>?_⟩;show x∈oU (oU (ptR L i) (atR L i).1.1) (atR L i).1.2↔_;rw[h6,h4,h2];constructor
  ·rintro((⟨k,hk,e⟩|e)|e)
   ·exact⟨k,aa,e⟩
   ·exact⟨i,aa,.inl e⟩
   exact⟨i,aa,.inr e⟩
  rintro⟨k,hk,e⟩;by_cases hki:k=i
  ·subst hki;rcases e with e|e
   ·exact .inl (.inr e)
   exact .inr e
  exact .inl (.inl ⟨k,aa,e⟩)
theorem R7 (a:Rt):fT a a=false:=by unfold fT;rw[m6,m6];simp
theorem FC {a b c:Rt}(h1:fT a b=true)(h2:fT b c=true):fT a c=true:=by
 simp only[fT,Bool.or_eq_true,af,eL]at *;rcases h1 with h1|⟨e1,h1⟩ <;> rcases h2 with h2|⟨e2,h2⟩
 ·exact .inl (rE h1 h2)
 ·exact .inl (by rw[<- e2];exact h1)
 ·exact .inl (by rw[e1];exact h2)
 exact .inr ⟨e1.trans e2,rE h1 h2⟩
theorem aJ3 {a b:Rt}(h:fT a b=true):fT b a=false:=by
 cases h2:fT b a with
 |false=>rfl
 |true=>have:=FC h h2;rw[R7]at this;cases this
theorem Z0 {a b:Rt}(h:a.1≠b.1):fT a b=true\/fT b a=true:=by
 simp only[fT,Bool.or_eq_true,af,eL];by_cases e:a.1.1=b.1.1
 ·have h2:a.1.2≠b.1.2:=fun e2=>h (Prod.ext e e2);rcases w8 h2 with h3|h3
  ·exact .inl (.inr ⟨e,h3⟩)
  exact .inr (.inr ⟨e.symm,h3⟩)
 ·rcases w8 e with h3|h3
  ·exact .inl (.inl h3)
  exact .inr (.inl h3)
def aDd (L:List Rt):Prop:=L.Pairwise fun a b=>fT a b=true
def Apt (L:List Rt):Prop:=L.Pairwise fun a b=>a.1≠b.1
theorem aCa {L:List Rt}{i:Nat}(h:i<L.length):atR L i∈L:=by rw[nO h];exact List.getElem_mem h
theorem IU {L:List Rt}{p:Rt}(h:p∈L):∃ i,i<L.length/\atR L i=p:=by
 obtain⟨i,hi,rfl⟩:=List.getElem_of_mem h;exact⟨i,hi,nO hi⟩
theorem aBc {L M:List Rt}(h1:aDd L)(h2:aDd M)(h:L.Perm M):L=M :=
 List.Perm.eq_of_pairwise (le:=fun a b=>fT a b=true) (fun a b _ _ q1 q2=>by rw[aJ3 q1]at q2;cases q2) h1 h2 h
def Cnd (L:List Rt)(p:Rt):Prop:=¬(0<L.length/\fT (atR L (L.length - 1)) p=false)
theorem UB (P L:List Rt):∀ i,i<=P.length->(dI P L i<0->∀ j,j<i->¬ Cnd L (atR P j))/\(0<=dI P L i->(dI P L i).toNat<i/\Cnd L (atR P (dI P L i).toNat)/\∀ j,j<i->Cnd L (atR P j)->fT (atR P j) (atR P (dI P L i).toNat)=false)
 |0,_=>⟨fun _ j hj=>by omega,fun h=>absurd (show(0:Int)<=-1 from h) (by decide)⟩
 |i+1,hi=>by
  obtain⟨h1,h2⟩:=UB P L i aa;by_cases hc:Cnd L (atR P i)
  ·have hc':¬(0<L.length/\fT (atR L (L.length - 1)) (atR P i)=false):=hc;by_cases hb:dI P L i<0\/fT (atR P i) (atR P (dI P L i).toNat)=true
   ·have e:dI P L (i+1)=i:=(by rw[dI,if_neg hc',if_pos hb]);rw[e];refine⟨fun h=>by omega,fun _=>⟨aa,hc,fun j hj hcj=>?_⟩⟩;rw[Int.toNat_natCast];by_cases hji:j=i
    ·rw[hji,R7]
    ·rcases hb with hb|hb
     ·exact absurd hcj (h1 hb j aa)
     by_cases h0:dI P L i<0
     ·exact absurd hcj (h1 h0 j aa)
     have:=(h2 aa).2.2 j aa hcj;cases hq:fT (atR P j) (atR P i)with
     |false=>rfl
     |true=>rw[FC hq hb]at this;cases this
   have e:dI P L (i+1)=dI P L i:=(by rw[dI,if_neg hc',if_neg hb]);rw[e];have h0:0<=dI P L i:=aa;obtain⟨h3,h4,h5⟩:=h2 h0;refine⟨fun h=>by omega,fun _=>⟨aa,h4,fun j hj hcj=>?_⟩⟩;by_cases hji:j=i
   ·rw[hji];cases hq:fT (atR P i) (atR P (dI P L i).toNat)with
    |false=>rfl
    |true=>exact absurd (.inr hq) hb
   exact h5 j aa hcj
  have hc':0<L.length/\fT (atR L (L.length - 1)) (atR P i)=false:=Classical.not_not.1 hc;have e:dI P L (i+1)=dI P L i:=(by rw[dI,if_pos hc']);rw[e];refine⟨fun h j hj=>?_,fun h=>?_⟩
  ·by_cases hji:j=i
   ·rw[hji];exact hc
   exact h1 h j aa
  obtain⟨h3,h4,h5⟩:=h2 h;refine⟨aa,h4,fun j hj hcj=>?_⟩;by_cases hji:j=i
  ·rw[hji]at hcj;exact absurd hcj hc
  exact h5 j aa hcj
theorem aAz {P:List Rt}(hP:Apt P):∀ k,k<=P.length->aDd (kX P k)/\(∃ R,P.Perm (kX P k++R)/\∀ x∈R,Cnd (kX P k) x)/\∀ j,j<k->0<=dI P (kX P j) P.length
 |0,_=>⟨List.Pairwise.nil,⟨P,List.Perm.refl _,fun x _ h=>by cases h.1⟩,fun j hj=>by omega⟩
 |k+1,hk=>by
  obtain⟨h1,⟨R,h2,h3⟩,h4⟩:=aAz hP k aa;have hl:=qJ P k;have hR:∃ y,y∈R:=by
   cases R with
   |nil =>
    have:=h2.length_eq;rw[List.append_nil,hl]at this;omega
   |cons a r=>exact⟨a,List.mem_cons_self⟩
  obtain⟨hs1,hs2⟩:=UB P (kX P k) P.length (ah _);have hb:0<=dI P (kX P k) P.length:=by
   obtain⟨y,hy⟩:=hR;by_cases hb:dI P (kX P k) P.length<0
   ·obtain⟨j,hj,e⟩:=IU (h2.mem_iff.2 (List.mem_append_right _ hy));exact absurd (by rw[e];exact h3 y hy) (hs1 hb j hj)
   omega
  obtain⟨hb1,hb2,hb3⟩:=hs2 hb;have hx:=aCa hb1;have hun:kX P (k+1)=kX P k++[atR P (dI P (kX P k) P.length).toNat]:=rfl;generalize atR P (dI P (kX P k) P.length).toNat=x at hb2 hb3 hx hun
  -- what is selected comes ahead of x
  have hahead:∀ y∈kX P k,fT y x=true:=fun y hy=>by
   obtain⟨j,hj,e⟩:=IU hy;have hlast:fT (atR (kX P k) ((kX P k).length - 1)) x=true:=by
    cases hq:fT (atR (kX P k) ((kX P k).length - 1)) x with
    |true=>rfl
    |false=>exact absurd ⟨aa,hq⟩ hb2
   by_cases hjl:j=(kX P k).length - 1
   ·rw[<- e,hjl];exact hlast
   have:=List.pairwise_iff_getElem.1 h1 j ((kX P k).length - 1) hj aa aa;rw[<- nO,<- nO,e]at this;exact FC this hlast
  have hxs:x∉kX P k:=fun h=>(by have:=hahead x h;rw[R7]at this;cases this);have hxR:x∈R:=(List.mem_append.1 (h2.mem_iff.1 hx)).resolve_left hxs;have hp:=List.perm_cons_erase hxR;have h2':P.Perm (kX P (k+1)++R.erase x):=by
   rw[hun,List.append_assoc];exact h2.trans (List.Perm.append_left _ hp)
  have hap:Apt (x::R.erase x):=by
   have:Apt (kX P k++R):=(List.Perm.pairwise_iff (fun{a b} h=>fun e=>h e.symm) h2).1 hP;exact(List.Perm.pairwise_iff (fun{a b} h=>fun e=>h e.symm) hp).1 (List.pairwise_append.1 this).2.1
  refine⟨?_,⟨R.erase x,h2',fun y hy=>?_⟩,fun j hj=>?_⟩
  ·rw[hun];exact List.pairwise_append.2 ⟨h1,List.pairwise_singleton _ _,fun y hy z hz=>by rw[List.mem_singleton.1 hz];exact hahead y hy⟩
  ·rintro⟨_,hq⟩;have hat:atR (kX P (k+1)) ((kX P (k+1)).length - 1)=x:=by
    rw[hun,List.length_append,hl];show atR _ k=x;unfold atR;rw[List.getD_eq_getElem?_getD,List.getElem?_append_right aa,hl,Nat.sub_self];rfl
   rw[hat]at hq;have hne:=(List.pairwise_cons.1 hap).1 y hy;have hyR:=List.mem_of_mem_erase hy;have hyx:=(Z0 hne).resolve_left (by rw[hq];decide);obtain⟨j,hj,e⟩:=IU (h2.mem_iff.2 (List.mem_append_right _ hyR));have:=hb3 j hj (by rw[e];exact h3 y hyR);rw[e,hyx]at this;cases this
  by_cases hjk:j=k
  ·rw[hjk];exact hb
  exact h4 j aa
theorem aIu {P:List Rt}(hP:Apt P):MX P/\aDd (mdL P)/\(mdL P).Perm P:=by
 obtain⟨h1,⟨R,h2,_⟩,h4⟩:=aAz hP P.length (ah _);refine⟨h4,h1,?_⟩;have:=h2.length_eq;rw[List.length_append,qJ]at this;cases R with
 |nil=>rw[List.append_nil]at h2;exact h2.symm
 |cons a r=>simp at this
section
variable {l:List Pt}{m:List Ed}{n:Int}
structure Hs (l:List Pt) (m:List Ed) (t:IW):Prop where
 seen:t.seen.length=2*m.length
 face:t.face.length=2*m.length
 cl:∀ i:Nat,i<2*m.length->dG t.seen i=true->dG t.seen (BY (bA l m m.length) (outs l m) i).toNat=true
 has:∀ f:Int,(1<=f/\f<=t.many)\/(f=0/\1<=t.out)->∃ i,i<2*m.length/\dG t.seen i=true/\aG t.face i=f
 low:0<=t.many
theorem RT {D:List Dt}{ls:List (List Int)}{d:Int}{t:Nat}(h:t<m5 D ls d):aG (zY D ls d) t=j3 D ls d t:=by
 unfold zY aG;rw[List.getD_eq_getElem?_getD,List.getElem?_map,List.getElem?_range h];rfl
theorem BS {D:List Dt}{ls:List (List Int)}{d:Int}:(zY D ls d).length=m5 D ls d:=by simp[zY]
theorem aIi (hok:eO l m n=true){t:IW}(h:Hs l m t){d:Nat}(hd:d<2*m.length):Hs l m (jU l (bA l m m.length) (outs l m) t d):=by
 unfold jU;cases hs:dG t.seen d with
 |true=>rw[if_pos rfl];exact h
 |false =>
  rw[if_neg (by decide)];simp only;have hin:=wD (cE hok) (d:=(d:Int)) aa aa;have hT:j3 (bA l m m.length) (outs l m) d (m5 (bA l m m.length) (outs l m) d)=d:=by
   have hw:=List.all_eq_true.1 (FA (cE hok)) d (List.mem_range.2 (by rw[bT];exact hd));exact of_decide_eq_true hw
  have hT1:1<=m5 (bA l m m.length) (outs l m) d:=by
   have:=(oE (bA l m m.length) (outs l m) d (bA l m m.length).length 1).1;unfold m5;omega
  have hget:∀ k,k<m5 (bA l m m.length) (outs l m) d->aG (zY (bA l m m.length) (outs l m) d) k=j3 (bA l m m.length) (outs l m) d k:=fun k hk=>RT hk;have hlen:(zY (bA l m m.length) (outs l m) d).length=m5 (bA l m m.length) (outs l m) d:=BS;generalize zY (bA l m m.length) (outs l m) d=W at hget hlen ⊢;generalize m5 (bA l m m.length) (outs l m) d=T at *;have hr:∀ k,k<W.length->(aG W k).toNat<2*m.length:=fun k hk=>by
   rw[hget k aa];have:=hin k;omega
  -- what was seen lies in no walk of what was not
  have hdis:∀ k,k<W.length->dG t.seen (aG W k).toNat=true->False:=fun k hk hsk=>by
   rw[hget k aa]at hsk;have hf:∀ j,dG t.seen (j3 (bA l m m.length) (outs l m) d (k+j)).toNat=true:=by
    intro j
    induction j with
    |zero=>exact hsk
    |succ j ih =>
     have hi:=hin (k+j);have:=h.cl (j3 (bA l m m.length) (outs l m) d (k+j)).toNat aa ih;rw[Int.toNat_of_nonneg hi.1]at this;exact this
   have:=hf (T - k);rw[(aa:k+(T - k)=T),hT,Int.toNat_natCast,hs]at this;cases this
  generalize NC l (bA l m m.length) W W.length=A;have hsee:∀ i,(∃ k,k<W.length/\(aG W k).toNat=i)->dG (dP t.seen W W.length) i=true:=fun i hi=>(rT t.seen W (by rw[h.seen];exact hr) i _ (ah _)).1 hi;have hkeep:∀ i,dG t.seen i=true->dG (dP t.seen W W.length) i=true:=fun i hi=>by
   by_cases e:∃ k,k<W.length/\(aG W k).toNat=i
   ·exact hsee i e
   rw[(rT t.seen W (by rw[h.seen];exact hr) i _ (ah _)).2 e];exact hi
  have hold:∀(fc f:Int),(∃ i,i<2*m.length/\dG t.seen i=true/\aG t.face i=f)->∃ i,i<2*m.length/\dG (dP t.seen W W.length) i=true/\aG (cX t.face W fc W.length) i=f:=fun fc f ⟨i,a1,a2,a3⟩=>by
   refine⟨i,a1,hkeep i a2,?_⟩;rw[(rS t.face W fc (by rw[h.face];exact hr) i _ (ah _)).2 fun⟨k,b1,b2⟩=>hdis k b1 (by rw[b2];exact a2)];exact a3
  have hd0:∃ k,k<W.length/\(aG W k).toNat=d:=⟨0,aa,by rw[hget 0 aa];rfl⟩;have hnew:∀ fc:Int,∃ i,i<2*m.length/\dG (dP t.seen W W.length) i=true/\aG (cX t.face W fc W.length) i=fc:=fun fc =>
   ⟨d,hd,hsee d hd0,(rS t.face W fc (by rw[h.face];exact hr) d _ (ah _)).1 hd0⟩
  refine⟨by rw[jL];exact h.seen,by rw[fA];exact h.face,fun i hi hsi=>?_,fun f hf=>?_,?_⟩
  ·by_cases e:∃ k,k<W.length/\(aG W k).toNat=i
   ·obtain⟨k,b1,b2⟩:=e;have hk:=hin k;rw[hget k aa]at b2;have e2:(i:Int)=j3 (bA l m m.length) (outs l m) d k:=aa;rw[e2];show dG (dP t.seen W W.length) (j3 (bA l m m.length) (outs l m) d (k+1)).toNat=true;by_cases hl:k+1=T
    ·rw[hl,hT,Int.toNat_natCast];exact hsee d hd0
    exact hsee _ ⟨k+1,aa,by rw[hget (k+1) aa]⟩
   have:=hsi;rw[(rT t.seen W (by rw[h.seen];exact hr) i _ (ah _)).2 e]at this;exact hkeep _ (h.cl i hi this)
  ·have hlow:=h.low;by_cases hA:0<A
   ·simp only[if_pos hA]at hf ⊢;rcases hf with⟨f1,f2⟩|f2
    ·by_cases e:f=t.many+1
     ·rw[e];exact hnew _
     exact hold _ f (h.has f (.inl ⟨f1,aa⟩))
    exact hold _ f (h.has f (.inr f2))
   simp only[if_neg hA]at hf ⊢;rcases hf with f2|⟨f1,f2⟩
   ·exact hold _ f (h.has f (.inl f2))
   rw[f1];exact hnew 0
  have:=h.low;show 0<=if 0<A then t.many+1 else t.many
  split <;> omega
theorem ZS (hok:eO l m n=true):∀ d,d<=2*m.length->Hs l m (bR l (bA l m m.length) (outs l m) d)
 |0,_=>by
  refine⟨by simp[bR,bT],by simp[bR,bT],fun i hi h=>?_,fun f hf=>?_,Int.le_refl 0⟩
  ·unfold bR dG at h;rw[List.getD_eq_getElem?_getD,List.getElem?_replicate,bT,if_pos hi]at h;cases h
  have hf:(1<=f/\f<=0)\/(f=0/\(1:Int)<=0):=hf;omega
 |d+1,h=>aIi hok (ZS hok d aa) aa
end
def aOu (xl:List (Nat × XF))(k:Nat):EI:={ aB with X:=aw xl,M:=k }
theorem aIN {xl:List (Nat × XF)}(h:lA xl)(k:Nat):o6 Tryz.prog (aOu xl k) where
 ar:=gE.ar
 tab:=gE.tab
 mixed:=gE.mixed
 funcs:=gE.funcs
 xs:=h.look
theorem XH {l:List Pt}{m:List Ed}{n:Int}(h:iY l m n=true):eO l m n=true:=by
 simp only[iY,fE,af]at h;exact h.1.1
end Go.Aw
end
