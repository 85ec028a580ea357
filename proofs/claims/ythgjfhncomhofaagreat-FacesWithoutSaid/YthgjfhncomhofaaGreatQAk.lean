/-
  Parts of a proof. No condition.
-/
import Derived.Test.YthgjfhncomhofaaGreatQAj
set_option linter.unusedSimpArgs false
set_option linter.unusedVariables false
noncomputable section
namespace Go.Aw
open Proofs
set_option maxRecDepth 100000
theorem aAu {f:Int->Int}{d:Int}{N:Nat}:∀{k i t:Nat},i<=t->t<xJ f d N k i->o8 f d N t=true
 |0,i,t,h1,h2=>by simp only[xJ]at h2;omega
 |k+1,i,t,h1,h2=>by
  simp only[xJ]at h2;split at h2
  ·rename_i hg;by_cases ht:t=i
   ·rw[ht];exact hg
   exact aAu (k:=k) (i:=i+1) aa h2
  omega
theorem TZ {f:Int->Int}{d:Int}{N:Nat}:∀{k i:Nat},xJ f d N k i<=i+k
 |0,i=>by simp only[xJ];omega
 |k+1,i=>by
  simp only[xJ];split
  ·have:=TZ (f:=f) (d:=d) (N:=N) (k:=k) (i:=i+1);omega
  omega
theorem YU (l:List Pt)(m:List Ed)(k:List Bool)(d:Int):(m0 l m k d).length<=2*m.length+3:=by
 unfold m0;rw[qD];have:=TZ (f:=LP l m k) (d:=d) (N:=2*m.length) (k:=2*m.length+2) (i:=0);omega
theorem aGo (l:List Pt)(m:List Ed)(k:List Bool)(d:Int) : -1<=LP l m k d/\LP l m k d<2*m.length:=by
 have:=EF l m k d (2*m.length);unfold LP;omega
theorem aDj {l:List Pt}{m:List Ed}{k:List Bool}{d:Int}(hm:m.length<=1000)(hd:tE m d=true):aCt m (m0 l m k d)=true:=by
 unfold aCt m0 HG;rw[List.all_cons,hd,Bool.true_and,List.all_eq_true];intro x hx;obtain⟨t,ht,rfl⟩:=List.mem_map.1 hx;have hg:=aAu (Nat.zero_le t) (List.mem_range.1 ht);simp only[o8,af,ag]at hg;have:tA (LP l m k) d t<2*m.length:=(by cases t <;> exact(aGo l m k _).2);simp only[tE,af,ag];omega
theorem ZU (l:List Pt)(m:List Ed)(k:List Bool)(d:Int):0<(m0 l m k d).length:=by
 unfold m0;rw[qD];omega
def cX (of w:List Int)(face:Int):Nat->List Int
 |0=>of
 |i+1=>(cX of w face i).set (aG w i).toNat face
theorem fA (of w:List Int)(face:Int):∀ i,(cX of w face i).length=of.length
 |0=>rfl
 |i+1=>by unfold cX;rw[List.length_set];exact fA of w face i
structure Fst where
 of:List Int
 faces:Int
 outside:Int
 ok:Bool
def sS (l:List Pt)(m:List Ed)(s:Fst)(d:Nat):Fst :=
 if 0<=aG s.of d then s else
  let w:=m0 l m (List.replicate (2*m.length) true) d;let a:=qE l m w w.length;let fc:=if 0<a then s.faces+1 else 0
  ⟨cX s.of w fc w.length,if 0<a then s.faces+1 else s.faces,if a<0 then s.outside+1 else s.outside,if a=0 then false else s.ok⟩
def lD (l:List Pt)(m:List Ed):Nat->Fst
 |0=>⟨List.replicate (2*m.length) (-1),0,0,true⟩
 |d+1=>sS l m (lD l m d) d
def cQ (l:List Pt)(m:List Ed):Fst:=lD l m (2*m.length)
def vC (s:Fst):Bool:=s.ok&&(decide (s.outside=1)&&decide (1<=s.faces))
theorem uJ (l:List Pt)(m:List Ed):∀ d,(lD l m d).of.length=2*m.length
 |0=>by simp[lD]
 |d+1=>by
  unfold lD sS;split
  ·exact uJ l m d
  simp only[fA];exact uJ l m d
theorem OG (l:List Pt)(m:List Ed):∀ d:Nat,0<=(lD l m d).faces/\(lD l m d).faces<=d/\0<=(lD l m d).outside/\(lD l m d).outside<=d
 |0=>by simp[lD]
 |d+1=>by
  have:=OG l m d;unfold lD sS;split
  ·omega
  simp only;split <;> split <;> omega
theorem gB (l:List Int):∀(i:Nat) (v:Int),i<l.length->bU (flat aW.fl l) (i*1) [iv v]=flat aW.fl (l.set i v):=by
 induction l with
 |nil=>intro i v h;cases h
 |cons a r ih =>
  intro i v h;cases i with
  |zero=>rfl
  |succ i =>
   have:=ih i v (by simpa using h);simp only[List.set_cons_succ,flat,<- this];have e:(i+1)*1=i*1+1:=aa;rw[e];unfold bU;show List.take (i*1+1) (iv a::flat aW.fl r)++_++List.drop (i*1+1+1) (iv a::flat aW.fl r)=_;rfl
theorem mV {of w:List Int}{c:Int}{t o:Nat}(ho:o=(aG w t).toNat*1)(hi:(aG w t).toNat<of.length):bU (flat aW.fl (cX of w c t)) o [iv c]=flat aW.fl (cX of w c (t+1)):=by
 rw[ho,gB _ _ _ (by rw[fA];exact hi)];rfl
def fcS (l:List Pt)(m:List Ed)(n:Int):List Value->YS Int
 |[]=>some (jS l m&&decide (1<=m.length),(cQ l m).of,[iv (cQ l m).faces,.bool (vC (cQ l m))])
 |_=>none
theorem aJe {l:List Pt}{m:List Ed}{n:Int}{r:List Value}{out:List Int}{rest:List Value}(h:fcS l m n r=some (true,out,rest)):r=[]/\jS l m=true/\1<=m.length/\out=(cQ l m).of/\rest=[iv (cQ l m).faces,.bool (vC (cQ l m))]:=by
 unfold fcS at h;split at h
 ·injection h with h;injection h with h1 h2;injection h2 with h2 h3;simp only[af,ag]at h1;exact⟨rfl,h1.1,h1.2,h2.symm,h3.symm⟩
 ·cases h
def tru (m:List Ed):List Bool:=List.replicate (2*m.length) true
theorem aJs (m:List Ed):(tru m).length=2*m.length:=List.length_replicate
def kM (l:List Pt)(m:List Ed)(c1 c2:Nat)(n:Int)(s:Value)(F:Int)(K:Bool):Heap:=(5,aq 1 [s,iv F,.bool K])::(4,aq 1 (flat gJ.fl (tru m)))::(3,aq 1 [.slice none 0 0,iv 0,.bool false])::(2,dU l.length m.length c1 c2 n)::aS aX bS l m
def ZN (m:List Ed)(j:Int):List (Nat × Value):=[(1,ao 2),(2,ao 3),(3,ak 4 (tru m).length (tru m).length),(4,ao 5),(5,iv j)]
def wX (m:List Ed)(O j:Int):List (Nat × Value):=[(1,ao 2),(2,ao 3),(3,ak 4 (tru m).length (tru m).length),(4,ao 5),(6,iv O),(7,iv j)]
def N7 (m:List Ed)(w:List Int)(O j c i:Int):List (Nat × Value):=(8,ak 7 w.length w.length)::(10,iv c)::(11,iv i)::wX m O j
def aAi:Nat × XF:=(130,mYX aX bS aW fcS)
theorem aKT:c7 Tryz.prog aAi.1 aAi.2:=aEi aX bS aW (aL (xl:=[aNw,aGe,X90]) (.cons aQY (.cons aQh (.cons x90 .nil)))) fun l m n r out rest hs=>by
 obtain⟨rfl,hM,h1m,rfl,rfl⟩:=aJe hs;clear hs;refine⟨rfl,rfl,fun c1 c2=>?_⟩;have hm:m.length<=1000:=(by simp only[jS,af,ag]at hM;exact hM.1.2);(conv=>whnf);refine⟨_,_,_,[],l,m,rfl,aP aX rfl,aP bS rfl,?_⟩;((conv=>whnf);apply bm<;>intro h1);rotate_left
 ·exfalso;have h1:(decide (1<=m.length)&&decide (m.length<=1000))=false:=h1;rw[ai h1m,ai hm]at h1;cases h1
 (conv=>whnf)
 refine⟨fun q e h nx=>∃(i:Nat) (j:Int),j=i/\i<=2*m.length/\q=2*m.length - i/\e=ZN m j /\
  ((i=0/\h=kM l m c1 c2 n (.slice none 0 0) 0 true/\nx=6)\/(0<i/\h=(6,aq 1 (flat aW.fl (List.replicate i (-1))))::kM l m c1 c2 n (ak 6 i i) 0 true/\nx=7)),⟨2*m.length,?_⟩,?_⟩
 ·exact aJ (h0:=kM l m c1 c2 n (.slice none 0 0) 0 true) (n0:=6) ⟨0,0,rfl,Nat.zero_le _,rfl,rfl,.inl ⟨rfl,rfl,rfl⟩⟩
 rintro q e h nx ⟨i,j,hj,hi,rfl,rfl,⟨hi0,rfl,rfl⟩|⟨hip,rfl,rfl⟩⟩
 ·subst hi0;unfold ZN kM dU aS;(conv=>whnf);refine bt ?_;(conv=>whnf);refine bt ?_;(conv=>whnf);refine bt ?_;(conv=>whnf);refine⟨2*m.length - 1,aa,?_⟩;refine mN (e0:=ZN m (j+1)) (h0:=(6,aq 1 (flat aW.fl [-1]))::kM l m c1 c2 n (ak 6 1 1) 0 true) (n0:=7) 6 7 (by decide) (by decide) ⟨1,j+1,aa,aa,rfl,rfl,.inr ⟨Nat.one_pos,rfl,rfl⟩⟩ ?_ ?_ ?_
  ·unfold ZN;exact xE
  ·unfold kM dU aS;exact xH
  unfold kM aS;((repeat' refine iK rfl ?_);exact iN)
 unfold ZN kM dU aS;(conv=>whnf);refine bu fun h2=>?_;((conv=>whnf);apply bm<;>intro h3)
 ·have hlt:i<2*m.length:=(by simp[aB,aF]at h3;omega);have hll:(flat aW.fl (List.replicate i (-1))).length=i:=(by rw[aO,List.length_replicate];exact Nat.mul_one _);((conv=>whnf);apply bm<;>intro h4)
  ·exfalso;have:=Nat.le_of_ble_eq_true h4;omega
  ((conv=>whnf);apply bm<;>intro h5)
  ·(conv=>whnf);refine bt ?_;(conv=>whnf);refine⟨2*m.length - (i+1),aa,?_⟩
   refine mN (e0:=ZN m (j+1)) (h0:=(6,aq 1 (flat aW.fl (List.replicate i (-1)++[-1])))::kM l m c1 c2 n (ak 6 (i+1) (i+1)) 0 true) (n0:=7) 6 8 (by decide) (by decide)
    ⟨i+1,j+1,aa,aa,rfl,rfl,.inr ⟨Nat.succ_pos _,by rw[List.replicate_succ'];rfl,rfl⟩⟩ ?_ ?_ ?_
   ·unfold ZN;exact xE
   ·unfold kM dU aS;((repeat'(first|refine iW rfl rfl (aK (aC aW _) (cT aW (List.replicate i (-1)) (-1) (by rw[List.length_replicate]))) ?_|refine iF rfl rfl ?_|refine iC rfl rfl rfl ?_|refine iJ rfl rfl rfl rfl ?_));exact iN)
   unfold kM aS;((repeat' refine iK rfl ?_);exact iN)
  exact iP (s:=1) aa aa h5
 have hge:i=2*m.length:=(by simp[aB,aF]at h3;omega);subst hge;(conv=>whnf)
 refine⟨fun q e h nx=>∃(i:Nat) (j:Int),j=i/\i<=2*m.length/\q=2*m.length - i/\e=wX m (lD l m i).outside j /\
  h=(6,aq 1 (flat aW.fl (lD l m i).of))::kM l m c1 c2 n (ak 6 (2*m.length) (2*m.length)) (lD l m i).faces (lD l m i).ok/\nx=7,⟨2*m.length,?_⟩,?_⟩
 ·exact aJ (h0:=(6,aq 1 (flat aW.fl (List.replicate (2*m.length) (-1))))::kM l m c1 c2 n (ak 6 (2*m.length) (2*m.length)) 0 true) (n0:=7) ⟨0,0,rfl,Nat.zero_le _,rfl,rfl,rfl,rfl⟩
 clear h2 h3 hj hi hip h1;rintro q e h nx ⟨i,j,hj,hi,rfl,rfl,rfl,rfl⟩;have low:=OG l m i;have len:=uJ l m i;have nxt:lD l m (i+1)=sS l m (lD l m i) i:=rfl;generalize hst:lD l m i=st at low len nxt;unfold wX kM dU aS;(conv=>whnf);refine bt ?_;((conv=>whnf);apply bm<;>intro h3);rotate_left
 ·have hge:i=2*m.length:=(by simp[aB,aF]at h3;omega);have hfin:cQ l m=st:=(by rw[<- hst,hge];rfl);rw[hfin]
  repeat' ((conv=>whnf);apply bm<;>intro g1)
  all_goals(conv=>whnf)
  all_goals refine⟨6,?_,rfl⟩
  all_goals(show Value.agg _=Value.agg _)
  all_goals rw[len]
  all_goals(simp[aB,aF]at *)
  all_goals simp[vC, *]
 have hlt:i<2*m.length:=(by simp[aB,aF]at h3;omega);have hdj:tE m j=true:=(by simp only[tE,af,ag];omega);(conv=>whnf);refine bt ?_;(conv=>whnf);refine fD (dY st.of (i:=i) aa ?_) ?_
 ·show _+Int.toNat j*1=_;omega
 ((conv=>whnf);apply bm<;>intro h5)
 ·have h5:0<=aG st.of i:=(by simpa[aB,aF]using h5);(conv=>whnf);refine bt ?_;(conv=>whnf);refine⟨2*m.length - (i+1),aa,?_⟩;refine cU (e0:=wX m st.outside (j+1)) (h0:=(6,aq 1 (flat aW.fl st.of))::kM l m c1 c2 n (ak 6 (2*m.length) (2*m.length)) st.faces st.ok) (n0:=7) ⟨i+1,j+1,aa,aa,rfl,?_,?_,rfl⟩ ?_ ?_ (by decide)
  ·rw[nxt];unfold sS;rw[if_pos h5];rfl
  ·rw[nxt];unfold sS;rw[if_pos h5];rfl
  ·unfold wX;exact xE
  unfold kM dU aS;exact xH
 have h5:¬ 0<=aG st.of i:=(by simpa[aB,aF]using h5);(conv=>whnf);refine⟨_,_,_,[iv j],_,l,m,tru m,rfl,aP aX rfl,aP bS rfl,aP gJ rfl,?_⟩;((conv=>whnf);apply bm<;>intro h6);rotate_left
 ·exfalso;have h6:(jS l m&&tE m j&&decide ((tru m).length=2*m.length))=false:=h6;rw[hM,hdj,ai (aJs m)]at h6;cases h6
 obtain⟨w,hw⟩:∃ w,w=m0 l m (tru m) j:=⟨_,rfl⟩;have hwl:=YU l m (tru m) j;have hwp:=ZU l m (tru m) j;have hwi:=aDj (l:=l) (k:=tru m) hm hdj;rw[<- hw]at hwl hwp hwi;have hj':m0 l m (List.replicate (2*m.length) true) i=w:=(by rw[hw,hj];rfl);rw[<- hw];(conv=>whnf);refine⟨_,_,_,[],_,l,m,w,rfl,aP aX rfl,aP bS rfl,aP aW rfl,?_⟩;((conv=>whnf);apply bm<;>intro h7);rotate_left
 ·exfalso;have h7:(jS l m&&aCt m w&&decide (w.length<=10000))=false:=h7;rw[hM,hwi,ai (aa:w.length<=10000)]at h7;cases h7
 obtain⟨a,ha⟩:∃ a,a=qE l m w w.length:=⟨_,rfl⟩;rw[<- ha];have hstep:sS l m st i=⟨cX st.of w (if 0<a then st.faces+1 else 0) w.length,if 0<a then st.faces+1 else st.faces,if a<0 then st.outside+1 else st.outside,if a=0 then false else st.ok⟩:=by
  unfold sS;rw[if_neg h5];simp only[hj',<- ha]
 ((conv=>whnf);apply bm<;>intro g1)
 ·have g1:0<a:=(by simpa[aB,aF]using g1);rw[if_pos g1,if_pos g1,if_neg aa,if_neg aa]at hstep;(conv=>whnf);refine bt ?_;((conv=>whnf);apply bm<;>intro g3)
  ·exfalso;have:a<0:=(by simpa[aB,aF]using g3);omega
  ((conv=>whnf);apply bm<;>intro g4)
  ·exfalso;have:a=0:=(by simpa[aB,aF]using g4);omega
  (conv=>whnf)
  refine⟨fun q e h nx=>∃(t:Nat) (z:Int),z=t/\t<=w.length/\q=w.length - t/\e=N7 m w (st.outside) j (st.faces+1) z /\
   h=(7,aq 1 (flat aW.fl w))::(6,aq 1 (flat aW.fl (cX st.of w (st.faces+1) t)))::kM l m c1 c2 n (ak 6 (2*m.length) (2*m.length)) (st.faces+1) (st.ok)/\nx=8,⟨w.length,?_⟩,?_⟩
  ·exact aJ (h0:=(7,aq 1 (flat aW.fl w))::(6,aq 1 (flat aW.fl st.of))::kM l m c1 c2 n (ak 6 (2*m.length) (2*m.length)) (st.faces+1) (st.ok)) (n0:=8) ⟨0,0,rfl,Nat.zero_le _,rfl,rfl,rfl,rfl⟩
  rintro q e h nx ⟨t,z,hz,ht,rfl,rfl,rfl,rfl⟩;have sl:=fA st.of w (st.faces+1) t;unfold N7 wX kM dU aS;((conv=>whnf);apply bm<;>intro k1)
  ·have htl:t<w.length:=(by simp[aB,aF]at k1;omega);have hdt:=D5 hwi htl;simp only[tE,af,ag]at hdt;(conv=>whnf);refine bt ?_;(conv=>whnf);refine fD (dY w (i:=t) htl ?_) ?_
   ·show _+Int.toNat z*1=_;omega
   (conv=>whnf);refine bt ?_;((conv=>whnf);apply bm<;>intro k4)
   ·(conv=>whnf);refine bt ?_;(conv=>whnf);refine⟨w.length - (t+1),aa,?_⟩;refine aJ (h0:=(7,aq 1 (flat aW.fl w))::(6,aq 1 (flat aW.fl (cX st.of w (st.faces+1) (t+1))))::kM l m c1 c2 n (ak 6 (2*m.length) (2*m.length)) (st.faces+1) (st.ok)) (n0:=8) ⟨t+1,z+1,aa,aa,rfl,rfl,rfl,rfl⟩ (hh:=?_)
    ·unfold kM dU aS;have cO:=mV (of:=st.of) (w:=w) (c:=st.faces+1) (t:=t) (o:=0+(aG w t).toNat*1) aa aa;((repeat'(first|refine iW rfl rfl (aK (aC aW _) cO) ?_|refine iF rfl rfl ?_|refine iC rfl rfl rfl ?_|refine iJ rfl rfl rfl rfl ?_));exact iN)
   exfalso;have hfl:(flat aW.fl (cX st.of w (st.faces+1) t)).length=2*m.length:=(by rw[aO,sl,len];exact Nat.mul_one _);rw[hfl]at k4;have k4:(0+(aG w t).toNat*1+1).ble (2*m.length)=false:=k4;have:=Nat.ble_eq_true_of_le (aa:0+(aG w t).toNat*1+1<=2*m.length);rw[this]at k4;cases k4
  have hgt:t=w.length:=(by simp[aB,aF]at k1;omega);subst hgt;(conv=>whnf);refine bt ?_;(conv=>whnf);refine⟨2*m.length - (i+1),aa,?_⟩;exact aJ (e0:=wX m (st.outside) (j+1)) (h0:=(6,aq 1 (flat aW.fl (cX st.of w (st.faces+1) w.length)))::kM l m c1 c2 n (ak 6 (2*m.length) (2*m.length)) (st.faces+1) (st.ok)) (n0:=7) ⟨i+1,j+1,aa,aa,rfl,by rw[nxt,hstep];rfl,by rw[nxt,hstep];rfl,rfl⟩
 have g1:¬ 0<a:=(by simpa[aB,aF]using g1);rw[if_neg g1,if_neg g1]at hstep;((conv=>whnf);apply bm<;>intro g3)
 ·have g3:a<0:=(by simpa[aB,aF]using g3);rw[if_pos g3,if_neg aa]at hstep;(conv=>whnf);refine bt ?_;((conv=>whnf);apply bm<;>intro g4)
  ·exfalso;have:a=0:=(by simpa[aB,aF]using g4);omega
  (conv=>whnf)
  refine⟨fun q e h nx=>∃(t:Nat) (z:Int),z=t/\t<=w.length/\q=w.length - t/\e=N7 m w (st.outside+1) j (0) z /\
   h=(7,aq 1 (flat aW.fl w))::(6,aq 1 (flat aW.fl (cX st.of w (0) t)))::kM l m c1 c2 n (ak 6 (2*m.length) (2*m.length)) (st.faces) (st.ok)/\nx=8,⟨w.length,?_⟩,?_⟩
  ·exact aJ (h0:=(7,aq 1 (flat aW.fl w))::(6,aq 1 (flat aW.fl st.of))::kM l m c1 c2 n (ak 6 (2*m.length) (2*m.length)) (st.faces) (st.ok)) (n0:=8) ⟨0,0,rfl,Nat.zero_le _,rfl,rfl,rfl,rfl⟩
  rintro q e h nx ⟨t,z,hz,ht,rfl,rfl,rfl,rfl⟩;have sl:=fA st.of w (0) t;unfold N7 wX kM dU aS;((conv=>whnf);apply bm<;>intro k1)
  ·have htl:t<w.length:=(by simp[aB,aF]at k1;omega);have hdt:=D5 hwi htl;simp only[tE,af,ag]at hdt;(conv=>whnf);refine bt ?_;(conv=>whnf);refine fD (dY w (i:=t) htl ?_) ?_
   ·show _+Int.toNat z*1=_;omega
   (conv=>whnf);refine bt ?_;((conv=>whnf);apply bm<;>intro k4)
   ·(conv=>whnf);refine bt ?_;(conv=>whnf);refine⟨w.length - (t+1),aa,?_⟩;refine aJ (h0:=(7,aq 1 (flat aW.fl w))::(6,aq 1 (flat aW.fl (cX st.of w (0) (t+1))))::kM l m c1 c2 n (ak 6 (2*m.length) (2*m.length)) (st.faces) (st.ok)) (n0:=8) ⟨t+1,z+1,aa,aa,rfl,rfl,rfl,rfl⟩ (hh:=?_)
    ·unfold kM dU aS;have cO:=mV (of:=st.of) (w:=w) (c:=0) (t:=t) (o:=0+(aG w t).toNat*1) aa aa;((repeat'(first|refine iW rfl rfl (aK (aC aW _) cO) ?_|refine iF rfl rfl ?_|refine iC rfl rfl rfl ?_|refine iJ rfl rfl rfl rfl ?_));exact iN)
   exfalso;have hfl:(flat aW.fl (cX st.of w (0) t)).length=2*m.length:=(by rw[aO,sl,len];exact Nat.mul_one _);rw[hfl]at k4;have k4:(0+(aG w t).toNat*1+1).ble (2*m.length)=false:=k4;have:=Nat.ble_eq_true_of_le (aa:0+(aG w t).toNat*1+1<=2*m.length);rw[this]at k4;cases k4
  have hgt:t=w.length:=(by simp[aB,aF]at k1;omega);subst hgt;(conv=>whnf);refine bt ?_;(conv=>whnf);refine⟨2*m.length - (i+1),aa,?_⟩;exact aJ (e0:=wX m (st.outside+1) (j+1)) (h0:=(6,aq 1 (flat aW.fl (cX st.of w (0) w.length)))::kM l m c1 c2 n (ak 6 (2*m.length) (2*m.length)) (st.faces) (st.ok)) (n0:=7) ⟨i+1,j+1,aa,aa,rfl,by rw[nxt,hstep];rfl,by rw[nxt,hstep];rfl,rfl⟩
 have g3:¬ a<0:=(by simpa[aB,aF]using g3);rw[if_neg g3,if_pos aa]at hstep;((conv=>whnf);apply bm<;>intro g4);rotate_left
 ·exfalso;have:¬ a=0:=(by simpa[aB,aF]using g4);omega
 (conv=>whnf)
 refine⟨fun q e h nx=>∃(t:Nat) (z:Int),z=t/\t<=w.length/\q=w.length - t/\e=N7 m w (st.outside) j (0) z /\
  h=(7,aq 1 (flat aW.fl w))::(6,aq 1 (flat aW.fl (cX st.of w (0) t)))::kM l m c1 c2 n (ak 6 (2*m.length) (2*m.length)) (st.faces) (false)/\nx=8,⟨w.length,?_⟩,?_⟩
 ·exact aJ (h0:=(7,aq 1 (flat aW.fl w))::(6,aq 1 (flat aW.fl st.of))::kM l m c1 c2 n (ak 6 (2*m.length) (2*m.length)) (st.faces) (false)) (n0:=8) ⟨0,0,rfl,Nat.zero_le _,rfl,rfl,rfl,rfl⟩
 rintro q e h nx ⟨t,z,hz,ht,rfl,rfl,rfl,rfl⟩;have sl:=fA st.of w (0) t;unfold N7 wX kM dU aS;((conv=>whnf);apply bm<;>intro k1)
 ·have htl:t<w.length:=(by simp[aB,aF]at k1;omega);have hdt:=D5 hwi htl;simp only[tE,af,ag]at hdt;(conv=>whnf);refine bt ?_;(conv=>whnf);refine fD (dY w (i:=t) htl ?_) ?_
  ·show _+Int.toNat z*1=_;omega
  (conv=>whnf);refine bt ?_;((conv=>whnf);apply bm<;>intro k4)
  ·(conv=>whnf);refine bt ?_;(conv=>whnf);refine⟨w.length - (t+1),aa,?_⟩;refine aJ (h0:=(7,aq 1 (flat aW.fl w))::(6,aq 1 (flat aW.fl (cX st.of w (0) (t+1))))::kM l m c1 c2 n (ak 6 (2*m.length) (2*m.length)) (st.faces) (false)) (n0:=8) ⟨t+1,z+1,aa,aa,rfl,rfl,rfl,rfl⟩ (hh:=?_)
   ·unfold kM dU aS;have cO:=mV (of:=st.of) (w:=w) (c:=0) (t:=t) (o:=0+(aG w t).toNat*1) aa aa;((repeat'(first|refine iW rfl rfl (aK (aC aW _) cO) ?_|refine iF rfl rfl ?_|refine iC rfl rfl rfl ?_|refine iJ rfl rfl rfl rfl ?_));exact iN)
  exfalso;have hfl:(flat aW.fl (cX st.of w (0) t)).length=2*m.length:=(by rw[aO,sl,len];exact Nat.mul_one _);rw[hfl]at k4;have k4:(0+(aG w t).toNat*1+1).ble (2*m.length)=false:=k4;have:=Nat.ble_eq_true_of_le (aa:0+(aG w t).toNat*1+1<=2*m.length);rw[this]at k4;cases k4
 have hgt:t=w.length:=(by simp[aB,aF]at k1;omega);subst hgt;(conv=>whnf);refine bt ?_;(conv=>whnf);refine⟨2*m.length - (i+1),aa,?_⟩;exact aJ (e0:=wX m (st.outside) (j+1)) (h0:=(6,aq 1 (flat aW.fl (cX st.of w (0) w.length)))::kM l m c1 c2 n (ak 6 (2*m.length) (2*m.length)) (st.faces) (false)) (n0:=7) ⟨i+1,j+1,aa,aa,rfl,by rw[nxt,hstep];rfl,by rw[nxt,hstep];rfl,rfl⟩
theorem DO (l:List Bool):∀(i:Nat) (v:Bool),i<l.length->bU (flat gJ.fl l) (i*1) [.bool v]=flat gJ.fl (l.set i v):=by
 induction l with
 |nil=>intro i v h;cases h
 |cons a r ih =>
  intro i v h;cases i with
  |zero=>rfl
  |succ i =>
   have:=ih i v (by simpa using h);simp only[List.set_cons_succ,flat,<- this];have e:(i+1)*1=i*1+1:=aa;rw[e];unfold bU;show List.take (i*1+1) (.bool a::flat gJ.fl r)++_++List.drop (i*1+1+1) (.bool a::flat gJ.fl r)=_;rfl
def oY (i:Nat):List Bool:=(List.range i).map fun(t:Nat)=>decide ((t:Int)=0)
theorem xZ (i:Nat):(oY i).length=i:=by simp[oY]
theorem aNE (i:Nat):oY (i+1)=oY i++[decide ((i:Int)=0)]:=by
 unfold oY;rw[List.range_succ,List.map_append];rfl
def zT (s:List Bool)(e:Ed):List Bool:=if(dG s e.a.toNat || dG s e.b.toNat)=true then(s.set e.a.toNat true).set e.b.toNat true else s
def pO (m:List Ed)(s:List Bool):Nat->List Bool
 |0=>s
 |i+1=>zT (pO m s i) (aU m i)
def eX (l:List Pt)(m:List Ed):Nat->List Bool
 |0=>oY l.length
 |i+1=>pO m (eX l m i) m.length
def mK (l:List Pt)(m:List Ed):Bool:=(eX l m l.length).all id
theorem aDR (s:List Bool)(e:Ed):(zT s e).length=s.length:=by
 unfold zT;split <;> simp
theorem yH (m:List Ed)(s:List Bool):∀ i,(pO m s i).length=s.length
 |0=>rfl
 |i+1=>by unfold pO;rw[aDR];exact yH m s i
theorem B7 (l:List Pt)(m:List Ed):∀ i,(eX l m i).length=l.length
 |0=>xZ _
 |i+1=>by unfold eX;rw[yH];exact B7 l m i
theorem X8 {s:List Bool}{a b o1 o2:Nat}(h1:o1=a*1)(h2:o2=b*1)(ha:a<s.length)(hb:b<s.length):bU (bU (flat gJ.fl s) o1 [.bool true]) o2 [.bool true]=flat gJ.fl ((s.set a true).set b true):=by
 rw[h1,h2,DO _ _ _ ha,DO _ _ _ (by rw[List.length_set];exact hb)]
theorem eD {x N:Nat}{p:Prop}(h:x.ble N=false)(hx:x<=N):p:=by
 rw[Nat.ble_eq_true_of_le hx]at h;cases h
def coS (l:List Pt)(m:List Ed)(n:Int):List Value->Option (Bool × Value)
 |[]=>some (jS l m&&decide (1<=l.length),.bool (mK l m))
 |_=>none
theorem aHK {l:List Pt}{m:List Ed}{n:Int}{r:List Value}{v:Value}(h:coS l m n r=some (true,v)):r=[]/\jS l m=true/\1<=l.length/\v=.bool (mK l m):=by
 unfold coS at h;split at h
 ·injection h with h;injection h with h1 h2;simp only[af,ag]at h1;exact⟨rfl,h1.1,h1.2,h2.symm⟩
 ·cases h
def cM (l:List Pt)(m:List Ed)(c1 c2:Nat)(n:Int):Heap:=(2,dU l.length m.length c1 c2 n)::aS aX bS l m
def cW (l:List Pt)(m:List Ed)(c1 c2:Nat)(n:Int)(s:List Bool):Heap:=(3,aq 1 (flat gJ.fl s))::cM l m c1 c2 n
def VB (s:Value)(j:Int):List (Nat × Value):=[(1,ao 2),(3,s),(4,iv j)]
def aAg (N:Nat)(j:Int):List (Nat × Value):=[(1,ao 2),(3,ak 3 N N),(5,iv j)]
def aKq (N:Nat)(j k:Int):List (Nat × Value):=(6,iv k)::aAg N j
def aKe (N:Nat)(j:Int):List (Nat × Value):=[(3,ak 3 N N),(8,iv j)]
def aAG:Nat × XF:=(129,mX aX bS coS)
theorem aL0:c7 Tryz.prog aAG.1 aAG.2:=xF aX bS (aL (xl:=[]) .nil) fun l m n r v hs=>by
 obtain⟨rfl,hM,h1l,rfl⟩:=aHK hs;clear hs;refine⟨rfl,rfl,fun c1 c2=>?_⟩;have hm:m.length<=1000:=(by simp only[jS,af,ag]at hM;exact hM.1.2);have hl:l.length<=1000:=(by simp only[jS,af,ag]at hM;exact hM.2);(conv=>whnf)
 refine⟨fun q e h nx=>∃(i:Nat) (j:Int),j=i/\i<=l.length/\q=l.length - i /\
  ((i=0/\e=VB (.slice none 0 0) j/\h=cM l m c1 c2 n/\nx=3)\/(0<i/\e=VB (ak 3 i i) j/\h=cW l m c1 c2 n (oY i)/\nx=4)),⟨l.length,?_⟩,?_⟩
 ·exact aJ (h0:=cM l m c1 c2 n) (n0:=3) ⟨0,0,rfl,Nat.zero_le _,rfl,.inl ⟨rfl,rfl,rfl,rfl⟩⟩
 rintro q e h nx ⟨i,j,hj,hi,rfl,⟨hi0,rfl,rfl,rfl⟩|⟨hip,rfl,rfl,rfl⟩⟩
 ·subst hi0;unfold VB cM dU aS;(conv=>whnf);refine bt ?_;(conv=>whnf);refine bt ?_;(conv=>whnf);refine⟨l.length - 1,aa,?_⟩;refine mN (e0:=VB (ak 3 1 1) (j+1)) (h0:=cW l m c1 c2 n [decide (j=0)]) (n0:=4) 3 4 (by decide) (by decide) ⟨1,j+1,aa,aa,rfl,.inr ⟨Nat.one_pos,rfl,by rw[hj];rfl,rfl⟩⟩ ?_ ?_ ?_
  ·unfold VB;exact xE
  ·unfold cW cM dU aS;exact xH
  unfold cW cM aS;((repeat' refine iK rfl ?_);exact iN)
 unfold VB cW cM dU aS;((conv=>whnf);apply bm<;>intro h2)
 ·have hlt:i<l.length:=(by simp[aB,aF]at h2;omega);have hll:(flat gJ.fl (oY i)).length=i:=(by rw[aO,xZ];exact Nat.mul_one _);((conv=>whnf);apply bm<;>intro h3)
  ·exfalso;have:=Nat.le_of_ble_eq_true h3;omega
  ((conv=>whnf);apply bm<;>intro h4)
  ·(conv=>whnf);refine bt ?_;(conv=>whnf);refine⟨l.length - (i+1),aa,?_⟩
   refine mN (e0:=VB (ak 3 (i+1) (i+1)) (j+1)) (h0:=cW l m c1 c2 n (oY i++[decide (j=0)])) (n0:=4) 3 5 (by decide) (by decide)
    ⟨i+1,j+1,aa,aa,rfl,.inr ⟨Nat.succ_pos _,rfl,by rw[aNE,hj];rfl,rfl⟩⟩ ?_ ?_ ?_
   ·unfold VB;exact xE
   ·unfold cW cM dU aS;((repeat'(first|refine iW rfl rfl (aK (aC gJ _) (cT gJ (oY i) (decide (j=0)) (xZ i).symm)) ?_|refine iF rfl rfl ?_|refine iC rfl rfl rfl ?_|refine iJ rfl rfl rfl rfl ?_));exact iN)
   unfold cW cM aS;((repeat' refine iK rfl ?_);exact iN)
  exact iP (s:=1) aa aa h4
 have hge:i=l.length:=(by simp[aB,aF]at h2;omega);subst hge;clear hj hi hip h2;(conv=>whnf);refine⟨fun q e h nx=>∃(i:Nat) (j:Int),j=i/\i<=l.length/\q=l.length - i/\e=aAg l.length j/\h=cW l m c1 c2 n (eX l m i)/\nx=4,⟨l.length,?_⟩,?_⟩
 ·exact aJ (h0:=cW l m c1 c2 n (oY l.length)) (n0:=4) ⟨0,0,rfl,Nat.zero_le _,rfl,rfl,rfl,rfl⟩
 rintro q e h nx ⟨i,j,hj,hi,rfl,rfl,rfl,rfl⟩;have cl:=B7 l m i;unfold aAg cW cM dU aS;((conv=>whnf);apply bm<;>intro h2);rotate_left
 ·have hge:i=l.length:=(by simp[aB,aF]at h2;omega);have hcon:mK l m=(eX l m i).all id:=(by rw[hge];rfl);generalize eX l m i=s at cl hcon;rw[hcon];clear hcon;(conv=>whnf);refine⟨fun q e h nx=>∃(t:Nat) (z:Int),z=t/\t<=l.length/\q=l.length - t/\s.all id=(s.drop t).all id/\e=aKe l.length z/\h=cW l m c1 c2 n s/\nx=4,⟨l.length,?_⟩,?_⟩
  ·exact aJ (h0:=cW l m c1 c2 n s) (n0:=4) ⟨0,0,rfl,Nat.zero_le _,rfl,rfl,rfl,rfl,rfl⟩
  rintro q e h nx ⟨t,z,hz,ht,rfl,hall,rfl,rfl,rfl⟩;unfold aKe cW cM dU aS;((conv=>whnf);apply bm<;>intro h3)
  ·have htl:t<l.length:=(by simp[aB,aF]at h3;omega);have hd:s.drop t=dG s t::s.drop (t+1):=(by rw[sM aa];exact List.drop_eq_getElem_cons aa);rw[hd,List.all_cons]at hall;(conv=>whnf);refine bt ?_;(conv=>whnf);refine fD (PX s (i:=t) aa ?_) ?_
   ·show _+Int.toNat z*1=_;omega
   ((conv=>whnf);apply bm<;>intro h5)
   ·have h5:dG s t=false:=(by simpa[aB,aF]using h5);(conv=>whnf);rw[hall,h5];rfl
   have h5:dG s t=true:=(by simpa[aB,aF]using h5);(conv=>whnf);refine bt ?_;(conv=>whnf);refine⟨l.length - (t+1),aa,?_⟩;exact aJ (h0:=cW l m c1 c2 n s) (n0:=4) ⟨t+1,z+1,aa,aa,rfl,by rw[hall,h5];rfl,rfl,rfl,rfl⟩
  have hgt:t=l.length:=(by simp[aB,aF]at h3;omega);(conv=>whnf);rw[hall,hgt,List.drop_eq_nil_of_le aa];rfl
 have hlt:i<l.length:=(by simp[aB,aF]at h2;omega);(conv=>whnf);refine⟨fun q e h nx=>∃(t:Nat) (z:Int),z=t/\t<=m.length/\q=m.length - t/\e=aKq l.length j z/\h=cW l m c1 c2 n (pO m (eX l m i) t)/\nx=4,⟨m.length,?_⟩,?_⟩
 ·exact aJ (h0:=cW l m c1 c2 n (eX l m i)) (n0:=4) ⟨0,0,rfl,Nat.zero_le _,rfl,rfl,rfl,rfl⟩
 rintro q e h nx ⟨t,z,hz,ht,rfl,rfl,rfl,rfl⟩;have rl:=yH m (eX l m i) t;rw[cl]at rl;have nxt:pO m (eX l m i) (t+1)=zT (pO m (eX l m i) t) (aU m t):=rfl;generalize hs0:pO m (eX l m i) t=s at rl nxt;unfold aKq aAg cW cM dU aS;((conv=>whnf);apply bm<;>intro h3);rotate_left
 ·have hge:t=m.length:=(by simp[aB,aF]at h3;omega);have hcn:eX l m (i+1)=s:=by
   show pO m (eX l m i) m.length=s;rw[<- hge];exact hs0
  (conv=>whnf);refine bt ?_;(conv=>whnf);refine⟨l.length - (i+1),aa,?_⟩;exact aJ (h0:=cW l m c1 c2 n s) (n0:=4) ⟨i+1,j+1,aa,aa,rfl,rfl,by rw[hcn];rfl,rfl⟩
 have htl:t<m.length:=(by simp[aB,aF]at h3;omega);have he:=nU hM htl;have hsl:(flat gJ.fl s).length=l.length:=(by rw[aO,rl];exact Nat.mul_one _);(conv=>whnf);refine bt ?_;(conv=>whnf);refine eZ (BE m (i:=t) htl ?_) ?_
 ·show _+Int.toNat z*5=_;omega
 generalize aU m t=ed at he nxt;(conv=>whnf);refine bt ?_;(conv=>whnf);refine fD (PX s (i:=ed.a.toNat) aa ?_) ?_
 ·show _+Int.toNat ed.a*1=_;omega
 have fin:∀ s',zT s ed=s'->pO m (eX l m i) (t+1)=s':=fun s' h=>(by rw[nxt,h]);((conv=>whnf);apply bm<;>intro g1);rotate_left
 ·have g1:dG s ed.a.toNat=true:=(by simpa[aB,aF]using g1);have hrel:zT s ed=(s.set ed.a.toNat true).set ed.b.toNat true:=(by unfold zT;rw[g1];rfl);(conv=>whnf);refine bt ?_;((conv=>whnf);apply bm<;>intro k2)
  ·(conv=>whnf);refine bt ?_;((conv=>whnf);apply bm<;>intro k4)
   ·(conv=>whnf);refine bt ?_;(conv=>whnf);refine⟨m.length - (t+1),aa,?_⟩;refine aJ (h0:=cW l m c1 c2 n ((s.set ed.a.toNat true).set ed.b.toNat true)) (n0:=4) ⟨t+1,z+1,aa,aa,rfl,rfl,by rw[fin _ hrel];rfl,rfl⟩ (hh:=?_)
    ·unfold cW cM dU aS;have cO:=X8 (s:=s) (a:=ed.a.toNat) (b:=ed.b.toNat) (o1:=0+ed.a.toNat*1) (o2:=0+ed.b.toNat*1) aa aa aa aa;((repeat'(first|refine iW rfl rfl (aK (aC gJ _) cO) ?_|refine iF rfl rfl ?_|refine iC rfl rfl rfl ?_|refine iJ rfl rfl rfl rfl ?_));exact iN)
   have hpl:(bU (flat gJ.fl s) (0+ed.a.toNat*1) [.bool true]).length=l.length:=(by rw[cG (by rw[hsl];show 0+ed.a.toNat*1+1<=l.length;omega)];exact hsl);have k4:(0+ed.b.toNat*1+1).ble (bU (flat gJ.fl s) (0+ed.a.toNat*1) [.bool true]).length=false:=k4;rw[hpl]at k4;exact eD k4 aa
  rw[hsl]at k2;exact eD k2 (by show 0+ed.a.toNat*1+1<=l.length;omega)
 have g1:dG s ed.a.toNat=false:=(by simpa[aB,aF]using g1);(conv=>whnf);refine bt ?_;(conv=>whnf);refine fD (PX s (i:=ed.b.toNat) aa ?_) ?_
 ·show _+Int.toNat ed.b*1=_;omega
 ((conv=>whnf);apply bm<;>intro g3)
 ·have g3:dG s ed.b.toNat=true:=g3;have hrel:zT s ed=(s.set ed.a.toNat true).set ed.b.toNat true:=(by unfold zT;rw[g1,g3];rfl);(conv=>whnf);refine bt ?_;((conv=>whnf);apply bm<;>intro k2)
  ·(conv=>whnf);refine bt ?_;((conv=>whnf);apply bm<;>intro k4)
   ·(conv=>whnf);refine bt ?_;(conv=>whnf);refine⟨m.length - (t+1),aa,?_⟩;refine aJ (h0:=cW l m c1 c2 n ((s.set ed.a.toNat true).set ed.b.toNat true)) (n0:=4) ⟨t+1,z+1,aa,aa,rfl,rfl,by rw[fin _ hrel];rfl,rfl⟩ (hh:=?_)
    ·unfold cW cM dU aS;have cO:=X8 (s:=s) (a:=ed.a.toNat) (b:=ed.b.toNat) (o1:=0+ed.a.toNat*1) (o2:=0+ed.b.toNat*1) aa aa aa aa;((repeat'(first|refine iW rfl rfl (aK (aC gJ _) cO) ?_|refine iF rfl rfl ?_|refine iC rfl rfl rfl ?_|refine iJ rfl rfl rfl rfl ?_));exact iN)
   have hpl:(bU (flat gJ.fl s) (0+ed.a.toNat*1) [.bool true]).length=l.length:=(by rw[cG (by rw[hsl];show 0+ed.a.toNat*1+1<=l.length;omega)];exact hsl);have k4:(0+ed.b.toNat*1+1).ble (bU (flat gJ.fl s) (0+ed.a.toNat*1) [.bool true]).length=false:=k4;rw[hpl]at k4;exact eD k4 aa
  rw[hsl]at k2;exact eD k2 (by show 0+ed.a.toNat*1+1<=l.length;omega)
 have g3:dG s ed.b.toNat=false:=g3;have hrel:zT s ed=s:=(by unfold zT;rw[g1,g3];rfl);(conv=>whnf);refine bt ?_;(conv=>whnf);refine⟨m.length - (t+1),aa,?_⟩;exact aJ (h0:=cW l m c1 c2 n s) (n0:=4) ⟨t+1,z+1,aa,aa,rfl,rfl,by rw[fin _ hrel];rfl,rfl⟩
def bB (l:List Pt)(m:List Ed)(i:Nat):Sg:=(fC l (aU m i).a,fC l (aU m i).b)
def sgS:MS:=sMD fun l m _ d=>(jS l m&&(decide (0<=d)&&decide (d<m.length)),sgv (bB l m d.toNat))
def aFz:Nat × XF:=(54,mX aX bS sgS)
theorem aNr:c7 Tryz.prog aFz.1 aFz.2:=xF aX bS (aL (xl:=[]) .nil) fun l m n r v hs=>by
 obtain⟨d,rfl,hd,rfl⟩:=H5 hs;clear hs;simp only[af,ag]at hd;obtain⟨hM,h0,hd⟩:=hd;have he:=nU hM (i:=d.toNat) aa;refine⟨rfl,rfl,fun c1 c2=>?_⟩;(conv=>whnf);refine bt ?_;(conv=>whnf);refine fD (HE m 0 (i:=d.toNat) aa rfl (by decide) ?_) ?_
 ·show _+Int.toNat d*5+0=_;omega
 (conv=>whnf);refine bt ?_;(conv=>whnf);refine eZ (eU l (i:=(aU m d.toNat).a.toNat) aa ?_) ?_
 ·show _+Int.toNat (aU m d.toNat).a*2=_;omega
 (conv=>whnf);refine bt ?_;(conv=>whnf);refine fD (HE m 1 (i:=d.toNat) aa rfl (by decide) ?_) ?_
 ·show _+Int.toNat d*5+1=_;omega
 (conv=>whnf);refine bt ?_;(conv=>whnf);refine eZ (eU l (i:=(aU m d.toNat).b.toNat) aa ?_) ?_
 ·show _+Int.toNat (aU m d.toNat).b*2=_;omega
 (conv=>whnf);rfl
def XE:Nat × XF:=(49,mX aX bS sgS)
theorem aMZ:c7 Tryz.prog XE.1 XE.2:=xF aX bS (aL (xl:=[]) .nil) fun l m n r v hs=>by
 obtain⟨d,rfl,hd,rfl⟩:=H5 hs;clear hs;simp only[af,ag]at hd;obtain⟨hM,h0,hd⟩:=hd;have he:=nU hM (i:=d.toNat) aa;refine⟨rfl,rfl,fun c1 c2=>?_⟩;(conv=>whnf);refine bt ?_;(conv=>whnf);refine fD (HE m 0 (i:=d.toNat) aa rfl (by decide) ?_) ?_
 ·show _+Int.toNat d*5+0=_;omega
 (conv=>whnf);refine bt ?_;(conv=>whnf);refine eZ (eU l (i:=(aU m d.toNat).a.toNat) aa ?_) ?_
 ·show _+Int.toNat (aU m d.toNat).a*2=_;omega
 (conv=>whnf);refine bt ?_;(conv=>whnf);refine fD (HE m 1 (i:=d.toNat) aa rfl (by decide) ?_) ?_
 ·show _+Int.toNat d*5+1=_;omega
 (conv=>whnf);refine bt ?_;(conv=>whnf);refine eZ (eU l (i:=(aU m d.toNat).b.toNat) aa ?_) ?_
 ·show _+Int.toNat (aU m d.toNat).b*2=_;omega
 (conv=>whnf);rfl
def oK (f:Nat->Bool)(n:Nat):Bool:=(List.range n).all f
theorem gY {f:Nat->Bool}{n i:Nat}(hi:i<n)(h:f i=false):oK f n=false:=by
 unfold oK;rw[List.all_eq_false];exact⟨i,List.mem_range.2 hi,by rw[h];exact Bool.false_ne_true⟩
theorem eN {f:Nat->Bool}{n:Nat}(h:∀ i,i<n->f i=true):oK f n=true:=by
 unfold oK;rw[List.all_eq_true];exact fun i hi=>h i (List.mem_range.1 hi)
theorem eR {f:Nat->Bool}{n i:Nat}(h:oK f n=true)(hi:i<n):f i=true:=List.all_eq_true.1 h i (List.mem_range.2 hi)
def FK (l:List Pt)(i:Nat):Bool:=bF (bI l i)&&(decide (i=0) || bL (bI l (i - 1)) (bI l i))
def W2 (d e:Ed):Bool:=decide (d.a<e.a) || (decide (d.a=e.a)&&decide (d.b<e.b))
def G8 (l:List Pt)(m:List Ed)(i:Nat):Bool :=
 decide (0<=(aU m i).a)&&decide ((aU m i).a<(aU m i).b)&&decide ((aU m i).b<l.length)&&decide (-1<=(aU m i).n)&&decide ((aU m i).n<200)&&(decide (i=0) || W2 (aU m (i - 1)) (aU m i))
def nN (m:List Ed)(s:List Bool):Nat->List Bool
 |0=>s
 |i+1=>((nN m s i).set (aU m i).a.toNat true).set (aU m i).b.toNat true
theorem uF (m:List Ed)(s:List Bool):∀ i,(nN m s i).length=s.length
 |0=>rfl
 |i+1=>by unfold nN;rw[List.length_set,List.length_set];exact uF m s i
def EH (l:List Pt)(m:List Ed)(i k:Nat):Bool:=decide (dW (bB l m i) (bB l m k)=0) || decide (dW (bB l m i) (bB l m k)=1)
def XW (l:List Pt)(m:List Ed)(n:Int):Bool:=decide (l.length<=400)&&decide (3<=m.length)&&decide (m.length<=400)&&decide (1<=n)&&decide (n<=100)
def eO (l:List Pt)(m:List Ed)(n:Int):Bool:=XW l m n&&(oK (FK l) l.length&&(oK (G8 l m) m.length&&(nN m (List.replicate l.length false) m.length).all id))
def szW (l:List Pt)(m:List Ed):Bool:=decide (l.length<=400)&&decide (1<=m.length)&&decide (m.length<=400)
def lG (l:List Pt)(m:List Ed):Bool:=szW l m&&(oK (FK l) l.length&&(oK (G8 l m) m.length&&(nN m (List.replicate l.length false) m.length).all id))
theorem cE {l:List Pt}{m:List Ed}{n:Int}(h:eO l m n=true):lG l m=true:=by
 simp only[eO,XW,lG,szW,af,ag]at *;exact⟨⟨⟨h.1.1.1.1.1,aa⟩,h.1.1.1.2⟩,h.2⟩
def fE (l:List Pt)(m:List Ed)(n:Int):Bool:=eO l m n&&oK (fun i=>oK (fun k=>EH l m i k) i) m.length
theorem JT {l:List Pt}{m:List Ed}(hl:l.length<=1000)(hm:m.length<=1000)(h1:∀ i,i<l.length->FK l i=true)(h2:∀ i,i<m.length->G8 l m i=true):jS l m=true:=by
 simp only[jS,af,ag];refine⟨⟨⟨List.all_eq_true.2 fun p hp=>?_,List.all_eq_true.2 fun e he=>?_⟩,hm⟩,hl⟩
 ·obtain⟨i,hi,rfl⟩:=List.getElem_of_mem hp;have:=h1 i hi;rw[FK,gK hi,af]at this;exact oN this.1
 obtain⟨i,hi,rfl⟩:=List.getElem_of_mem he;have:=h2 i hi;rw[G8,u7 hi]at this;simp only[af,ag]at this ⊢;omega
theorem aNL {l:List Pt}{m:List Ed}{n:Int}(h:XW l m n=false):fE l m n=false:=by simp[fE,eO,h]
theorem X9 {l:List Pt}{m:List Ed}{n:Int}{i:Nat}(hi:i<l.length)(h:FK l i=false):fE l m n=false:=by simp[fE,eO,gY hi h]
theorem sK {l:List Pt}{m:List Ed}{n:Int}{i:Nat}(hi:i<m.length)(h:G8 l m i=false):fE l m n=false:=by simp[fE,eO,gY hi h]
theorem aLG {l:List Pt}{m:List Ed}{n:Int}(h:(nN m (List.replicate l.length false) m.length).all id=false):fE l m n=false:=by simp[fE,eO,h]
theorem aFv {l:List Pt}{m:List Ed}{n:Int}{i k:Nat}(hi:i<m.length)(hk:k<i)(h:EH l m i k=false):fE l m n=false:=by
 have:oK (fun k=>EH l m i k) i=false:=gY hk h;have:oK (fun i=>oK (fun k=>EH l m i k) i) m.length=false:=gY hi this;simp[fE,this]
theorem aLA {l:List Pt}{m:List Ed}{n:Int}(h:XW l m n=false):eO l m n=false:=by simp[eO,h]
theorem aFC {l:List Pt}{m:List Ed}{n:Int}{i:Nat}(hi:i<l.length)(h:FK l i=false):eO l m n=false:=by simp[eO,gY hi h]
theorem EM {l:List Pt}{m:List Ed}{n:Int}{i:Nat}(hi:i<m.length)(h:G8 l m i=false):eO l m n=false:=by simp[eO,gY hi h]
theorem qV {l:List Pt}{m:List Ed}{i:Nat}{ed:Ed}(hed:aU m i=ed)(h:¬(0<=ed.a/\ed.a<ed.b/\ed.b<l.length/\-1<=ed.n/\ed.n<200)):G8 l m i=false:=by
 cases hb:G8 l m i with
 |false=>rfl
 |true =>
  rw[G8,hed]at hb;simp only[af,ag]at hb;exact absurd ⟨hb.1.1.1.1.1,hb.1.1.1.1.2,hb.1.1.1.2,hb.1.1.2,hb.1.2⟩ h
theorem ZL {l:List Pt}{m:List Ed}{i:Nat}{ed d:Ed}(hed:aU m i=ed)(hd:aU m (i - 1)=d)(hi:i≠0)(h:W2 d ed=false):G8 l m i=false:=by
 rw[G8,hed,hd,h,aj hi,Bool.or_false,Bool.and_false]
theorem CN {l:List Pt}{m:List Ed}{i:Nat}{ed:Ed}(hed:aU m i=ed)(h:0<=ed.a/\ed.a<ed.b/\ed.b<l.length/\-1<=ed.n/\ed.n<200)(ho:(decide (i=0) || W2 (aU m (i - 1)) ed)=true):G8 l m i=true:=by
 rw[G8,hed,ho];simp only[af,ag,and_true];omega
def plS (l:List Pt)(m:List Ed)(n:Int):List Value->Option (Bool × Value)
 |[]=>some (decide (l.length<=1000)&&decide (m.length<=1000),.bool (fE l m n))
 |_=>none
theorem aHM {l:List Pt}{m:List Ed}{n:Int}{r:List Value}{v:Value}(h:plS l m n r=some (true,v)):r=[]/\l.length<=1000/\m.length<=1000/\v=.bool (fE l m n):=by
 unfold plS at h;split at h
 ·injection h with h;injection h with h1 h2;simp only[af,ag]at h1;exact⟨rfl,h1.1,h1.2,h2.symm⟩
 ·cases h
def VA (s:Value)(j:Int):List (Nat × Value):=[(1,ao 2),(3,s),(4,iv j)]
def aKh (z:Int):List (Nat × Value):=[(1,ao 2),(3,.slice none 0 0),(6,iv z)]
def G4 (N:Nat)(j:Int):List (Nat × Value):=[(1,ao 2),(3,ak 3 N N),(6,iv j)]
def aKU (N:Nat)(j:Int):List (Nat × Value):=[(1,ao 2),(3,ak 3 N N),(9,iv j)]
def GA (j:Int):List (Nat × Value):=[(1,ao 2),(10,iv j)]
def OR (j k:Int):List (Nat × Value):=(11,iv k)::GA j
def aFm:Nat × XF:=(128,mX aX bS plS)
theorem aQe:c7 Tryz.prog aFm.1 aFm.2:=xF aX bS (aL (xl:=[X18,aFH,aFz,X25]) (.cons x18 (.cons aMi (.cons aNr (.cons x25 .nil))))) fun l m n r v hs=>by
 obtain⟨rfl,hl,hm,rfl⟩:=aHM hs;clear hs;refine⟨rfl,rfl,fun c1 c2=>?_⟩;have hszf:¬(l.length<=400/\3<=m.length/\m.length<=400/\1<=n/\n<=100)->fE l m n=false:=fun h=>aNL (by
  cases hz:XW l m n with
  |false=>rfl
  |true=>simp only[XW,af,ag]at hz;exact absurd ⟨hz.1.1.1.1,hz.1.1.1.2,hz.1.1.2,hz.1.2,hz.2⟩ h)
 ((conv=>whnf);apply bm<;>intro a1);rotate_left
 ·have a1:400<l.length:=(by simp[aB,aF]at a1;omega);(conv=>whnf);rw[hszf aa]
 have a1:¬ 400<l.length:=(by simp[aB,aF]at a1;omega);((conv=>whnf);apply bm<;>intro a2);rotate_left
 ·have a2:m.length<3:=(by simp[aB,aF]at a2;omega);(conv=>whnf);rw[hszf aa]
 have a2:¬ m.length<3:=(by simp[aB,aF]at a2;omega);((conv=>whnf);apply bm<;>intro a3);rotate_left
 ·have a3:400<m.length:=(by simp[aB,aF]at a3;omega);(conv=>whnf);rw[hszf aa]
 have a3:¬ 400<m.length:=(by simp[aB,aF]at a3;omega);((conv=>whnf);apply bm<;>intro a4);rotate_left
 ·have a4:n<1:=(by simp[aB,aF]at a4;omega);(conv=>whnf);rw[hszf aa]
 have a4:¬ n<1:=(by simp[aB,aF]at a4;omega);((conv=>whnf);apply bm<;>intro a5)
 ·have a5:100<n:=(by simp[aB,aF]at a5;omega);(conv=>whnf);rw[hszf aa]
 have a5:¬ 100<n:=(by simp[aB,aF]at a5;omega);have hsz:XW l m n=true:=by
  simp only[XW,af,ag];omega
 clear hszf;(conv=>whnf)
 refine⟨fun q e h nx=>∃(i:Nat) (j:Int),j=i/\i<=l.length/\q=l.length - i/\(∀ t,t<i->FK l t=true) /\
  ((i=0/\e=VA (.slice none 0 0) j/\h=cM l m c1 c2 n/\nx=3)\/(0<i/\e=VA (ak 3 i i) j/\h=cW l m c1 c2 n (List.replicate i false)/\nx=4)),⟨l.length,?_⟩,?_⟩
 ·exact aJ (h0:=cM l m c1 c2 n) (n0:=3) ⟨0,0,rfl,Nat.zero_le _,rfl,fun t ht=>absurd ht (Nat.not_lt_zero t),.inl ⟨rfl,rfl,rfl,rfl⟩⟩
 rintro q e h nx ⟨i,j,hj,hi,rfl,hpt,⟨hi0,rfl,rfl,rfl⟩|⟨hip,rfl,rfl,rfl⟩⟩
 ·subst hi0;unfold VA cM dU aS;((conv=>whnf);apply bm<;>intro b1);rotate_left
  ·have h0:l.length=0:=(by simp[aB,aF]at b1;omega);have hno:∀ ed,aU m 0=ed->G8 l m 0=false:=fun ed hed=>qV hed aa;(conv=>whnf);refine⟨fun q e h nx=>∃ z:Int,z=0/\e=aKh z/\h=cM l m c1 c2 n/\nx=3,⟨0,?_⟩,?_⟩
   ·exact aJ (h0:=cM l m c1 c2 n) (n0:=3) ⟨0,rfl,rfl,rfl,rfl⟩
   rintro q e h nx ⟨z,hz,rfl,rfl,rfl⟩;unfold aKh cM dU aS;(conv=>whnf);refine bt ?_;(conv=>whnf);refine bt ?_;(conv=>whnf);refine eZ (BE m (i:=0) aa ?_) ?_
   ·show _+Int.toNat z*5=_;omega
   generalize hed:aU m 0=ed;have hbad:=hno ed hed;((conv=>whnf);apply bm<;>intro f1)
   ·((conv=>whnf);apply bm<;>intro f2)
    ·((conv=>whnf);apply bm<;>intro f3)
     ·exfalso;simp[aB,aF]at f1 f2 f3;omega
     (conv=>whnf);rw[sK aa hbad]
    (conv=>whnf);rw[sK aa hbad]
   (conv=>whnf);rw[sK aa hbad]
  have hlt:0<l.length:=(by simp[aB,aF]at b1;omega);(conv=>whnf);refine bt ?_;(conv=>whnf);refine eZ (eU l (i:=0) hlt ?_) ?_
  ·show _+Int.toNat j*2=_;omega
  ((conv=>whnf);apply bm<;>intro b3);rotate_left
  ·have hr:bF (bI l 0)=false:=(by simpa[aB,aF]using b3);(conv=>whnf);rw[X9 hlt (show FK l 0=false by rw[FK,hr];rfl)]
  have hr:bF (bI l 0)=true:=(by simpa[aB,aF]using b3);((conv=>whnf);apply bm<;>intro b4)
  ·exfalso;simp[aB,aF]at b4;omega
  (conv=>whnf);refine bt ?_;(conv=>whnf);refine⟨l.length - 1,aa,?_⟩
  refine mN (e0:=VA (ak 3 1 1) (j+1)) (h0:=cW l m c1 c2 n [false]) (n0:=4) 3 4 (by decide) (by decide)
   ⟨1,j+1,aa,aa,rfl,fun t ht=>by rw[(aa:t=0),FK,hr];rfl,.inr ⟨Nat.one_pos,rfl,rfl,rfl⟩⟩ ?_ ?_ ?_
  ·unfold VA;exact xE
  ·unfold cW cM dU aS;exact xH
  unfold cW cM aS;((repeat' refine iK rfl ?_);exact iN)
 unfold VA cW cM dU aS;((conv=>whnf);apply bm<;>intro b1)
 ·have hlt:i<l.length:=(by simp[aB,aF]at b1;omega);have hll:(flat gJ.fl (List.replicate i false)).length=i:=(by rw[aO,List.length_replicate];exact Nat.mul_one _);((conv=>whnf);apply bm<;>intro b0)
  ·exfalso;have:=Nat.le_of_ble_eq_true b0;omega
  ((conv=>whnf);apply bm<;>intro b00);rotate_left
  ·exact iP (s:=1) aa aa b00
  (conv=>whnf);refine bt ?_;(conv=>whnf);refine eZ (eU l (i:=i) hlt ?_) ?_
  ·show _+Int.toNat j*2=_;omega
  ((conv=>whnf);apply bm<;>intro b3);rotate_left
  ·have hr:bF (bI l i)=false:=(by simpa[aB,aF]using b3);(conv=>whnf);rw[X9 hlt (show FK l i=false by rw[FK,hr];rfl)]
  have hr:bF (bI l i)=true:=(by simpa[aB,aF]using b3);(conv=>whnf);refine bt ?_;(conv=>whnf);refine bt ?_;(conv=>whnf);refine bt ?_;(conv=>whnf);refine eZ (eU l (i:=i - 1) aa ?_) ?_
  ·show _+Int.toNat (j - 1)*2=_;omega
  (conv=>whnf);refine bt ?_;(conv=>whnf);refine eZ (eU l (i:=i) hlt ?_) ?_
  ·show _+Int.toNat j*2=_;omega
  ((conv=>whnf);apply bm<;>intro b8)
  ·have b8:bL (bI l (i - 1)) (bI l i)=false:=(by simpa[aB,aF]using b8);(conv=>whnf);rw[X9 hlt (show FK l i=false by rw[FK,hr,b8,aj (aa:¬ i=0)];rfl)]
  have b8:bL (bI l (i - 1)) (bI l i)=true:=(by simpa[aB,aF]using b8);(conv=>whnf);refine bt ?_;(conv=>whnf);refine⟨l.length - (i+1),aa,?_⟩
  refine mN (e0:=VA (ak 3 (i+1) (i+1)) (j+1)) (h0:=cW l m c1 c2 n (List.replicate i false++[false])) (n0:=4) 3 5 (by decide) (by decide)
   ⟨i+1,j+1,aa,aa,rfl,fun t ht=>?_,.inr ⟨Nat.succ_pos _,rfl,by rw[List.replicate_succ'];rfl,rfl⟩⟩ ?_ ?_ ?_
  ·by_cases hti:t=i
   ·rw[hti,FK,hr,b8];simp
   exact hpt t aa
  ·unfold VA;exact xE
  ·unfold cW cM dU aS;((repeat'(first|refine iW rfl rfl (aK (aC gJ _) (cT gJ (List.replicate i false) false (by rw[List.length_replicate]))) ?_|refine iF rfl rfl ?_|refine iC rfl rfl rfl ?_|refine iJ rfl rfl rfl rfl ?_));exact iN)
  unfold cW cM aS;((repeat' refine iK rfl ?_);exact iN)
 have hge:i=l.length:=(by simp[aB,aF]at b1;omega);subst hge;clear b1 hi hip hj;(conv=>whnf);refine⟨fun q e h nx=>∃(i:Nat) (j:Int),j=i/\i<=m.length/\q=m.length - i/\(∀ t,t<i->G8 l m t=true)/\e=G4 l.length j/\h=cW l m c1 c2 n (nN m (List.replicate l.length false) i)/\nx=4,⟨m.length,?_⟩,?_⟩
 ·exact aJ (h0:=cW l m c1 c2 n (List.replicate l.length false)) (n0:=4) ⟨0,0,rfl,Nat.zero_le _,rfl,fun t ht=>absurd ht (Nat.not_lt_zero t),rfl,rfl,rfl⟩
 rintro q e h nx ⟨i,j,hj,hi,rfl,hed0,rfl,rfl,rfl⟩;have rl:(nN m (List.replicate l.length false) i).length=l.length:=(by rw[uF,List.length_replicate]);have nxt:nN m (List.replicate l.length false) (i+1)=((nN m (List.replicate l.length false) i).set (aU m i).a.toNat true).set (aU m i).b.toNat true:=rfl;generalize hs0:nN m (List.replicate l.length false) i=s at rl nxt;have hsl:(flat gJ.fl s).length=l.length:=(by rw[aO,rl];exact Nat.mul_one _);unfold G4 cW cM dU aS;((conv=>whnf);apply bm<;>intro d1);rotate_left
 ·have hge:i=m.length:=(by simp[aB,aF]at d1;omega);subst hge;clear d1 hi hj;have hM:jS l m=true:=JT hl hm hpt hed0;(conv=>whnf);refine⟨fun q e h nx=>∃(t:Nat) (z:Int),z=t/\t<=l.length/\q=l.length - t/\s.all id=(s.drop t).all id/\e=aKU l.length z/\h=cW l m c1 c2 n s/\nx=4,⟨l.length,?_⟩,?_⟩
  ·exact aJ (h0:=cW l m c1 c2 n s) (n0:=4) ⟨0,0,rfl,Nat.zero_le _,rfl,rfl,rfl,rfl,rfl⟩
  rintro q e h nx ⟨t,z,hz,ht,rfl,hall,rfl,rfl,rfl⟩;unfold aKU cW cM dU aS;((conv=>whnf);apply bm<;>intro h3)
  ·have htl:t<l.length:=(by simp[aB,aF]at h3;omega);have hd:s.drop t=dG s t::s.drop (t+1):=(by rw[sM aa];exact List.drop_eq_getElem_cons aa);rw[hd,List.all_cons]at hall;(conv=>whnf);refine bt ?_;(conv=>whnf);refine fD (PX s (i:=t) aa ?_) ?_
   ·show _+Int.toNat z*1=_;omega
   ((conv=>whnf);apply bm<;>intro h5)
   ·have h5:dG s t=false:=(by simpa[aB,aF]using h5);(conv=>whnf);rw[aLG (by rw[hs0,hall,h5];rfl)]
   have h5:dG s t=true:=(by simpa[aB,aF]using h5);(conv=>whnf);refine bt ?_;(conv=>whnf);refine⟨l.length - (t+1),aa,?_⟩;exact aJ (h0:=cW l m c1 c2 n s) (n0:=4) ⟨t+1,z+1,aa,aa,rfl,by rw[hall,h5];rfl,rfl,rfl,rfl⟩
  have hgt:t=l.length:=(by simp[aB,aF]at h3;omega);have hus:(nN m (List.replicate l.length false) m.length).all id=true:=by
   rw[hs0,hall,hgt,List.drop_eq_nil_of_le aa];rfl
  have hlst:eO l m n=true:=by
   rw[eO,hsz,eN hpt,eN hed0,hus];rfl
  (conv=>whnf);refine⟨fun q e h nx=>∃(i:Nat) (j:Int),j=i/\i<=m.length/\q=m.length - i/\(∀ t,t<i->∀ k,k<t->EH l m t k=true)/\e=GA j/\h=cM l m c1 c2 n/\nx=4,⟨m.length,?_⟩,?_⟩
  ·exact aJ (h0:=cM l m c1 c2 n) (n0:=4) ⟨0,0,rfl,Nat.zero_le _,rfl,fun t ht=>absurd ht (Nat.not_lt_zero t),rfl,rfl,rfl⟩
  clear h3 hall ht hz hgt;rintro q e h nx ⟨i,j,hj,hi,rfl,hme,rfl,rfl,rfl⟩;unfold GA cM dU aS;((conv=>whnf);apply bm<;>intro h3)
  ·have hlt:i<m.length:=(by simp[aB,aF]at h3;omega);(conv=>whnf);refine⟨fun q e h nx=>∃(k:Nat) (z:Int),z=k/\k<=i/\q=i - k/\(∀ t,t<k->EH l m i t=true)/\e=OR j z/\h=cM l m c1 c2 n/\nx=4,⟨i,?_⟩,?_⟩
   ·exact aJ (h0:=cM l m c1 c2 n) (n0:=4) ⟨0,0,rfl,Nat.zero_le _,rfl,fun t ht=>absurd ht (Nat.not_lt_zero t),rfl,rfl,rfl⟩
   rintro q e h nx ⟨k,z,hz,hk,rfl,hmk,rfl,rfl,rfl⟩;unfold OR GA cM dU aS;((conv=>whnf);apply bm<;>intro h4)
   ·have hkl:k<i:=(by simp[aB,aF]at h4;omega);have ej:j.toNat=i:=aa;have ez:z.toNat=k:=aa;(conv=>whnf);refine⟨l,m,aP aX rfl,aP bS rfl,?_⟩;((conv=>whnf);apply bm<;>intro h5)
    ·(conv=>whnf);refine⟨l,m,aP aX rfl,aP bS rfl,?_⟩;((conv=>whnf);apply bm<;>intro h6)
     ·(conv=>whnf);have em:dW (bB l m j.toNat) (bB l m z.toNat)=dW (bB l m i) (bB l m k):=(by rw[ej,ez]);((conv=>whnf);apply bm<;>intro h7)
      ·have h7:¬ dW (bB l m i) (bB l m k)=0:=(by rw[<- em];simpa[aB,aF]using h7);((conv=>whnf);apply bm<;>intro h8)
       ·have h8:¬ dW (bB l m i) (bB l m k)=1:=(by rw[<- em];simpa[aB,aF]using h8);(conv=>whnf);rw[aFv hlt hkl (by rw[EH,aj h7,aj h8];rfl)]
       have h8:dW (bB l m i) (bB l m k)=1:=(by rw[<- em];simpa[aB,aF]using h8);have hyes:EH l m i k=true:=(by rw[EH,ai h8,Bool.or_true]);(conv=>whnf);refine bt ?_;(conv=>whnf);refine⟨i - (k+1),aa,?_⟩;refine cU (e0:=OR j (z+1)) (h0:=cM l m c1 c2 n) (n0:=4) ⟨k+1,z+1,aa,aa,rfl,fun t ht=>?_,rfl,rfl,rfl⟩ ?_ ?_ (by decide)
       ·by_cases htk:t=k
        ·rw[htk];exact hyes
        exact hmk t aa
       ·unfold OR GA;exact xE
       unfold cM dU aS;exact xH
      have h7:dW (bB l m i) (bB l m k)=0:=(by rw[<- em];simpa[aB,aF]using h7);have hyes:EH l m i k=true:=(by rw[EH,ai h7,Bool.true_or]);(conv=>whnf);refine bt ?_;(conv=>whnf);refine⟨i - (k+1),aa,?_⟩;refine cU (e0:=OR j (z+1)) (h0:=cM l m c1 c2 n) (n0:=4) ⟨k+1,z+1,aa,aa,rfl,fun t ht=>?_,rfl,rfl,rfl⟩ ?_ ?_ (by decide)
      ·by_cases htk:t=k
       ·rw[htk];exact hyes
       exact hmk t aa
      ·unfold OR GA;exact xE
      unfold cM dU aS;exact xH
     exfalso;have h6:(jS l m&&(decide (0<=z)&&decide (z<m.length)))=false:=h6;rw[hM,ai (aa:0<=z),ai (aa:z<m.length)]at h6;cases h6
    exfalso;have h5:(jS l m&&(decide (0<=j)&&decide (j<m.length)))=false:=h5;rw[hM,ai (aa:0<=j),ai (aa:j<m.length)]at h5;cases h5
   have hge:k=i:=(by simp[aB,aF]at h4;omega);(conv=>whnf);refine bt ?_;(conv=>whnf);refine⟨m.length - (i+1),aa,?_⟩;refine cU (e0:=GA (j+1)) (h0:=cM l m c1 c2 n) (n0:=4) ⟨i+1,j+1,aa,aa,rfl,fun t ht=>?_,rfl,rfl,rfl⟩ ?_ ?_ (by decide)
   ·by_cases hti:t=i
    ·rw[hti];exact fun k' hk'=>hmk k' aa
    exact hme t aa
   ·unfold GA;exact xE
   unfold cM dU aS;exact xH
  have hge:i=m.length:=(by simp[aB,aF]at h3;omega);(conv=>whnf);rw[fE,hlst,eN (fun i hi=>eN (hme i aa))];rfl
 have hlt:i<m.length:=(by simp[aB,aF]at d1;omega);(conv=>whnf);refine bt ?_;(conv=>whnf);refine eZ (BE m (i:=i) hlt ?_) ?_
 ·show _+Int.toNat j*5=_;omega
 generalize hed:aU m i=ed at nxt;((conv=>whnf);apply bm<;>intro f1);rotate_left
 ·have f1:¬ 0<=ed.a:=(by simp[aB,aF]at f1;omega);(conv=>whnf);rw[sK hlt (qV hed aa)]
 have f1:0<=ed.a:=(by simp[aB,aF]at f1;omega);((conv=>whnf);apply bm<;>intro f2);rotate_left
 ·have f2:¬ ed.a<ed.b:=(by simp[aB,aF]at f2;omega);(conv=>whnf);rw[sK hlt (qV hed aa)]
 have f2:ed.a<ed.b:=(by simp[aB,aF]at f2;omega);((conv=>whnf);apply bm<;>intro f3);rotate_left
 ·have f3:¬ ed.b<l.length:=(by simp[aB,aF]at f3;omega);(conv=>whnf);rw[sK hlt (qV hed aa)]
 have f3:ed.b<l.length:=(by simp[aB,aF]at f3;omega);((conv=>whnf);apply bm<;>intro f4);rotate_left
 ·have f4:¬ -1<=ed.n:=(by simp[aB,aF]at f4;omega);(conv=>whnf);rw[sK hlt (qV hed aa)]
 have f4 : -1<=ed.n:=(by simp[aB,aF]at f4;omega);((conv=>whnf);apply bm<;>intro f5)
 ·have f5:200<=ed.n:=(by simp[aB,aF]at f5;omega);(conv=>whnf);rw[sK hlt (qV hed aa)]
 have f5:ed.n<200:=(by simp[aB,aF]at f5;omega);((conv=>whnf);apply bm<;>intro f6);rotate_left
 ·have f6:i=0:=(by simp[aB,aF]at f6;omega);have hyes:G8 l m i=true:=CN hed ⟨f1,f2,f3,f4,f5⟩ (by simp[f6]);(conv=>whnf);refine bt ?_;((conv=>whnf);apply bm<;>intro k2)
  ·(conv=>whnf);refine bt ?_;((conv=>whnf);apply bm<;>intro k4)
   ·(conv=>whnf);refine bt ?_;(conv=>whnf);refine⟨m.length - (i+1),aa,?_⟩;refine cU (e0:=G4 l.length (j+1)) (h0:=cW l m c1 c2 n (nN m (List.replicate l.length false) (i+1))) (n0:=4) ⟨i+1,j+1,aa,aa,rfl,fun t ht=>?_,rfl,rfl,rfl⟩ ?_ ?_ (by decide)
    ·by_cases hti:t=i
     ·rw[hti];exact hyes
     exact hed0 t aa
    ·unfold G4;exact xE
    unfold cW cM dU aS;have cO:=X8 (s:=s) (a:=ed.a.toNat) (b:=ed.b.toNat) (o1:=0+ed.a.toNat*1) (o2:=0+ed.b.toNat*1) aa aa aa aa;rw[nxt];((repeat'(first|refine iW rfl rfl (aK (aC gJ _) cO) ?_|refine iF rfl rfl ?_|refine iC rfl rfl rfl ?_|refine iJ rfl rfl rfl rfl ?_));exact iN)
   have hpl:(bU (flat gJ.fl s) (0+ed.a.toNat*1) [.bool true]).length=l.length:=(by rw[cG (by rw[hsl];show 0+ed.a.toNat*1+1<=l.length;omega)];exact hsl);have k4:(0+ed.b.toNat*1+1).ble (bU (flat gJ.fl s) (0+ed.a.toNat*1) [.bool true]).length=false:=k4;rw[hpl]at k4;exact eD k4 aa
  rw[hsl]at k2;exact eD k2 (by show 0+ed.a.toNat*1+1<=l.length;omega)
 have f6:0<i:=(by simp[aB,aF]at f6;omega);(conv=>whnf);refine bt ?_;(conv=>whnf);refine bt ?_;(conv=>whnf);refine eZ (BE m (i:=i - 1) aa ?_) ?_
 ·show _+Int.toNat (j - 1)*5=_;omega
 generalize hd0:aU m (i - 1)=dd;((conv=>whnf);apply bm<;>intro f9);rotate_left
 ·have f9:ed.a<dd.a:=(by simp[aB,aF]at f9;omega);(conv=>whnf);rw[sK hlt (ZL hed hd0 aa (by unfold W2;simp;omega))]
 have f9:¬ ed.a<dd.a:=(by simp[aB,aF]at f9;omega);((conv=>whnf);apply bm<;>intro f10);rotate_left
 ·have f10:¬ dd.a=ed.a:=(by simpa[aB,aF]using f10);have hyes:G8 l m i=true:=CN hed ⟨f1,f2,f3,f4,f5⟩ (by rw[hd0];unfold W2;simp;omega);(conv=>whnf);refine bt ?_;((conv=>whnf);apply bm<;>intro k2)
  ·(conv=>whnf);refine bt ?_;((conv=>whnf);apply bm<;>intro k4)
   ·(conv=>whnf);refine bt ?_;(conv=>whnf);refine⟨m.length - (i+1),aa,?_⟩;refine cU (e0:=G4 l.length (j+1)) (h0:=cW l m c1 c2 n (nN m (List.replicate l.length false) (i+1))) (n0:=4) ⟨i+1,j+1,aa,aa,rfl,fun t ht=>?_,rfl,rfl,rfl⟩ ?_ ?_ (by decide)
    ·by_cases hti:t=i
     ·rw[hti];exact hyes
     exact hed0 t aa
    ·unfold G4;exact xE
    unfold cW cM dU aS;have cO:=X8 (s:=s) (a:=ed.a.toNat) (b:=ed.b.toNat) (o1:=0+ed.a.toNat*1) (o2:=0+ed.b.toNat*1) aa aa aa aa;rw[nxt];((repeat'(first|refine iW rfl rfl (aK (aC gJ _) cO) ?_|refine iF rfl rfl ?_|refine iC rfl rfl rfl ?_|refine iJ rfl rfl rfl rfl ?_));exact iN)
   have hpl:(bU (flat gJ.fl s) (0+ed.a.toNat*1) [.bool true]).length=l.length:=(by rw[cG (by rw[hsl];show 0+ed.a.toNat*1+1<=l.length;omega)];exact hsl);have k4:(0+ed.b.toNat*1+1).ble (bU (flat gJ.fl s) (0+ed.a.toNat*1) [.bool true]).length=false:=k4;rw[hpl]at k4;exact eD k4 aa
  rw[hsl]at k2;exact eD k2 (by show 0+ed.a.toNat*1+1<=l.length;omega)
 have f10:dd.a=ed.a:=(by simpa[aB,aF]using f10);((conv=>whnf);apply bm<;>intro f11)
 ·have f11:ed.b<=dd.b:=(by simp[aB,aF]at f11;omega);(conv=>whnf);rw[sK hlt (ZL hed hd0 aa (by unfold W2;simp;omega))]
 have f11:dd.b<ed.b:=(by simp[aB,aF]at f11;omega);have hyes:G8 l m i=true:=CN hed ⟨f1,f2,f3,f4,f5⟩ (by rw[hd0];unfold W2;simp;omega);(conv=>whnf);refine bt ?_;((conv=>whnf);apply bm<;>intro k2);rotate_left
 ·rw[hsl]at k2;exact eD k2 (by show 0+ed.a.toNat*1+1<=l.length;omega)
 (conv=>whnf);refine bt ?_;((conv=>whnf);apply bm<;>intro k4)
 ·(conv=>whnf);refine bt ?_;(conv=>whnf);refine⟨m.length - (i+1),aa,?_⟩;refine cU (e0:=G4 l.length (j+1)) (h0:=cW l m c1 c2 n (nN m (List.replicate l.length false) (i+1))) (n0:=4) ⟨i+1,j+1,aa,aa,rfl,fun t ht=>?_,rfl,rfl,rfl⟩ ?_ ?_ (by decide)
  ·by_cases hti:t=i
   ·rw[hti];exact hyes
   exact hed0 t aa
  ·unfold G4;exact xE
  unfold cW cM dU aS;have cO:=X8 (s:=s) (a:=ed.a.toNat) (b:=ed.b.toNat) (o1:=0+ed.a.toNat*1) (o2:=0+ed.b.toNat*1) aa aa aa aa;rw[nxt];((repeat'(first|refine iW rfl rfl (aK (aC gJ _) cO) ?_|refine iF rfl rfl ?_|refine iC rfl rfl rfl ?_|refine iJ rfl rfl rfl rfl ?_));exact iN)
 have hpl:(bU (flat gJ.fl s) (0+ed.a.toNat*1) [.bool true]).length=l.length:=(by rw[cG (by rw[hsl];show 0+ed.a.toNat*1+1<=l.length;omega)];exact hsl);have k4:(0+ed.b.toNat*1+1).ble (bU (flat gJ.fl s) (0+ed.a.toNat*1) [.bool true]).length=false:=k4;rw[hpl]at k4;exact eD k4 aa
theorem qG {l:List Pt}{m:List Ed}{n:Int}(h:eO l m n=true):jS l m=true/\3<=m.length/\1<=l.length/\l.length<=400/\m.length<=400/\1<=n/\n<=100:=by
 simp only[eO,af]at h;obtain⟨h1,h2,h3,h4⟩:=h;simp only[XW,af,ag]at h1;have hM:=JT (l:=l) (m:=m) aa aa (fun i hi=>eR h2 hi) (fun i hi=>eR h3 hi);have:=nU hM (i:=0) aa;exact⟨hM,aa,aa,aa,aa,aa,aa⟩
theorem sE {l:List Pt}{m:List Ed}(h:lG l m=true):jS l m=true/\1<=m.length/\1<=l.length/\l.length<=400/\m.length<=400/\True/\True:=by
 simp only[lG,af]at h;obtain⟨h1,h2,h3,h4⟩:=h;simp only[szW,af,ag]at h1;have hM:=JT (l:=l) (m:=m) aa aa (fun i hi=>eR h2 hi) (fun i hi=>eR h3 hi);have:=nU hM (i:=0) aa;exact⟨hM,aa,aa,aa,aa,trivial,trivial⟩
theorem eC {l:List Pt}{m:List Ed}{n:Int}(h:fE l m n=true):eO l m n=true:=by
 simp only[fE,af]at h;exact h.1
def faB (m:List Ed)(of:List Int)(i:Nat):Bool:=decide ((aU m i).l=aG of (2*i))&&decide ((aU m i).r=aG of (2*i+1))
def sP (l:List Pt)(m:List Ed)(n:Int):Bool:=fE l m n&&(mK l m&&(vC (cQ l m)&&(decide ((cQ l m).faces=n)&&oK (faB m (cQ l m).of) m.length)))
def vaS (l:List Pt)(m:List Ed)(n:Int):List Value->Option (Bool × Value)
 |[]=>some (decide (l.length<=1000)&&decide (m.length<=1000),.bool (sP l m n))
 |_=>none
theorem aJ7 {l:List Pt}{m:List Ed}{n:Int}{r:List Value}{v:Value}(h:vaS l m n r=some (true,v)):r=[]/\l.length<=1000/\m.length<=1000/\v=.bool (sP l m n):=by
 unfold vaS at h;split at h
 ·injection h with h;injection h with h1 h2;simp only[af,ag]at h1;exact⟨rfl,h1.1,h1.2,h2.symm⟩
 ·cases h
def e70 (j:Int):List (Nat × Value):=[(1,ao 2),(4,ao 4),(5,iv j)]
def h70 (l:List Pt)(m:List Ed)(c1 c2:Nat)(n:Int)(of:List Int)(F:Int)(K:Bool):Heap:=(4,aq 1 [ak 3 of.length of.length,iv F,.bool K])::(3,aq 1 (flat aW.fl of))::cM l m c1 c2 n
def aNd:Nat × XF:=(51,mX aX bS vaS)
theorem aSz:c7 Tryz.prog aNd.1 aNd.2:=xF aX bS (aL (xl:=[aFm,aAG,aAi]) (.cons aQe (.cons aL0 (.cons aKT .nil)))) fun l m n r v hs=>by
 obtain⟨rfl,hl,hm,rfl⟩:=aJ7 hs;clear hs;refine⟨rfl,rfl,fun c1 c2=>?_⟩;(conv=>whnf);refine⟨l,m,aP aX rfl,aP bS rfl,?_⟩;((conv=>whnf);apply bm<;>intro a1);rotate_left
 ·exfalso;have a1:(decide (l.length<=1000)&&decide (m.length<=1000))=false:=a1;rw[ai hl,ai hm]at a1;cases a1
 ((conv=>whnf);apply bm<;>intro a2)
 ·have a2:fE l m n=false:=(by simpa[aB,aF]using a2);(conv=>whnf);rw[sP,a2];rfl
 have a2:fE l m n=true:=(by simpa[aB,aF]using a2);obtain⟨hM,h3,h1l,_⟩:=qG (eC a2);(conv=>whnf);refine⟨l,m,aP aX rfl,aP bS rfl,?_⟩;((conv=>whnf);apply bm<;>intro a3);rotate_left
 ·exfalso;have a3:(jS l m&&decide (1<=l.length))=false:=a3;rw[hM,ai h1l]at a3;cases a3
 (conv=>whnf);refine⟨_,_,_,[],l,m,rfl,aP aX rfl,aP bS rfl,?_⟩;((conv=>whnf);apply bm<;>intro a4);rotate_left
 ·exfalso;have a4:(jS l m&&decide (1<=m.length))=false:=a4;rw[hM,ai (aa:1<=m.length)]at a4;cases a4
 have flen:(cQ l m).of.length=2*m.length:=uJ l m _;have hval:sP l m n=(mK l m&&(vC (cQ l m)&&(decide ((cQ l m).faces=n)&&oK (faB m (cQ l m).of) m.length))):=(by rw[sP,a2,Bool.true_and]);rw[hval];generalize cQ l m=st at flen;((conv=>whnf);apply bm<;>intro b1);rotate_left
 ·have b1:mK l m=false:=(by simpa[aB,aF]using b1);(conv=>whnf);rw[b1];rfl
 have b1:mK l m=true:=(by simpa[aB,aF]using b1);((conv=>whnf);apply bm<;>intro b2);rotate_left
 ·have b2:vC st=false:=(by simpa[aB,aF]using b2);(conv=>whnf);rw[b1,b2];rfl
 have b2:vC st=true:=(by simpa[aB,aF]using b2);((conv=>whnf);apply bm<;>intro b3)
 ·have b3:¬ st.faces=n:=(by simpa[aB,aF]using b3);(conv=>whnf);rw[b1,b2,aj b3];rfl
 have b3:st.faces=n:=(by simpa[aB,aF]using b3);(conv=>whnf);rw[b1,b2,ai b3,Bool.true_and,Bool.true_and,Bool.true_and];refine⟨fun q e h nx=>∃(i:Nat) (j:Int),j=i/\i<=m.length/\q=m.length - i/\(∀ t,t<i->faB m st.of t=true)/\e=e70 j/\h=h70 l m c1 c2 n st.of st.faces true/\nx=5,⟨m.length,?_⟩,?_⟩
 ·exact aJ (h0:=h70 l m c1 c2 n st.of st.faces true) (n0:=5) ⟨0,0,rfl,Nat.zero_le _,rfl,fun t ht=>absurd ht (Nat.not_lt_zero t),rfl,rfl,rfl⟩
 rintro q e h nx ⟨i,j,hj,hi,rfl,hfa,rfl,rfl,rfl⟩;unfold e70 h70 cM dU aS;((conv=>whnf);apply bm<;>intro d1);rotate_left
 ·have hge:i=m.length:=(by simp[aB,aF]at d1;omega);(conv=>whnf);rw[eN (fun t ht=>hfa t aa)]
 have hlt:i<m.length:=(by simp[aB,aF]at d1;omega);(conv=>whnf);refine bt ?_;(conv=>whnf);refine fD (HE m 2 (i:=i) hlt rfl (by decide) ?_) ?_
 ·show _+Int.toNat j*5+2=_;omega
 (conv=>whnf);refine bt ?_;(conv=>whnf);refine bt ?_;(conv=>whnf);refine fD (dY st.of (i:=2*i) aa ?_) ?_
 ·show _+Int.toNat (2*j)*1=_;omega
 ((conv=>whnf);apply bm<;>intro d5);rotate_left
 ·have d5:¬(aU m i).l=aG st.of (2*i):=(by simpa[aB,aF]using d5);(conv=>whnf);rw[gY hlt (show faB m st.of i=false by rw[faB,aj d5,Bool.false_and])]
 have d5:(aU m i).l=aG st.of (2*i):=(by simpa[aB,aF]using d5);(conv=>whnf);refine bt ?_;(conv=>whnf);refine fD (HE m 3 (i:=i) hlt rfl (by decide) ?_) ?_
 ·show _+Int.toNat j*5+3=_;omega
 (conv=>whnf);refine bt ?_;(conv=>whnf);refine bt ?_;(conv=>whnf);refine bt ?_;(conv=>whnf);refine fD (dY st.of (i:=2*i+1) aa ?_) ?_
 ·show _+Int.toNat (2*j+1)*1=_;omega
 ((conv=>whnf);apply bm<;>intro d10)
 ·have d10:¬(aU m i).r=aG st.of (2*i+1):=(by simpa[aB,aF]using d10);(conv=>whnf);rw[gY hlt (show faB m st.of i=false by rw[faB,aj d10,Bool.and_false])]
 have d10:(aU m i).r=aG st.of (2*i+1):=(by simpa[aB,aF]using d10);(conv=>whnf);refine bt ?_;(conv=>whnf);refine⟨m.length - (i+1),aa,?_⟩;refine cU (e0:=e70 (j+1)) (h0:=h70 l m c1 c2 n st.of st.faces true) (n0:=5) ⟨i+1,j+1,aa,aa,rfl,fun t ht=>?_,rfl,rfl,rfl⟩ ?_ ?_ (by decide)
 ·by_cases hti:t=i
  ·rw[hti,faB,ai d5,ai d10];rfl
  exact hfa t aa
 ·unfold e70;exact xE
 unfold h70 cM dU aS;exact xH
def PZ:List Bool->Nat->Int
 |[],_=>-1
 |b::r,i=>if b=false then i else PZ r (i+1)
theorem T5:∀(l:List Bool) (i:Nat),decide (0<=PZ l i)=!(l.all id)
 |[],i=>rfl
 |b::r,i=>by
  cases b with
  |false=>simp[PZ]
  |true=>simpa[PZ]using T5 r (i+1)
def ixS (l:List Bool):List Value->Option (Bool × Value)
 |[.bool false]=>some (decide (l.length<=1000000),iv (PZ l 0))
 |_=>none
theorem aIM {l:List Bool}{r:List Value}{v:Value}(hs:ixS l r=some (true,v)):r=[.bool false]/\l.length<=1000000/\v=iv (PZ l 0):=by
 unfold ixS at hs;split at hs
 ·injection hs with hs;injection hs with h1 h2;exact⟨rfl,by simpa using h1,h2.symm⟩
 ·cases hs
def aQ7 (l:List Bool)(c:Nat)(j:Int):List (Nat × Value):=[(0,ak 0 l.length c),(1,.bool false),(7,iv l.length),(8,iv j)]
def hBo (l:List Bool):Heap:=[(0,au 1 (flat gJ.fl l))]
def aEc:Nat × XF:=(213,lX gJ ixS)
theorem aOz:c7 Tryz.prog aEc.1 aEc.2:=OV gJ (aL (xl:=[]) .nil) fun l r v hs=>by
 obtain⟨rfl,hlen,rfl⟩:=aIM hs;refine⟨rfl,rfl,fun c=>?_⟩;(conv=>whnf);refine⟨fun q e h nx=>∃(i:Nat) (j:Int),j=i/\i<=l.length/\q=l.length - i/\PZ l 0=PZ (l.drop i) i/\e=aQ7 l c j/\h=hBo l/\nx=1,⟨l.length,?_⟩,?_⟩
 ·exact aJ (h0:=hBo l) (n0:=1) ⟨0,0,rfl,Nat.zero_le _,rfl,rfl,rfl,rfl,rfl⟩
 rintro q e h nx ⟨i,j,hj,hi,rfl,hb,rfl,rfl,rfl⟩;unfold aQ7 hBo;((conv=>whnf);apply bm<;>intro h1)
 ·have hlt:i<l.length:=(by simp[aB,aF]at h1;omega);have hd:l.drop i=dG l i::l.drop (i+1):=(by rw[sM hlt];exact List.drop_eq_getElem_cons hlt);rw[hd,PZ]at hb;(conv=>whnf);refine bt ?_;(conv=>whnf);refine fD (PX l (i:=i) hlt ?_) ?_
  ·show _+Int.toNat j*1=_;omega
  ((conv=>whnf);apply bm<;>intro h3)
  ·have h3:dG l i=false:=(by simpa[aB,aF]using h3);(conv=>whnf);rw[hb,if_pos h3,hj]
  have h3:¬ dG l i=false:=(by simpa[aB,aF]using h3);(conv=>whnf);refine bt ?_;(conv=>whnf);refine⟨l.length - (i+1),aa,?_⟩;exact aJ (h0:=hBo l) (n0:=1) ⟨i+1,j+1,aa,hlt,rfl,by rw[hb,if_neg h3],rfl,rfl,rfl⟩
 have hge:l.length<=i:=(by simp[aB,aF]at h1;omega);(conv=>whnf);rw[hb,List.drop_eq_nil_of_le hge];rfl
def ctS (l:List Bool):List Value->Option (Bool × Value)
 |[.bool false]=>some (decide (l.length<=1000000),.bool (!(l.all id)))
 |_=>none
theorem aIq {l:List Bool}{r:List Value}{v:Value}(hs:ctS l r=some (true,v)):r=[.bool false]/\l.length<=1000000/\v=.bool (!(l.all id)):=by
 unfold ctS at hs;split at hs
 ·injection hs with hs;injection hs with h1 h2;exact⟨rfl,by simpa using h1,h2.symm⟩
 ·cases hs
def Z5:Nat × XF:=(181,lX gJ ctS)
theorem aKC:c7 Tryz.prog Z5.1 Z5.2:=OV gJ (aL (xl:=[aEc]) (.cons aOz .nil)) fun l r v hs=>by
 obtain⟨rfl,hlen,rfl⟩:=aIq hs;refine⟨rfl,rfl,fun c=>?_⟩;(conv=>whnf);refine⟨l,aP gJ rfl,?_⟩;((conv=>whnf);apply bm<;>intro h1)
 ·(conv=>whnf);rw[<- T5 l 0];rfl
 exact absurd hlen (by simpa using h1)
theorem Q3 (n:Nat):rep n [.bool false]=flat gJ.fl (List.replicate n false):=by
 induction n with
 |zero=>rfl
 |succ n ih=>simp only[List.replicate_succ,flat,<- ih];rfl
theorem EY (n:Nat):rep n [iv 0]=flat aW.fl (List.replicate n 0):=by
 induction n with
 |zero=>rfl
 |succ n ih=>simp only[List.replicate_succ,flat,<- ih];rfl
theorem DR (a b:Pt):bL a b=decide (iV a b<0):=by
 unfold bL iV orI jN;by_cases h1:a.1<b.1
 ·simp[h1]
 by_cases h2:b.1<a.1
 ·have h3:¬ a.1=b.1:=aa;simp[h1,h2,h3]
 have h3:a.1=b.1:=aa;simp only[h1,h2,if_false,h3];by_cases h4:a.2<b.2 <;> by_cases h5:b.2<a.2 <;> simp[h4,h5]
theorem aAh (d e:Ed):W2 d e=decide (orI (jN d.a e.a) (jN d.b e.b)<0):=DR (d.a,d.b) (e.a,e.b)
end Go.Aw
end
