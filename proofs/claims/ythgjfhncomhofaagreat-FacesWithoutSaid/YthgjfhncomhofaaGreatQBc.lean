/-
  Parts of a proof. No condition.
-/
import Derived.Test.YthgjfhncomhofaaGreatQAi
import Derived.Test.YthgjfhncomhofaaGreatQAk
import Derived.Test.YthgjfhncomhofaaGreatQAq
import Derived.Test.YthgjfhncomhofaaGreatQBb
set_option linter.unusedSimpArgs false
set_option linter.unusedVariables false
noncomputable section
namespace Go.Aw
open Proofs
set_option maxRecDepth 100000
section
variable {l:List Pt}{m:List Ed}{n:Int}
theorem UY (hok:eO l m n=true):∀ d,d<=2*m.length->∀ i,i<2*m.length->0<=aG (bR l (bA l m m.length) (outs l m) d).face i/\aG (bR l (bA l m m.length) (outs l m) d).face i<=(bR l (bA l m m.length) (outs l m) d).many
 |0,_,i,hi=>by
  unfold bR aG;rw[List.getD_eq_getElem?_getD,List.getElem?_replicate,bT,if_pos hi];exact⟨Int.le_refl _,Int.le_refl _⟩
 |d+1,h,i,hi=>by
  have ih:=UY hok d aa i hi;have hinv:=mD l (bA l m m.length) (outs l m) d;rw[bT]at hinv;rw[show bR l (bA l m m.length) (outs l m) (d+1)=jU l (bA l m m.length) (outs l m) (bR l (bA l m m.length) (outs l m) d) d from rfl];generalize bR l (bA l m m.length) (outs l m) d=t at *;unfold jU;split
  ·exact ih
  simp only;have hin:=wD (cE hok) (d:=(d:Int)) aa aa;have hr:∀ k,k<(zY (bA l m m.length) (outs l m) d).length->(aG (zY (bA l m m.length) (outs l m) d) k).toNat<t.face.length:=fun k hk=>by
   rw[hinv.1];rw[BS]at hk;rw[RT hk];have:=hin k;omega
  generalize zY (bA l m m.length) (outs l m) d=W at *;generalize NC l (bA l m m.length) W W.length=A;have hs:=rS t.face W (if 0<A then t.many+1 else 0) hr i _ (ah _);by_cases hc:∃ k,k<W.length/\(aG W k).toNat=i
  ·rw[hs.1 hc];split <;> omega
  rw[hs.2 hc];split <;> omega
theorem MA (ho:iY l m n=true){i:Nat}(hi:i<2*m.length):0<=aG (bG l m).face i/\aG (bG l m).face i<=n:=by
 have ho':=ho;simp only[iY,fE,af,ag]at ho';have:=UY ho'.1.1 (2*m.length) (ah _) i hi;have e:bR l (bA l m m.length) (outs l m) (2*m.length)=bG l m:=(by unfold bG ZW;rw[bT]);rw[e,ho'.2.2.2.1]at this;exact this
theorem aJX (ho:iY l m n=true){i:Nat}(hi:i<m.length):(aU m i).l=aG (bG l m).face (2*i)/\(aU m i).r=aG (bG l m).face (2*i+1):=by
 simp only[iY,af]at ho;have:=eR ho.2.2.2.2 hi;simpa only[KT,af,ag]using this
theorem CG (ho:iY l m n=true){i:Nat}(hi:i<m.length):(0<=(aU m i).l/\(aU m i).l<=n)/\(0<=(aU m i).r/\(aU m i).r<=n):=by
 obtain⟨e1,e2⟩:=aJX ho hi;rw[e1,e2];exact⟨MA ho aa,MA ho aa⟩
theorem aQ4 (ho:iY l m n=true):1<=n/\n<=100:=(qG (XH ho)).2.2.2.2.2
end
theorem WU (D:List Dt)(ls:List (List Int))(d:Int)(a:Nat):∀ b,j3 D ls (j3 D ls d a) b=j3 D ls d (a+b)
 |0=>rfl
 |b+1=>by
  show BY D ls (j3 D ls (j3 D ls d a) b)=BY D ls (j3 D ls d (a+b));rw[WU D ls d a b]
section
variable {l:List Pt}{m:List Ed}{n:Int}
structure Ow (l:List Pt) (m:List Ed) (t:IW):Prop where
 orb:∀ i j:Nat,i<2*m.length->j<2*m.length->dG t.seen i=true->dG t.seen j=true->aG t.face i=aG t.face j->(aG t.face i≠0\/(t.out<=1/\t.flat=false))->∃ k,j3 (bA l m m.length) (outs l m) i k=j
 con:∀ i:Nat,i<2*m.length->dG t.seen i=true->aG t.face (BY (bA l m m.length) (outs l m) i).toNat=aG t.face i
 zer:∀ i:Nat,i<2*m.length->dG t.seen i=true->aG t.face i=0->1<=t.out\/t.flat=true
 rng:∀ i:Nat,i<2*m.length->aG t.face i<=t.many
theorem aJT (hok:eO l m n=true){t:IW}(h:Hs l m t)(o:Ow l m t)(hout:0<=t.out){d:Nat}(hd:d<2*m.length):Ow l m (jU l (bA l m m.length) (outs l m) t d):=by
 unfold jU;cases hs:dG t.seen d with
 |true=>rw[if_pos rfl];exact o
 |false =>
  rw[if_neg (by decide)];simp only;have hin:=wD (cE hok) (d:=(d:Int)) aa aa;have hT:j3 (bA l m m.length) (outs l m) d (m5 (bA l m m.length) (outs l m) d)=d:=by
   have hw:=List.all_eq_true.1 (FA (cE hok)) d (List.mem_range.2 (by rw[bT];exact hd));exact of_decide_eq_true hw
  have hT1:1<=m5 (bA l m m.length) (outs l m) d:=by
   have:=(oE (bA l m m.length) (outs l m) d (bA l m m.length).length 1).1;unfold m5;omega
  have hget:∀ k,k<m5 (bA l m m.length) (outs l m) d->aG (zY (bA l m m.length) (outs l m) d) k=j3 (bA l m m.length) (outs l m) d k:=fun k hk=>RT hk;have hlen:(zY (bA l m m.length) (outs l m) d).length=m5 (bA l m m.length) (outs l m) d:=BS;generalize zY (bA l m m.length) (outs l m) d=W at hget hlen ⊢;generalize m5 (bA l m m.length) (outs l m) d=T at *;have hr:∀ k,k<W.length->(aG W k).toNat<2*m.length:=fun k hk=>by
   rw[hget k aa];have:=hin k;omega
  have hdis:∀ k,k<W.length->dG t.seen (aG W k).toNat=true->False:=fun k hk hsk=>by
   rw[hget k aa]at hsk;have hf:∀ j,dG t.seen (j3 (bA l m m.length) (outs l m) d (k+j)).toNat=true:=by
    intro j
    induction j with
    |zero=>exact hsk
    |succ j ih =>
     have hi:=hin (k+j);have:=h.cl (j3 (bA l m m.length) (outs l m) d (k+j)).toNat aa ih;rw[Int.toNat_of_nonneg hi.1]at this;exact this
   have:=hf (T - k);rw[(aa:k+(T - k)=T),hT,Int.toNat_natCast,hs]at this;cases this
  generalize NC l (bA l m m.length) W W.length=A
  -- which darts lie in the walk
  have hsee:∀ i,dG (dP t.seen W W.length) i=true->(∃ k,k<W.length/\(aG W k).toNat=i)\/(dG t.seen i=true/\¬ ∃ k,k<W.length/\(aG W k).toNat=i):=fun i hi=>by
   by_cases e:∃ k,k<W.length/\(aG W k).toNat=i
   ·exact .inl e
   rw[(rT t.seen W (by rw[h.seen];exact hr) i _ (ah _)).2 e]at hi;exact .inr ⟨hi,e⟩
  have hnew:∀(fc:Int) i,(∃ k,k<W.length/\(aG W k).toNat=i)->aG (cX t.face W fc W.length) i=fc:=fun fc i hi=>(rS t.face W fc (by rw[h.face];exact hr) i _ (ah _)).1 hi;have hold:∀(fc:Int) i,(¬ ∃ k,k<W.length/\(aG W k).toNat=i)->aG (cX t.face W fc W.length) i=aG t.face i:=fun fc i hi=>(rS t.face W fc (by rw[h.face];exact hr) i _ (ah _)).2 hi;have hwi:∀ i:Nat,(∃ k,k<W.length/\(aG W k).toNat=i)->∃ k,k<T/\j3 (bA l m m.length) (outs l m) d k=i:=fun i ⟨k,b1,b2⟩=>by
   refine⟨k,aa,?_⟩;rw[hget k aa]at b2;have:=hin k;omega
  have hiw:∀ k,k<=T->∃ q,q<W.length/\(aG W q).toNat=(j3 (bA l m m.length) (outs l m) d k).toNat:=fun k hk=>by
   rcases Nat.lt_or_ge k T with hk2|hk2
   ·exact⟨k,aa,by rw[hget k hk2]⟩
   refine⟨0,aa,?_⟩;rw[hget 0 aa,(aa:k=T),hT];rfl
  have hmany:=h.low;refine⟨fun i j hi hj hsi hsj hf hc=>?_,fun i hi hsi=>?_,fun i hi hsi hz=>?_,fun i hi=>?_⟩
  ·rcases hsee i hsi with ei|⟨oi,ni⟩ <;> rcases hsee j hsj with ej|⟨oj,nj⟩
   ·obtain⟨a,a1,a2⟩:=hwi i ei;obtain⟨b,b1,b2⟩:=hwi j ej;refine⟨T - a+b,?_⟩;rw[<- a2,WU,(aa:a+(T - a+b)=T+b),<- WU,hT,b2]
   ·exfalso;simp only at hf hc;rw[hnew _ i ei]at hf hc;rw[hold _ j nj]at hf;have:=o.rng j hj;have hz:=o.zer j hj oj;by_cases hA:0<A
    ·rw[if_pos hA]at hf;omega
    rw[if_neg hA]at hf hc;simp only[if_neg hA]at hc;have hz:=hz hf.symm;rcases hc with hc|⟨c1,c2⟩
    ·exact hc rfl
    by_cases hA2:A<0
    ·rw[if_pos hA2]at c1 c2;rcases hz with hz|hz
     ·omega
     rw[hz]at c2;cases c2
    rw[if_neg hA2]at c2;cases c2
   ·exfalso;simp only at hf hc;rw[hnew _ j ej]at hf;rw[hold _ i ni]at hf hc;have:=o.rng i hi;have hz:=o.zer i hi oi;by_cases hA:0<A
    ·rw[if_pos hA]at hf;omega
    rw[if_neg hA]at hf;simp only[if_neg hA]at hc;have hz:=hz hf;rcases hc with hc|⟨c1,c2⟩
    ·exact hc hf
    by_cases hA2:A<0
    ·rw[if_pos hA2]at c1 c2;rcases hz with hz|hz
     ·omega
     rw[hz]at c2;cases c2
    rw[if_neg hA2]at c2;cases c2
   simp only at hf hc;rw[hold _ i ni]at hf hc;rw[hold _ j nj]at hf;refine o.orb i j hi hj oi oj hf ?_;rcases hc with hc|⟨c1,c2⟩
   ·exact .inl hc
   refine .inr ?_;by_cases hA:0<A
   ·rw[if_pos hA]at c1 c2;exact⟨c1,c2⟩
   rw[if_neg hA]at c1 c2;by_cases hA2:A<0
   ·rw[if_pos hA2]at c1 c2;exact⟨aa,c2⟩
   rw[if_neg hA2]at c2;cases c2
  ·rcases hsee i hsi with ei|⟨oi,ni⟩
   ·have e1:=hnew (if 0<A then t.many+1 else 0) i ei;simp only;rw[e1];obtain⟨a,a1,a2⟩:=hwi i ei;refine hnew _ _ ?_;have:=hiw (a+1) aa;rw[show j3 (bA l m m.length) (outs l m) d (a+1)=BY (bA l m m.length) (outs l m) i from by rw[<- a2];rfl]at this;exact this
   simp only;rw[hold _ i ni,<- o.con i hi oi];refine hold _ _ fun⟨k,b1,b2⟩=>?_;have hc:=h.cl i hi oi;rw[<- b2]at hc;exact hdis k b1 hc
  ·simp only at hz ⊢;rcases hsee i hsi with ei|⟨oi,ni⟩
   ·rw[hnew _ i ei]at hz;by_cases hA:0<A
    ·rw[if_pos hA]at hz;omega
    rw[if_neg hA,if_neg hA];by_cases hA2:A<0
    ·rw[if_pos hA2];exact .inl aa
    rw[if_neg hA2,if_neg hA2];exact .inr rfl
   rw[hold _ i ni]at hz;have hz:=o.zer i hi oi hz;by_cases hA:0<A
   ·rw[if_pos hA,if_pos hA];exact hz
   rw[if_neg hA,if_neg hA];by_cases hA2:A<0
   ·rw[if_pos hA2,if_pos hA2];exact hz.imp (fun h=>by omega) id
   rw[if_neg hA2,if_neg hA2];exact .inr rfl
  simp only;by_cases ei:∃ k,k<W.length/\(aG W k).toNat=i
  ·rw[hnew _ i ei];split <;> omega
  rw[hold _ i ei];have:=o.rng i hi;split <;> omega
theorem aEz (hok:eO l m n=true):∀ d,d<=2*m.length->Ow l m (bR l (bA l m m.length) (outs l m) d)
 |0,_=>by
  have hz:∀ i,dG (bR l (bA l m m.length) (outs l m) 0).seen i=true->False:=fun i h=>by
   unfold bR dG at h;rw[List.getD_eq_getElem?_getD,List.getElem?_replicate]at h;split at h <;> cases h
  refine⟨fun i j _ _ hs=>(hz i hs).elim,fun i _ hs=>(hz i hs).elim,fun i _ hs=>(hz i hs).elim,fun i hi=>?_⟩;unfold bR aG;rw[List.getD_eq_getElem?_getD,List.getElem?_replicate,bT,if_pos hi];exact Int.le_refl _
 |d+1,h=>aJT hok (ZS hok d aa) (aEz hok d aa) (mD l (bA l m m.length) (outs l m) d).2.2.2.2.1 aa
end
def HO (p:gC):Rt:=((p.a,p.b),p.ln)
theorem aIr {l:List gC}{i:Nat}(h:i<l.length):gF l i∈l:=by rw[nT h];exact List.getElem_mem h
theorem aHT {l:List gC}{p:gC}(h:p∈l):∃ i,i<l.length/\gF l i=p:=by
 obtain⟨i,hi,rfl⟩:=List.getElem_of_mem h;exact⟨i,hi,nT hi⟩
structure Good (l:List gC):Prop where
 pos:1<=l.length
 len:l.length<=400
 apt:Apt (l.map HO)
 lss:∀ k,k<l.length->bL (gF l k).a (gF l k).b=true
 rgt:∀ k,k<l.length->bF (gF l k).a=true/\bF (gF l k).b=true
 lin:∀ k,k<l.length->-1<=(gF l k).ln/\(gF l k).ln<200
 few:(aQ l).length<=400
section
variable {l:List gC}
theorem DY {L:List Pt}(hL:ND L){p:Pt}(hp:p∈L):BW L p<L.length/\bI L (BW L p)=p/\mJ L p=BW L p:=by
 obtain⟨i,hi,rfl⟩:=pN hp;rw[BL hL hi];exact⟨hi,rfl,aBs hL.nodup hi⟩
theorem WM {L:List Pt}(hL:ND L){p q:Pt}(hp:p∈L)(hq:q∈L):BW L p<BW L q↔bL p q=true:=by
 obtain⟨i,hi,rfl⟩:=pN hp;obtain⟨j,hj,rfl⟩:=pN hq;rw[BL hL hi,BL hL hj];exact(hL.lt_iff hi hj).symm
theorem aNl {L:List Pt}(hL:ND L){p q:Pt}(hp:p∈L)(hq:q∈L):BW L p=BW L q↔p=q:=by
 obtain⟨i,hi,rfl⟩:=pN hp;obtain⟨j,hj,rfl⟩:=pN hq;rw[BL hL hi,BL hL hj];exact⟨fun e=>by rw[e],fun e=>hL.inj hi hj e⟩
theorem Good.pt (h:Good l){k:Nat}(hk:k<l.length):(gF l k).a∈aQ l/\(gF l k).b∈aQ l :=
 ⟨((oR h.pos h.len).2 _).2 ⟨k,hk,.inl rfl⟩,((oR h.pos h.len).2 _).2 ⟨k,hk,.inr rfl⟩⟩
theorem UO (h:Good l){x y:Int}(hx:0<=x/\x<l.length)(hy:0<=y/\y<l.length):bL (uP (aQ l) l x) (uP (aQ l) l y)=fT (HO (gF l x.toNat)) (HO (gF l y.toNat)):=by
 have hL:=(oR h.pos h.len).1;obtain⟨p1,p2⟩:=h.pt (k:=x.toNat) aa;obtain⟨q1,q2⟩:=h.pt (k:=y.toNat) aa;rw[Bool.eq_iff_iff];have e1:=WM hL p1 q1;have e2:=WM hL p2 q2;have e3:=aNl hL p1 q1;unfold bL fT uP HO;simp only[Bool.or_eq_true,af,ag,eL,Int.ofNat_lt,Int.ofNat_inj];rw[e1,e2,e3]
theorem aE0 (h:Good l):Ord (.ords (aQ l) l) (fun x=>0<=x/\x<l.length):=UH (f:=fun x=>uP (aQ l) l x) fun x y _ _=>rfl
theorem yS (h:Good l):So (.ords (aQ l) l) (cL l) 0 l.length/\(cL l).Perm (fM l.length):=by
 have:=Q6 (aE0 h) (f:=1000) (L:=fM l.length) (by rw[eH];have:=h.len;omega) (fun i _ hi=>by
  rw[eH]at hi;rw[I5 hi];omega)
 rw[eH]at this;exact this
theorem lP (h:Good l){i:Nat}(hi:i<l.length):0<=aG (cL l) i/\aG (cL l) i<l.length:=by
 have hl:=gU l;have:aG (cL l) i∈cL l:=(by rw[fK aa];exact List.getElem_mem _);exact K5.1 ((yS h).2.mem_iff.1 this)
theorem JU (n:Nat):(fM n).Nodup:=by
 unfold fM List.Nodup;rw[List.pairwise_map];exact List.nodup_range.imp fun{a b} h e=>h (Int.ofNat.inj e)
def LU (l:List gC):List Rt:=(cL l).map fun x=>HO (gF l x.toNat)
theorem kE:(LU l).length=l.length:=by unfold LU;rw[List.length_map,gU]
theorem DJ {i:Nat}(hi:i<l.length):atR (LU l) i=HO (gF l (aG (cL l) i).toNat):=by
 have:=gU l;rw[nO (by rw[kE];exact hi),fK aa];simp only[LU,List.getElem_map]
theorem FR (h:Good l):(LU l).Perm (l.map HO):=by
 have:=(yS h).2.map (fun x:Int=>HO (gF l x.toNat));refine this.trans ?_;have e:(fM l.length).map (fun x:Int=>HO (gF l x.toNat))=l.map HO:=by
  unfold fM;rw[List.map_map];apply List.ext_getElem?;intro i;rw[List.getElem?_map,List.getElem?_map];by_cases hi:i<l.length
  ·rw[List.getElem?_range hi,List.getElem?_eq_getElem hi];show some (HO (gF l ((i:Int)).toNat))=_;rw[Int.toNat_natCast,nT hi];rfl
  rw[List.getElem?_eq_none (by rw[List.length_range];omega),List.getElem?_eq_none aa];rfl
 rw[e]
theorem LC (h:Good l):aDd (LU l):=by
 have ho:=yS h;have hl:=gU l;refine List.pairwise_iff_getElem.2 fun i j hi hj hij=>?_;rw[kE]at hi hj;rw[<- nO (by rw[kE];exact hi),<- nO (by rw[kE];exact hj),DJ hi,DJ hj];have hle:=ho.1 i j (Nat.zero_le _) hij hj;unfold BP gI at hle;have hx:=lP h hi;have hy:=lP h hj;have hle:bL (uP (aQ l) l (aG (cL l) j)) (uP (aQ l) l (aG (cL l) i))=false:=(by rw[mA];exact hle);rw[UO h hy hx]at hle;refine(Z0 ?_).resolve_right (by rw[hle];decide);have hne:aG (cL l) i≠aG (cL l) j:=fun e=>by
  have hn:(cL l).Nodup:=ho.2.symm.nodup (JU _);have:=CV hn (i:=i) (j:=j) aa aa e;omega
 have hap:=List.pairwise_iff_getElem.1 h.apt;have key:∀ a b:Nat,a<l.length->b<l.length->a<b->(HO (gF l a)).1≠(HO (gF l b)).1:=fun a b ha hb hab=>by
  have:=hap a b (by rw[List.length_map];exact ha) (by rw[List.length_map];exact hb) hab;rw[List.getElem_map,List.getElem_map,<- nT ha,<- nT hb]at this;exact this
 rcases Nat.lt_trichotomy (aG (cL l) i).toNat (aG (cL l) j).toNat with q|q|q
 ·exact key _ _ aa aa q
 ·omega
 exact fun e=>key _ _ aa aa q e.symm
theorem ZM (h:Good l){P:List Rt}(hP:(l.map HO).Perm P):mdL P=LU l/\MX P:=by
 have hap:Apt P:=(List.Perm.pairwise_iff (fun{a b} h=>fun e=>h e.symm) hP).1 h.apt;obtain⟨h1,h2,h3⟩:=aIu hap;exact⟨aBc h2 (LC h) (h3.trans (hP.symm.trans (FR h).symm)),h1⟩
theorem X2 (h:Good l){P:List Rt}(hP:(l.map HO).Perm P):tB P=aQ l:=by
 have he:=(ZM h hP).1;obtain⟨h1,h2⟩:=aA3 (mdL P) (mdL P).length;obtain⟨h3,h4⟩:=oR h.pos h.len;refine aLQ h1 h3 fun p=>(h2 p).trans (Iff.trans ?_ (h4 p).symm);rw[he,kE];have hpm:=FR h;constructor
 ·rintro⟨k,hk,e⟩;have hm:=hpm.mem_iff.1 (aCa (L:=LU l) (i:=k) (by rw[kE];exact hk));obtain⟨q,hq,e2⟩:=List.mem_map.1 hm;obtain⟨j,hj,e3⟩:=aHT hq;refine⟨j,hj,?_⟩;rw[<- e2,<- e3]at e;exact e
 rintro⟨k,hk,e⟩;have hm:HO (gF l k)∈LU l:=hpm.mem_iff.2 (List.mem_map_of_mem (aIr hk));obtain⟨j,hj,e2⟩:=IU hm;rw[kE]at hj;refine⟨j,hj,?_⟩;rw[e2];exact e
theorem aHe (h:Good l){P:List Rt}(hP:(l.map HO).Perm P):oL P=aR l:=by
 have he:=(ZM h hP).1;have hp:=X2 h hP;have hl:=gU l;have hL:=(oR h.pos h.len).1;unfold oL edR aR;rw[hp,he,List.take_length];unfold LU;rw[List.map_map];refine List.map_congr_left fun x hx=>?_;have hin:=K5.1 ((yS h).2.mem_iff.1 hx);obtain⟨p1,p2⟩:=h.pt (k:=x.toNat) aa;show(⟨mJ (aQ l) (gF l x.toNat).a,mJ (aQ l) (gF l x.toNat).b,0,0,(gF l x.toNat).ln⟩:Ed)=edA l x;rw[(DY hL p1).2.2,(DY hL p2).2.2];rfl
theorem y8 {i:Nat}(hi:i<l.length):aU (aR l) i=edA l (aG (cL l) i):=by
 have:=gU l;rw[u7 (by rw[m4];exact hi),fK aa];simp only[aR,List.getElem_map]
theorem aRr (h:Good l){i:Nat}(hi:i<l.length):bB (aQ l) (aR l) i=((gF l (aG (cL l) i).toNat).a,(gF l (aG (cL l) i).toNat).b):=by
 have hx:=lP h hi;obtain⟨p1,p2⟩:=h.pt (k:=(aG (cL l) i).toNat) aa;have hL:=(oR h.pos h.len).1;unfold bB;rw[y8 hi];show(bI (aQ l) ((BW (aQ l) (gF l (aG (cL l) i).toNat).a:Nat):Int).toNat,bI (aQ l) ((BW (aQ l) (gF l (aG (cL l) i).toNat).b:Nat):Int).toNat)=_;rw[Int.toNat_natCast,Int.toNat_natCast,(DY hL p1).2.1,(DY hL p2).2.1]
theorem aBW (m:List Ed)(s:List Bool)(hm:∀ i,i<m.length->(aU m i).a.toNat<s.length/\(aU m i).b.toNat<s.length)(x:Nat):∀ k,k<=m.length->(∃ i,i<k/\(x=(aU m i).a.toNat\/x=(aU m i).b.toNat))->dG (nN m s k) x=true
 |0,_,⟨i,hi,_⟩=>by omega
 |k+1,hk,⟨i,hi,e⟩=>by
  obtain⟨h1,h2⟩:=hm k aa;have hl:=uF m s k;unfold nN;rw[pG _ _ _ _ (by rw[List.length_set,hl];exact h2)];split
  ·rfl
  rename_i hb;rw[pG _ _ _ _ (by rw[hl];exact h1)];split
  ·rfl
  rename_i ha;by_cases hik:i=k
  ·subst hik;rcases e with e|e
   ·exact absurd e ha
   exact absurd e hb
  exact aBW m s hm x k aa ⟨i,aa,e⟩
theorem YL (h:Good l):lG (aQ l) (aR l)=true:=by
 have hL:=(oR h.pos h.len);have hel:=m4 l;have hpos:=h.pos;have hlen:=h.len;have hab:∀ i,i<l.length->0<=(aU (aR l) i).a/\(aU (aR l) i).a<(aU (aR l) i).b/\(aU (aR l) i).b<(aQ l).length:=fun i hi=>by
  have hx:=lP h hi;obtain⟨p1,p2⟩:=h.pt (k:=(aG (cL l) i).toNat) aa;have hlt:=(WM hL.1 p1 p2).2 (h.lss _ aa);have h2:=(DY hL.1 p2).1;rw[y8 hi];show(0:Int)<=(BW (aQ l) (gF l (aG (cL l) i).toNat).a:Nat)/\((BW (aQ l) (gF l (aG (cL l) i).toNat).a:Nat):Int)<(BW (aQ l) (gF l (aG (cL l) i).toNat).b:Nat)/\((BW (aQ l) (gF l (aG (cL l) i).toNat).b:Nat):Int)<_;omega
 simp only[lG,szW,af,ag];refine⟨⟨⟨h.few,aa⟩,aa⟩,eN fun i hi=>?_,eN fun i hi=>?_,List.all_eq_true.2 fun b hb=>?_⟩
 ·unfold FK;rw[af];constructor
  ·obtain⟨k,hk,e⟩:=(hL.2 _).1 (vB hi);rcases e with e|e
   ·rw[e];exact(h.rgt k hk).1
   rw[e];exact(h.rgt k hk).2
  rw[Bool.or_eq_true,ag];by_cases h0:i=0
  ·exact .inl h0
  exact .inr (hL.1.lt aa hi)
 ·rw[hel]at hi;obtain⟨a1,a2,a3⟩:=hab i hi;have hx:=lP h hi;have hln:=h.lin (aG (cL l) i).toNat aa;have hn:(aU (aR l) i).n=(gF l (aG (cL l) i).toNat).ln:=(by rw[y8 hi];rfl);unfold G8;simp only[af,ag,Bool.or_eq_true];refine⟨⟨⟨⟨⟨a1,a2⟩,a3⟩,by rw[hn];exact hln.1⟩,by rw[hn];exact hln.2⟩,?_⟩;by_cases h0:i=0
  ·exact .inl h0
  right;have:=List.pairwise_iff_getElem.1 (LC h) (i - 1) i (by rw[kE];omega) (by rw[kE];omega) aa;rw[<- nO (by rw[kE];omega),<- nO (by rw[kE];omega),DJ aa,DJ hi,<- UO h (lP h aa) hx]at this;rw[y8 aa,y8 hi];simp only[bL,Bool.or_eq_true,af,ag]at this;unfold W2 edA;simp only[Bool.or_eq_true,af,ag];exact this
 obtain⟨s,hs,rfl⟩:=List.getElem_of_mem hb;have hs':s<(aQ l).length:=(by rw[uF,List.length_replicate]at hs;exact hs);show _=true;rw[<- sM hs];refine aBW _ _ (fun i hi=>?_) s _ (ah _) ?_
 ·rw[List.length_replicate];obtain⟨a1,a2,a3⟩:=hab i aa;omega
 obtain⟨k,hk,e⟩:=(hL.2 _).1 (vB hs');have hmem:(k:Int)∈cL l:=(yS h).2.mem_iff.2 (K5.2 aa);obtain⟨i,hi,e2⟩:=List.getElem_of_mem hmem;rw[gU]at hi;have e2:aG (cL l) i=k:=(by rw[fK (by rw[gU];exact hi)];exact e2);refine⟨i,aa,?_⟩;rw[y8 hi,e2];rcases e with e|e
 ·left;show s=((BW (aQ l) (gF l ((k:Int)).toNat).a:Nat):Int).toNat;rw[Int.toNat_natCast,Int.toNat_natCast,<- e,BL hL.1 hs']
 right;show s=((BW (aQ l) (gF l ((k:Int)).toNat).b:Nat):Int).toNat;rw[Int.toNat_natCast,Int.toNat_natCast,<- e,BL hL.1 hs']
theorem aLJ (h:Good l):okA l:=by
 have hW:=YL h;obtain⟨hM,h1,h2,h3,h4,_,_⟩:=sE hW;refine⟨ZF fun i hi=>?_,⟨h3,h1,h4,hM,fun i hi=>A1 hW hi,TX hW hM,fun s hs=>QO hW hs⟩,h2,W9 hW,FA hW,aEK hW⟩;rw[gU]at hi;exact lP h hi
end
section
variable {l:List Pt}{m:List Ed}{n:Int}
theorem aDy (hok:eO l m n=true){d:Nat}(hd:d<2*m.length):∃ k,(j3 (bA l m m.length) (outs l m) d k) % 2=0:=by
 by_cases h:∃ k,(j3 (bA l m m.length) (outs l m) d k) % 2=0
 ·exact h
 exfalso;have hW:=cE hok;have hodd:∀ k,(j3 (bA l m m.length) (outs l m) d k) % 2=1:=fun k=>by
  have:¬(j3 (bA l m m.length) (outs l m) d k) % 2=0:=fun e=>h ⟨k,e⟩;omega
 have hin:=wD hW (d:=(d:Int)) aa aa;have hstep:∀ k,(cV (bA l m m.length) (j3 (bA l m m.length) (outs l m) d (k+1)).toNat).fr.toNat<(cV (bA l m m.length) (j3 (bA l m m.length) (outs l m) d k).toNat).fr.toNat:=fun k=>by
  have h1:=hin k;have h2:=(OK hW h1.1 h1.2).2.2;show(cV (bA l m m.length) (BY (bA l m m.length) (outs l m) (j3 (bA l m m.length) (outs l m) d k)).toNat).fr.toNat<_;rw[h2];have ho:=hodd k;generalize j3 (bA l m m.length) (outs l m) d k=x at *;obtain⟨y,hy⟩:∃ y:Nat,x.toNat=2*y+1:=⟨x.toNat / 2,aa⟩;rw[hy,(E7 l m (N:=m.length) (i:=y) aa).2];obtain⟨a1,a2,a3⟩:=yP hW (i:=y) aa;show(aU m y).a.toNat<(aU m y).b.toNat;omega
 have hdesc:∀ k,0<k->(cV (bA l m m.length) (j3 (bA l m m.length) (outs l m) d k).toNat).fr.toNat<(cV (bA l m m.length) (j3 (bA l m m.length) (outs l m) d 0).toNat).fr.toNat:=by
  intro k hk
  induction k with
  |zero=>omega
  |succ k ih =>
   have:=hstep k;by_cases h0:k=0
   ·subst h0;exact this
   have:=ih aa;omega
 have hT:j3 (bA l m m.length) (outs l m) d (m5 (bA l m m.length) (outs l m) d)=d:=by
  have hw:=List.all_eq_true.1 (FA hW) d (List.mem_range.2 (by rw[bT];exact hd));exact of_decide_eq_true hw
 have hT1:1<=m5 (bA l m m.length) (outs l m) d:=by
  have:=(oE (bA l m m.length) (outs l m) d (bA l m m.length).length 1).1;unfold m5;omega
 have:=hdesc _ hT1;rw[hT]at this;exact Nat.lt_irrefl _ this
theorem aIL (hok:eO l m n=true):(bG l m).many<=m.length:=by
 have hW:=cE hok;have hh:=ZS hok (2*m.length) (ah _);have ho:=aEz hok (2*m.length) (ah _);have e:bR l (bA l m m.length) (outs l m) (2*m.length)=bG l m:=(by unfold bG ZW;rw[bT]);rw[e]at hh ho;have hg:∀ f:Nat,((f:Int)+1<=(bG l m).many)->∃ i,i<m.length/\aG (bG l m).face (2*i)=f+1:=fun f hf=>by
  obtain⟨i,hi,hs,hfa⟩:=hh.has (f+1) (.inl ⟨aa,hf⟩);obtain⟨k,hk⟩:=aDy hok hi;have hin:=wD hW (d:=(i:Int)) aa aa;have key:∀ k,dG (bG l m).seen (j3 (bA l m m.length) (outs l m) i k).toNat=true/\aG (bG l m).face (j3 (bA l m m.length) (outs l m) i k).toNat=f+1:=by
   intro k
   induction k with
   |zero=>exact⟨hs,hfa⟩
   |succ k ih =>
    have h1:=hin k;have a1:=hh.cl (j3 (bA l m m.length) (outs l m) i k).toNat aa ih.1;have a2:=ho.con (j3 (bA l m m.length) (outs l m) i k).toNat aa ih.1;rw[Int.toNat_of_nonneg h1.1]at a1 a2;exact⟨a1,a2.trans ih.2⟩
  have h1:=hin k;refine⟨(j3 (bA l m m.length) (outs l m) i k).toNat / 2,aa,?_⟩;rw[(aa:2*((j3 (bA l m m.length) (outs l m) i k).toNat / 2)=(j3 (bA l m m.length) (outs l m) i k).toNat)];exact(key k).2
 by_cases hc:(bG l m).many<=m.length
 ·exact hc
 exfalso;obtain⟨i,j,hij,hj,he⟩:=Y3 m.length (fun f=>if h:((f:Int)+1<=(bG l m).many)then(hg f h).choose else 0) (fun f hf=>by
  have h:(f:Int)+1<=(bG l m).many:=aa;simp only[dif_pos h];exact(hg f h).choose_spec.1)
 have h1:(i:Int)+1<=(bG l m).many:=aa;have h2:(j:Int)+1<=(bG l m).many:=aa;simp only[dif_pos h1,dif_pos h2]at he;have e1:=(hg i h1).choose_spec.2;have e2:=(hg j h2).choose_spec.2;rw[he,e2]at e1;omega
end
end Go.Aw
end

namespace Go.Aw
open Proofs
theorem aEs (a b c d:Int):JO a b c d=JO c d a b:=by
 unfold JO;simp only[Or.comm (a:=0<c*d),And.comm (a:=c=0\/d=0),Or.comm (a:=c=0\/d=0)]
def back (t:Sg):Sg:=(t.2,t.1)
theorem EE (s:Sg)(hs:c8 s=true):bF (bY s).1=true/\bF (bY s).2=true/\key (bY s).1<key (bY s).2:=by
 obtain⟨r1,r2,ns⟩:=nQ hs;have n12:key s.1≠key s.2:=(K0 r1 r2).1 ((j7 _ _).2 ns);unfold bY;simp only[lN r1 r2,W6];by_cases h:key s.2<key s.1
 ·rw[if_pos h];exact⟨r2,r1,h⟩
 rw[if_neg h];exact⟨r1,r2,by simp only;omega⟩
theorem I0 (s t:Sg)(hs:c8 s=true)(ht:c8 t=true):bF (K7 s t)=true/\key (K7 s t)=max (key (bY s).1) (key (bY t).1):=by
 obtain⟨ra1,ra2,_⟩:=EE s hs;obtain⟨rb1,rb2,_⟩:=EE t ht;unfold K7;simp only[lN ra1 rb1,RO];by_cases hk:key (bY s).1<key (bY t).1
 ·rw[if_pos hk];exact⟨rb1,aa⟩
 rw[if_neg hk];exact⟨ra1,aa⟩
theorem B4 (s t:Sg)(hs:c8 s=true)(ht:c8 t=true):bF (wY s t)=true/\key (wY s t)=min (key (bY s).2) (key (bY t).2):=by
 obtain⟨ra1,ra2,_⟩:=EE s hs;obtain⟨rb1,rb2,_⟩:=EE t ht;unfold wY;simp only[lN rb2 ra2,RO];by_cases hk:key (bY t).2<key (bY s).2
 ·rw[if_pos hk];exact⟨rb2,aa⟩
 rw[if_neg hk];exact⟨ra2,aa⟩
theorem aFy (s t:Sg)(hs:c8 s=true)(ht:c8 t=true):pC t s=pC s t:=by
 have ns:=(nQ hs).2.2;have nt:=(nQ ht).2.2;unfold pC;by_cases h:bH s.1 s.2 t.1=0/\bH s.1 s.2 t.2=0
 ·rw[if_pos h,if_pos (zL t s ns h),lN (I0 t s ht hs).1 (B4 t s ht hs).1,lN (I0 s t hs ht).1 (B4 s t hs ht).1,(I0 t s ht hs).2,(B4 t s ht hs).2,(I0 s t hs ht).2,(B4 s t hs ht).2,Int.max_comm,Int.min_comm]
 rw[if_neg h,if_neg fun h'=>h (zL s t nt h'),aEs]
theorem aFi {s t:Sg}{out:List (Int × Int)}{p x:Int × Int}:x∈m9 s t out p↔x∈out\/(x=p/\rR p s=true/\rR p t=true):=by
 have hk:∀ l,j6 p l=true↔p∈l:=by
  intro l
  induction l with
  |nil=>simp[j6]
  |cons a r ih =>
   simp only[j6,Bool.or_eq_true,ih,List.mem_cons,eL];constructor
   ·rintro(h|h)
    ·exact .inl h.symm
    exact .inr h
   rintro(h|h)
   ·exact .inl h.symm
   exact .inr h
 unfold m9;split
 ·rename_i h;simp only[List.mem_append,List.mem_singleton];constructor
  ·rintro(h1|h1)
   ·exact .inl h1
   exact .inr ⟨h1,h.1,h.2.1⟩
  rintro(h1|h1)
  ·exact .inl h1
  exact .inr h1.1
 rename_i h;constructor
 ·exact .inl
 rintro(h1|h1)
 ·exact h1
 have:j6 p out=true:=by
  cases hq:j6 p out with
  |true=>rfl
  |false=>exact absurd ⟨h1.2.1,h1.2.2,hq⟩ h
 rw[h1.1];exact(hk out).1 this
theorem U0 {s t:Sg}{x:Int × Int}:x∈l7 s t↔(x=s.1\/x=s.2\/x=t.1\/x=t.2)/\rR x s=true/\rR x t=true:=by
 unfold l7;simp only[aFi,List.not_mem_nil,false_or];constructor
 ·rintro(((⟨rfl,h⟩|⟨rfl,h⟩)|⟨rfl,h⟩)|⟨rfl,h⟩)
  ·exact⟨.inl rfl,h⟩
  ·exact⟨.inr (.inl rfl),h⟩
  ·exact⟨.inr (.inr (.inl rfl)),h⟩
  exact⟨.inr (.inr (.inr rfl)),h⟩
 rintro⟨rfl|rfl|rfl|rfl,h⟩
 ·exact .inl (.inl (.inl ⟨rfl,h⟩))
 ·exact .inl (.inl (.inr ⟨rfl,h⟩))
 ·exact .inl (.inr ⟨rfl,h⟩)
 exact .inr ⟨rfl,h⟩
theorem aGx {s t:Sg}(hs:c8 s=true)(ht:c8 t=true){p q:Int × Int}(hp:p∈l7 s t)(hq:q∈l7 s t)(hne:p≠q):pC s t=4:=by
 rw[PT s t hs ht];unfold qP;cases h:l7 s t with
 |nil=>rw[h]at hp;cases hp
 |cons a r =>
  cases r with
  |nil =>
   rw[h]at hp hq;exact absurd ((List.mem_singleton.1 hp).trans (List.mem_singleton.1 hq).symm) hne
  |cons b r=>rfl
end Go.Aw

noncomputable section
namespace Go.Aw
open Proofs
set_option maxRecDepth 100000
theorem aDc (s t:Sg):dW t s=dW s t:=by
 unfold dW;by_cases h:c8 s=true/\c8 t=true
 ·rw[if_pos h,if_pos ⟨h.2,h.1⟩,aFy s t h.1 h.2]
 rw[if_neg h,if_neg fun h2=>h ⟨h2.2,h2.1⟩]
section
variable {l:List Pt}{m:List Ed}{n:Int}
theorem J5 (hp:fE l m n=true){i k:Nat}(hi:i<m.length)(hk:k<m.length)(hne:i≠k):dW (bB l m i) (bB l m k)=0\/dW (bB l m i) (bB l m k)=1:=by
 simp only[fE,af]at hp;have key:∀ i k,i<m.length->k<i->dW (bB l m i) (bB l m k)=0\/dW (bB l m i) (bB l m k)=1:=fun i k hi hk=>by
  have:=eR (f:=fun k=>EH l m i k) (eR (f:=fun i=>oK (fun k=>EH l m i k) i) hp.2 hi) hk;simpa only[EH,Bool.or_eq_true,ag]using this
 rcases Nat.lt_or_ge k i with h|h
 ·exact key i k hi h
 rw[<- aDc];exact key k i hk aa
theorem aAn (hp:fE l m n=true){i k:Nat}(hi:i<m.length)(hk:k<m.length)(e:bB l m i=bB l m k):i=k:=by
 by_cases h:i=k
 ·exact h
 exfalso;obtain⟨r1,l1⟩:=sY (eC hp) hi;have:=WL r1 r1 l1 l1 rfl (aAS _ _);have hm:=J5 hp hi hk h;rw[<- e]at hm;omega
theorem aKY (hok:eO l m n=true):∀{j i:Nat},i<j->j<m.length->W2 (aU m i) (aU m j)=true
 |0,i,h,_=>by omega
 |j+1,i,h,hj=>by
  have hok':=hok;simp only[eO,af]at hok;have h1:=eR hok.2.2.1 hj;simp only[G8,af,Bool.or_eq_true,ag]at h1;have h2:W2 (aU m j) (aU m (j+1))=true:=by
   rcases h1.2 with h|h
   ·omega
   exact h
  by_cases e:i=j
  ·rw[e];exact h2
  have h3:=aKY hok' (aa:i<j) aa;simp only[W2,Bool.or_eq_true,af,ag]at *;omega
theorem aJK (hok:eO l m n=true){i j:Nat}(hij:i<j)(hj:j<m.length){x y:Int}:fT (bB l m i,x) (bB l m j,y)=true:=by
 have hb:=aKY hok hij hj;have hW:=cE hok;obtain⟨a1,a2,a3⟩:=yP hW (i:=i) aa;obtain⟨b1,b2,b3⟩:=yP hW hj;simp only[W2,Bool.or_eq_true,af,ag]at hb;simp only[fT,Bool.or_eq_true,af,eL];rcases hb with h|⟨e,h⟩
 ·exact .inl (JC hW (i:=(aU m i).a.toNat) (j:=(aU m j).a.toNat) aa aa)
 refine .inr ⟨?_,JC hW (i:=(aU m i).b.toNat) (j:=(aU m j).b.toNat) aa aa⟩;show fC l (aU m i).a=fC l (aU m j).a;rw[e]
theorem aI8 (hp:fE l m n=true):(∀ i,i<2*m.length->aG (cQ l m).of i=aG (bG l m).face i)/\(cQ l m).faces=(bG l m).many/\vC (cQ l m)=(nC (bG l m)&&decide (1<=(bG l m).many)):=by
 obtain⟨h1,h2⟩:=QV hp (2*m.length) (ah _);have e:bG l m=bR l (bA l m m.length) (outs l m) (2*m.length):=by
  unfold bG ZW;rw[bT]
 have k1:(cQ l m).faces=(bG l m).many:=(by rw[e];exact h1.many);have k2:(cQ l m).outside=(bG l m).out:=(by rw[e];exact h1.out);have k3:(cQ l m).ok=!(bG l m).flat:=(by rw[e];exact h1.ok);refine⟨fun i hi=>?_,k1,?_⟩
 ·rw[e];rcases h1.of i hi with⟨_,_,h⟩|⟨h,_⟩
  ·exact h
  rw[h2 i hi]at h;cases h
 unfold vC nC;rw[k1,k2,k3];cases decide ((bG l m).out=1) <;> cases(bG l m).flat <;> cases decide (1<=(bG l m).many) <;> rfl
theorem N6 (m:List Ed){a b:List Int}(h:∀ i,i<2*m.length->aG a i=aG b i):∀ k,k<=m.length->wP m a k=wP m b k
 |0,_=>rfl
 |k+1,hk=>by
  unfold wP;rw[N6 m h k aa,h (2*k) aa,h (2*k+1) aa]
end
section
variable {l:List gC}
def sgT (p:gC):Sg:=(p.a,p.b)
theorem aGk (h:Good l){i:Nat}(hi:i<l.length):bB (aQ l) (aR l) i=sgT (gF l (aG (cL l) i).toNat):=aRr h hi
theorem aIH (h:Good l){i k:Nat}(hi:i<l.length)(hk:k<l.length)(hne:i≠k):(aG (cL l) i).toNat≠(aG (cL l) k).toNat:=fun e=>by
 have hx:=lP h hi;have hy:=lP h hk;have hn:(cL l).Nodup:=(yS h).2.symm.nodup (JU _);have hl:=gU l;exact hne (CV hn (i:=i) (j:=k) aa aa aa)
theorem aF5 (h:Good l)(h3:3<=l.length):eO (aQ l) (aR l) 1=true:=by
 have hw:=YL h;have hel:=m4 l;simp only[lG,eO,szW,XW,af,ag]at hw ⊢;exact⟨⟨⟨⟨⟨hw.1.1.1,aa⟩,hw.1.2⟩,aa⟩,aa⟩,hw.2⟩
theorem aM3 (h:Good l)(h3:3<=l.length)(hm:∀ i k,i<l.length->k<l.length->i≠k->dW (sgT (gF l i)) (sgT (gF l k))=0\/dW (sgT (gF l i)) (sgT (gF l k))=1):fE (aQ l) (aR l) 1=true:=by
 have hel:=m4 l;unfold fE;rw[aF5 h h3,Bool.true_and];refine eN fun i hi=>eN fun k hk=>?_;unfold EH;rw[aGk h (i:=i) aa,aGk h (i:=k) aa,Bool.or_eq_true,ag,ag];have hx:=lP h (i:=i) aa;have hy:=lP h (i:=k) aa;exact hm _ _ aa aa (aIH h aa aa aa)
theorem aD1 (h:Good l){P:List Rt}(hP:(l.map HO).Perm P)(hm:∀ i k,i<l.length->k<l.length->i≠k->dW (sgT (gF l i)) (sgT (gF l k))=0\/dW (sgT (gF l i)) (sgT (gF l k))=1)(hmany:(bG (aQ l) (aR l)).many<=100) :
  (CM l=0↔(mK (tB P) (oL P)=true/\vC (cQ (tB P) (oL P))=true/\3<=P.length))/\(CM l=0->SB (tB P) (oL P)=lQ l/\mdN (tB P) (oL P)=(bG (aQ l) (aR l)).many):=by
 have hlen:P.length=l.length:=(by rw[<- hP.length_eq,List.length_map]);have hpos:=h.pos;have hfew:=h.few;rw[X2 h hP,aHe h hP];have hX:CM l=oQ l:=if_neg aa;rw[hX];by_cases h3:3<=l.length
 ·have hp:=aM3 h h3 hm;have hok:=eC hp;have hel:=m4 l;have hcon:=aFo hok;obtain⟨f1,f2,f3⟩:=aI8 hp;have hlim:¬(400<(aQ l).length\/100<(bG (aQ l) (aR l)).many):=aa;constructor
  ·constructor
   ·intro h0;cases hc:sU (aQ l) (aR l)with
    |false=>rw[MB hc]at h0;cases h0
    |true =>
     rw[hcon]at hc;by_cases hb:nC (bG (aQ l) (aR l))=false\/(bG (aQ l) (aR l)).many<1\/l.length<3
     ·rw[L4 (by rw[hcon];exact hc) hlim hb]at h0;cases h0
     refine⟨hc,?_,aa⟩;rw[f3];have hb1:nC (bG (aQ l) (aR l))=true:=by
      cases hq:nC (bG (aQ l) (aR l))with
      |true=>rfl
      |false=>exact absurd (.inl hq) hb
     rw[hb1,ai ((aa:1<=(bG (aQ l) (aR l)).many))];rfl
   rintro⟨hc,hf,_⟩;rw[f3,af,ag]at hf;refine aFP (by rw[hcon];exact hc) hlim ?_;rintro(hb|hb|hb)
   ·rw[hf.1]at hb;cases hb
   ·omega
   omega
  intro h0;have hc:mK (aQ l) (aR l)=true:=by
   cases hc:sU (aQ l) (aR l)with
   |false=>rw[MB hc]at h0;cases h0
   |true=>rw[<- hcon];exact hc
  refine⟨?_,?_⟩
  ·unfold SB lQ;rw[if_pos hc];exact N6 _ f1 _ (ah _)
  unfold mdN;rw[if_pos hc,f2]
 have hne:oQ l≠0:=fun h0=>by
  cases hc:sU (aQ l) (aR l)with
  |false=>rw[MB hc]at h0;cases h0
  |true =>
   have hlim:¬(400<(aQ l).length\/100<(bG (aQ l) (aR l)).many):=aa;rw[L4 hc hlim (.inr (.inr aa))]at h0;cases h0
 exact⟨⟨fun h0=>absurd h0 hne,fun h0=>by omega⟩,fun h0=>absurd h0 hne⟩
end
set_option maxHeartbeats 4000000
def XI (N c:Nat):Value:=ak 0 N c
def Z3 (P:List Rt):Heap:=[(2,dK),(1,dK),(0,au 5 (flat z9.fl P))]
def FF (P L:List Rt):Heap:=(3,aq 5 (flat z9.fl L))::Z3 P
def EB (N c:Nat)(v:Value):List (Nat × Value):=[(0,XI N c),(2,pV 1),(6,pV 2),(7,v)]
def wN (N c:Nat)(v:Value)(b j:Int):List (Nat × Value):=(8,iv b)::(9,iv j)::EB N c v
def rN (P L:List Rt)(p q:Value):Heap:=[(2,aq 1 [p,q,iv 0]),(3,aq 5 (flat z9.fl L)),(1,dK),(0,au 5 (flat z9.fl P))]
def aNS (N:Nat)(j:Int):List (Nat × Value):=[(2,pV 1),(6,pV 2),(7,bX 3 N),(10,iv j)]
def aGU (N:Nat)(j:Int):List (Nat × Value):=[(2,pV 1),(6,pV 2),(7,bX 3 N),(11,iv j)]
def aOq:List (Nat × XF):=[aFL,aFX,aC9,aAG,aAi]
theorem uC {α:Type}(E:El α){l:List α}{e:Option Int}{h:Heap}{nx:Nat}{K:KE}(hl:0<l.length)(hk:K (mH e (ak nx l.length l.length)) (cO h nx (.cells true false E.sz (flat E.fl l))) (nx+1)):aGH E l e h nx K:=by
 cases l with
 |nil=>cases hl
 |cons a r=>exact hk
theorem C8 {l:List Pt}{p:Pt}{t:Nat}(hlen:l.length<=1000000):aBk l ([(t,Value.agg #[iv p.1,iv p.2]).snd].append #[].toList)=some (true,decide (0<=mJ l p),oD l p):=by
 show some (decide (l.length<=1000000),_)=_;rw[ai hlen]
theorem aGz (p:Pt):decide (0<=mJ [] p)=false:=rfl
theorem aLk {P L:List Rt}{i:Nat}(h:0<L.length/\fT (atR L (L.length - 1)) (atR P i)=false):dI P L (i+1)=dI P L i:=if_pos h
theorem R9 {P L:List Rt}{i:Nat}(h:¬(0<L.length/\fT (atR L (L.length - 1)) (atR P i)=false))(h2:dI P L i<0\/fT (atR P i) (atR P (dI P L i).toNat)=true):dI P L (i+1)=i:=by
 rw[dI,if_neg h,if_pos h2]
theorem aH4 {P L:List Rt}{i:Nat}(h:¬(0<L.length/\fT (atR L (L.length - 1)) (atR P i)=false))(h2:¬(dI P L i<0\/fT (atR P i) (atR P (dI P L i).toNat)=true)):dI P L (i+1)=dI P L i:=by
 rw[dI,if_neg h,if_neg h2]
def PO (P L:List Rt)(Q:List Pt)(r:Value):Heap:=(4,aq 2 (flat aX.fl Q))::rN P L (bX 4 Q.length) r
def aNo (j:Int):List (Nat × Value):=[(2,pV 1),(6,pV 2),(13,pV 7),(14,iv j)]
def aFb (Q:List Pt)(M:List Ed)(st:Fst)(t:Nat):Heap:=[(5,aq 5 (flat bS.fl M)),(2,aq 1 [bX 4 Q.length,bX 5 t,iv st.faces]),(7,aq 1 [ak 6 st.of.length st.of.length,iv st.faces,.bool (vC st)]),(6,aq 1 (flat aW.fl st.of)),(4,aq 2 (flat aX.fl Q)),(1,dK)]
theorem CH {Q:List Pt}{L:List Rt}{i:Nat}(h:i<=L.length):(edR Q L i).length=i:=by unfold edR;rw[List.length_map,List.length_take];omega
theorem aKm (Q:List Pt)(L:List Rt){i:Nat}(h:i<L.length):edR Q L (i+1)=edR Q L i++[⟨mJ Q (atR L i).1.1,mJ Q (atR L i).1.2,0,0,(atR L i).2⟩]:=by
 unfold edR;rw[List.take_add_one,List.getElem?_eq_getElem h,List.map_append,nO h];rfl
def vMd (Q:List Pt)(E:List Ed)(F:Int)(j f r:Bool):Value:=.tuple #[.agg #[bX 0 Q.length,bX 1 E.length,iv F],.bool j,.bool f,.bool r]
def hMd (Q:List Pt)(E:List Ed):Heap:=[(0,aq 2 (flat aX.fl Q)),(1,aq 5 (flat bS.fl E))]
def aP8 (a b:Nat):Nat->Nat
 |0=>a
 |1=>b
 |k=>k
theorem aHd {Q:List Pt}{E:List Ed}{F:Int}{j f r:Bool}{a b:Nat}{h:Heap}{nx N:Nat}(ha:aw h a=some (aq 2 (flat aX.fl Q)))(hb:aw h b=some (aq 5 (flat bS.fl E)))(hn:Nat.beq a b=false)(hN:E.length=N):BX (vMd Q E F j f r) (hMd Q E) 2 (.tuple #[.agg #[bX a Q.length,bX b N,iv F],.bool j,.bool f,.bool r]) h nx:=by
 subst hN;refine⟨aP8 a b,fun t u hu=>?_,fun k o hk=>?_,fun k k' o o' hk hk' e=>?_,fun k hk=>absurd hk (Nat.not_lt_zero k),aa⟩
 ·have hm:=aT hu;simp only[List.mem_cons,List.not_mem_nil,or_false]at hm;injection hm with e1 e2;subst e1 e2;refine⟨by simp[vMd,bX,fJ,tr,eK,cF,eM,j4,aP8];rfl,?_⟩;have hsl:∀{q a b:Nat},q<2->wM 2 (.slice (some ⟨q,0,none⟩) a b):=fun{q a b} hq=>⟨hq,fun h=>by cases h⟩;exact ae.2 ⟨ae.2 ⟨hsl aa,ae.2 ⟨hsl aa,ae.2 ⟨bM rfl,fun _ h=>(by cases h)⟩⟩⟩,ae.2 ⟨dH (bM rfl),ae.2 ⟨dH (bM rfl),ae.2 ⟨dH (bM rfl),fun _ h=>(by cases h)⟩⟩⟩⟩
 ·have hm:=aT hk;unfold hMd at hm;simp only[List.mem_cons,List.not_mem_nil,or_false]at hm;rcases hm with h|h
  ·injection h with e1 e2;subst e1 e2;exact⟨aa,_,ha,aE (aC _ _)⟩
  injection h with e1 e2;subst e1 e2;exact⟨aa,_,hb,aE (aC _ _)⟩
 have hm:=aT hk;have hm':=aT hk';unfold hMd at hm hm';simp only[List.mem_cons,List.not_mem_nil,or_false]at hm hm';have hn':a≠b:=fun e=>(by rw[e,Nat.beq_refl]at hn;cases hn);rcases hm with h|h <;> rcases hm' with h'|h' <;> (injection h with e1 e2;injection h' with e3 e4;subst e1 e3;first|rfl|exact absurd e hn'|exact absurd e.symm hn')
def mdT (Q:List Pt)(E:List Ed)(F:Int):Bool:=decide (Q.length<=400)&&(decide (E.length<=400)&&decide (F<=100))
def aPE (P:List Rt):KE:=fun v h nx=>∃ Q E,Q=tB P/\E=oL P/\((mK Q E=false/\BX (vMd Q E 0 false false false) (hMd Q E) 2 v h nx)\/(mK Q E=true/\∃ f st,st=cQ Q E/\f=mdT Q E st.faces/\BX (vMd Q (wP E st.of E.length) st.faces true f (vC st)) (hMd Q (wP E st.of E.length)) 2 v h nx))
theorem w52 (P:List Rt)(c:Nat)(hN:1<=P.length/\P.length<=400)(hS:MX P)(hM:jS (tB P) (oL P)=true):aGr aOq 52 [XI P.length c] [(0,au 5 (flat z9.fl P))] 1 (aPE P):=by
 unfold XI;(conv=>whnf);refine⟨fun q e h nx=>∃ k:Nat,k<=P.length/\q=P.length - k/\((k=0/\e=EB P.length c aI/\h=Z3 P/\nx=3)\/(0<k/\∃ s L,L=kX P k/\s=L.length/\e=EB P.length c (bX 3 s)/\h=FF P L/\nx=4)),⟨P.length,?_⟩,?_⟩
 ·exact aJ (h0:=Z3 P) (n0:=3) ⟨0,Nat.zero_le _,rfl,.inl ⟨rfl,rfl,rfl,rfl⟩⟩
 rintro q e h nx ⟨k0,hk0,rfl,⟨hz,rfl,rfl,rfl⟩|⟨hkp,k,L,hL,hk,rfl,rfl,rfl⟩⟩
 ·subst hz;unfold EB XI Z3 dK aI;((conv=>whnf);apply bm<;>intro h0);rotate_left
  ·exfalso;simp[cN,aB,aF]at h0;rw[h0]at hN;simp at hN
  clear h0;(conv=>whnf);refine⟨fun q e h nx=>∃(i:Nat) (j:Int),j=i/\i<=P.length/\q=P.length - i/\e=wN P.length c aI (dI P [] i) j/\h=(Z3 P)/\nx=3,⟨P.length,?_⟩,?_⟩
  ·exact aJ (h0:=(Z3 P)) (n0:=3) ⟨0,0,rfl,Nat.zero_le _,rfl,rfl,rfl,rfl⟩
  rintro q e h nx ⟨i,j,hj,hi,rfl,rfl,rfl,rfl⟩;have hbl:=R0 P [] i;unfold wN EB XI;unfold Z3 dK aI;((conv=>whnf);apply bm<;>intro h1);rotate_left
  ·have hge:i=P.length:=(by simp[cN,aB,aF]at h1;omega);subst hge;have hb0:=hS 0 aa;have hb0:0<=dI P [] P.length:=hb0;((conv=>whnf);apply bm<;>intro h2)
   ·exfalso;simp[cN,aB,aF]at h2;omega
   repeat' first
    |(((conv=>whnf);apply bm<;>intro g))
    |((conv=>whnf)
      refine eZ (U9 P (i:=(dI P [] P.length).toNat) aa ?_) ?_
      ·show _+Int.toNat (dI P [] P.length)*5=_;omega)
   all_goals first
    |(exfalso;simp[cN,aB,aF]at g;omega)
    |skip
   (conv=>whnf);refine⟨P.length - (0+1),aa,?_⟩;refine bC (h0:=FF P (kX P (0+1))) (n0:=4) [(3,4)] ⟨0+1,aa,aa,.inr ⟨aa,_,_,rfl,(qJ P _).symm,rfl,rfl,rfl⟩⟩ (hh:=?_)
   ·unfold FF Z3 dK aI;refine ae.2 ⟨⟨ab,_,rfl,aK (aC z9 _) ?_⟩,?_⟩
    ·rfl
    exact xH
  have hlt:i<P.length:=(by simp[cN,aB,aF]at h1;omega);have hno:¬(0<([]:List Rt).length/\fT (atR [] (([]:List Rt).length - 1)) (atR P i)=false):=fun h=>(by simp at h);((conv=>whnf);apply bm<;>intro h4);rotate_left
  ·have h4:dI P [] i<0:=(by simp[cN,aB,aF]at h4;omega);((conv=>whnf);apply bm<;>intro h7)
   ·(conv=>whnf);refine⟨P.length - (i+1),aa,?_⟩;refine aJ (e0:=wN P.length c aI (dI P [] (i+1)) (j+1)) (h0:=(Z3 P)) (n0:=3) ⟨i+1,j+1,aa,aa,rfl,rfl,rfl,rfl⟩ (he:=?_)
    ·rw[R9 hno (.inl h4),<- hj];unfold wN EB XI;(try unfold bX);(try unfold aI);exact xE
   exfalso;simp[cN,aB,aF,aN]at h7;omega
  have h4:¬ dI P [] i<0:=(by simpa[cN,aB,aF]using h4);((conv=>whnf);apply bm<;>intro h5);rotate_left
  ·exfalso;simp[cN,aB,aF]at h5;omega
  (conv=>whnf);refine eZ (U9 P (i:=i) aa (by show _+Int.toNat j*5=_;omega)) ?_;((conv=>whnf);apply bm<;>intro h5);rotate_left
  ·exfalso;simp[cN,aB,aF]at h5;omega
  (conv=>whnf);refine eZ (U9 P (i:=(dI P [] i).toNat) aa (by show _+Int.toNat (dI P [] i)*5=_;omega)) ?_;((conv=>whnf);apply bm<;>intro h6)
  ·have h6:fT (atR P i) (atR P (dI P [] i).toNat)=true:=h6;((conv=>whnf);apply bm<;>intro h7)
   ·(conv=>whnf);refine⟨P.length - (i+1),aa,?_⟩;refine aJ (e0:=wN P.length c aI (dI P [] (i+1)) (j+1)) (h0:=(Z3 P)) (n0:=3) ⟨i+1,j+1,aa,aa,rfl,rfl,rfl,rfl⟩ (he:=?_)
    ·rw[R9 hno (.inr h6),<- hj];unfold wN EB XI;(try unfold bX);(try unfold aI);exact xE
   exfalso;simp[cN,aB,aF,aN]at h7;omega
  have h6:fT (atR P i) (atR P (dI P [] i).toNat)=false:=h6;((conv=>whnf);apply bm<;>intro h7)
  ·(conv=>whnf);refine⟨P.length - (i+1),aa,?_⟩;refine aJ (e0:=wN P.length c aI (dI P [] (i+1)) (j+1)) (h0:=(Z3 P)) (n0:=3) ⟨i+1,j+1,aa,aa,rfl,rfl,rfl,rfl⟩ (he:=?_)
   ·rw[aH4 hno (fun h=>h.elim h4 (fun h=>by rw[h6]at h;cases h))];unfold wN EB XI;(try unfold bX);(try unfold aI);exact xE
  exfalso;simp[cN,aB,aF,aN]at h7;omega
 obtain rfl:k=k0:=(by rw[hk,hL,qJ]);unfold EB XI FF Z3 dK aI bX;((conv=>whnf);apply bm<;>intro h0)
 ·have hkl:k<P.length:=(by simp[cN,aB,aF]at h0;omega);clear h0;(conv=>whnf);refine⟨fun q e h nx=>∃(i:Nat) (j:Int),j=i/\i<=P.length/\q=P.length - i/\e=wN P.length c (bX 3 k) (dI P L i) j/\h=(FF P L)/\nx=4,⟨P.length,?_⟩,?_⟩
  ·exact aJ (h0:=(FF P L)) (n0:=4) ⟨0,0,rfl,Nat.zero_le _,rfl,rfl,rfl,rfl⟩
  rintro q e h nx ⟨i,j,hj,hi,rfl,rfl,rfl,rfl⟩;have hbl:=R0 P L i;unfold wN EB XI;unfold FF Z3 dK aI bX;((conv=>whnf);apply bm<;>intro h1);rotate_left
  ·have hge:i=P.length:=(by simp[cN,aB,aF]at h1;omega);subst hge;have hb0:=hS k aa;rw[<- hL]at hb0;((conv=>whnf);apply bm<;>intro h2)
   ·exfalso;simp[cN,aB,aF]at h2;omega
   repeat' first
    |((conv=>whnf)
      refine YX (k:=k) ?_)
    |(((conv=>whnf);apply bm<;>intro g))
    |((conv=>whnf)
      refine eZ (U9 P (i:=(dI P L P.length).toNat) aa ?_) ?_
      ·show _+Int.toNat (dI P L P.length)*5=_;omega)
   all_goals first
    |(exfalso;simp[cN,aB,aF]at g;omega)
    |exact iP (by rw[aO,<- hk];rfl) aa g
    |skip
   (conv=>whnf);refine⟨P.length - (k+1),aa,?_⟩;refine bC (h0:=FF P (kX P (k+1))) (n0:=4) [(3,5)] ⟨k+1,aa,aa,.inr ⟨aa,_,_,rfl,(qJ P _).symm,rfl,rfl,rfl⟩⟩ (hh:=?_)
   ·unfold FF Z3 dK aI;refine ae.2 ⟨⟨ab,_,rfl,aK (aC z9 _) ?_⟩,?_⟩
    ·show _=flat z9.fl (kX P k++[_]);rw[<- hL];have hg:=cT z9 L (atR P (dI P L P.length).toNat) (n:=k) hk;rw[<- hg];rfl
    exact xH
  have hlt:i<P.length:=(by simp[cN,aB,aF]at h1;omega);((conv=>whnf);apply bm<;>intro h2);rotate_left
  ·exfalso;simp[cN,aB,aF,aN]at h2;omega
  ((conv=>whnf);apply bm<;>intro hs);rotate_left
  ·exfalso;simp[cN,aB,aF,aN]at hs;omega
  ((conv=>whnf);apply bm<;>intro hx);rotate_left
  ·exfalso;simp[cN,aB,aF]at hx;omega
  (conv=>whnf);refine eZ (U9 L (i:=k - 1) aa ?_) ?_
  ·show 0+Int.toNat ((k:Int) - 1)*5=(k - 1)*5;omega
  ((conv=>whnf);apply bm<;>intro h3);rotate_left
  ·exfalso;simp[cN,aB,aF]at h3;omega
  (conv=>whnf);refine eZ (U9 P (i:=i) aa (by show _+Int.toNat j*5=_;omega)) ?_;((conv=>whnf);apply bm<;>intro h4)
  ·have h4:(!fT (atR L (k - 1)) (atR P i))=true:=h4;have h4:fT (atR L (L.length - 1)) (atR P i)=false:=(by rw[<- hk];simpa using h4);((conv=>whnf);apply bm<;>intro h7)
   ·(conv=>whnf);refine⟨P.length - (i+1),aa,?_⟩;refine aJ (e0:=wN P.length c (bX 3 k) (dI P L (i+1)) (j+1)) (h0:=(FF P L)) (n0:=4) ⟨i+1,j+1,aa,aa,rfl,rfl,rfl,rfl⟩ (he:=?_)
    ·rw[aLk ⟨aa,h4⟩];unfold wN EB XI;(try unfold bX);(try unfold aI);exact xE
   exfalso;simp[cN,aB,aF,aN]at h7;omega
  have h4:(!fT (atR L (k - 1)) (atR P i))=false:=h4;have hno:¬(0<L.length/\fT (atR L (L.length - 1)) (atR P i)=false):=fun h=>(by rw[<- hk]at h;rw[h.2]at h4;cases h4);clear h4;((conv=>whnf);apply bm<;>intro h4);rotate_left
  ·have h4:dI P L i<0:=(by simp[cN,aB,aF]at h4;omega);((conv=>whnf);apply bm<;>intro h7)
   ·(conv=>whnf);refine⟨P.length - (i+1),aa,?_⟩;refine aJ (e0:=wN P.length c (bX 3 k) (dI P L (i+1)) (j+1)) (h0:=(FF P L)) (n0:=4) ⟨i+1,j+1,aa,aa,rfl,rfl,rfl,rfl⟩ (he:=?_)
    ·rw[R9 hno (.inl h4),<- hj];unfold wN EB XI;(try unfold bX);(try unfold aI);exact xE
   exfalso;simp[cN,aB,aF,aN]at h7;omega
  have h4:¬ dI P L i<0:=(by simpa[cN,aB,aF]using h4);((conv=>whnf);apply bm<;>intro h5);rotate_left
  ·exfalso;simp[cN,aB,aF]at h5;omega
  (conv=>whnf);refine eZ (U9 P (i:=i) aa (by show _+Int.toNat j*5=_;omega)) ?_;((conv=>whnf);apply bm<;>intro h5);rotate_left
  ·exfalso;simp[cN,aB,aF]at h5;omega
  (conv=>whnf);refine eZ (U9 P (i:=(dI P L i).toNat) aa (by show _+Int.toNat (dI P L i)*5=_;omega)) ?_;((conv=>whnf);apply bm<;>intro h6)
  ·have h6:fT (atR P i) (atR P (dI P L i).toNat)=true:=h6;((conv=>whnf);apply bm<;>intro h7)
   ·(conv=>whnf);refine⟨P.length - (i+1),aa,?_⟩;refine aJ (e0:=wN P.length c (bX 3 k) (dI P L (i+1)) (j+1)) (h0:=(FF P L)) (n0:=4) ⟨i+1,j+1,aa,aa,rfl,rfl,rfl,rfl⟩ (he:=?_)
    ·rw[R9 hno (.inr h6),<- hj];unfold wN EB XI;(try unfold bX);(try unfold aI);exact xE
   exfalso;simp[cN,aB,aF,aN]at h7;omega
  have h6:fT (atR P i) (atR P (dI P L i).toNat)=false:=h6;((conv=>whnf);apply bm<;>intro h7)
  ·(conv=>whnf);refine⟨P.length - (i+1),aa,?_⟩;refine aJ (e0:=wN P.length c (bX 3 k) (dI P L (i+1)) (j+1)) (h0:=(FF P L)) (n0:=4) ⟨i+1,j+1,aa,aa,rfl,rfl,rfl,rfl⟩ (he:=?_)
   ·rw[aH4 hno (fun h=>h.elim h4 (fun h=>by rw[h6]at h;cases h))];unfold wN EB XI;(try unfold bX);(try unfold aI);exact xE
  exfalso;simp[cN,aB,aF,aN]at h7;omega
 have hkl:k=P.length:=(by simp[cN,aB,aF]at h0;omega);(conv=>whnf);clear h0;refine⟨fun q e h nx=>∃(i:Nat) (j:Int),j=i/\i<=k/\q=k - i/\e=aNS k j/\((i=0/\h=rN P L aI aI/\nx=4)\/(0<i/\∃ s Q,Q=ptR L i/\s=Q.length/\h=(4,aq 2 (flat aX.fl Q))::rN P L (bX 4 s) aI/\nx=5)),⟨k,?_⟩,?_⟩
 ·exact aJ (h0:=rN P L aI aI) (n0:=4) ⟨0,0,rfl,Nat.zero_le _,rfl,rfl,.inl ⟨rfl,rfl,rfl⟩⟩
 rintro q e h nx ⟨i,j,hj,hi,rfl,rfl,⟨hi0,rfl,rfl⟩|⟨hip,s,Q,hQ,hs,rfl,rfl⟩⟩
 ·subst hi0;unfold aNS rN dK aI bX;((conv=>whnf);apply bm<;>intro h1);rotate_left
  ·exfalso;simp[cN,aB,aF]at h1;omega
  ((conv=>whnf);apply bm<;>intro h2);rotate_left
  ·exfalso;simp[cN,aB,aF]at h2;omega
  (conv=>whnf);refine eZ (aAH L (i:=0) aa (by show _+Int.toNat j*5=_;omega)) ?_;(conv=>whnf);refine⟨[],⟨rfl,rfl,rfl⟩,rfl,?_⟩;rw[C8 (Nat.zero_le _),aGz];refine aM rfl ?_;refine uC aX (by rw[qK];omega) ?_;have hq1:oD [] (atR L 0).1.1=oU [] (atR L 0).1.1:=(if_neg (fun h=>absurd (show(0:Int)<=-1 from h) (by decide))).symm;rw[hq1];generalize hQ1:oU [] (atR L 0).1.1=Q1;have hl1:Q1.length<=2:=(by rw[<- hQ1];have:=KV [] (atR L 0).1.1;simp at this;omega);have hn1:ptR L (0+1)=oU Q1 (atR L 0).1.2:=(by rw[<- hQ1];rfl);((conv=>whnf);apply bm<;>intro h3);rotate_left
  ·exfalso;simp[cN,aB,aF]at h3;omega
  (conv=>whnf);refine eZ (UW L (i:=0) aa (by show _+Int.toNat j*5+2=_;omega)) ?_;(conv=>whnf);refine⟨Q1,aP aX rfl,Nat.beq_refl _,?_⟩;rw[C8 aa];refine aM rfl ?_;by_cases hd:0<=mJ Q1 (atR L 0).1.2
  ·rw[ai hd];have hQ2:oU Q1 (atR L 0).1.2=Q1:=if_pos hd;((conv=>whnf);apply bm<;>intro h4)
   ·(conv=>whnf);refine⟨k - (0+1),aa,?_⟩;refine bC (h0:=(4,aq 2 (flat aX.fl (Q1)))::rN P L (bX 4 Q1.length) aI) (n0:=5) [] ⟨0+1,j+1,aa,aa,rfl,rfl,.inr ⟨aa,Q1.length,_,by rw[hn1,hQ2],rfl,rfl,rfl⟩⟩ (hh:=?_)
    ·unfold rN dK aI bX;refine ae.2 ⟨⟨ab,_,rfl,aE (aC aX _)⟩,?_⟩;exact xH
   exfalso;simp[cN,aB,aF,aN]at h4;omega
  rw[aj hd];refine uC aX (by rw[qK];omega) ?_;have hQ2:oU Q1 (atR L 0).1.2=oD Q1 (atR L 0).1.2:=if_neg hd;((conv=>whnf);apply bm<;>intro h4)
  ·(conv=>whnf);refine⟨k - (0+1),aa,?_⟩;refine bC (h0:=(4,aq 2 (flat aX.fl (oD Q1 (atR L 0).1.2)))::rN P L (bX 4 (oD Q1 (atR L 0).1.2).length) aI) (n0:=5) [(4,5)] ⟨0+1,j+1,aa,aa,rfl,rfl,.inr ⟨aa,(oD Q1 (atR L 0).1.2).length,_,by rw[hn1,hQ2],rfl,rfl,rfl⟩⟩ (hh:=?_)
   ·unfold rN dK aI bX;refine ae.2 ⟨⟨ab,_,rfl,aE (aC aX _)⟩,?_⟩;exact xH
  exfalso;simp[cN,aB,aF,aN]at h4;omega
 have hQl:=aAt L i;rw[<- hQ,<- hs]at hQl;have hn1:ptR L (i+1)=oU (oU Q (atR L i).1.1) (atR L i).1.2:=(by rw[ptR,<- hQ]);unfold aNS rN dK aI bX;((conv=>whnf);apply bm<;>intro h1)
 ·have hlt:i<k:=(by simp[cN,aB,aF]at h1;omega);((conv=>whnf);apply bm<;>intro h2);rotate_left
  ·exfalso;simp[cN,aB,aF]at h2;omega
  (conv=>whnf);refine eZ (aAH L (i:=i) aa (by show _+Int.toNat j*5=_;omega)) ?_;(conv=>whnf);refine⟨Q,by rw[hs];exact aP aX rfl,Nat.beq_refl _,?_⟩;rw[C8 aa];refine aM rfl ?_;by_cases hd1:0<=mJ Q (atR L i).1.1
  ·rw[ai hd1];have hQ1:oU Q (atR L i).1.1=Q:=if_pos hd1;rw[hQ1]at hn1;((conv=>whnf);apply bm<;>intro h3);rotate_left
   ·exfalso;simp[cN,aB,aF]at h3;omega
   (conv=>whnf);refine eZ (UW L (i:=i) aa (by show _+Int.toNat j*5+2=_;omega)) ?_;(conv=>whnf);refine⟨Q,by rw[hs];exact aP aX rfl,Nat.beq_refl _,?_⟩;rw[C8 aa];refine aM rfl ?_;by_cases hd:0<=mJ Q (atR L i).1.2
   ·rw[ai hd];have hQ2:oU Q (atR L i).1.2=Q:=if_pos hd;((conv=>whnf);apply bm<;>intro h4)
    ·(conv=>whnf);refine⟨k - (i+1),aa,?_⟩;refine bC (h0:=(4,aq 2 (flat aX.fl (Q)))::rN P L (bX 4 s) aI) (n0:=5) [] ⟨i+1,j+1,aa,aa,rfl,rfl,.inr ⟨aa,s,_,by rw[hn1,hQ2],hs,rfl,rfl⟩⟩ (hh:=?_)
     ·unfold rN dK aI bX;refine ae.2 ⟨⟨ab,_,rfl,aE (aC aX _)⟩,?_⟩;exact xH
    exfalso;simp[cN,aB,aF,aN]at h4;omega
   rw[aj hd];refine uC aX (by rw[qK];omega) ?_;have hQ2:oU Q (atR L i).1.2=oD Q (atR L i).1.2:=if_neg hd;((conv=>whnf);apply bm<;>intro h4)
   ·(conv=>whnf);refine⟨k - (i+1),aa,?_⟩;refine bC (h0:=(4,aq 2 (flat aX.fl (oD Q (atR L i).1.2)))::rN P L (bX 4 (oD Q (atR L i).1.2).length) aI) (n0:=5) [(4,5)] ⟨i+1,j+1,aa,aa,rfl,rfl,.inr ⟨aa,(oD Q (atR L i).1.2).length,_,by rw[hn1,hQ2],rfl,rfl,rfl⟩⟩ (hh:=?_)
    ·unfold rN dK aI bX;refine ae.2 ⟨⟨ab,_,rfl,aE (aC aX _)⟩,?_⟩;exact xH
   exfalso;simp[cN,aB,aF,aN]at h4;omega
  rw[aj hd1];refine uC aX (by rw[qK];omega) ?_;have hQ1:oU Q (atR L i).1.1=oD Q (atR L i).1.1:=if_neg hd1;have hl1:=qK Q (atR L i).1.1;rw[hQ1]at hn1;generalize oD Q (atR L i).1.1=Q1 at hn1 hl1;((conv=>whnf);apply bm<;>intro h3);rotate_left
  ·exfalso;simp[cN,aB,aF]at h3;omega
  (conv=>whnf);refine eZ (UW L (i:=i) aa (by show _+Int.toNat j*5+2=_;omega)) ?_;(conv=>whnf);refine⟨Q1,aP aX rfl,Nat.beq_refl _,?_⟩;rw[C8 aa];refine aM rfl ?_;by_cases hd:0<=mJ Q1 (atR L i).1.2
  ·rw[ai hd];have hQ2:oU Q1 (atR L i).1.2=Q1:=if_pos hd;((conv=>whnf);apply bm<;>intro h4)
   ·(conv=>whnf);refine⟨k - (i+1),aa,?_⟩;refine bC (h0:=(4,aq 2 (flat aX.fl (Q1)))::rN P L (bX 4 Q1.length) aI) (n0:=5) [(4,5)] ⟨i+1,j+1,aa,aa,rfl,rfl,.inr ⟨aa,Q1.length,_,by rw[hn1,hQ2],rfl,rfl,rfl⟩⟩ (hh:=?_)
    ·unfold rN dK aI bX;refine ae.2 ⟨⟨ab,_,rfl,aE (aC aX _)⟩,?_⟩;exact xH
   exfalso;simp[cN,aB,aF,aN]at h4;omega
  rw[aj hd];refine uC aX (by rw[qK];omega) ?_;have hQ2:oU Q1 (atR L i).1.2=oD Q1 (atR L i).1.2:=if_neg hd;((conv=>whnf);apply bm<;>intro h4)
  ·(conv=>whnf);refine⟨k - (i+1),aa,?_⟩;refine bC (h0:=(4,aq 2 (flat aX.fl (oD Q1 (atR L i).1.2)))::rN P L (bX 4 (oD Q1 (atR L i).1.2).length) aI) (n0:=5) [(4,6)] ⟨i+1,j+1,aa,aa,rfl,rfl,.inr ⟨aa,(oD Q1 (atR L i).1.2).length,_,by rw[hn1,hQ2],rfl,rfl,rfl⟩⟩ (hh:=?_)
   ·unfold rN dK aI bX;refine ae.2 ⟨⟨ab,_,rfl,aE (aC aX _)⟩,?_⟩;exact xH
  exfalso;simp[cN,aB,aF,aN]at h4;omega
 have hge:i=k:=(by simp[cN,aB,aF]at h1;omega);have hLe:L=mdL P:=(by rw[hL,hkl];rfl);have hQe:Q=tB P:=(by rw[hQ,hge,hk,hLe];rfl);have hkP:k=P.length:=hkl;clear h1 hn1 hj hi;subst hs;(conv=>whnf);refine⟨fun q e h nx=>∃(i:Nat) (j:Int),j=i/\i<=k/\q=k - i/\e=aGU k j/\((i=0/\h=PO P L Q aI/\nx=5)\/(0<i/\∃ t E,E=edR Q L i/\t=E.length/\h=(5,aq 5 (flat bS.fl E))::PO P L Q (bX 5 t)/\nx=6)),⟨k,?_⟩,?_⟩
 ·exact aJ (h0:=PO P L Q aI) (n0:=5) ⟨0,0,rfl,Nat.zero_le _,rfl,rfl,.inl ⟨rfl,rfl,rfl⟩⟩
 rintro q e h nx ⟨i',j',hj',hi',rfl,rfl,⟨hi0,rfl,rfl⟩|⟨hip',t,E,hE,ht,rfl,rfl⟩⟩
 ·subst hi0;unfold aGU PO rN dK aI bX;((conv=>whnf);apply bm<;>intro h1);rotate_left
  ·exfalso;simp[cN,aB,aF]at h1;omega
  repeat' first
   |(((conv=>whnf);apply bm<;>intro g))
   |((conv=>whnf)
     refine eZ (aAH L (i:=0) aa ?_) ?_
     ·show _+Int.toNat j'*5=_;omega)
   |((conv=>whnf)
     refine eZ (UW L (i:=0) aa ?_) ?_
     ·show _+Int.toNat j'*5+2=_;omega)
   |((conv=>whnf)
     refine fD (aCp L (i:=0) (k:=4) aa rfl ?_) ?_
     ·show _+Int.toNat j'*5+4=_;omega)
   |((conv=>whnf)
     refine⟨Q,aP aX rfl,?_⟩;refine aM (show decide (Q.length<=1000000)=true from ai aa) ?_)
  all_goals first
   |(exfalso;simp[cN,aB,aF,aN]at g;omega)
   |skip
  (conv=>whnf);refine⟨k - (0+1),aa,?_⟩;refine bC (e0:=aGU k (j'+1)) (h0:=(5,aq 5 (flat bS.fl (edR Q L 1)))::PO P L Q (bX 5 1)) (n0:=6) [(5,6)] ⟨1,_,aa,aa,rfl,rfl,.inr ⟨aa,1,_,rfl,by rw[CH aa],rfl,rfl⟩⟩ (hh:=?_)
  ·unfold PO rN dK aI bX;refine ae.2 ⟨⟨ab,_,rfl,aK (aC bS _) ?_⟩,ae.2 ⟨⟨ab,_,rfl,aE (aC aX _)⟩,?_⟩⟩
   ·rw[aKm Q L (i:=0) aa];rfl
   exact xH
 have htl:t=i':=(by rw[ht,hE,CH aa]);unfold aGU PO rN dK aI bX;((conv=>whnf);apply bm<;>intro h1)
 ·have hlt:i'<k:=by simp[cN,aB,aF]at h1;omega
  repeat' first
   |((conv=>whnf)
     refine YX (k:=t) ?_)
   |(((conv=>whnf);apply bm<;>intro g))
   |((conv=>whnf)
     refine eZ (aAH L (i:=i') aa ?_) ?_
     ·show _+Int.toNat j'*5=_;omega)
   |((conv=>whnf)
     refine eZ (UW L (i:=i') aa ?_) ?_
     ·show _+Int.toNat j'*5+2=_;omega)
   |((conv=>whnf)
     refine fD (aCp L (i:=i') (k:=4) aa rfl ?_) ?_
     ·show _+Int.toNat j'*5+4=_;omega)
   |((conv=>whnf)
     refine⟨Q,aP aX rfl,?_⟩;refine aM (show decide (Q.length<=1000000)=true from ai aa) ?_)
  all_goals first
   |(exfalso;simp[cN,aB,aF,aN]at g;omega)
   |exact iP (by rw[aO,<- ht];rfl) aa g
   |skip
  (conv=>whnf);refine⟨k - (i'+1),aa,?_⟩;refine bC (e0:=aGU k (j'+1)) (h0:=(5,aq 5 (flat bS.fl (edR Q L (i'+1))))::PO P L Q (bX 5 (t+1))) (n0:=6) [(5,7)] ⟨i'+1,_,aa,aa,rfl,rfl,.inr ⟨aa,t+1,_,rfl,by rw[CH aa,htl],rfl,rfl⟩⟩ (hh:=?_)
  ·unfold PO rN dK aI bX;refine ae.2 ⟨⟨ab,_,rfl,aK (aC bS _) ?_⟩,ae.2 ⟨⟨ab,_,rfl,aE (aC aX _)⟩,?_⟩⟩
   ·have hg:=cT bS E ⟨mJ Q (atR L i').1.1,mJ Q (atR L i').1.2,0,0,(atR L i').2⟩ (n:=t) ht;rw[aKm Q L (i:=i') aa,<- hE,<- hg];rfl
   exact xH
 have hge':i'=k:=(by simp[cN,aB,aF]at h1;omega);have hEe:E=oL P:=(by rw[hE,hge',hk,hQe,hLe];rfl);clear h1 hj' hi' hip' htl hge' hE;subst ht;have hMM:jS Q E=true:=(by rw[hQe,hEe];exact hM);have hQ1:1<=Q.length:=hQl.2 aa;have HC:E.length=k:=(by rw[hEe];show(edR (tB P) (mdL P) (mdL P).length).length=k;rw[CH (ah _),hk,hLe]);have hc1:(jS Q E&&decide (1<=Q.length))=true:=(by rw[hMM,ai hQ1];rfl);have hc2:(jS Q E&&decide (1<=E.length))=true:=(by rw[hMM,ai (aa:1<=E.length)];rfl);(conv=>whnf);refine⟨Q,E,aP aX rfl,aP bS rfl,?_⟩;refine aM hc1 ?_;((conv=>whnf);apply bm<;>intro b1);rotate_left
 ·exfalso;simp[cN,aB,aF]at b1;rw[b1]at HC;simp at HC;omega
 ((conv=>whnf);apply bm<;>intro b2)
 ·have b2:(!mK Q E)=true:=b2;have b2:mK Q E=false:=(by simpa using b2);(conv=>whnf);exact⟨Q,E,hQe,hEe,.inl ⟨b2,aHd (a:=4) (b:=5) rfl rfl rfl rfl⟩⟩
 have b2:(!mK Q E)=false:=b2;have b2:mK Q E=true:=(by simpa using b2);(conv=>whnf);refine⟨_,_,_,[],Q,E,rfl,aP aX rfl,aP bS rfl,?_⟩;refine aM hc2 ?_;have flen:(cQ Q E).of.length=2*E.length:=uJ Q E _;generalize hst:cQ Q E=st at flen;(conv=>whnf);clear hc1 hc2 b1;refine⟨fun q e h nx=>∃(i:Nat) (j:Int),j=i/\i<=E.length/\q=E.length - i/\e=aNo j/\h=aFb Q (wP E st.of i) st E.length/\nx=8,⟨E.length,?_⟩,?_⟩
 ·exact aJ (h0:=aFb Q (wP E st.of 0) st E.length) (n0:=8) ⟨0,0,rfl,Nat.zero_le _,rfl,rfl,rfl,rfl⟩
 rintro q e h nx ⟨i,j,hj,hi,rfl,rfl,rfl,rfl⟩;have hgl:(wP E st.of i).length=E.length:=vJ _ _ _;unfold aNo aFb dK aI bX;((conv=>whnf);apply bm<;>intro h1);rotate_left
 ·have hge3:i=E.length:=(by simp[cN,aB,aF,hgl]at h1;omega);subst hge3;((conv=>whnf);apply bm<;>intro d1)
  ·have d1:Q.length<=400:=(by simp[cN,aB,aF]at d1;omega);((conv=>whnf);apply bm<;>intro d2)
   ·have d2:E.length<=400:=(by simp[cN,aB,aF]at d2;omega);(conv=>whnf);refine⟨Q,E,hQe,hEe,.inr ⟨b2,_,st,hst.symm,?_,aHd (a:=4) (b:=5) rfl rfl rfl hgl⟩⟩;unfold mdT;rw[ai d1,ai d2];rfl
   have d2:¬ E.length<=400:=(by simp[cN,aB,aF]at d2;omega);exact absurd (aa:E.length<=400) d2
  have d1:¬ Q.length<=400:=(by simp[cN,aB,aF]at d1;omega);(conv=>whnf);refine⟨Q,E,hQe,hEe,.inr ⟨b2,_,st,hst.symm,?_,aHd (a:=4) (b:=5) rfl rfl rfl hgl⟩⟩;unfold mdT;rw[aj d1];rfl
 have hlt:i<E.length:=by simp[cN,aB,aF,hgl]at h1;omega
 repeat' first
  |(((conv=>whnf);apply bm<;>intro g))
  |((conv=>whnf)
    refine fD (dY st.of (i:=2*i) aa ?_) ?_
    ·show _+Int.toNat (2*j)*1=_;omega)
  |((conv=>whnf)
    refine fD (dY st.of (i:=2*i+1) aa ?_) ?_
    ·show _+Int.toNat (2*j+1)*1=_;omega)
 all_goals first
  |(exfalso;simp[cN,aB,aF,aN,hgl]at g;omega)
  |(exfalso
    have hb:Nat.ble (0+Int.toNat j*5+2+1) (flat bS.fl (wP E st.of i)).length=true:=Nat.ble_eq_true_of_le (by rw[aO,hgl];show _<=E.length*5;omega);exact Bool.false_ne_true (g.symm.trans hb))
  |(exfalso
    have hb:Nat.ble (0+Int.toNat j*5+3+1) (bU (flat bS.fl (wP E st.of i)) (0+Int.toNat j*5+2) [iv (aG st.of (2*i))]).length=true:=Nat.ble_eq_true_of_le (by
     rw[cG (by rw[aO,hgl];show 0+Int.toNat j*5+2+1<=E.length*5;omega),aO,hgl];show _<=E.length*5;omega)
    exact Bool.false_ne_true (g.symm.trans hb))
  |skip
 (conv=>whnf);refine⟨E.length - (i+1),aa,?_⟩;refine aJ (e0:=aNo (j+1)) (h0:=aFb Q (wP E st.of (i+1)) st E.length) (n0:=8) ⟨i+1,_,aa,aa,rfl,rfl,rfl,rfl⟩ (hh:=?_)
 ·unfold aFb dK bX aI;refine ae.2 ⟨⟨ab,_,rfl,aK (aC _ _) ?_⟩,?_⟩
  ·show bU (bU (flat bS.fl (wP E st.of i)) (0+Int.toNat j*5+2) [iv (aG st.of (2*i))]) (0+Int.toNat j*5+3) [iv (aG st.of (2*i+1))]=_;rw[(aa:0+Int.toNat j*5+2=i*5+2),(aa:0+Int.toNat j*5+3=i*5+3),WO _ _ _ _ aa,wP,aFJ _ _ (ah i)]
  exact xH
set_option maxHeartbeats 2000000
def aJr:Value:=.tuple #[.agg #[aI,aI,iv 0],.bool false,.bool false,.bool false]
theorem aSb (c:Nat):aFf [inX 129] 4 52 [ak 0 0 c] [(0,au 5 [])] 1 (fun v h nx=>v=aJr):=by
 (conv=>whnf);rfl
def vMn (nx:Nat)(Q:List Pt)(E:List Ed)(F:Int)(j f r:Bool):Value:=.tuple #[.agg #[bX nx Q.length,bX (nx+1) E.length,iv F],.bool j,.bool f,.bool r]
theorem aJk (nx:Nat)(Q:List Pt)(E:List Ed)(F:Int)(j f r:Bool):fJ (fun k=>nx+k) (vMd Q E F j f r)=vMn nx Q E F j f r:=by
 unfold vMd vMn;generalize Q.length=x1;generalize E.length=x2;simp[bX,fJ,tr,eK,cF,eM,j4]
 first|rfl|exact⟨rfl,rfl⟩
def mdU (Q:List Pt)(E:List Ed):Bool:=mK Q E&&mdT Q E (cQ Q E).faces
def mdR (Q:List Pt)(E:List Ed):Bool:=mK Q E&&vC (cQ Q E)
def aQr:XF:=fun args h nx K=>∃ P v,args=[v]/\eY z9 h v P/\(1<=P.length/\P.length<=400)/\MX P/\jS (tB P) (oL P)=true /\
 K (vMn nx (tB P) (SB (tB P) (oL P)) (mdN (tB P) (oL P)) (mK (tB P) (oL P)) (mdU (tB P) (oL P)) (mdR (tB P) (oL P))) (app (nK nx (hMd (tB P) (SB (tB P) (oL P)))) h) (nx+2)
def aOJ:XF:=fun args h nx K=>∃ v,args=[v]/\eY z9 h v []/\K aJr h nx
theorem aJ2:lA aOq:=.cons aOx (.cons aOr (.cons aKJ (.cons aL0 (.cons aKT .nil))))
theorem aRU:c7 Tryz.prog 52 aQr:=by
 refine(eJ (S:=fun args0 h0 n0 v1 h1 j=>∃ P c,(1<=P.length/\P.length<=400)/\MX P/\jS (tB P) (oL P)=true/\args0=[XI P.length c]/\h0=[(0,.cells false true z9.sz (flat z9.fl P))]/\n0=1 /\
  v1=vMd (tB P) (SB (tB P) (oL P)) (mdN (tB P) (oL P)) (mK (tB P) (oL P)) (mdU (tB P) (oL P)) (mdR (tB P) (oL P))/\h1=hMd (tB P) (SB (tB P) (oL P))/\j=2) (SP aJ2) ?_).mono ?_ ?_
 ·rintro args0 h0 n0 v1 h1 j ⟨P,c,hb,hs,hM,rfl,rfl,rfl,rfl,rfl,rfl⟩;refine⟨rfl,_,w52 P c hb hs hM,fun v h nx e=>?_⟩;obtain⟨Q,E,rfl,rfl,⟨hc,he⟩|⟨hc,f,st,rfl,rfl,he⟩⟩:=e
  ·rw[SB,mdN,mdU,mdR,hc];exact he
  rw[SB,mdN,mdU,mdR,hc];exact he
 ·rintro args h nx K ⟨P,v,rfl,hl,hb,hs,hM,hx⟩;refine⟨_,_,1,_,_,_,⟨P,oO v,hb,hs,hM,rfl,rfl,rfl,rfl,rfl,rfl⟩,A8 z9 hl,?_⟩;rw[aJk];exact hx
 rintro args h nx K ⟨P,v,rfl,hl,hb,hs,hM,hx⟩;exact⟨_,_,_,hx,fun K' hk=>⟨P,v,rfl,hl,hb,hs,hM,hk⟩⟩
theorem aSA:c7 Tryz.prog 52 aOJ:=by
 refine(eJ (S:=fun args0 h0 n0 v1 h1 j=>∃ c,args0=[ak 0 0 c]/\h0=[(0,.cells false true z9.sz [])]/\n0=1/\v1=aJr/\h1=[]/\j=0) (yJ (xl:=[inX 129]) (.cons (M7 _) .nil) 4) ?_).mono ?_ ?_
 ·rintro args0 h0 n0 v1 h1 j ⟨c,rfl,rfl,rfl,rfl,rfl,rfl⟩;exact⟨rfl,_,aSb c,fun v h nx e=>by rw[e];exact gM rfl⟩
 ·rintro args h nx K ⟨v,rfl,hl,hx⟩;refine⟨_,_,1,_,[],0,⟨oO v,rfl,rfl,rfl,rfl,rfl,rfl⟩,A8 z9 hl,?_⟩;rw[lJ rfl];exact hx
 rintro args h nx K ⟨v,rfl,hl,hx⟩;exact⟨_,_,_,hx,fun K' hk=>⟨v,rfl,hl,hk⟩⟩
def X52:Nat × XF:=(52,fun a h n K=>aQr a h n K\/aOJ a h n K)
theorem x52:c7 Tryz.prog X52.1 X52.2:=aGv aRU aSA
def wF (l:List Pt)(m:List Ed)(s:Sg)(i:Nat):Bool:=OnR s.1 (bB l m i)&&OnR s.2 (bB l m i)
def M1 (l:List Pt)(m:List Ed)(s:Sg):Nat->Nat->Int
 |0,_=>-1
 |k+1,i=>if wF l m s i=true then i else M1 l m s k (i+1)
def vO (l:List Pt)(m:List Ed)(s:Sg):Int:=M1 l m s m.length 0
theorem aAU (l:List Pt)(m:List Ed)(s:Sg):∀ k i,-1<=M1 l m s k i/\M1 l m s k i<((i+k:Nat):Int)
 |0,i=>by unfold M1;omega
 |k+1,i=>by
  have:=aAU l m s k (i+1);unfold M1;split <;> omega
theorem aJq (l:List Pt)(m:List Ed)(s:Sg) : -1<=vO l m s/\vO l m s<m.length:=by
 have:=aAU l m s m.length 0;unfold vO;omega
def S53 (l:List Pt)(m:List Ed)(n:Int):List Value->Option (Bool × Value)
 |[v]=>(match aDg v with|some s=>some (jS l m,iv (vO l m s))|none=>none)
 |_=>none
theorem aK9 {l:List Pt}{m:List Ed}{n:Int}{r:List Value}{v:Value}(h:S53 l m n r=some (true,v)):∃ s,r=[sgv s]/\jS l m=true/\v=iv (vO l m s):=by
 unfold S53 at h;split at h
 ·rename_i u;split at h
  ·rename_i s hs;injection h with h;injection h with h1 h2;exact⟨s,by rw[II hs],h1,h2.symm⟩
  ·cases h
 ·cases h
def e53 (j:Int):List (Nat × Value):=[(2,pV 2),(3,pV 3),(5,iv j)]
def h53 (l:List Pt)(m:List Ed)(c1 c2:Nat)(n:Int)(s:Sg):Heap:=(3,aq 1 [iv s.1.1,iv s.1.2,iv s.2.1,iv s.2.2])::cM l m c1 c2 n
def aNm:Nat × XF:=(53,mX aX bS S53)
theorem aSs:c7 Tryz.prog aNm.1 aNm.2:=xF aX bS (aL (xl:=[aFz,X21]) (.cons aNr (.cons x21 .nil))) fun l m n r v hs=>by
 obtain⟨s,rfl,hM,rfl⟩:=aK9 hs;clear hs;have hml:m.length<=1000:=by
  have hM':=hM;simp only[jS,af,ag]at hM';exact hM'.1.2
 obtain⟨⟨x1,y1⟩,x2,y2⟩:=s;refine⟨rfl,rfl,fun c1 c2=>?_⟩;(conv=>whnf);refine⟨fun q e h nx=>∃(i:Nat) (j:Int),j=i/\i<=m.length/\q=m.length - i/\vO l m ((x1,y1),(x2,y2))=M1 l m ((x1,y1),(x2,y2)) (m.length - i) i/\e=e53 j/\h=h53 l m c1 c2 n ((x1,y1),(x2,y2))/\nx=4,⟨m.length,?_⟩,?_⟩
 ·exact aJ (h0:=h53 l m c1 c2 n ((x1,y1),(x2,y2))) (n0:=4) ⟨0,0,rfl,Nat.zero_le _,rfl,rfl,rfl,rfl,rfl⟩
 rintro q e h nx ⟨i,j,hj,hi,rfl,hb,rfl,rfl,rfl⟩;unfold e53 h53 cM dU aS;((conv=>whnf);apply bm<;>intro h1)
 ·have hlt:i<m.length:=(by simp[aB,aF]at h1;omega);have hok:(jS l m&&(decide (0<=j)&&decide (j<m.length)))=true:=(by rw[hM,ai (aa:0<=j),ai (aa:j<m.length)];rfl);have hjn:j.toNat=i:=aa;rw[(aa:m.length - i=(m.length - (i+1))+1),M1]at hb;(conv=>whnf);refine⟨l,m,aP aX rfl,aP bS rfl,aM hok ?_⟩;(conv=>whnf);refine⟨l,m,aP aX rfl,aP bS rfl,aM hok ?_⟩;rw[hjn];((conv=>whnf);apply bm<;>intro h3)
  ·have h3:OnR (x1,y1) (bB l m i)=true:=(by simpa[aB,aF]using h3);((conv=>whnf);apply bm<;>intro h4)
   ·have h4:OnR (x2,y2) (bB l m i)=true:=(by rw[hjn]at h4;exact h4);(conv=>whnf);rw[hb,if_pos (show wF l m ((x1,y1),(x2,y2)) i=true by unfold wF;rw[h3,h4];rfl),hj]
   have h4:OnR (x2,y2) (bB l m i)=false:=(by rw[hjn]at h4;exact h4);(conv=>whnf);refine bt ?_;(conv=>whnf);refine⟨m.length - (i+1),aa,?_⟩;exact aJ (h0:=h53 l m c1 c2 n ((x1,y1),(x2,y2))) (n0:=4) ⟨i+1,j+1,aa,hlt,rfl,by rw[hb,if_neg (show ¬ wF l m ((x1,y1),(x2,y2)) i=true by unfold wF;rw[h4,Bool.and_false];decide)],rfl,rfl,rfl⟩
  have h3:OnR (x1,y1) (bB l m i)=false:=(by simpa[aB,aF]using h3);(conv=>whnf);refine bt ?_;(conv=>whnf);refine⟨m.length - (i+1),aa,?_⟩;exact aJ (h0:=h53 l m c1 c2 n ((x1,y1),(x2,y2))) (n0:=4) ⟨i+1,j+1,aa,hlt,rfl,by rw[hb,if_neg (show ¬ wF l m ((x1,y1),(x2,y2)) i=true by unfold wF;rw[h3,Bool.false_and];decide)],rfl,rfl,rfl⟩
 have hge:i=m.length:=(by simp[aB,aF]at h1;omega);(conv=>whnf);rw[hb,(aa:m.length - i=0)];rfl
def uL (C:List Int)(a b:Int):Nat->List Int
 |0=>C
 |f+1=>if aG (uL C a b f) f=a\/aG (uL C a b f) f=b then(uL C a b f).set f (WH a b)else uL C a b f
theorem tW (C:List Int)(a b:Int):∀ f,(uL C a b f).length=C.length
 |0=>rfl
 |f+1=>by
  unfold uL;split
  ·rw[List.length_set];exact tW C a b f
  exact tW C a b f
theorem CU {C:List Int}{a b:Int}{f:Nat}(h:aG (uL C a b f) f=a\/aG (uL C a b f) f=b):uL C a b (f+1)=(uL C a b f).set f (WH a b):=if_pos h
theorem aBZ {C:List Int}{a b:Int}{f:Nat}(h:¬(aG (uL C a b f) f=a\/aG (uL C a b f) f=b)):uL C a b (f+1)=uL C a b f:=if_neg h
def lC (m:List Ed)(ln:Int)(N:Nat):Nat->List Int
 |0=>fM N
 |i+1=>if(aU m i).n=ln then uL (lC m ln N i) (aG (lC m ln N i) (aU m i).l.toNat) (aG (lC m ln N i) (aU m i).r.toNat) N else lC m ln N i
theorem yC (m:List Ed)(ln:Int)(N:Nat):∀ i,(lC m ln N i).length=N
 |0=>eH N
 |i+1=>by
  unfold lC;split
  ·rw[tW];exact yC m ln N i
  exact yC m ln N i
theorem MN {m:List Ed}{ln:Int}{N i:Nat}(h:(aU m i).n=ln):lC m ln N (i+1)=uL (lC m ln N i) (aG (lC m ln N i) (aU m i).l.toNat) (aG (lC m ln N i) (aU m i).r.toNat) N:=if_pos h
theorem RA {m:List Ed}{ln:Int}{N i:Nat}(h:¬(aU m i).n=ln):lC m ln N (i+1)=lC m ln N i:=if_neg h
def G6 (l:List Pt)(m:List Ed)(ln:Int):Nat->List Rt
 |0=>[]
 |i+1=>if(aU m i).n=ln then G6 l m ln i else G6 l m ln i++[(bB l m i,(aU m i).n)]
theorem VZ (l:List Pt)(m:List Ed)(ln:Int):∀ i,(G6 l m ln i).length<=i
 |0=>ah _
 |i+1=>by
  have:=VZ l m ln i;unfold G6;split
  ·omega
  rw[List.length_append];show _+1<=_;omega
theorem QN {l:List Pt}{m:List Ed}{ln:Int}{i:Nat}(h:(aU m i).n=ln):G6 l m ln (i+1)=G6 l m ln i:=if_pos h
theorem JP {l:List Pt}{m:List Ed}{ln:Int}{i:Nat}(h:¬(aU m i).n=ln):G6 l m ln (i+1)=G6 l m ln i++[(bB l m i,(aU m i).n)]:=if_neg h
def qA (cls L:List Int)(a b nl nr:Int):Nat->List Int
 |0=>L
 |f+1=>if aG cls f=b then((if aG cls f=a then(qA cls L a b nl nr f).set f nl else qA cls L a b nl nr f)).set f nr else(if aG cls f=a then(qA cls L a b nl nr f).set f nl else qA cls L a b nl nr f)
theorem D9 (cls L:List Int)(a b nl nr:Int):∀ f,(qA cls L a b nl nr f).length=L.length
 |0=>rfl
 |f+1=>by
  have:=D9 cls L a b nl nr f;unfold qA;split <;> split <;> (try simp only[List.length_set]) <;> exact this
def QK (cls:List Int)(l:List Pt)(m:List Ed)(Q:List Pt)(F:List Ed)(N:Nat):Nat->List Int
 |0=>List.replicate N 0
 |i+1=>qA cls (QK cls l m Q F N i) (aG cls (aU m (vO l m (bB Q F i)).toNat).l.toNat) (aG cls (aU m (vO l m (bB Q F i)).toNat).r.toNat) (aU F i).l (aU F i).r N
theorem DL (cls:List Int)(l:List Pt)(m:List Ed)(Q:List Pt)(F:List Ed)(N:Nat):∀ i,(QK cls l m Q F N i).length=N
 |0=>List.length_replicate
 |i+1=>by unfold QK;rw[D9];exact DL cls l m Q F N i
def rP (l:List Pt)(m:List Ed)(ln:Int):List Rt:=G6 l m ln m.length
def C1 (P:List Rt):Bool:=decide (P.length=0) || (!mK (tB P) (oL P) || (!vC (cQ (tB P) (oL P)) || decide (P.length<3)))
def E3 (l:List Pt)(m:List Ed)(n ln:Int):Int:=if sP l m n=false\/ln<0\/200<=ln then 1 else if(rP l m ln).length=m.length then 5 else if C1 (rP l m ln)=true then 20 else 0
def z8 (l:List Pt)(m:List Ed)(ln:Int):List Pt:=tB (rP l m ln)
def KQ (l:List Pt)(m:List Ed)(ln:Int):List Ed:=SB (tB (rP l m ln)) (oL (rP l m ln))
def rwO (l:List Pt)(m:List Ed)(ln:Int)(N:Nat):List Int:=QK (lC m ln N m.length) l m (z8 l m ln) (KQ l m ln) N (KQ l m ln).length
theorem aBT (P:List Rt):(oL P).length=P.length:=by
 show(edR (tB P) (mdL P) (mdL P).length).length=_;rw[CH (ah _)];exact qJ P P.length
theorem aBl (Q:List Pt)(E:List Ed):(SB Q E).length=E.length:=by
 unfold SB;split
 ·exact vJ _ _ _
 rfl
def vW3 (a b N:Nat)(F:Int):Value:=.tuple #[.agg #[bX 0 a,bX 1 b,iv F],bX 2 N,iv 0]
def hW3 (Q:List Pt)(E:List Ed)(out:List Int):Heap:=[(0,aq 2 (flat aX.fl Q)),(1,aq 5 (flat bS.fl E)),(2,aq 1 (flat aW.fl out))]
def ro3 (a b c:Nat):Nat->Nat
 |0=>a
 |1=>b
 |2=>c
 |k=>k
theorem aOv {Q:List Pt}{E:List Ed}{out:List Int}{F:Int}{a b c:Nat}{h:Heap}{nx s t N:Nat}(ha:aw h a=some (aq 2 (flat aX.fl Q)))(hb:aw h b=some (aq 5 (flat bS.fl E)))(hc:aw h c=some (aq 1 (flat aW.fl out)))(hab:Nat.beq a b=false)(hac:Nat.beq a c=false)(hbc:Nat.beq b c=false):BX (vW3 s t N F) (hW3 Q E out) 3 (.tuple #[.agg #[bX a s,bX b t,iv F],bX c N,iv 0]) h nx:=by
 have key:∀{x y:Nat},Nat.beq x y=false->x≠y:=fun hn e=>(by rw[e,Nat.beq_refl]at hn;cases hn);refine⟨ro3 a b c,fun t u hu=>?_,fun k o hk=>?_,fun k k' o o' hk hk' e=>?_,fun k hk=>absurd hk (Nat.not_lt_zero k),aa⟩
 ·have hm:=aT hu;simp only[List.mem_cons,List.not_mem_nil,or_false]at hm;injection hm with e1 e2;subst e1 e2;refine⟨by simp[vW3,bX,fJ,tr,eK,cF,eM,j4,ro3];rfl,?_⟩;have hsl:∀{q a b:Nat},q<3->wM 3 (.slice (some ⟨q,0,none⟩) a b):=fun{q a b} hq=>⟨hq,fun h=>by cases h⟩;exact ae.2 ⟨ae.2 ⟨hsl aa,ae.2 ⟨hsl aa,ae.2 ⟨bM rfl,fun _ h=>(by cases h)⟩⟩⟩,ae.2 ⟨hsl aa,ae.2 ⟨dH (bM rfl),fun _ h=>(by cases h)⟩⟩⟩
 ·have hm:=aT hk;unfold hW3 at hm;simp only[List.mem_cons,List.not_mem_nil,or_false]at hm;rcases hm with h|h|h
  ·injection h with e1 e2;subst e1 e2;exact⟨aa,_,ha,aE (aC _ _)⟩
  ·injection h with e1 e2;subst e1 e2;exact⟨aa,_,hb,aE (aC _ _)⟩
  injection h with e1 e2;subst e1 e2;exact⟨aa,_,hc,aE (aC _ _)⟩
 have hm:=aT hk;have hm':=aT hk';unfold hW3 at hm hm';simp only[List.mem_cons,List.not_mem_nil,or_false]at hm hm';have h1:=key hab;have h2:=key hac;have h3:=key hbc;rcases hm with h|h|h <;> rcases hm' with h'|h'|h' <;> (injection h with e1 e2;injection h' with e3 e4;subst e1 e3;first|rfl|exact absurd e h1|exact absurd e.symm h1|exact absurd e h2|exact absurd e.symm h2|exact absurd e h3|exact absurd e.symm h3)
structure OkR (l:List Pt) (m:List Ed) (n ln:Int):Prop where
 hM:jS l m=true
 hm:1<=m.length/\m.length<=400
 hn:0<=n/\n<=1000
 hF:∀ i,i<m.length->(0<=(aU m i).l/\(aU m i).l<=n)/\(0<=(aU m i).r/\(aU m i).r<=n)
 hS:MX (rP l m ln)
 hP:jS (z8 l m ln) (oL (rP l m ln))=true
 hO:jS (z8 l m ln) (KQ l m ln)=true
 hK:∀ i,i<(KQ l m ln).length->0<=vO l m (bB (z8 l m ln) (KQ l m ln) i)
def aOw (l:List Pt)(m:List Ed)(n ln:Int):KE:=fun v h nx=>(E3 l m n ln≠0/\v=HA (E3 l m n ln))\/(E3 l m n ln=0/\BX (vW3 (z8 l m ln).length (KQ l m ln).length (n+1).toNat (mdN (z8 l m ln) (oL (rP l m ln)))) (hW3 (z8 l m ln) (KQ l m ln) (rwO l m ln (n+1).toNat)) 3 v h nx)
theorem OZ {l:List Pt}{m:List Ed}{n ln:Int}(h:sP l m n=false\/ln<0\/200<=ln):E3 l m n ln=1:=if_pos h
theorem aQo {l:List Pt}{m:List Ed}{n ln:Int}(h:¬(sP l m n=false\/ln<0\/200<=ln))(h2:(rP l m ln).length=m.length):E3 l m n ln=5:=by unfold E3;rw[if_neg h,if_pos h2]
theorem RE {l:List Pt}{m:List Ed}{n ln:Int}(h:¬(sP l m n=false\/ln<0\/200<=ln))(h2:¬(rP l m ln).length=m.length)(h3:C1 (rP l m ln)=true):E3 l m n ln=20:=by unfold E3;rw[if_neg h,if_neg h2,if_pos h3]
theorem aPA {l:List Pt}{m:List Ed}{n ln:Int}(h:¬(sP l m n=false\/ln<0\/200<=ln))(h2:¬(rP l m ln).length=m.length)(h3:C1 (rP l m ln)=false):E3 l m n ln=0:=by unfold E3;rw[if_neg h,if_neg h2,if_neg (by rw[h3];decide)]
end Go.Aw
end
