/-
  Parts of a proof. No condition.
-/
import Derived.Test.YthgjfhncomhofaaGreatQAn
set_option linter.unusedSimpArgs false
set_option linter.unusedVariables false
noncomputable section
namespace Go.Aw
open Proofs
set_option maxRecDepth 100000
set_option maxHeartbeats 4000000
def LN (N:Nat)(j:Int):List (Nat × Value):=[(3,ao 3),(118,ak 5 N N),(119,iv N),(120,iv j)]
theorem aLc (l:List Pt)(m:List Ed)(n:Int)(c1 c2:Nat)(hl:l.length<=400)(hm3:1<=m.length)(hm:m.length<=400)(hM:jS l m=true)(hrg:∀ i,i<l.length->0<=(bI l i).1/\(bI l i).1<=10000/\0<=(bI l i).2/\(bI l i).2<=10000)
  (hW0:ZG (bA l m m.length)=true) (hlo:∀ s,s<l.length->(SW (bA l m m.length) s (2*m.length)).length≠0):body [(121,OE (zX 1000))] 125 [fH l.length m.length c1 c2 n] (aS aX bS l m) 2 (fun v h nx=>∃ ρ,mF 2 ρ [(0,ao 4)] (Q0 l m c1 c2 n (2*m.length) (bA l m m.length) (outs l m)) 2000 [(0,v)] h nx):=by
 (conv=>whnf);refine⟨aLz l m n c1 c2,aBb aEg uY (O4 l m n c1 c2 hl).h,?_⟩;rintro e h nx ⟨rfl,rfl,rfl⟩;unfold O9 oM aS;(conv=>whnf);refine⟨fun q e h nx=>∃(i:Nat) (j:Int),j=i/\i<=m.length/\q=m.length - i/\e=ML m c2 j/\((i=0/\h=oM l m c1 c2 n/\nx=6)\/(0<i/\(∃ k,k=2*i/\h=DC l m c1 c2 n k (bA l m i))/\nx=7)),⟨m.length,?_⟩,?_⟩
 ·refine aJ (h0:=oM l m c1 c2 n) (n0:=6) ⟨0,0,rfl,Nat.zero_le _,rfl,rfl,.inl ⟨rfl,rfl,rfl⟩⟩ (hh:=?_)
  ·unfold oM dU aS rZ aI;refine ae.2 ⟨⟨ab,_,rfl,aE (W1 _)⟩,?_⟩;exact xH
 rintro q e h nx ⟨i,j,hj,hi,rfl,rfl,⟨hi0,rfl,rfl⟩|⟨hip,⟨k,hk,rfl⟩,rfl⟩⟩
 ·subst hi0;unfold ML oM dU aS rZ;(conv=>whnf);refine bt ?_;have he:=nU hM (i:=0) aa;have pa:=hrg (aU m 0).a.toNat aa;have pb:=hrg (aU m 0).b.toNat aa
  repeat' first
   |(((conv=>whnf);apply bm<;>intro g))
   |((conv=>whnf)
     refine eZ (BE m (i:=0) aa ?_) ?_
     ·show _+Int.toNat j*5=_;omega)
   |((conv=>whnf)
     refine eZ (eU l (i:=(aU m 0).a.toNat) aa ?_) ?_
     ·show _+Int.toNat (aU m 0).a*2=_;omega)
   |((conv=>whnf)
     refine eZ (eU l (i:=(aU m 0).b.toNat) aa ?_) ?_
     ·show _+Int.toNat (aU m 0).b*2=_;omega)
  all_goals first
   |(exfalso;simp[aB,aF,aN]at g;omega)
   |(exfalso;simp[aB,aF]at g;rw[g]at hm3;simp at hm3)
   |skip
  (conv=>whnf);refine⟨m.length - 1,aa,?_⟩;refine bC (e0:=ML m c2 (j+1)) (h0:=DC l m c1 c2 n 2 (bA l m 1)) (n0:=7) [(6,10)] ⟨1,_,aa,aa,rfl,rfl,.inr ⟨Nat.one_pos,⟨2,rfl,rfl⟩,rfl⟩⟩ (hh:=?_)
  ·unfold DC dU aS rZ;refine ae.2 ⟨⟨ab,_,rfl,aK (aC _ _) (by subst hj;rfl)⟩,ae.2 ⟨⟨ab,_,rfl,aE (W1 _)⟩,?_⟩⟩;exact xH
 have hdl:=bT l m i;generalize hD:bA l m i=D at hdl;unfold ML DC dU aS rZ;((conv=>whnf);apply bm<;>intro h1)
 ·have hlt:i<m.length:=(by simp[aB,aF]at h1;omega);have he:=nU hM (i:=i) aa;have pa:=hrg (aU m i).a.toNat aa;have pb:=hrg (aU m i).b.toNat aa
  repeat' first
   |((conv=>whnf)
     refine bm2 (k:=k) ?_)
   |(((conv=>whnf);apply bm<;>intro g))
   |((conv=>whnf)
     refine eZ (BE m (i:=i) aa ?_) ?_
     ·show _+Int.toNat j*5=_;omega)
   |((conv=>whnf)
     refine eZ (eU l (i:=(aU m i).a.toNat) aa ?_) ?_
     ·show _+Int.toNat (aU m i).a*2=_;omega)
   |((conv=>whnf)
     refine eZ (eU l (i:=(aU m i).b.toNat) aa ?_) ?_
     ·show _+Int.toNat (aU m i).b*2=_;omega)
  all_goals first
   |(exfalso;simp[aB,aF,aN]at g;omega)
   |(exfalso;simp[aB,aF]at g;rw[g]at hm3;simp at hm3)
   |skip
  ·(conv=>whnf);refine⟨m.length - (i+1),aa,?_⟩;refine bC (e0:=ML m c2 (j+1)) (h0:=DC l m c1 c2 n (k+2) (bA l m (i+1))) (n0:=7) [(6,11)] ⟨i+1,_,aa,aa,rfl,rfl,.inr ⟨aa,⟨k+2,aa,rfl⟩,rfl⟩⟩ (hh:=?_)
   ·unfold DC dU aS rZ;refine ae.2 ⟨⟨ab,_,rfl,aK (aC _ _) ?_⟩,ae.2 ⟨⟨ab,_,rfl,aE (W1 _)⟩,?_⟩⟩
    ·rw[bA,hD];have hg:=KC wQ D (dA l m i) (dB l m i) (n:=k) aa;rw[<- hg];unfold dA dB;rw[<- hj];rfl
    exact xH
  exact aB6 (by rw[aO,hdl,hk];rfl) aa g
 have hge:i=m.length:=(by simp[aB,aF]at h1;omega);have hDe:D=bA l m m.length:=(by rw[<- hD,hge]);have hDk:D.length=k:=aa;clear hD hdl hip;(conv=>whnf);refine⟨fun q e h nx=>∃(i:Nat) (j:Int),j=i/\i<=k/\q=k - i/\e=v7 k j/\h=jA l m c1 c2 n k D (sD l.length D i) (tL l.length D i)/\nx=2000,⟨k,?_⟩,?_⟩
 ·refine aJ (h0:=jA l m c1 c2 n k D (sD l.length D 0) (tL l.length D 0)) (n0:=2000) ⟨0,0,rfl,Nat.zero_le _,rfl,rfl,rfl,rfl⟩ (hh:=?_)
  ·rw[show tL l.length D 0=List.replicate l.length []from rfl,aJy];unfold DC dU aS rZ;refine ae.2 ⟨⟨ab,_,rfl,aE (aC _ _)⟩,ae.2 ⟨⟨ab,_,rfl,aE (W1 _)⟩,?_⟩⟩;exact xH
 rintro q e h nx ⟨i,j,hj,hi,rfl,rfl,rfl,rfl⟩;by_cases hlt:i<k
 ·have hf:=oZ (l:=l) hM (i:=i) aa;rw[<- hDe]at hf;have hol:=qB l.length D i;have hle:=IP l.length D i (cV D i).fr.toNat fun i' hi'=>by
   have:=(oZ (l:=l) hM (i:=i') aa);rw[<- hDe]at this;omega
  have hnx:tL l.length D (i+1)=(tL l.length D i).set (cV D i).fr.toNat (cH (tL l.length D i) (cV D i).fr.toNat++[(cV D i).no]):=rfl;rw[show sD l.length D i=(cV D i).fr.toNat from if_pos aa];generalize tL l.length D i=ls at hol hnx hle ⊢;generalize hs:(cV D i).fr.toNat=s at hnx hle ⊢;by_cases h0:(cH ls s).length=0
  ·have ho7:op7 (cH ls s)=[]:=if_pos h0;have hvv:tV (tN s s) (cH ls s)=aI:=if_pos h0;have key:∀ o,o=s*1->nth (tC s ls) o=some aI:=fun o ho=>(by rw[LK aa ho,hvv]);unfold v7 jA dU rZ;rw[ho7]
   repeat' first
    |(((conv=>whnf);apply bm<;>intro g))
    |((conv=>whnf)
      refine eZ (aKl D (i:=i) aa ?_) ?_
      ·show _+Int.toNat j*5=_;omega)
    |((conv=>whnf)
      refine fD (key _ ?_) ?_
      ·show _+Int.toNat (cV D i).fr*1=_;omega)
   all_goals first
    |(exfalso;simp[aB,aF,aN]at g;omega)
    |(exfalso;simp[aB,aF]at g;rw[g]at hm3;simp at hm3)
    |(exfalso
      have hb:Nat.ble (0+Int.toNat (cV D i).fr*1+1) (tC s ls).length=true:=Nat.ble_eq_true_of_le (by rw[m8];omega);exact Bool.false_ne_true (g.symm.trans hb))
    |skip
   (conv=>whnf);refine⟨k - (i+1),aa,?_⟩;refine aKx (s:=s) (s':=sD l.length D (i+1)) (q:=1) (ls:=ls) (x:=(cV D i).no) (j:=j+1) (D:=D) (k:=k) (l:=l) (m:=m) (c1:=c1) (c2:=c2) (n:=n) aa aa ⟨i+1,j+1,aa,aa,rfl,rfl,congrArg (jA l m c1 c2 n k D (sD l.length D (i+1))) hnx.symm,rfl⟩ ?_ ?_ aa ?_ ?_ ?_
   ·unfold v7;exact ae.2 ⟨rfl,ae.2 ⟨rfl,ae.2 ⟨rfl,ae.2 ⟨rfl,fun _ h=>(by cases h)⟩⟩⟩⟩
   ·unfold v5 dU rZ;exact ae.2 ⟨rfl,ae.2 ⟨rfl,ae.2 ⟨rfl,ae.2 ⟨rfl,ae.2 ⟨rfl,ae.2 ⟨rfl,fun _ h=>(by cases h)⟩⟩⟩⟩⟩⟩
   ·show some (aq 1 (bU (tC s ls) (0+Int.toNat (cV D i).fr*1) [ak 2002 1 1]))=_;rw[T7 (i:=s) aa (by rw[m8];omega)]
   ·rw[List.eq_nil_of_length_eq_zero h0];rfl
   intro i1 a1 a2 a3
   repeat first
    |rw[mB _ _ aa]
    |rw[kQ _ _ aa]
    |rw[bJ aa]
     |rw[dO,if_neg aa]
   exact mU a2 a3 a1
  have ho7:op7 (cH ls s)=[(7,aq 1 (flat aW.fl (cH ls s)))]:=if_neg h0;generalize hq:(cH ls s).length=q at h0 hle;have hvv:tV (tN s s) (cH ls s)=ak 7 q q:=(by rw[tV,if_neg aa,tN,if_pos rfl,hq]);have hqk:q<=1000:=aa;have key:∀ o,o=s*1->nth (tC s ls) o=some (ak 7 q q):=fun o ho=>(by rw[LK aa ho,hvv]);unfold v7 jA dU rZ;rw[ho7]
  repeat' first
   |((conv=>whnf)
     refine YX (k:=q) ?_)
   |(((conv=>whnf);apply bm<;>intro g))
   |((conv=>whnf)
     refine eZ (aKl D (i:=i) aa ?_) ?_
     ·show _+Int.toNat j*5=_;omega)
   |((conv=>whnf)
     refine fD (key _ ?_) ?_
     ·show _+Int.toNat (cV D i).fr*1=_;omega)
  all_goals first
   |(exfalso;simp[aB,aF,aN]at g;omega)
   |(exfalso;simp[aB,aF]at g;rw[g]at hm3;simp at hm3)
   |(exfalso
     have hb:Nat.ble (0+Int.toNat (cV D i).fr*1+1) (tC s ls).length=true:=Nat.ble_eq_true_of_le (by rw[m8];omega);exact Bool.false_ne_true (g.symm.trans hb))
   |skip
  ·(conv=>whnf);refine⟨k - (i+1),aa,?_⟩;refine aKx (s:=s) (s':=sD l.length D (i+1)) (q:=q+1) (ls:=ls) (x:=(cV D i).no) (j:=j+1) (D:=D) (k:=k) (l:=l) (m:=m) (c1:=c1) (c2:=c2) (n:=n) aa aa ⟨i+1,j+1,aa,aa,rfl,rfl,congrArg (jA l m c1 c2 n k D (sD l.length D (i+1))) hnx.symm,rfl⟩ ?_ ?_ aa ?_ ?_ ?_
   ·unfold v7;exact ae.2 ⟨rfl,ae.2 ⟨rfl,ae.2 ⟨rfl,ae.2 ⟨rfl,fun _ h=>(by cases h)⟩⟩⟩⟩
   ·unfold v5 dU rZ;exact ae.2 ⟨rfl,ae.2 ⟨rfl,ae.2 ⟨rfl,ae.2 ⟨rfl,ae.2 ⟨rfl,ae.2 ⟨rfl,fun _ h=>(by cases h)⟩⟩⟩⟩⟩⟩
   ·show some (aq 1 (bU (tC s ls) (0+Int.toNat (cV D i).fr*1) [ak 2002 (q+1) (q+1)]))=_;rw[T7 (i:=s) aa (by rw[m8];omega)]
   ·have hg:=cT aW (cH ls s) (cV D i).no (n:=q) hq.symm;unfold ob;rw[<- hg];rfl
   intro i1 a1 a2 a3
   repeat first
    |rw[mB _ _ aa]
    |rw[kQ _ _ aa]
    |rw[bJ aa]
    |rw[dO,if_neg aa]
   show aw ((7,_)::tH s ls ls.length) _=_;rw[bJ aa];exact mU a2 a3 a1
  exact iP (by rw[aO,hq];rfl) aa g
 have hik:i=k:=aa;subst hik;clear hlt hi;rw[show sD l.length D i=l.length from if_neg aa];have hol:=qB l.length D i;have hfr:∀ i',i'<i->(cV D i').fr.toNat<l.length/\(cV D i').no=i':=fun i' hi'=>by
  have:=(oZ (l:=l) hM (i:=i') aa);rw[<- hDe]at this;omega
 have hout:∀ s,s<l.length->(cH (tL l.length D i) s).length≠0/\(cH (tL l.length D i) s).length<=1000/\inR D (cH (tL l.length D i) s)=true:=fun s hs=>by
  refine⟨?_,?_,?_⟩
  ·rw[IC i hfr s,hDe,(aa:i=2*m.length)];exact hlo s hs
  ·have:=IP l.length D i s fun i' hi'=>(hfr i' hi').1;omega
  rw[IC i hfr s];refine List.all_eq_true.2 fun x hx=>?_;obtain⟨i',h1,rfl,_⟩:=QM hx;simp only[af,ag];omega
 have hW:ZG D=true:=(by rw[hDe];exact hW0);generalize hlsE:tL l.length D i=ls at hol hout ⊢;unfold v7 jA dU rZ;((conv=>whnf);apply bm<;>intro h1)
 ·exfalso;simp[aB,aF]at h1;omega
 (conv=>whnf);refine⟨fun q e h nx=>∃(t:Nat) (j:Int),j=t/\t<=l.length/\q=l.length - t/\e=LN l.length j/\h=jA l m c1 c2 n i D l.length (srN D ls t)/\nx=2000,⟨l.length,?_⟩,?_⟩
 ·refine UE (e0:=LN l.length 0) (ls:=srN D ls 0) (by rw[vN];omega) (by rw[vN];omega) ⟨0,0,rfl,Nat.zero_le _,rfl,rfl,rfl,rfl⟩ ?_ ?_ rfl ?_
  ·unfold LN;exact xE
  ·unfold v5 dU rZ;exact ae.2 ⟨rfl,ae.2 ⟨rfl,ae.2 ⟨rfl,ae.2 ⟨rfl,ae.2 ⟨rfl,ae.2 ⟨rfl,fun _ h=>(by cases h)⟩⟩⟩⟩⟩⟩
  intro i1 a1 a2;rw[n8 aa]
  repeat rw[bJ aa]
  exact mU (by have:=vN D ls 0;omega) a2 a1
 rintro q e h nx ⟨t,j,hj,ht,rfl,rfl,rfl,rfl⟩;have hsl:=vN D ls t;have hat:=Y6 D ls (i:=t) aa;have hnx:srN D ls (t+1)=(srN D ls t).set t (kO D 1000 (cH ls t)):=rfl;generalize hls':srN D ls t=ls' at hsl hat hnx ⊢;by_cases hlt:t<l.length
 ·obtain⟨o1,o2,o3⟩:=hout t hlt;have hA:cH ls' t=cH ls t:=(by rw[hat,if_neg aa]);generalize hq:(cH ls t).length=q at o1 o2;have key:∀ o,o=t*1->nth (tC l.length ls') o=some (.slice (some ⟨t+1000,0,none⟩) q q):=fun o ho=>by
   rw[LK aa ho,tV,hA,if_neg aa,tN,if_neg aa,hq]
  have ho7:op7 (cH ls' l.length)=[]:=n8 aa;unfold LN jA dU rZ;rw[ho7]
  repeat' first
   |(((conv=>whnf);apply bm<;>intro g))
   |((conv=>whnf)
     refine fD (key _ ?_) ?_
     ·show _+Int.toNat j*1=_;omega)
  all_goals first
   |(exfalso;simp[aB,aF,aN]at g;omega)
   |skip
  (conv=>whnf);refine⟨t+1000,q,[],(3,0),cH ls t,.dirs D,by rw[hq];rfl,?_,?_,?_,?_⟩
  ·repeat rw[bJ aa]
   rw[<- hA];exact mU aa (by rw[hA,hq];exact o1) aa
  ·exact bD (bD (bD (bD (bD (bD (bD (PS _ _ _)))))))
  ·refine⟨4,6,0,1,true,false,1,[],true,false,1,[ak 5 l.length l.length,aI],true,false,5,flat wQ.fl D,l.length,c1,m.length,c2,n,i,?_,?_,?_,?_⟩
   ·rw[dO,if_neg aa];rfl
   ·rw[dO,if_neg aa,hDk];rfl
   ·rw[dO,if_neg aa];rfl
   exact List.take_length
  rw[aJx (by rw[hq];exact o2) aa o3 hW];refine aM rfl ?_;(conv=>whnf);refine bt ?_;(conv=>whnf);refine⟨l.length - (t+1),aa,?_⟩;have hlen:∀ i1,(cH (ls'.set t (kO D 1000 (cH ls t))) i1).length=(cH ls' i1).length:=fun i1=>by
   rw[yW _ aa];split
   ·rename_i e;rw[qQ,e,hA]
   rfl
  refine UE (e0:=LN l.length (j+1)) (ls:=ls'.set t (kO D 1000 (cH ls t))) (s:=l.length) (k:=i) (D:=D) (l:=l) (m:=m) (c1:=c1) (c2:=c2) (n:=n) (by rw[List.length_set];omega) (by rw[List.length_set];omega) ⟨t+1,j+1,aa,aa,rfl,rfl,congrArg (jA l m c1 c2 n i D l.length) hnx.symm,rfl⟩ ?_ ?_ ?_ ?_
  ·unfold LN;exact xE
  ·unfold v5 dU rZ;exact ae.2 ⟨rfl,ae.2 ⟨rfl,ae.2 ⟨rfl,ae.2 ⟨rfl,ae.2 ⟨rfl,ae.2 ⟨rfl,fun _ h=>(by cases h)⟩⟩⟩⟩⟩⟩
  ·rw[aGJ (List.length_set) (fun i1 _=>hlen i1)];rfl
  intro i1 a1 a2;rw[List.length_set]at a1;rw[hlen]at a2;rw[yW _ aa];by_cases e:i1=t
  ·rw[if_pos e,e,jP];rfl
  rw[if_neg e,mB _ _ aa]
  repeat rw[bJ aa]
  exact mU aa a2 a1
 unfold LN jA dU rZ;((conv=>whnf);apply bm<;>intro h1)
 ·exfalso;simp[aB,aF]at h1;omega
 (conv=>whnf);have htt:t=l.length:=aa;subst htt;have hi2:i=2*m.length:=aa;refine aEZ (k:=2*m.length) (D:=bA l m m.length) (ls:=outs l m) (s:=l.length) (by rw[fV];omega) (fV l m) ?_;unfold outs;rw[<- hDe,<- hi2,hlsE,hls'];rfl
theorem mF.low {b b':Nat}{ρ:Nat->Nat}{e0:List (Nat × Value)}{h0:Heap}{n0:Nat}{e:List (Nat × Value)}{h:Heap}{nx:Nat}(r:mF b ρ e0 h0 n0 e h nx)(hb:b'<=b):mF b' ρ e0 h0 n0 e h nx :=
 ⟨r.env,r.heap,r.inj,fun k hk=>r.fix k aa,Nat.le_trans hb r.le⟩
theorem aRT (l:List Pt)(m:List Ed)(n:Int)(c1 c2:Nat)(hok:eO l m n=true):body [(121,OE (zX 1000))] 125 [fH l.length m.length c1 c2 n] (aS aX bS l m) 2 (fun v h nx=>∃ ρ,mF 2 ρ [(0,ao 4)] (Q0 l m c1 c2 n (2*m.length) (bA l m m.length) (outs l m)) 2000 [(0,v)] h nx):=by
 have hsz:l.length<=400/\3<=m.length/\m.length<=400:=by
  simp only[eO,XW,af,ag]at hok;omega
 have hM:jS l m=true:=by
  simp only[eO,af]at hok;exact JT aa aa (fun i hi=>eR hok.2.1 hi) (fun i hi=>eR hok.2.2.1 hi)
 exact aLc l m n c1 c2 hsz.1 aa hsz.2.2 hM (fun i hi=>A1 (cE hok) hi) (TX (cE hok) hM) (fun s hs=>QO (cE hok) hs)
def oO:Value->Nat
 |.slice (some _) _ c=>c
 |_=>0
section
variable {α β:Type}(E:El α)(G:El β)
theorem A8 {h:Heap}{nx:Nat}{v:Value}{l:List α}(hl:eY E h v l):In [ak 0 l.length (oO v)] [(0,.cells false true E.sz (flat E.fl l))] 1 [v] h nx:=by
 unfold eY at hl;split at hl
 ·rename_i n c;obtain⟨rfl,rfl,rfl⟩:=hl;exact Q7 rfl true E.sz E.pos
 ·rename_i k o n c;obtain⟨rfl,wr,g,sz,cs,hk,hcs⟩:=hl;exact Z6 rfl hk hcs (aC E l) true E.sz E.pos
 exact hl.elim
theorem rQ {p q:Value}{n:Int}{r:List Value}(hr:fI r=true){h:Heap}{nx:Nat}{l:List α}{m:List β}(hl:eY E h p l)(hm:eY G h q m) :
  In (fH l.length m.length (oO p) (oO q) n::r) (aS E G l m) 2 (mapA p q n::r) h nx :=
 aGS hr (YO rfl rfl (A8 (nx:=nx) E hl) (A8 (nx:=nx) G hm) ⟨_,_,rfl,aC E l⟩ ⟨_,_,rfl,aC G m⟩) ⟨_,_,_,rfl⟩ ⟨_,_,_,rfl⟩
end
theorem w9 (s:Nat)(ls:List (List Int)):∀ n,fL (tH s ls n)=true
 |0=>rfl
 |n+1=>by
  unfold tH;split
  ·exact w9 s ls n
  exact w9 s ls n
theorem WI {l:List Pt}{m:List Ed}{c1 c2:Nat}{n:Int}{k:Nat}{D:List Dt}{ls:List (List Int)}:fL (Q0 l m c1 c2 n k D ls)=true:=w9 _ _ _
def aI9 (l:List Pt)(m:List Ed)(c1 c2:Nat)(n:Int):Heap:=Q0 l m c1 c2 n (2*m.length) (bA l m m.length) (outs l m)
def aB4:Nat × XF:=(125,fun args h nx K=>∃ l m n p q,args=[mapA p q n]/\eY aX h p l/\eY bS h q m/\eO l m n=true/\K (.pointer (some ⟨nx+4,0,none⟩)) (app (nK nx (aI9 l m (oO p) (oO q) n)) (iH h)) (nx+2000))
theorem aOC:c7 Tryz.prog aB4.1 aB4.2:=by
 refine(eJ (S:=fun args0 h0 n0 v1 h1 j=>∃ l m n c1 c2,eO l m n=true/\args0=[fH l.length m.length c1 c2 n]/\h0=aS aX bS l m/\n0=2/\v1=ao 4/\h1=aI9 l m c1 c2 n/\j=2000) (aL (xl:=[(121,OE (zX 1000))]) (.cons (TS 1000) .nil)) ?_).mono ?_ ?_
 ·rintro args0 h0 n0 v1 h1 j ⟨l,m,n,c1,c2,hok,rfl,rfl,rfl,rfl,rfl,rfl⟩;exact⟨WI,_,aRT l m n c1 c2 hok,fun v h nx ⟨ρ,r⟩=>⟨ρ,r.low (Nat.zero_le _)⟩⟩
 ·rintro args h nx K ⟨l,m,n,p,q,rfl,hl,hm,hok,hx⟩;exact⟨_,_,2,_,_,_,⟨l,m,n,oO p,oO q,hok,rfl,rfl,rfl,rfl,rfl,rfl⟩,rQ aX bS rfl hl hm,hx⟩
 rintro args h nx K ⟨l,m,n,p,q,rfl,hl,hm,hok,hx⟩;exact⟨_,_,_,hx,fun K' hk=>⟨l,m,n,p,q,rfl,hl,hm,hok,hk⟩⟩
def DP (x:Int):List Int->Nat->Int
 |[],_=>-1
 |b::r,i=>if x=b then i else DP x r (i+1)
def aNq (l:List Int):List Value->Option (Bool × Value)
 |[.int .i64 x]=>some (decide (l.length<=1000000),iv (DP x l 0))
 |_=>none
theorem aGw {l:List Int}{r:List Value}{v:Value}(hs:aNq l r=some (true,v)):∃ x,r=[iv x]/\l.length<=1000000/\v=iv (DP x l 0):=by
 unfold aNq at hs;split at hs
 ·rename_i x;injection hs with hs;injection hs with h1 h2;exact⟨x,rfl,by simpa using h1,h2.symm⟩
 ·cases hs
def aPB (x:Int)(l:List Int)(c:Nat)(j:Int):List (Nat × Value):=[(0,ak 0 l.length c),(1,iv x),(7,iv l.length),(8,iv j)]
def hIn (l:List Int):Heap:=[(0,au 1 (flat aW.fl l))]
def yB:Nat × XF:=(147,lX aW aNq)
theorem aPQ:c7 Tryz.prog yB.1 yB.2:=OV aW (aL (xl:=[]) .nil) fun l r v hs=>by
 obtain⟨x,rfl,hlen,rfl⟩:=aGw hs;refine⟨rfl,rfl,fun c=>?_⟩;(conv=>whnf);refine⟨fun q e h nx=>∃(i:Nat) (j:Int),j=i/\i<=l.length/\q=l.length - i/\DP x l 0=DP x (l.drop i) i/\e=aPB x l c j/\h=hIn l/\nx=1,⟨l.length,?_⟩,?_⟩
 ·exact aJ (h0:=hIn l) (n0:=1) ⟨0,0,rfl,Nat.zero_le _,rfl,rfl,rfl,rfl,rfl⟩
 rintro q e h nx ⟨i,j,hj,hi,rfl,hb,rfl,rfl,rfl⟩;unfold aPB hIn;((conv=>whnf);apply bm<;>intro h1)
 ·have hlt:i<l.length:=(by simp[aB,aF]at h1;omega);have hd:l.drop i=aG l i::l.drop (i+1):=(by rw[fK hlt];exact List.drop_eq_getElem_cons hlt);rw[hd,DP]at hb;(conv=>whnf);refine bt ?_;(conv=>whnf);refine fD (dY l (i:=i) hlt ?_) ?_
  ·show _+Int.toNat j*1=_;omega
  ((conv=>whnf);apply bm<;>intro h3)
  ·have h3:x=aG l i:=(by simpa[aB,aF]using h3);(conv=>whnf);rw[hb,if_pos h3,hj]
  have h3:¬ x=aG l i:=(by simpa[aB,aF]using h3);(conv=>whnf);refine bt ?_;(conv=>whnf);refine⟨l.length - (i+1),aa,?_⟩;exact aJ (h0:=hIn l) (n0:=1) ⟨i+1,j+1,aa,hlt,rfl,by rw[hb,if_neg h3],rfl,rfl,rfl⟩
 have hge:l.length<=i:=(by simp[aB,aF]at h1;omega);(conv=>whnf);rw[hb,List.drop_eq_nil_of_le hge];rfl
def fcV (k:Nat):Option (Nat × Nat)->Value
 |none=>aI
 |some (a,b)=>.slice (some ⟨k,0,none⟩) a b
theorem aBI {ρ:Nat->Nat}{k:Nat}{o:Option (Nat × Nat)}:cB ρ (fcV k o)=fcV (ρ k) o:=by
 cases o with
 |none=>rfl
 |some p=>rfl
theorem aGL {k n:Nat}{o:Option (Nat × Nat)}(h:k<n):wM n (fcV k o):=by
 cases o with
 |none=>exact bM rfl
 |some p=>exact⟨h,fun h=>by cases h⟩
def Y2 (k0 k1 kd kt kf:Nat)(nP nE nD nL c1 c2:Nat)(n:Int)(fo:Option (Nat × Nat)):List Value :=
 [.slice (some ⟨k0,0,none⟩) nP c1,.slice (some ⟨k1,0,none⟩) nE c2,iv n,.slice (some ⟨kd,0,none⟩) nD nD,.slice (some ⟨kt,0,none⟩) nL nL,fcV kf fo]
structure AM (h:Heap) (p k0 k1 kd kt kf:Nat) (nm:Nat->Nat) (l:List Pt) (D:List Dt) (ls:List (List Int)) (nE c1 c2:Nat) (n:Int) (fo:Option (Nat × Nat)):Prop where
 st:∃ wr g sz,aw h p=some (.cells wr g sz (Y2 k0 k1 kd kt kf l.length nE D.length ls.length c1 c2 n fo))
 pt:∃ wr g sz cs,aw h k0=some (.cells wr g sz cs)/\cs.take (flat aX.fl l).length=flat aX.fl l
 da:∃ wr g sz cs,aw h kd=some (.cells wr g sz cs)/\cs.take (flat wQ.fl D).length=flat wQ.fl D
 tb:∃ wr g sz,aw h kt=some (.cells wr g sz ((List.range ls.length).map fun i=>tV (nm i) (cH ls i)))
 li:∀ i,i<ls.length->(cH ls i).length≠0->∃ wr g sz cs,aw h (nm i)=some (.cells wr g sz cs)/\cs.take (flat aW.fl (cH ls i)).length=flat aW.fl (cH ls i)
def jI (l:List Pt)(D:List Dt)(ls:List (List Int))(nE c1 c2:Nat)(n:Int)(fo:Option (Nat × Nat))(s:Nat):Heap :=
 (0,av 1 (Y2 4 5 1 2 6 l.length nE D.length ls.length c1 c2 n fo))::(1,au 5 (flat wQ.fl D))::(2,av 1 (tC s ls))::(4,au 2 (flat aX.fl l))::(iH (op7 (cH ls s))++iH (tH s ls ls.length))
def rhW (p k0 k1 kd kt kf k3:Nat)(nm:Nat->Nat)(s:Nat)(k:Nat):Nat :=
 if 1000<=k then nm (k - 1000)else if k=0 then p else if k=1 then kd else if k=2 then kt else if k=3 then k3 else if k=4 then k0 else if k=5 then k1 else if k=6 then kf else nm s
theorem aKo {p k0 k1 kd kt kf k3:Nat}{nm:Nat->Nat}{s i:Nat}:rhW p k0 k1 kd kt kf k3 nm s (tN s i)=nm i:=by
 unfold tN;split
 ·rename_i e;rw[e];rfl
 unfold rhW;rw[if_pos aa,Nat.add_sub_cancel]
theorem O5 {h:Heap}{k:Nat}{o:bV}(hm:(k,o)∈iH h):∃ o',(k,o')∈h/\o=o'.closed:=by
 induction h with
 |nil=>cases hm
 |cons x r ih =>
  obtain⟨j,q⟩:=x;unfold iH at hm;rcases List.mem_cons.1 hm with e|hm
  ·injection e with e1 e2;subst e1 e2;exact⟨q,.head _,rfl⟩
  obtain⟨o',h1,h2⟩:=ih hm;exact⟨o',.tail _ h1,h2⟩
theorem MC {l:List Pt}{D:List Dt}{ls:List (List Int)}{nE c1 c2:Nat}{n:Int}{fo:Option (Nat × Nat)}{s k:Nat}{o:bV}(h:(k,o)∈jI l D ls nE c1 c2 n fo s) :
  (k=0/\o=av 1 (Y2 4 5 1 2 6 l.length nE D.length ls.length c1 c2 n fo))\/(k=1/\o=au 5 (flat wQ.fl D))\/(k=2/\o=av 1 (tC s ls))\/(k=4/\o=au 2 (flat aX.fl l)) \/
  ∃ i,i<ls.length/\(cH ls i).length≠0/\k=tN s i/\o=av 1 (flat aW.fl (cH ls i)):=by
 unfold jI at h;simp only[List.mem_cons,List.mem_append]at h;rcases h with h|h|h|h|h|h
 ·injection h with e1 e2;exact .inl ⟨e1,e2⟩
 ·injection h with e1 e2;exact .inr (.inl ⟨e1,e2⟩)
 ·injection h with e1 e2;exact .inr (.inr (.inl ⟨e1,e2⟩))
 ·injection h with e1 e2;exact .inr (.inr (.inr (.inl ⟨e1,e2⟩)))
 ·obtain⟨o',h1,h2⟩:=O5 h;unfold op7 at h1;split at h1
  ·cases h1
  rename_i hc;simp only[List.mem_cons,List.not_mem_nil,or_false]at h1;injection h1 with e1 e2;subst e1 e2 h2;refine .inr (.inr (.inr (.inr ⟨s,?_,hc,by unfold tN;rw[if_pos rfl],rfl⟩)));refine Decidable.byContradiction fun hq=>hc ?_;unfold cH;rw[List.getD_eq_getElem?_getD,List.getElem?_eq_none aa];rfl
 obtain⟨o',h1,h2⟩:=O5 h;obtain⟨i,a1,a2,a3,a4⟩:=BK h1;injection a4 with e1 e2;subst e1 e2 h2;exact .inr (.inr (.inr (.inr ⟨i,a1,a3,by unfold tN;rw[if_neg a2],rfl⟩)))
theorem aKN {s i n:Nat}(h:i+1000<n):tN s i<n:=by
 unfold tN;split <;> omega
theorem aBG {h:Heap}{p k0 k1 kd kt kf k3:Nat}{nm:Nat->Nat}{l:List Pt}{D:List Dt}{ls:List (List Int)}{nE c1 c2:Nat}{n:Int}{fo:Option (Nat × Nat)}(hw:AM h p k0 k1 kd kt kf nm l D ls nE c1 c2 n fo)(hn:ls.length<=1000)(s:Nat) :
  ∀ k o,aw (jI l D ls nE c1 c2 n fo s) k=some o->k<2000/\∃ g sz cs0,o=.cells false g sz cs0/\sz≠0/\(g=true->dT cs0=true)/\(∀ v∈cs0,wM 2000 v)/\∃ wr g' sz' cs,aw h (rhW p k0 k1 kd kt kf k3 nm s k)=some (.cells wr g' sz' cs)/\cs.take cs0.length=cs0.map (cB (rhW p k0 k1 kd kt kf k3 nm s)):=by
 intro k o hk;have hsl:∀{q a b:Nat},q<2000->wM 2000 (.slice (some ⟨q,0,none⟩) a b):=fun hq=>⟨hq,fun h=>by cases h⟩;rcases MC (aT hk)with⟨rfl,rfl⟩|⟨rfl,rfl⟩|⟨rfl,rfl⟩|⟨rfl,rfl⟩|⟨i,hi,h0,rfl,rfl⟩
 ·obtain⟨wr,g,sz,h1⟩:=hw.st;refine⟨aa,false,1,_,rfl,aa,(fun h=>by cases h),?_,wr,g,sz,_,h1,?_⟩
  ·unfold Y2;exact ae.2 ⟨hsl aa,ae.2 ⟨hsl aa,ae.2 ⟨bM rfl,ae.2 ⟨hsl aa,ae.2 ⟨hsl aa,ae.2 ⟨aGL aa,fun _ h=>(by cases h)⟩⟩⟩⟩⟩⟩
  show _=[_,_,_,_,_,cB _ (fcV 6 fo)];rw[aBI];rfl
 ·obtain⟨wr,g,sz,cs,h1,h2⟩:=hw.da;exact⟨aa,true,5,_,rfl,aa,fun _=>aC wQ D,fun v hv=>bM (a9 (aC wQ D) hv),wr,g,sz,cs,h1,by rw[h2];exact(bK (aC wQ D)).symm⟩
 ·obtain⟨wr,g,sz,h1⟩:=hw.tb;refine⟨aa,false,1,_,rfl,aa,(fun h=>by cases h),KA aa aa,wr,g,sz,_,h1,?_⟩;rw[show(tC s ls).length=((List.range ls.length).map fun i=>tV (nm i) (cH ls i)).length by rw[m8];simp,List.take_length];unfold tC;rw[List.map_map];refine List.map_congr_left fun i hi=>?_;show _=cB _ (tV (tN s i) (cH ls i));rw[SA,aKo]
 ·obtain⟨wr,g,sz,cs,h1,h2⟩:=hw.pt;exact⟨aa,true,2,_,rfl,aa,fun _=>aC aX l,fun v hv=>bM (a9 (aC aX l) hv),wr,g,sz,cs,h1,by rw[h2];exact(bK (aC aX l)).symm⟩
 obtain⟨wr,g,sz,cs,h1,h2⟩:=hw.li i hi h0;exact⟨aKN aa,false,1,_,rfl,aa,(fun h=>by cases h),fun v hv=>bM (a9 (aC aW _) hv),wr,g,sz,cs,by rw[aKo];exact h1,by rw[h2];exact(bK (aC aW _)).symm⟩
theorem aH8 {h:Heap}{p k0 k1 kd kt kf:Nat}{nm:Nat->Nat}{l:List Pt}{D:List Dt}{ls:List (List Int)}{nE c1 c2:Nat}{n:Int}{fo:Option (Nat × Nat)}(hw:AM h p k0 k1 kd kt kf nm l D ls nE c1 c2 n fo)(hn:ls.length<=1000)(s:Nat){r:List Value}(hr:fI r=true){nx:Nat} :
  In (ao 0::r) (jI l D ls nE c1 c2 n fo s) 2000 (.pointer (some ⟨p,0,none⟩)::r) h nx:=by
 refine vU (rhW p k0 k1 kd kt kf 0 nm s) ?_ ?_ (aBG hw hn s)
 ·rw[List.map_cons];congr 1
  conv=>lhs;rw[<- List.map_id r]
  exact List.map_congr_left fun v hv=>by rw[fJ,iU (cD hr hv)];rfl
 exact ae.2 ⟨⟨ab,rfl⟩,fun v hv=>c9 (cD hr hv)⟩
theorem aJ6 {h:Heap}{p k0 k1 kd kt kf k3:Nat}{nm:Nat->Nat}{l:List Pt}{D:List Dt}{ls:List (List Int)}{nE c1 c2:Nat}{n:Int}{fo:Option (Nat × Nat)}(hw:AM h p k0 k1 kd kt kf nm l D ls nE c1 c2 n fo)(hn:ls.length<=1000)(s:Nat){L:List Int}{c:Nat}
  (hL:∃ wr g sz cs,aw h k3=some (.cells wr g sz cs)/\cs.take (flat aW.fl L).length=flat aW.fl L) {nx:Nat} :
  In [ao 0,ak 3 L.length c] ((3,au 1 (flat aW.fl L))::jI l D ls nE c1 c2 n fo s) 2000 [.pointer (some ⟨p,0,none⟩),.slice (some ⟨k3,0,none⟩) L.length c] h nx:=by
 refine vU (rhW p k0 k1 kd kt kf k3 nm s) rfl ?_ fun k o hk=>?_
 ·exact ae.2 ⟨⟨ab,rfl⟩,ae.2 ⟨⟨ab,fun h=>by cases h⟩,fun _ h=>(by cases h)⟩⟩
 rw[aD]at hk;split at hk
 ·rename_i hb;injection hk with hk;subst hk;have:=az hb;subst this;obtain⟨wr,g,sz,cs,h1,h2⟩:=hL;exact⟨aa,true,1,_,rfl,aa,fun _=>aC aW L,fun v hv=>bM (a9 (aC aW L) hv),wr,g,sz,cs,h1,by rw[h2];exact(bK (aC aW L)).symm⟩
 exact aBG hw hn s k o hk
def wbX (s:List Pt->List Dt->List (List Int)->List Value->Option (Bool × Value)):XF:=fun args h nx K =>
 ∃ p r k0 k1 kd kt kf nm l D ls nE c1 c2 n fo,args=.pointer (some ⟨p,0,none⟩)::r/\AM h p k0 k1 kd kt kf nm l D ls nE c1 c2 n fo/\(match s l D ls r with|some pr=>eF pr.1 (K pr.2 h nx)|none=>False)
theorem XS {P:Program}{C:VC}{f:Nat}{s:List Pt->List Dt->List (List Int)->List Value->Option (Bool × Value)}(hC:bN P C)
  (hs:∀ l D ls r v,s l D ls r=some (true,v)->fI r=true/\gT v=true/\ls.length<=1000/\∃ s0,∀ nE c1 c2 n fo,C f (ao 0::r) (jI l D ls nE c1 c2 n fo s0) 2000 (fun u _ _=>u=v)):c7 P f (wbX s):=by
 refine(eJ (S:=fun args0 h0 n0 v1 h1 k=>∃ l D ls r s0 nE c1 c2 n fo,s l D ls r=some (true,v1)/\gT v1=true/\C f (ao 0::r) (jI l D ls nE c1 c2 n fo s0) 2000 (fun u _ _=>u=v1)/\args0=ao 0::r/\h0=jI l D ls nE c1 c2 n fo s0/\n0=2000/\h1=[]/\k=0) hC ?_).mono ?_ ?_
 ·rintro args0 h0 n0 v1 h1 k ⟨l,D,ls,r,s0,nE,c1,c2,n,fo,e1,e2,e3,rfl,rfl,rfl,rfl,rfl⟩;exact⟨rfl,_,e3,fun v h nx e=>by rw[e];exact gM e2⟩
 ·rintro args h nx K ⟨p,r,k0,k1,kd,kt,kf,nm,l,D,ls,nE,c1,c2,n,fo,rfl,hw,hx⟩;split at hx
  case h_2=>exact hx.elim
  rename_i pr e1;obtain⟨bb,u⟩:=pr;obtain⟨rfl,hx⟩:=aH.1 hx;obtain⟨a1,a2,a3,s0,a4⟩:=hs l D ls r u e1;refine⟨_,_,2000,u,[],0,⟨l,D,ls,r,s0,nE,c1,c2,n,fo,e1,a2,a4 nE c1 c2 n fo,rfl,rfl,rfl,rfl,rfl⟩,aH8 hw a3 s0 a1,?_⟩;simp only[qY,pF,nK,lL,lJ a2,Nat.add_zero];exact hx
 rintro args h nx K ⟨p,r,k0,k1,kd,kt,kf,nm,l,D,ls,nE,c1,c2,n,fo,rfl,hw,hx⟩;split at hx
 case h_2=>exact hx.elim
 rename_i pr e1;obtain⟨hb,hx⟩:=aH.1 hx;exact⟨pr.2,h,nx,hx,fun K' hk=>⟨p,r,k0,k1,kd,kt,kf,nm,l,D,ls,nE,c1,c2,n,fo,rfl,hw,by rw[e1];exact aM hb hk⟩⟩
set_option maxHeartbeats 2000000
def HT (xl:List (Nat × XF)):EI:={ aB with X:=aw xl,M:=2 }
theorem aJg {xl:List (Nat × XF)}(h:lA xl):o6 Tryz.prog (HT xl) where
 ar:=gE.ar
 tab:=gE.tab
 mixed:=gE.mixed
 funcs:=gE.funcs
 xs:=h.look
def gR (d:Int):Int:=if d % 2=0 then d+1 else d - 1
def XN (D:List Dt)(ls:List (List Int))(d:Int):List Int:=cH ls (cV D d.toNat).tt.toNat
def BY (D:List Dt)(ls:List (List Int))(d:Int):Int:=aG (XN D ls d) ((DP (gR d) (XN D ls d) 0 - 1+(XN D ls d).length) % (XN D ls d).length).toNat
def nxB (D:List Dt)(ls:List (List Int))(d:Int):Bool:=decide (0<=d)&&decide (d<D.length)&&decide (D.length<=1000)&&decide (ls.length<=1000)&&(decide (0<=(cV D d.toNat).tt)&&decide ((cV D d.toNat).tt<ls.length)) &&
 (decide (0<=DP (gR d) (XN D ls d) 0)&&decide (DP (gR d) (XN D ls d) 0<(XN D ls d).length)&&decide ((XN D ls d).length<=1000))
def nxS (l:List Pt)(D:List Dt)(ls:List (List Int)):List Value->Option (Bool × Value)
 |[.int .i64 d]=>some (nxB D ls d,iv (BY D ls d))
 |_=>none
theorem Z4 (m:List Dt){i o:Nat}(hi:i<m.length)(ho:o=i*5+4):nth (flat wQ.fl m) o=some (iv (cV m i).tt):=by
 rw[sH hi];exact lK wQ m hi (k:=4) rfl (by decide) (by rw[ho];rfl)
theorem aPj (m:List Dt){i o:Nat}(hi:i<m.length)(ho:o=i*5+3):nth (flat wQ.fl m) o=some (iv (cV m i).fr):=by
 rw[sH hi];exact lK wQ m hi (k:=3) rfl (by decide) (by rw[ho];rfl)
theorem aRe (n:Nat):n ^^^ 1=if n % 2=0 then n+1 else n - 1:=by
 have h1:(n ^^^ 1) / 2=n / 2:=(by rw[Nat.xor_div_two];simp);have h2:(n ^^^ 1) % 2=(n % 2) ^^^ 1:=Nat.xor_mod_two_pow (n:=1);split
 ·rename_i h;rw[h]at h2;have:(0:Nat) ^^^ 1=1:=rfl;omega
 rename_i h;rw[(aa:n % 2=1)]at h2;have:(1:Nat) ^^^ 1=0:=rfl;omega
theorem aSO {d:Int}(h:0<=d):((d.toNat ^^^ 1:Nat):Int)=gR d:=by
 rw[aRe];unfold gR;split <;> split <;> omega
def aLr:Nat × XF:=(170,wbX nxS)
theorem aSd:c7 Tryz.prog aLr.1 aLr.2:=XS (kA (aJg (xl:=[yB]) (.cons aPQ .nil)) 5).1 fun l D ls r v hs=>by
 have:∃ d,r=[iv d]/\nxB D ls d=true/\v=iv (BY D ls d):=by
  unfold nxS at hs;split at hs
  ·rename_i d;injection hs with hs;injection hs with h1 h2;exact⟨d,rfl,h1,h2.symm⟩
  ·cases hs
 obtain⟨d,rfl,hB,rfl⟩:=this;clear hs;unfold nxB at hB;simp only[af,ag]at hB;obtain⟨⟨⟨⟨⟨h1,h2⟩,h3⟩,h4⟩,h5,h6⟩,⟨h7,h8⟩,h9⟩:=hB;refine⟨rfl,rfl,h4,(cV D d.toNat).tt.toNat,fun nE c1 c2 n fo=>?_⟩;have hnn:BY D ls d=aG (XN D ls d) ((DP (gR d) (XN D ls d) 0 - 1+(XN D ls d).length) % (XN D ls d).length).toNat:=rfl;generalize BY D ls d=X at hnn ⊢;unfold XN at h7 h8 h9 hnn;generalize hs:(cV D d.toNat).tt.toNat=s at h7 h8 h9 hnn ⊢;have h0:(cH ls s).length≠0:=aa;have ho7:op7 (cH ls s)=[(7,aq 1 (flat aW.fl (cH ls s)))]:=if_neg h0;generalize hq:(cH ls s).length=q at *;have hvv:tV (tN s s) (cH ls s)=ak 7 q q:=(by rw[tV,if_neg aa,tN,if_pos rfl,hq]);have key:∀ o,o=s*1->nth (tC s ls) o=some (ak 7 q q):=fun o ho=>(by rw[LK aa ho,hvv]);unfold jI Y2;rw[ho7]
 repeat' first
  |(((conv=>whnf);apply bm<;>intro g))
  |((conv=>whnf)
    refine fD (Z4 D (i:=d.toNat) aa ?_) ?_
    ·show _+Int.toNat d*5+4=_;omega)
  |((conv=>whnf)
    refine fD (key _ ?_) ?_
    ·show _+Int.toNat (cV D d.toNat).tt*1=_;omega)
 all_goals first
  |(exfalso;simp[HT,aB,aF,zR]at g;omega)
  |skip
 (conv=>whnf);refine⟨cH ls s,⟨hq.symm,_,_,_,_,rfl,by rw[List.drop_zero,List.take_length]⟩,?_⟩;((conv=>whnf);apply bm<;>intro g1);rotate_left
 ·have g1:decide ((cH ls s).length<=1000000)=false:=g1;exact absurd g1 (by rw[ai aa];decide)
 have hxo:(HT [yB]).A.num ((HT [yB]).A.bit BinOp.xor ((HT [yB]).A.toN d) ((HT [yB]).A.toN 1))=gR d:=aSO h1;generalize(HT [yB]).A.num ((HT [yB]).A.bit BinOp.xor ((HT [yB]).A.toN d) ((HT [yB]).A.toN 1))=bk at hxo;subst hxo;generalize DP (gR d) (cH ls s) 0=a at h7 h8 hnn;have hix:0<=(a - 1+(q:Int)).tmod q/\(a - 1+(q:Int)).tmod q<q/\(a - 1+(q:Int)).tmod q=(a - 1+(q:Int)) % q:=by
  have e:(a - 1+(q:Int)).tmod q=(a - 1+(q:Int)) % q:=Int.tmod_eq_emod_of_nonneg aa;rw[e];exact⟨Int.emod_nonneg _ aa,Int.emod_lt_of_pos _ aa,rfl⟩
 have hget:∀ o,o=((a - 1+(q:Int)).tmod q).toNat*1->nth (flat aW.fl (cH ls s)) o=some (iv X):=fun o ho=>by
  rw[dY (cH ls s) (i:=((a - 1+(q:Int)).tmod q).toNat) aa ho,hnn,hix.2.2]
 generalize hz:(a - 1+(q:Int)).tmod q=z at hix hget
 repeat' first
  |(((conv=>whnf);apply bm<;>intro g))
  |((conv=>whnf)
    refine fD (hget _ ?_) ?_
    ·show _+Int.toNat ((a - 1+(q:Int)).tmod q)*1=_;rw[hz];omega)
 all_goals first
  |(exfalso;simp[HT,aB,aF,aN]at g;omega)
  |(exfalso
    have g:(decide (0<=(a - 1+(q:Int)).tmod q)&&decide ((a - 1+(q:Int)).tmod q<q))=false:=g;rw[hz]at g;simp at g;omega)
  |(exfalso
    rename_i g4 g3 g2;simp[HT,aB,aF]at g2 g3 g4;omega)
  |(conv=>whnf)
def crI (l:List Pt)(D:List Dt)(d:Int):Int:=(bI l (cV D d.toNat).fr.toNat).1*(bI l (cV D d.toNat).tt.toNat).2 - (bI l (cV D d.toNat).tt.toNat).1*(bI l (cV D d.toNat).fr.toNat).2
def M9 (l:List Pt)(D:List Dt)(ls:List (List Int)):Bool:=l.all wide&&(D.all fun e=>decide (0<=e.fr)&&decide (e.fr<l.length)&&(decide (0<=e.tt)&&decide (e.tt<l.length)))&&decide (D.length<=1000)&&decide (ls.length=l.length)&&decide (l.length<=1000)
theorem X3 {l:List Pt}{D:List Dt}{ls:List (List Int)}(h:M9 l D ls=true){i:Nat}(hi:i<D.length):0<=(cV D i).fr/\(cV D i).fr<l.length/\0<=(cV D i).tt/\(cV D i).tt<l.length:=by
 simp only[M9,af]at h;have:=List.all_eq_true.1 h.1.1.1.2 _ (List.getElem_mem hi);rw[sH hi];simp only[af,ag]at this;omega
theorem Q2 {l:List Pt}{D:List Dt}{ls:List (List Int)}(h:M9 l D ls=true){i:Nat}(hi:i<l.length) : -1000000<=(bI l i).1/\(bI l i).1<=1000000/\-1000000<=(bI l i).2/\(bI l i).2<=1000000:=by
 simp only[M9,af]at h;have:=List.all_eq_true.1 h.1.1.1.1 _ (List.getElem_mem hi);rw[gK hi];unfold wide at this;simp only[af,ag]at this;omega
theorem LR {l:List Pt}{D:List Dt}{ls:List (List Int)}(h:M9 l D ls=true):D.length<=1000/\ls.length=l.length/\l.length<=1000:=by
 simp only[M9,af,ag]at h;exact⟨h.1.1.2,h.1.2,h.2⟩
def crS (l:List Pt)(D:List Dt)(ls:List (List Int)):List Value->Option (Bool × Value)
 |[.int .i64 d]=>some (M9 l D ls&&decide (0<=d)&&decide (d<D.length),iv (crI l D d))
 |_=>none
theorem aEe {s:Nat}{ls:List (List Int)}{n k:Nat}(h:k<1000\/1000+n<=k):aw (iH (tH s ls n)) k=none:=by
 rw[nZ,aIj h];rfl
def aG9:Nat × XF:=(171,wbX crS)
theorem R3 {a b:Int}(h1 : -1000000<=a)(h2:a<=1000000)(h3 : -1000000<=b)(h4:b<=1000000) : -1000000000000<=a*b/\a*b<=1000000000000:=by
 have p1:0<=(1000000 - a)*(1000000+b):=Int.mul_nonneg aa aa;have p2:0<=(1000000+a)*(1000000 - b):=Int.mul_nonneg aa aa;have p3:0<=(1000000 - a)*(1000000 - b):=Int.mul_nonneg aa aa;have p4:0<=(1000000+a)*(1000000+b):=Int.mul_nonneg aa aa;simp only[Int.sub_mul,Int.add_mul,Int.mul_sub,Int.mul_add]at p1 p2 p3 p4;omega
theorem aPg:c7 Tryz.prog aG9.1 aG9.2:=XS (aL (xl:=[]) .nil) fun l D ls r v hs=>by
 have:∃ d,r=[iv d]/\M9 l D ls=true/\0<=d/\d<D.length/\v=iv (crI l D d):=by
  unfold crS at hs;split at hs
  ·rename_i d;injection hs with hs;injection hs with h1 h2;simp only[af,ag]at h1;exact⟨d,rfl,h1.1.1,h1.1.2,h1.2,h2.symm⟩
  ·cases hs
 obtain⟨d,rfl,hB,h1,h2,rfl⟩:=this;clear hs;have hn:=LR hB;refine⟨rfl,rfl,aa,ls.length,fun nE c1 c2 n fo=>?_⟩;have ho7:op7 (cH ls ls.length)=[]:=n8 (ah _);obtain⟨b1,b2,b3,b4⟩:=X3 hB (i:=d.toNat) aa;have hp:=Q2 hB (i:=(cV D d.toNat).fr.toNat) aa;have hq:=Q2 hB (i:=(cV D d.toNat).tt.toNat) aa;unfold jI Y2;rw[ho7]
 repeat' first
  |(((conv=>whnf);apply bm<;>intro g))
  |((conv=>whnf)
    refine fD (Z4 D (i:=d.toNat) aa ?_) ?_
    ·show _+Int.toNat d*5+4=_;omega)
  |((conv=>whnf)
    refine fD (aPj D (i:=d.toNat) aa ?_) ?_
    ·show _+Int.toNat d*5+3=_;omega)
  |((conv=>whnf)
    refine eZ (eU l (i:=(cV D d.toNat).fr.toNat) aa ?_) ?_
    ·show _+Int.toNat (cV D d.toNat).fr*2=_;omega)
  |((conv=>whnf)
    refine eZ (eU l (i:=(cV D d.toNat).tt.toNat) aa ?_) ?_
    ·show _+Int.toNat (cV D d.toNat).tt*2=_;omega)
 all_goals first
  |(exfalso;simp[aB,aF,aN]at g;omega)
  |(exfalso
    have g:(match aw (iH (tH ls.length ls ls.length)) 2000 with|none=>true|some _=>false)=false:=g;rw[aEe aa]at g;cases g)
  |(exfalso
    have m1:=R3 hp.1 hp.2.1 hq.2.2.1 hq.2.2.2;have m2:=R3 hq.1 hq.2.1 hp.2.2.1 hp.2.2.2;simp[aB,aF,aN]at g;omega)
  |((conv=>whnf)
    first
     |done
     |rfl)
def D3 (W:Heap)(b:Nat):Prop:=∀ k o,aw W k=some o->k<b/\cK id b o o
theorem rB {b n0:Nat}{ρ:Nat->Nat}(hρ:∀ k,k<b->ρ k=k)(hb:b<=n0){o:bV}(h:cK id b o o):cK ρ n0 o o:=by
 have key:∀ v,wM b v->cB ρ v=cB id v:=fun v hv=>oT (ι:=j4 id) (ι':=j4 ρ) (n:=b) (fun k hk=>by show Loc.lay _ _ _=Loc.lay _ _ _;rw[hρ k hk];rfl) hv;have mono:∀ v,wM b v->wM n0 v:=fun v hv=>kG (ι:=j4 id) (ι':=j4 id) hb (fun _ _=>rfl) hv;cases o with
 |cells wr g sz cs =>
  obtain⟨h1,h2,h3,h4,h5⟩:=h;refine⟨rfl,rfl,rfl,?_,fun v hv=>mono v (h5 v hv)⟩
  conv=>lhs;rw[h4]
  exact List.map_congr_left fun v hv=>(key v (h5 v hv)).symm
 |map es =>
  obtain⟨h1,h2⟩:=h;refine⟨?_,fun v hv=>mono _ (h2 v hv)⟩
  conv=>lhs;rw[h1]
  exact List.map_congr_left fun v hv=>by rw[key _ (h2 v hv)]
 |zero=>trivial
 |loop l=>exact h.elim
 |deferred=>exact h.elim
theorem tP {W:Heap}{k:Nat}{o:bV}:∀{P:Heap},aw (P++W) k=some o->(k,o)∈P\/aw W k=some o
 |[],h=>.inr h
 |(j,q)::r,h=>by
  rw[List.cons_append,aD]at h;split at h
  ·rename_i hb;injection h with h;subst h;rw[az hb];exact .inl (.head _)
  ·rcases tP h with h|h
   ·exact .inl (.tail _ h)
   exact .inr h
theorem vK {b n0 nx:Nat}{I:KS}{e0 e:List (Nat × Value)}{P W h:Heap}(L:List (Nat × Nat))(hI:I e0 (P++W) n0)(he:∀ p∈e0,aw e p.1=some (fJ (rn L) p.2)/\BO n0 p.2)(hW:D3 W b)(hk:∀ k o,aw W k=some o->aw h k=some o)
  (hP:∀ p∈P,b<=p.1/\p.1<n0/\b<=rn L p.1/\∃ o',aw h (rn L p.1)=some o'/\cK (rn L) n0 p.2 o') (hi:∀ k∈P.map Prod.fst,∀ k'∈P.map Prod.fst,rn L k=rn L k'->k=k') (hL:∀ p∈L,b<=p.1) (hb:b<=n0):sW b I e h nx:=by
 have hfix:∀ k,k<b->rn L k=k:=fun k hk=>by
  unfold rn;split
  ·rename_i q hq;have:=hL _ (aT hq);simp only at this;omega
  rfl
 have hc:∀ k o,aw (P++W) k=some o->(k,o)∈P\/aw W k=some o:=fun k o h=>tP h;refine⟨e0,P++W,n0,rn L,hI,fun t v hv=>he (t,v) (aT hv),fun k o hk'=>?_,fun k k' o o' h1 h2 e=>?_,hfix,hb⟩
 ·rcases hc k o hk' with hm|hm
  ·exact(hP _ hm).2.1 |> fun x=>⟨x,(hP _ hm).2.2.2⟩
  obtain⟨a1,a2⟩:=hW k o hm;exact⟨aa,o,by rw[hfix k a1];exact hk k o hm,rB hfix hb a2⟩
 ·rcases hc k o h1 with m1|m1 <;> rcases hc k' o' h2 with m2|m2
  ·exact hi k (List.mem_map.2 ⟨_,m1,rfl⟩) k' (List.mem_map.2 ⟨_,m2,rfl⟩) e
  ·have:=(hP _ m1).2.2.1;have b2:=(hW _ _ m2).1;simp only at this;rw[hfix k' b2]at e;omega
  ·have:=(hP _ m2).2.2.1;have b2:=(hW _ _ m1).1;simp only at this;rw[hfix k b2]at e;omega
  rwa [hfix k (hW _ _ m1).1,hfix k' (hW _ _ m2).1]at e
theorem yN {l:List Pt}{D:List Dt}{ls:List (List Int)}{nE c1 c2:Nat}{n:Int}{fo:Option (Nat × Nat)}{s:Nat}(hn:ls.length<=1000):D3 (jI l D ls nE c1 c2 n fo s) 2000:=by
 intro k o hk;have hsl:∀{q a b:Nat},q<2000->wM 2000 (.slice (some ⟨q,0,none⟩) a b):=fun hq=>⟨hq,fun h=>by cases h⟩;have hfix:∀{cs:List Value},(∀ v∈cs,cB id v=v)->cs=cs.map (cB id):=fun{cs} h=>by
  conv=>lhs;rw[<- List.map_id cs]
  exact List.map_congr_left fun v hv=>(h v hv).symm
 rcases MC (aT hk)with⟨rfl,rfl⟩|⟨rfl,rfl⟩|⟨rfl,rfl⟩|⟨rfl,rfl⟩|⟨i,hi,h0,rfl,rfl⟩
 ·refine⟨aa,rfl,rfl,rfl,?_,?_⟩
  ·show _=[_,_,_,_,_,cB _ (fcV 6 fo)];rw[aBI];rfl
  unfold Y2;exact ae.2 ⟨hsl aa,ae.2 ⟨hsl aa,ae.2 ⟨bM rfl,ae.2 ⟨hsl aa,ae.2 ⟨hsl aa,ae.2 ⟨aGL aa,fun _ h=>(by cases h)⟩⟩⟩⟩⟩⟩
 ·exact⟨aa,aE (aC _ _)⟩
 ·exact⟨aa,rfl,rfl,rfl,E1 (ρ:=id) (m8 _ _) fun i hi=>CS hi,KA aa aa⟩
 ·exact⟨aa,aE (aC _ _)⟩
 exact⟨aKN aa,aE (aC _ _)⟩
theorem cJ {W:Heap}{b k:Nat}{o:bV}(h:D3 W b)(hk:k<b)(ho:cK id b o o):D3 ((k,o)::W) b:=by
 intro j q hj;rw[aD]at hj;split at hj
 ·rename_i hb;injection hj with hj;subst hj;exact⟨by rw[<- az hb];exact hk,ho⟩
 exact h j q hj
def aQa (s:List Pt->List Dt->List (List Int)->List Int->Option (Bool × Value)):XF:=fun args h nx K =>
 ∃ p k3 k0 k1 kd kt kf nm l D ls nE c1 c2 n fo L c,args=[.pointer (some ⟨p,0,none⟩),.slice (some ⟨k3,0,none⟩) L.length c]/\AM h p k0 k1 kd kt kf nm l D ls nE c1 c2 n fo /\
   (∃ wr g sz cs,aw h k3=some (.cells wr g sz cs)/\cs.take (flat aW.fl L).length=flat aW.fl L)/\(match s l D ls L with|some pr=>eF pr.1 (K pr.2 h nx)|none=>False)
theorem aJf {P:Program}{C:VC}{f:Nat}{s:List Pt->List Dt->List (List Int)->List Int->Option (Bool × Value)}(hC:bN P C)
  (hs:∀ l D ls L v,s l D ls L=some (true,v)->gT v=true/\ls.length<=1000/\∃ s0,∀ nE c1 c2 n fo c,C f [ao 0,ak 3 L.length c] ((3,au 1 (flat aW.fl L))::jI l D ls nE c1 c2 n fo s0) 2000 (fun u _ _=>u=v)):c7 P f (aQa s):=by
 refine(eJ (S:=fun args0 h0 n0 v1 h1 k=>∃ l D ls L c s0 nE c1 c2 n fo,gT v1=true/\C f [ao 0,ak 3 L.length c] ((3,au 1 (flat aW.fl L))::jI l D ls nE c1 c2 n fo s0) 2000 (fun u _ _=>u=v1)/\args0=[ao 0,ak 3 L.length c]/\h0=(3,au 1 (flat aW.fl L))::jI l D ls nE c1 c2 n fo s0/\n0=2000/\h1=[]/\k=0) hC ?_).mono ?_ ?_
 ·rintro args0 h0 n0 v1 h1 k ⟨l,D,ls,L,c,s0,nE,c1,c2,n,fo,e2,e3,rfl,rfl,rfl,rfl,rfl⟩;exact⟨rfl,_,e3,fun v h nx e=>by rw[e];exact gM e2⟩
 ·rintro args h nx K ⟨p,k3,k0,k1,kd,kt,kf,nm,l,D,ls,nE,c1,c2,n,fo,L,c,rfl,hw,hL,hx⟩;split at hx
  case h_2=>exact hx.elim
  rename_i pr e1;obtain⟨bb,u⟩:=pr;obtain⟨rfl,hx⟩:=aH.1 hx;obtain⟨a2,a3,s0,a4⟩:=hs l D ls L u e1;refine⟨_,_,2000,u,[],0,⟨l,D,ls,L,c,s0,nE,c1,c2,n,fo,a2,a4 nE c1 c2 n fo c,rfl,rfl,rfl,rfl,rfl⟩,aJ6 hw a3 s0 hL,?_⟩;simp only[qY,pF,nK,lL,lJ a2,Nat.add_zero];exact hx
 rintro args h nx K ⟨p,k3,k0,k1,kd,kt,kf,nm,l,D,ls,nE,c1,c2,n,fo,L,c,rfl,hw,hL,hx⟩;split at hx
 case h_2=>exact hx.elim
 rename_i pr e1;obtain⟨hb,hx⟩:=aH.1 hx;exact⟨pr.2,h,nx,hx,fun K' hk=>⟨p,k3,k0,k1,kd,kt,kf,nm,l,D,ls,nE,c1,c2,n,fo,L,c,rfl,hw,hL,by rw[e1];exact aM hb hk⟩⟩
theorem bc {W h:Heap}{q:Nat}{v:bV}(hx:∀ k o,aw W k=some o->aw h k=some o)(hq:aw W q=none):∀ k o,aw W k=some o->aw ((q,v)::h) k=some o:=fun k o hk=>by
 rw[bJ (fun e=>by rw[e,hk]at hq;cases hq)];exact hx k o hk
theorem IZ {l:List Pt}{D:List Dt}{ls:List (List Int)}{nE c1 c2:Nat}{n:Int}{fo:Option (Nat × Nat)}{s q:Nat}(hn:ls.length<=1000)(hq:q=3\/2000<=q):aw (jI l D ls nE c1 c2 n fo s) q=none:=by
 cases hl:aw (jI l D ls nE c1 c2 n fo s) q with
 |none=>rfl
 |some o =>
  exfalso;rcases MC (aT hl)with⟨h,_⟩|⟨h,_⟩|⟨h,_⟩|⟨h,_⟩|⟨i,h1,_,h,_⟩
  ·omega
  ·omega
  ·omega
  ·omega
  unfold tN at h;split at h <;> omega
theorem N8 {l:List Pt}{D:List Dt}{ls:List (List Int)}{nE c1 c2:Nat}{n:Int}{fo:Option (Nat × Nat)}{s i:Nat}(hi:i<ls.length)(h0:(cH ls i).length≠0):aw (jI l D ls nE c1 c2 n fo s) (tN s i)=some (av 1 (flat aW.fl (cH ls i))):=by
 unfold tN;by_cases e:i=s
 ·subst e;rw[if_pos rfl];unfold jI;rw[bJ aa,bJ aa,bJ aa,bJ aa,show op7 (cH ls i)=[(7,ob (cH ls i))]from if_neg h0];rfl
 rw[if_neg e];unfold jI;rw[bJ aa,bJ aa,bJ aa,bJ aa];have key:aw (iH (tH s ls ls.length)) (i+1000)=some (av 1 (flat aW.fl (cH ls i))):=by
  rw[nZ,mU e h0 hi];rfl
 unfold op7;split
 ·exact key
 show aw ((7,_)::iH (tH s ls ls.length)) _=_;rw[bJ aa];exact key
theorem RM {h:Heap}{l:List Pt}{D:List Dt}{ls:List (List Int)}{nE c1 c2:Nat}{n:Int}{fo:Option (Nat × Nat)}{s:Nat}(hx:∀ k o,aw (jI l D ls nE c1 c2 n fo s) k=some o->aw h k=some o):AM h 0 4 5 1 2 6 (tN s) l D ls nE c1 c2 n fo :=
 ⟨⟨_,_,_,hx 0 _ rfl⟩,⟨_,_,_,_,hx 4 _ rfl,List.take_length⟩,⟨_,_,_,_,hx 1 _ rfl,List.take_length⟩,⟨_,_,_,hx 2 _ rfl⟩,fun i hi h0=>⟨_,_,_,_,hx _ _ (N8 hi h0),List.take_length⟩⟩
def NC (l:List Pt)(D:List Dt)(L:List Int):Nat->Int
 |0=>0
 |i+1=>NC l D L i+crI l D (aG L i)
theorem aFl {l:List Pt}{D:List Dt}{ls:List (List Int)}(h:M9 l D ls=true){d:Int}(h1:0<=d)(h2:d<D.length) : -2000000000000<=crI l D d/\crI l D d<=2000000000000:=by
 obtain⟨b1,b2,b3,b4⟩:=X3 h (i:=d.toNat) aa;have hp:=Q2 h (i:=(cV D d.toNat).fr.toNat) aa;have hq:=Q2 h (i:=(cV D d.toNat).tt.toNat) aa;have m1:=R3 hp.1 hp.2.1 hq.2.2.1 hq.2.2.2;have m2:=R3 hq.1 hq.2.1 hp.2.2.1 hp.2.2.2;unfold crI;omega
theorem aGd {l:List Pt}{D:List Dt}{ls:List (List Int)}(h:M9 l D ls=true){L:List Int}(hL:inR D L=true):∀ i:Nat,i<=L.length->-2000000000000*(i:Int)<=NC l D L i/\NC l D L i<=2000000000000*(i:Int)
 |0,_=>by unfold NC;omega
 |i+1,hi=>by
  have ih:=aGd h hL i aa;have hd:=qW hL (i:=i) aa;have:=aFl h hd.1 hd.2;unfold NC;omega
theorem aMV {l:List Pt}{D:List Dt}{ls:List (List Int)}{d:Int}(h:M9 l D ls=true)(h1:0<=d)(h2:d<D.length):crS l D ls [iv d]=some (true,iv (crI l D d)):=by
 show some (M9 l D ls&&decide (0<=d)&&decide (d<D.length),iv (crI l D d))=_;rw[h,ai h1,ai h2];rfl
def arS (l:List Pt)(D:List Dt)(ls:List (List Int))(L:List Int):Option (Bool × Value):=some (M9 l D ls&&inR D L&&decide (L.length<=100000),iv (NC l D L L.length))
def e89 (N c:Nat)(a j:Int):List (Nat × Value):=[(0,ao 0),(5,iv a),(8,ak 3 N c),(9,iv N),(10,iv j)]
def aJE:Nat × XF:=(108,aQa arS)
theorem aPk:c7 Tryz.prog aJE.1 aJE.2:=aJf (f:=108) (s:=arS) (aL (xl:=[aG9]) (.cons aPg .nil)) fun l D ls L v hs=>by
 have:M9 l D ls=true/\inR D L=true/\L.length<=100000/\v=iv (NC l D L L.length):=by
  unfold arS at hs;injection hs with hs;injection hs with h1 h2;simp only[af,ag]at h1;exact⟨h1.1.1,h1.1.2,h1.2,h2.symm⟩
 obtain⟨hB,hL,hl,rfl⟩:=this;clear hs;have hn:=LR hB;refine⟨rfl,aa,ls.length,fun nE c1 c2 n fo c=>?_⟩;(conv=>whnf);refine⟨fun q e h nx=>∃(i:Nat) (j:Int),j=i/\i<=L.length/\q=L.length - i/\e=e89 L.length c (NC l D L i) j/\h=(3,au 1 (flat aW.fl L))::jI l D ls nE c1 c2 n fo ls.length/\nx=2000,⟨L.length,?_⟩,?_⟩
 ·refine vK (P:=[]) (W:=(3,au 1 (flat aW.fl L))::jI l D ls nE c1 c2 n fo ls.length) (e0:=e89 L.length c 0 0) (n0:=2000) [] ⟨0,0,rfl,Nat.zero_le _,rfl,rfl,rfl,rfl⟩ ?_ (cJ (yN aa) aa (aE (aC _ _))) (fun k o hk=>hk) (fun _ h=>(by cases h)) (fun _ h=>(by cases h)) (fun _ h=>(by cases h)) (ah _);unfold e89;exact xE
 rintro q e h nx ⟨i,j,hj,hi,rfl,rfl,rfl,rfl⟩;unfold e89;((conv=>whnf);apply bm<;>intro h1)
 ·have hlt:i<L.length:=(by simp[aB,aF]at h1;omega);have hd:=qW hL (i:=i) hlt;(conv=>whnf);refine bt ?_;(conv=>whnf);refine fD (dY L (i:=i) hlt ?_) ?_
  ·show _+Int.toNat j*1=_;omega
  (conv=>whnf);refine⟨0,[iv (aG L i)],4,5,1,2,6,tN ls.length,l,D,ls,nE,c1,c2,n,fo,rfl,RM (bc (fun _ _ h=>h) (IZ aa (.inl rfl))),?_⟩;rw[aMV hB hd.1 hd.2];refine aM rfl ?_;have a1:=aGd hB hL i aa;have a2:=aFl hB hd.1 hd.2;have hs:NC l D L (i+1)=NC l D L i+crI l D (aG L i):=rfl;generalize NC l D L i=X at a1 hs ⊢;generalize crI l D (aG L i)=Y at a2 hs ⊢;(conv=>whnf);refine bt ?_;(conv=>whnf);refine bt ?_;(conv=>whnf);refine⟨L.length - (i+1),aa,?_⟩;refine vK (P:=[]) (W:=(3,au 1 (flat aW.fl L))::jI l D ls nE c1 c2 n fo ls.length) (e0:=e89 L.length c (X+Y) (j+1)) (n0:=2000) [] ⟨i+1,j+1,aa,aa,rfl,by rw[hs];rfl,rfl,rfl⟩ ?_ (cJ (yN aa) aa (aE (aC _ _))) (fun k o hk=>hk) (fun _ h=>(by cases h)) (fun _ h=>(by cases h)) (fun _ h=>(by cases h)) (ah _);unfold e89;exact xE
 have hge:i=L.length:=(by simp[aB,aF]at h1;omega);subst hge;(conv=>whnf)
def aOl (s:List Pt->List Dt->List (List Int)->List Value->YS Int):XF:=fun args h nx K =>
 ∃ p r k0 k1 kd kt kf nm l D ls nE c1 c2 n fo,args=.pointer (some ⟨p,0,none⟩)::r/\AM h p k0 k1 kd kt kf nm l D ls nE c1 c2 n fo /\
 (match s l D ls r with|some pr=>eF pr.1 (K (ylV pr.2.1 pr.2.2 nx) (cO h nx (aq 1 (flat aW.fl pr.2.1))) (nx+1))|none=>False)
theorem aIv {P:Program}{C:VC}{f:Nat}{s:List Pt->List Dt->List (List Int)->List Value->YS Int}(hC:bN P C)
  (hs:∀ l D ls r out rest,s l D ls r=some (true,out,rest)->fI r=true/\dT rest=true/\ls.length<=1000/\∃ s0,∀ nE c1 c2 n fo,C f (ao 0::r) (jI l D ls nE c1 c2 n fo s0) 2000 (YW aW out rest)):c7 P f (aOl s):=by
 refine(eJ (S:=fun args0 h0 n0 v1 h1 k=>∃ l D ls r s0 nE c1 c2 n fo out rest,dT rest=true/\C f (ao 0::r) (jI l D ls nE c1 c2 n fo s0) 2000 (YW aW out rest)/\args0=ao 0::r/\h0=jI l D ls nE c1 c2 n fo s0/\n0=2000/\v1=ylV out rest 0/\h1=ylH aW out/\k=1) hC ?_).mono ?_ ?_
 ·rintro args0 h0 n0 v1 h1 k ⟨l,D,ls,r,s0,nE,c1,c2,n,fo,out,rest,e2,e3,rfl,rfl,rfl,rfl,rfl,rfl⟩;exact⟨rfl,_,e3,fun v h nx e=>ZD aW e2 e⟩
 ·rintro args h nx K ⟨p,r,k0,k1,kd,kt,kf,nm,l,D,ls,nE,c1,c2,n,fo,rfl,hw,hx⟩;split at hx
  case h_2=>exact hx.elim
  rename_i pr e1;obtain⟨bb,out,rest⟩:=pr;obtain⟨rfl,hx⟩:=aH.1 hx;obtain⟨a1,a2,a3,s0,a4⟩:=hs l D ls r out rest e1;exact⟨_,_,2000,_,_,1,⟨l,D,ls,r,s0,nE,c1,c2,n,fo,out,rest,a2,a4 nE c1 c2 n fo,rfl,rfl,rfl,rfl,rfl,rfl⟩,aH8 hw a3 s0 a1,aFF aW a2 hx⟩
 rintro args h nx K ⟨p,r,k0,k1,kd,kt,kf,nm,l,D,ls,nE,c1,c2,n,fo,rfl,hw,hx⟩;split at hx
 case h_2=>exact hx.elim
 rename_i pr e1;obtain⟨hb,hx⟩:=aH.1 hx;exact⟨_,_,_,hx,fun K' hk=>⟨p,r,k0,k1,kd,kt,kf,nm,l,D,ls,nE,c1,c2,n,fo,rfl,hw,by rw[e1];exact aM hb hk⟩⟩
theorem fB {W h:Heap}{q:Nat}{v:bV}(hx:∀ k o,aw W k=some o->aw h k=some o)(hq:aw W q=none):∀ k o,aw W k=some o->aw (cO h q v) k=some o:=bc hx hq
theorem aAy {W h:Heap}{q:Nat}(hx:∀ k o,aw W k=some o->aw h k=some o)(hq:aw W q=none):∀ k o,aw W k=some o->aw (rem h q) k=some o:=fun k o hk=>by
 rw[dO,if_neg (fun e=>by rw[e,hq]at hk;cases hk)];exact hx k o hk
theorem jC {W h:Heap}{q:Nat}{v:bV}(hx:∀ k o,aw W k=some o->aw h k=some o)(hq:aw W q=none):∀ k o,aw W k=some o->aw (xQ h q v) k=some o:=fun k o hk=>by
 rw[mB _ _ (fun e=>by rw[e,hq]at hk;cases hk)];exact hx k o hk
def j3 (D:List Dt)(ls:List (List Int))(d:Int):Nat->Int
 |0=>d
 |i+1=>BY D ls (j3 D ls d i)
def LO (D:List Dt)(ls:List (List Int))(d:Int):Nat->Nat->Nat
 |0,i=>i
 |k+1,i=>if j3 D ls d i=d then i else LO D ls d k (i+1)
theorem oE (D:List Dt)(ls:List (List Int))(d:Int):∀(k i:Nat),i<=LO D ls d k i/\LO D ls d k i<=i+k/\∀ t,i<=t->t<LO D ls d k i->j3 D ls d t≠d
 |0,i=>by unfold LO;exact⟨ah _,ah _,fun t h1 h2=>by omega⟩
 |k+1,i=>by
  unfold LO;split
  ·exact⟨ah _,aa,fun t h1 h2=>by omega⟩
  rename_i h;obtain⟨h1,h2,h3⟩:=oE D ls d k (i+1);refine⟨aa,aa,fun t h4 h5=>?_⟩;by_cases e:t=i
  ·rw[e];exact h
  exact h3 t aa h5
def m5 (D:List Dt)(ls:List (List Int))(d:Int):Nat:=LO D ls d D.length 1
def zY (D:List Dt)(ls:List (List Int))(d:Int):List Int:=(List.range (m5 D ls d)).map (j3 D ls d)
def vV (l:List Pt)(D:List Dt)(ls:List (List Int)):Bool:=M9 l D ls&&(List.range D.length).all fun i=>nxB D ls i&&(decide (0<=BY D ls i)&&decide (BY D ls i<D.length))
theorem RS {l:List Pt}{D:List Dt}{ls:List (List Int)}(h:vV l D ls=true){d:Int}(h1:0<=d)(h2:d<D.length):nxB D ls d=true/\0<=BY D ls d/\BY D ls d<D.length:=by
 simp only[vV,af]at h;have:=List.all_eq_true.1 h.2 d.toNat (List.mem_range.2 aa);rw[Int.toNat_of_nonneg h1]at this;simp only[af,ag]at this;exact⟨this.1,this.2⟩
theorem vQ {l:List Pt}{D:List Dt}{ls:List (List Int)}(h:vV l D ls=true):M9 l D ls=true:=by
 simp only[vV,af]at h;exact h.1
theorem XC {l:List Pt}{D:List Dt}{ls:List (List Int)}(h:vV l D ls=true){d:Int}(h1:0<=d)(h2:d<D.length):∀ i,0<=j3 D ls d i/\j3 D ls d i<D.length
 |0=>⟨h1,h2⟩
 |i+1=>by
  have ih:=XC h h1 h2 i;exact(RS h ih.1 ih.2).2
def wkS (l:List Pt)(D:List Dt)(ls:List (List Int)):List Value->YS Int
 |[.int .i64 d]=>some (vV l D ls&&decide (0<=d)&&decide (d<D.length)&&decide (j3 D ls d (m5 D ls d)=d),zY D ls d,[])
 |_=>none
def itL (D:List Dt)(ls:List (List Int))(d:Int)(i:Nat):List Int:=(List.range i).map (j3 D ls d)
theorem aAX (D:List Dt)(ls:List (List Int))(d:Int)(i:Nat):(itL D ls d i).length=i:=by simp[itL]
theorem aPT (D:List Dt)(ls:List (List Int))(d:Int)(i:Nat):itL D ls d (i+1)=itL D ls d i++[j3 D ls d i]:=by
 unfold itL;rw[List.range_succ,List.map_append];rfl
theorem aGh {l:List Pt}{D:List Dt}{ls:List (List Int)}{d:Int}(h:nxB D ls d=true):nxS l D ls [iv d]=some (true,iv (BY D ls d)):=by
 show some (nxB D ls d,iv (BY D ls d))=_;rw[h]
def e83 (d:Int)(i:Nat)(x:Int):List (Nat × Value):=[(0,ao 0),(1,iv d),(5,ak 2000 i i),(6,iv x)]
def aHW:Nat × XF:=(104,aOl wkS)
theorem aOE:c7 Tryz.prog aHW.1 aHW.2:=aIv (f:=104) (s:=wkS) (aL (xl:=[aLr]) (.cons aSd .nil)) fun l D ls r out rest hs=>by
 have:∃ d,r=[iv d]/\vV l D ls=true/\0<=d/\d<D.length/\j3 D ls d (m5 D ls d)=d/\out=zY D ls d/\rest=[]:=by
  unfold wkS at hs;split at hs
  ·rename_i d;injection hs with hs;injection hs with h1 h2;injection h2 with h2 h3;simp only[af,ag]at h1;exact⟨d,rfl,h1.1.1.1,h1.1.1.2,h1.1.2,h1.2,h2.symm,h3.symm⟩
  ·cases hs
 obtain⟨d,rfl,hB,h1,h2,h3,rfl,rfl⟩:=this;clear hs;have hn:=LR (vQ hB);have hlow:=oE D ls d D.length 1;have hin:=XC hB h1 h2;refine⟨rfl,rfl,aa,ls.length,fun nE c1 c2 n fo=>?_⟩;have hout:zY D ls d=itL D ls d (m5 D ls d):=rfl;have hno:∀ q,2000<=q->aw (jI l D ls nE c1 c2 n fo ls.length) q=none:=fun q hq=>IZ aa (.inr hq);rw[hout];unfold m5 at h3 ⊢;generalize LO D ls d D.length 1=N at h3 hlow ⊢;obtain⟨hN1,hN2,hN3⟩:=hlow;(conv=>whnf);refine⟨0,[iv d],4,5,1,2,6,tN ls.length,l,D,ls,nE,c1,c2,n,fo,rfl,RM (bc (fun _ _ h=>h) (IZ aa (.inr (ah _)))),?_⟩;rw[aGh (RS hB h1 h2).1];refine aM rfl ?_;(conv=>whnf);refine⟨fun q e h nx=>∃ i:Nat,1<=i/\i<=N/\q=N - i/\e=e83 d i (j3 D ls d i)/\h=[(2000,aq 1 (flat aW.fl (itL D ls d i)))]++jI l D ls nE c1 c2 n fo ls.length/\nx=2001,⟨N - 1,?_⟩,?_⟩
 ·refine vK (P:=[(2000,aq 1 (flat aW.fl (itL D ls d 1)))]) (W:=jI l D ls nE c1 c2 n fo ls.length) (e0:=e83 d 1 (j3 D ls d 1)) (n0:=2001) [] ⟨1,ah _,hN1,rfl,rfl,rfl,rfl⟩ ?_ (yN aa) (bc (fun _ _ h=>h) (IZ aa (.inr (ah _)))) ?_ ?_ (fun _ h=>(by cases h)) aa
  ·unfold e83;exact xE
  ·exact ae.2 ⟨⟨ah _,Nat.lt_succ_self _,ah _,_,rfl,aK (aC _ _) rfl⟩,fun _ h=>(by cases h)⟩
  show ∀ k∈[2000],∀ k'∈[2000],_;decide
 rintro q e h nx ⟨i,hi1,hi,rfl,rfl,rfl,rfl⟩;unfold e83;((conv=>whnf);apply bm<;>intro g1);rotate_left
 ·have hx:j3 D ls d i=d:=(by simpa[aB,aF]using g1);have hge:i=N:=by
   refine Decidable.byContradiction fun hc=>hN3 i hi1 aa hx
  subst hge;(conv=>whnf);refine⟨2000,?_,rfl⟩;unfold ylV;rw[aAX];rfl
 have hx:j3 D ls d i≠d:=(by simpa[aB,aF]using g1);have hlt:i<N:=by
  refine Decidable.byContradiction fun hc=>hx ?_;rw[(aa:i=N)];exact h3
 have hB':=RS hB (hin i).1 (hin i).2;have hs:itL D ls d (i+1)=itL D ls d i++[j3 D ls d i]:=aPT D ls d i;have hll:=aAX D ls d i;have hnx:j3 D ls d (i+1)=BY D ls (j3 D ls d i):=rfl;generalize itL D ls d i=M at hs hll ⊢
 repeat' first
  |((conv=>whnf)
    refine YX (k:=i) ?_)
  |(((conv=>whnf);apply bm<;>intro g))
 ·(conv=>whnf);refine⟨0,[iv (j3 D ls d i)],4,5,1,2,6,tN ls.length,l,D,ls,nE,c1,c2,n,fo,rfl,RM ?_,?_⟩
  ·exact fB (aAy (fB (bc (fun _ _ h=>h) (hno _ aa)) (hno _ aa)) (hno _ aa)) (hno _ aa)
  rw[aGh hB'.1];refine aM rfl ?_;(conv=>whnf);refine⟨N - (i+1),aa,?_⟩;refine vK (P:=[(2000,aq 1 (flat aW.fl (itL D ls d (i+1))))]) (W:=jI l D ls nE c1 c2 n fo ls.length) (e0:=e83 d (i+1) (j3 D ls d (i+1))) (n0:=2001) [(2000,2002)] ⟨i+1,aa,aa,rfl,rfl,rfl,rfl⟩ ?_ (yN aa) ?_ ?_ ?_ (by decide) aa
  ·unfold e83;exact xE
  ·exact fB (aAy (fB (bc (fun _ _ h=>h) (hno _ aa)) (hno _ aa)) (hno _ aa)) (hno _ aa)
  ·refine ae.2 ⟨⟨ah _,Nat.lt_succ_self _,ab,_,rfl,aK (aC _ _) ?_⟩,fun _ h=>(by cases h)⟩;rw[hs,<- cT aW M (j3 D ls d i) (n:=i) hll.symm];rfl
  show ∀ k∈[2000],∀ k'∈[2000],_;decide
 exact iP (by rw[aO,hll];rfl) aa g
def dX {α:Type}(ok:α->Prop)(A:α->List Value)(H:α->Heap)(N:α->Nat)(V:α->Value)(H':α->Heap)(N':α->Nat):XF:=fun args h nx K=>∃ a,ok a/\args=A a/\h=H a/\nx=N a/\K (V a) (H' a) (N' a)
theorem aBH {α:Type}{ok:α->Prop}{A:α->List Value}{H:α->Heap}{N:α->Nat}{V:α->Value}{H':α->Heap}{N':α->Nat}{P:Program}{C:VC}{f:Nat}(hC:bN P C)
  (hs:∀ a,ok a->C f (A a) (H a) (N a) (fun v h nx=>∃ ρ,mF (N a) ρ [(0,V a)] (H' a) (N' a) [(0,v)] h nx)):c7 P f (dX ok A H N V H' N'):=by
 refine⟨fun args h nx K hx ι B w HH hsc=>?_,fun args h nx K hx=>?_⟩
 ·obtain⟨a,h1,rfl,rfl,rfl,hk⟩:=hx;obtain⟨c1,c2⟩:=hC f _ _ _ _ (hs a h1) ι B w HH hsc;refine⟨c1,CallsIn.mono c2 fun e w' hr=>?_⟩;cases e with
  |returned u =>
   obtain⟨v,h',nx',ι1,⟨ρ,hρ⟩,q2,q3,q4,q5,q6,rfl⟩:=hr;obtain⟨e1,e2⟩:=hρ.env 0 (V a) rfl;have ev:v=fJ ρ (V a):=by
    have:some v=some (fJ ρ (V a)):=e1;injection this
   subst ev;refine⟨V a,H' a,N' a,fun k=>ι1 (ρ k),hk,zH q2 e2,hρ.aJR q3,q4,fun k hk=>?_,hρ.le,x9 q2⟩;show ι1 (ρ k)=ι k;rw[hρ.fix k hk];exact q5 k hk
  |_=>exact hr.elim
 obtain⟨a,h1,h2,h3,h4,hk⟩:=hx;exact⟨_,_,_,hk,fun K' hk'=>⟨a,h1,h2,h3,h4,hk'⟩⟩
def pI (D:List Dt)(x:Int):Nat:=(cV D x.toNat).tt.toNat
def IF (D:List Dt)(ls:List (List Int)):Nat->List Bool->Nat->List Bool
 |0,S,_=>S
 |n+1,S,p=>(cH ls p).foldl (fun S x=>if dG S (pI D x)=true then S else IF D ls n S (pI D x)) (S.set p true)
def vS (D:List Dt)(ls:List (List Int))(n:Nat)(S:List Bool)(p i:Nat):List Bool:=((cH ls p).take i).foldl (fun S x=>if dG S (pI D x)=true then S else IF D ls n S (pI D x)) (S.set p true)
theorem aGG {D:List Dt}{ls:List (List Int)}{n:Nat}{S:List Bool}{p i:Nat}(hi:i<(cH ls p).length):vS D ls n S p (i+1)=if dG (vS D ls n S p i) (pI D (aG (cH ls p) i))=true then vS D ls n S p i else IF D ls n (vS D ls n S p i) (pI D (aG (cH ls p) i)):=by
 unfold vS;rw[List.take_succ_eq_append_getElem hi,List.foldl_append,fK hi];rfl
theorem aG2 {D:List Dt}{ls:List (List Int)}{n:Nat}{S:List Bool}{p:Nat}:vS D ls n S p (cH ls p).length=IF D ls (n+1) S p:=by
 unfold vS;rw[List.take_length];rfl
def jH (S:List Bool):Nat:=S.countP fun b=>!b
theorem SH {S:List Bool}{p:Nat}(hp:p<S.length)(h:dG S p=false):jH (S.set p true)+1=jH S:=by
 unfold jH;rw[sM hp]at h
 induction S generalizing p with
 |nil=>simp at hp
 |cons b r ih =>
  cases p with
  |zero =>
   simp only[List.getElem_cons_zero]at h;subst h;simp
  |succ p =>
   simp only[List.getElem_cons_succ]at h;have:=ih (by simpa using hp) h;simp only[List.set_cons_succ,List.countP_cons];omega
theorem W8 (S:List Bool)(p:Nat):jH (S.set p true)<=jH S:=by
 unfold jH
 induction S generalizing p with
 |nil=>simp
 |cons b r ih =>
  cases p with
  |zero=>simp[List.countP_cons]
  |succ p =>
   have:=ih p;simp only[List.set_cons_succ,List.countP_cons];omega
theorem K9 (D:List Dt)(ls:List (List Int)):∀(n:Nat) (S:List Bool) (p:Nat),jH (IF D ls n S p)<=jH S/\(IF D ls n S p).length=S.length
 |0,S,p=>⟨ah _,rfl⟩
 |n+1,S,p=>by
  unfold IF;have key:∀(L:List Int) (M:List Bool),jH (L.foldl (fun S x=>if dG S (pI D x)=true then S else IF D ls n S (pI D x)) M)<=jH M/\(L.foldl (fun S x=>if dG S (pI D x)=true then S else IF D ls n S (pI D x)) M).length=M.length:=by
   intro L
   induction L with
   |nil=>exact fun M=>⟨ah _,rfl⟩
   |cons x r ih =>
    intro M;rw[List.foldl_cons];split
    ·exact ih M
    obtain⟨a1,a2⟩:=ih (IF D ls n M (pI D x));obtain⟨b1,b2⟩:=K9 D ls n M (pI D x);exact⟨aa,aa⟩
  obtain⟨a1,a2⟩:=key (cH ls p) (S.set p true);have:=W8 S p;rw[List.length_set]at a2;exact⟨aa,a2⟩
theorem aBS {D:List Dt}{ls:List (List Int)}{n:Nat}{S:List Bool}{p:Nat}:∀ i,i<=(cH ls p).length->jH (vS D ls n S p i)<=jH (S.set p true)/\(vS D ls n S p i).length=S.length
 |0,_=>by unfold vS;simp
 |i+1,h=>by
  obtain⟨a1,a2⟩:=aBS (D:=D) (ls:=ls) (n:=n) (S:=S) (p:=p) i aa;rw[aGG aa];split
  ·exact⟨a1,a2⟩
  obtain⟨b1,b2⟩:=K9 D ls n (vS D ls n S p i) (pI D (aG (cH ls p) i));exact⟨aa,aa⟩
structure aE5 where
 p:Int
 l:List Pt
 D:List Dt
 ls:List (List Int)
 nE:Nat
 c1:Nat
 c2:Nat
 n:Int
 fo:Option (Nat × Nat)
 S:List Bool
def aND:Value:=.func (.func 180) #[] #[ao 2002,ao 2000,ao 2003]
def wL (a:aE5)(S:List Bool):Heap:=(2003,aq 1 [aND])::(2002,aq 1 [ak 2001 a.ls.length a.ls.length])::(2001,aq 1 (flat gJ.fl S))::(2000,aq 1 [ao 0])::jI a.l a.D a.ls a.nE a.c1 a.c2 a.n a.fo a.ls.length
def S4 (D:List Dt)(ls:List (List Int)):Bool:=ls.all fun L=>decide (L.length≠0)&&decide (L.length<=1000)&&inR D L
theorem aJN {D:List Dt}{ls:List (List Int)}(h:S4 D ls=true){i:Nat}(hi:i<ls.length):(cH ls i).length≠0/\(cH ls i).length<=1000/\inR D (cH ls i)=true:=by
 have:=List.all_eq_true.1 h _ (List.getElem_mem hi);unfold cH;rw[List.getD_eq_getElem?_getD,List.getElem?_eq_getElem hi];simp only[af,ag]at this;exact⟨this.1.1,this.1.2,this.2⟩
def aOS (n:Nat)(a:aE5):Prop:=M9 a.l a.D a.ls=true/\S4 a.D a.ls=true/\0<=a.p/\a.p<a.ls.length/\a.S.length=a.ls.length/\dG a.S a.p.toNat=false/\jH a.S<=n
def HX (p:Int)(s q:Nat)(j:Int):List (Nat × Value):=[(0,iv p),(1,ao 2002),(2,ao 2000),(3,ao 2003),(16,.slice (some ⟨s+1000,0,none⟩) q q),(17,iv q),(18,iv j)]
def aMA (n:Nat):XF:=dX (aOS n) (fun a=>[iv a.p,ao 2002,ao 2000,ao 2003]) (fun a=>wL a a.S) (fun _=>2004) (fun _=>.tuple #[]) (fun a=>wL a (IF a.D a.ls n a.S a.p.toNat)) (fun _=>2004)
theorem DS {W:Heap}{b c:Nat}(h:D3 W b)(hb:b<=c):D3 W c:=fun k o hk=>by
 obtain⟨h1,h2⟩:=h k o hk;exact⟨aa,rB (fun _ _=>rfl) hb h2⟩
theorem B9 {a:aE5}{M:List Bool}(hn:a.ls.length<=1000):D3 (wL a M) 2004:=by
 unfold wL;refine cJ (cJ (cJ (cJ (DS (yN hn) aa) aa ?_) aa (aE (aC _ _))) aa ?_) aa ?_
 ·exact⟨rfl,rfl,rfl,rfl,ae.2 ⟨⟨ab,rfl⟩,fun _ h=>(by cases h)⟩⟩
 ·exact⟨rfl,rfl,rfl,rfl,ae.2 ⟨⟨ab,fun h=>by cases h⟩,fun _ h=>(by cases h)⟩⟩
 refine⟨rfl,rfl,rfl,by simp[aND,cB,cF,nB,eM,j4],ae.2 ⟨⟨trivial,?_⟩,fun _ h=>(by cases h)⟩⟩;intro v hv;simp only[List.mem_cons,List.not_mem_nil,or_false]at hv;rcases hv with rfl|rfl|rfl
 ·exact⟨ab,rfl⟩
 ·exact⟨ab,rfl⟩
 exact⟨ab,rfl⟩
theorem aHX {a:aE5}{M:List Bool}{s:Nat}(hn:a.ls.length<=1000)(hs:s<a.ls.length)(h0:(cH a.ls s).length≠0):aw (wL a M) (s+1000)=some (av 1 (flat aW.fl (cH a.ls s))):=by
 unfold wL;rw[bJ aa,bJ aa,bJ aa,bJ aa];have:=N8 (l:=a.l) (D:=a.D) (nE:=a.nE) (c1:=a.c1) (c2:=a.c2) (n:=a.n) (fo:=a.fo) (s:=a.ls.length) hs h0
 rwa [show tN a.ls.length s=s+1000 by unfold tN;rw[if_neg aa]]at this
theorem PN {p j:Int}{s q:Nat}{e:List (Nat × Value)}(hs:s<1000)(he:∀ x∈HX p s q j,aw e x.1=some x.2):∀ x∈HX p s q j,aw e x.1=some (fJ (rn []) x.2)/\BO 2004 x.2:=by
 have key:∀ x∈HX p s q j,fJ (rn []) x.2=x.2/\BO 2004 x.2:=by
  unfold HX;refine ae.2 ⟨⟨rfl,c9 rfl⟩,ae.2 ⟨⟨rfl,ab,rfl⟩,ae.2 ⟨⟨rfl,ab,rfl⟩,ae.2 ⟨⟨rfl,ab,rfl⟩,ae.2 ⟨⟨rfl,(aa:s+1000<2004),fun h=>by cases h⟩,ae.2 ⟨⟨rfl,c9 rfl⟩,ae.2 ⟨⟨rfl,c9 rfl⟩,fun _ h=>(by cases h)⟩⟩⟩⟩⟩⟩⟩
 exact fun x hx=>⟨by rw[(key x hx).1];exact he x hx,(key x hx).2⟩
theorem aJc {W:Heap}{b:Nat}(h:D3 W b){v:Value}(hv:gT v=true):∃ ρ,mF b ρ [(0,v)] W b [(0,v)] W b :=
 ⟨id,fun t u hu=>by
  have hm:=aT hu;simp only[List.mem_cons,List.not_mem_nil,or_false]at hm;injection hm with e1 e2;subst e1 e2;exact⟨by rw[fJ,iU hv];rfl,c9 hv⟩,fun k o hk=>⟨(h k o hk).1,o,hk,(h k o hk).2⟩,fun _ _ _ _ _ _ e=>e,fun _ _=>rfl,ah _⟩
theorem aAm {S:List Bool}{p:Nat}(hp:p<S.length)(h:dG S p=false):0<jH S:=by
 have:=SH hp h;omega
theorem aKp:∀ n,c7 Tryz.prog 180 (aMA n)
 |0=>aBH (aL (xl:=[]) .nil) fun a ⟨h1,h2,h3,h4,h5,h6,h7⟩=>by
  have:=aAm aa h6;omega
 |n+1=>aBH (aL (xl:=[(180,aMA n)]) (.cons (aKp n) .nil)) fun a ⟨h1,h2,h3,h4,h5,h6,h7⟩=>by
  obtain⟨p,l,D,ls,nE,c1,c2,nI,fo,S⟩:=a;simp only at h1 h2 h3 h4 h5 h6 h7;have hn:=LR h1;obtain⟨q1,q2,q3⟩:=aJN h2 (i:=p.toNat) aa;generalize ha:(⟨p,l,D,ls,nE,c1,c2,nI,fo,S⟩:aE5)=a;have hvH:∀ M:List Bool,wL a M=(2003,aq 1 [aND])::(2002,aq 1 [ak 2001 ls.length ls.length])::(2001,aq 1 (flat gJ.fl M))::(2000,aq 1 [ao 0])::jI l D ls nE c1 c2 nI fo ls.length:=fun M=>(by rw[<- ha];rfl);have hpa:a.p=p:=(by rw[<- ha]);have hSa:a.S=S:=(by rw[<- ha]);have hDa:a.D=D:=(by rw[<- ha]);have hla:a.ls=ls:=(by rw[<- ha]);simp only[hpa,hSa,hDa,hla];clear ha hpa hSa hDa;rw[hvH S];generalize hpp:p.toNat=s at *;generalize hq:(cH ls s).length=q at *;have hvv:tV (tN ls.length s) (cH ls s)=.slice (some ⟨s+1000,0,none⟩) q q:=(by rw[tV,if_neg aa,tN,if_neg aa,hq]);have key:∀ o,o=s*1->nth (tC ls.length ls) o=some (.slice (some ⟨s+1000,0,none⟩) q q):=fun o ho=>(by rw[LK aa ho,hvv]);unfold jI Y2;rw[n8 (ah _)]
  repeat' first
   |(((conv=>whnf);apply bm<;>intro g))
   |((conv=>whnf)
     refine fD (key _ ?_) ?_
     ·show _+Int.toNat p*1=_;omega)
  all_goals first
   |(exfalso;simp[aB,aF,aN]at g;omega)
   |(exfalso
     have hb:Nat.ble (0+Int.toNat p*1+1) (flat gJ.fl S).length=true:=Nat.ble_eq_true_of_le (by rw[aO];show _<=S.length*1;omega);exact Bool.false_ne_true (g.symm.trans hb))
   |skip
  (conv=>whnf);refine⟨fun q' e h nx=>∃(i:Nat) (j:Int),j=i/\i<=q/\q'=q - i/\e=HX p s q j/\h=wL a (vS D ls n S s i)/\nx=2004,⟨q,?_⟩,?_⟩
  ·refine vK (P:=[]) (W:=wL a (vS D ls n S s 0)) (e0:=HX p s q 0) (n0:=2004) [] ⟨0,0,rfl,Nat.zero_le _,rfl,rfl,rfl,rfl⟩ ?_ ?_ ?_ (fun _ h=>(by cases h)) (fun _ h=>(by cases h)) (fun _ h=>(by cases h)) (ah _)
   ·refine PN aa ?_;unfold HX;exact ae.2 ⟨rfl,ae.2 ⟨rfl,ae.2 ⟨rfl,ae.2 ⟨rfl,ae.2 ⟨rfl,ae.2 ⟨rfl,ae.2 ⟨rfl,fun _ h=>(by cases h)⟩⟩⟩⟩⟩⟩⟩
   ·exact B9 (by rw[hla];omega)
   intro k o hk;have cO:bU (flat gJ.fl S) (0+Int.toNat p*1) [.bool true]=flat gJ.fl (vS D ls n S s 0):=by
    rw[hpp,Nat.zero_add,DO _ _ _ aa];rfl
   rw[hvH,<- cO]at hk;unfold jI Y2 at hk;rw[n8 (ah _)]at hk;exact hk
  rintro q' e h nx ⟨i,j,hj,hi,rfl,rfl,rfl,rfl⟩;unfold HX;((conv=>whnf);apply bm<;>intro h8);rotate_left
  ·have hge:i=q:=(by simp[aB,aF]at h8;omega);(conv=>whnf);rw[hge,<- hq,aG2];exact aJc (B9 (by rw[hla];omega)) rfl
  have hlt:i<q:=(by simp[aB,aF]at h8;omega);have hli:aw (wL a (vS D ls n S s i)) (s+1000)=some (av 1 (flat aW.fl (cH ls s))):=by
   have:=aHX (a:=a) (M:=vS D ls n S s i) (s:=s) (by rw[hla];omega) (by rw[hla];omega) (by rw[hla,hq];exact q1)
   rwa [hla]at this
  have hd:=qW q3 (i:=i) aa;have ht:=X3 h1 (i:=(aG (cH ls s) i).toNat) aa;(conv=>whnf);refine bt ?_;(conv=>whnf);rw[hli];(conv=>whnf);refine fD (dY (cH ls s) (i:=i) aa ?_) ?_
  ·show _+Int.toNat j*1=_;omega
  have hvs:=aGG (D:=D) (n:=n) (S:=S) (aa:i<(cH ls s).length);have hvl:=(aBS (D:=D) (ls:=ls) (n:=n) (S:=S) (p:=s) i aa);generalize vS D ls n S s i=M at hvs hvl ⊢;generalize aG (cH ls s) i=x at hd ht hvs ⊢;rw[hvH M];unfold jI Y2;rw[n8 (ah _)];have hE:∀ p' S' X,wL ⟨p',l,D,ls,nE,c1,c2,nI,fo,S'⟩ X=wL a X:=fun p' S' X=>(by rw[hvH];rfl);have hcs:=SH (S:=S) (p:=s) aa h6;(conv=>whnf);refine bt ?_;(conv=>whnf);refine fD (Z4 D (i:=x.toNat) aa ?_) ?_
  ·show _+Int.toNat x*5+4=_;omega
  (conv=>whnf);refine bt ?_;(conv=>whnf);refine fD (PX M (i:=pI D x) (by show Int.toNat _<_;omega) ?_) ?_
  ·show _+Int.toNat (cV D x.toNat).tt*1=_;rw[Nat.zero_add];rfl
  ((conv=>whnf);apply bm<;>intro b3);rotate_left
  ·have hM:dG M (pI D x)=true:=(by simpa[aB,aF]using b3);(conv=>whnf);refine bt ?_;(conv=>whnf);refine⟨q - (i+1),aa,?_⟩;refine vK (P:=[]) (W:=wL a (vS D ls n S s (i+1))) (e0:=HX p s q (j+1)) (n0:=2004) [] ⟨i+1,j+1,aa,aa,rfl,rfl,rfl,rfl⟩ ?_ (B9 (by rw[hla];omega)) ?_ (fun _ h=>(by cases h)) (fun _ h=>(by cases h)) (fun _ h=>(by cases h)) (ah _)
   ·refine PN aa ?_;unfold HX;exact ae.2 ⟨rfl,ae.2 ⟨rfl,ae.2 ⟨rfl,ae.2 ⟨rfl,ae.2 ⟨rfl,ae.2 ⟨rfl,ae.2 ⟨rfl,fun _ h=>(by cases h)⟩⟩⟩⟩⟩⟩⟩
   intro k o hk;rw[hvs,if_pos hM,hvH M]at hk;unfold jI Y2 at hk;rw[n8 (ah _)]at hk;exact hk
  have hM:dG M (pI D x)=false:=(by simpa[aB,aF]using b3);(conv=>whnf);refine bt ?_;(conv=>whnf);refine fD (Z4 D (i:=x.toNat) aa ?_) ?_
  ·show _+Int.toNat x*5+4=_;omega
  (conv=>whnf);refine⟨⟨(cV D x.toNat).tt,l,D,ls,nE,c1,c2,nI,fo,M⟩,⟨h1,h2,ht.2.2.1,?_,?_,hM,?_⟩,rfl,?_,rfl,?_⟩
  ·show(cV D x.toNat).tt<(ls.length:Int);omega
  ·show M.length=ls.length;omega
  ·show jH M<=n;omega
  ·show _=wL _ M;unfold wL jI Y2;simp only;rw[n8 (ah _)]
  (conv=>whnf);refine bt ?_;(conv=>whnf);refine⟨q - (i+1),aa,?_⟩;refine vK (P:=[]) (W:=wL a (vS D ls n S s (i+1))) (e0:=HX p s q (j+1)) (n0:=2004) [] ⟨i+1,j+1,aa,aa,rfl,rfl,rfl,rfl⟩ ?_ (B9 (by rw[hla];omega)) ?_ (fun _ h=>(by cases h)) (fun _ h=>(by cases h)) (fun _ h=>(by cases h)) (ah _)
  ·refine PN aa ?_;unfold HX;exact ae.2 ⟨rfl,ae.2 ⟨rfl,ae.2 ⟨rfl,ae.2 ⟨rfl,ae.2 ⟨rfl,ae.2 ⟨rfl,ae.2 ⟨rfl,fun _ h=>(by cases h)⟩⟩⟩⟩⟩⟩⟩
  intro k o hk;rw[hvs,if_neg (by rw[hM];decide),<- hE (cV D x.toNat).tt M]at hk;exact hk
def gL (D:List Dt)(ls:List (List Int)):List Bool:=IF D ls 1000 (List.replicate ls.length false) 0
def cnS (l:List Pt)(D:List Dt)(ls:List (List Int)):List Value->Option (Bool × Value)
 |[]=>some (M9 l D ls&&S4 D ls&&decide (1<=ls.length),.bool ((gL D ls).all id))
 |_=>none
def UG:Nat × XF:=(126,wbX cnS)
theorem aLd:c7 Tryz.prog UG.1 UG.2:=XS (f:=126) (s:=cnS) (aL (xl:=[(180,aMA 1000),Z5]) (.cons (aKp 1000) (.cons aKC .nil))) fun l D ls r v hs=>by
 have:r=[]/\M9 l D ls=true/\S4 D ls=true/\1<=ls.length/\v=.bool ((gL D ls).all id):=by
  unfold cnS at hs;split at hs
  ·injection hs with hs;injection hs with h1 h2;simp only[af,ag]at h1;exact⟨rfl,h1.1.1,h1.1.2,h1.2,h2.symm⟩
  ·cases hs
 obtain⟨rfl,h1,h2,h3,rfl⟩:=this;clear hs;have hn:=LR h1;refine⟨rfl,rfl,aa,ls.length,fun nE c1 c2 n fo=>?_⟩;unfold jI Y2;rw[n8 (ah _)];((conv=>whnf);apply bm<;>intro g1);rotate_left
 ·exfalso;simp[aB,aF,aN]at g1;omega
 ((conv=>whnf);apply bm<;>intro g);rotate_left
 ·exfalso;have g:decide ((0:Int)<(ls.length:Int))=false:=g;simp only[decide_eq_false_iff_not]at g;omega
 (conv=>whnf);refine⟨⟨0,l,D,ls,nE,c1,c2,n,fo,List.replicate ls.length false⟩,⟨h1,h2,Int.le_refl 0,?_,List.length_replicate,?_,?_⟩,rfl,?_,rfl,?_⟩
 ·show(0:Int)<(ls.length:Int);omega
 ·show dG (List.replicate ls.length false) 0=false;unfold dG;rw[List.getD_eq_getElem?_getD,List.getElem?_replicate];split <;> rfl
 ·have:jH (List.replicate ls.length false)<=(List.replicate ls.length false).length:=List.countP_le_length;rw[List.length_replicate]at this;show jH (List.replicate ls.length false)<=1000;omega
 ·show _=wL _ (List.replicate ls.length false);unfold wL jI Y2;simp only;rw[n8 (ah _),<- Q3];rfl
 (conv=>whnf);have hrl:(gL D ls).length=ls.length:=by
  unfold gL;rw[(K9 D ls 1000 _ 0).2,List.length_replicate]
 refine⟨gL D ls,⟨hrl.symm,_,_,_,_,rfl,by rw[List.drop_zero];exact List.take_length⟩,?_⟩;rw[show ctS (gL D ls) ([Value.bool false].append #[].toList)=some (true,.bool (!((gL D ls).all id)))from by
  show some (decide ((gL D ls).length<=1000000),Value.bool (!((gL D ls).all id)))=_;rw[ai aa]]
 refine aM rfl ?_;(conv=>whnf);show Value.bool (!(!((gL D ls).all id)))=_;rw[Bool.not_not]
end Go.Aw
end
