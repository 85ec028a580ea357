/-
  Parts of a proof. No condition.
-/
import Derived.Test.YtjahkcbdecgbhaaGreatQBt
set_option linter.unusedSimpArgs false
set_option linter.unusedVariables false
noncomputable section
namespace Go.Aw
set_option maxRecDepth 100000
set_option maxHeartbeats 4000000
def cR (a b:Int)(nP nE:Nat)(d1 d2:Nat)(n:Int):Heap:=[(7,PW a),(8,PW b),(9,.cells false false 1 [.slice (some ⟨10,0,none⟩) nP d1,.slice (some ⟨11,0,none⟩) nE d2,iv n])]
theorem aCp {a b:Int}{nE d1 d2 nP:Nat}{m:List Ed}{nD nL c1 c2:Nat}{n:Int}{fo:Option (Nat × Nat)}{qP:Nat}:zT (fZ (cR a b qP nE d1 d2 n) nP m nD nL c1 c2 n fo) 2000 :=
 aCW (c8 (c8 (c8 (fun k o hk=>by cases hk) (by decide) ⟨rfl,rfl,rfl,rfl,cO rfl⟩) (by decide) (aN rfl)) (by decide) (aN rfl))
def wF (m:List Ed)(n a b:Int):DP:=LH m a b (2*(n+1).toNat) (w0 n b)
def TK (m:List Ed)(n a b:Int):Option (List Int):=if aD (wF m n a b).1 a.toNat=0 then none else nO m (wF m n a b).1 b ((n+1).toNat+1) a [a]
def SR (m:List Ed)(n a b:Int):List Int:=if (sU n a&&sU n b)=true then (TK m n a b).getD [] else []
def S8 (m:List Ed)(n a b:Int):Int:=if (sU n a&&sU n b)=true then (match TK m n a b with|some _=>0|none=>5) else 1
def aKb (args0:List Value)(h0:Heap)(n0:Nat)(out:List Int)(e:Option Int):Prop :=
 ∃ a b qP nE d1 d2 nP m nD nL c1 c2 n fo,args0=[pV 0,pV 7,pV 8,pV 9]∧h0=fZ (cR a b qP nE d1 d2 n) nP m nD nL c1 c2 n fo∧n0=2000∧out=SR m n a b∧e=some (S8 m n a b)∧m.length≤1000∧0≤n∧n≤100∧HJ m n
theorem B5 {m:List Ed}{a b:Int}{s:DP}(h:oQ a s=true):∀ k,LH m a b k s=s
 |0=>rfl
 |k+1=>by unfold LH;rw [if_pos h]
theorem XN {m:List Ed}{a b:Int}{s:DP}(h:oQ a s=false)(k:Nat):LH m a b (k+1) s=LH m a b k (H9 m b s):=by
 conv=>lhs;unfold LH
 rw [if_neg (by rw [h];decide)]
def JA (T:Nat)(v:Value):List (Nat × Value):=[(0,pV 0),(1,pV 7),(2,pV 8),(3,pV 9),(7,.slice (some ⟨2000,0,none⟩) T T),(8,v)]
theorem oW {b n0 k:Nat}{L:List (Nat × Nat)}{h:Heap}{o o':a8}{r:Heap}(h1:Nat.ble b k=true)(h2:Nat.ble (k+1) n0=true)(h3:Nat.ble b (rn L k)=true)(h4:look h (rn L k)=some o')(h5:bQ (rn L) n0 o o')(hr:∀ p∈r,((b≤p.1∧p.1<n0∧b≤rn L p.1)∨p.1<b)∧∃ o',look h (rn L p.1)=some o'∧bQ (rn L) n0 p.2 o') :
  ∀ p∈(k,o)::r,((b≤p.1∧p.1<n0∧b≤rn L p.1)∨p.1<b)∧∃ o',look h (rn L p.1)=some o'∧bQ (rn L) n0 p.2 o' :=
 List.forall_mem_cons.2 ⟨⟨.inl ⟨Nat.le_of_ble_eq_true h1,Nat.le_of_ble_eq_true h2,Nat.le_of_ble_eq_true h3⟩,_,h4,h5⟩,hr⟩
theorem oF {α:Type}{E:El α}{l:List α}{b n0 k sz:Nat}{wr g:Bool}{L:List (Nat × Nat)}{h:Heap}{r:Heap}(h1:Nat.ble b k=true)(h2:Nat.ble (k+1) n0=true)(h3:Nat.ble b (rn L k)=true)(h4:look h (rn L k)=some (.cells wr g sz (flat E.fl l)))(hr:∀ p∈r,((b≤p.1∧p.1<n0∧b≤rn L p.1)∨p.1<b)∧∃ o',look h (rn L p.1)=some o'∧bQ (rn L) n0 p.2 o') :
  ∀ p∈(k,.cells wr g sz (flat E.fl l))::r,((b≤p.1∧p.1<n0∧b≤rn L p.1)∨p.1<b)∧∃ o',look h (rn L p.1)=some o'∧bQ (rn L) n0 p.2 o' :=
 oW h1 h2 h3 h4 (aN (aH E l)) hr
theorem IP {x y b:Nat}(h:Nat.ble b x=true):∀ p∈[(x,y)],b≤p.1:=List.forall_mem_cons.2 ⟨Nat.le_of_ble_eq_true h,fun _ h=>by cases h⟩
theorem rY {W:Heap}{b:Nat}{P:Heap}(h:zT W b)(hp:(P.all fun p=>Nat.ble b p.1)=true):∀ k o,look W k=some o→look (P++W) k=some o:=by
 induction P with
 |nil=>exact fun _ _ h=>h
 |cons p r ih =>
  simp only [List.all_cons,Bool.and_eq_true] at hp;exact ext_cons (ih hp.2) (bS h (Nat.le_of_ble_eq_true hp.1))
theorem bJ {P:Heap}{L:List (Nat × Nat)}(h:(P.all fun p=>P.all fun q=>!(Nat.beq (rn L p.1) (rn L q.1)) || Nat.beq p.1 q.1)=true):∀ k∈P.map Prod.fst,∀ k'∈P.map Prod.fst,rn L k=rn L k'→k=k':=by
 intro k hk k' hk' e;obtain⟨p,hp,rfl⟩:=List.mem_map.1 hk;obtain⟨q,hq,rfl⟩:=List.mem_map.1 hk';have h1:=List.all_eq_true.1 (List.all_eq_true.1 h p hp) q hq;simp only [Bool.or_eq_true,Bool.not_eq_true',Nat.beq_eq_true_eq] at h1;rcases h1 with h1|h1
 ·rw [e] at h1;exact absurd (Nat.beq_refl _) (by rw [h1];decide)
 exact Nat.eq_of_beq_eq_true h1
theorem D2 {S:List Int}{f b:Int}:∀ {nb:List Int} {j:Nat},j<nb.length→(∀ i,i<j→N5 S f b (aD nb i)=false)→N5 S f b (aD nb j)=true→DI S f b nb=some (aD nb j)
 |[],j,h,_,_=>by cases h
 |g::r,0,_,_,h2=>by
  unfold DI;rw [if_pos (show N5 S f b g=true from h2)];rfl
 |g::r,j+1,h,h1,h2=>by
  have h0:=h1 0 (by omega);unfold DI;rw [if_neg (by rw [show g=aD (g::r) 0 from rfl,h0];decide)];exact D2 (nb:=r) (j:=j) (by simpa using h) (fun i hi=>h1 (i+1) (by omega)) h2
theorem L6 {S:List Int}{f b:Int}:∀ {nb:List Int},(∀ i,i<nb.length→N5 S f b (aD nb i)=false)→DI S f b nb=none
 |[],_=>rfl
 |g::r,h=>by
  unfold DI;rw [if_neg (by rw [show g=aD (g::r) 0 from rfl,h 0 (Nat.succ_pos _)];decide)];exact L6 fun i hi=>h (i+1) (by simpa using hi)
theorem NS {m:List Ed}{S:List Int}{b f:Int}{k:Nat}{out:List Int}(h:f≠b):nO m S b (k+1) f out=(match DI S f b (dS m f) with|some g=>nO m S b k g (out++[g])|none=>none):=by
 show (if _ then _ else _)=_;rw [if_neg h];rfl
abbrev oI (L:List Int):a8:=.cells true false 1 (flat aP.fl L)
def p9 (T N:Nat)(v:Value)(j:Int):List (Nat × Value):=[(0,pV 0),(1,pV 7),(2,pV 8),(3,pV 9),(7,.slice (some ⟨2000,0,none⟩) T T),(9,v),(43,.slice (some ⟨2001,0,none⟩) N N),(44,iv N),(45,iv j)]
def sT (T N:Nat)(v:Value)(j f:Int)(u:Value)(M:Nat)(z:Int):List (Nat × Value):=(11,iv f)::(58,u)::(59,iv M)::(60,iv z)::p9 T N v j
def NG (T N:Nat)(f:Int):List (Nat × Value):=[(0,pV 0),(2,pV 8),(7,.slice (some ⟨2000,0,none⟩) T T),(14,.slice (some ⟨2001,0,none⟩) N N),(15,iv f)]
def e8w (T N:Nat)(f:Int)(M:Nat)(z:Int):List (Nat × Value):=(97,.slice (some ⟨2002,0,none⟩) M M)::(98,iv M)::(99,iv z)::NG T N f
theorem aMR {args0:List Value}{h0:Heap}{n0:Nat}{out:List Int}{e:Option Int}(h:aKb args0 h0 n0 out e):body [aEg,X1] 123 args0 h0 n0 (Yields aP out e):=by
 obtain⟨a,b,qP,nE,d1,d2,nP,m,nD,nL,c1,c2,n,fo,rfl,rfl,rfl,rfl,rfl,hm,hn0,hn,hE⟩:=h;have hok:=aCp (a:=a) (b:=b) (qP:=qP) (nE:=nE) (d1:=d1) (d2:=d2) (nP:=nP) (m:=m) (nD:=nD) (nL:=nL) (c1:=c1) (c2:=c2) (n:=n) (fo:=fo);obtain⟨T,hT⟩:∃ T:Nat,(n+1).toNat=T:=⟨_,rfl⟩;have hTn:(T:Int)=n+1:=(by omega);generalize hQ:Yields aP (SR m n a b) (some (S8 m n a b))=Q;unfold fZ cR PW;(conv=>whnf);refine⟨_,_,n,[a,b],2,(sU n a&&sU n b),rfl,⟨_,_,_,_,_,_,_,_,_,_,_,_,_,_,_,rfl⟩,⟨_,_,_,_,rfl,rfl⟩,rfl,?_⟩;cases hab:(sU n a&&sU n b) with
 |false =>
  have h1:SR m n a b=[]:=(by unfold SR;rw [hab];rfl);have h2:S8 m n a b=1:=(by unfold S8;rw [hab];rfl);rw [h1,h2] at hQ;(conv=>whnf);rw [← hQ];rfl
 |true =>
  have hL:SR m n a b=(TK m n a b).getD []:=(by unfold SR;rw [hab];rfl);have hEr:S8 m n a b=(match TK m n a b with|some _=>0|none=>5):=(by unfold S8;rw [hab];rfl);rw [hL,hEr] at hQ;have hab2:=hab;simp only [sU,Bool.and_eq_true,decide_eq_true_eq] at hab2;obtain⟨⟨ha0,ha1⟩,hb0,hb1⟩:=hab2;have hN:=fun {k:Nat} (h:Nat.ble 2000 k=true)=>bS hok (Nat.le_of_ble_eq_true h);((conv=>whnf);apply bm<;>intro m1)
  ·((conv=>whnf);apply bm<;>intro m2);rotate_left
   ·exfalso;simp [aA,aC] at m2;omega
   ((conv=>whnf);apply bm<;>intro m3);rotate_left
   ·exfalso;simp [aA,aC] at m3;omega
   ((conv=>whnf);apply bm<;>intro m4);rotate_left
   ·exfalso;have hq:Nat.ble (0+Int.toNat b*1+1) (rep T [iv 0]).length=true:=Nat.ble_eq_true_of_le (by rw [S9,a7,List.length_replicate];show _≤T*1;omega);rw [← hT] at hq;exact Bool.false_ne_true (m4.symm.trans hq)
   (conv=>whnf);rw [show aA.A.toN (aA.A.add n 1)=T from hT];obtain⟨hwk0,hmu0⟩:=aCV (b:=b) hT hn0 ⟨hb0,hb1⟩
   refine⟨fun q e h nx=>∃ (s:DP) (k:Nat),q=RY s∧RY s≤k∧LH m a b k s=wF m n a b∧YP T n s ∧
    ((s.2=[]∧e=JA T (.slice none 0 0)∧h=[(2000,oI (s.1))]++(fZ (cR a b qP nE d1 d2 n) nP m nD nL c1 c2 n fo)∧nx=2001) ∨
     (0<s.2.length∧e=JA T (.slice (some ⟨2001,0,none⟩) s.2.length s.2.length)∧h=[(2000,oI (s.1)),(2001,oI (s.2))]++(fZ (cR a b qP nE d1 d2 n) nP m nD nL c1 c2 n fo)∧nx=2002)),⟨RY (w0 n b),?_⟩,?_⟩
   ·have hbase0:∀ k o,look (fZ (cR a b qP nE d1 d2 n) nP m nD nL c1 c2 n fo) k=some o→look (fZ (cR a b qP nE d1 d2 n) nP m nD nL c1 c2 n fo) k=some o:=fun _ _ h=>h;refine aQ (P:=[(2000,oI ((w0 n b).1)),(2001,oI ((w0 n b).2))]) (W:=fZ (cR a b qP nE d1 d2 n) nP m nD nL c1 c2 n fo) (e0:=JA T (.slice (some ⟨2001,0,none⟩) 1 1)) (n0:=2002) [(2000,2001),(2001,2002)] ⟨w0 n b,2*T,rfl,hmu0,by unfold wF;rw [hT],hwk0,.inr ⟨Nat.one_pos,rfl,rfl,rfl⟩⟩ ?_ hok ?_ ?_ (bJ rfl) (List.forall_mem_cons.2 ⟨Nat.le_refl _,IP rfl⟩) (Nat.le_of_ble_eq_true rfl)
    ·unfold JA;((repeat' refine iE rfl rfl ?_);exact iN)
    ·(repeat' with_reducible first|refine aK ?_ (hN (by decide))|refine aS ?_ (hN (by decide))|refine bA ?_ (hN (by decide)))
     exact hbase0
    refine oW rfl rfl rfl (o':=oI (w0 n b).1) ?_ (aN (aH _ _)) ?_
    ·have hp:=kS (List.replicate T 0) b.toNat 1 (by rw [List.length_replicate];omega);show some (a8.cells true false 1 (cN (rep T [iv 0]) (0+Int.toNat b*1) [iv 1]))=some (oI ((List.replicate (n+1).toNat 0).set b.toNat 1));rw [S9,hT,show 0+Int.toNat b*1=b.toNat*1 by omega,hp]
    refine oW rfl rfl rfl rfl (aU (aH aP _) rfl) ?_;exact iN
   rintro q e h nx ⟨s,k,rfl,hmu,hF,hok2,⟨hnil,rfl,rfl,rfl⟩|⟨hpos,rfl,rfl,rfl⟩⟩
   ·have hlen:=hok2.len;have hbase0:=rY (P:=[(2000,oI (s.1))]) hok rfl;unfold JA fZ cR PW;have hstop:oQ a s=true:=(by unfold oQ;rw [hnil];rfl);have hstep:=hok2.rng a.toNat (by omega);have hrun:wF m n a b=s:=(by rw [← hF];exact B5 hstop k);generalize hSS:s.1=S at *;((conv=>whnf);apply bm<;>intro g5);rotate_left
    ·exfalso;simp [aA,aC] at g5;omega
    (conv=>whnf);refine eC (bY S (i:=a.toNat) (by rw [hlen];omega) ?_) ?_
    ·show _+Int.toNat a*1=_;omega
    ((conv=>whnf);apply bm<;>intro g6)
    ·have g6:aD S a.toNat=0:=(by simpa [aA,aC] using g6);have hO:TK m n a b=none:=(by unfold TK;rw [hrun,hSS,if_pos g6]);rw [hO] at hQ;(conv=>whnf);rw [← hQ];rfl
    have g6:¬ aD S a.toNat=0:=(by simpa [aA,aC] using g6);have hO:TK m n a b=nO m S b (T+1) a [a]:=(by unfold TK;rw [hrun,hSS,if_neg g6,hT]);rw [hO] at hQ;(conv=>whnf);refine⟨fun q e h nx=>∃ (f:Int) (out:List Int) (k:Nat),q=(aD S f.toNat).toNat∧q+1≤k∧nO m S b k f out=nO m S b (T+1) a [a]∧(0≤f∧f≤n)∧0<out.length∧out.length+q≤T+1∧e=NG T out.length f∧h=[(2000,oI (S)),(2001,oI (out))]++(fZ (cR a b qP nE d1 d2 n) nP m nD nL c1 c2 n fo)∧nx=2002,⟨(aD S a.toNat).toNat,?_⟩,?_⟩
    ·skip
     refine aQ (P:=[(2000,oI (S)),(2001,oI ([a]))]) (W:=fZ (cR a b qP nE d1 d2 n) nP m nD nL c1 c2 n fo) (e0:=NG T 1 a) (n0:=2002) [(2001,2001)] ⟨a,[a],T+1,rfl,by omega,rfl,⟨ha0,ha1⟩,Nat.one_pos,by show 1+_≤_;omega,rfl,rfl,rfl⟩ ?_ hok ?_ ?_ (bJ rfl) (IP rfl) (Nat.le_of_ble_eq_true rfl)
     ·unfold NG;((repeat' refine iE rfl rfl ?_);exact iN)
     ·(repeat' with_reducible first|refine aK ?_ (hN (by decide))|refine aS ?_ (hN (by decide))|refine bA ?_ (hN (by decide)))
      exact hbase0
     refine oF rfl rfl rfl rfl ?_;refine oW rfl rfl rfl rfl (aU (aH aP _) rfl) ?_;exact iN
    rintro q e h nx ⟨f,out,k6,rfl,hk6,hw6,hf6,hpo,hlo,rfl,rfl,rfl⟩;have hb6:=rY (P:=[(2000,oI (S)),(2001,oI (out))]) hok rfl;have hS6:=hok2.rng f.toNat (by omega);obtain⟨k7,rfl⟩:∃ k7,k6=k7+1:=⟨k6 - 1,by omega⟩;have hlen6:(flat aP.fl out).length=out.length:=(by rw [a7];show _*1=_;omega);unfold NG fZ cR PW;((conv=>whnf);apply bm<;>intro g7);rotate_left
    ·have g7:f=b:=(by simpa [aA,aC] using g7);have hw7:nO m S b (k7+1) f out=some out:=(by unfold nO;rw [if_pos g7]);rw [← hw6,hw7] at hQ;(conv=>whnf);rw [← hQ];have:=iR aP (l:=out) (e:=some 0) (h:=[(2000,oI (S)),(2001,oI (out))]++(fZ (cR a b qP nE d1 d2 n) nP m nD nL c1 c2 n fo)) (q:=2001) (nx:=2002) hpo rfl;exact this
    have g7:f≠b:=(by simpa [aA,aC] using g7);have hw7:nO m S b (k7+1) f out=(match DI S f b (dS m f) with|some g=>nO m S b k7 g (out++[g])|none=>none):=NS g7;(conv=>whnf);refine⟨0,m,n,f,rfl,⟨_,_,_,_,_,_,_,_,_,_,_,_,_,_,_,_,_,_,rfl,rfl,List.take_length⟩,hm,?_⟩;have hnbl:=vD m f;have hnbr:=fun {k:Nat} (hk:k<(dS m f).length)=>gU hE hk;rcases Nat.eq_zero_or_pos (dS m f).length with hz|hz
    ·have hz2:dS m f=[]:=List.length_eq_zero_iff.1 hz;rw [hz2] at hw7 ⊢;rw [← hw6,hw7] at hQ;(conv=>whnf);refine⟨fun q e h nx=>q=0∧e=[(97,.slice none 0 0),(98,iv 0),(99,iv 0)]∧h=[]∧nx=2000,⟨0,?_⟩,?_⟩
     ·exact aO (e0:=[(97,.slice none 0 0),(98,iv 0),(99,iv 0)]) (h0:=[]) (n0:=2000) ⟨rfl,rfl,rfl,rfl⟩ (by ((repeat' refine iE rfl rfl ?_);exact iN)) (fun _ h=>by cases h) (by decide)
     rintro q e h nx ⟨rfl,rfl,rfl,rfl⟩;(conv=>whnf);rw [← hQ];rfl
    refine qH aP hz ?_;generalize hnb:dS m f=nb at *;(conv=>whnf);refine⟨fun q e h nx=>∃ (i:Nat) (j:Int),j=i∧i≤nb.length∧q=nb.length - i∧(∀ t,t<i→N5 S f b (aD nb t)=false)∧e=e8w T out.length f nb.length j∧h=[(2000,oI (S)),(2001,oI (out)),(2002,oI (nb))]++(fZ (cR a b qP nE d1 d2 n) nP m nD nL c1 c2 n fo)∧nx=2003,⟨nb.length,?_⟩,?_⟩
    ·skip
     refine aQ (P:=[(2000,oI (S)),(2001,oI (out)),(2002,oI (nb))]) (W:=fZ (cR a b qP nE d1 d2 n) nP m nD nL c1 c2 n fo) (e0:=e8w T out.length f nb.length 0) (n0:=2003) [] ⟨0,0,rfl,Nat.zero_le _,rfl,fun t h=>absurd h (Nat.not_lt_zero t),rfl,rfl,rfl⟩ ?_ hok ?_ ?_ (bJ rfl) (fun _ h=>by cases h) (Nat.le_of_ble_eq_true rfl)
     ·unfold e8w NG;((repeat' refine iE rfl rfl ?_);exact iN)
     ·(repeat' with_reducible first|refine aK ?_ (hN (by decide))|refine aS ?_ (hN (by decide))|refine bA ?_ (hN (by decide)))
      exact hb6
     refine oF rfl rfl rfl rfl ?_;refine oF rfl rfl rfl rfl ?_;refine oF rfl rfl rfl rfl ?_;exact iN
    rintro q e h nx ⟨i,j,hj,hi,rfl,hno,rfl,rfl,rfl⟩;have hb8:=rY (P:=[(2000,oI (S)),(2001,oI (out)),(2002,oI (nb))]) hok rfl;unfold e8w NG fZ cR PW;((conv=>whnf);apply bm<;>intro g8);rotate_left
    ·have hil:i=nb.length:=(by simp [aA,aC] at g8;omega);rw [L6 (fun t ht=>hno t (by omega))] at hw7;rw [← hw6,hw7] at hQ;(conv=>whnf);rw [← hQ];rfl
    have hil:i<nb.length:=(by simp [aA,aC] at g8;omega);have hg:=hnbr (k:=i) hil;((conv=>whnf);apply bm<;>intro g9);rotate_left
    ·exfalso;simp [aA,aC] at g9;omega
    (conv=>whnf);refine eC (bY nb (i:=i) hil ?_) ?_
    ·show _+Int.toNat j*1=_;omega
    have hSg:=hok2.rng (aD nb i).toNat (by omega);have hat:=D2 (S:=S) (f:=f) (b:=b) hil hno;generalize hgg:aD nb i=g at *;cases hwk:N5 S f b g with
    |true =>
     have hwk2:=hwk;simp only [N5,Bool.and_eq_true,Bool.or_eq_true,decide_eq_true_eq] at hwk2;have hat:=hat hwk
     repeat' first
      |(((conv=>whnf);apply bm<;>intro c))
      |((conv=>whnf)
        refine eC (bY S (i:=g.toNat) (by rw [hlen];omega) ?_) ?_
        ·show _+Int.toNat g*1=_;omega)
      |((conv=>whnf)
        refine eC (bY S (i:=f.toNat) (by rw [hlen];omega) ?_) ?_
        ·show _+Int.toNat f*1=_;omega)
     all_goals (conv=>whnf)
     all_goals first
      |(refine⟨(aD S g.toNat).toNat,by omega,?_⟩
        refine aQ (P:=[(2000,oI (S)),(2001,oI (out++[g]))]) (W:=fZ (cR a b qP nE d1 d2 n) nP m nD nL c1 c2 n fo) (e0:=NG T (out.length+1) g) (n0:=2002) [(2001,2004)] ⟨g,out++[g],k7,rfl,by omega,by rw [← hw6,hw7,hat],⟨hg.1,hg.2⟩,by rw [List.length_append];exact Nat.succ_pos _,by rw [List.length_append];show _+1+_≤_;omega,by rw [List.length_append];rfl,rfl,rfl⟩ ?_ hok ?_ ?_ (bJ rfl) (IP rfl) (Nat.le_of_ble_eq_true rfl)
        ·unfold NG;((repeat' refine iE rfl rfl ?_);exact iN)
        ·(repeat' with_reducible first|refine aK ?_ (hN (by decide))|refine aS ?_ (hN (by decide))|refine bA ?_ (hN (by decide)))
         exact hb8
        refine oF rfl rfl rfl rfl ?_;refine oW rfl rfl rfl rfl (aU (aH aP _) (cL aP out g rfl)) ?_;exact iN)
      |exact jA (s:=1) (by omega) (by omega) (by assumption)
      |(exfalso;rename_i v;have:=Nat.le_of_ble_eq_true v;omega)
      |(exfalso;clear hat hw7 hw6 hN;simp [aA,aC,aF] at*<;> first|omega|(simp_all;done)|(simp_all;omega))
    |false =>
     clear hat;simp only [N5,Bool.and_eq_false_iff,Bool.or_eq_false_iff,decide_eq_false_iff_not] at hwk
     repeat' first
      |(((conv=>whnf);apply bm<;>intro c))
      |((conv=>whnf)
        refine eC (bY S (i:=g.toNat) (by rw [hlen];omega) ?_) ?_
        ·show _+Int.toNat g*1=_;omega)
      |((conv=>whnf)
        refine eC (bY S (i:=f.toNat) (by rw [hlen];omega) ?_) ?_
        ·show _+Int.toNat f*1=_;omega)
     all_goals (conv=>whnf)
     all_goals first
      |(refine⟨nb.length - (i+1),by omega,?_⟩
        refine aQ (P:=[(2000,oI (S)),(2001,oI (out)),(2002,oI (nb))]) (W:=fZ (cR a b qP nE d1 d2 n) nP m nD nL c1 c2 n fo) (e0:=e8w T out.length f nb.length (j+1)) (n0:=2003) [] ⟨i+1,j+1,by omega,by omega,rfl,fun t ht=>?_,rfl,rfl,rfl⟩ ?_ hok ?_ ?_ (bJ rfl) (fun _ h=>by cases h) (Nat.le_of_ble_eq_true rfl)
        ·by_cases e:t=i
         ·rw [e,hgg];simp only [N5,Bool.and_eq_false_iff,Bool.or_eq_false_iff,decide_eq_false_iff_not];exact hwk
         exact hno t (by omega)
        ·unfold e8w NG;((repeat' refine iE rfl rfl ?_);exact iN)
        ·(repeat' with_reducible first|refine aK ?_ (hN (by decide))|refine aS ?_ (hN (by decide))|refine bA ?_ (hN (by decide)))
         exact hb8
        refine oF rfl rfl rfl rfl ?_;refine oF rfl rfl rfl rfl ?_;refine oF rfl rfl rfl rfl ?_;exact iN)
      |(exfalso;clear hw7 hw6;simp [aA,aC,aF] at*<;> first|omega|(simp_all;done)|(simp_all;omega))
   have hlen:=hok2.len;have hbase0:=rY (P:=[(2000,oI (s.1)),(2001,oI (s.2))]) hok rfl;unfold JA fZ cR PW;((conv=>whnf);apply bm<;>intro g1);rotate_left
   ·exfalso;simp [aA,aC] at g1;rw [g1] at hpos;cases hpos
   ((conv=>whnf);apply bm<;>intro g2);rotate_left
   ·exfalso;simp [aA,aC] at g2;omega
   (conv=>whnf);refine eC (bY s.1 (i:=a.toNat) (by rw [hlen];omega) ?_) ?_
   ·show _+Int.toNat a*1=_;omega
   ((conv=>whnf);apply bm<;>intro g3);rotate_left
   ·have g3:¬ aD s.1 a.toNat=0:=(by simpa [aA,aC] using g3);have hstop:oQ a s=true:=(by unfold oQ;rw [decide_eq_true g3,Bool.or_true]);have hstep:=hok2.rng a.toNat (by omega);have hrun:wF m n a b=s:=(by rw [← hF];exact B5 hstop k);generalize hSS:s.1=S at *;((conv=>whnf);apply bm<;>intro g5)
    ·(conv=>whnf);refine eC (bY S (i:=a.toNat) (by rw [hlen];omega) ?_) ?_
     ·show _+Int.toNat a*1=_;omega
     ((conv=>whnf);apply bm<;>intro g6)
     ·have g6:aD S a.toNat=0:=(by simpa [aA,aC] using g6);have hO:TK m n a b=none:=(by unfold TK;rw [hrun,hSS,if_pos g6]);rw [hO] at hQ;(conv=>whnf);rw [← hQ];rfl
     have g6:¬ aD S a.toNat=0:=(by simpa [aA,aC] using g6);have hO:TK m n a b=nO m S b (T+1) a [a]:=(by unfold TK;rw [hrun,hSS,if_neg g6,hT]);rw [hO] at hQ;(conv=>whnf);refine⟨fun q e h nx=>∃ (f:Int) (out:List Int) (k:Nat),q=(aD S f.toNat).toNat∧q+1≤k∧nO m S b k f out=nO m S b (T+1) a [a]∧(0≤f∧f≤n)∧0<out.length∧out.length+q≤T+1∧e=NG T out.length f∧h=[(2000,oI (S)),(2001,oI (out))]++(fZ (cR a b qP nE d1 d2 n) nP m nD nL c1 c2 n fo)∧nx=2002,⟨(aD S a.toNat).toNat,?_⟩,?_⟩
     ·skip
      refine aQ (P:=[(2000,oI (S)),(2001,oI ([a]))]) (W:=fZ (cR a b qP nE d1 d2 n) nP m nD nL c1 c2 n fo) (e0:=NG T 1 a) (n0:=2002) [(2001,2002)] ⟨a,[a],T+1,rfl,by omega,rfl,⟨ha0,ha1⟩,Nat.one_pos,by show 1+_≤_;omega,rfl,rfl,rfl⟩ ?_ hok ?_ ?_ (bJ rfl) (IP rfl) (Nat.le_of_ble_eq_true rfl)
      ·unfold NG;((repeat' refine iE rfl rfl ?_);exact iN)
      ·(repeat' with_reducible first|refine aK ?_ (hN (by decide))|refine aS ?_ (hN (by decide))|refine bA ?_ (hN (by decide)))
       exact hbase0
      refine oF rfl rfl rfl rfl ?_;refine oW rfl rfl rfl rfl (aU (aH aP _) rfl) ?_;exact iN
     rintro q e h nx ⟨f,out,k6,rfl,hk6,hw6,hf6,hpo,hlo,rfl,rfl,rfl⟩;have hb6:=rY (P:=[(2000,oI (S)),(2001,oI (out))]) hok rfl;have hS6:=hok2.rng f.toNat (by omega);obtain⟨k7,rfl⟩:∃ k7,k6=k7+1:=⟨k6 - 1,by omega⟩;have hlen6:(flat aP.fl out).length=out.length:=(by rw [a7];show _*1=_;omega);unfold NG fZ cR PW;((conv=>whnf);apply bm<;>intro g7)
     ·have g7:f≠b:=(by simpa [aA,aC] using g7);have hw7:nO m S b (k7+1) f out=(match DI S f b (dS m f) with|some g=>nO m S b k7 g (out++[g])|none=>none):=NS g7;(conv=>whnf);refine⟨0,m,n,f,rfl,⟨_,_,_,_,_,_,_,_,_,_,_,_,_,_,_,_,_,_,rfl,rfl,List.take_length⟩,hm,?_⟩;have hnbl:=vD m f;have hnbr:=fun {k:Nat} (hk:k<(dS m f).length)=>gU hE hk;rcases Nat.eq_zero_or_pos (dS m f).length with hz|hz
      ·have hz2:dS m f=[]:=List.length_eq_zero_iff.1 hz;rw [hz2] at hw7 ⊢;rw [← hw6,hw7] at hQ;(conv=>whnf);refine⟨fun q e h nx=>q=0∧e=[(97,.slice none 0 0),(98,iv 0),(99,iv 0)]∧h=[]∧nx=2000,⟨0,?_⟩,?_⟩
       ·exact aO (e0:=[(97,.slice none 0 0),(98,iv 0),(99,iv 0)]) (h0:=[]) (n0:=2000) ⟨rfl,rfl,rfl,rfl⟩ (by ((repeat' refine iE rfl rfl ?_);exact iN)) (fun _ h=>by cases h) (by decide)
       rintro q e h nx ⟨rfl,rfl,rfl,rfl⟩;(conv=>whnf);rw [← hQ];rfl
      refine qH aP hz ?_;generalize hnb:dS m f=nb at *;(conv=>whnf);refine⟨fun q e h nx=>∃ (i:Nat) (j:Int),j=i∧i≤nb.length∧q=nb.length - i∧(∀ t,t<i→N5 S f b (aD nb t)=false)∧e=e8w T out.length f nb.length j∧h=[(2000,oI (S)),(2001,oI (out)),(2002,oI (nb))]++(fZ (cR a b qP nE d1 d2 n) nP m nD nL c1 c2 n fo)∧nx=2003,⟨nb.length,?_⟩,?_⟩
      ·skip
       refine aQ (P:=[(2000,oI (S)),(2001,oI (out)),(2002,oI (nb))]) (W:=fZ (cR a b qP nE d1 d2 n) nP m nD nL c1 c2 n fo) (e0:=e8w T out.length f nb.length 0) (n0:=2003) [] ⟨0,0,rfl,Nat.zero_le _,rfl,fun t h=>absurd h (Nat.not_lt_zero t),rfl,rfl,rfl⟩ ?_ hok ?_ ?_ (bJ rfl) (fun _ h=>by cases h) (Nat.le_of_ble_eq_true rfl)
       ·unfold e8w NG;((repeat' refine iE rfl rfl ?_);exact iN)
       ·(repeat' with_reducible first|refine aK ?_ (hN (by decide))|refine aS ?_ (hN (by decide))|refine bA ?_ (hN (by decide)))
        exact hb6
       refine oF rfl rfl rfl rfl ?_;refine oF rfl rfl rfl rfl ?_;refine oF rfl rfl rfl rfl ?_;exact iN
      rintro q e h nx ⟨i,j,hj,hi,rfl,hno,rfl,rfl,rfl⟩;have hb8:=rY (P:=[(2000,oI (S)),(2001,oI (out)),(2002,oI (nb))]) hok rfl;unfold e8w NG fZ cR PW;((conv=>whnf);apply bm<;>intro g8)
      ·have hil:i<nb.length:=(by simp [aA,aC] at g8;omega);have hg:=hnbr (k:=i) hil;((conv=>whnf);apply bm<;>intro g9)
       ·(conv=>whnf);refine eC (bY nb (i:=i) hil ?_) ?_
        ·show _+Int.toNat j*1=_;omega
        have hSg:=hok2.rng (aD nb i).toNat (by omega);have hat:=D2 (S:=S) (f:=f) (b:=b) hil hno;generalize hgg:aD nb i=g at *;cases hwk:N5 S f b g with
        |true =>
         have hwk2:=hwk;simp only [N5,Bool.and_eq_true,Bool.or_eq_true,decide_eq_true_eq] at hwk2;have hat:=hat hwk
         repeat' first
          |(((conv=>whnf);apply bm<;>intro c))
          |((conv=>whnf)
            refine eC (bY S (i:=g.toNat) (by rw [hlen];omega) ?_) ?_
            ·show _+Int.toNat g*1=_;omega)
          |((conv=>whnf)
            refine eC (bY S (i:=f.toNat) (by rw [hlen];omega) ?_) ?_
            ·show _+Int.toNat f*1=_;omega)
         all_goals (conv=>whnf)
         all_goals first
          |(refine⟨(aD S g.toNat).toNat,by omega,?_⟩
            refine aQ (P:=[(2000,oI (S)),(2001,oI (out++[g]))]) (W:=fZ (cR a b qP nE d1 d2 n) nP m nD nL c1 c2 n fo) (e0:=NG T (out.length+1) g) (n0:=2002) [(2001,2004)] ⟨g,out++[g],k7,rfl,by omega,by rw [← hw6,hw7,hat],⟨hg.1,hg.2⟩,by rw [List.length_append];exact Nat.succ_pos _,by rw [List.length_append];show _+1+_≤_;omega,by rw [List.length_append];rfl,rfl,rfl⟩ ?_ hok ?_ ?_ (bJ rfl) (IP rfl) (Nat.le_of_ble_eq_true rfl)
            ·unfold NG;((repeat' refine iE rfl rfl ?_);exact iN)
            ·(repeat' with_reducible first|refine aK ?_ (hN (by decide))|refine aS ?_ (hN (by decide))|refine bA ?_ (hN (by decide)))
             exact hb8
            refine oF rfl rfl rfl rfl ?_;refine oW rfl rfl rfl rfl (aU (aH aP _) (cL aP out g rfl)) ?_;exact iN)
          |exact jA (s:=1) (by omega) (by omega) (by assumption)
          |(exfalso;rename_i v;have:=Nat.le_of_ble_eq_true v;omega)
          |(exfalso;clear hat hw7 hw6 hN;simp [aA,aC,aF] at*<;> first|omega|(simp_all;done)|(simp_all;omega))
        |false =>
         clear hat;simp only [N5,Bool.and_eq_false_iff,Bool.or_eq_false_iff,decide_eq_false_iff_not] at hwk
         repeat' first
          |(((conv=>whnf);apply bm<;>intro c))
          |((conv=>whnf)
            refine eC (bY S (i:=g.toNat) (by rw [hlen];omega) ?_) ?_
            ·show _+Int.toNat g*1=_;omega)
          |((conv=>whnf)
            refine eC (bY S (i:=f.toNat) (by rw [hlen];omega) ?_) ?_
            ·show _+Int.toNat f*1=_;omega)
         all_goals (conv=>whnf)
         all_goals first
          |(refine⟨nb.length - (i+1),by omega,?_⟩
            refine aQ (P:=[(2000,oI (S)),(2001,oI (out)),(2002,oI (nb))]) (W:=fZ (cR a b qP nE d1 d2 n) nP m nD nL c1 c2 n fo) (e0:=e8w T out.length f nb.length (j+1)) (n0:=2003) [] ⟨i+1,j+1,by omega,by omega,rfl,fun t ht=>?_,rfl,rfl,rfl⟩ ?_ hok ?_ ?_ (bJ rfl) (fun _ h=>by cases h) (Nat.le_of_ble_eq_true rfl)
            ·by_cases e:t=i
             ·rw [e,hgg];simp only [N5,Bool.and_eq_false_iff,Bool.or_eq_false_iff,decide_eq_false_iff_not];exact hwk
             exact hno t (by omega)
            ·unfold e8w NG;((repeat' refine iE rfl rfl ?_);exact iN)
            ·(repeat' with_reducible first|refine aK ?_ (hN (by decide))|refine aS ?_ (hN (by decide))|refine bA ?_ (hN (by decide)))
             exact hb8
            refine oF rfl rfl rfl rfl ?_;refine oF rfl rfl rfl rfl ?_;refine oF rfl rfl rfl rfl ?_;exact iN)
          |(exfalso;clear hw7 hw6;simp [aA,aC,aF] at*<;> first|omega|(simp_all;done)|(simp_all;omega))
       exfalso;simp [aA,aC] at g9;omega
      have hil:i=nb.length:=(by simp [aA,aC] at g8;omega);rw [L6 (fun t ht=>hno t (by omega))] at hw7;rw [← hw6,hw7] at hQ;(conv=>whnf);rw [← hQ];rfl
     have g7:f=b:=(by simpa [aA,aC] using g7);have hw7:nO m S b (k7+1) f out=some out:=(by unfold nO;rw [if_pos g7]);rw [← hw6,hw7] at hQ;(conv=>whnf);rw [← hQ];have:=iR aP (l:=out) (e:=some 0) (h:=[(2000,oI (S)),(2001,oI (out))]++(fZ (cR a b qP nE d1 d2 n) nP m nD nL c1 c2 n fo)) (q:=2001) (nx:=2002) hpo rfl;exact this
    exfalso;simp [aA,aC] at g5;omega
   have g3:aD s.1 a.toNat=0:=(by simpa [aA,aC] using g3);have hstop:oQ a s=false:=(by unfold oQ;rw [decide_eq_false (fun h=>by rw [h] at hpos;cases hpos),decide_eq_false (fun h=>h g3)];rfl);have hmus:1≤RY s:=(by unfold RY;rw [if_neg (fun h=>by rw [h] at hpos;cases hpos)];omega);obtain⟨k9,rfl⟩:∃ k9,k=k9+1:=⟨k - 1,by omega⟩;rw [XN hstop] at hF;have hmur:=aCt (b:=b) hTn hE hok2 (fun h=>by rw [h] at hpos;cases hpos);have hwr:=WL (b:=b) hTn hE hok2;obtain⟨S0,N0⟩:=s;simp only at hpos hlen g3;have hN0:N0.length≤T:=(by have:=hok2.sz;simp only at this;omega);have hnx:=hok2.nx;simp only at hnx;have hmidok:=fun {i:Nat} (hi:i≤N0.length)=>EI (b:=b) hTn hE hok2 i hi;simp only at hmidok;(conv=>whnf)
   refine⟨fun q e h nx=>∃ (i:Nat) (j:Int),j=i∧i≤N0.length∧q=N0.length - i ∧
    (((fS m b N0 (S0,[]) i).2=[]∧e=p9 T N0.length (.slice none 0 0) j∧h=[(2000,oI ((fS m b N0 (S0,[]) i).1)),(2001,oI (N0))]++(fZ (cR a b qP nE d1 d2 n) nP m nD nL c1 c2 n fo)∧nx=2002) ∨
     (0<(fS m b N0 (S0,[]) i).2.length∧e=p9 T N0.length (.slice (some ⟨2002,0,none⟩) (fS m b N0 (S0,[]) i).2.length (fS m b N0 (S0,[]) i).2.length) j∧h=[(2000,oI ((fS m b N0 (S0,[]) i).1)),(2001,oI (N0)),(2002,oI ((fS m b N0 (S0,[]) i).2))]++(fZ (cR a b qP nE d1 d2 n) nP m nD nL c1 c2 n fo)∧nx=2003)),⟨N0.length,?_⟩,?_⟩
   ·skip
    refine aQ (P:=[(2000,oI (S0)),(2001,oI (N0))]) (W:=fZ (cR a b qP nE d1 d2 n) nP m nD nL c1 c2 n fo) (e0:=p9 T N0.length (.slice none 0 0) 0) (n0:=2002) [] ⟨0,0,rfl,Nat.zero_le _,rfl,.inl ⟨rfl,rfl,rfl,rfl⟩⟩ ?_ hok ?_ ?_ (bJ rfl) (fun _ h=>by cases h) (Nat.le_of_ble_eq_true rfl)
    ·unfold p9;((repeat' refine iE rfl rfl ?_);exact iN)
    ·(repeat' with_reducible first|refine aK ?_ (hN (by decide))|refine aS ?_ (hN (by decide))|refine bA ?_ (hN (by decide)))
     exact hbase0
    refine oF rfl rfl rfl rfl ?_;refine oF rfl rfl rfl rfl ?_;exact iN
   rintro q e h nx ⟨i,j,hj,hi,rfl,hx⟩;have hXk:=hmidok hi;have hXl:=hXk.len;rcases hx with ⟨hXn,rfl,rfl,rfl⟩|⟨hXp,rfl,rfl,rfl⟩
   ·have hms:∀ (h:¬ (aD N0 i=0∧aD N0 i≠b)),fS m b N0 (S0,[]) (i+1)=dZ (dS m (aD N0 i)) (aD N0 i) (fS m b N0 (S0,[]) i) (dS m (aD N0 i)).length:=fun h=>(by conv=>lhs;unfold fS;rw [if_neg h]);have hmt:∀ (h:aD N0 i=0∧aD N0 i≠b),fS m b N0 (S0,[]) (i+1)=fS m b N0 (S0,[]) i:=fun h=>(by conv=>lhs;unfold fS;rw [if_pos h]);generalize hX:fS m b N0 (S0,[]) i=X at *;obtain⟨S,N⟩:=X;simp only at hXn hXl;subst hXn;have hb2:=rY (P:=[(2000,oI (S)),(2001,oI (N0))]) hok rfl;unfold p9 fZ cR PW;((conv=>whnf);apply bm<;>intro g4);rotate_left
    ·have hil:i=N0.length:=(by simp [aA,aC] at g4;omega);have hrd:H9 m b (S0,N0)=(S,[]):=(by rw [← hX,hil];rfl);(conv=>whnf);refine⟨RY (H9 m b (S0,N0)),hmur,?_⟩;rw [hrd] at hF hmur hwr ⊢;refine aQ (P:=[(2000,oI (S))]) (W:=fZ (cR a b qP nE d1 d2 n) nP m nD nL c1 c2 n fo) (e0:=JA T (.slice none 0 0)) (n0:=2001) [] ⟨(S,[]),k9,rfl,by omega,hF,hwr,.inl ⟨rfl,rfl,rfl,rfl⟩⟩ ?_ hok ?_ ?_ (bJ rfl) (fun _ h=>by cases h) (Nat.le_of_ble_eq_true rfl)
     ·unfold JA;((repeat' refine iE rfl rfl ?_);exact iN)
     ·(repeat' with_reducible first|refine aK ?_ (hN (by decide))|refine aS ?_ (hN (by decide))|refine bA ?_ (hN (by decide)))
      exact hb2
     refine oF rfl rfl rfl rfl ?_;exact iN
    have hil:i<N0.length:=(by simp [aA,aC] at g4;omega);have hfr:=hnx i hil;((conv=>whnf);apply bm<;>intro g5);rotate_left
    ·exfalso;simp [aA,aC] at g5;omega
    (conv=>whnf);refine eC (bY N0 (i:=i) hil ?_) ?_
    ·show _+Int.toNat j*1=_;omega
    generalize hff:aD N0 i=f at *;by_cases hc:f=0∧f≠b
    ·have hm2:=hmt hc
     repeat' (((conv=>whnf);apply bm<;>intro c))
     all_goals (conv=>whnf)
     all_goals first
      |(skip
        refine⟨N0.length - (i+1),by omega,?_⟩;refine aQ (P:=[(2000,oI (S)),(2001,oI (N0))]) (W:=fZ (cR a b qP nE d1 d2 n) nP m nD nL c1 c2 n fo) (e0:=p9 T N0.length (.slice none 0 0) (j+1)) (n0:=2002) [] ⟨i+1,j+1,by omega,by omega,rfl,.inl ⟨by rw [hm2] <;> rfl,rfl,by rw [hm2] <;> rfl,rfl⟩⟩ ?_ hok ?_ ?_ (bJ rfl) (fun _ h=>by cases h) (Nat.le_of_ble_eq_true rfl)
        ·unfold p9;((repeat' refine iE rfl rfl ?_);exact iN)
        ·(repeat' with_reducible first|refine aK ?_ (hN (by decide))|refine aS ?_ (hN (by decide))|refine bA ?_ (hN (by decide)))
         exact hb2
        refine oF rfl rfl rfl rfl ?_;refine oF rfl rfl rfl rfl ?_;exact iN)
      |(exfalso;clear hms hmt hm2;simp [aA,aC,aF] at*<;> first|omega|(simp_all;done)|(simp_all;omega))
    repeat' (((conv=>whnf);apply bm<;>intro c))
    all_goals (conv=>whnf)
    all_goals first
     |(skip
       have hm1:=hms hc;(conv=>whnf);refine⟨0,m,n,f,rfl,⟨_,_,_,_,_,_,_,_,_,_,_,_,_,_,_,_,_,_,rfl,rfl,List.take_length⟩,hm,?_⟩;have hnbl:=vD m f;have hnbr:=fun {k:Nat} (hk:k<(dS m f).length)=>gU hE hk;have hinok:=fun {k:Nat} (hk:k≤(dS m f).length)=>ET (m:=m) hTn hE hXk (f:=f) ⟨hfr.1,by omega⟩ k hk;rcases Nat.eq_zero_or_pos (dS m f).length with hz|hz
       ·have hz2:dS m f=[]:=List.length_eq_zero_iff.1 hz;rw [hz2] at hm1 ⊢;have hm2:fS m b N0 (S0,[]) (i+1)=(S,[]):=hm1;(conv=>whnf);refine⟨fun q e h nx=>q=0∧e=sT T N0.length (.slice none 0 0) j f (.slice none 0 0) 0 0∧h=[(2000,oI (S)),(2001,oI (N0))]++(fZ (cR a b qP nE d1 d2 n) nP m nD nL c1 c2 n fo)∧nx=2002,⟨0,?_⟩,?_⟩
        ·skip
         refine aQ (P:=[(2000,oI (S)),(2001,oI (N0))]) (W:=fZ (cR a b qP nE d1 d2 n) nP m nD nL c1 c2 n fo) (e0:=sT T N0.length (.slice none 0 0) j f (.slice none 0 0) 0 0) (n0:=2002) [] ⟨rfl,rfl,rfl,rfl⟩ ?_ hok ?_ ?_ (bJ rfl) (fun _ h=>by cases h) (Nat.le_of_ble_eq_true rfl)
         ·unfold sT p9;((repeat' refine iE rfl rfl ?_);exact iN)
         ·(repeat' with_reducible first|refine aK ?_ (hN (by decide))|refine aS ?_ (hN (by decide))|refine bA ?_ (hN (by decide)))
          exact hb2
         refine oF rfl rfl rfl rfl ?_;refine oF rfl rfl rfl rfl ?_;exact iN
        rintro q e h nx ⟨rfl,rfl,rfl,rfl⟩;unfold sT p9 fZ cR PW;((conv=>whnf);apply bm<;>intro g8)
        ·(conv=>whnf);refine⟨N0.length - (i+1),by omega,?_⟩;refine aQ (P:=[(2000,oI (S)),(2001,oI (N0))]) (W:=fZ (cR a b qP nE d1 d2 n) nP m nD nL c1 c2 n fo) (e0:=p9 T N0.length (.slice none 0 0) (j+1)) (n0:=2002) [] ⟨i+1,j+1,by omega,by omega,rfl,.inl ⟨by rw [hm2] <;> rfl,rfl,by rw [hm2] <;> rfl,rfl⟩⟩ ?_ hok ?_ ?_ (bJ rfl) (fun _ h=>by cases h) (Nat.le_of_ble_eq_true rfl)
         ·unfold p9;((repeat' refine iE rfl rfl ?_);exact iN)
         ·(repeat' with_reducible first|refine aK ?_ (hN (by decide))|refine aS ?_ (hN (by decide))|refine bA ?_ (hN (by decide)))
          exact hb2
         refine oF rfl rfl rfl rfl ?_;refine oF rfl rfl rfl rfl ?_;exact iN
        exfalso;simp [aA,aC,aF] at g8;omega
       refine qH aP hz ?_;generalize hnb:dS m f=nb at *;(conv=>whnf)
       refine⟨fun q e h nx=>∃ (t:Nat) (z:Int),z=t∧t≤nb.length∧q=nb.length - t ∧
        (((dZ nb f (S,[]) t).2=[]∧e=sT T N0.length (.slice none 0 0) j f (.slice (some ⟨2003,0,none⟩) nb.length nb.length) nb.length z∧h=[(2000,oI ((dZ nb f (S,[]) t).1)),(2001,oI (N0)),(2003,oI (nb))]++(fZ (cR a b qP nE d1 d2 n) nP m nD nL c1 c2 n fo)∧nx=2004) ∨
         (0<(dZ nb f (S,[]) t).2.length∧e=sT T N0.length (.slice (some ⟨2002,0,none⟩) (dZ nb f (S,[]) t).2.length (dZ nb f (S,[]) t).2.length) j f (.slice (some ⟨2003,0,none⟩) nb.length nb.length) nb.length z∧h=[(2000,oI ((dZ nb f (S,[]) t).1)),(2001,oI (N0)),(2002,oI ((dZ nb f (S,[]) t).2)),(2003,oI (nb))]++(fZ (cR a b qP nE d1 d2 n) nP m nD nL c1 c2 n fo)∧nx=2004)),⟨nb.length,?_⟩,?_⟩
       ·skip
        refine aQ (P:=[(2000,oI (S)),(2001,oI (N0)),(2003,oI (nb))]) (W:=fZ (cR a b qP nE d1 d2 n) nP m nD nL c1 c2 n fo) (e0:=sT T N0.length (.slice none 0 0) j f (.slice (some ⟨2003,0,none⟩) nb.length nb.length) nb.length 0) (n0:=2004) [(2003,2002)] ⟨0,0,rfl,Nat.zero_le _,rfl,.inl ⟨rfl,rfl,rfl,rfl⟩⟩ ?_ hok ?_ ?_ (bJ rfl) (IP rfl) (Nat.le_of_ble_eq_true rfl)
        ·unfold sT p9;((repeat' refine iE rfl rfl ?_);exact iN)
        ·(repeat' with_reducible first|refine aK ?_ (hN (by decide))|refine aS ?_ (hN (by decide))|refine bA ?_ (hN (by decide)))
         exact hb2
        refine oF rfl rfl rfl rfl ?_;refine oF rfl rfl rfl rfl ?_;refine oF rfl rfl rfl rfl ?_;exact iN
       rintro q e h nx ⟨t,z,hz1,ht,rfl,hy⟩;have hYk:=hinok ht;have hYl:=hYk.len;have hYf:=hYk.rng f.toNat (by omega);have hYz:=hYk.sz;have hss:dZ nb f (S,[]) (t+1)=if aD (dZ nb f (S,[]) t).1 (aD nb t).toNat=0 then ((dZ nb f (S,[]) t).1.set (aD nb t).toNat (aD (dZ nb f (S,[]) t).1 f.toNat+1),(dZ nb f (S,[]) t).2++[aD nb t]) else dZ nb f (S,[]) t:=rfl
       have hend:t=nb.length→fS m b N0 (S0,[]) (i+1)=dZ nb f (S,[]) t:=fun h=>(by rw [h];exact hm1);generalize hY:dZ nb f (S,[]) t=Y at *;obtain⟨SY,NY⟩:=Y;simp only at hYl hYf hYz hss;rcases hy with ⟨hYn,rfl,rfl,rfl⟩|⟨hYp,rfl,rfl,rfl⟩
       ·simp only at hYn;subst hYn;have hb4:=rY (P:=[(2000,oI (SY)),(2001,oI (N0)),(2003,oI (nb))]) hok rfl;unfold sT p9 fZ cR PW;((conv=>whnf);apply bm<;>intro g7);rotate_left
        ·have htl:t=nb.length:=(by simp [aA,aC] at g7;omega);have hen:=hend htl;((conv=>whnf);apply bm<;>intro g8)
         ·(conv=>whnf);refine⟨N0.length - (i+1),by omega,?_⟩;refine aQ (P:=[(2000,oI (SY)),(2001,oI (N0))]) (W:=fZ (cR a b qP nE d1 d2 n) nP m nD nL c1 c2 n fo) (e0:=p9 T N0.length (.slice none 0 0) (j+1)) (n0:=2002) [] ⟨i+1,j+1,by omega,by omega,rfl,.inl ⟨by rw [hen] <;> rfl,rfl,by rw [hen] <;> rfl,rfl⟩⟩ ?_ hok ?_ ?_ (bJ rfl) (fun _ h=>by cases h) (Nat.le_of_ble_eq_true rfl)
          ·unfold p9;((repeat' refine iE rfl rfl ?_);exact iN)
          ·(repeat' with_reducible first|refine aK ?_ (hN (by decide))|refine aS ?_ (hN (by decide))|refine bA ?_ (hN (by decide)))
           exact hb4
          refine oF rfl rfl rfl rfl ?_;refine oF rfl rfl rfl rfl ?_;exact iN
         exfalso;simp [aA,aC,aF] at g8;omega
        have htl:t<nb.length:=(by simp [aA,aC] at g7;omega);have hgr:=hnbr htl;((conv=>whnf);apply bm<;>intro g8);rotate_left
        ·exfalso;simp [aA,aC] at g8;omega
        (conv=>whnf);refine eC (bY nb (i:=t) htl ?_) ?_
        ·show _+Int.toNat z*1=_;omega
        generalize hgg:aD nb t=g at *;((conv=>whnf);apply bm<;>intro g9);rotate_left
        ·exfalso;simp [aA,aC] at g9;omega
        (conv=>whnf);refine eC (bY SY (i:=g.toNat) (by rw [hYl];omega) ?_) ?_
        ·show _+Int.toNat g*1=_;omega
        ((conv=>whnf);apply bm<;>intro ga);rotate_left
        ·have ga:¬ aD SY g.toNat=0:=(by simpa [aA,aC] using ga);rw [if_neg ga] at hss;((conv=>whnf);apply bm<;>intro gb)
         ·(conv=>whnf);refine⟨nb.length - (t+1),by omega,?_⟩;refine aQ (P:=[(2000,oI (SY)),(2001,oI (N0)),(2003,oI (nb))]) (W:=fZ (cR a b qP nE d1 d2 n) nP m nD nL c1 c2 n fo) (e0:=sT T N0.length (.slice none 0 0) j f (.slice (some ⟨2003,0,none⟩) nb.length nb.length) nb.length (z+1)) (n0:=2004) [] ⟨t+1,z+1,by omega,by omega,rfl,.inl ⟨by rw [hss] <;> rfl,by rfl,by rw [hss] <;> rfl,rfl⟩⟩ ?_ hok ?_ ?_ (bJ rfl) (fun _ h=>by cases h) (Nat.le_of_ble_eq_true rfl)
          ·unfold sT p9;((repeat' refine iE rfl rfl ?_);exact iN)
          ·(repeat' with_reducible first|refine aK ?_ (hN (by decide))|refine aS ?_ (hN (by decide))|refine bA ?_ (hN (by decide)))
           exact hb4
          refine oF rfl rfl rfl rfl ?_;refine oF rfl rfl rfl rfl ?_;refine oF rfl rfl rfl rfl ?_;exact iN
         exfalso;simp [aA,aC,aF] at gb;omega
        have ga:aD SY g.toNat=0:=(by simpa [aA,aC] using ga);rw [if_pos ga] at hss
        repeat' first
         |(((conv=>whnf);apply bm<;>intro c))
         |((conv=>whnf)
           refine eC (bY SY (i:=f.toNat) (by rw [hYl];omega) ?_) ?_
           ·show _+Int.toNat f*1=_;omega)
        all_goals (conv=>whnf)
        all_goals first
         |(refine⟨nb.length - (t+1),by omega,?_⟩
           refine aQ (P:=[(2000,oI (SY.set g.toNat (aD SY f.toNat+1))),(2001,oI (N0)),(2002,oI ([g])),(2003,oI (nb))]) (W:=fZ (cR a b qP nE d1 d2 n) nP m nD nL c1 c2 n fo) (e0:=sT T N0.length (.slice (some ⟨2002,0,none⟩) 1 1) j f (.slice (some ⟨2003,0,none⟩) nb.length nb.length) nb.length (z+1)) (n0:=2004) [(2002,2005)] ⟨t+1,z+1,by omega,by omega,rfl,.inr ⟨by rw [hss];exact Nat.one_pos,by rw [hss];rfl,by rw [hss];rfl,rfl⟩⟩ ?_ hok ?_ ?_ (bJ rfl) (IP rfl) (Nat.le_of_ble_eq_true rfl)
           ·unfold sT p9;((repeat' refine iE rfl rfl ?_);exact iN)
           ·(repeat' with_reducible first|refine aK ?_ (hN (by decide))|refine aS ?_ (hN (by decide))|refine bA ?_ (hN (by decide)))
            exact hb4
           refine oW rfl rfl rfl (o':=oI (SY.set g.toNat (aD SY f.toNat+1))) ?_ (aN (aH _ _)) ?_
           ·have hp:=kS SY g.toNat (aD SY f.toNat+1) (by rw [hYl];omega);show some (a8.cells true false 1 (cN (flat aP.fl SY) (0+Int.toNat g*1) [iv (aD SY f.toNat+1)]))=_;rw [show 0+Int.toNat g*1=g.toNat*1 by omega,hp]
           refine oF rfl rfl rfl rfl ?_;refine oW rfl rfl rfl rfl (aU (aH aP _) rfl) ?_;refine oF rfl rfl rfl rfl ?_;exact iN)
         |(exfalso
           rename_i c;have hq:Nat.ble (0+Int.toNat g*1+1) (flat aP.fl SY).length=true:=Nat.ble_eq_true_of_le (by rw [a7,hYl];show _≤T*1;omega);exact Bool.false_ne_true (c.symm.trans hq))
         |(exfalso;clear hss hms hmt;simp [aA,aC,aF] at*<;> first|omega|(simp_all;done)|(simp_all;omega))
       simp only at hYp;have hb4:=rY (P:=[(2000,oI (SY)),(2001,oI (N0)),(2002,oI (NY)),(2003,oI (nb))]) hok rfl;unfold sT p9 fZ cR PW;have hlenY:(flat aP.fl NY).length=NY.length:=(by rw [a7];show _*1=_;omega);((conv=>whnf);apply bm<;>intro g7)
       ·have htl:t<nb.length:=(by simp [aA,aC] at g7;omega);have hgr:=hnbr htl;((conv=>whnf);apply bm<;>intro g8);rotate_left
        ·exfalso;simp [aA,aC] at g8;omega
        (conv=>whnf);refine eC (bY nb (i:=t) htl ?_) ?_
        ·show _+Int.toNat z*1=_;omega
        generalize hgg:aD nb t=g at *;((conv=>whnf);apply bm<;>intro g9);rotate_left
        ·exfalso;simp [aA,aC] at g9;omega
        (conv=>whnf);refine eC (bY SY (i:=g.toNat) (by rw [hYl];omega) ?_) ?_
        ·show _+Int.toNat g*1=_;omega
        ((conv=>whnf);apply bm<;>intro ga);rotate_left
        ·have ga:¬ aD SY g.toNat=0:=(by simpa [aA,aC] using ga);rw [if_neg ga] at hss;((conv=>whnf);apply bm<;>intro gb)
         ·(conv=>whnf);refine⟨nb.length - (t+1),by omega,?_⟩;refine aQ (P:=[(2000,oI (SY)),(2001,oI (N0)),(2002,oI (NY)),(2003,oI (nb))]) (W:=fZ (cR a b qP nE d1 d2 n) nP m nD nL c1 c2 n fo) (e0:=sT T N0.length (.slice (some ⟨2002,0,none⟩) NY.length NY.length) j f (.slice (some ⟨2003,0,none⟩) nb.length nb.length) nb.length (z+1)) (n0:=2004) [] ⟨t+1,z+1,by omega,by omega,rfl,.inr ⟨by rw [hss];exact hYp,by rw [hss] <;> rfl,by rw [hss] <;> rfl,rfl⟩⟩ ?_ hok ?_ ?_ (bJ rfl) (fun _ h=>by cases h) (Nat.le_of_ble_eq_true rfl)
          ·unfold sT p9;((repeat' refine iE rfl rfl ?_);exact iN)
          ·(repeat' with_reducible first|refine aK ?_ (hN (by decide))|refine aS ?_ (hN (by decide))|refine bA ?_ (hN (by decide)))
           exact hb4
          refine oF rfl rfl rfl rfl ?_;refine oF rfl rfl rfl rfl ?_;refine oF rfl rfl rfl rfl ?_;refine oF rfl rfl rfl rfl ?_;exact iN
         exfalso;simp [aA,aC,aF] at gb;omega
        have ga:aD SY g.toNat=0:=(by simpa [aA,aC] using ga);rw [if_pos ga] at hss
        repeat' first
         |(((conv=>whnf);apply bm<;>intro c))
         |((conv=>whnf)
           refine eC (bY SY (i:=f.toNat) (by rw [hYl];omega) ?_) ?_
           ·show _+Int.toNat f*1=_;omega)
        all_goals (conv=>whnf)
        all_goals first
         |(refine⟨nb.length - (t+1),by omega,?_⟩
           refine aQ (P:=[(2000,oI (SY.set g.toNat (aD SY f.toNat+1))),(2001,oI (N0)),(2002,oI (NY++[g])),(2003,oI (nb))]) (W:=fZ (cR a b qP nE d1 d2 n) nP m nD nL c1 c2 n fo) (e0:=sT T N0.length (.slice (some ⟨2002,0,none⟩) (NY.length+1) (NY.length+1)) j f (.slice (some ⟨2003,0,none⟩) nb.length nb.length) nb.length (z+1)) (n0:=2004) [(2002,2005)] ⟨t+1,z+1,by omega,by omega,rfl,.inr ⟨by rw [hss];exact (by rw [List.length_append];exact Nat.succ_pos _),by rw [hss];simp only [List.length_append];rfl,by rw [hss];rfl,rfl⟩⟩ ?_ hok ?_ ?_ (bJ rfl) (IP rfl) (Nat.le_of_ble_eq_true rfl)
           ·unfold sT p9;((repeat' refine iE rfl rfl ?_);exact iN)
           ·(repeat' with_reducible first|refine aK ?_ (hN (by decide))|refine aS ?_ (hN (by decide))|refine bA ?_ (hN (by decide)))
            exact hb4
           refine oW rfl rfl rfl (o':=oI (SY.set g.toNat (aD SY f.toNat+1))) ?_ (aN (aH _ _)) ?_
           ·have hp:=kS SY g.toNat (aD SY f.toNat+1) (by rw [hYl];omega);show some (a8.cells true false 1 (cN (flat aP.fl SY) (0+Int.toNat g*1) [iv (aD SY f.toNat+1)]))=_;rw [show 0+Int.toNat g*1=g.toNat*1 by omega,hp]
           refine oF rfl rfl rfl rfl ?_;refine oW rfl rfl rfl rfl (aU (aH aP _) (cL aP NY g rfl)) ?_;refine oF rfl rfl rfl rfl ?_;exact iN)
         |exact jA (s:=1) (by omega) (by omega) (by assumption)
         |(exfalso;rename_i v;have:=Nat.le_of_ble_eq_true v;omega)
         |(exfalso
           rename_i c;have hq:Nat.ble (0+Int.toNat g*1+1) (flat aP.fl SY).length=true:=Nat.ble_eq_true_of_le (by rw [a7,hYl];show _≤T*1;omega);exact Bool.false_ne_true (c.symm.trans hq))
         |(exfalso;clear hss hms hmt;simp [aA,aC,aF] at*<;> first|omega|(simp_all;done)|(simp_all;omega))
       have htl:t=nb.length:=(by simp [aA,aC] at g7;omega);have hen:=hend htl;((conv=>whnf);apply bm<;>intro g8)
       ·(conv=>whnf);refine⟨N0.length - (i+1),by omega,?_⟩;refine aQ (P:=[(2000,oI (SY)),(2001,oI (N0)),(2002,oI (NY))]) (W:=fZ (cR a b qP nE d1 d2 n) nP m nD nL c1 c2 n fo) (e0:=p9 T N0.length (.slice (some ⟨2002,0,none⟩) NY.length NY.length) (j+1)) (n0:=2003) [] ⟨i+1,j+1,by omega,by omega,rfl,.inr ⟨by rw [hen];exact hYp,by rw [hen] <;> rfl,by rw [hen] <;> rfl,rfl⟩⟩ ?_ hok ?_ ?_ (bJ rfl) (fun _ h=>by cases h) (Nat.le_of_ble_eq_true rfl)
        ·unfold p9;((repeat' refine iE rfl rfl ?_);exact iN)
        ·(repeat' with_reducible first|refine aK ?_ (hN (by decide))|refine aS ?_ (hN (by decide))|refine bA ?_ (hN (by decide)))
         exact hb4
        refine oF rfl rfl rfl rfl ?_;refine oF rfl rfl rfl rfl ?_;refine oF rfl rfl rfl rfl ?_;exact iN
       exfalso;simp [aA,aC,aF] at g8;omega)
     |(exfalso;clear hms hmt;simp [aA,aC,aF] at*<;> first|omega|(simp_all;done)|(simp_all;omega))
   have hms:∀ (h:¬ (aD N0 i=0∧aD N0 i≠b)),fS m b N0 (S0,[]) (i+1)=dZ (dS m (aD N0 i)) (aD N0 i) (fS m b N0 (S0,[]) i) (dS m (aD N0 i)).length:=fun h=>(by conv=>lhs;unfold fS;rw [if_neg h]);have hmt:∀ (h:aD N0 i=0∧aD N0 i≠b),fS m b N0 (S0,[]) (i+1)=fS m b N0 (S0,[]) i:=fun h=>(by conv=>lhs;unfold fS;rw [if_pos h]);generalize hX:fS m b N0 (S0,[]) i=X at *;obtain⟨S,N⟩:=X;simp only at hXp hXl;have hb2:=rY (P:=[(2000,oI (S)),(2001,oI (N0)),(2002,oI (N))]) hok rfl;unfold p9 fZ cR PW;((conv=>whnf);apply bm<;>intro g4);rotate_left
   ·have hil:i=N0.length:=(by simp [aA,aC] at g4;omega);have hrd:H9 m b (S0,N0)=(S,N):=(by rw [← hX,hil];rfl);(conv=>whnf);refine⟨RY (H9 m b (S0,N0)),hmur,?_⟩;rw [hrd] at hF hmur hwr ⊢;refine aQ (P:=[(2000,oI (S)),(2001,oI (N))]) (W:=fZ (cR a b qP nE d1 d2 n) nP m nD nL c1 c2 n fo) (e0:=JA T (.slice (some ⟨2001,0,none⟩) N.length N.length)) (n0:=2002) [(2001,2002)] ⟨(S,N),k9,rfl,by omega,hF,hwr,.inr ⟨hXp,rfl,rfl,rfl⟩⟩ ?_ hok ?_ ?_ (bJ rfl) (IP rfl) (Nat.le_of_ble_eq_true rfl)
    ·unfold JA;((repeat' refine iE rfl rfl ?_);exact iN)
    ·(repeat' with_reducible first|refine aK ?_ (hN (by decide))|refine aS ?_ (hN (by decide))|refine bA ?_ (hN (by decide)))
     exact hb2
    refine oF rfl rfl rfl rfl ?_;refine oF rfl rfl rfl rfl ?_;exact iN
   have hil:i<N0.length:=(by simp [aA,aC] at g4;omega);have hfr:=hnx i hil;((conv=>whnf);apply bm<;>intro g5);rotate_left
   ·exfalso;simp [aA,aC] at g5;omega
   (conv=>whnf);refine eC (bY N0 (i:=i) hil ?_) ?_
   ·show _+Int.toNat j*1=_;omega
   generalize hff:aD N0 i=f at *;by_cases hc:f=0∧f≠b
   ·have hm2:=hmt hc
    repeat' (((conv=>whnf);apply bm<;>intro c))
    all_goals (conv=>whnf)
    all_goals first
     |(skip
       refine⟨N0.length - (i+1),by omega,?_⟩;refine aQ (P:=[(2000,oI (S)),(2001,oI (N0)),(2002,oI (N))]) (W:=fZ (cR a b qP nE d1 d2 n) nP m nD nL c1 c2 n fo) (e0:=p9 T N0.length (.slice (some ⟨2002,0,none⟩) N.length N.length) (j+1)) (n0:=2003) [] ⟨i+1,j+1,by omega,by omega,rfl,.inr ⟨by rw [hm2];exact hXp,by rw [hm2] <;> rfl,by rw [hm2] <;> rfl,rfl⟩⟩ ?_ hok ?_ ?_ (bJ rfl) (fun _ h=>by cases h) (Nat.le_of_ble_eq_true rfl)
       ·unfold p9;((repeat' refine iE rfl rfl ?_);exact iN)
       ·(repeat' with_reducible first|refine aK ?_ (hN (by decide))|refine aS ?_ (hN (by decide))|refine bA ?_ (hN (by decide)))
        exact hb2
       refine oF rfl rfl rfl rfl ?_;refine oF rfl rfl rfl rfl ?_;refine oF rfl rfl rfl rfl ?_;exact iN)
     |(exfalso;clear hms hmt hm2;simp [aA,aC,aF] at*<;> first|omega|(simp_all;done)|(simp_all;omega))
   repeat' (((conv=>whnf);apply bm<;>intro c))
   all_goals (conv=>whnf)
   all_goals first
    |(skip
      have hm1:=hms hc;(conv=>whnf);refine⟨0,m,n,f,rfl,⟨_,_,_,_,_,_,_,_,_,_,_,_,_,_,_,_,_,_,rfl,rfl,List.take_length⟩,hm,?_⟩;have hnbl:=vD m f;have hnbr:=fun {k:Nat} (hk:k<(dS m f).length)=>gU hE hk;have hinok:=fun {k:Nat} (hk:k≤(dS m f).length)=>ET (m:=m) hTn hE hXk (f:=f) ⟨hfr.1,by omega⟩ k hk;rcases Nat.eq_zero_or_pos (dS m f).length with hz|hz
      ·have hz2:dS m f=[]:=List.length_eq_zero_iff.1 hz;rw [hz2] at hm1 ⊢;have hm2:fS m b N0 (S0,[]) (i+1)=(S,N):=hm1;(conv=>whnf);refine⟨fun q e h nx=>q=0∧e=sT T N0.length (.slice (some ⟨2002,0,none⟩) N.length N.length) j f (.slice none 0 0) 0 0∧h=[(2000,oI (S)),(2001,oI (N0)),(2002,oI (N))]++(fZ (cR a b qP nE d1 d2 n) nP m nD nL c1 c2 n fo)∧nx=2003,⟨0,?_⟩,?_⟩
       ·skip
        refine aQ (P:=[(2000,oI (S)),(2001,oI (N0)),(2002,oI (N))]) (W:=fZ (cR a b qP nE d1 d2 n) nP m nD nL c1 c2 n fo) (e0:=sT T N0.length (.slice (some ⟨2002,0,none⟩) N.length N.length) j f (.slice none 0 0) 0 0) (n0:=2003) [] ⟨rfl,rfl,rfl,rfl⟩ ?_ hok ?_ ?_ (bJ rfl) (fun _ h=>by cases h) (Nat.le_of_ble_eq_true rfl)
        ·unfold sT p9;((repeat' refine iE rfl rfl ?_);exact iN)
        ·(repeat' with_reducible first|refine aK ?_ (hN (by decide))|refine aS ?_ (hN (by decide))|refine bA ?_ (hN (by decide)))
         exact hb2
        refine oF rfl rfl rfl rfl ?_;refine oF rfl rfl rfl rfl ?_;refine oF rfl rfl rfl rfl ?_;exact iN
       rintro q e h nx ⟨rfl,rfl,rfl,rfl⟩;unfold sT p9 fZ cR PW;((conv=>whnf);apply bm<;>intro g8)
       ·(conv=>whnf);refine⟨N0.length - (i+1),by omega,?_⟩;refine aQ (P:=[(2000,oI (S)),(2001,oI (N0)),(2002,oI (N))]) (W:=fZ (cR a b qP nE d1 d2 n) nP m nD nL c1 c2 n fo) (e0:=p9 T N0.length (.slice (some ⟨2002,0,none⟩) N.length N.length) (j+1)) (n0:=2003) [] ⟨i+1,j+1,by omega,by omega,rfl,.inr ⟨by rw [hm2];exact hXp,by rw [hm2] <;> rfl,by rw [hm2] <;> rfl,rfl⟩⟩ ?_ hok ?_ ?_ (bJ rfl) (fun _ h=>by cases h) (Nat.le_of_ble_eq_true rfl)
        ·unfold p9;((repeat' refine iE rfl rfl ?_);exact iN)
        ·(repeat' with_reducible first|refine aK ?_ (hN (by decide))|refine aS ?_ (hN (by decide))|refine bA ?_ (hN (by decide)))
         exact hb2
        refine oF rfl rfl rfl rfl ?_;refine oF rfl rfl rfl rfl ?_;refine oF rfl rfl rfl rfl ?_;exact iN
       exfalso;simp [aA,aC,aF] at g8;omega
      refine qH aP hz ?_;generalize hnb:dS m f=nb at *;(conv=>whnf)
      refine⟨fun q e h nx=>∃ (t:Nat) (z:Int),z=t∧t≤nb.length∧q=nb.length - t ∧
       (((dZ nb f (S,N) t).2=[]∧e=sT T N0.length (.slice none 0 0) j f (.slice (some ⟨2003,0,none⟩) nb.length nb.length) nb.length z∧h=[(2000,oI ((dZ nb f (S,N) t).1)),(2001,oI (N0)),(2003,oI (nb))]++(fZ (cR a b qP nE d1 d2 n) nP m nD nL c1 c2 n fo)∧nx=2004) ∨
        (0<(dZ nb f (S,N) t).2.length∧e=sT T N0.length (.slice (some ⟨2002,0,none⟩) (dZ nb f (S,N) t).2.length (dZ nb f (S,N) t).2.length) j f (.slice (some ⟨2003,0,none⟩) nb.length nb.length) nb.length z∧h=[(2000,oI ((dZ nb f (S,N) t).1)),(2001,oI (N0)),(2002,oI ((dZ nb f (S,N) t).2)),(2003,oI (nb))]++(fZ (cR a b qP nE d1 d2 n) nP m nD nL c1 c2 n fo)∧nx=2004)),⟨nb.length,?_⟩,?_⟩
      ·skip
       refine aQ (P:=[(2000,oI (S)),(2001,oI (N0)),(2002,oI (N)),(2003,oI (nb))]) (W:=fZ (cR a b qP nE d1 d2 n) nP m nD nL c1 c2 n fo) (e0:=sT T N0.length (.slice (some ⟨2002,0,none⟩) N.length N.length) j f (.slice (some ⟨2003,0,none⟩) nb.length nb.length) nb.length 0) (n0:=2004) [] ⟨0,0,rfl,Nat.zero_le _,rfl,.inr ⟨hXp,rfl,rfl,rfl⟩⟩ ?_ hok ?_ ?_ (bJ rfl) (fun _ h=>by cases h) (Nat.le_of_ble_eq_true rfl)
       ·unfold sT p9;((repeat' refine iE rfl rfl ?_);exact iN)
       ·(repeat' with_reducible first|refine aK ?_ (hN (by decide))|refine aS ?_ (hN (by decide))|refine bA ?_ (hN (by decide)))
        exact hb2
       refine oF rfl rfl rfl rfl ?_;refine oF rfl rfl rfl rfl ?_;refine oF rfl rfl rfl rfl ?_;refine oF rfl rfl rfl rfl ?_;exact iN
      rintro q e h nx ⟨t,z,hz1,ht,rfl,hy⟩;have hYk:=hinok ht;have hYl:=hYk.len;have hYf:=hYk.rng f.toNat (by omega);have hYz:=hYk.sz;have hss:dZ nb f (S,N) (t+1)=if aD (dZ nb f (S,N) t).1 (aD nb t).toNat=0 then ((dZ nb f (S,N) t).1.set (aD nb t).toNat (aD (dZ nb f (S,N) t).1 f.toNat+1),(dZ nb f (S,N) t).2++[aD nb t]) else dZ nb f (S,N) t:=rfl
      have hend:t=nb.length→fS m b N0 (S0,[]) (i+1)=dZ nb f (S,N) t:=fun h=>(by rw [h];exact hm1);generalize hY:dZ nb f (S,N) t=Y at *;obtain⟨SY,NY⟩:=Y;simp only at hYl hYf hYz hss;rcases hy with ⟨hYn,rfl,rfl,rfl⟩|⟨hYp,rfl,rfl,rfl⟩
      ·simp only at hYn;subst hYn;have hb4:=rY (P:=[(2000,oI (SY)),(2001,oI (N0)),(2003,oI (nb))]) hok rfl;unfold sT p9 fZ cR PW;((conv=>whnf);apply bm<;>intro g7);rotate_left
       ·have htl:t=nb.length:=(by simp [aA,aC] at g7;omega);have hen:=hend htl;((conv=>whnf);apply bm<;>intro g8)
        ·(conv=>whnf);refine⟨N0.length - (i+1),by omega,?_⟩;refine aQ (P:=[(2000,oI (SY)),(2001,oI (N0))]) (W:=fZ (cR a b qP nE d1 d2 n) nP m nD nL c1 c2 n fo) (e0:=p9 T N0.length (.slice none 0 0) (j+1)) (n0:=2002) [] ⟨i+1,j+1,by omega,by omega,rfl,.inl ⟨by rw [hen] <;> rfl,rfl,by rw [hen] <;> rfl,rfl⟩⟩ ?_ hok ?_ ?_ (bJ rfl) (fun _ h=>by cases h) (Nat.le_of_ble_eq_true rfl)
         ·unfold p9;((repeat' refine iE rfl rfl ?_);exact iN)
         ·(repeat' with_reducible first|refine aK ?_ (hN (by decide))|refine aS ?_ (hN (by decide))|refine bA ?_ (hN (by decide)))
          exact hb4
         refine oF rfl rfl rfl rfl ?_;refine oF rfl rfl rfl rfl ?_;exact iN
        exfalso;simp [aA,aC,aF] at g8;omega
       have htl:t<nb.length:=(by simp [aA,aC] at g7;omega);have hgr:=hnbr htl;((conv=>whnf);apply bm<;>intro g8);rotate_left
       ·exfalso;simp [aA,aC] at g8;omega
       (conv=>whnf);refine eC (bY nb (i:=t) htl ?_) ?_
       ·show _+Int.toNat z*1=_;omega
       generalize hgg:aD nb t=g at *;((conv=>whnf);apply bm<;>intro g9);rotate_left
       ·exfalso;simp [aA,aC] at g9;omega
       (conv=>whnf);refine eC (bY SY (i:=g.toNat) (by rw [hYl];omega) ?_) ?_
       ·show _+Int.toNat g*1=_;omega
       ((conv=>whnf);apply bm<;>intro ga);rotate_left
       ·have ga:¬ aD SY g.toNat=0:=(by simpa [aA,aC] using ga);rw [if_neg ga] at hss;((conv=>whnf);apply bm<;>intro gb)
        ·(conv=>whnf);refine⟨nb.length - (t+1),by omega,?_⟩;refine aQ (P:=[(2000,oI (SY)),(2001,oI (N0)),(2003,oI (nb))]) (W:=fZ (cR a b qP nE d1 d2 n) nP m nD nL c1 c2 n fo) (e0:=sT T N0.length (.slice none 0 0) j f (.slice (some ⟨2003,0,none⟩) nb.length nb.length) nb.length (z+1)) (n0:=2004) [] ⟨t+1,z+1,by omega,by omega,rfl,.inl ⟨by rw [hss] <;> rfl,by rfl,by rw [hss] <;> rfl,rfl⟩⟩ ?_ hok ?_ ?_ (bJ rfl) (fun _ h=>by cases h) (Nat.le_of_ble_eq_true rfl)
         ·unfold sT p9;((repeat' refine iE rfl rfl ?_);exact iN)
         ·(repeat' with_reducible first|refine aK ?_ (hN (by decide))|refine aS ?_ (hN (by decide))|refine bA ?_ (hN (by decide)))
          exact hb4
         refine oF rfl rfl rfl rfl ?_;refine oF rfl rfl rfl rfl ?_;refine oF rfl rfl rfl rfl ?_;exact iN
        exfalso;simp [aA,aC,aF] at gb;omega
       have ga:aD SY g.toNat=0:=(by simpa [aA,aC] using ga);rw [if_pos ga] at hss
       repeat' first
        |(((conv=>whnf);apply bm<;>intro c))
        |((conv=>whnf)
          refine eC (bY SY (i:=f.toNat) (by rw [hYl];omega) ?_) ?_
          ·show _+Int.toNat f*1=_;omega)
       all_goals (conv=>whnf)
       all_goals first
        |(refine⟨nb.length - (t+1),by omega,?_⟩
          refine aQ (P:=[(2000,oI (SY.set g.toNat (aD SY f.toNat+1))),(2001,oI (N0)),(2002,oI ([g])),(2003,oI (nb))]) (W:=fZ (cR a b qP nE d1 d2 n) nP m nD nL c1 c2 n fo) (e0:=sT T N0.length (.slice (some ⟨2002,0,none⟩) 1 1) j f (.slice (some ⟨2003,0,none⟩) nb.length nb.length) nb.length (z+1)) (n0:=2004) [(2002,2005)] ⟨t+1,z+1,by omega,by omega,rfl,.inr ⟨by rw [hss];exact Nat.one_pos,by rw [hss];rfl,by rw [hss];rfl,rfl⟩⟩ ?_ hok ?_ ?_ (bJ rfl) (IP rfl) (Nat.le_of_ble_eq_true rfl)
          ·unfold sT p9;((repeat' refine iE rfl rfl ?_);exact iN)
          ·(repeat' with_reducible first|refine aK ?_ (hN (by decide))|refine aS ?_ (hN (by decide))|refine bA ?_ (hN (by decide)))
           exact hb4
          refine oW rfl rfl rfl (o':=oI (SY.set g.toNat (aD SY f.toNat+1))) ?_ (aN (aH _ _)) ?_
          ·have hp:=kS SY g.toNat (aD SY f.toNat+1) (by rw [hYl];omega);show some (a8.cells true false 1 (cN (flat aP.fl SY) (0+Int.toNat g*1) [iv (aD SY f.toNat+1)]))=_;rw [show 0+Int.toNat g*1=g.toNat*1 by omega,hp]
          refine oF rfl rfl rfl rfl ?_;refine oW rfl rfl rfl rfl (aU (aH aP _) rfl) ?_;refine oF rfl rfl rfl rfl ?_;exact iN)
        |(exfalso
          rename_i c;have hq:Nat.ble (0+Int.toNat g*1+1) (flat aP.fl SY).length=true:=Nat.ble_eq_true_of_le (by rw [a7,hYl];show _≤T*1;omega);exact Bool.false_ne_true (c.symm.trans hq))
        |(exfalso;clear hss hms hmt;simp [aA,aC,aF] at*<;> first|omega|(simp_all;done)|(simp_all;omega))
      simp only at hYp;have hb4:=rY (P:=[(2000,oI (SY)),(2001,oI (N0)),(2002,oI (NY)),(2003,oI (nb))]) hok rfl;unfold sT p9 fZ cR PW;have hlenY:(flat aP.fl NY).length=NY.length:=(by rw [a7];show _*1=_;omega);((conv=>whnf);apply bm<;>intro g7)
      ·have htl:t<nb.length:=(by simp [aA,aC] at g7;omega);have hgr:=hnbr htl;((conv=>whnf);apply bm<;>intro g8);rotate_left
       ·exfalso;simp [aA,aC] at g8;omega
       (conv=>whnf);refine eC (bY nb (i:=t) htl ?_) ?_
       ·show _+Int.toNat z*1=_;omega
       generalize hgg:aD nb t=g at *;((conv=>whnf);apply bm<;>intro g9);rotate_left
       ·exfalso;simp [aA,aC] at g9;omega
       (conv=>whnf);refine eC (bY SY (i:=g.toNat) (by rw [hYl];omega) ?_) ?_
       ·show _+Int.toNat g*1=_;omega
       ((conv=>whnf);apply bm<;>intro ga);rotate_left
       ·have ga:¬ aD SY g.toNat=0:=(by simpa [aA,aC] using ga);rw [if_neg ga] at hss;((conv=>whnf);apply bm<;>intro gb)
        ·(conv=>whnf);refine⟨nb.length - (t+1),by omega,?_⟩;refine aQ (P:=[(2000,oI (SY)),(2001,oI (N0)),(2002,oI (NY)),(2003,oI (nb))]) (W:=fZ (cR a b qP nE d1 d2 n) nP m nD nL c1 c2 n fo) (e0:=sT T N0.length (.slice (some ⟨2002,0,none⟩) NY.length NY.length) j f (.slice (some ⟨2003,0,none⟩) nb.length nb.length) nb.length (z+1)) (n0:=2004) [] ⟨t+1,z+1,by omega,by omega,rfl,.inr ⟨by rw [hss];exact hYp,by rw [hss] <;> rfl,by rw [hss] <;> rfl,rfl⟩⟩ ?_ hok ?_ ?_ (bJ rfl) (fun _ h=>by cases h) (Nat.le_of_ble_eq_true rfl)
         ·unfold sT p9;((repeat' refine iE rfl rfl ?_);exact iN)
         ·(repeat' with_reducible first|refine aK ?_ (hN (by decide))|refine aS ?_ (hN (by decide))|refine bA ?_ (hN (by decide)))
          exact hb4
         refine oF rfl rfl rfl rfl ?_;refine oF rfl rfl rfl rfl ?_;refine oF rfl rfl rfl rfl ?_;refine oF rfl rfl rfl rfl ?_;exact iN
        exfalso;simp [aA,aC,aF] at gb;omega
       have ga:aD SY g.toNat=0:=(by simpa [aA,aC] using ga);rw [if_pos ga] at hss
       repeat' first
        |(((conv=>whnf);apply bm<;>intro c))
        |((conv=>whnf)
          refine eC (bY SY (i:=f.toNat) (by rw [hYl];omega) ?_) ?_
          ·show _+Int.toNat f*1=_;omega)
       all_goals (conv=>whnf)
       all_goals first
        |(refine⟨nb.length - (t+1),by omega,?_⟩
          refine aQ (P:=[(2000,oI (SY.set g.toNat (aD SY f.toNat+1))),(2001,oI (N0)),(2002,oI (NY++[g])),(2003,oI (nb))]) (W:=fZ (cR a b qP nE d1 d2 n) nP m nD nL c1 c2 n fo) (e0:=sT T N0.length (.slice (some ⟨2002,0,none⟩) (NY.length+1) (NY.length+1)) j f (.slice (some ⟨2003,0,none⟩) nb.length nb.length) nb.length (z+1)) (n0:=2004) [(2002,2005)] ⟨t+1,z+1,by omega,by omega,rfl,.inr ⟨by rw [hss];exact (by rw [List.length_append];exact Nat.succ_pos _),by rw [hss];simp only [List.length_append];rfl,by rw [hss];rfl,rfl⟩⟩ ?_ hok ?_ ?_ (bJ rfl) (IP rfl) (Nat.le_of_ble_eq_true rfl)
          ·unfold sT p9;((repeat' refine iE rfl rfl ?_);exact iN)
          ·(repeat' with_reducible first|refine aK ?_ (hN (by decide))|refine aS ?_ (hN (by decide))|refine bA ?_ (hN (by decide)))
           exact hb4
          refine oW rfl rfl rfl (o':=oI (SY.set g.toNat (aD SY f.toNat+1))) ?_ (aN (aH _ _)) ?_
          ·have hp:=kS SY g.toNat (aD SY f.toNat+1) (by rw [hYl];omega);show some (a8.cells true false 1 (cN (flat aP.fl SY) (0+Int.toNat g*1) [iv (aD SY f.toNat+1)]))=_;rw [show 0+Int.toNat g*1=g.toNat*1 by omega,hp]
          refine oF rfl rfl rfl rfl ?_;refine oW rfl rfl rfl rfl (aU (aH aP _) (cL aP NY g rfl)) ?_;refine oF rfl rfl rfl rfl ?_;exact iN)
        |exact jA (s:=1) (by omega) (by omega) (by assumption)
        |(exfalso;rename_i v;have:=Nat.le_of_ble_eq_true v;omega)
        |(exfalso
          rename_i c;have hq:Nat.ble (0+Int.toNat g*1+1) (flat aP.fl SY).length=true:=Nat.ble_eq_true_of_le (by rw [a7,hYl];show _≤T*1;omega);exact Bool.false_ne_true (c.symm.trans hq))
        |(exfalso;clear hss hms hmt;simp [aA,aC,aF] at*<;> first|omega|(simp_all;done)|(simp_all;omega))
      have htl:t=nb.length:=(by simp [aA,aC] at g7;omega);have hen:=hend htl;((conv=>whnf);apply bm<;>intro g8)
      ·(conv=>whnf);refine⟨N0.length - (i+1),by omega,?_⟩;refine aQ (P:=[(2000,oI (SY)),(2001,oI (N0)),(2002,oI (NY))]) (W:=fZ (cR a b qP nE d1 d2 n) nP m nD nL c1 c2 n fo) (e0:=p9 T N0.length (.slice (some ⟨2002,0,none⟩) NY.length NY.length) (j+1)) (n0:=2003) [] ⟨i+1,j+1,by omega,by omega,rfl,.inr ⟨by rw [hen];exact hYp,by rw [hen] <;> rfl,by rw [hen] <;> rfl,rfl⟩⟩ ?_ hok ?_ ?_ (bJ rfl) (fun _ h=>by cases h) (Nat.le_of_ble_eq_true rfl)
       ·unfold p9;((repeat' refine iE rfl rfl ?_);exact iN)
       ·(repeat' with_reducible first|refine aK ?_ (hN (by decide))|refine aS ?_ (hN (by decide))|refine bA ?_ (hN (by decide)))
        exact hb4
       refine oF rfl rfl rfl rfl ?_;refine oF rfl rfl rfl rfl ?_;refine oF rfl rfl rfl rfl ?_;exact iN
      exfalso;simp [aA,aC,aF] at g8;omega)
    |(exfalso;clear hms hmt;simp [aA,aC,aF] at*<;> first|omega|(simp_all;done)|(simp_all;omega))
  exfalso;simp [aA,aC,aF] at m1;omega
end Go.Aw
end
