/-
  Parts of a proof. No condition.
-/
import Derived.Test.YtjahkcbdecgbhaaGreatQBo
set_option linter.unusedSimpArgs false
set_option linter.unusedVariables false
noncomputable section
namespace Go.Aw
set_option maxRecDepth 100000
set_option maxHeartbeats 4000000
def cH (a b:Int)(nP nE:Nat)(d1 d2:Nat)(n:Int):Heap:=[(7,PD a),(8,PD b),(9,.cells false false 1 [.slice (some ⟨10,0,none⟩) nP d1,.slice (some ⟨11,0,none⟩) nE d2,iv n])]
theorem Y6 {a b:Int}{nE d1 d2 nP:Nat}{m:List Ed}{nD nL c1 c2:Nat}{n:Int}{fo:Option (Nat × Nat)}{qP:Nat}:y6 (fA (cH a b qP nE d1 d2 n) nP m nD nL c1 c2 n fo) 2000 :=
 Y9 (dC (dC (dC (fun k o hk=>by cases hk) (by decide) ⟨rfl,rfl,rfl,rfl,kV rfl⟩) (by decide) (aK rfl)) (by decide) (aK rfl))
def wF (m:List Ed)(n a b:Int):B7:=LS m a b (2*(n+1).toNat) (w0 n b)
def SH (m:List Ed)(n a b:Int):Option (List Int):=if aB (wF m n a b).1 a.toNat=0 then none else mU m (wF m n a b).1 b ((n+1).toNat+1) a [a]
def KF (m:List Ed)(n a b:Int):List Int:=if (oJ n a&&oJ n b)=true then (SH m n a b).getD [] else []
def LC (m:List Ed)(n a b:Int):Int:=if (oJ n a&&oJ n b)=true then (match SH m n a b with|some _=>0|none=>5) else 1
def aI9 (args0:List Value)(h0:Heap)(n0:Nat)(out:List Int)(e:Option Int):Prop :=
 ∃ a b qP nE d1 d2 nP m nD nL c1 c2 n fo,args0=[pV 0,pV 7,pV 8,pV 9]∧h0=fA (cH a b qP nE d1 d2 n) nP m nD nL c1 c2 n fo∧n0=2000∧out=KF m n a b∧e=some (LC m n a b)∧m.length≤1000∧0≤n∧n≤100∧C1 m n
theorem zC {m:List Ed}{a b:Int}{s:B7}(h:nK a s=true):∀ k,LS m a b k s=s
 |0=>rfl
 |k+1=>by unfold LS;rw [if_pos h]
theorem UR {m:List Ed}{a b:Int}{s:B7}(h:nK a s=false)(k:Nat):LS m a b (k+1) s=LS m a b k (DI m b s):=by
 conv=>lhs;unfold LS
 rw [if_neg (by rw [h];decide)]
def HP (T:Nat)(v:Value):List (Nat × Value):=[(0,pV 0),(1,pV 7),(2,pV 8),(3,pV 9),(7,.slice (some ⟨2000,0,none⟩) T T),(8,v)]
theorem oW {b n0 k:Nat}{L:List (Nat × Nat)}{h:Heap}{o o':aT}{r:Heap}(h1:Nat.ble b k=true)(h2:Nat.ble (k+1) n0=true)(h3:Nat.ble b (rn L k)=true)(h4:look h (rn L k)=some o')(h5:bO (rn L) n0 o o')(hr:∀ p∈r,((b≤p.1∧p.1<n0∧b≤rn L p.1)∨p.1<b)∧∃ o',look h (rn L p.1)=some o'∧bO (rn L) n0 p.2 o') :
  ∀ p∈(k,o)::r,((b≤p.1∧p.1<n0∧b≤rn L p.1)∨p.1<b)∧∃ o',look h (rn L p.1)=some o'∧bO (rn L) n0 p.2 o' :=
 List.forall_mem_cons.2 ⟨⟨.inl ⟨Nat.le_of_ble_eq_true h1,Nat.le_of_ble_eq_true h2,Nat.le_of_ble_eq_true h3⟩,_,h4,h5⟩,hr⟩
theorem oF {α:Type}{E:El α}{l:List α}{b n0 k sz:Nat}{wr g:Bool}{L:List (Nat × Nat)}{h:Heap}{r:Heap}(h1:Nat.ble b k=true)(h2:Nat.ble (k+1) n0=true)(h3:Nat.ble b (rn L k)=true)(h4:look h (rn L k)=some (.cells wr g sz (flat E.fl l)))(hr:∀ p∈r,((b≤p.1∧p.1<n0∧b≤rn L p.1)∨p.1<b)∧∃ o',look h (rn L p.1)=some o'∧bO (rn L) n0 p.2 o') :
  ∀ p∈(k,.cells wr g sz (flat E.fl l))::r,((b≤p.1∧p.1<n0∧b≤rn L p.1)∨p.1<b)∧∃ o',look h (rn L p.1)=some o'∧bO (rn L) n0 p.2 o' :=
 oW h1 h2 h3 h4 (aK (aE E l)) hr
theorem UC {x y b:Nat}(h:Nat.ble b x=true):∀ p∈[(x,y)],b≤p.1:=List.forall_mem_cons.2 ⟨Nat.le_of_ble_eq_true h,fun _ h=>by cases h⟩
theorem BR {W:Heap}{b:Nat}{P:Heap}(h:y6 W b)(hp:(P.all fun p=>Nat.ble b p.1)=true):∀ k o,look W k=some o→look (P++W) k=some o:=by
 induction P with
 |nil=>exact fun _ _ h=>h
 |cons p r ih =>
  simp only [List.all_cons,Bool.and_eq_true] at hp;exact ext_cons (ih hp.2) (bQ h (Nat.le_of_ble_eq_true hp.1))
theorem cR {P:Heap}{L:List (Nat × Nat)}(h:(P.all fun p=>P.all fun q=>!(Nat.beq (rn L p.1) (rn L q.1)) || Nat.beq p.1 q.1)=true):∀ k∈P.map Prod.fst,∀ k'∈P.map Prod.fst,rn L k=rn L k'→k=k':=by
 intro k hk k' hk' e;obtain⟨p,hp,rfl⟩:=List.mem_map.1 hk;obtain⟨q,hq,rfl⟩:=List.mem_map.1 hk';have h1:=List.all_eq_true.1 (List.all_eq_true.1 h p hp) q hq;simp only [Bool.or_eq_true,Bool.not_eq_true',Nat.beq_eq_true_eq] at h1;rcases h1 with h1|h1
 ·rw [e] at h1;exact absurd (Nat.beq_refl _) (by rw [h1];decide)
 ·exact Nat.eq_of_beq_eq_true h1
theorem CF {S:List Int}{f b:Int}:∀ {nb:List Int} {j:Nat},j<nb.length→(∀ i,i<j→OY S f b (aB nb i)=false)→OY S f b (aB nb j)=true→BZ S f b nb=some (aB nb j)
 |[],j,h,_,_=>by cases h
 |g::r,0,_,_,h2=>by
  unfold BZ;rw [if_pos (show OY S f b g=true from h2)];rfl
 |g::r,j+1,h,h1,h2=>by
  have h0:=h1 0 (by omega);unfold BZ;rw [if_neg (by rw [show g=aB (g::r) 0 from rfl,h0];decide)];exact CF (nb:=r) (j:=j) (by simpa using h) (fun i hi=>h1 (i+1) (by omega)) h2
theorem KA {S:List Int}{f b:Int}:∀ {nb:List Int},(∀ i,i<nb.length→OY S f b (aB nb i)=false)→BZ S f b nb=none
 |[],_=>rfl
 |g::r,h=>by
  unfold BZ;rw [if_neg (by rw [show g=aB (g::r) 0 from rfl,h 0 (Nat.succ_pos _)];decide)];exact KA fun i hi=>h (i+1) (by simpa using hi)
theorem LN {m:List Ed}{S:List Int}{b f:Int}{k:Nat}{out:List Int}(h:f≠b):mU m S b (k+1) f out=(match BZ S f b (c7 m f) with|some g=>mU m S b k g (out++[g])|none=>none):=by
 show (if _ then _ else _)=_;rw [if_neg h];rfl
abbrev oI (L:List Int):aT:=.cells true false 1 (flat aL.fl L)
def o6 (T N:Nat)(v:Value)(j:Int):List (Nat × Value):=[(0,pV 0),(1,pV 7),(2,pV 8),(3,pV 9),(7,.slice (some ⟨2000,0,none⟩) T T),(9,v),(43,.slice (some ⟨2001,0,none⟩) N N),(44,iv N),(45,iv j)]
def rA (T N:Nat)(v:Value)(j f:Int)(u:Value)(M:Nat)(z:Int):List (Nat × Value):=(11,iv f)::(58,u)::(59,iv M)::(60,iv z)::o6 T N v j
def K5 (T N:Nat)(f:Int):List (Nat × Value):=[(0,pV 0),(2,pV 8),(7,.slice (some ⟨2000,0,none⟩) T T),(14,.slice (some ⟨2001,0,none⟩) N N),(15,iv f)]
def YP (T N:Nat)(f:Int)(M:Nat)(z:Int):List (Nat × Value):=(97,.slice (some ⟨2002,0,none⟩) M M)::(98,iv M)::(99,iv z)::K5 T N f
theorem aJV {args0:List Value}{h0:Heap}{n0:Nat}{out:List Int}{e:Option Int}(h:aI9 args0 h0 n0 out e):body [aD7,TC] 123 args0 h0 n0 (Yields aL out e):=by
 obtain⟨a,b,qP,nE,d1,d2,nP,m,nD,nL,c1,c2,n,fo,rfl,rfl,rfl,rfl,rfl,hm,hn0,hn,hE⟩:=h;have hok:=Y6 (a:=a) (b:=b) (qP:=qP) (nE:=nE) (d1:=d1) (d2:=d2) (nP:=nP) (m:=m) (nD:=nD) (nL:=nL) (c1:=c1) (c2:=c2) (n:=n) (fo:=fo);obtain⟨T,hT⟩:∃ T:Nat,(n+1).toNat=T:=⟨_,rfl⟩;have hTn:(T:Int)=n+1:=(by omega);generalize hQ:Yields aL (KF m n a b) (some (LC m n a b))=Q;unfold fA cH PD;(conv=>whnf);refine⟨_,_,n,[a,b],2,(oJ n a&&oJ n b),rfl,⟨_,_,_,_,_,_,_,_,_,_,_,_,_,_,_,rfl⟩,⟨_,_,_,_,rfl,rfl⟩,rfl,?_⟩;cases hab:(oJ n a&&oJ n b) with
 |false =>
  have h1:KF m n a b=[]:=(by unfold KF;rw [hab];rfl);have h2:LC m n a b=1:=(by unfold LC;rw [hab];rfl);rw [h1,h2] at hQ;(conv=>whnf);rw [← hQ];rfl
 |true =>
  have hL:KF m n a b=(SH m n a b).getD []:=(by unfold KF;rw [hab];rfl);have hEr:LC m n a b=(match SH m n a b with|some _=>0|none=>5):=(by unfold LC;rw [hab];rfl);rw [hL,hEr] at hQ;have hab2:=hab;simp only [oJ,Bool.and_eq_true,decide_eq_true_eq] at hab2;obtain⟨⟨ha0,ha1⟩,hb0,hb1⟩:=hab2;have hN:=fun {k:Nat} (h:Nat.ble 2000 k=true)=>bQ hok (Nat.le_of_ble_eq_true h);((conv=>whnf);refine bm (fun m1=>?_) (fun m1=>?_))
  ·((conv=>whnf);refine bm (fun m2=>?_) (fun m2=>?_))
   ·((conv=>whnf);refine bm (fun m3=>?_) (fun m3=>?_))
    ·((conv=>whnf);refine bm (fun m4=>?_) (fun m4=>?_))
     ·(conv=>whnf);rw [show aA.A.toN (aA.A.add n 1)=T from hT];obtain⟨hwk0,hmu0⟩:=aC1 (b:=b) hT hn0 ⟨hb0,hb1⟩
      refine⟨fun q e h nx=>∃ (s:B7) (k:Nat),q=SB s∧SB s≤k∧LS m a b k s=wF m n a b∧X5 T n s ∧
       ((s.2=[]∧e=HP T (.slice none 0 0)∧h=[(2000,oI (s.1))]++(fA (cH a b qP nE d1 d2 n) nP m nD nL c1 c2 n fo)∧nx=2001) ∨
        (0<s.2.length∧e=HP T (.slice (some ⟨2001,0,none⟩) s.2.length s.2.length)∧h=[(2000,oI (s.1)),(2001,oI (s.2))]++(fA (cH a b qP nE d1 d2 n) nP m nD nL c1 c2 n fo)∧nx=2002)),⟨SB (w0 n b),?_⟩,?_⟩
      ·have hbase0:∀ k o,look (fA (cH a b qP nE d1 d2 n) nP m nD nL c1 c2 n fo) k=some o→look (fA (cH a b qP nE d1 d2 n) nP m nD nL c1 c2 n fo) k=some o:=fun _ _ h=>h;refine aW (P:=[(2000,oI ((w0 n b).1)),(2001,oI ((w0 n b).2))]) (W:=fA (cH a b qP nE d1 d2 n) nP m nD nL c1 c2 n fo) (e0:=HP T (.slice (some ⟨2001,0,none⟩) 1 1)) (n0:=2002) [(2000,2001),(2001,2002)] ⟨w0 n b,2*T,rfl,hmu0,by unfold wF;rw [hT],hwk0,.inr ⟨Nat.one_pos,rfl,rfl,rfl⟩⟩ ?_ hok ?_ ?_ (cR rfl) (List.forall_mem_cons.2 ⟨Nat.le_refl _,UC rfl⟩) (Nat.le_of_ble_eq_true rfl)
       ·unfold HP;((repeat' refine iE rfl rfl ?_);exact iN)
       ·(repeat' with_reducible first|refine aN ?_ (hN (by decide))|refine a8 ?_ (hN (by decide))|refine bN ?_ (hN (by decide)))
        exact hbase0
       ·refine oW rfl rfl rfl (o':=oI (w0 n b).1) ?_ (aK (aE _ _)) ?_
        ·have hp:=lZ (List.replicate T 0) b.toNat 1 (by rw [List.length_replicate];omega);show some (aT.cells true false 1 (dE (rep T [iv 0]) (0+Int.toNat b*1) [iv 1]))=some (oI ((List.replicate (n+1).toNat 0).set b.toNat 1));rw [R3,hT,show 0+Int.toNat b*1=b.toNat*1 by omega,hp]
        refine oW rfl rfl rfl rfl (bG (aE aL _) rfl) ?_;exact iN
      ·rintro q e h nx ⟨s,k,rfl,hmu,hF,hok2,⟨hnil,rfl,rfl,rfl⟩|⟨hpos,rfl,rfl,rfl⟩⟩
       ·have hlen:=hok2.len;have hbase0:=BR (P:=[(2000,oI (s.1))]) hok rfl;unfold HP fA cH PD;have hstop:nK a s=true:=(by unfold nK;rw [hnil];rfl);have hstep:=hok2.rng a.toNat (by omega);have hrun:wF m n a b=s:=(by rw [← hF];exact zC hstop k);generalize hSS:s.1=S at *;((conv=>whnf);refine bm (fun g5=>?_) (fun g5=>?_))
        ·(conv=>whnf);refine eP (cF S (i:=a.toNat) (by rw [hlen];omega) ?_) ?_
         ·show _+Int.toNat a*1=_;omega
         ((conv=>whnf);refine bm (fun g6=>?_) (fun g6=>?_))
         ·have g6:aB S a.toNat=0:=(by simpa [aA,aF] using g6);have hO:SH m n a b=none:=(by unfold SH;rw [hrun,hSS,if_pos g6]);rw [hO] at hQ;(conv=>whnf);rw [← hQ];rfl
         ·have g6:¬ aB S a.toNat=0:=(by simpa [aA,aF] using g6);have hO:SH m n a b=mU m S b (T+1) a [a]:=(by unfold SH;rw [hrun,hSS,if_neg g6,hT]);rw [hO] at hQ;(conv=>whnf);refine⟨fun q e h nx=>∃ (f:Int) (out:List Int) (k:Nat),q=(aB S f.toNat).toNat∧q+1≤k∧mU m S b k f out=mU m S b (T+1) a [a]∧(0≤f∧f≤n)∧0<out.length∧out.length+q≤T+1∧e=K5 T out.length f∧h=[(2000,oI (S)),(2001,oI (out))]++(fA (cH a b qP nE d1 d2 n) nP m nD nL c1 c2 n fo)∧nx=2002,⟨(aB S a.toNat).toNat,?_⟩,?_⟩
          ·skip
           refine aW (P:=[(2000,oI (S)),(2001,oI ([a]))]) (W:=fA (cH a b qP nE d1 d2 n) nP m nD nL c1 c2 n fo) (e0:=K5 T 1 a) (n0:=2002) [(2001,2001)] ⟨a,[a],T+1,rfl,by omega,rfl,⟨ha0,ha1⟩,Nat.one_pos,by show 1+_≤_;omega,rfl,rfl,rfl⟩ ?_ hok ?_ ?_ (cR rfl) (UC rfl) (Nat.le_of_ble_eq_true rfl)
           ·unfold K5;((repeat' refine iE rfl rfl ?_);exact iN)
           ·(repeat' with_reducible first|refine aN ?_ (hN (by decide))|refine a8 ?_ (hN (by decide))|refine bN ?_ (hN (by decide)))
            exact hbase0
           ·refine oF rfl rfl rfl rfl ?_;refine oW rfl rfl rfl rfl (bG (aE aL _) rfl) ?_;exact iN
          ·rintro q e h nx ⟨f,out,k6,rfl,hk6,hw6,hf6,hpo,hlo,rfl,rfl,rfl⟩;have hb6:=BR (P:=[(2000,oI (S)),(2001,oI (out))]) hok rfl;have hS6:=hok2.rng f.toNat (by omega);obtain⟨k7,rfl⟩:∃ k7,k6=k7+1:=⟨k6 - 1,by omega⟩;have hlen6:(flat aL.fl out).length=out.length:=(by rw [bJ];show _*1=_;omega);unfold K5 fA cH PD;((conv=>whnf);refine bm (fun g7=>?_) (fun g7=>?_))
           ·have g7:f≠b:=(by simpa [aA,aF] using g7);have hw7:mU m S b (k7+1) f out=(match BZ S f b (c7 m f) with|some g=>mU m S b k7 g (out++[g])|none=>none):=LN g7;(conv=>whnf);refine⟨0,m,n,f,rfl,⟨_,_,_,_,_,_,_,_,_,_,_,_,_,_,_,_,_,_,rfl,rfl,List.take_length⟩,hm,?_⟩;have hnbl:=xQ m f;have hnbr:=fun {k:Nat} (hk:k<(c7 m f).length)=>fR hE hk;rcases Nat.eq_zero_or_pos (c7 m f).length with hz|hz
            ·have hz2:c7 m f=[]:=List.length_eq_zero_iff.1 hz;rw [hz2] at hw7 ⊢;rw [← hw6,hw7] at hQ;(conv=>whnf);refine⟨fun q e h nx=>q=0∧e=[(97,.slice none 0 0),(98,iv 0),(99,iv 0)]∧h=[]∧nx=2000,⟨0,?_⟩,?_⟩
             ·exact cO (e0:=[(97,.slice none 0 0),(98,iv 0),(99,iv 0)]) (h0:=[]) (n0:=2000) ⟨rfl,rfl,rfl,rfl⟩ (by ((repeat' refine iE rfl rfl ?_);exact iN)) (fun _ h=>by cases h) (by decide)
             ·rintro q e h nx ⟨rfl,rfl,rfl,rfl⟩;(conv=>whnf);rw [← hQ];rfl
            ·refine yJ aL hz ?_;generalize hnb:c7 m f=nb at *;(conv=>whnf);refine⟨fun q e h nx=>∃ (i:Nat) (j:Int),j=i∧i≤nb.length∧q=nb.length - i∧(∀ t,t<i→OY S f b (aB nb t)=false)∧e=YP T out.length f nb.length j∧h=[(2000,oI (S)),(2001,oI (out)),(2002,oI (nb))]++(fA (cH a b qP nE d1 d2 n) nP m nD nL c1 c2 n fo)∧nx=2003,⟨nb.length,?_⟩,?_⟩
             ·skip
              refine aW (P:=[(2000,oI (S)),(2001,oI (out)),(2002,oI (nb))]) (W:=fA (cH a b qP nE d1 d2 n) nP m nD nL c1 c2 n fo) (e0:=YP T out.length f nb.length 0) (n0:=2003) [] ⟨0,0,rfl,Nat.zero_le _,rfl,fun t h=>absurd h (Nat.not_lt_zero t),rfl,rfl,rfl⟩ ?_ hok ?_ ?_ (cR rfl) (fun _ h=>by cases h) (Nat.le_of_ble_eq_true rfl)
              ·unfold YP K5;((repeat' refine iE rfl rfl ?_);exact iN)
              ·(repeat' with_reducible first|refine aN ?_ (hN (by decide))|refine a8 ?_ (hN (by decide))|refine bN ?_ (hN (by decide)))
               exact hb6
              ·refine oF rfl rfl rfl rfl ?_;refine oF rfl rfl rfl rfl ?_;refine oF rfl rfl rfl rfl ?_;exact iN
             ·rintro q e h nx ⟨i,j,hj,hi,rfl,hno,rfl,rfl,rfl⟩;have hb8:=BR (P:=[(2000,oI (S)),(2001,oI (out)),(2002,oI (nb))]) hok rfl;unfold YP K5 fA cH PD;((conv=>whnf);refine bm (fun g8=>?_) (fun g8=>?_))
              ·have hil:i<nb.length:=(by simp [aA,aF] at g8;omega);have hg:=hnbr (k:=i) hil;((conv=>whnf);refine bm (fun g9=>?_) (fun g9=>?_))
               ·(conv=>whnf);refine eP (cF nb (i:=i) hil ?_) ?_
                ·show _+Int.toNat j*1=_;omega
                have hSg:=hok2.rng (aB nb i).toNat (by omega);have hat:=CF (S:=S) (f:=f) (b:=b) hil hno;generalize hgg:aB nb i=g at *;cases hwk:OY S f b g with
                |true =>
                 have hwk2:=hwk;simp only [OY,Bool.and_eq_true,Bool.or_eq_true,decide_eq_true_eq] at hwk2;have hat:=hat hwk
                 repeat' first
                  |(((conv=>whnf);refine bm (fun c=>?_) (fun c=>?_)))
                  |((conv=>whnf)
                    refine eP (cF S (i:=g.toNat) (by rw [hlen];omega) ?_) ?_
                    ·show _+Int.toNat g*1=_;omega)
                  |((conv=>whnf)
                    refine eP (cF S (i:=f.toNat) (by rw [hlen];omega) ?_) ?_
                    ·show _+Int.toNat f*1=_;omega)
                 all_goals (conv=>whnf)
                 all_goals first
                  |(refine⟨(aB S g.toNat).toNat,by omega,?_⟩
                    refine aW (P:=[(2000,oI (S)),(2001,oI (out++[g]))]) (W:=fA (cH a b qP nE d1 d2 n) nP m nD nL c1 c2 n fo) (e0:=K5 T (out.length+1) g) (n0:=2002) [(2001,2004)] ⟨g,out++[g],k7,rfl,by omega,by rw [← hw6,hw7,hat],⟨hg.1,hg.2⟩,by rw [List.length_append];exact Nat.succ_pos _,by rw [List.length_append];show _+1+_≤_;omega,by rw [List.length_append];rfl,rfl,rfl⟩ ?_ hok ?_ ?_ (cR rfl) (UC rfl) (Nat.le_of_ble_eq_true rfl)
                    ·unfold K5;((repeat' refine iE rfl rfl ?_);exact iN)
                    ·(repeat' with_reducible first|refine aN ?_ (hN (by decide))|refine a8 ?_ (hN (by decide))|refine bN ?_ (hN (by decide)))
                     exact hb8
                    ·refine oF rfl rfl rfl rfl ?_;refine oW rfl rfl rfl rfl (bG (aE aL _) (gQ aL out g rfl)) ?_;exact iN)
                  |exact sN (s:=1) (by omega) (by omega) (by assumption)
                  |(exfalso;rename_i v;have:=Nat.le_of_ble_eq_true v;omega)
                  |(exfalso;clear hat hw7 hw6 hN;simp [aA,aF,aI] at*<;> first|omega|(simp_all;done)|(simp_all;omega))
                |false =>
                 clear hat;simp only [OY,Bool.and_eq_false_iff,Bool.or_eq_false_iff,decide_eq_false_iff_not] at hwk
                 repeat' first
                  |(((conv=>whnf);refine bm (fun c=>?_) (fun c=>?_)))
                  |((conv=>whnf)
                    refine eP (cF S (i:=g.toNat) (by rw [hlen];omega) ?_) ?_
                    ·show _+Int.toNat g*1=_;omega)
                  |((conv=>whnf)
                    refine eP (cF S (i:=f.toNat) (by rw [hlen];omega) ?_) ?_
                    ·show _+Int.toNat f*1=_;omega)
                 all_goals (conv=>whnf)
                 all_goals first
                  |(refine⟨nb.length - (i+1),by omega,?_⟩
                    refine aW (P:=[(2000,oI (S)),(2001,oI (out)),(2002,oI (nb))]) (W:=fA (cH a b qP nE d1 d2 n) nP m nD nL c1 c2 n fo) (e0:=YP T out.length f nb.length (j+1)) (n0:=2003) [] ⟨i+1,j+1,by omega,by omega,rfl,fun t ht=>?_,rfl,rfl,rfl⟩ ?_ hok ?_ ?_ (cR rfl) (fun _ h=>by cases h) (Nat.le_of_ble_eq_true rfl)
                    ·by_cases e:t=i
                     ·rw [e,hgg];simp only [OY,Bool.and_eq_false_iff,Bool.or_eq_false_iff,decide_eq_false_iff_not];exact hwk
                     ·exact hno t (by omega)
                    ·unfold YP K5;((repeat' refine iE rfl rfl ?_);exact iN)
                    ·(repeat' with_reducible first|refine aN ?_ (hN (by decide))|refine a8 ?_ (hN (by decide))|refine bN ?_ (hN (by decide)))
                     exact hb8
                    ·refine oF rfl rfl rfl rfl ?_;refine oF rfl rfl rfl rfl ?_;refine oF rfl rfl rfl rfl ?_;exact iN)
                  |(exfalso;clear hw7 hw6;simp [aA,aF,aI] at*<;> first|omega|(simp_all;done)|(simp_all;omega))
               ·exfalso;simp [aA,aF] at g9;omega
              ·have hil:i=nb.length:=(by simp [aA,aF] at g8;omega);rw [KA (fun t ht=>hno t (by omega))] at hw7;rw [← hw6,hw7] at hQ;(conv=>whnf);rw [← hQ];rfl
           ·have g7:f=b:=(by simpa [aA,aF] using g7);have hw7:mU m S b (k7+1) f out=some out:=(by unfold mU;rw [if_pos g7]);rw [← hw6,hw7] at hQ;(conv=>whnf);rw [← hQ];have:=mL aL (l:=out) (e:=some 0) (h:=[(2000,oI (S)),(2001,oI (out))]++(fA (cH a b qP nE d1 d2 n) nP m nD nL c1 c2 n fo)) (q:=2001) (nx:=2002) hpo rfl;exact this
        ·exfalso;simp [aA,aF] at g5;omega
       ·have hlen:=hok2.len;have hbase0:=BR (P:=[(2000,oI (s.1)),(2001,oI (s.2))]) hok rfl;unfold HP fA cH PD;((conv=>whnf);refine bm (fun g1=>?_) (fun g1=>?_))
        ·((conv=>whnf);refine bm (fun g2=>?_) (fun g2=>?_))
         ·(conv=>whnf);refine eP (cF s.1 (i:=a.toNat) (by rw [hlen];omega) ?_) ?_
          ·show _+Int.toNat a*1=_;omega
          ((conv=>whnf);refine bm (fun g3=>?_) (fun g3=>?_))
          ·have g3:aB s.1 a.toNat=0:=(by simpa [aA,aF] using g3);have hstop:nK a s=false:=(by unfold nK;rw [decide_eq_false (fun h=>by rw [h] at hpos;cases hpos),decide_eq_false (fun h=>h g3)];rfl);have hmus:1≤SB s:=(by unfold SB;rw [if_neg (fun h=>by rw [h] at hpos;cases hpos)];omega);obtain⟨k9,rfl⟩:∃ k9,k=k9+1:=⟨k - 1,by omega⟩;rw [UR hstop] at hF;have hmur:=aBt (b:=b) hTn hE hok2 (fun h=>by rw [h] at hpos;cases hpos);have hwr:=VT (b:=b) hTn hE hok2;obtain⟨S0,N0⟩:=s;simp only at hpos hlen g3;have hN0:N0.length≤T:=(by have:=hok2.sz;simp only at this;omega);have hnx:=hok2.nx;simp only at hnx;have hmidok:=fun {i:Nat} (hi:i≤N0.length)=>C5 (b:=b) hTn hE hok2 i hi;simp only at hmidok;(conv=>whnf)
           refine⟨fun q e h nx=>∃ (i:Nat) (j:Int),j=i∧i≤N0.length∧q=N0.length - i ∧
            (((eY m b N0 (S0,[]) i).2=[]∧e=o6 T N0.length (.slice none 0 0) j∧h=[(2000,oI ((eY m b N0 (S0,[]) i).1)),(2001,oI (N0))]++(fA (cH a b qP nE d1 d2 n) nP m nD nL c1 c2 n fo)∧nx=2002) ∨
             (0<(eY m b N0 (S0,[]) i).2.length∧e=o6 T N0.length (.slice (some ⟨2002,0,none⟩) (eY m b N0 (S0,[]) i).2.length (eY m b N0 (S0,[]) i).2.length) j∧h=[(2000,oI ((eY m b N0 (S0,[]) i).1)),(2001,oI (N0)),(2002,oI ((eY m b N0 (S0,[]) i).2))]++(fA (cH a b qP nE d1 d2 n) nP m nD nL c1 c2 n fo)∧nx=2003)),⟨N0.length,?_⟩,?_⟩
           ·skip
            refine aW (P:=[(2000,oI (S0)),(2001,oI (N0))]) (W:=fA (cH a b qP nE d1 d2 n) nP m nD nL c1 c2 n fo) (e0:=o6 T N0.length (.slice none 0 0) 0) (n0:=2002) [] ⟨0,0,rfl,Nat.zero_le _,rfl,.inl ⟨rfl,rfl,rfl,rfl⟩⟩ ?_ hok ?_ ?_ (cR rfl) (fun _ h=>by cases h) (Nat.le_of_ble_eq_true rfl)
            ·unfold o6;((repeat' refine iE rfl rfl ?_);exact iN)
            ·(repeat' with_reducible first|refine aN ?_ (hN (by decide))|refine a8 ?_ (hN (by decide))|refine bN ?_ (hN (by decide)))
             exact hbase0
            ·refine oF rfl rfl rfl rfl ?_;refine oF rfl rfl rfl rfl ?_;exact iN
           ·rintro q e h nx ⟨i,j,hj,hi,rfl,hx⟩;have hXk:=hmidok hi;have hXl:=hXk.len;rcases hx with ⟨hXn,rfl,rfl,rfl⟩|⟨hXp,rfl,rfl,rfl⟩
            ·have hms:∀ (h:¬ (aB N0 i=0∧aB N0 i≠b)),eY m b N0 (S0,[]) (i+1)=dQ (c7 m (aB N0 i)) (aB N0 i) (eY m b N0 (S0,[]) i) (c7 m (aB N0 i)).length:=fun h=>(by conv=>lhs;unfold eY;rw [if_neg h]);have hmt:∀ (h:aB N0 i=0∧aB N0 i≠b),eY m b N0 (S0,[]) (i+1)=eY m b N0 (S0,[]) i:=fun h=>(by conv=>lhs;unfold eY;rw [if_pos h]);generalize hX:eY m b N0 (S0,[]) i=X at *;obtain⟨S,N⟩:=X;simp only at hXn hXl;subst hXn;have hb2:=BR (P:=[(2000,oI (S)),(2001,oI (N0))]) hok rfl;unfold o6 fA cH PD;((conv=>whnf);refine bm (fun g4=>?_) (fun g4=>?_))
             ·have hil:i<N0.length:=(by simp [aA,aF] at g4;omega);have hfr:=hnx i hil;((conv=>whnf);refine bm (fun g5=>?_) (fun g5=>?_))
              ·(conv=>whnf);refine eP (cF N0 (i:=i) hil ?_) ?_
               ·show _+Int.toNat j*1=_;omega
               generalize hff:aB N0 i=f at *;by_cases hc:f=0∧f≠b
               ·have hm2:=hmt hc
                repeat' (((conv=>whnf);refine bm (fun c=>?_) (fun c=>?_)))
                all_goals (conv=>whnf)
                all_goals first
                 |(skip
                   refine⟨N0.length - (i+1),by omega,?_⟩;refine aW (P:=[(2000,oI (S)),(2001,oI (N0))]) (W:=fA (cH a b qP nE d1 d2 n) nP m nD nL c1 c2 n fo) (e0:=o6 T N0.length (.slice none 0 0) (j+1)) (n0:=2002) [] ⟨i+1,j+1,by omega,by omega,rfl,.inl ⟨by rw [hm2] <;> rfl,rfl,by rw [hm2] <;> rfl,rfl⟩⟩ ?_ hok ?_ ?_ (cR rfl) (fun _ h=>by cases h) (Nat.le_of_ble_eq_true rfl)
                   ·unfold o6;((repeat' refine iE rfl rfl ?_);exact iN)
                   ·(repeat' with_reducible first|refine aN ?_ (hN (by decide))|refine a8 ?_ (hN (by decide))|refine bN ?_ (hN (by decide)))
                    exact hb2
                   ·refine oF rfl rfl rfl rfl ?_;refine oF rfl rfl rfl rfl ?_;exact iN)
                 |(exfalso;clear hms hmt hm2;simp [aA,aF,aI] at*<;> first|omega|(simp_all;done)|(simp_all;omega))
               ·repeat' (((conv=>whnf);refine bm (fun c=>?_) (fun c=>?_)))
                all_goals (conv=>whnf)
                all_goals first
                 |(skip
                   have hm1:=hms hc;(conv=>whnf);refine⟨0,m,n,f,rfl,⟨_,_,_,_,_,_,_,_,_,_,_,_,_,_,_,_,_,_,rfl,rfl,List.take_length⟩,hm,?_⟩;have hnbl:=xQ m f;have hnbr:=fun {k:Nat} (hk:k<(c7 m f).length)=>fR hE hk;have hinok:=fun {k:Nat} (hk:k≤(c7 m f).length)=>C2 (m:=m) hTn hE hXk (f:=f) ⟨hfr.1,by omega⟩ k hk;rcases Nat.eq_zero_or_pos (c7 m f).length with hz|hz
                   ·have hz2:c7 m f=[]:=List.length_eq_zero_iff.1 hz;rw [hz2] at hm1 ⊢;have hm2:eY m b N0 (S0,[]) (i+1)=(S,[]):=hm1;(conv=>whnf);refine⟨fun q e h nx=>q=0∧e=rA T N0.length (.slice none 0 0) j f (.slice none 0 0) 0 0∧h=[(2000,oI (S)),(2001,oI (N0))]++(fA (cH a b qP nE d1 d2 n) nP m nD nL c1 c2 n fo)∧nx=2002,⟨0,?_⟩,?_⟩
                    ·skip
                     refine aW (P:=[(2000,oI (S)),(2001,oI (N0))]) (W:=fA (cH a b qP nE d1 d2 n) nP m nD nL c1 c2 n fo) (e0:=rA T N0.length (.slice none 0 0) j f (.slice none 0 0) 0 0) (n0:=2002) [] ⟨rfl,rfl,rfl,rfl⟩ ?_ hok ?_ ?_ (cR rfl) (fun _ h=>by cases h) (Nat.le_of_ble_eq_true rfl)
                     ·unfold rA o6;((repeat' refine iE rfl rfl ?_);exact iN)
                     ·(repeat' with_reducible first|refine aN ?_ (hN (by decide))|refine a8 ?_ (hN (by decide))|refine bN ?_ (hN (by decide)))
                      exact hb2
                     ·refine oF rfl rfl rfl rfl ?_;refine oF rfl rfl rfl rfl ?_;exact iN
                    ·rintro q e h nx ⟨rfl,rfl,rfl,rfl⟩;unfold rA o6 fA cH PD;((conv=>whnf);refine bm (fun g8=>?_) (fun g8=>?_))
                     ·(conv=>whnf);refine⟨N0.length - (i+1),by omega,?_⟩;refine aW (P:=[(2000,oI (S)),(2001,oI (N0))]) (W:=fA (cH a b qP nE d1 d2 n) nP m nD nL c1 c2 n fo) (e0:=o6 T N0.length (.slice none 0 0) (j+1)) (n0:=2002) [] ⟨i+1,j+1,by omega,by omega,rfl,.inl ⟨by rw [hm2] <;> rfl,rfl,by rw [hm2] <;> rfl,rfl⟩⟩ ?_ hok ?_ ?_ (cR rfl) (fun _ h=>by cases h) (Nat.le_of_ble_eq_true rfl)
                      ·unfold o6;((repeat' refine iE rfl rfl ?_);exact iN)
                      ·(repeat' with_reducible first|refine aN ?_ (hN (by decide))|refine a8 ?_ (hN (by decide))|refine bN ?_ (hN (by decide)))
                       exact hb2
                      ·refine oF rfl rfl rfl rfl ?_;refine oF rfl rfl rfl rfl ?_;exact iN
                     ·exfalso;simp [aA,aF,aI] at g8;omega
                   ·refine yJ aL hz ?_;generalize hnb:c7 m f=nb at *;(conv=>whnf)
                    refine⟨fun q e h nx=>∃ (t:Nat) (z:Int),z=t∧t≤nb.length∧q=nb.length - t ∧
                     (((dQ nb f (S,[]) t).2=[]∧e=rA T N0.length (.slice none 0 0) j f (.slice (some ⟨2003,0,none⟩) nb.length nb.length) nb.length z∧h=[(2000,oI ((dQ nb f (S,[]) t).1)),(2001,oI (N0)),(2003,oI (nb))]++(fA (cH a b qP nE d1 d2 n) nP m nD nL c1 c2 n fo)∧nx=2004) ∨
                      (0<(dQ nb f (S,[]) t).2.length∧e=rA T N0.length (.slice (some ⟨2002,0,none⟩) (dQ nb f (S,[]) t).2.length (dQ nb f (S,[]) t).2.length) j f (.slice (some ⟨2003,0,none⟩) nb.length nb.length) nb.length z∧h=[(2000,oI ((dQ nb f (S,[]) t).1)),(2001,oI (N0)),(2002,oI ((dQ nb f (S,[]) t).2)),(2003,oI (nb))]++(fA (cH a b qP nE d1 d2 n) nP m nD nL c1 c2 n fo)∧nx=2004)),⟨nb.length,?_⟩,?_⟩
                    ·skip
                     refine aW (P:=[(2000,oI (S)),(2001,oI (N0)),(2003,oI (nb))]) (W:=fA (cH a b qP nE d1 d2 n) nP m nD nL c1 c2 n fo) (e0:=rA T N0.length (.slice none 0 0) j f (.slice (some ⟨2003,0,none⟩) nb.length nb.length) nb.length 0) (n0:=2004) [(2003,2002)] ⟨0,0,rfl,Nat.zero_le _,rfl,.inl ⟨rfl,rfl,rfl,rfl⟩⟩ ?_ hok ?_ ?_ (cR rfl) (UC rfl) (Nat.le_of_ble_eq_true rfl)
                     ·unfold rA o6;((repeat' refine iE rfl rfl ?_);exact iN)
                     ·(repeat' with_reducible first|refine aN ?_ (hN (by decide))|refine a8 ?_ (hN (by decide))|refine bN ?_ (hN (by decide)))
                      exact hb2
                     ·refine oF rfl rfl rfl rfl ?_;refine oF rfl rfl rfl rfl ?_;refine oF rfl rfl rfl rfl ?_;exact iN
                    ·rintro q e h nx ⟨t,z,hz1,ht,rfl,hy⟩;have hYk:=hinok ht;have hYl:=hYk.len;have hYf:=hYk.rng f.toNat (by omega);have hYz:=hYk.sz;have hss:dQ nb f (S,[]) (t+1)=if aB (dQ nb f (S,[]) t).1 (aB nb t).toNat=0 then ((dQ nb f (S,[]) t).1.set (aB nb t).toNat (aB (dQ nb f (S,[]) t).1 f.toNat+1),(dQ nb f (S,[]) t).2++[aB nb t]) else dQ nb f (S,[]) t:=rfl
                     have hend:t=nb.length→eY m b N0 (S0,[]) (i+1)=dQ nb f (S,[]) t:=fun h=>(by rw [h];exact hm1);generalize hY:dQ nb f (S,[]) t=Y at *;obtain⟨SY,NY⟩:=Y;simp only at hYl hYf hYz hss;rcases hy with ⟨hYn,rfl,rfl,rfl⟩|⟨hYp,rfl,rfl,rfl⟩
                     ·simp only at hYn;subst hYn;have hb4:=BR (P:=[(2000,oI (SY)),(2001,oI (N0)),(2003,oI (nb))]) hok rfl;unfold rA o6 fA cH PD;((conv=>whnf);refine bm (fun g7=>?_) (fun g7=>?_))
                      ·have htl:t<nb.length:=(by simp [aA,aF] at g7;omega);have hgr:=hnbr htl;((conv=>whnf);refine bm (fun g8=>?_) (fun g8=>?_))
                       ·(conv=>whnf);refine eP (cF nb (i:=t) htl ?_) ?_
                        ·show _+Int.toNat z*1=_;omega
                        generalize hgg:aB nb t=g at *;((conv=>whnf);refine bm (fun g9=>?_) (fun g9=>?_))
                        ·(conv=>whnf);refine eP (cF SY (i:=g.toNat) (by rw [hYl];omega) ?_) ?_
                         ·show _+Int.toNat g*1=_;omega
                         ((conv=>whnf);refine bm (fun ga=>?_) (fun ga=>?_))
                         ·have ga:aB SY g.toNat=0:=(by simpa [aA,aF] using ga);rw [if_pos ga] at hss
                          repeat' first
                           |(((conv=>whnf);refine bm (fun c=>?_) (fun c=>?_)))
                           |((conv=>whnf)
                             refine eP (cF SY (i:=f.toNat) (by rw [hYl];omega) ?_) ?_
                             ·show _+Int.toNat f*1=_;omega)
                          all_goals (conv=>whnf)
                          all_goals first
                           |(refine⟨nb.length - (t+1),by omega,?_⟩
                             refine aW (P:=[(2000,oI (SY.set g.toNat (aB SY f.toNat+1))),(2001,oI (N0)),(2002,oI ([g])),(2003,oI (nb))]) (W:=fA (cH a b qP nE d1 d2 n) nP m nD nL c1 c2 n fo) (e0:=rA T N0.length (.slice (some ⟨2002,0,none⟩) 1 1) j f (.slice (some ⟨2003,0,none⟩) nb.length nb.length) nb.length (z+1)) (n0:=2004) [(2002,2005)] ⟨t+1,z+1,by omega,by omega,rfl,.inr ⟨by rw [hss];exact Nat.one_pos,by rw [hss];rfl,by rw [hss];rfl,rfl⟩⟩ ?_ hok ?_ ?_ (cR rfl) (UC rfl) (Nat.le_of_ble_eq_true rfl)
                             ·unfold rA o6;((repeat' refine iE rfl rfl ?_);exact iN)
                             ·(repeat' with_reducible first|refine aN ?_ (hN (by decide))|refine a8 ?_ (hN (by decide))|refine bN ?_ (hN (by decide)))
                              exact hb4
                             ·refine oW rfl rfl rfl (o':=oI (SY.set g.toNat (aB SY f.toNat+1))) ?_ (aK (aE _ _)) ?_
                              ·have hp:=lZ SY g.toNat (aB SY f.toNat+1) (by rw [hYl];omega);show some (aT.cells true false 1 (dE (flat aL.fl SY) (0+Int.toNat g*1) [iv (aB SY f.toNat+1)]))=_;rw [show 0+Int.toNat g*1=g.toNat*1 by omega,hp]
                              refine oF rfl rfl rfl rfl ?_;refine oW rfl rfl rfl rfl (bG (aE aL _) rfl) ?_;refine oF rfl rfl rfl rfl ?_;exact iN)
                           |(exfalso
                             rename_i c;have hq:Nat.ble (0+Int.toNat g*1+1) (flat aL.fl SY).length=true:=Nat.ble_eq_true_of_le (by rw [bJ,hYl];show _≤T*1;omega);exact Bool.false_ne_true (c.symm.trans hq))
                           |(exfalso;clear hss hms hmt;simp [aA,aF,aI] at*<;> first|omega|(simp_all;done)|(simp_all;omega))
                         ·have ga:¬ aB SY g.toNat=0:=(by simpa [aA,aF] using ga);rw [if_neg ga] at hss;((conv=>whnf);refine bm (fun gb=>?_) (fun gb=>?_))
                          ·(conv=>whnf);refine⟨nb.length - (t+1),by omega,?_⟩;refine aW (P:=[(2000,oI (SY)),(2001,oI (N0)),(2003,oI (nb))]) (W:=fA (cH a b qP nE d1 d2 n) nP m nD nL c1 c2 n fo) (e0:=rA T N0.length (.slice none 0 0) j f (.slice (some ⟨2003,0,none⟩) nb.length nb.length) nb.length (z+1)) (n0:=2004) [] ⟨t+1,z+1,by omega,by omega,rfl,.inl ⟨by rw [hss] <;> rfl,by rfl,by rw [hss] <;> rfl,rfl⟩⟩ ?_ hok ?_ ?_ (cR rfl) (fun _ h=>by cases h) (Nat.le_of_ble_eq_true rfl)
                           ·unfold rA o6;((repeat' refine iE rfl rfl ?_);exact iN)
                           ·(repeat' with_reducible first|refine aN ?_ (hN (by decide))|refine a8 ?_ (hN (by decide))|refine bN ?_ (hN (by decide)))
                            exact hb4
                           ·refine oF rfl rfl rfl rfl ?_;refine oF rfl rfl rfl rfl ?_;refine oF rfl rfl rfl rfl ?_;exact iN
                          ·exfalso;simp [aA,aF,aI] at gb;omega
                        ·exfalso;simp [aA,aF] at g9;omega
                       ·exfalso;simp [aA,aF] at g8;omega
                      ·have htl:t=nb.length:=(by simp [aA,aF] at g7;omega);have hen:=hend htl;((conv=>whnf);refine bm (fun g8=>?_) (fun g8=>?_))
                       ·(conv=>whnf);refine⟨N0.length - (i+1),by omega,?_⟩;refine aW (P:=[(2000,oI (SY)),(2001,oI (N0))]) (W:=fA (cH a b qP nE d1 d2 n) nP m nD nL c1 c2 n fo) (e0:=o6 T N0.length (.slice none 0 0) (j+1)) (n0:=2002) [] ⟨i+1,j+1,by omega,by omega,rfl,.inl ⟨by rw [hen] <;> rfl,rfl,by rw [hen] <;> rfl,rfl⟩⟩ ?_ hok ?_ ?_ (cR rfl) (fun _ h=>by cases h) (Nat.le_of_ble_eq_true rfl)
                        ·unfold o6;((repeat' refine iE rfl rfl ?_);exact iN)
                        ·(repeat' with_reducible first|refine aN ?_ (hN (by decide))|refine a8 ?_ (hN (by decide))|refine bN ?_ (hN (by decide)))
                         exact hb4
                        ·refine oF rfl rfl rfl rfl ?_;refine oF rfl rfl rfl rfl ?_;exact iN
                       ·exfalso;simp [aA,aF,aI] at g8;omega
                     ·simp only at hYp;have hb4:=BR (P:=[(2000,oI (SY)),(2001,oI (N0)),(2002,oI (NY)),(2003,oI (nb))]) hok rfl;unfold rA o6 fA cH PD;have hlenY:(flat aL.fl NY).length=NY.length:=(by rw [bJ];show _*1=_;omega);((conv=>whnf);refine bm (fun g7=>?_) (fun g7=>?_))
                      ·have htl:t<nb.length:=(by simp [aA,aF] at g7;omega);have hgr:=hnbr htl;((conv=>whnf);refine bm (fun g8=>?_) (fun g8=>?_))
                       ·(conv=>whnf);refine eP (cF nb (i:=t) htl ?_) ?_
                        ·show _+Int.toNat z*1=_;omega
                        generalize hgg:aB nb t=g at *;((conv=>whnf);refine bm (fun g9=>?_) (fun g9=>?_))
                        ·(conv=>whnf);refine eP (cF SY (i:=g.toNat) (by rw [hYl];omega) ?_) ?_
                         ·show _+Int.toNat g*1=_;omega
                         ((conv=>whnf);refine bm (fun ga=>?_) (fun ga=>?_))
                         ·have ga:aB SY g.toNat=0:=(by simpa [aA,aF] using ga);rw [if_pos ga] at hss
                          repeat' first
                           |(((conv=>whnf);refine bm (fun c=>?_) (fun c=>?_)))
                           |((conv=>whnf)
                             refine eP (cF SY (i:=f.toNat) (by rw [hYl];omega) ?_) ?_
                             ·show _+Int.toNat f*1=_;omega)
                          all_goals (conv=>whnf)
                          all_goals first
                           |(refine⟨nb.length - (t+1),by omega,?_⟩
                             refine aW (P:=[(2000,oI (SY.set g.toNat (aB SY f.toNat+1))),(2001,oI (N0)),(2002,oI (NY++[g])),(2003,oI (nb))]) (W:=fA (cH a b qP nE d1 d2 n) nP m nD nL c1 c2 n fo) (e0:=rA T N0.length (.slice (some ⟨2002,0,none⟩) (NY.length+1) (NY.length+1)) j f (.slice (some ⟨2003,0,none⟩) nb.length nb.length) nb.length (z+1)) (n0:=2004) [(2002,2005)] ⟨t+1,z+1,by omega,by omega,rfl,.inr ⟨by rw [hss];exact (by rw [List.length_append];exact Nat.succ_pos _),by rw [hss];simp only [List.length_append];rfl,by rw [hss];rfl,rfl⟩⟩ ?_ hok ?_ ?_ (cR rfl) (UC rfl) (Nat.le_of_ble_eq_true rfl)
                             ·unfold rA o6;((repeat' refine iE rfl rfl ?_);exact iN)
                             ·(repeat' with_reducible first|refine aN ?_ (hN (by decide))|refine a8 ?_ (hN (by decide))|refine bN ?_ (hN (by decide)))
                              exact hb4
                             ·refine oW rfl rfl rfl (o':=oI (SY.set g.toNat (aB SY f.toNat+1))) ?_ (aK (aE _ _)) ?_
                              ·have hp:=lZ SY g.toNat (aB SY f.toNat+1) (by rw [hYl];omega);show some (aT.cells true false 1 (dE (flat aL.fl SY) (0+Int.toNat g*1) [iv (aB SY f.toNat+1)]))=_;rw [show 0+Int.toNat g*1=g.toNat*1 by omega,hp]
                              refine oF rfl rfl rfl rfl ?_;refine oW rfl rfl rfl rfl (bG (aE aL _) (gQ aL NY g rfl)) ?_;refine oF rfl rfl rfl rfl ?_;exact iN)
                           |exact sN (s:=1) (by omega) (by omega) (by assumption)
                           |(exfalso;rename_i v;have:=Nat.le_of_ble_eq_true v;omega)
                           |(exfalso
                             rename_i c;have hq:Nat.ble (0+Int.toNat g*1+1) (flat aL.fl SY).length=true:=Nat.ble_eq_true_of_le (by rw [bJ,hYl];show _≤T*1;omega);exact Bool.false_ne_true (c.symm.trans hq))
                           |(exfalso;clear hss hms hmt;simp [aA,aF,aI] at*<;> first|omega|(simp_all;done)|(simp_all;omega))
                         ·have ga:¬ aB SY g.toNat=0:=(by simpa [aA,aF] using ga);rw [if_neg ga] at hss;((conv=>whnf);refine bm (fun gb=>?_) (fun gb=>?_))
                          ·(conv=>whnf);refine⟨nb.length - (t+1),by omega,?_⟩;refine aW (P:=[(2000,oI (SY)),(2001,oI (N0)),(2002,oI (NY)),(2003,oI (nb))]) (W:=fA (cH a b qP nE d1 d2 n) nP m nD nL c1 c2 n fo) (e0:=rA T N0.length (.slice (some ⟨2002,0,none⟩) NY.length NY.length) j f (.slice (some ⟨2003,0,none⟩) nb.length nb.length) nb.length (z+1)) (n0:=2004) [] ⟨t+1,z+1,by omega,by omega,rfl,.inr ⟨by rw [hss];exact hYp,by rw [hss] <;> rfl,by rw [hss] <;> rfl,rfl⟩⟩ ?_ hok ?_ ?_ (cR rfl) (fun _ h=>by cases h) (Nat.le_of_ble_eq_true rfl)
                           ·unfold rA o6;((repeat' refine iE rfl rfl ?_);exact iN)
                           ·(repeat' with_reducible first|refine aN ?_ (hN (by decide))|refine a8 ?_ (hN (by decide))|refine bN ?_ (hN (by decide)))
                            exact hb4
                           ·refine oF rfl rfl rfl rfl ?_;refine oF rfl rfl rfl rfl ?_;refine oF rfl rfl rfl rfl ?_;refine oF rfl rfl rfl rfl ?_;exact iN
                          ·exfalso;simp [aA,aF,aI] at gb;omega
                        ·exfalso;simp [aA,aF] at g9;omega
                       ·exfalso;simp [aA,aF] at g8;omega
                      ·have htl:t=nb.length:=(by simp [aA,aF] at g7;omega);have hen:=hend htl;((conv=>whnf);refine bm (fun g8=>?_) (fun g8=>?_))
                       ·(conv=>whnf);refine⟨N0.length - (i+1),by omega,?_⟩;refine aW (P:=[(2000,oI (SY)),(2001,oI (N0)),(2002,oI (NY))]) (W:=fA (cH a b qP nE d1 d2 n) nP m nD nL c1 c2 n fo) (e0:=o6 T N0.length (.slice (some ⟨2002,0,none⟩) NY.length NY.length) (j+1)) (n0:=2003) [] ⟨i+1,j+1,by omega,by omega,rfl,.inr ⟨by rw [hen];exact hYp,by rw [hen] <;> rfl,by rw [hen] <;> rfl,rfl⟩⟩ ?_ hok ?_ ?_ (cR rfl) (fun _ h=>by cases h) (Nat.le_of_ble_eq_true rfl)
                        ·unfold o6;((repeat' refine iE rfl rfl ?_);exact iN)
                        ·(repeat' with_reducible first|refine aN ?_ (hN (by decide))|refine a8 ?_ (hN (by decide))|refine bN ?_ (hN (by decide)))
                         exact hb4
                        ·refine oF rfl rfl rfl rfl ?_;refine oF rfl rfl rfl rfl ?_;refine oF rfl rfl rfl rfl ?_;exact iN
                       ·exfalso;simp [aA,aF,aI] at g8;omega)
                 |(exfalso;clear hms hmt;simp [aA,aF,aI] at*<;> first|omega|(simp_all;done)|(simp_all;omega))
              ·exfalso;simp [aA,aF] at g5;omega
             ·have hil:i=N0.length:=(by simp [aA,aF] at g4;omega);have hrd:DI m b (S0,N0)=(S,[]):=(by rw [← hX,hil];rfl);(conv=>whnf);refine⟨SB (DI m b (S0,N0)),hmur,?_⟩;rw [hrd] at hF hmur hwr ⊢;refine aW (P:=[(2000,oI (S))]) (W:=fA (cH a b qP nE d1 d2 n) nP m nD nL c1 c2 n fo) (e0:=HP T (.slice none 0 0)) (n0:=2001) [] ⟨(S,[]),k9,rfl,by omega,hF,hwr,.inl ⟨rfl,rfl,rfl,rfl⟩⟩ ?_ hok ?_ ?_ (cR rfl) (fun _ h=>by cases h) (Nat.le_of_ble_eq_true rfl)
              ·unfold HP;((repeat' refine iE rfl rfl ?_);exact iN)
              ·(repeat' with_reducible first|refine aN ?_ (hN (by decide))|refine a8 ?_ (hN (by decide))|refine bN ?_ (hN (by decide)))
               exact hb2
              ·refine oF rfl rfl rfl rfl ?_;exact iN
            ·have hms:∀ (h:¬ (aB N0 i=0∧aB N0 i≠b)),eY m b N0 (S0,[]) (i+1)=dQ (c7 m (aB N0 i)) (aB N0 i) (eY m b N0 (S0,[]) i) (c7 m (aB N0 i)).length:=fun h=>(by conv=>lhs;unfold eY;rw [if_neg h]);have hmt:∀ (h:aB N0 i=0∧aB N0 i≠b),eY m b N0 (S0,[]) (i+1)=eY m b N0 (S0,[]) i:=fun h=>(by conv=>lhs;unfold eY;rw [if_pos h]);generalize hX:eY m b N0 (S0,[]) i=X at *;obtain⟨S,N⟩:=X;simp only at hXp hXl;have hb2:=BR (P:=[(2000,oI (S)),(2001,oI (N0)),(2002,oI (N))]) hok rfl;unfold o6 fA cH PD;((conv=>whnf);refine bm (fun g4=>?_) (fun g4=>?_))
             ·have hil:i<N0.length:=(by simp [aA,aF] at g4;omega);have hfr:=hnx i hil;((conv=>whnf);refine bm (fun g5=>?_) (fun g5=>?_))
              ·(conv=>whnf);refine eP (cF N0 (i:=i) hil ?_) ?_
               ·show _+Int.toNat j*1=_;omega
               generalize hff:aB N0 i=f at *;by_cases hc:f=0∧f≠b
               ·have hm2:=hmt hc
                repeat' (((conv=>whnf);refine bm (fun c=>?_) (fun c=>?_)))
                all_goals (conv=>whnf)
                all_goals first
                 |(skip
                   refine⟨N0.length - (i+1),by omega,?_⟩;refine aW (P:=[(2000,oI (S)),(2001,oI (N0)),(2002,oI (N))]) (W:=fA (cH a b qP nE d1 d2 n) nP m nD nL c1 c2 n fo) (e0:=o6 T N0.length (.slice (some ⟨2002,0,none⟩) N.length N.length) (j+1)) (n0:=2003) [] ⟨i+1,j+1,by omega,by omega,rfl,.inr ⟨by rw [hm2];exact hXp,by rw [hm2] <;> rfl,by rw [hm2] <;> rfl,rfl⟩⟩ ?_ hok ?_ ?_ (cR rfl) (fun _ h=>by cases h) (Nat.le_of_ble_eq_true rfl)
                   ·unfold o6;((repeat' refine iE rfl rfl ?_);exact iN)
                   ·(repeat' with_reducible first|refine aN ?_ (hN (by decide))|refine a8 ?_ (hN (by decide))|refine bN ?_ (hN (by decide)))
                    exact hb2
                   ·refine oF rfl rfl rfl rfl ?_;refine oF rfl rfl rfl rfl ?_;refine oF rfl rfl rfl rfl ?_;exact iN)
                 |(exfalso;clear hms hmt hm2;simp [aA,aF,aI] at*<;> first|omega|(simp_all;done)|(simp_all;omega))
               ·repeat' (((conv=>whnf);refine bm (fun c=>?_) (fun c=>?_)))
                all_goals (conv=>whnf)
                all_goals first
                 |(skip
                   have hm1:=hms hc;(conv=>whnf);refine⟨0,m,n,f,rfl,⟨_,_,_,_,_,_,_,_,_,_,_,_,_,_,_,_,_,_,rfl,rfl,List.take_length⟩,hm,?_⟩;have hnbl:=xQ m f;have hnbr:=fun {k:Nat} (hk:k<(c7 m f).length)=>fR hE hk;have hinok:=fun {k:Nat} (hk:k≤(c7 m f).length)=>C2 (m:=m) hTn hE hXk (f:=f) ⟨hfr.1,by omega⟩ k hk;rcases Nat.eq_zero_or_pos (c7 m f).length with hz|hz
                   ·have hz2:c7 m f=[]:=List.length_eq_zero_iff.1 hz;rw [hz2] at hm1 ⊢;have hm2:eY m b N0 (S0,[]) (i+1)=(S,N):=hm1;(conv=>whnf);refine⟨fun q e h nx=>q=0∧e=rA T N0.length (.slice (some ⟨2002,0,none⟩) N.length N.length) j f (.slice none 0 0) 0 0∧h=[(2000,oI (S)),(2001,oI (N0)),(2002,oI (N))]++(fA (cH a b qP nE d1 d2 n) nP m nD nL c1 c2 n fo)∧nx=2003,⟨0,?_⟩,?_⟩
                    ·skip
                     refine aW (P:=[(2000,oI (S)),(2001,oI (N0)),(2002,oI (N))]) (W:=fA (cH a b qP nE d1 d2 n) nP m nD nL c1 c2 n fo) (e0:=rA T N0.length (.slice (some ⟨2002,0,none⟩) N.length N.length) j f (.slice none 0 0) 0 0) (n0:=2003) [] ⟨rfl,rfl,rfl,rfl⟩ ?_ hok ?_ ?_ (cR rfl) (fun _ h=>by cases h) (Nat.le_of_ble_eq_true rfl)
                     ·unfold rA o6;((repeat' refine iE rfl rfl ?_);exact iN)
                     ·(repeat' with_reducible first|refine aN ?_ (hN (by decide))|refine a8 ?_ (hN (by decide))|refine bN ?_ (hN (by decide)))
                      exact hb2
                     ·refine oF rfl rfl rfl rfl ?_;refine oF rfl rfl rfl rfl ?_;refine oF rfl rfl rfl rfl ?_;exact iN
                    ·rintro q e h nx ⟨rfl,rfl,rfl,rfl⟩;unfold rA o6 fA cH PD;((conv=>whnf);refine bm (fun g8=>?_) (fun g8=>?_))
                     ·(conv=>whnf);refine⟨N0.length - (i+1),by omega,?_⟩;refine aW (P:=[(2000,oI (S)),(2001,oI (N0)),(2002,oI (N))]) (W:=fA (cH a b qP nE d1 d2 n) nP m nD nL c1 c2 n fo) (e0:=o6 T N0.length (.slice (some ⟨2002,0,none⟩) N.length N.length) (j+1)) (n0:=2003) [] ⟨i+1,j+1,by omega,by omega,rfl,.inr ⟨by rw [hm2];exact hXp,by rw [hm2] <;> rfl,by rw [hm2] <;> rfl,rfl⟩⟩ ?_ hok ?_ ?_ (cR rfl) (fun _ h=>by cases h) (Nat.le_of_ble_eq_true rfl)
                      ·unfold o6;((repeat' refine iE rfl rfl ?_);exact iN)
                      ·(repeat' with_reducible first|refine aN ?_ (hN (by decide))|refine a8 ?_ (hN (by decide))|refine bN ?_ (hN (by decide)))
                       exact hb2
                      ·refine oF rfl rfl rfl rfl ?_;refine oF rfl rfl rfl rfl ?_;refine oF rfl rfl rfl rfl ?_;exact iN
                     ·exfalso;simp [aA,aF,aI] at g8;omega
                   ·refine yJ aL hz ?_;generalize hnb:c7 m f=nb at *;(conv=>whnf)
                    refine⟨fun q e h nx=>∃ (t:Nat) (z:Int),z=t∧t≤nb.length∧q=nb.length - t ∧
                     (((dQ nb f (S,N) t).2=[]∧e=rA T N0.length (.slice none 0 0) j f (.slice (some ⟨2003,0,none⟩) nb.length nb.length) nb.length z∧h=[(2000,oI ((dQ nb f (S,N) t).1)),(2001,oI (N0)),(2003,oI (nb))]++(fA (cH a b qP nE d1 d2 n) nP m nD nL c1 c2 n fo)∧nx=2004) ∨
                      (0<(dQ nb f (S,N) t).2.length∧e=rA T N0.length (.slice (some ⟨2002,0,none⟩) (dQ nb f (S,N) t).2.length (dQ nb f (S,N) t).2.length) j f (.slice (some ⟨2003,0,none⟩) nb.length nb.length) nb.length z∧h=[(2000,oI ((dQ nb f (S,N) t).1)),(2001,oI (N0)),(2002,oI ((dQ nb f (S,N) t).2)),(2003,oI (nb))]++(fA (cH a b qP nE d1 d2 n) nP m nD nL c1 c2 n fo)∧nx=2004)),⟨nb.length,?_⟩,?_⟩
                    ·skip
                     refine aW (P:=[(2000,oI (S)),(2001,oI (N0)),(2002,oI (N)),(2003,oI (nb))]) (W:=fA (cH a b qP nE d1 d2 n) nP m nD nL c1 c2 n fo) (e0:=rA T N0.length (.slice (some ⟨2002,0,none⟩) N.length N.length) j f (.slice (some ⟨2003,0,none⟩) nb.length nb.length) nb.length 0) (n0:=2004) [] ⟨0,0,rfl,Nat.zero_le _,rfl,.inr ⟨hXp,rfl,rfl,rfl⟩⟩ ?_ hok ?_ ?_ (cR rfl) (fun _ h=>by cases h) (Nat.le_of_ble_eq_true rfl)
                     ·unfold rA o6;((repeat' refine iE rfl rfl ?_);exact iN)
                     ·(repeat' with_reducible first|refine aN ?_ (hN (by decide))|refine a8 ?_ (hN (by decide))|refine bN ?_ (hN (by decide)))
                      exact hb2
                     ·refine oF rfl rfl rfl rfl ?_;refine oF rfl rfl rfl rfl ?_;refine oF rfl rfl rfl rfl ?_;refine oF rfl rfl rfl rfl ?_;exact iN
                    ·rintro q e h nx ⟨t,z,hz1,ht,rfl,hy⟩;have hYk:=hinok ht;have hYl:=hYk.len;have hYf:=hYk.rng f.toNat (by omega);have hYz:=hYk.sz;have hss:dQ nb f (S,N) (t+1)=if aB (dQ nb f (S,N) t).1 (aB nb t).toNat=0 then ((dQ nb f (S,N) t).1.set (aB nb t).toNat (aB (dQ nb f (S,N) t).1 f.toNat+1),(dQ nb f (S,N) t).2++[aB nb t]) else dQ nb f (S,N) t:=rfl
                     have hend:t=nb.length→eY m b N0 (S0,[]) (i+1)=dQ nb f (S,N) t:=fun h=>(by rw [h];exact hm1);generalize hY:dQ nb f (S,N) t=Y at *;obtain⟨SY,NY⟩:=Y;simp only at hYl hYf hYz hss;rcases hy with ⟨hYn,rfl,rfl,rfl⟩|⟨hYp,rfl,rfl,rfl⟩
                     ·simp only at hYn;subst hYn;have hb4:=BR (P:=[(2000,oI (SY)),(2001,oI (N0)),(2003,oI (nb))]) hok rfl;unfold rA o6 fA cH PD;((conv=>whnf);refine bm (fun g7=>?_) (fun g7=>?_))
                      ·have htl:t<nb.length:=(by simp [aA,aF] at g7;omega);have hgr:=hnbr htl;((conv=>whnf);refine bm (fun g8=>?_) (fun g8=>?_))
                       ·(conv=>whnf);refine eP (cF nb (i:=t) htl ?_) ?_
                        ·show _+Int.toNat z*1=_;omega
                        generalize hgg:aB nb t=g at *;((conv=>whnf);refine bm (fun g9=>?_) (fun g9=>?_))
                        ·(conv=>whnf);refine eP (cF SY (i:=g.toNat) (by rw [hYl];omega) ?_) ?_
                         ·show _+Int.toNat g*1=_;omega
                         ((conv=>whnf);refine bm (fun ga=>?_) (fun ga=>?_))
                         ·have ga:aB SY g.toNat=0:=(by simpa [aA,aF] using ga);rw [if_pos ga] at hss
                          repeat' first
                           |(((conv=>whnf);refine bm (fun c=>?_) (fun c=>?_)))
                           |((conv=>whnf)
                             refine eP (cF SY (i:=f.toNat) (by rw [hYl];omega) ?_) ?_
                             ·show _+Int.toNat f*1=_;omega)
                          all_goals (conv=>whnf)
                          all_goals first
                           |(refine⟨nb.length - (t+1),by omega,?_⟩
                             refine aW (P:=[(2000,oI (SY.set g.toNat (aB SY f.toNat+1))),(2001,oI (N0)),(2002,oI ([g])),(2003,oI (nb))]) (W:=fA (cH a b qP nE d1 d2 n) nP m nD nL c1 c2 n fo) (e0:=rA T N0.length (.slice (some ⟨2002,0,none⟩) 1 1) j f (.slice (some ⟨2003,0,none⟩) nb.length nb.length) nb.length (z+1)) (n0:=2004) [(2002,2005)] ⟨t+1,z+1,by omega,by omega,rfl,.inr ⟨by rw [hss];exact Nat.one_pos,by rw [hss];rfl,by rw [hss];rfl,rfl⟩⟩ ?_ hok ?_ ?_ (cR rfl) (UC rfl) (Nat.le_of_ble_eq_true rfl)
                             ·unfold rA o6;((repeat' refine iE rfl rfl ?_);exact iN)
                             ·(repeat' with_reducible first|refine aN ?_ (hN (by decide))|refine a8 ?_ (hN (by decide))|refine bN ?_ (hN (by decide)))
                              exact hb4
                             ·refine oW rfl rfl rfl (o':=oI (SY.set g.toNat (aB SY f.toNat+1))) ?_ (aK (aE _ _)) ?_
                              ·have hp:=lZ SY g.toNat (aB SY f.toNat+1) (by rw [hYl];omega);show some (aT.cells true false 1 (dE (flat aL.fl SY) (0+Int.toNat g*1) [iv (aB SY f.toNat+1)]))=_;rw [show 0+Int.toNat g*1=g.toNat*1 by omega,hp]
                              refine oF rfl rfl rfl rfl ?_;refine oW rfl rfl rfl rfl (bG (aE aL _) rfl) ?_;refine oF rfl rfl rfl rfl ?_;exact iN)
                           |(exfalso
                             rename_i c;have hq:Nat.ble (0+Int.toNat g*1+1) (flat aL.fl SY).length=true:=Nat.ble_eq_true_of_le (by rw [bJ,hYl];show _≤T*1;omega);exact Bool.false_ne_true (c.symm.trans hq))
                           |(exfalso;clear hss hms hmt;simp [aA,aF,aI] at*<;> first|omega|(simp_all;done)|(simp_all;omega))
                         ·have ga:¬ aB SY g.toNat=0:=(by simpa [aA,aF] using ga);rw [if_neg ga] at hss;((conv=>whnf);refine bm (fun gb=>?_) (fun gb=>?_))
                          ·(conv=>whnf);refine⟨nb.length - (t+1),by omega,?_⟩;refine aW (P:=[(2000,oI (SY)),(2001,oI (N0)),(2003,oI (nb))]) (W:=fA (cH a b qP nE d1 d2 n) nP m nD nL c1 c2 n fo) (e0:=rA T N0.length (.slice none 0 0) j f (.slice (some ⟨2003,0,none⟩) nb.length nb.length) nb.length (z+1)) (n0:=2004) [] ⟨t+1,z+1,by omega,by omega,rfl,.inl ⟨by rw [hss] <;> rfl,by rfl,by rw [hss] <;> rfl,rfl⟩⟩ ?_ hok ?_ ?_ (cR rfl) (fun _ h=>by cases h) (Nat.le_of_ble_eq_true rfl)
                           ·unfold rA o6;((repeat' refine iE rfl rfl ?_);exact iN)
                           ·(repeat' with_reducible first|refine aN ?_ (hN (by decide))|refine a8 ?_ (hN (by decide))|refine bN ?_ (hN (by decide)))
                            exact hb4
                           ·refine oF rfl rfl rfl rfl ?_;refine oF rfl rfl rfl rfl ?_;refine oF rfl rfl rfl rfl ?_;exact iN
                          ·exfalso;simp [aA,aF,aI] at gb;omega
                        ·exfalso;simp [aA,aF] at g9;omega
                       ·exfalso;simp [aA,aF] at g8;omega
                      ·have htl:t=nb.length:=(by simp [aA,aF] at g7;omega);have hen:=hend htl;((conv=>whnf);refine bm (fun g8=>?_) (fun g8=>?_))
                       ·(conv=>whnf);refine⟨N0.length - (i+1),by omega,?_⟩;refine aW (P:=[(2000,oI (SY)),(2001,oI (N0))]) (W:=fA (cH a b qP nE d1 d2 n) nP m nD nL c1 c2 n fo) (e0:=o6 T N0.length (.slice none 0 0) (j+1)) (n0:=2002) [] ⟨i+1,j+1,by omega,by omega,rfl,.inl ⟨by rw [hen] <;> rfl,rfl,by rw [hen] <;> rfl,rfl⟩⟩ ?_ hok ?_ ?_ (cR rfl) (fun _ h=>by cases h) (Nat.le_of_ble_eq_true rfl)
                        ·unfold o6;((repeat' refine iE rfl rfl ?_);exact iN)
                        ·(repeat' with_reducible first|refine aN ?_ (hN (by decide))|refine a8 ?_ (hN (by decide))|refine bN ?_ (hN (by decide)))
                         exact hb4
                        ·refine oF rfl rfl rfl rfl ?_;refine oF rfl rfl rfl rfl ?_;exact iN
                       ·exfalso;simp [aA,aF,aI] at g8;omega
                     ·simp only at hYp;have hb4:=BR (P:=[(2000,oI (SY)),(2001,oI (N0)),(2002,oI (NY)),(2003,oI (nb))]) hok rfl;unfold rA o6 fA cH PD;have hlenY:(flat aL.fl NY).length=NY.length:=(by rw [bJ];show _*1=_;omega);((conv=>whnf);refine bm (fun g7=>?_) (fun g7=>?_))
                      ·have htl:t<nb.length:=(by simp [aA,aF] at g7;omega);have hgr:=hnbr htl;((conv=>whnf);refine bm (fun g8=>?_) (fun g8=>?_))
                       ·(conv=>whnf);refine eP (cF nb (i:=t) htl ?_) ?_
                        ·show _+Int.toNat z*1=_;omega
                        generalize hgg:aB nb t=g at *;((conv=>whnf);refine bm (fun g9=>?_) (fun g9=>?_))
                        ·(conv=>whnf);refine eP (cF SY (i:=g.toNat) (by rw [hYl];omega) ?_) ?_
                         ·show _+Int.toNat g*1=_;omega
                         ((conv=>whnf);refine bm (fun ga=>?_) (fun ga=>?_))
                         ·have ga:aB SY g.toNat=0:=(by simpa [aA,aF] using ga);rw [if_pos ga] at hss
                          repeat' first
                           |(((conv=>whnf);refine bm (fun c=>?_) (fun c=>?_)))
                           |((conv=>whnf)
                             refine eP (cF SY (i:=f.toNat) (by rw [hYl];omega) ?_) ?_
                             ·show _+Int.toNat f*1=_;omega)
                          all_goals (conv=>whnf)
                          all_goals first
                           |(refine⟨nb.length - (t+1),by omega,?_⟩
                             refine aW (P:=[(2000,oI (SY.set g.toNat (aB SY f.toNat+1))),(2001,oI (N0)),(2002,oI (NY++[g])),(2003,oI (nb))]) (W:=fA (cH a b qP nE d1 d2 n) nP m nD nL c1 c2 n fo) (e0:=rA T N0.length (.slice (some ⟨2002,0,none⟩) (NY.length+1) (NY.length+1)) j f (.slice (some ⟨2003,0,none⟩) nb.length nb.length) nb.length (z+1)) (n0:=2004) [(2002,2005)] ⟨t+1,z+1,by omega,by omega,rfl,.inr ⟨by rw [hss];exact (by rw [List.length_append];exact Nat.succ_pos _),by rw [hss];simp only [List.length_append];rfl,by rw [hss];rfl,rfl⟩⟩ ?_ hok ?_ ?_ (cR rfl) (UC rfl) (Nat.le_of_ble_eq_true rfl)
                             ·unfold rA o6;((repeat' refine iE rfl rfl ?_);exact iN)
                             ·(repeat' with_reducible first|refine aN ?_ (hN (by decide))|refine a8 ?_ (hN (by decide))|refine bN ?_ (hN (by decide)))
                              exact hb4
                             ·refine oW rfl rfl rfl (o':=oI (SY.set g.toNat (aB SY f.toNat+1))) ?_ (aK (aE _ _)) ?_
                              ·have hp:=lZ SY g.toNat (aB SY f.toNat+1) (by rw [hYl];omega);show some (aT.cells true false 1 (dE (flat aL.fl SY) (0+Int.toNat g*1) [iv (aB SY f.toNat+1)]))=_;rw [show 0+Int.toNat g*1=g.toNat*1 by omega,hp]
                              refine oF rfl rfl rfl rfl ?_;refine oW rfl rfl rfl rfl (bG (aE aL _) (gQ aL NY g rfl)) ?_;refine oF rfl rfl rfl rfl ?_;exact iN)
                           |exact sN (s:=1) (by omega) (by omega) (by assumption)
                           |(exfalso;rename_i v;have:=Nat.le_of_ble_eq_true v;omega)
                           |(exfalso
                             rename_i c;have hq:Nat.ble (0+Int.toNat g*1+1) (flat aL.fl SY).length=true:=Nat.ble_eq_true_of_le (by rw [bJ,hYl];show _≤T*1;omega);exact Bool.false_ne_true (c.symm.trans hq))
                           |(exfalso;clear hss hms hmt;simp [aA,aF,aI] at*<;> first|omega|(simp_all;done)|(simp_all;omega))
                         ·have ga:¬ aB SY g.toNat=0:=(by simpa [aA,aF] using ga);rw [if_neg ga] at hss;((conv=>whnf);refine bm (fun gb=>?_) (fun gb=>?_))
                          ·(conv=>whnf);refine⟨nb.length - (t+1),by omega,?_⟩;refine aW (P:=[(2000,oI (SY)),(2001,oI (N0)),(2002,oI (NY)),(2003,oI (nb))]) (W:=fA (cH a b qP nE d1 d2 n) nP m nD nL c1 c2 n fo) (e0:=rA T N0.length (.slice (some ⟨2002,0,none⟩) NY.length NY.length) j f (.slice (some ⟨2003,0,none⟩) nb.length nb.length) nb.length (z+1)) (n0:=2004) [] ⟨t+1,z+1,by omega,by omega,rfl,.inr ⟨by rw [hss];exact hYp,by rw [hss] <;> rfl,by rw [hss] <;> rfl,rfl⟩⟩ ?_ hok ?_ ?_ (cR rfl) (fun _ h=>by cases h) (Nat.le_of_ble_eq_true rfl)
                           ·unfold rA o6;((repeat' refine iE rfl rfl ?_);exact iN)
                           ·(repeat' with_reducible first|refine aN ?_ (hN (by decide))|refine a8 ?_ (hN (by decide))|refine bN ?_ (hN (by decide)))
                            exact hb4
                           ·refine oF rfl rfl rfl rfl ?_;refine oF rfl rfl rfl rfl ?_;refine oF rfl rfl rfl rfl ?_;refine oF rfl rfl rfl rfl ?_;exact iN
                          ·exfalso;simp [aA,aF,aI] at gb;omega
                        ·exfalso;simp [aA,aF] at g9;omega
                       ·exfalso;simp [aA,aF] at g8;omega
                      ·have htl:t=nb.length:=(by simp [aA,aF] at g7;omega);have hen:=hend htl;((conv=>whnf);refine bm (fun g8=>?_) (fun g8=>?_))
                       ·(conv=>whnf);refine⟨N0.length - (i+1),by omega,?_⟩;refine aW (P:=[(2000,oI (SY)),(2001,oI (N0)),(2002,oI (NY))]) (W:=fA (cH a b qP nE d1 d2 n) nP m nD nL c1 c2 n fo) (e0:=o6 T N0.length (.slice (some ⟨2002,0,none⟩) NY.length NY.length) (j+1)) (n0:=2003) [] ⟨i+1,j+1,by omega,by omega,rfl,.inr ⟨by rw [hen];exact hYp,by rw [hen] <;> rfl,by rw [hen] <;> rfl,rfl⟩⟩ ?_ hok ?_ ?_ (cR rfl) (fun _ h=>by cases h) (Nat.le_of_ble_eq_true rfl)
                        ·unfold o6;((repeat' refine iE rfl rfl ?_);exact iN)
                        ·(repeat' with_reducible first|refine aN ?_ (hN (by decide))|refine a8 ?_ (hN (by decide))|refine bN ?_ (hN (by decide)))
                         exact hb4
                        ·refine oF rfl rfl rfl rfl ?_;refine oF rfl rfl rfl rfl ?_;refine oF rfl rfl rfl rfl ?_;exact iN
                       ·exfalso;simp [aA,aF,aI] at g8;omega)
                 |(exfalso;clear hms hmt;simp [aA,aF,aI] at*<;> first|omega|(simp_all;done)|(simp_all;omega))
              ·exfalso;simp [aA,aF] at g5;omega
             ·have hil:i=N0.length:=(by simp [aA,aF] at g4;omega);have hrd:DI m b (S0,N0)=(S,N):=(by rw [← hX,hil];rfl);(conv=>whnf);refine⟨SB (DI m b (S0,N0)),hmur,?_⟩;rw [hrd] at hF hmur hwr ⊢;refine aW (P:=[(2000,oI (S)),(2001,oI (N))]) (W:=fA (cH a b qP nE d1 d2 n) nP m nD nL c1 c2 n fo) (e0:=HP T (.slice (some ⟨2001,0,none⟩) N.length N.length)) (n0:=2002) [(2001,2002)] ⟨(S,N),k9,rfl,by omega,hF,hwr,.inr ⟨hXp,rfl,rfl,rfl⟩⟩ ?_ hok ?_ ?_ (cR rfl) (UC rfl) (Nat.le_of_ble_eq_true rfl)
              ·unfold HP;((repeat' refine iE rfl rfl ?_);exact iN)
              ·(repeat' with_reducible first|refine aN ?_ (hN (by decide))|refine a8 ?_ (hN (by decide))|refine bN ?_ (hN (by decide)))
               exact hb2
              ·refine oF rfl rfl rfl rfl ?_;refine oF rfl rfl rfl rfl ?_;exact iN
          ·have g3:¬ aB s.1 a.toNat=0:=(by simpa [aA,aF] using g3);have hstop:nK a s=true:=(by unfold nK;rw [decide_eq_true g3,Bool.or_true]);have hstep:=hok2.rng a.toNat (by omega);have hrun:wF m n a b=s:=(by rw [← hF];exact zC hstop k);generalize hSS:s.1=S at *;((conv=>whnf);refine bm (fun g5=>?_) (fun g5=>?_))
           ·(conv=>whnf);refine eP (cF S (i:=a.toNat) (by rw [hlen];omega) ?_) ?_
            ·show _+Int.toNat a*1=_;omega
            ((conv=>whnf);refine bm (fun g6=>?_) (fun g6=>?_))
            ·have g6:aB S a.toNat=0:=(by simpa [aA,aF] using g6);have hO:SH m n a b=none:=(by unfold SH;rw [hrun,hSS,if_pos g6]);rw [hO] at hQ;(conv=>whnf);rw [← hQ];rfl
            ·have g6:¬ aB S a.toNat=0:=(by simpa [aA,aF] using g6);have hO:SH m n a b=mU m S b (T+1) a [a]:=(by unfold SH;rw [hrun,hSS,if_neg g6,hT]);rw [hO] at hQ;(conv=>whnf);refine⟨fun q e h nx=>∃ (f:Int) (out:List Int) (k:Nat),q=(aB S f.toNat).toNat∧q+1≤k∧mU m S b k f out=mU m S b (T+1) a [a]∧(0≤f∧f≤n)∧0<out.length∧out.length+q≤T+1∧e=K5 T out.length f∧h=[(2000,oI (S)),(2001,oI (out))]++(fA (cH a b qP nE d1 d2 n) nP m nD nL c1 c2 n fo)∧nx=2002,⟨(aB S a.toNat).toNat,?_⟩,?_⟩
             ·skip
              refine aW (P:=[(2000,oI (S)),(2001,oI ([a]))]) (W:=fA (cH a b qP nE d1 d2 n) nP m nD nL c1 c2 n fo) (e0:=K5 T 1 a) (n0:=2002) [(2001,2002)] ⟨a,[a],T+1,rfl,by omega,rfl,⟨ha0,ha1⟩,Nat.one_pos,by show 1+_≤_;omega,rfl,rfl,rfl⟩ ?_ hok ?_ ?_ (cR rfl) (UC rfl) (Nat.le_of_ble_eq_true rfl)
              ·unfold K5;((repeat' refine iE rfl rfl ?_);exact iN)
              ·(repeat' with_reducible first|refine aN ?_ (hN (by decide))|refine a8 ?_ (hN (by decide))|refine bN ?_ (hN (by decide)))
               exact hbase0
              ·refine oF rfl rfl rfl rfl ?_;refine oW rfl rfl rfl rfl (bG (aE aL _) rfl) ?_;exact iN
             ·rintro q e h nx ⟨f,out,k6,rfl,hk6,hw6,hf6,hpo,hlo,rfl,rfl,rfl⟩;have hb6:=BR (P:=[(2000,oI (S)),(2001,oI (out))]) hok rfl;have hS6:=hok2.rng f.toNat (by omega);obtain⟨k7,rfl⟩:∃ k7,k6=k7+1:=⟨k6 - 1,by omega⟩;have hlen6:(flat aL.fl out).length=out.length:=(by rw [bJ];show _*1=_;omega);unfold K5 fA cH PD;((conv=>whnf);refine bm (fun g7=>?_) (fun g7=>?_))
              ·have g7:f≠b:=(by simpa [aA,aF] using g7);have hw7:mU m S b (k7+1) f out=(match BZ S f b (c7 m f) with|some g=>mU m S b k7 g (out++[g])|none=>none):=LN g7;(conv=>whnf);refine⟨0,m,n,f,rfl,⟨_,_,_,_,_,_,_,_,_,_,_,_,_,_,_,_,_,_,rfl,rfl,List.take_length⟩,hm,?_⟩;have hnbl:=xQ m f;have hnbr:=fun {k:Nat} (hk:k<(c7 m f).length)=>fR hE hk;rcases Nat.eq_zero_or_pos (c7 m f).length with hz|hz
               ·have hz2:c7 m f=[]:=List.length_eq_zero_iff.1 hz;rw [hz2] at hw7 ⊢;rw [← hw6,hw7] at hQ;(conv=>whnf);refine⟨fun q e h nx=>q=0∧e=[(97,.slice none 0 0),(98,iv 0),(99,iv 0)]∧h=[]∧nx=2000,⟨0,?_⟩,?_⟩
                ·exact cO (e0:=[(97,.slice none 0 0),(98,iv 0),(99,iv 0)]) (h0:=[]) (n0:=2000) ⟨rfl,rfl,rfl,rfl⟩ (by ((repeat' refine iE rfl rfl ?_);exact iN)) (fun _ h=>by cases h) (by decide)
                ·rintro q e h nx ⟨rfl,rfl,rfl,rfl⟩;(conv=>whnf);rw [← hQ];rfl
               ·refine yJ aL hz ?_;generalize hnb:c7 m f=nb at *;(conv=>whnf);refine⟨fun q e h nx=>∃ (i:Nat) (j:Int),j=i∧i≤nb.length∧q=nb.length - i∧(∀ t,t<i→OY S f b (aB nb t)=false)∧e=YP T out.length f nb.length j∧h=[(2000,oI (S)),(2001,oI (out)),(2002,oI (nb))]++(fA (cH a b qP nE d1 d2 n) nP m nD nL c1 c2 n fo)∧nx=2003,⟨nb.length,?_⟩,?_⟩
                ·skip
                 refine aW (P:=[(2000,oI (S)),(2001,oI (out)),(2002,oI (nb))]) (W:=fA (cH a b qP nE d1 d2 n) nP m nD nL c1 c2 n fo) (e0:=YP T out.length f nb.length 0) (n0:=2003) [] ⟨0,0,rfl,Nat.zero_le _,rfl,fun t h=>absurd h (Nat.not_lt_zero t),rfl,rfl,rfl⟩ ?_ hok ?_ ?_ (cR rfl) (fun _ h=>by cases h) (Nat.le_of_ble_eq_true rfl)
                 ·unfold YP K5;((repeat' refine iE rfl rfl ?_);exact iN)
                 ·(repeat' with_reducible first|refine aN ?_ (hN (by decide))|refine a8 ?_ (hN (by decide))|refine bN ?_ (hN (by decide)))
                  exact hb6
                 ·refine oF rfl rfl rfl rfl ?_;refine oF rfl rfl rfl rfl ?_;refine oF rfl rfl rfl rfl ?_;exact iN
                ·rintro q e h nx ⟨i,j,hj,hi,rfl,hno,rfl,rfl,rfl⟩;have hb8:=BR (P:=[(2000,oI (S)),(2001,oI (out)),(2002,oI (nb))]) hok rfl;unfold YP K5 fA cH PD;((conv=>whnf);refine bm (fun g8=>?_) (fun g8=>?_))
                 ·have hil:i<nb.length:=(by simp [aA,aF] at g8;omega);have hg:=hnbr (k:=i) hil;((conv=>whnf);refine bm (fun g9=>?_) (fun g9=>?_))
                  ·(conv=>whnf);refine eP (cF nb (i:=i) hil ?_) ?_
                   ·show _+Int.toNat j*1=_;omega
                   have hSg:=hok2.rng (aB nb i).toNat (by omega);have hat:=CF (S:=S) (f:=f) (b:=b) hil hno;generalize hgg:aB nb i=g at *;cases hwk:OY S f b g with
                   |true =>
                    have hwk2:=hwk;simp only [OY,Bool.and_eq_true,Bool.or_eq_true,decide_eq_true_eq] at hwk2;have hat:=hat hwk
                    repeat' first
                     |(((conv=>whnf);refine bm (fun c=>?_) (fun c=>?_)))
                     |((conv=>whnf)
                       refine eP (cF S (i:=g.toNat) (by rw [hlen];omega) ?_) ?_
                       ·show _+Int.toNat g*1=_;omega)
                     |((conv=>whnf)
                       refine eP (cF S (i:=f.toNat) (by rw [hlen];omega) ?_) ?_
                       ·show _+Int.toNat f*1=_;omega)
                    all_goals (conv=>whnf)
                    all_goals first
                     |(refine⟨(aB S g.toNat).toNat,by omega,?_⟩
                       refine aW (P:=[(2000,oI (S)),(2001,oI (out++[g]))]) (W:=fA (cH a b qP nE d1 d2 n) nP m nD nL c1 c2 n fo) (e0:=K5 T (out.length+1) g) (n0:=2002) [(2001,2004)] ⟨g,out++[g],k7,rfl,by omega,by rw [← hw6,hw7,hat],⟨hg.1,hg.2⟩,by rw [List.length_append];exact Nat.succ_pos _,by rw [List.length_append];show _+1+_≤_;omega,by rw [List.length_append];rfl,rfl,rfl⟩ ?_ hok ?_ ?_ (cR rfl) (UC rfl) (Nat.le_of_ble_eq_true rfl)
                       ·unfold K5;((repeat' refine iE rfl rfl ?_);exact iN)
                       ·(repeat' with_reducible first|refine aN ?_ (hN (by decide))|refine a8 ?_ (hN (by decide))|refine bN ?_ (hN (by decide)))
                        exact hb8
                       ·refine oF rfl rfl rfl rfl ?_;refine oW rfl rfl rfl rfl (bG (aE aL _) (gQ aL out g rfl)) ?_;exact iN)
                     |exact sN (s:=1) (by omega) (by omega) (by assumption)
                     |(exfalso;rename_i v;have:=Nat.le_of_ble_eq_true v;omega)
                     |(exfalso;clear hat hw7 hw6 hN;simp [aA,aF,aI] at*<;> first|omega|(simp_all;done)|(simp_all;omega))
                   |false =>
                    clear hat;simp only [OY,Bool.and_eq_false_iff,Bool.or_eq_false_iff,decide_eq_false_iff_not] at hwk
                    repeat' first
                     |(((conv=>whnf);refine bm (fun c=>?_) (fun c=>?_)))
                     |((conv=>whnf)
                       refine eP (cF S (i:=g.toNat) (by rw [hlen];omega) ?_) ?_
                       ·show _+Int.toNat g*1=_;omega)
                     |((conv=>whnf)
                       refine eP (cF S (i:=f.toNat) (by rw [hlen];omega) ?_) ?_
                       ·show _+Int.toNat f*1=_;omega)
                    all_goals (conv=>whnf)
                    all_goals first
                     |(refine⟨nb.length - (i+1),by omega,?_⟩
                       refine aW (P:=[(2000,oI (S)),(2001,oI (out)),(2002,oI (nb))]) (W:=fA (cH a b qP nE d1 d2 n) nP m nD nL c1 c2 n fo) (e0:=YP T out.length f nb.length (j+1)) (n0:=2003) [] ⟨i+1,j+1,by omega,by omega,rfl,fun t ht=>?_,rfl,rfl,rfl⟩ ?_ hok ?_ ?_ (cR rfl) (fun _ h=>by cases h) (Nat.le_of_ble_eq_true rfl)
                       ·by_cases e:t=i
                        ·rw [e,hgg];simp only [OY,Bool.and_eq_false_iff,Bool.or_eq_false_iff,decide_eq_false_iff_not];exact hwk
                        ·exact hno t (by omega)
                       ·unfold YP K5;((repeat' refine iE rfl rfl ?_);exact iN)
                       ·(repeat' with_reducible first|refine aN ?_ (hN (by decide))|refine a8 ?_ (hN (by decide))|refine bN ?_ (hN (by decide)))
                        exact hb8
                       ·refine oF rfl rfl rfl rfl ?_;refine oF rfl rfl rfl rfl ?_;refine oF rfl rfl rfl rfl ?_;exact iN)
                     |(exfalso;clear hw7 hw6;simp [aA,aF,aI] at*<;> first|omega|(simp_all;done)|(simp_all;omega))
                  ·exfalso;simp [aA,aF] at g9;omega
                 ·have hil:i=nb.length:=(by simp [aA,aF] at g8;omega);rw [KA (fun t ht=>hno t (by omega))] at hw7;rw [← hw6,hw7] at hQ;(conv=>whnf);rw [← hQ];rfl
              ·have g7:f=b:=(by simpa [aA,aF] using g7);have hw7:mU m S b (k7+1) f out=some out:=(by unfold mU;rw [if_pos g7]);rw [← hw6,hw7] at hQ;(conv=>whnf);rw [← hQ];have:=mL aL (l:=out) (e:=some 0) (h:=[(2000,oI (S)),(2001,oI (out))]++(fA (cH a b qP nE d1 d2 n) nP m nD nL c1 c2 n fo)) (q:=2001) (nx:=2002) hpo rfl;exact this
           ·exfalso;simp [aA,aF] at g5;omega
         ·exfalso;simp [aA,aF] at g2;omega
        ·exfalso;simp [aA,aF] at g1;rw [g1] at hpos;cases hpos
     ·exfalso;have hq:Nat.ble (0+Int.toNat b*1+1) (rep T [iv 0]).length=true:=Nat.ble_eq_true_of_le (by rw [R3,bJ,List.length_replicate];show _≤T*1;omega);rw [← hT] at hq;exact Bool.false_ne_true (m4.symm.trans hq)
    ·exfalso;simp [aA,aF] at m3;omega
   ·exfalso;simp [aA,aF] at m2;omega
  ·exfalso;simp [aA,aF,aI] at m1;omega
end Go.Aw
end
