/-
  Parts of a proof. No condition.
-/
import Derived.Test.YtjahkcbdecgbhaaGreatQBr
import Derived.Test.YtjahkcbdecgbhaaGreatQBt
set_option linter.unusedSimpArgs false
set_option linter.unusedVariables false
noncomputable section
namespace Go.Aw
set_option maxRecDepth 100000
set_option maxHeartbeats 2000000
def stO (k0 k1 kd kt kf nP nE nD nL c1 c2:Nat)(n:Int)(fo:Option (Nat × Nat)):aX:=.cells false false 1 (xO k0 k1 kd kt kf nP nE nD nL c1 c2 n fo)
def aIL (h:Heap)(p:Nat)(n:Int):Prop:=∃ wr g sz k0 k1 kd kt kf nP nE nD nL c1 c2 fo,look h p=some (.cells wr g sz (xO k0 k1 kd kt kf nP nE nD nL c1 c2 n fo))
def aJ6 (h:Heap)(k:Nat)(L:List Int):Prop:=∃ wr g sz cs,look h k=some (.cells wr g sz cs)∧cs.take (flat aN.fl L).length=flat aN.fl L
def rhS (p k3 k0 k1 kd kt kf:Nat)(k:Nat):Nat:=if k=0 then p else if k=3 then k3 else if k=4 then k0 else if k=5 then k1 else if k=1 then kd else if k=2 then kt else kf
theorem aFP {h:Heap}{p k3:Nat}{n:Int}{L:List Int}(hs:aIL h p n)(hL:aJ6 h k3 L)(c:Nat){nx:Nat}:∃ nP nE nD nL c1 c2 fo,In [pV 0,.slice (some ⟨3,0,none⟩) L.length c] [(0,stO 4 5 1 2 6 nP nE nD nL c1 c2 n fo),(3,.cells false true 1 (flat aN.fl L))] 9 [pV p,.slice (some ⟨k3,0,none⟩) L.length c] h nx:=by
 obtain⟨wr,g,sz,k0,k1,kd,kt,kf,nP,nE,nD,nL,c1,c2,fo,hst⟩:=hs;obtain⟨w2,g2,s2,cs,h2,h3⟩:=hL;refine⟨nP,nE,nD,nL,c1,c2,fo,xK (rhS p k3 k0 k1 kd kt kf) rfl ?_ fun k o hk=>?_⟩
 ·exact List.forall_mem_cons.2 ⟨rU rfl,List.forall_mem_cons.2 ⟨rU rfl,fun _ h=>by cases h⟩⟩
 ·rw [aE] at hk;split at hk
  ·rename_i hq;injection hk with hk;subst hk;rw [← beq_true hq]
   refine⟨by decide,false,1,_,rfl,by decide,(fun h=>by cases h),?_,wr,g,sz,_,hst,?_⟩
   ·exact List.forall_mem_cons.2 ⟨dS rfl,List.forall_mem_cons.2 ⟨dS rfl,List.forall_mem_cons.2 ⟨dS rfl,List.forall_mem_cons.2 ⟨dS rfl,List.forall_mem_cons.2 ⟨dS rfl,List.forall_mem_cons.2 ⟨by cases fo <;> exact dS rfl,fun _ h=>by cases h⟩⟩⟩⟩⟩⟩
   ·cases fo <;> rfl
  ·rw [aE] at hk;split at hk
   ·rename_i hq;injection hk with hk;subst hk;rw [← beq_true hq]
    exact⟨by decide,true,1,_,rfl,by decide,fun _=>aG aN L,fun v hv=>cL (aW (aG aN L) hv),w2,g2,s2,cs,h2,by rw [h3];exact (bW (aG aN L)).symm⟩
   ·exact bV hk
def aEi:Nat × XF:=(82,fun args h nx K=>∃ p k3 n L c b,args=[pV p,.slice (some ⟨k3,0,none⟩) L.length c]∧aIL h p n∧aJ6 h k3 L∧OW [] [] n L=some (true,.bool b)∧K (.bool b) h nx)
theorem aN7:cH Go.Proofs.Tryz.prog aEi.1 aEi.2:=by
 refine (gC (S:=fun args0 h0 n0 v1 h1 m=>∃ nP nE nD nL c1 c2 n fo L c b,args0=[pV 0,.slice (some ⟨3,0,none⟩) L.length c]∧h0=[(0,stO 4 5 1 2 6 nP nE nD nL c1 c2 n fo),(3,.cells false true 1 (flat aN.fl L))]∧n0=9∧OW [] [] n L=some (true,.bool b)∧v1=.bool b∧h1=[]∧m=0) (j3 (zL (xl:=[]) .nil 4) 6).1 ?_).mono ?_ ?_
 ·rintro args0 h0 n0 v1 h1 m ⟨nP,nE,nD,nL,c1,c2,n,fo,L,c,b,rfl,rfl,rfl,hs,rfl,rfl,rfl⟩;refine⟨rfl,fun u _ _=>u=.bool b,?_,fun v h nx e=>by rw [e];exact kD rfl⟩;have:(∃ a,L=[a]∧b=pT n a)∨(∃ a a',L=[a,a']∧b=(pT n a&&pT n a')):=by
   unfold OW at hs;split at hs
   ·injection hs with hs;injection hs with h1 h2;injection h2 with h2;exact .inl ⟨_,rfl,h2.symm⟩
   ·injection hs with hs;injection hs with h1 h2;injection h2 with h2;exact .inr ⟨_,_,rfl,h2.symm⟩
   ·cases hs
  clear hs;rcases this with ⟨a,rfl,rfl⟩|⟨a,a',rfl,rfl⟩
  ·unfold pT stO xO
   repeat' (((conv=>whnf);refine bm (fun g=>?_) (fun g=>?_)))
   all_goals (conv=>whnf)
   all_goals (show Value.bool _=Value.bool _;congr 1;simp [S6,aA,aB] at *;try omega)
  ·unfold pT stO xO
   repeat' (((conv=>whnf);refine bm (fun g=>?_) (fun g=>?_)))
   all_goals (conv=>whnf)
   all_goals (show Value.bool _=Value.bool _;congr 1;simp [S6,aA,aB] at *;try omega)
 ·rintro args h nx K ⟨p,k3,n,L,c,b,rfl,hs,hL,he,hk⟩;obtain⟨nP,nE,nD,nL,c1,c2,fo,hin⟩:=aFP (nx:=nx) hs hL c;exact⟨_,_,9,_,[],0,⟨nP,nE,nD,nL,c1,c2,n,fo,L,c,b,rfl,rfl,rfl,he,rfl,rfl,rfl⟩,hin,hk⟩
 ·rintro args h nx K ⟨p,k3,n,L,c,b,rfl,hs,hL,he,hk⟩;exact⟨_,_,_,hk,fun K' hk'=>⟨p,k3,n,L,c,b,rfl,hs,hL,he,hk'⟩⟩
def AP (n:Int)(L:List Int):Nat→List Bool
 |0=>List.replicate (n+1).toNat false
 |i+1=>(AP n L i).set (aK L i).toNat true
theorem o9 (n:Int)(L:List Int):∀ i,(AP n L i).length=(n+1).toNat
 |0=>List.length_replicate
 |i+1=>by unfold AP;rw [List.length_set];exact o9 n L i
def Z9 (n:Int)(L:List Int)(i:Nat):Int:=if pT n (aK L i)=false then 1 else if cG (AP n L i) (aK L i).toNat=true then 6 else 0
def yC (n:Int)(L:List Int):Nat→Int
 |0=>0
 |i+1=>if yC n L i=0 then Z9 n L i else yC n L i
theorem KT {n:Int}{L:List Int}{i:Nat}(h:yC n L i=0):yC n L (i+1)=Z9 n L i:=by
 show (if _ then _ else _)=_;rw [if_pos h]
theorem qK {n:Int}{L:List Int}{i:Nat}(h:yC n L i≠0):∀ j,i≤j→yC n L j=yC n L i
 |0,hj=>by rw [show i=0 by omega]
 |j+1,hj=>by
  rcases Nat.lt_or_ge i (j+1) with h1|h1
  ·have:=qK h j (by omega);show (if _ then _ else _)=_;rw [if_neg (by rw [this];exact h),this]
  ·rw [show i=j+1 by omega]
def seO (n:Int)(L:List Int):List Bool:=if yC n L L.length=0 then AP n L L.length else []
def aJE (args0:List Value)(h0:Heap)(n0:Nat)(out:List Bool)(e:Option Int):Prop :=
 ∃ nP nE nD nL c1 c2 n fo L c,args0=[pV 0,.slice (some ⟨3,0,none⟩) L.length c]∧h0=[(0,stO 4 5 1 2 6 nP nE nD nL c1 c2 n fo),(3,.cells false true 1 (flat aN.fl L))]∧n0=9∧out=seO n L∧e=some (yC n L L.length)∧0≤n∧n≤1000∧L.length≤1000000
def Z3 (N c k:Nat)(j:Int):List (Nat × Value):=[(0,pV 0),(6,.slice (some ⟨9,0,none⟩) k k),(16,.slice (some ⟨3,0,none⟩) N c),(17,iv N),(18,iv j)]
def aHq (nP nE nD nL c1 c2:Nat)(n:Int)(fo:Option (Nat × Nat))(L:List Int)(S:List Bool):Heap:=[(9,.cells true false 1 (flat eH.fl S)),(0,stO 4 5 1 2 6 nP nE nD nL c1 c2 n fo),(3,.cells false true 1 (flat aN.fl L))]
theorem aFt {nP nE nD nL c1 c2:Nat}{n:Int}{fo:Option (Nat × Nat)}{L:List Int}:xC [(0,stO 4 5 1 2 6 nP nE nD nL c1 c2 n fo),(3,.cells false true 1 (flat aN.fl L))] 9:=by
 refine cA (cA (fun k o hk=>by cases hk) (by decide) (aO (aG _ _))) (by decide) (OA ?_);exact List.forall_mem_cons.2 ⟨⟨rfl,dS rfl⟩,List.forall_mem_cons.2 ⟨⟨rfl,dS rfl⟩,List.forall_mem_cons.2 ⟨⟨rfl,dS rfl⟩,List.forall_mem_cons.2 ⟨⟨rfl,dS rfl⟩,List.forall_mem_cons.2 ⟨⟨rfl,dS rfl⟩,List.forall_mem_cons.2 ⟨⟨by cases fo <;> rfl,by cases fo <;> exact dS rfl⟩,fun _ h=>by cases h⟩⟩⟩⟩⟩⟩
theorem aLE {args0:List Value}{h0:Heap}{n0:Nat}{out:List Bool}{e:Option Int}(h:aJE args0 h0 n0 out e):body [aEi] 129 args0 h0 n0 (Yields eH out e):=by
 obtain⟨nP,nE,nD,nL,c1,c2,n,fo,L,c,rfl,rfl,rfl,rfl,rfl,hn0,hn,hL⟩:=h;have hok:=aFt (nP:=nP) (nE:=nE) (nD:=nD) (nL:=nL) (c1:=c1) (c2:=c2) (n:=n) (fo:=fo) (L:=L);obtain⟨T,hT⟩:∃ T:Nat,(n+1).toNat=T:=⟨_,rfl⟩;have hTn:(T:Int)=n+1:=(by omega);unfold stO xO;((conv=>whnf);refine bm (fun m1=>?_) (fun m1=>?_))
 ·((conv=>whnf);refine bm (fun m2=>?_) (fun m2=>?_))
  ·(conv=>whnf);rw [show aA.A.toN (aA.A.add n 1)=T from hT];refine⟨fun q e h nx=>∃ (i:Nat) (j:Int),j=i∧i≤L.length∧q=L.length - i∧yC n L i=0∧e=Z3 L.length c T j∧h=aHq nP nE nD nL c1 c2 n fo L (AP n L i)∧nx=10,⟨L.length,?_⟩,?_⟩
   ·refine dI (P:=[(9,.cells true false 1 (flat eH.fl (AP n L 0)))]) (W:=[(0,stO 4 5 1 2 6 nP nE nD nL c1 c2 n fo),(3,.cells false true 1 (flat aN.fl L))]) (e0:=Z3 L.length c T 0) (n0:=10) [] ⟨0,0,rfl,Nat.zero_le _,rfl,rfl,rfl,rfl,rfl⟩ ?_ hok ?_ ?_ ?_ (fun _ h=>by cases h) (by omega)
    ·unfold Z3;((repeat' refine iE rfl rfl ?_);exact iN)
    ·exact bJ (fun _ _ h=>h) (bN hok (by decide))
    ·refine List.forall_mem_cons.2 ⟨⟨.inl ⟨Nat.le_of_ble_eq_true rfl,Nat.le_of_ble_eq_true rfl,Nat.le_of_ble_eq_true rfl⟩,.cells true false 1 (flat eH.fl (List.replicate T false)),?_,?_⟩,fun _ h=>by cases h⟩
     ·rw [← KU];rfl
     ·rw [show AP n L 0=List.replicate T false from by rw [← hT];rfl];exact aO (aG _ _)
    ·show ∀ k∈[9],∀ k'∈[9],_;decide
   ·rintro q e h nx ⟨i,j,hj,hi,rfl,he,rfl,rfl,rfl⟩;unfold Z3 aHq stO xO;((conv=>whnf);refine bm (fun g1=>?_) (fun g1=>?_))
    ·have hil:i<L.length:=(by simp [aA,aB] at g1;omega);((conv=>whnf);refine bm (fun g2=>?_) (fun g2=>?_))
     ·(conv=>whnf);refine gI (eK L (i:=i) hil ?_) ?_
      ·show _+Int.toNat j*1=_;omega
      (conv=>whnf);refine⟨_,_,n,[aK L i],1,pT n (aK L i),rfl,⟨_,_,_,_,_,_,_,_,_,_,_,_,_,_,_,rfl⟩,⟨_,_,_,_,rfl,rfl⟩,rfl,?_⟩;have hst:=KT he;cases hb:pT n (aK L i) with
      |false =>
       have h1:Z9 n L i=1:=(by unfold Z9;rw [if_pos hb]);rw [h1] at hst;have h2:=qK (n:=n) (L:=L) (i:=i+1) (by rw [hst];decide) L.length (by omega);rw [hst] at h2;have h3:seO n L=[]:=(by unfold seO;rw [if_neg (by rw [h2];decide)]);rw [h2,h3];(conv=>whnf);rfl
      |true =>
       have hb2:=hb;simp only [pT,Bool.and_eq_true,decide_eq_true_eq] at hb2;((conv=>whnf);refine bm (fun g3=>?_) (fun g3=>?_))
       ·(conv=>whnf);refine gI (H8 (AP n L i) (i:=(aK L i).toNat) (by rw [o9];omega) ?_) ?_
        ·show _+Int.toNat (aK L i)*1=_;omega
        ((conv=>whnf);refine bm (fun g4=>?_) (fun g4=>?_))
        ·have g4:cG (AP n L i) (aK L i).toNat=true:=g4;have h1:Z9 n L i=6:=(by unfold Z9;rw [if_neg (by rw [hb];decide),if_pos g4]);rw [h1] at hst;have h2:=qK (n:=n) (L:=L) (i:=i+1) (by rw [hst];decide) L.length (by omega);rw [hst] at h2;have h3:seO n L=[]:=(by unfold seO;rw [if_neg (by rw [h2];decide)]);rw [h2,h3];(conv=>whnf);rfl
        ·have g4:cG (AP n L i) (aK L i).toNat=false:=g4;have h1:Z9 n L i=0:=(by unfold Z9;rw [if_neg (by rw [hb];decide),if_neg (by rw [g4];decide)]);rw [h1] at hst;((conv=>whnf);refine bm (fun g5=>?_) (fun g5=>?_))
         ·((conv=>whnf);refine bm (fun g6=>?_) (fun g6=>?_))
          ·((conv=>whnf);refine bm (fun g7=>?_) (fun g7=>?_))
           ·(conv=>whnf);refine⟨L.length - (i+1),by omega,?_⟩;refine dI (P:=[(9,.cells true false 1 (flat eH.fl (AP n L (i+1))))]) (W:=[(0,stO 4 5 1 2 6 nP nE nD nL c1 c2 n fo),(3,.cells false true 1 (flat aN.fl L))]) (e0:=Z3 L.length c T (j+1)) (n0:=10) [] ⟨i+1,j+1,by omega,by omega,rfl,hst,rfl,rfl,rfl⟩ ?_ hok ?_ ?_ ?_ (fun _ h=>by cases h) (by omega)
            ·unfold Z3;((repeat' refine iE rfl rfl ?_);exact iN)
            ·exact dT (bJ (ext_cons (fun _ _ h=>h) (bN hok (by decide))) (bN hok (by decide))) (bN hok (by decide))
            ·refine List.forall_mem_cons.2 ⟨⟨.inl ⟨Nat.le_of_ble_eq_true rfl,Nat.le_of_ble_eq_true rfl,Nat.le_of_ble_eq_true rfl⟩,.cells true false 1 (flat eH.fl (AP n L (i+1))),?_,aO (aG _ _)⟩,fun _ h=>by cases h⟩;have hp:=uN (AP n L i) (aK L i).toNat true (by rw [o9];omega);show some (aX.cells true false 1 (c8 (flat eH.fl (AP n L i)) (0+Int.toNat (aK L i)*1) [.bool true]))=_;rw [show 0+Int.toNat (aK L i)*1=(aK L i).toNat*1 by omega,hp];rfl
            ·show ∀ k∈[9],∀ k'∈[9],_;decide
           ·exfalso;simp [aA,aB,aI] at g7;omega
          ·exfalso;have hq:Nat.ble (0+Int.toNat (aK L i)*1+1) (flat eH.fl (AP n L i)).length=true:=Nat.ble_eq_true_of_le (by rw [bD,o9];show _≤(n+1).toNat*1;omega);exact Bool.false_ne_true (g6.symm.trans hq)
         ·exfalso;simp [aA,aB] at g5;omega
       ·exfalso;simp [aA,aB] at g3;omega
     ·exfalso;simp [aA,aB] at g2;omega
    ·have hil:i=L.length:=(by simp [aA,aB] at g1;omega);(conv=>whnf);have hsL:seO n L=AP n L i:=(by unfold seO;rw [← hil,if_pos he]);rw [← hil,he,hsL];have hpos:0<(AP n L i).length:=(by rw [o9];omega);have:=gP eH (l:=AP n L i) (e:=some 0) (h:=aHq nP nE nD nL c1 c2 n fo L (AP n L i)) (q:=9) (nx:=10) hpos rfl;rw [o9,hT] at this;exact this
  ·exfalso;simp [aA,aB] at m2;omega
 ·exfalso;simp [aA,aB,aI] at m1;omega
end Go.Aw
end

noncomputable section
namespace Go.Aw
set_option maxRecDepth 100000
theorem KL (D:List Dt)(ls:List (List Int))(d:Int)(a:Nat):∀ b,kP D ls (kP D ls d a) b=kP D ls d (a+b)
 |0=>rfl
 |b+1=>by
  show yB D ls (kP D ls (kP D ls d a) b)=yB D ls (kP D ls d (a+b));rw [KL D ls d a b]
section
variable {l:List Pt}{m:List Ed}{n:Int}
structure Ow (l:List Pt) (m:List Ed) (t:NB):Prop where
 orb:∀ i j:Nat,i<2*m.length→j<2*m.length→cG t.seen i=true→cG t.seen j=true→aK t.face i=aK t.face j→(aK t.face i≠0∨(t.out≤1∧t.flat=false))→∃ k,kP (aR l m m.length) (outs l m) i k=j
 con:∀ i:Nat,i<2*m.length→cG t.seen i=true→aK t.face (yB (aR l m m.length) (outs l m) i).toNat=aK t.face i
 zer:∀ i:Nat,i<2*m.length→cG t.seen i=true→aK t.face i=0→1≤t.out∨t.flat=true
 rng:∀ i:Nat,i<2*m.length→aK t.face i≤t.many
theorem aEX (hok:cX l m n=true){t:NB}(h:Hs l m t)(o:Ow l m t)(hout:0≤t.out){d:Nat}(hd:d<2*m.length):Ow l m (kG l (aR l m m.length) (outs l m) t d):=by
 unfold kG;cases hs:cG t.seen d with
 |true=>rw [if_pos rfl];exact o
 |false =>
  rw [if_neg (by decide)];simp only;have hin:=tL hok (d:=(d:Int)) (by omega) (by omega);have hT:kP (aR l m m.length) (outs l m) d (kB (aR l m m.length) (outs l m) d)=d:=by
   have hw:=List.all_eq_true.1 (xX hok) d (List.mem_range.2 (by rw [bI];exact hd));exact of_decide_eq_true hw
  have hT1:1≤kB (aR l m m.length) (outs l m) d:=by
   have:=(kZ (aR l m m.length) (outs l m) d (aR l m m.length).length 1).1;unfold kB;omega
  have hget:∀ k,k<kB (aR l m m.length) (outs l m) d→aK (qT (aR l m m.length) (outs l m) d) k=kP (aR l m m.length) (outs l m) d k:=fun k hk=>MD hk;have hlen:(qT (aR l m m.length) (outs l m) d).length=kB (aR l m m.length) (outs l m) d:=xB;generalize qT (aR l m m.length) (outs l m) d=W at hget hlen ⊢;generalize kB (aR l m m.length) (outs l m) d=T at *;have hr:∀ k,k<W.length→(aK W k).toNat<2*m.length:=fun k hk=>by
   rw [hget k (by omega)];have:=hin k;omega
  have hdis:∀ k,k<W.length→cG t.seen (aK W k).toNat=true→False:=fun k hk hsk=>by
   rw [hget k (by omega)] at hsk;have hf:∀ j,cG t.seen (kP (aR l m m.length) (outs l m) d (k+j)).toNat=true:=by
    intro j
    induction j with
    |zero=>exact hsk
    |succ j ih =>
     have hi:=hin (k+j);have:=h.cl (kP (aR l m m.length) (outs l m) d (k+j)).toNat (by omega) ih;rw [Int.toNat_of_nonneg hi.1] at this;exact this
   have:=hf (T - k);rw [show k+(T - k)=T by omega,hT,Int.toNat_natCast,hs] at this;cases this
  generalize HR l (aR l m m.length) W W.length=A
  -- which darts lie in the walk
  have hsee:∀ i,cG (fS t.seen W W.length) i=true→(∃ k,k<W.length∧(aK W k).toNat=i)∨(cG t.seen i=true∧¬ ∃ k,k<W.length∧(aK W k).toNat=i):=fun i hi=>by
   by_cases e:∃ k,k<W.length∧(aK W k).toNat=i
   ·exact .inl e
   ·rw [(o6 t.seen W (by rw [h.seen];exact hr) i _ (Nat.le_refl _)).2 e] at hi;exact .inr ⟨hi,e⟩
  have hnew:∀ (fc:Int) i,(∃ k,k<W.length∧(aK W k).toNat=i)→aK (dN t.face W fc W.length) i=fc:=fun fc i hi=>(oP t.face W fc (by rw [h.face];exact hr) i _ (Nat.le_refl _)).1 hi;have hold:∀ (fc:Int) i,(¬ ∃ k,k<W.length∧(aK W k).toNat=i)→aK (dN t.face W fc W.length) i=aK t.face i:=fun fc i hi=>(oP t.face W fc (by rw [h.face];exact hr) i _ (Nat.le_refl _)).2 hi;have hwi:∀ i:Nat,(∃ k,k<W.length∧(aK W k).toNat=i)→∃ k,k<T∧kP (aR l m m.length) (outs l m) d k=i:=fun i ⟨k,b1,b2⟩=>by
   refine⟨k,by omega,?_⟩;rw [hget k (by omega)] at b2;have:=hin k;omega
  have hiw:∀ k,k≤T→∃ q,q<W.length∧(aK W q).toNat=(kP (aR l m m.length) (outs l m) d k).toNat:=fun k hk=>by
   rcases Nat.lt_or_ge k T with hk2|hk2
   ·exact⟨k,by omega,by rw [hget k hk2]⟩
   ·refine⟨0,by omega,?_⟩;rw [hget 0 (by omega),show k=T by omega,hT];rfl
  have hmany:=h.low;refine⟨fun i j hi hj hsi hsj hf hc=>?_,fun i hi hsi=>?_,fun i hi hsi hz=>?_,fun i hi=>?_⟩
  ·rcases hsee i hsi with ei|⟨oi,ni⟩ <;> rcases hsee j hsj with ej|⟨oj,nj⟩
   ·obtain⟨a,a1,a2⟩:=hwi i ei;obtain⟨b,b1,b2⟩:=hwi j ej;refine⟨T - a+b,?_⟩;rw [← a2,KL,show a+(T - a+b)=T+b by omega,← KL,hT,b2]
   ·exfalso;simp only at hf hc;rw [hnew _ i ei] at hf hc;rw [hold _ j nj] at hf;have:=o.rng j hj;have hz:=o.zer j hj oj;by_cases hA:0<A
    ·rw [if_pos hA] at hf;omega
    ·rw [if_neg hA] at hf hc;simp only [if_neg hA] at hc;have hz:=hz hf.symm;rcases hc with hc|⟨c1,c2⟩
     ·exact hc rfl
     ·by_cases hA2:A<0
      ·rw [if_pos hA2] at c1 c2;rcases hz with hz|hz
       ·omega
       ·rw [hz] at c2;cases c2
      ·rw [if_neg hA2] at c2;cases c2
   ·exfalso;simp only at hf hc;rw [hnew _ j ej] at hf;rw [hold _ i ni] at hf hc;have:=o.rng i hi;have hz:=o.zer i hi oi;by_cases hA:0<A
    ·rw [if_pos hA] at hf;omega
    ·rw [if_neg hA] at hf;simp only [if_neg hA] at hc;have hz:=hz hf;rcases hc with hc|⟨c1,c2⟩
     ·exact hc hf
     ·by_cases hA2:A<0
      ·rw [if_pos hA2] at c1 c2;rcases hz with hz|hz
       ·omega
       ·rw [hz] at c2;cases c2
      ·rw [if_neg hA2] at c2;cases c2
   ·simp only at hf hc;rw [hold _ i ni] at hf hc;rw [hold _ j nj] at hf;refine o.orb i j hi hj oi oj hf ?_;rcases hc with hc|⟨c1,c2⟩
    ·exact .inl hc
    ·refine .inr ?_;by_cases hA:0<A
     ·rw [if_pos hA] at c1 c2;exact⟨c1,c2⟩
     ·rw [if_neg hA] at c1 c2;by_cases hA2:A<0
      ·rw [if_pos hA2] at c1 c2;exact⟨by omega,c2⟩
      ·rw [if_neg hA2] at c2;cases c2
  ·rcases hsee i hsi with ei|⟨oi,ni⟩
   ·have e1:=hnew (if 0<A then t.many+1 else 0) i ei;simp only;rw [e1];obtain⟨a,a1,a2⟩:=hwi i ei;refine hnew _ _ ?_;have:=hiw (a+1) (by omega);rw [show kP (aR l m m.length) (outs l m) d (a+1)=yB (aR l m m.length) (outs l m) i from by rw [← a2];rfl] at this;exact this
   ·simp only;rw [hold _ i ni,← o.con i hi oi];refine hold _ _ fun ⟨k,b1,b2⟩=>?_;have hc:=h.cl i hi oi;rw [← b2] at hc;exact hdis k b1 hc
  ·simp only at hz ⊢;rcases hsee i hsi with ei|⟨oi,ni⟩
   ·rw [hnew _ i ei] at hz;by_cases hA:0<A
    ·rw [if_pos hA] at hz;omega
    ·rw [if_neg hA,if_neg hA];by_cases hA2:A<0
     ·rw [if_pos hA2];exact .inl (by omega)
     ·rw [if_neg hA2,if_neg hA2];exact .inr rfl
   ·rw [hold _ i ni] at hz;have hz:=o.zer i hi oi hz;by_cases hA:0<A
    ·rw [if_pos hA,if_pos hA];exact hz
    ·rw [if_neg hA,if_neg hA];by_cases hA2:A<0
     ·rw [if_pos hA2,if_pos hA2];exact hz.imp (fun h=>by omega) id
     ·rw [if_neg hA2,if_neg hA2];exact .inr rfl
  ·simp only;by_cases ei:∃ k,k<W.length∧(aK W k).toNat=i
   ·rw [hnew _ i ei];split <;> omega
   ·rw [hold _ i ei];have:=o.rng i hi;split <;> omega
theorem aBy (hok:cX l m n=true):∀ d,d≤2*m.length→Ow l m (cC l (aR l m m.length) (outs l m) d)
 |0,_=>by
  have hz:∀ i,cG (cC l (aR l m m.length) (outs l m) 0).seen i=true→False:=fun i h=>by
   unfold cC cG at h;rw [List.getD_eq_getElem?_getD,List.getElem?_replicate] at h;split at h <;> cases h
  refine⟨fun i j _ _ hs=>(hz i hs).elim,fun i _ hs=>(hz i hs).elim,fun i _ hs=>(hz i hs).elim,fun i hi=>?_⟩;unfold cC aK;rw [List.getD_eq_getElem?_getD,List.getElem?_replicate,bI,if_pos hi];exact Int.le_refl _
 |d+1,h=>aEX hok (TX hok d (by omega)) (aBy hok d (by omega)) (nK l (aR l m m.length) (outs l m) d).2.2.2.2.1 (by omega)
theorem aBf (ho:cF l m n=true){f:Int}(h0:0≤f)(h1:f≤n){d:Nat}(hd:d<2*m.length):((d:Int)∈vS l m f↔aK (cE l m).face d=f):=by
 have ho':=ho;simp only [cF,gG,Bool.and_eq_true,decide_eq_true_eq] at ho';obtain⟨⟨hok,hpl⟩,_,hn,hmn,_⟩:=ho';have hp:gG l m n=true:=(by simp only [cF,Bool.and_eq_true] at ho;exact ho.1);have o:=aBy hok (2*m.length) (Nat.le_refl _);have hsn:=(KM hp (2*m.length) (Nat.le_refl _)).2;have e:cC l (aR l m m.length) (outs l m) (2*m.length)=cE l m:=(by unfold cE nmD;rw [bI]);rw [e] at o hsn;simp only [y0,Bool.and_eq_true,decide_eq_true_eq,Bool.not_eq_true'] at hn;obtain⟨k,b1,b2,b3,b4⟩:=FQ ho h0 h1;have hw:=List.all_eq_true.1 (xX hok) k (List.mem_range.2 (by rw [bI];exact b1));have hT:kP (aR l m m.length) (outs l m) k (kB (aR l m m.length) (outs l m) k)=k:=of_decide_eq_true hw;have hT1:1≤kB (aR l m m.length) (outs l m) k:=by
  have:=(kZ (aR l m m.length) (outs l m) k (aR l m m.length).length 1).1;unfold kB;omega
 have hin:=tL hok (d:=(k:Int)) (by omega) (by omega);have hfw:vS l m f=qT (aR l m m.length) (outs l m) k:=(by unfold vS;rw [b4]);have hcon:∀ q,aK (cE l m).face (kP (aR l m m.length) (outs l m) k q).toNat=f:=by
  intro q
  induction q with
  |zero=>exact b2
  |succ q ih =>
   have hi:=hin q;have:=o.con (kP (aR l m m.length) (outs l m) k q).toNat (by omega) (hsn _ (by omega));rw [Int.toNat_of_nonneg hi.1,ih] at this;exact this
 rw [hfw];constructor
 ·intro hm;unfold qT at hm;obtain⟨q,_,hq⟩:=List.mem_map.1 hm;have:=hcon q;rw [hq,Int.toNat_natCast] at this;exact this
 ·intro hf;obtain⟨q,hq⟩:=o.orb k d b1 hd (hsn k b1) (hsn d hd) (by rw [b2,hf]) (.inr ⟨by omega,hn.2⟩);obtain⟨T,hTd⟩:∃ T,kB (aR l m m.length) (outs l m) k=T:=⟨_,rfl⟩;rw [hTd] at hT hT1;have hmod:kP (aR l m m.length) (outs l m) k (q % T)=d:=by
   have:∀ c,kP (aR l m m.length) (outs l m) k (T*c+q % T)=kP (aR l m m.length) (outs l m) k (q % T):=by
    intro c
    induction c with
    |zero=>rw [Nat.mul_zero,Nat.zero_add]
    |succ c ih =>
     rw [show T*(c+1)+q % T=T+(T*c+q % T) by rw [Nat.mul_succ];omega,← KL,hT];exact ih
   rw [← this (q / T),Nat.div_add_mod];exact hq
  have hlt:q % T<T:=Nat.mod_lt _ hT1;unfold qT;rw [hTd];exact List.mem_map.2 ⟨q % T,List.mem_range.2 hlt,hmod⟩
end
end Go.Aw
end

noncomputable section
namespace Go.Aw
set_option maxRecDepth 100000
set_option maxHeartbeats 2000000
def mV3 (a b c1 c2:Nat)(n:Int):List Value:=[.slice (some ⟨0,0,none⟩) a c1,.slice (some ⟨1,0,none⟩) b c2,iv n]
structure A97 where
 l:List Pt
 m:List Ed
 n:Int
 c1:Nat
 c2:Nat
 L:List Int
 c3:Nat
theorem QA (n:Nat):∀ {h:Heap},lD h=true→lD (kQ n h)=true
 |[],_=>rfl
 |(k,o)::r,h=>by
  simp only [lD,Bool.and_eq_true] at h;show (O4 (LY n o)&&lD (kQ n r))=true;rw [QA n h.2];cases o with
  |cells wr g sz cs=>cases wr with
   |true=>rfl
   |false=>exact (Bool.false_ne_true h.1).elim
  |_=>exact (Bool.false_ne_true h.1).elim
theorem FR:∀ {h:Heap},lD h=true→fN h=true
 |[],_=>rfl
 |(k,o)::r,h=>by
  simp only [lD,Bool.and_eq_true] at h;show (D6 o&&fN r)=true;rw [FR h.2];cases o with
  |cells wr g sz cs=>rfl
  |_=>exact (Bool.false_ne_true h.1).elim
theorem SR (s:Nat)(ls:List (List Int)):∀ n,lD (tH s ls n)=true
 |0=>rfl
 |n+1=>by
  unfold tH;split
  ·exact SR s ls n
  ·show (true&&lD (tH s ls n))=true;rw [SR s ls n];rfl
theorem aAA {v1:Value}{h1 h1':Heap}{m:Nat}{v:Value}{h:Heap}{nx:Nat}(hs:∀ k o,look h1' k=some o→look h1 k=some o)(h0:F8 v1 h1 m v h nx):F8 v1 h1' m v h nx:=by
 obtain⟨ρ,r⟩:=h0;exact⟨ρ,⟨r.env,fun k o hk=>r.heap k o (hs k o hk),fun k k' o o' hk hk'=>r.inj k k' o o' (hs k o hk) (hs k' o' hk'),r.fix,r.le⟩⟩
def hFo (l:List Pt)(m:List Ed)(c1 c2:Nat)(n:Int):Heap:=(7,NF (WJ l m c1 c2 n) (.slice (some ⟨2003,0,none⟩) (aR l m m.length).length (aR l m m.length).length))::(2003,.cells true false 1 (flat aN.fl (cE l m).face)) ::
 (9,LY 3 (.cells true false 5 (flat pS.fl (aR l m m.length))))::(8,LY 3 (.cells true false 1 (tC (outs l m).length (outs l m))))::kQ 3 (tH (outs l m).length (outs l m) (outs l m).length)
theorem WN {l:List Pt}{m:List Ed}{c1 c2:Nat}{n:Int}:lD (hFo l m c1 c2 n)=true:=QA 3 (SR _ _ _)
theorem VB {l:List Pt}{m:List Ed}{c1 c2:Nat}{n:Int}:∀ k o,look (hFo l m c1 c2 n) k=some o→look (T7 l m c1 c2 n) k=some o:=by
 intro k o hk;unfold hFo at hk;unfold T7 tX;simp only [kQ];rw [aE] at hk ⊢;split at hk
 ·exact hk
 rw [aE] at hk ⊢;split at hk
 ·exact hk
 show look ((9,_)::(8,_)::(3,_)::(4,_)::_) k=some o;rw [aE] at hk ⊢;split at hk
 ·exact hk
 rw [aE] at hk ⊢;split at hk
 ·exact hk
 obtain⟨j,o',rfl,h1,h2⟩:=iU _ hk;obtain⟨i,_,_,_,h3⟩:=yA (bA h1);have h3:j=i+1000:=(by injection h3);show look ((3,_)::(4,_)::_) _=some o;rw [bC (by omega),bC (by omega)];exact hk
def wO (nx:Nat)(l:List Pt)(m:List Ed)(c1 c2:Nat)(n:Int)(T:List Value)(W:Heap):Heap :=
 (nx+7,.cells true false 1 (xO (nx+3) (nx+4) (nx+9) (nx+8) (nx+2003) l.length m.length (aR l m m.length).length (outs l m).length c1 c2 n (some ((aR l m m.length).length,(aR l m m.length).length)))) ::
 (nx+2003,.cells true false 1 (flat aN.fl (cE l m).face))::(nx+9,.cells true false 5 (flat pS.fl (aR l m m.length)))::(nx+8,.cells true false 1 T)::W
theorem aGL {nx:Nat}{l:List Pt}{m:List Ed}{c1 c2:Nat}{n:Int}:kQ nx (hFo l m c1 c2 n)=wO nx l m c1 c2 n (SG nx l m) (wT nx l m):=by
 have hfl:∀ {α:Type} (E:El α) (x:List α) (k:Nat),(flat E.fl x).map (bP fun i=>k+i)=flat E.fl x:=fun E x k=>bW (aG E x);unfold wO;rw [show xO (nx+3) (nx+4) (nx+9) (nx+8) (nx+2003) l.length m.length (aR l m m.length).length (outs l m).length c1 c2 n (some ((aR l m m.length).length,(aR l m m.length).length))=(xO 3 4 9 8 2003 l.length m.length (aR l m m.length).length (outs l m).length c1 c2 n (some ((aR l m m.length).length,(aR l m m.length).length))).map (bP fun i=>nx+i) from rfl];have e1:=(hfl aN (cE l m).face nx).symm;have e2:flat pS.fl (aR l m m.length)=((flat pS.fl (aR l m m.length)).map (bP fun i=>3+i)).map (bP fun i=>nx+i):=(by rw [hfl,hfl]);rw [e1,e2];rfl
theorem aBw {nx:Nat}{l:List Pt}{m:List Ed}{c1 c2:Nat}{n:Int}:∀ k o,look (wO nx l m c1 c2 n (SG nx l m) (wT nx l m)) k=some o→look (wN nx l m c1 c2 n (SG nx l m) (wT nx l m)) k=some o:=by
 intro k o hk;rw [← aGL] at hk;rw [← QN];obtain⟨j,o',rfl,h1,rfl⟩:=iU _ hk;exact fC _ (VB j o' h1)
theorem aKN {nx:Nat}{l:List Pt}{m:List Ed}{c1 c2:Nat}{n:Int}(hl:l.length≤1000){k:Nat}(hk:k<nx∨nx+2004≤k):look (wO nx l m c1 c2 n (SG nx l m) (wT nx l m)) k=none:=by
 cases h:look (wO nx l m c1 c2 n (SG nx l m) (wT nx l m)) k with
 |none=>rfl
 |some o=>have:=aBw k o h;rw [aGA hl hk] at this;cases this
theorem aIV {nx:Nat}{l:List Pt}{m:List Ed}{c1 c2:Nat}{n:Int}(hl:l.length≤1000):xC (wO nx l m c1 c2 n (SG nx l m) (wT nx l m)) (nx+2004):=fun k o hk=>aIj hl k o (aBw k o hk)
def aL6:Nat × XF:=(69,fun args h nx K=>∃ l m n p q,args=[mapA p q n]∧eO aP h p l∧eO aS h q m∧(l.length≤1000∧m.length≤1000) ∧
 ((cF l m n=true∧K (.tuple #[.pointer (some ⟨nx+7,0,none⟩),iv 0]) (app (kQ nx (hFo l m (gW p) (gW q) n)) h) (nx+2004))∨(cF l m n=false∧K (.tuple #[.pointer none,iv 1]) h nx)))
theorem aMI:cH Go.Proofs.Tryz.prog aL6.1 aL6.2:=by
 refine (gC (S:=fun args0 h0 n0 v1 h1 j=>∃ l m n c1 c2,(l.length≤1000∧m.length≤1000)∧args0=[aF l.length m.length c1 c2 n]∧h0=aD aP aS l m∧n0=2 ∧
  ((cF l m n=true∧v1=.tuple #[.pointer (some ⟨7,0,none⟩),iv 0]∧h1=hFo l m c1 c2 n∧j=2004)∨(cF l m n=false∧v1=.tuple #[.pointer none,iv 1]∧h1=[]∧j=0))) (aL (xl:=[QW,aBE,P7,OZ,NO,(155,aE1)]) (.cons aFW (.cons aKu (.cons aCb (.cons aFL (.cons aGH (.cons aFK .nil))))))) ?_).mono ?_ ?_
 ·rintro args0 h0 n0 v1 h1 j ⟨l,m,n,c1,c2,⟨hl,hm⟩,rfl,rfl,rfl,hc⟩;have hw:=w69 l m n c1 c2 hl hm fun hok=>⟨HP hok,xX hok,aAX hok,(iI hok).2.2.1⟩;rcases hc with ⟨ho,rfl,rfl,rfl⟩|⟨ho,rfl,rfl,rfl⟩
  ·refine⟨FR WN,_,hw,fun v h nx e=>?_⟩;rcases e with ⟨_,e⟩|⟨e,_⟩
   ·exact aAA VB e
   ·rw [ho] at e;cases e
  ·refine⟨rfl,_,hw,fun v h nx e=>?_⟩;rcases e with ⟨e,_⟩|⟨_,rfl⟩
   ·rw [ho] at e;cases e
   ·exact kD rfl
 ·rintro args h nx K ⟨l,m,n,p,q,rfl,hl,hm,hlm,hx⟩;rcases hx with ⟨ho,hx⟩|⟨ho,hx⟩
  ·refine⟨_,_,2,_,_,_,⟨l,m,n,gW p,gW q,hlm,rfl,rfl,rfl,.inl ⟨ho,rfl,rfl,rfl⟩⟩,vM aP aS rfl hl hm,?_⟩;have e:iQ (fun k=>nx+k) (.tuple #[.pointer (some ⟨7,0,none⟩),iv 0])=.tuple #[.pointer (some ⟨nx+7,0,none⟩),iv 0]:=(by simp [iQ,tr,dU,bR,dV,lW];rfl);rw [e];unfold mY;rw [WN];exact hx
  ·refine⟨_,_,2,_,[],0,⟨l,m,n,gW p,gW q,hlm,rfl,rfl,rfl,.inr ⟨ho,rfl,rfl,rfl⟩⟩,vM aP aS rfl hl hm,?_⟩;simp only [mY,lD,kQ,j7,Nat.add_zero];rw [mA rfl];exact hx
 ·rintro args h nx K ⟨l,m,n,p,q,rfl,hl,hm,hlm,hx⟩;rcases hx with ⟨ho,hx⟩|⟨ho,hx⟩
  ·exact⟨_,_,_,hx,fun K' hk=>⟨l,m,n,p,q,rfl,hl,hm,hlm,.inl ⟨ho,hk⟩⟩⟩
  ·exact⟨_,_,_,hx,fun K' hk=>⟨l,m,n,p,q,rfl,hl,hm,hlm,.inr ⟨ho,hk⟩⟩⟩
def aGZ:Nat × XF:=(69,fun args h nx K=>∃ l m n p q,args=[mapA p q n]∧eO aP h p l∧eO aS h q m∧(l.length≤1000∧m.length≤1000) ∧
 ((cF l m n=true∧K (.tuple #[.pointer (some ⟨nx+7,0,none⟩),iv 0]) (app h (wO nx l m (gW p) (gW q) n (SG nx l m) (wT nx l m))) (nx+2004))∨(cF l m n=false∧K (.tuple #[.pointer none,iv 1]) h nx)))
theorem aLA:cH Go.Proofs.Tryz.prog aGZ.1 aGZ.2:=by
 refine⟨fun args h nx K hx ι B w H hs=>?_,fun args h nx K hx=>?_⟩
 ·obtain⟨l,m,n,p,q,rfl,hl,hm,hlm,hx⟩:=hx;have h0:=aMI.1 [mapA p q n] h nx (fun v h' nx'=>∃ h'',(∀ k,look h'' k=look h' k)∧K v h'' nx') ⟨l,m,n,p,q,rfl,hl,hm,hlm,by
   rcases hx with ⟨ho,hx⟩|⟨ho,hx⟩
   ·refine .inl ⟨ho,_,fun k=>?_,hx⟩;rw [fD,fD,aGL];cases e1:look h k with
    |none =>
     cases e2:look (wO nx l m (gW p) (gW q) n (SG nx l m) (wT nx l m)) k with
     |none=>rfl
     |some o=>rfl
    |some o =>
     have hlow:=H.low k o e1;rw [aKN hlm.1 (.inl hlow)]
   ·exact .inr ⟨ho,_,fun k=>rfl,hx⟩⟩ ι B w H hs
  refine⟨h0.1,CallsIn.mono h0.2 fun e w' hr=>?_⟩;cases e with
  |returned u =>
   obtain⟨v,h1,nx1,ι1,⟨h2,e2,hk⟩,a1,a2,a3,a4,a5,a6⟩:=hr;exact⟨v,h2,nx1,ι1,hk,a1,KD a2 e2,a3,a4,a5,a6⟩
  |_=>exact hr.elim
 ·obtain⟨l,m,n,p,q,rfl,hl,hm,hlm,hx⟩:=hx;rcases hx with ⟨ho,hx⟩|⟨ho,hx⟩
  ·exact⟨_,_,_,hx,fun K' hk=>⟨l,m,n,p,q,rfl,hl,hm,hlm,.inl ⟨ho,hk⟩⟩⟩
  ·exact⟨_,_,_,hx,fun K' hk=>⟨l,m,n,p,q,rfl,hl,hm,hlm,.inr ⟨ho,hk⟩⟩⟩
def W5:Nat × XF:=(129,fun args h nx K=>∃ p k3 n L c,args=[pV p,.slice (some ⟨k3,0,none⟩) (List.length L) c]∧aIL h p n∧aJ6 h k3 L∧0≤n∧n≤1000∧List.length L≤1000000∧KW eH (seO n L) (some (yC n L L.length)) h nx K)
theorem aL4:cH Go.Proofs.Tryz.prog W5.1 W5.2:=by
 have h0:cH Go.Proofs.Tryz.prog 129 (yOf eH aJE):=TI eH (aL (xl:=[aEi]) (.cons aN7 .nil)) fun _ _ _ _ _=>aLE;refine h0.mono ?_ ?_
 ·rintro args h nx K ⟨p,k3,n,L,c,rfl,hs,hl,h1,h2,h3,hk⟩;obtain⟨nP,nE,nD,nL,c1,c2,fo,hin⟩:=aFP (nx:=nx) hs hl c;exact ML eH ⟨nP,nE,nD,nL,c1,c2,n,fo,L,c,rfl,rfl,rfl,rfl,rfl,h1,h2,h3⟩ hin hk
 ·rintro args h nx K ⟨p,k3,n,L,c,rfl,hs,hl,h1,h2,h3,hk⟩;obtain⟨v,h',nx',a1,a2⟩:=O7 hk;exact⟨v,h',nx',a1,fun K' hk'=>⟨p,k3,n,L,c,rfl,hs,hl,h1,h2,h3,a2 K' hk'⟩⟩
theorem aB4 {α:Type}(E:El α){l:List α}{e:Option Int}{h:Heap}{nx:Nat}{K:KE}(hl:0<l.length)(hk:K (kJ e (.slice (some ⟨nx,0,none⟩) l.length l.length)) (bQ h nx (.cells true false E.sz (flat E.fl l))) (nx+1)):KW E l e h nx K:=by
 cases l with
 |nil=>cases hl
 |cons a r=>exact hk
def yD (l:List Pt)(m:List Ed)(d:Nat):Int:=(iB l (bY (aR l m m.length) d).fr.toNat).2
def D0 (l:List Pt)(m:List Ed)(S:List Bool):Nat→Int × Int
 |0=>(10000,0)
 |d+1=>if cG S (aK (cE l m).face d).toNat=true then (aA.A.min (D0 l m S d).1 (yD l m d),aA.A.max (D0 l m S d).2 (yD l m d)) else D0 l m S d
theorem aGh {l:List Pt}{m:List Ed}{S:List Bool}{d:Nat}(h:cG S (aK (cE l m).face d).toNat=true):D0 l m S (d+1)=(aA.A.min (D0 l m S d).1 (yD l m d),aA.A.max (D0 l m S d).2 (yD l m d)):=by
 show (if _ then _ else _)=_;rw [if_pos h]
theorem aG2 {l:List Pt}{m:List Ed}{S:List Bool}{d:Nat}(h:cG S (aK (cE l m).face d).toNat=false):D0 l m S (d+1)=D0 l m S d:=by
 show (if _ then _ else _)=_;rw [if_neg (by rw [h];decide)]
def NC (l:List Pt)(m:List Ed)(n:Int)(L:List Int):Int × Int:=if yC n L L.length≠0 then (0,0) else if L.length=0 then (0,0) else D0 l m (AP n L L.length) (2*m.length)
def PH (n:Int)(L:List Int):Int:=if yC n L L.length≠0 then yC n L L.length else if L.length=0 then 5 else 0
theorem aCY {l:List Pt}{m:List Ed}(hM:oG l m=true){d:Nat}(hd:d<2*m.length):0≤(bY (aR l m m.length) d).fr∧(bY (aR l m m.length) d).fr<l.length:=by
 have e:=(u6 l m (d:=(d:Int)) (by omega) (by omega)).1;rw [Int.toNat_natCast] at e;rw [← e];have:=pJ hM (i:=d / 2) (by omega);unfold bS;rw [show ((d:Int) / 2).toNat=d / 2 by omega];split <;> omega
def aGI (l:List Pt)(m:List Ed)(n:Int)(c1 c2:Nat)(L:List Int)(c3:Nat):Heap:=(bQ (bQ (bQ (bQ (dE aP aS aN l m L) 3 (.cells true false 1 (mV3 l.length m.length c1 c2 n))) 4 (.cells true false 1 [.slice (some ⟨2,0,none⟩) L.length c3])) 5 (.cells true false 1 (mV3 l.length m.length c1 c2 n))) 6 (.cells true false 1 [iv 0,iv 0]))
def HF (l:List Pt)(m:List Ed)(n:Int)(c1 c2:Nat)(L:List Int)(c3:Nat):Heap:=bQ (app (aGI l m n c1 c2 L c3) (wO 7 l m c1 c2 n (SG 7 l m) (wT 7 l m))) 2011 (.cells true false 1 [iv 0,iv 0])
theorem aAj {l:List Pt}{m:List Ed}{n:Int}{c1 c2:Nat}{L:List Int}{c3:Nat}(hl:l.length≤1000):xC (HF l m n c1 c2 L c3) 2012:=by
 have hb:bT id 7 (.cells true false 1 (mV3 l.length m.length c1 c2 n)) (.cells true false 1 (mV3 l.length m.length c1 c2 n)):=⟨rfl,rfl,rfl,rfl,oV rfl⟩;refine cA (uE (VJ (uE ?_ (show 7≤2011 by decide)) (aIV (nx:=7) hl)) (by omega)) (by omega) (aO rfl);exact cA (cA (cA (cA (cA (cA (cA (fun k o hk=>by cases hk) (by omega) (aO (aG _ _))) (by omega) (aO (aG _ _))) (by omega) (aO (aG _ _))) (by omega) hb) (by omega) ⟨rfl,rfl,rfl,rfl,oV rfl⟩) (by omega) hb) (by omega) (aO rfl)
def aJF (a:A97):Prop:=cF a.l a.m a.n=true∧(a.l.length≤1000∧a.m.length≤1000)∧a.L.length≤1000000
def aA9 (lo hi e:Int):Value:=.tuple #[.agg #[iv lo,iv hi],iv e]
def aKg:XF:=dX aJF (fun a=>[pV 14,pV 4,pV 3]) (fun a=>HF a.l a.m a.n a.c1 a.c2 a.L a.c3) (fun _=>2012) (fun a=>aA9 (NC a.l a.m a.n a.L).1 (NC a.l a.m a.n a.L).2 (PH a.n a.L)) (fun a=>HF a.l a.m a.n a.c1 a.c2 a.L a.c3) (fun _=>2012)
def OV (T N:Nat)(j:Int):List (Nat × Value):=[(0,pV 14),(2,pV 3),(4,pV 2012),(6,.slice (some ⟨2013,0,none⟩) T T),(8,pV 2014),(30,.slice (some ⟨2010,0,none⟩) N N),(31,iv N),(32,iv j)]
def aCA (S:List Bool)(lo hi:Int):Heap:=[(2014,.cells true false 1 [iv lo,iv hi]),(2013,.cells true false 1 (flat eH.fl S)),(2012,.cells true false 1 [iv 0,iv 0])]
theorem aLZ (l:List Pt)(m:List Ed)(n:Int)(c1 c2:Nat)(L:List Int)(c3:Nat)(ho:cF l m n=true)(hlm:l.length≤1000∧m.length≤1000)(hL:L.length≤1000000) :
  body [W5] 128 [pV 14,pV 4,pV 3] (HF l m n c1 c2 L c3) 2012 (fun v h nx=>∃ ρ,qH 2012 ρ [(0,aA9 (NC l m n L).1 (NC l m n L).2 (PH n L))] (HF l m n c1 c2 L c3) 2012 [(0,v)] h nx):=by
 have hK:=aAj (l:=l) (m:=m) (n:=n) (c1:=c1) (c2:=c2) (L:=L) (c3:=c3) hlm.1;have hN:∀ k,2012≤k→look (HF l m n c1 c2 L c3) k=none:=fun k hk=>bN hK hk;obtain⟨hM,h3,h1l,h400,m400,hn1,hn2⟩:=iI (lL ho);have hd:=bI l m m.length;have hfl:=aCv l m;(conv=>whnf);refine⟨_,_,n,L,_,rfl,⟨_,_,_,_,_,_,_,_,_,_,_,_,_,_,_,rfl⟩,⟨_,_,_,_,rfl,List.take_length⟩,by omega,by omega,hL,?_⟩;by_cases hst:yC n L L.length=0
 ·have hsO:seO n L=AP n L L.length:=(by unfold seO;rw [if_pos hst]);have hil:=o9 n L L.length;obtain⟨S,hS⟩:∃ S,AP n L L.length=S:=⟨_,rfl⟩;rw [hS] at hsO hil;rw [hsO,hst];have hv1:NC l m n L=if L.length=0 then (0,0) else D0 l m S (2*m.length):=by unfold NC;rw [if_neg (fun h=>h hst),hS]
  have hv2:PH n L=if L.length=0 then 5 else 0:=by unfold PH;rw [if_neg (fun h=>h hst)]
  rw [hv1,hv2];clear hv1 hv2 hsO;refine aB4 eH (l:=S) (by omega) ?_;((conv=>whnf);refine bm (fun m1=>?_) (fun m1=>?_))
  ·have m1:L.length=0:=(by simpa [aA,aB] using m1);rw [if_pos m1,if_pos m1];(conv=>whnf);refine FG (v:=aA9 0 0 5) (mA rfl) (cY rfl) ?_ hK (Nat.le_refl _);exact dT (bJ (bJ (fun _ _ h=>h) (hN _ (by decide))) (hN _ (by decide))) (hN _ (by decide))
  ·have m1:¬ L.length=0:=(by simpa [aA,aB] using m1);rw [if_neg m1,if_neg m1];(conv=>whnf);rw [hil];obtain⟨T,hT⟩:∃ T:Nat,(n+1).toNat=T:=⟨_,rfl⟩;have hTn:(T:Int)=n+1:=(by omega);rw [hT] at hil ⊢;refine⟨fun q e h nx=>∃ (i:Nat) (j:Int),j=i∧i≤(aR l m m.length).length∧q=(aR l m m.length).length - i∧e=OV T (aR l m m.length).length j∧h=aCA S (D0 l m S i).1 (D0 l m S i).2++HF l m n c1 c2 L c3∧nx=2015,⟨(aR l m m.length).length,?_⟩,?_⟩
   ·refine dI (P:=aCA S (D0 l m S 0).1 (D0 l m S 0).2) (W:=HF l m n c1 c2 L c3) (e0:=OV T (aR l m m.length).length 0) (n0:=2015) [] ⟨0,0,by omega,by omega,rfl,rfl,rfl,rfl⟩ ?_ hK ?_ ?_ ?_ (fun _ h=>by cases h) (by omega)
    ·unfold OV;((repeat' refine iE rfl rfl ?_);exact iN)
    ·exact dT (bJ (bJ (bJ (fun _ _ h=>h) (hN _ (by decide))) (hN _ (by decide))) (hN _ (by decide))) (hN _ (by decide))
    ·refine List.forall_mem_cons.2 ⟨⟨.inl ⟨Nat.le_of_ble_eq_true rfl,Nat.le_of_ble_eq_true rfl,Nat.le_of_ble_eq_true rfl⟩,_,rfl,aZ rfl rfl⟩,List.forall_mem_cons.2 ⟨⟨.inl ⟨Nat.le_of_ble_eq_true rfl,Nat.le_of_ble_eq_true rfl,Nat.le_of_ble_eq_true rfl⟩,_,rfl,aO (aG _ _)⟩,List.forall_mem_cons.2 ⟨⟨.inl ⟨Nat.le_of_ble_eq_true rfl,Nat.le_of_ble_eq_true rfl,Nat.le_of_ble_eq_true rfl⟩,_,rfl,aZ rfl rfl⟩,fun _ h=>by cases h⟩⟩⟩
    ·show ∀ k∈[2014,2013,2012],∀ k'∈[2014,2013,2012],_;decide
   ·rintro q e h nx ⟨i,j,hj,hi,rfl,rfl,rfl,rfl⟩;unfold OV aCA HF aGI mV3;((conv=>whnf);refine bm (fun g1=>?_) (fun g1=>?_))
    ·have hil2:i<(aR l m m.length).length:=(by simp [aA,aB] at g1;omega);have hfr:=rI ho (i:=i) (by omega);have hfl2:=aCY hM (d:=i) (by omega);((conv=>whnf);refine bm (fun g2=>?_) (fun g2=>?_))
     ·(conv=>whnf);refine gI (eK (cE l m).face (i:=i) (by omega) ?_) ?_
      ·show _+Int.toNat j*1=_;omega
      ((conv=>whnf);refine bm (fun g3=>?_) (fun g3=>?_))
      ·(conv=>whnf);refine gI (H8 S (i:=(aK (cE l m).face i).toNat) (by omega) ?_) ?_
       ·show _+Int.toNat (aK (cE l m).face i)*1=_;omega
       ((conv=>whnf);refine bm (fun g4=>?_) (fun g4=>?_))
       ·have g4:cG S (aK (cE l m).face i).toNat=true:=g4;have hs:=aGh (l:=l) (m:=m) g4;((conv=>whnf);refine bm (fun g5=>?_) (fun g5=>?_))
        ·(conv=>whnf);refine gI (aG5 (aR l m m.length) (i:=i) hil2 ?_) ?_
         ·show _+Int.toNat j*5+3=_;omega
         ((conv=>whnf);refine bm (fun g6=>?_) (fun g6=>?_))
         ·(conv=>whnf);refine gI (aFT l (i:=(bY (aR l m m.length) i).fr.toNat) (by omega) ?_) ?_
          ·show _+Int.toNat (bY (aR l m m.length) i).fr*2+1=_;omega
          ((conv=>whnf);refine bm (fun g7=>?_) (fun g7=>?_))
          ·(conv=>whnf);refine⟨(aR l m m.length).length - (i+1),by omega,?_⟩;refine dI (P:=aCA S (aA.A.min (D0 l m S i).1 (yD l m i)) (aA.A.max (D0 l m S i).2 (yD l m i))) (W:=HF l m n c1 c2 L c3) (e0:=OV T (aR l m m.length).length (j+1)) (n0:=2015) [] ⟨i+1,j+1,by omega,by omega,rfl,rfl,by rw [hs];rfl,rfl⟩ ?_ hK ?_ ?_ ?_ (fun _ h=>by cases h) (by omega)
           ·unfold OV;((repeat' refine iE rfl rfl ?_);exact iN)
           ·exact dT (ext_cons (ext_cons (ext_cons (fun _ _ h=>h) (hN _ (by decide))) (hN _ (by decide))) (hN _ (by decide))) (hN _ (by decide))
           ·refine List.forall_mem_cons.2 ⟨⟨.inl ⟨Nat.le_of_ble_eq_true rfl,Nat.le_of_ble_eq_true rfl,Nat.le_of_ble_eq_true rfl⟩,_,rfl,aZ rfl rfl⟩,List.forall_mem_cons.2 ⟨⟨.inl ⟨Nat.le_of_ble_eq_true rfl,Nat.le_of_ble_eq_true rfl,Nat.le_of_ble_eq_true rfl⟩,_,rfl,aO (aG _ _)⟩,List.forall_mem_cons.2 ⟨⟨.inl ⟨Nat.le_of_ble_eq_true rfl,Nat.le_of_ble_eq_true rfl,Nat.le_of_ble_eq_true rfl⟩,_,rfl,aZ rfl rfl⟩,fun _ h=>by cases h⟩⟩⟩
           ·show ∀ k∈[2014,2013,2012],∀ k'∈[2014,2013,2012],_;decide
          ·exfalso;simp [aA,aB,aI] at g7;omega
         ·exfalso;simp [aA,aB] at g6;omega
        ·exfalso;simp [aA,aB] at g5;omega
       ·have g4:cG S (aK (cE l m).face i).toNat=false:=g4;have hs:=aG2 (l:=l) (m:=m) g4;((conv=>whnf);refine bm (fun g5=>?_) (fun g5=>?_))
        ·(conv=>whnf);refine⟨(aR l m m.length).length - (i+1),by omega,?_⟩;rw [← hs];refine dI (P:=aCA S (D0 l m S (i+1)).1 (D0 l m S (i+1)).2) (W:=HF l m n c1 c2 L c3) (e0:=OV T (aR l m m.length).length (j+1)) (n0:=2015) [] ⟨i+1,j+1,by omega,by omega,rfl,rfl,rfl,rfl⟩ ?_ hK ?_ ?_ ?_ (fun _ h=>by cases h) (by omega)
         ·unfold OV;((repeat' refine iE rfl rfl ?_);exact iN)
         ·exact ext_cons (ext_cons (ext_cons (fun _ _ h=>h) (hN _ (by decide))) (hN _ (by decide))) (hN _ (by decide))
         ·refine List.forall_mem_cons.2 ⟨⟨.inl ⟨Nat.le_of_ble_eq_true rfl,Nat.le_of_ble_eq_true rfl,Nat.le_of_ble_eq_true rfl⟩,_,rfl,aZ rfl rfl⟩,List.forall_mem_cons.2 ⟨⟨.inl ⟨Nat.le_of_ble_eq_true rfl,Nat.le_of_ble_eq_true rfl,Nat.le_of_ble_eq_true rfl⟩,_,rfl,aO (aG _ _)⟩,List.forall_mem_cons.2 ⟨⟨.inl ⟨Nat.le_of_ble_eq_true rfl,Nat.le_of_ble_eq_true rfl,Nat.le_of_ble_eq_true rfl⟩,_,rfl,aZ rfl rfl⟩,fun _ h=>by cases h⟩⟩⟩
         ·show ∀ k∈[2014,2013,2012],∀ k'∈[2014,2013,2012],_;decide
        ·exfalso;simp [aA,aB,aI] at g5;omega
      ·exfalso;simp [aA,aB] at g3;omega
     ·exfalso;simp [aA,aB] at g2;omega
    ·have hil2:i=(aR l m m.length).length:=(by simp [aA,aB] at g1;omega);(conv=>whnf);rw [show D0 l m S (2*m.length)=D0 l m S i by rw [hil2,hd]];refine FG (v:=aA9 (D0 l m S i).1 (D0 l m S i).2 0) (mA rfl) (cY rfl) ?_ hK (Nat.le_refl _);exact dT (ext_cons (ext_cons (ext_cons (fun _ _ h=>h) (hN _ (by decide))) (hN _ (by decide))) (hN _ (by decide))) (hN _ (by decide))
 ·have hsO:seO n L=[]:=(by unfold seO;rw [if_neg hst]);have hv1:NC l m n L=(0,0):=(by unfold NC;rw [if_pos hst]);have hv2:PH n L=yC n L L.length:=(by unfold PH;rw [if_pos hst]);rw [hsO,hv1,hv2];((conv=>whnf);refine bm (fun m1=>?_) (fun m1=>?_))
  ·(conv=>whnf);refine FG (v:=aA9 0 0 (yC n L L.length)) (mA rfl) (cY rfl) ?_ hK (Nat.le_refl _);exact dT (bJ (fun _ _ h=>h) (hN _ (by decide))) (hN _ (by decide))
  ·exfalso;simp [aA,aB] at m1;exact hst m1
end Go.Aw
end
