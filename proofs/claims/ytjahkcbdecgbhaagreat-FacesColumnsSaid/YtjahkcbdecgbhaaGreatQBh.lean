/-
  Parts of a proof. No condition.
-/
import Derived.Test.YtjahkcbdecgbhaaGreatQAs
import Derived.Test.YtjahkcbdecgbhaaGreatQAv
import Derived.Test.YtjahkcbdecgbhaaGreatQBe
import Derived.Test.YtjahkcbdecgbhaaGreatQBf
import Derived.Test.YtjahkcbdecgbhaaGreatQBg
set_option linter.unusedSimpArgs false
set_option linter.unusedVariables false
noncomputable section
namespace Go.Aw
set_option maxRecDepth 100000
theorem uS (D:List Dt)(x y:Int):jJ D x y=true↔xB (eO (cA D x.toNat)) (eO (cA D y.toNat)):=by
 show decide (W8 D x y<0)=true↔_;unfold W8;generalize eO (cA D x.toNat)=u;generalize eO (cA D y.toNat)=v;rw [decide_eq_true_iff];have hu:B3 u=true↔lo u:=(by unfold B3 lo;simp);have hv:B3 v=true↔lo v:=(by unfold B3 lo;simp);have hc:crP u v=cr u v:=rfl;unfold RJ xB gH;rw [hc];cases h1:B3 u <;> cases h2:B3 v <;> rw [h1] at hu <;> rw [h2] at hv <;> simp only [Bool.false_eq_true,false_iff,true_iff,if_true,if_false] at hu hv ⊢ <;> simp only [hu,hv,not_true,not_false_iff,true_and,false_and,false_or,or_false,and_false,iff_true,true_iff,iff_false,not_false_eq_true]
 ·split <;> (try split) <;> omega
 ·simp
 ·simp
 ·split <;> (try split) <;> omega
theorem RA {a b c:Pt}(h1:fQ a b=true)(h2:fQ b c=true):fQ a c=true:=by
 simp only [fQ,Bool.or_eq_true,Bool.and_eq_true,decide_eq_true_eq] at *;omega
section
variable {l:List Pt}{m:List Ed}{n:Int}
theorem RO (hok:cX l m n=true):∀ {j i:Nat},i<j→j<l.length→fQ (fT l i) (fT l j)=true
 |0,i,h,_=>by omega
 |j+1,i,h,hj=>by
  simp only [cX,Bool.and_eq_true] at hok;have h1:=eV hok.2.1 hj;simp only [B2,Bool.and_eq_true,Bool.or_eq_true,decide_eq_true_eq] at h1;have h2:fQ (fT l j) (fT l (j+1))=true:=by
   rcases h1.2 with h|h
   ·omega
   ·exact h
  by_cases e:i=j
  ·rw [e];exact h2
  ·exact RA (RO (by simp only [cX,Bool.and_eq_true];exact hok) (show i<j by omega) (by omega)) h2
theorem KJ (hok:cX l m n=true){i:Nat}(hi:i<m.length):0≤(cC m i).a∧(cC m i).a<(cC m i).b∧(cC m i).b<l.length:=by
 simp only [cX,Bool.and_eq_true] at hok;have h1:=eV hok.2.2.1 hi;simp only [G6,Bool.and_eq_true,decide_eq_true_eq] at h1;exact⟨h1.1.1.1.1.1,h1.1.1.1.1.2,h1.1.1.1.2⟩
theorem AQ (hok:cX l m n=true){i:Nat}(hi:i<2*m.length):nz (eO (cA (bC l m m.length) i)):=by
 obtain⟨h1,h2,h3⟩:=KJ hok (i:=i / 2) (by omega);have h4:=RO hok (i:=(cC m (i / 2)).a.toNat) (j:=(cC m (i / 2)).b.toNat) (by omega) (by omega);simp only [fQ,Bool.or_eq_true,Bool.and_eq_true,decide_eq_true_eq] at h4;unfold nz;rcases mO (l:=l) (m:=m) hi with ⟨e,h⟩|⟨e,h⟩
 ·rw [h];simp only [eO,dA,dS];omega
 ·rw [h];simp only [eO,dB,dS];omega
theorem aCB (hok:cX l m n=true):Ord (bC l m m.length) (fun x=>0≤x∧x<(2*m.length:Nat)) where
 trans:=fun x y z hx hy hz h1 h2=>by
  have nx:=AQ hok (i:=x.toNat) (by omega);have ny:=AQ hok (i:=y.toNat) (by omega);have nz':=AQ hok (i:=z.toNat) (by omega);unfold w9 at *;have b1:¬ xB (eO (cA (bC l m m.length) y.toNat)) (eO (cA (bC l m m.length) x.toNat)):=fun h=>(by rw [(uS _ _ _).2 h] at h1;cases h1);have b2:¬ xB (eO (cA (bC l m m.length) z.toNat)) (eO (cA (bC l m m.length) y.toNat)):=fun h=>(by rw [(uS _ _ _).2 h] at h2;cases h2);cases h:jJ (bC l m m.length) z x with
  |false=>rfl
  |true=>exact absurd ((uS _ _ _).1 h) (SJ nx ny nz' b1 b2)
 asym:=fun x y hx hy h=>by
  unfold w9;cases h2:jJ (bC l m m.length) y x with
  |false=>rfl
  |true=>exact absurd ((uS _ _ _).1 h2) (WV ((uS _ _ _).1 h))
theorem YJ (D:List Dt)(s j:Nat):(QL D s j).Nodup:=by
 unfold QL;unfold List.Nodup;rw [List.pairwise_map];have h:List.Pairwise (fun a b:Nat=>a≠b) ((List.range j).filter fun i=>decide ((cA D i).fr.toNat=s)):=List.Pairwise.filter _ List.nodup_range;exact h.imp fun {a b} h e=>h (Int.ofNat.inj e)
theorem JX (D:List Dt)(s j:Nat):(QL D s j).length≤j:=by
 unfold QL;rw [List.length_map];exact Nat.le_trans (List.length_filter_le _ _) (by rw [List.length_range];exact Nat.le_refl _)
theorem aDZ (hok:cX l m n=true){s:Nat}(hs:s<l.length):bK (outs l m) s=oC (bC l m m.length) 1000 (QL (bC l m m.length) s (2*m.length)):=by
 have hM:=(jF hok).1;have hfr:∀ i,i<2*m.length→(cA (bC l m m.length) i).fr.toNat<l.length∧(cA (bC l m m.length) i).no=i:=fun i hi=>by
  have:=l9 (l:=l) hM hi;omega
 unfold outs;rw [Q4 _ _ (by rw [nQ];exact Nat.le_refl _),if_pos hs,C2 _ hfr]
theorem yJ (hok:cX l m n=true){s:Nat}(hs:s<l.length):So (bC l m m.length) (bK (outs l m) s) 0 (bK (outs l m) s).length∧(bK (outs l m) s).Perm (QL (bC l m m.length) s (2*m.length)):=by
 obtain⟨hM,h3,h1,h4,h5,_,_⟩:=jF hok;rw [aDZ hok hs];have hl:=JX (bC l m m.length) s (2*m.length);have:=VZ (aCB hok) (f:=1000) (L:=QL (bC l m m.length) s (2*m.length)) (by omega) (fun i _ hi=>by
  have hm:aM (QL (bC l m m.length) s (2*m.length)) i∈QL (bC l m m.length) s (2*m.length):=by
   rw [dD hi];exact List.getElem_mem hi
  obtain⟨k,hk,e,_⟩:=KF hm;rw [e];omega)
 rw [qC];exact this
theorem jS (hok:cX l m n=true){s:Nat}(hs:s<l.length){x:Int}:x∈bK (outs l m) s↔∃ i:Nat,i<2*m.length∧x=i∧(cA (bC l m m.length) i).fr.toNat=s:=by
 rw [(yJ hok hs).2.mem_iff];exact⟨KF,fun ⟨i,h1,h2,h3⟩=>by rw [h2];exact QK h1 h3⟩
theorem ES (hok:cX l m n=true){s:Nat}(hs:s<l.length):(bK (outs l m) s).Nodup:=(yJ hok hs).2.symm.nodup (YJ _ _ _)
theorem DL {d:Int}{E:Nat}(h0:0≤d)(h1:d<(2*E:Nat)):0≤eY d∧eY d<(2*E:Nat):=by unfold eY;split <;> omega
theorem IU {d:Int}(h0:0≤d):eY (eY d)=d:=by unfold eY;split <;> split <;> omega
theorem LX (l:List Pt)(m:List Ed){d:Int}(h0:0≤d)(h1:d<(2*m.length:Nat)):(cA (bC l m m.length) (eY d).toNat).fr=(cA (bC l m m.length) d.toNat).tt∧(cA (bC l m m.length) (eY d).toNat).tt=(cA (bC l m m.length) d.toNat).fr∧eO (cA (bC l m m.length) (eY d).toNat)=xI (eO (cA (bC l m m.length) d.toNat)):=by
 obtain⟨hd1,hd2⟩:=FN l m (N:=m.length) (i:=d.toNat / 2) (by omega);unfold eY;by_cases e:d % 2=0
 ·rw [if_pos e,show (d+1).toNat=2*(d.toNat / 2)+1 by omega,show cA (bC l m m.length) d.toNat=dA l m (d.toNat / 2) by rw [← hd1];congr 1;omega,hd2];refine⟨rfl,rfl,?_⟩;simp only [eO,dA,dB,xI,Prod.mk.injEq];omega
 ·rw [if_neg e,show (d - 1).toNat=2*(d.toNat / 2) by omega,show cA (bC l m m.length) d.toNat=dB l m (d.toNat / 2) by rw [← hd2];congr 1;omega,hd1];refine⟨rfl,rfl,?_⟩;simp only [eO,dA,dB,xI,Prod.mk.injEq];omega
theorem IZ {x:Int}:∀ {L:List Int} {i:Nat},x∈L→∃ k,k<L.length∧qV x L i=((i+k:Nat):Int)∧aM L k=x
 |[],i,h=>by cases h
 |b::r,i,h=>by
  unfold qV;by_cases e:x=b
  ·rw [if_pos e];exact⟨0,Nat.succ_pos _,rfl,e.symm⟩
  ·rw [if_neg e];rcases List.mem_cons.1 h with h|h
   ·exact absurd h e
   ·obtain⟨k,h1,h2,h3⟩:=IZ (L:=r) (i:=i+1) h;refine⟨k+1,by simpa using h1,by rw [h2];congr 1;omega,?_⟩;rw [← h3];rfl
theorem rX (hok:cX l m n=true){d:Int}(h0:0≤d)(h1:d<(2*m.length:Nat)):∃ (s a:Nat),s=(cA (bC l m m.length) d.toNat).tt.toNat∧s<l.length∧RF (bC l m m.length) (outs l m) d=bK (outs l m) s∧a<(bK (outs l m) s).length ∧
  qV (eY d) (bK (outs l m) s) 0=a∧aM (bK (outs l m) s) a=eY d∧A8 (bC l m m.length) (outs l m) d=aM (bK (outs l m) s) (if a=0 then (bK (outs l m) s).length - 1 else a - 1):=by
 obtain⟨hM,h3,h5,h4,h6,_,_⟩:=jF hok;have hf:=l9 (l:=l) hM (i:=d.toNat) (by omega);have hb:=DL (E:=m.length) h0 h1;have hbd:=LX l m h0 h1;refine⟨(cA (bC l m m.length) d.toNat).tt.toNat,?_⟩;have hs:(cA (bC l m m.length) d.toNat).tt.toNat<l.length:=(by omega);have hmem:eY d∈bK (outs l m) (cA (bC l m m.length) d.toNat).tt.toNat:=(jS hok hs).2 ⟨(eY d).toNat,by omega,by omega,by rw [hbd.1]⟩;obtain⟨k,k1,k2,k3⟩:=IZ (i:=0) hmem;rw [Nat.zero_add] at k2;refine⟨k,rfl,hs,rfl,k1,k2,k3,?_⟩;unfold A8 RF;rw [k2];congr 1;split
 ·rename_i e;rw [e];have:((0:Nat):Int) - 1+((bK (outs l m) (cA (bC l m m.length) d.toNat).tt.toNat).length:Int)=(((bK (outs l m) (cA (bC l m m.length) d.toNat).tt.toNat).length - 1:Nat):Int):=(by omega);rw [this,Int.emod_eq_of_lt (by omega) (by omega)];rfl
 ·have:(k:Int) - 1+((bK (outs l m) (cA (bC l m m.length) d.toNat).tt.toNat).length:Int)=((k - 1:Nat):Int)+(bK (outs l m) (cA (bC l m m.length) d.toNat).tt.toNat).length:=(by omega);rw [this,Int.add_emod_right,Int.emod_eq_of_lt (by omega) (by omega)];rfl
theorem at_mem {L:List Int}{i:Nat}(h:i<L.length):aM L i∈L:=by rw [dD h];exact List.getElem_mem h
theorem PG (hok:cX l m n=true){d:Int}(h0:0≤d)(h1:d<(2*m.length:Nat)):0≤A8 (bC l m m.length) (outs l m) d∧A8 (bC l m m.length) (outs l m) d<(2*m.length:Nat)∧(cA (bC l m m.length) (A8 (bC l m m.length) (outs l m) d).toNat).fr.toNat=(cA (bC l m m.length) d.toNat).tt.toNat:=by
 obtain⟨s,a,e1,hs,e2,ha,e3,e4,e5⟩:=rX hok h0 h1;rw [e5];have hi:(if a=0 then (bK (outs l m) s).length - 1 else a - 1)<(bK (outs l m) s).length:=(by split <;> omega);obtain⟨i,i1,i2,i3⟩:=(jS hok hs).1 (at_mem hi);rw [i2];exact⟨by omega,by omega,by rw [← e1];exact i3⟩
theorem NJ {L:List Int}(h:L.Nodup){i j:Nat}(hi:i<L.length)(hj:j<L.length)(e:aM L i=aM L j):i=j:=by
 rw [dD hi,dD hj] at e;exact (List.getElem_inj h).1 e
theorem aH6 (hok:cX l m n=true){d d':Int}(h0:0≤d)(h1:d<(2*m.length:Nat))(h0':0≤d')(h1':d'<(2*m.length:Nat))(e:A8 (bC l m m.length) (outs l m) d=A8 (bC l m m.length) (outs l m) d'):d=d':=by
 have hn:=(PG hok h0 h1).2.2;have hn':=(PG hok h0' h1').2.2;obtain⟨s,a,e1,hs,e2,ha,e3,e4,e5⟩:=rX hok h0 h1;obtain⟨s',a',e1',hs',e2',ha',e3',e4',e5'⟩:=rX hok h0' h1';have hss:s=s':=(by rw [e1,e1',← hn,← hn',e]);subst hss;rw [e5,e5'] at e;have:=NJ (ES hok hs) (by split <;> omega) (by split <;> omega) e;have haa:a=a':=by
  split at this <;> split at this <;> omega
 have hb:eY d=eY d':=(by rw [← e4,← e4',haa]);rw [← IU h0,hb,IU h0']
theorem aC5:∀ (n:Nat) (f:Nat→Nat),(∀ i,i≤n→f i<n)→∃ i j,i<j∧j≤n∧f i=f j
 |0,f,h=>by have:=h 0 (Nat.le_refl 0);omega
 |n+1,f,h=>by
  by_cases hc:∃ i,i≤n∧f i=f (n+1)
  ·obtain⟨i,h1,h2⟩:=hc;exact⟨i,n+1,by omega,Nat.le_refl _,h2⟩
  ·have hne:∀ i,i≤n→f i≠f (n+1):=fun i hi e=>hc ⟨i,hi,e⟩;obtain⟨i,j,h1,h2,h3⟩:=aC5 n (fun i=>if f (n+1)<f i then f i - 1 else f i) (fun i hi=>by
    have a1:=h i (by omega);have a2:=h (n+1) (Nat.le_refl _);have a3:=hne i hi;show (if f (n+1)<f i then f i - 1 else f i)<n;split <;> omega)
   refine⟨i,j,h1,by omega,?_⟩;have a1:=hne i (by omega);have a2:=hne j h2;have h3:(if f (n+1)<f i then f i - 1 else f i)=(if f (n+1)<f j then f j - 1 else f j):=h3;split at h3 <;> split at h3 <;> omega
theorem BN (hok:cX l m n=true){d:Int}(h0:0≤d)(h1:d<(2*m.length:Nat)):∀ i,0≤pI (bC l m m.length) (outs l m) d i∧pI (bC l m m.length) (outs l m) d i<(2*m.length:Nat)
 |0=>⟨h0,h1⟩
 |i+1=>by
  have ih:=BN hok h0 h1 i;have:=PG hok ih.1 ih.2;exact⟨this.1,this.2.1⟩
theorem VE (hok:cX l m n=true){d:Int}(h0:0≤d)(h1:d<(2*m.length:Nat)):∀ (i k:Nat),pI (bC l m m.length) (outs l m) d i=pI (bC l m m.length) (outs l m) d (i+k)→d=pI (bC l m m.length) (outs l m) d k
 |0,k,h=>by rw [Nat.zero_add] at h;exact h
 |i+1,k,h=>by
  refine VE hok h0 h1 i k ?_;have a:=BN hok h0 h1 i;have b:=BN hok h0 h1 (i+k);refine aH6 hok a.1 a.2 b.1 b.2 ?_;rw [show i+1+k=i+k+1 by omega] at h;exact h
theorem OL (D:List Dt)(ls:List (List Int))(d:Int):∀ (k i N:Nat),i≤N→N<i+k→pI D ls d N=d→pI D ls d (F7 D ls d k i)=d
 |0,i,N,h1,h2,_=>by omega
 |k+1,i,N,h1,h2,h3=>by
  unfold F7;split
  ·assumption
  ·rename_i h;refine OL D ls d k (i+1) N ?_ (by omega) h3;rcases Nat.lt_or_ge i N with h4|h4
   ·exact h4
   ·exact absurd (by rw [show i=N by omega];exact h3) h
theorem KG (hok:cX l m n=true):YX (bC l m m.length) (outs l m)=true:=by
 refine List.all_eq_true.2 fun d hd=>decide_eq_true ?_;have hd:=List.mem_range.1 hd;rw [bR] at hd;obtain⟨i,j,h1,h2,h3⟩:=aC5 (2*m.length) (fun i=>(pI (bC l m m.length) (outs l m) d i).toNat) (fun i _=>by
  have:=BN hok (d:=d) (by omega) (by omega) i;show (pI (bC l m m.length) (outs l m) d i).toNat<2*m.length;omega)
 have a:=BN hok (d:=(d:Int)) (by omega) (by omega) i;have b:=BN hok (d:=(d:Int)) (by omega) (by omega) j;have e:=VE hok (d:=(d:Int)) (by omega) (by omega) i (j - i) (by rw [show i+(j - i)=j by omega];have h3:(pI (bC l m m.length) (outs l m) d i).toNat=(pI (bC l m m.length) (outs l m) d j).toNat:=h3;omega);unfold o9;rw [bR];exact OL _ _ _ _ 1 (j - i) (by omega) (by omega) e.symm
theorem aJk (hok:cX l m n=true):GW l (bC l m m.length) (outs l m)=true:=by
 obtain⟨hM,h3,h5,h4,h6,_,_⟩:=jF hok;simp only [GW,Bool.and_eq_true,decide_eq_true_eq];refine⟨⟨⟨⟨List.all_eq_true.2 fun p hp=>?_,List.all_eq_true.2 fun e he=>?_⟩,by rw [bR];omega⟩,fK l m⟩,by omega⟩
 ·obtain⟨i,hi,rfl⟩:=List.getElem_of_mem hp;have:=oT hok hi;rw [lW hi] at this;unfold wide;simp only [Bool.and_eq_true,decide_eq_true_eq];omega
 ·obtain⟨i,hi,rfl⟩:=List.getElem_of_mem he;rw [← pC hi];rw [bR] at hi;have:=l9 (l:=l) hM hi;simp only [Bool.and_eq_true,decide_eq_true_eq];omega
theorem L7 (hok:cX l m n=true):vC l (bC l m m.length) (outs l m)=true:=by
 obtain⟨hM,h3,h5,h4,h6,_,_⟩:=jF hok;unfold vC;rw [aJk hok,Bool.true_and];refine List.all_eq_true.2 fun i hi=>?_;have hi:=List.mem_range.1 hi;rw [bR] at hi;have hn:=PG hok (d:=(i:Int)) (by omega) (by omega);obtain⟨s,a,e1,hs,e2,ha,e3,e4,e5⟩:=rX hok (d:=(i:Int)) (by omega) (by omega);have hf:=l9 (l:=l) hM (i:=i) hi;have hlen:(bK (outs l m) s).length≤1000:=by
  have h7:=(yJ hok hs).2.length_eq;have h8:=JX (bC l m m.length) s (2*m.length);omega
 simp only [Bool.and_eq_true,decide_eq_true_eq];refine⟨?_,hn.1,by rw [bR];omega⟩;unfold nxB;rw [e2,e3,bR,fK];simp only [Bool.and_eq_true,decide_eq_true_eq,Int.toNat_natCast];omega
theorem aH5 (hok:cX l m n=true):YH (bC l m m.length) (outs l m)=true:=by
 obtain⟨hM,h3,h5,h4,h6,_,_⟩:=jF hok;refine List.all_eq_true.2 fun L hL=>?_;obtain⟨s,hs,rfl⟩:=List.getElem_of_mem hL;have hs':=hs;rw [fK] at hs';have e:(outs l m)[s]=bK (outs l m) s:=by
  unfold bK;rw [List.getD_eq_getElem?_getD,List.getElem?_eq_getElem hs];rfl
 rw [e];have h7:=(yJ hok hs').2.length_eq;have h8:=JX (bC l m m.length) s (2*m.length);have h9:=TW hok hs';simp only [Bool.and_eq_true,decide_eq_true_eq];refine⟨⟨by omega,by omega⟩,List.all_eq_true.2 fun x hx=>?_⟩;obtain⟨i,i1,i2,_⟩:=(jS hok hs').1 hx;simp only [Bool.and_eq_true,decide_eq_true_eq,bR];omega
end
end Go.Aw
end

noncomputable section
namespace Go.Aw
set_option maxRecDepth 100000
set_option maxHeartbeats 2000000
theorem AI (n:Nat):∀ {h:Heap},gM h=true→gM (mU n h)=true
 |[],_=>rfl
 |(k,o)::r,h=>by
  simp only [gM,Bool.and_eq_true] at h;simp only [mU,gM,Bool.and_eq_true];refine⟨?_,AI n h.2⟩;cases o with
  |cells wr g sz cs=>rfl
  |_=>exact h.1
def aIY:Nat × XF:=(69,fun args h nx K=>∃ l m n p q,args=[mapA p q n]∧gZ aQ h p l∧gZ aU h q m∧(l.length≤1000∧m.length≤1000) ∧
 ((eK l m n=true∧K (.tuple #[.pointer (some ⟨nx+7,0,none⟩),iv 0]) (app (mU nx (X2 l m (pB p) (pB q) n)) (eD h)) (nx+2004))∨(eK l m n=false∧K (.tuple #[.pointer none,iv 1]) h nx)))
theorem aLS:cO Go.Proofs.Tryz.prog aIY.1 aIY.2:=by
 refine (gC (S:=fun args0 h0 n0 v1 h1 j=>∃ l m n c1 c2,(l.length≤1000∧m.length≤1000)∧args0=[aE l.length m.length c1 c2 n]∧h0=aB aQ aU l m∧n0=2 ∧
  ((eK l m n=true∧v1=.tuple #[.pointer (some ⟨7,0,none⟩),iv 0]∧h1=X2 l m c1 c2 n∧j=2004)∨(eK l m n=false∧v1=.tuple #[.pointer none,iv 1]∧h1=[]∧j=0))) (aL (xl:=[VJ,ZP,UF,S2,T5,(155,aGc)]) (.cons aJA (.cons aIA (.cons aEF (.cons aIG (.cons aIK (.cons aIp .nil))))))) ?_).mono ?_ ?_
 ·rintro args0 h0 n0 v1 h1 j ⟨l,m,n,c1,c2,⟨hl,hm⟩,rfl,rfl,rfl,hc⟩;have hw:=w69 l m n c1 c2 hl hm fun hok=>⟨L7 hok,KG hok,aH5 hok,(jF hok).2.2.1⟩;rcases hc with ⟨ho,rfl,rfl,rfl⟩|⟨ho,rfl,rfl,rfl⟩
  ·refine⟨AI 3 rD,_,hw,fun v h nx e=>?_⟩;rcases e with ⟨_,e⟩|⟨e,_⟩
   ·exact e
   ·rw [ho] at e;cases e
  ·refine⟨rfl,_,hw,fun v h nx e=>?_⟩;rcases e with ⟨e,_⟩|⟨_,rfl⟩
   ·rw [ho] at e;cases e
   ·exact kH rfl
 ·rintro args h nx K ⟨l,m,n,p,q,rfl,hl,hm,hlm,hx⟩;rcases hx with ⟨ho,hx⟩|⟨ho,hx⟩
  ·refine⟨_,_,2,_,_,_,⟨l,m,n,pB p,pB q,hlm,rfl,rfl,rfl,.inl ⟨ho,rfl,rfl,rfl⟩⟩,KK aQ aU rfl hl hm,?_⟩;have e:gP (fun k=>nx+k) (.tuple #[.pointer (some ⟨7,0,none⟩),iv 0])=.tuple #[.pointer (some ⟨nx+7,0,none⟩),iv 0]:=(by simp [gP,tr,dT,bT,dU,j8];rfl);rw [e];exact hx
  ·refine⟨_,_,2,_,[],0,⟨l,m,n,pB p,pB q,hlm,rfl,rfl,rfl,.inr ⟨ho,rfl,rfl,rfl⟩⟩,KK aQ aU rfl hl hm,?_⟩;simp only [o5,sL,mU,lD,Nat.add_zero];rw [m0 rfl];exact hx
 ·rintro args h nx K ⟨l,m,n,p,q,rfl,hl,hm,hlm,hx⟩;rcases hx with ⟨ho,hx⟩|⟨ho,hx⟩
  ·exact⟨_,_,_,hx,fun K' hk=>⟨l,m,n,p,q,rfl,hl,hm,hlm,.inl ⟨ho,hk⟩⟩⟩
  ·exact⟨_,_,_,hx,fun K' hk=>⟨l,m,n,p,q,rfl,hl,hm,hlm,.inr ⟨ho,hk⟩⟩⟩
def ckP (l:List Pt)(m:List Ed)(n:Int):List Value→Option (Bool × Value)
 |[]=>some (decide (l.length≤1000)&&decide (m.length≤1000),iv (if eK l m n=true then 0 else 1))
 |_=>none
def aLh:Nat × XF:=(17,mX aQ aU ckP)
end Go.Aw
end

noncomputable section
namespace Go.Aw
set_option maxRecDepth 100000
def rW (p q:Pt):V2:=(p.1 - q.1,p.2 - q.2)
theorem FE (v a b:Pt):bA v a b=cr (rW a v) (rW b v):=rfl
theorem tJ {a b:Pt}(h:fQ a b=true):jM a b = -1:=by
 rw [zH] at h;have h:=of_decide_eq_true h;rcases yZ a b with e|e|e <;> omega
theorem MF (a:Pt):jM a a=0:=by
 unfold jM WQ gH;simp
theorem tU {s:Sg}(h:fQ s.1 s.2=true):bN s=s:=by
 have:=tJ h;unfold bN;rw [this];simp
theorem aCj (a b:Pt):bA a b a=0:=by unfold bA;simp
theorem aDq (a b:Pt):bA a b b=0:=by unfold bA;rw [Int.mul_comm];omega
theorem aBb {s t:Sg}(h1:dV s=true)(h2:dV t=true)(l1:fQ s.1 s.2=true)(l2:fQ t.1 t.2=true)(e:s.1=t.1)(hc:bA s.1 s.2 t.2=0):eZ s t=4:=by
 unfold eZ;rw [if_pos ⟨h1,h2⟩];unfold jQ bB;rw [hc,← e,aCj];rw [if_pos ⟨rfl,rfl⟩];unfold HY vI;rw [tU l1,tU l2,← e,MF,if_neg (by omega)];split
 ·rw [e,tJ l2];rfl
 ·rw [tJ l1];rfl
theorem UU {s t:Sg}(h1:dV s=true)(h2:dV t=true)(l1:fQ s.1 s.2=true)(l2:fQ t.1 t.2=true)(e:s.2=t.2)(hc:bA s.1 s.2 t.1=0):eZ s t=4:=by
 unfold eZ;rw [if_pos ⟨h1,h2⟩];unfold jQ bB;rw [hc,← e,aDq];rw [if_pos ⟨rfl,rfl⟩];unfold HY vI;rw [tU l1,tU l2,show jM t.2 s.2=0 by rw [← e];exact MF _,if_neg (c:=(0:Int)<0) (by omega)];split
 ·rw [e,tJ l2];rfl
 ·rw [tJ l1];rfl
section
variable {l:List Pt}{m:List Ed}{n:Int}
theorem EA (hok:cX l m n=true){i:Nat}(hi:i<m.length):dV (aY l m i)=true∧fQ (aY l m i).1 (aY l m i).2=true:=by
 obtain⟨h1,h2,h3⟩:=KJ hok hi;have h4:=RO hok (i:=(cC m i).a.toNat) (j:=(cC m i).b.toNat) (by omega) (by omega);have pa:=oT hok (i:=(cC m i).a.toNat) (by omega);have pb:=oT hok (i:=(cC m i).b.toNat) (by omega);refine⟨?_,h4⟩;unfold dV aZ;have hne:jI (aY l m i).1 (aY l m i).2=false:=by
  rw [jB];intro e;have h4:fQ (aY l m i).1 (aY l m i).2=true:=h4;rw [e] at h4;simp [fQ] at h4
 rw [hne];simp only [Bool.and_eq_true,decide_eq_true_eq,Bool.not_false,and_true];simp only [aY,dS];omega
theorem aFQ (hp:gI l m n=true){i k:Nat}(hi:i<m.length)(hk:k<m.length)(hne:i≠k):eZ (aY l m i) (aY l m k)≠4∨eZ (aY l m k) (aY l m i)≠4:=by
 simp only [gI,Bool.and_eq_true] at hp;rcases Nat.lt_or_ge k i with h|h
 ·have:=eV (f:=fun k=>AD l m i k) (eV (f:=fun i=>mS (fun k=>AD l m i k) i) hp.2 hi) h;simp only [AD,Bool.or_eq_true,decide_eq_true_eq] at this;exact .inl (by omega)
 ·have:=eV (f:=fun i=>AD l m k i) (eV (f:=fun i=>mS (fun k=>AD l m i k) i) hp.2 hk) (show i<k by omega);simp only [AD,Bool.or_eq_true,decide_eq_true_eq] at this;exact .inr (by omega)
theorem JV (l:List Pt)(m:List Ed){i:Nat}(hi:i<2*m.length):eO (cA (bC l m m.length) i)=rW (dS l (cA (bC l m m.length) i).tt) (dS l (cA (bC l m m.length) i).fr):=by
 rcases mO (l:=l) (m:=m) hi with ⟨e,h⟩|⟨e,h⟩
 ·rw [h];rfl
 ·rw [h];rfl
theorem T7 {a b:V2}(h:ray a b):(0<a.1∨a.1=0∧0<a.2)→¬ (b.1<0∨b.1=0∧b.2<0):=by
 obtain⟨h1,h2⟩:=h;unfold cr at h1;unfold dt at h2;rintro h3 h4;rcases h3 with h3|⟨h3,h3'⟩
 ·rcases h4 with h4|⟨h4,h4'⟩
  ·-- b=(b1/a1) a,so that both products are negative
   have k1:a.1*b.1<0:=Int.mul_neg_of_pos_of_neg h3 h4;have k2:a.1*(a.2*b.2)=a.2*a.2*b.1:=by
    have:a.1*b.2=a.2*b.1:=(by omega);rw [Int.mul_left_comm,this,← Int.mul_assoc]
   have k3:a.2*a.2*b.1≤0:=Int.mul_nonpos_of_nonneg_of_nonpos (sq0 a.2) (Int.le_of_lt h4);have k4:0<a.2*b.2:=(by omega);have k5:=Int.mul_pos h3 k4;omega
  ·rw [h4] at h1 h2;have:a.1*b.2<0:=Int.mul_neg_of_pos_of_neg h3 h4';simp only [Int.mul_zero] at h1;omega
 ·rw [h3] at h1 h2;rcases h4 with h4|⟨h4,h4'⟩
  ·have:a.2*b.1<0:=Int.mul_neg_of_pos_of_neg h3' h4;simp only [Int.zero_mul] at h1;omega
  ·have:a.2*b.2<0:=Int.mul_neg_of_pos_of_neg h3' h4';simp only [Int.zero_mul] at h2;omega
theorem VF (hok:cX l m n=true){i:Nat}(hi:i<2*m.length):(i % 2=0→0<(eO (cA (bC l m m.length) i)).1∨(eO (cA (bC l m m.length) i)).1=0∧0<(eO (cA (bC l m m.length) i)).2)∧(i % 2=1→(eO (cA (bC l m m.length) i)).1<0∨(eO (cA (bC l m m.length) i)).1=0∧(eO (cA (bC l m m.length) i)).2<0):=by
 have h4:=(EA hok (i:=i / 2) (by omega)).2;unfold fQ at h4;simp only [Bool.or_eq_true,Bool.and_eq_true,decide_eq_true_eq] at h4;simp only [aY] at h4;rcases mO (l:=l) (m:=m) hi with ⟨e,h⟩|⟨e,h⟩
 ·rw [h];simp only [eO,dA];omega
 ·rw [h];simp only [eO,dB];omega
theorem KI {a b:V2}(h:ray a b):ray b a:=by
 obtain⟨h1,h2⟩:=h;refine⟨by rw [eU];omega,?_⟩;unfold dt at *;rw [Int.mul_comm b.1,Int.mul_comm b.2];exact h2
theorem aEd (hp:gI l m n=true){i k:Nat}(hi:i<2*m.length)(hk:k<2*m.length)(hf:(cA (bC l m m.length) i).fr=(cA (bC l m m.length) k).fr)(hr:ray (eO (cA (bC l m m.length) i)) (eO (cA (bC l m m.length) k))):i=k:=by
 have hok:=lE hp;have x1:=VF hok hi;have x2:=VF hok hk;have r1:=T7 hr;have r2:=T7 (KI hr);obtain⟨o1,o2⟩:=EA hok (i:=i / 2) (by omega);obtain⟨o3,o4⟩:=EA hok (i:=k / 2) (by omega);have par:i % 2=k % 2:=by
  rcases Nat.mod_two_eq_zero_or_one i with e|e <;> rcases Nat.mod_two_eq_zero_or_one k with e'|e'
  ·omega
  ·exact absurd (x2.2 e') (r1 (x1.1 e))
  ·exact absurd (x1.2 e) (r2 (x2.1 e'))
  ·omega
 by_cases he:i / 2=k / 2
 ·omega
 exfalso;have hm:=aFQ hp (i:=i / 2) (k:=k / 2) (by omega) (by omega) he;have d1:=JV l m hi;have d2:=JV l m hk;rcases mO (l:=l) (m:=m) hi with ⟨e,h⟩|⟨e,h⟩ <;> rcases mO (l:=l) (m:=m) hk with ⟨e',h'⟩|⟨e',h'⟩
 ·rw [h,h'] at hf hr;have hv:(aY l m (i / 2)).1=(aY l m (k / 2)).1:=(by show dS l _=dS l _;exact congrArg (dS l) hf);have hc:bA (aY l m (i / 2)).1 (aY l m (i / 2)).2 (aY l m (k / 2)).2=0:=by
   rw [FE];have:=hr.1;rw [show rW (aY l m (k / 2)).2 (aY l m (i / 2)).1=eO (dA l m (k / 2)) by rw [hv];rfl];exact this
  have hc':bA (aY l m (k / 2)).1 (aY l m (k / 2)).2 (aY l m (i / 2)).2=0:=by
   rw [FE];have:=(KI hr).1;rw [show rW (aY l m (i / 2)).2 (aY l m (k / 2)).1=eO (dA l m (i / 2)) by rw [← hv];rfl];exact this
  rcases hm with hm|hm
  ·exact hm (aBb o1 o3 o2 o4 hv hc)
  ·exact hm (aBb o3 o1 o4 o2 hv.symm hc')
 ·omega
 ·omega
 ·rw [h,h'] at hf hr;have hv:(aY l m (i / 2)).2=(aY l m (k / 2)).2:=(by show dS l _=dS l _;exact congrArg (dS l) hf);have key:∀ (v a b:Pt),cr (rW a v) (rW b v)=0→bA a v b=0:=fun v a b hh=>by
   unfold cr rW at hh;unfold bA;simp only [Int.mul_sub,Int.sub_mul] at *;rw [Int.mul_comm v.2 v.1,Int.mul_comm v.2 b.1,Int.mul_comm v.2 a.1] at *;rw [Int.mul_comm a.2 b.1] at *;rw [Int.mul_comm a.2 v.1] at *;rw [Int.mul_comm a.2 a.1] at *;omega
  have hc:bA (aY l m (i / 2)).1 (aY l m (i / 2)).2 (aY l m (k / 2)).1=0:=by
   refine key _ _ _ ?_;have:=hr.1;rw [show rW (aY l m (k / 2)).1 (aY l m (i / 2)).2=eO (dB l m (k / 2)) by rw [hv];rfl];exact this
  have hc':bA (aY l m (k / 2)).1 (aY l m (k / 2)).2 (aY l m (i / 2)).1=0:=by
   refine key _ _ _ ?_;have:=(KI hr).1;rw [show rW (aY l m (i / 2)).1 (aY l m (k / 2)).2=eO (dB l m (i / 2)) by rw [← hv];rfl];exact this
  rcases hm with hm|hm
  ·exact hm (UU o1 o3 o2 o4 hv hc)
  ·exact hm (UU o3 o1 o4 o2 hv.symm hc')
end
theorem O3 (v u w x:Pt):pY v u w x=true↔HQ (rW u v) (rW w v) (rW x v):=by
 have h1:∀ a b,BU v a b=rk (rW a v) (rW b v):=fun a b=>rfl;unfold pY HQ;rw [h1,h1,FE];split
 ·rename_i e;rw [decide_eq_true_iff];constructor
  ·exact fun h=>.inr ⟨e,h⟩
  ·rintro (h|⟨_,h⟩)
   ·omega
   ·exact h
 ·rename_i e;rw [decide_eq_true_iff];constructor
  ·exact fun h=>.inl h
  ·rintro (h|⟨h,_⟩)
   ·exact h
   ·exact absurd h e
section
variable {l:List Pt}{m:List Ed}{n:Int}
abbrev GZ (l:List Pt)(m:List Ed)(x:Int):V2:=eO (cA (bC l m m.length) x.toNat)
theorem Y8 (hp:gI l m n=true){s:Nat}(hs:s<l.length){i j:Nat}(hij:i<j)(hj:j<(bK (outs l m) s).length):xB (GZ l m (aM (bK (outs l m) s) i)) (GZ l m (aM (bK (outs l m) s) j)):=by
 have hok:=lE hp;have hso:=(yJ hok hs).1 i j (Nat.zero_le _) hij hj;obtain⟨a,a1,a2,a3⟩:=(jS hok hs).1 (at_mem (show i<(bK (outs l m) s).length by omega));obtain⟨b,b1,b2,b3⟩:=(jS hok hs).1 (at_mem hj);have hne:a≠b:=fun e=>by
  have:=NJ (ES hok hs) (show i<_ by omega) hj (by rw [a2,b2,e]);omega
 have hM:=(jF hok).1;have fa:=l9 (l:=l) hM a1;have fb:=l9 (l:=l) hM b1;have na:=AQ hok a1;have nb:=AQ hok b1;unfold w9 at hso;rw [a2,b2] at hso ⊢;show xB (eO (cA (bC l m m.length) ((a:Int)).toNat)) (eO (cA (bC l m m.length) ((b:Int)).toNat));rw [Int.toNat_natCast,Int.toNat_natCast];rcases YC na nb (fun hr=>hne (aEd hp a1 b1 (by omega) hr)) with h|h
 ·exact h
 ·exfalso;rw [(uS _ _ _).2 (by rw [Int.toNat_natCast,Int.toNat_natCast];exact h)] at hso;cases hso
theorem aDK (hp:gI l m n=true){d:Int}(h0:0≤d)(h1:d<(2*m.length:Nat)){x:Nat}(hx:x<2*m.length)(hfx:(cA (bC l m m.length) x).fr=(cA (bC l m m.length) d.toNat).tt)(hne:(x:Int)≠A8 (bC l m m.length) (outs l m) d) :
  HQ (GZ l m (eY d)) (GZ l m (A8 (bC l m m.length) (outs l m) d)) (GZ l m x):=by
 have hok:=lE hp;obtain⟨s,a,e1,hs,e2,ha,e3,e4,e5⟩:=rX hok h0 h1;have hb:=DL (E:=m.length) h0 h1;have hmem:(x:Int)∈bK (outs l m) s:=(jS hok hs).2 ⟨x,hx,rfl,by rw [hfx,e1]⟩;obtain⟨q,hq,hqe⟩:=List.getElem_of_mem hmem;rw [← dD hq] at hqe;have hord:∀ {i j:Nat},i<j→j<(bK (outs l m) s).length→xB (GZ l m (aM (bK (outs l m) s) i)) (GZ l m (aM (bK (outs l m) s) j)):=fun hij hj=>Y8 hp hs hij hj;have hnz:∀ {i:Nat},i<(bK (outs l m) s).length→nz (GZ l m (aM (bK (outs l m) s) i)):=fun {i} hi=>by
  obtain⟨c,c1,c2,_⟩:=(jS hok hs).1 (at_mem hi);rw [c2];show nz (eO (cA (bC l m m.length) ((c:Int)).toNat));rw [Int.toNat_natCast];exact AQ hok c1
 rw [e5] at hne ⊢;rw [← e4,← hqe];rw [← hqe] at hne;generalize bK (outs l m) s=L at *;by_cases ha0:a=0
 ·rw [if_pos ha0] at hne ⊢;have hqn:q≠L.length - 1:=fun e=>hne (by rw [e]);subst ha0;by_cases hq0:q=0
  ·rw [hq0];exact H4 (hnz ha) (hnz (by omega)) (.inl (hord (by omega) (by omega)))
  ·exact three (hnz ha) (hnz (by omega)) (hnz hq) (.inl ⟨hord (by omega) hq,hord (by omega) (by omega),hord (by omega) (by omega)⟩)
 ·rw [if_neg ha0] at hne ⊢;have hqn:q≠a - 1:=fun e=>hne (by rw [e]);by_cases hqa:q=a
  ·rw [hqa];exact H4 (hnz ha) (hnz (by omega)) (.inr (hord (by omega) ha))
  ·rcases Nat.lt_or_ge q a with h|h
   ·exact three (hnz ha) (hnz (by omega)) (hnz hq) (.inr (.inr ⟨hord (by omega) (by omega),hord (by omega) ha,hord (by omega) ha⟩))
   ·exact three (hnz ha) (hnz (by omega)) (hnz hq) (.inr (.inl ⟨hord (by omega) ha,hord (by omega) hq,hord (by omega) hq⟩))
theorem DG (l:List Pt)(m:List Ed){d:Int}(h0:0≤d)(h1:d<(2*m.length:Nat)):cE m d=(cA (bC l m m.length) d.toNat).fr∧gO m d=(cA (bC l m m.length) d.toNat).tt:=by
 have key:∀ {e:Int},0≤e→e<(2*m.length:Nat)→cE m e=(cA (bC l m m.length) e.toNat).fr:=fun {e} he0 he1=>by
  unfold cE;rcases mO (l:=l) (m:=m) (N:=m.length) (i:=e.toNat) (by omega) with ⟨x,h⟩|⟨x,h⟩
  ·rw [h,if_pos (by omega),show (e / 2).toNat=e.toNat / 2 by omega];rfl
  ·rw [h,if_neg (by omega),show (e / 2).toNat=e.toNat / 2 by omega];rfl
 refine⟨key h0 h1,?_⟩;have hb:=DL (E:=m.length) h0 h1;unfold gO;rw [show d+1 - 2*(d % 2)=eY d by unfold eY;split <;> omega,key hb.1 hb.2];exact (LX l m h0 h1).1
theorem aAT (hp:gI l m n=true){d:Int}(h0:0≤d)(h1:d<(2*m.length:Nat)){k:List Bool}(hk:∀ i,i<2*m.length→cU k i=true):fS l m k d (2*m.length)=A8 (bC l m m.length) (outs l m) d:=by
 have hok:=lE hp;have hM:=(jF hok).1;have hn:=PG hok h0 h1;have hfd:=DG l m h0 h1;have hbd:=LX l m h0 h1;have hb:=DL (E:=m.length) h0 h1;have hfr:=l9 (l:=l) hM (i:=d.toNat) (by omega);obtain⟨Y,hY⟩:∃ Y:Nat,A8 (bC l m m.length) (outs l m) d=Y:=⟨(A8 (bC l m m.length) (outs l m) d).toNat,by omega⟩;have hYl:Y<2*m.length:=(by omega);have hYf:=l9 (l:=l) hM hYl;have hfY:(cA (bC l m m.length) Y).fr=(cA (bC l m m.length) d.toNat).tt:=by
  have:=hn.2.2;rw [hY,Int.toNat_natCast] at this;omega
 -- a dart's direction from the point
 have hv:∀ {x:Nat},x<2*m.length→(cA (bC l m m.length) x).fr=(cA (bC l m m.length) d.toNat).tt→rW (dS l (gO m x)) (dS l (gO m d))=GZ l m x:=fun {x} hx hf=>by
  have e:=DG l m (d:=(x:Int)) (by omega) (by omega);have e2:=JV l m hx;rw [hf] at e2;show _=eO (cA (bC l m m.length) ((x:Int)).toNat);rw [Int.toNat_natCast,e2,e.2,hfd.2,Int.toNat_natCast]
 have hu:rW (dS l (cE m d)) (dS l (gO m d))=GZ l m (eY d):=by
  have e2:=JV l m (i:=(eY d).toNat) (by omega);rw [hbd.1,hbd.2.1] at e2;rw [hfd.1,hfd.2];exact e2.symm
 have hc:∀ {x:Nat},x<2*m.length→(cE m x=gO m d↔(cA (bC l m m.length) x).fr=(cA (bC l m m.length) d.toNat).tt):=fun {x} hx=>by
  rw [(DG l m (d:=(x:Int)) (by omega) (by omega)).1,hfd.2,Int.toNat_natCast]
 have hsoon:∀ {x:Nat},x<2*m.length→(cA (bC l m m.length) x).fr=(cA (bC l m m.length) d.toNat).tt→x≠Y→pY (dS l (gO m d)) (dS l (cE m d)) (dS l (gO m Y)) (dS l (gO m x))=true∧pY (dS l (gO m d)) (dS l (cE m d)) (dS l (gO m x)) (dS l (gO m Y))=false:=fun {x} hx hf hne=>by
  have h:=aDK hp h0 h1 hx hf (by rw [hY];omega);rw [hY] at h;refine⟨(O3 _ _ _ _).2 (by rw [hu,hv hYl hfY,hv hx hf];exact h),?_⟩;cases hq:pY (dS l (gO m d)) (dS l (cE m d)) (dS l (gO m x)) (dS l (gO m Y)) with
  |false=>rfl
  |true =>
   have:=(O3 _ _ _ _).1 hq;rw [hu,hv hYl hfY,hv hx hf] at this;exact absurd this (Q3 h)
 have key:∀ j,j≤2*m.length→(Y<j→fS l m k d j=Y)∧(j≤Y→fS l m k d j = -1∨∃ c:Nat,c<j∧fS l m k d j=c∧(cA (bC l m m.length) c).fr=(cA (bC l m m.length) d.toNat).tt):=by
  intro j
  induction j with
  |zero=>exact fun _=>⟨fun h=>by omega,fun _=>.inl rfl⟩
  |succ j ih =>
   intro hj;obtain⟨i1,i2⟩:=ih (by omega);rcases Nat.lt_trichotomy j Y with h|h|h
   ·refine⟨fun h'=>by omega,fun _=>?_⟩;unfold fS;split
    ·rename_i hc';exact .inr ⟨j,Nat.lt_succ_self j,rfl,(hc (by omega)).1 hc'.1.2⟩
    ·rcases i2 (by omega) with e|⟨c,c1,c2,c3⟩
     ·exact .inl e
     ·exact .inr ⟨c,by omega,c2,c3⟩
   ·subst h;refine⟨fun _=>?_,fun h'=>by omega⟩;refine aGo ⟨⟨hk j hYl,(hc hYl).2 hfY⟩,?_⟩;rcases i2 (Nat.le_refl _) with e|⟨c,c1,c2,c3⟩
    ·exact .inl (by omega)
    ·rw [c2];exact .inr (hsoon (by omega) c3 (by omega)).1
   ·refine⟨fun _=>?_,fun h'=>by omega⟩;rw [aD4 (fun hh=>?_),i1 h];obtain⟨⟨_,q1⟩,q2⟩:=hh;rw [i1 h] at q2;rcases q2 with q2|q2
    ·omega
    ·rw [(hsoon (by omega) ((hc (by omega)).1 q1) (by omega)).2] at q2;cases q2
 rw [(key _ (Nat.le_refl _)).1 hYl,hY]
end
theorem yH (of w:List Int)(fc:Int)(hw:∀ t,t<w.length→(aM w t).toNat<of.length)(i:Nat):∀ k,k≤w.length→((∃ t,t<k∧(aM w t).toNat=i)→aM (dQ of w fc k) i=fc)∧((¬ ∃ t,t<k∧(aM w t).toNat=i)→aM (dQ of w fc k) i=aM of i)
 |0,_=>⟨fun ⟨t,h,_⟩=>by omega,fun _=>rfl⟩
 |k+1,hk=>by
  obtain⟨i1,i2⟩:=yH of w fc hw i k (by omega);have hs:=P7 (dQ of w fc k) (aM w k).toNat fc i (by rw [eX];exact hw k (by omega));unfold dQ;rw [hs];by_cases e:i=(aM w k).toNat
  ·rw [if_pos e];exact⟨fun _=>rfl,fun h=>absurd ⟨k,Nat.lt_succ_self k,e.symm⟩ h⟩
  ·rw [if_neg e];refine⟨fun ⟨t,h1,h2⟩=>i1 ⟨t,?_,h2⟩,fun h=>i2 fun ⟨t,h1,h2⟩=>h ⟨t,by omega,h2⟩⟩;rcases Nat.lt_or_ge t k with h|h
   ·exact h
   ·exact absurd (by rw [← h2,show t=k by omega]) e
theorem rC (L:List Bool)(x:Nat)(v:Bool)(i:Nat)(hx:x<L.length):cU (L.set x v) i=if i=x then v else cU L i:=by
 unfold cU;rw [List.getD_eq_getElem?_getD,List.getD_eq_getElem?_getD,List.getElem?_set];by_cases h:x=i
 ·subst h;simp [hx]
 ·rw [if_neg h,if_neg (fun e=>h e.symm)]
theorem qJ (s:List Bool)(w:List Int)(hw:∀ t,t<w.length→(aM w t).toNat<s.length)(i:Nat):∀ k,k≤w.length→((∃ t,t<k∧(aM w t).toNat=i)→cU (fJ s w k) i=true)∧((¬ ∃ t,t<k∧(aM w t).toNat=i)→cU (fJ s w k) i=cU s i)
 |0,_=>⟨fun ⟨t,h,_⟩=>by omega,fun _=>rfl⟩
 |k+1,hk=>by
  obtain⟨i1,i2⟩:=qJ s w hw i k (by omega);have hs:=rC (fJ s w k) (aM w k).toNat true i (by rw [kC];exact hw k (by omega));unfold fJ;rw [hs];by_cases e:i=(aM w k).toNat
  ·rw [if_pos e];exact⟨fun _=>rfl,fun h=>absurd ⟨k,Nat.lt_succ_self k,e.symm⟩ h⟩
  ·rw [if_neg e];refine⟨fun ⟨t,h1,h2⟩=>i1 ⟨t,?_,h2⟩,fun h=>i2 fun ⟨t,h1,h2⟩=>h ⟨t,by omega,h2⟩⟩;rcases Nat.lt_or_ge t k with h|h
   ·exact h
   ·exact absurd (by rw [← h2,show t=k by omega]) e
theorem TK {f:Int→Int}{d:Int}{N T:Nat}:∀ {k i:Nat},i≤T→T≤i+k→(∀ t,i≤t→t<T→mF f d N t=true)→mF f d N T=false→sJ f d N k i=T
 |0,i,h1,h2,_,_=>by unfold sJ;omega
 |k+1,i,h1,h2,h3,h4=>by
  unfold sJ;by_cases e:i=T
  ·rw [e,h4];rfl
  ·rw [h3 i (Nat.le_refl _) (by omega),if_pos rfl];exact TK (by omega) (by omega) (fun t a b=>h3 t (by omega) b) h4
section
variable {l:List Pt}{m:List Ed}{n:Int}
theorem aA4 {E i:Nat}(h:i<E):cU (List.replicate E true) i=true:=by
 unfold cU;rw [List.getD_eq_getElem?_getD,List.getElem?_replicate,if_pos h];rfl
theorem YY (hp:gI l m n=true){d:Nat}(hd:d<2*m.length):kG l m (List.replicate (2*m.length) true) d=xA (bC l m m.length) (outs l m) d:=by
 have hok:=lE hp;have hin:=BN hok (d:=(d:Int)) (by omega) (by omega);have hx:∀ i,o8 (E3 l m (List.replicate (2*m.length) true)) d i=pI (bC l m m.length) (outs l m) d (i+1):=by
  intro i
  induction i with
  |zero=>exact aAT hp (by omega) (by omega) (fun i hi=>aA4 hi)
  |succ i ih =>
   unfold o8;rw [ih];have:=hin (i+1);exact aAT hp this.1 this.2 (fun i hi=>aA4 hi)
 have hw:=List.all_eq_true.1 (KG hok) d (List.mem_range.2 (by rw [bR];exact hd));have hw:=of_decide_eq_true hw;obtain⟨p1,p2,p3⟩:=nY (bC l m m.length) (outs l m) d (bC l m m.length).length 1;unfold xA;unfold o9 at hw ⊢;generalize F7 (bC l m m.length) (outs l m) d (bC l m m.length).length 1=T at *;rw [bR] at p2;have hN:sJ (E3 l m (List.replicate (2*m.length) true)) d (2*m.length) (2*m.length+2) 0=T - 1:=by
  refine TK (Nat.zero_le _) (by omega) (fun t _ ht=>?_) ?_
  ·unfold mF;rw [hx];have a:=hin (t+1);have b:=p3 (t+1) (by omega) (by omega);rw [decide_eq_false b,decide_eq_true a.1,decide_eq_true (show t≤2*m.length by omega)];rfl
  ·unfold mF;rw [hx,show T - 1+1=T by omega,hw,decide_eq_true rfl];rfl
 unfold kG;rw [hN];unfold B9;apply List.ext_getElem?;intro i;cases i with
 |zero =>
  rw [List.getElem?_cons_zero,List.getElem?_map,List.getElem?_range (by omega)];rfl
 |succ i =>
  rw [List.getElem?_cons_succ,List.getElem?_map,List.getElem?_map];by_cases h:i<T - 1
  ·rw [List.getElem?_range h,List.getElem?_range (by omega)];simp only [Option.map_some];rw [hx]
  ·rw [List.getElem?_eq_none (by rw [List.length_range];omega),List.getElem?_eq_none (by rw [List.length_range];omega)];rfl
theorem LV (l:List Pt)(m:List Ed){w:List Int}(hw:YL (bC l m m.length) w=true):∀ k,k≤w.length→mE l m w k=JB l (bC l m m.length) w k
 |0,_=>rfl
 |k+1,h=>by
  unfold mE JB;rw [LV l m hw k (by omega)];have hk:=rE hw (i:=k) (by omega);rw [bR] at hk;have:=DG l m hk.1 (by omega);unfold MV crI dS;rw [this.1,this.2]
structure Fre (m:List Ed) (s:Fst) (t:PO):Prop where
 len:s.of.length=2*m.length
 seen:t.seen.length=2*m.length
 face:t.face.length=2*m.length
 of:∀ i,i<2*m.length→(cU t.seen i=true∧0≤aM s.of i∧aM s.of i=aM t.face i)∨(cU t.seen i=false∧aM s.of i<0)
 many:s.faces=t.many
 low:0≤t.many
 out:s.outside=t.out
 ok:s.ok=!t.flat
theorem aAs (hp:gI l m n=true){s:Fst}{t:PO}(h:Fre m s t){d:Nat}(hd:d<2*m.length):Fre m (oW l m s d) (m9 l (bC l m m.length) (outs l m) t d)∧cU (m9 l (bC l m m.length) (outs l m) t d).seen d=true∧∀ i,cU t.seen i=true→i<2*m.length→cU (m9 l (bC l m m.length) (outs l m) t d).seen i=true:=by
 have hok:=lE hp;unfold oW m9;rcases h.of d hd with ⟨h1,h2,h3⟩|⟨h1,h2⟩
 ·rw [if_pos h2,if_pos h1];exact⟨h,h1,fun i hi _=>hi⟩
 ·rw [if_neg (by omega),if_neg (by rw [h1];decide)];simp only;rw [YY hp hd];have w:=QM (l:=l) (L7 hok) (d:=d) (by rw [bR];exact hd);have hfirst:aM (xA (bC l m m.length) (outs l m) d) 0=d:=by
   unfold xA;unfold aM;rw [List.getD_eq_getElem?_getD,List.getElem?_map,List.getElem?_range (by
    have:=(nY (bC l m m.length) (outs l m) d (bC l m m.length).length 1).1;unfold o9;omega)]
   rfl
  generalize xA (bC l m m.length) (outs l m) d=W at w hfirst ⊢;rw [LV l m w.1 _ (Nat.le_refl _),h.many,h.out,h.ok];generalize JB l (bC l m m.length) W W.length=A;have hr:∀ t,t<W.length→(aM W t).toNat<2*m.length:=fun t ht=>by
   have:=rE w.1 (i:=t) ht;rw [bR] at this;omega
  have hset:∀ fc:Int,0≤fc→∀ i,i<2*m.length→(cU (fJ t.seen W W.length) i=true∧0≤aM (dQ s.of W fc W.length) i∧aM (dQ s.of W fc W.length) i=aM (dQ t.face W fc W.length) i)∨(cU (fJ t.seen W W.length) i=false∧aM (dQ s.of W fc W.length) i<0):=fun fc hfc i hi=>by
   obtain⟨a1,a2⟩:=yH s.of W fc (by rw [h.len];exact hr) i _ (Nat.le_refl _);obtain⟨b1,b2⟩:=yH t.face W fc (by rw [h.face];exact hr) i _ (Nat.le_refl _);obtain⟨c1,c2⟩:=qJ t.seen W (by rw [h.seen];exact hr) i _ (Nat.le_refl _);by_cases e:∃ k,k<W.length∧(aM W k).toNat=i
   ·rw [a1 e,b1 e,c1 e];exact .inl ⟨rfl,hfc,rfl⟩
   ·rw [a2 e,b2 e,c2 e];exact h.of i hi
  refine⟨⟨by rw [eX];exact h.len,by rw [kC];exact h.seen,by rw [eX];exact h.face,?_,rfl,?_,?_,?_⟩,?_,?_⟩
  ·have:=h.low;by_cases hA:0<A
   ·simp only [if_pos hA];exact hset _ (by omega)
   ·simp only [if_neg hA];exact hset _ (by omega)
  ·have:=h.low;show 0≤if 0<A then t.many+1 else t.many
   split <;> omega
  ·show (if A<0 then t.out+1 else t.out)=if 0<A then t.out else if A<0 then t.out+1 else t.out
   split <;> split <;> (first|rfl|omega)
  ·show (if A=0 then false else !t.flat)=!(if 0<A then t.flat else if A<0 then t.flat else true);by_cases hA:0<A
   ·rw [if_pos hA,if_neg (by omega)]
   ·by_cases hA2:A<0
    ·rw [if_neg hA,if_pos hA2,if_neg (by omega)]
    ·rw [if_neg hA,if_neg hA2,if_pos (by omega)];rfl
  ·exact (qJ t.seen W (by rw [h.seen];exact hr) d _ (Nat.le_refl _)).1 ⟨0,by omega,by rw [hfirst];rfl⟩
  ·intro i hi hi2;obtain⟨c1,c2⟩:=qJ t.seen W (by rw [h.seen];exact hr) i _ (Nat.le_refl _);by_cases e:∃ k,k<W.length∧(aM W k).toNat=i
   ·exact c1 e
   ·show cU (fJ t.seen W W.length) i=true;rw [c2 e];exact hi
theorem TA (hp:gI l m n=true):∀ d,d≤2*m.length→Fre m (jR l m d) (dC l (bC l m m.length) (outs l m) d)∧∀ i,i<d→cU (dC l (bC l m m.length) (outs l m) d).seen i=true
 |0,_=>by
  refine⟨⟨by simp [jR],by simp [dC,bR],by simp [dC,bR],fun i hi=>.inr ?_,rfl,Int.le_refl 0,rfl,rfl⟩,fun i hi=>by omega⟩;unfold jR dC cU aM;rw [List.getD_eq_getElem?_getD,List.getD_eq_getElem?_getD,List.getElem?_replicate,List.getElem?_replicate,bR,if_pos hi,if_pos hi];exact⟨rfl,by decide⟩
 |d+1,h=>by
  obtain⟨i1,i2⟩:=TA hp d (by omega);obtain⟨a1,a2,a3⟩:=aAs hp i1 (d:=d) (by omega);refine⟨a1,fun i hi=>?_⟩;by_cases e:i=d
  ·rw [e];exact a2
  ·exact a3 i (i2 i (by omega)) (by omega)
theorem QZ {f g:Nat→Bool}{n:Nat}(h:∀ i,i<n→f i=g i):mS f n=mS g n:=by
 rw [Bool.eq_iff_iff];exact⟨fun a=>eS fun i hi=>by rw [← h i hi];exact eV a hi,fun a=>eS fun i hi=>by rw [h i hi];exact eV a hi⟩
theorem aE4 (hp:gI l m n=true):(zU (dR l m)&&(decide ((dR l m).many=n)&&mS (G9 l m) m.length))=(K2 (eN l m)&&(decide ((eN l m).faces=n)&&mS (faB m (eN l m).of) m.length)):=by
 obtain⟨_,_,_,_,_,hn,_⟩:=jF (lE hp);obtain⟨h1,h2⟩:=TA hp (2*m.length) (Nat.le_refl _);have e:dR l m=dC l (bC l m m.length) (outs l m) (2*m.length):=by
  unfold dR nmD;rw [bR]
 have hof:∀ i,i<2*m.length→aM (eN l m).of i=aM (dR l m).face i:=fun i hi=>by
  rw [e];rcases h1.of i hi with ⟨_,_,h⟩|⟨h,_⟩
  ·exact h
  ·rw [h2 i hi] at h;cases h
 have hall:mS (G9 l m) m.length=mS (faB m (eN l m).of) m.length:=by
  refine QZ fun i hi=>?_;unfold G9 faB;rw [hof (2*i) (by omega),hof (2*i+1) (by omega)]
 rw [hall];unfold zU K2;have k1:(eN l m).faces=(dR l m).many:=(by rw [e];exact h1.many);have k2:(eN l m).outside=(dR l m).out:=(by rw [e];exact h1.out);have k3:(eN l m).ok=!(dR l m).flat:=(by rw [e];exact h1.ok);rw [k1,k2,k3];by_cases hc:(dR l m).many=n
 ·rw [decide_eq_true hc,decide_eq_true (show 1≤(dR l m).many by omega)];cases decide ((dR l m).out=1) <;> cases (dR l m).flat <;> rfl
 ·rw [decide_eq_false hc];simp
end
end Go.Aw
end
