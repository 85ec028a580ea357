/-
  Parts of a proof. No condition.
-/
import Derived.Test.YtjahkcbdecgbhaaGreatQAq
import Derived.Test.YtjahkcbdecgbhaaGreatQAr
import Derived.Test.YtjahkcbdecgbhaaGreatQAz
import Derived.Test.YtjahkcbdecgbhaaGreatQBa
import Derived.Test.YtjahkcbdecgbhaaGreatQBb
set_option linter.unusedSimpArgs false
set_option linter.unusedVariables false
noncomputable section
namespace Go.Aw
set_option maxRecDepth 100000
theorem tX (D:List Dt)(x y:Int):iT D x y=true↔wK (eF (bV D x.toNat)) (eF (bV D y.toNat)):=by
 unfold iT Y0;generalize eF (bV D x.toNat)=u;generalize eF (bV D y.toNat)=v;rw [decide_eq_true_iff];have hu:CA u=true↔lo u:=(by unfold CA lo;simp);have hv:CA v=true↔lo v:=(by unfold CA lo;simp);have hc:crP u v=cr u v:=rfl;unfold RX wK gY;rw [hc];cases h1:CA u <;> cases h2:CA v <;> rw [h1] at hu <;> rw [h2] at hv <;> simp only [Bool.false_eq_true,false_iff,true_iff,if_true,if_false] at hu hv ⊢ <;> simp only [hu,hv,not_true,not_false_iff,true_and,false_and,false_or,or_false,and_false,iff_true,true_iff,iff_false,not_false_eq_true]
 ·split <;> (try split) <;> omega
 ·simp
 ·simp
 ·split <;> (try split) <;> omega
theorem RU {a b c:Pt}(h1:iP a b=true)(h2:iP b c=true):iP a c=true:=by
 simp only [iP,Bool.or_eq_true,Bool.and_eq_true,decide_eq_true_eq] at *;omega
section
variable {l:List Pt}{m:List Ed}{n:Int}
theorem QD (hok:dH l m n=true):∀ {j i:Nat},i<j→j<l.length→iP (tQ l i) (tQ l j)=true
 |0,i,h,_=>by omega
 |j+1,i,h,hj=>by
  simp only [dH,Bool.and_eq_true] at hok;have h1:=fH hok.2.1 hj;simp only [QM,Bool.and_eq_true,Bool.or_eq_true,decide_eq_true_eq] at h1;have h2:iP (tQ l j) (tQ l (j+1))=true:=by
   rcases h1.2 with h|h
   ·omega
   ·exact h
  by_cases e:i=j
  ·rw [e];exact h2
  ·exact RU (QD (by simp only [dH,Bool.and_eq_true];exact hok) (show i<j by omega) (by omega)) h2
theorem J6 (hok:dH l m n=true){i:Nat}(hi:i<m.length):0≤(cX m i).a∧(cX m i).a<(cX m i).b∧(cX m i).b<l.length:=by
 simp only [dH,Bool.and_eq_true] at hok;have h1:=fH hok.2.2.1 hi;simp only [SK,Bool.and_eq_true,decide_eq_true_eq] at h1;exact⟨h1.1.1.1.1.1,h1.1.1.1.1.2,h1.1.1.1.2⟩
theorem zO (hok:dH l m n=true){i:Nat}(hi:i<2*m.length):nz (eF (bV (aV l m m.length) i)):=by
 obtain⟨h1,h2,h3⟩:=J6 hok (i:=i / 2) (by omega);have h4:=QD hok (i:=(cX m (i / 2)).a.toNat) (j:=(cX m (i / 2)).b.toNat) (by omega) (by omega);simp only [iP,Bool.or_eq_true,Bool.and_eq_true,decide_eq_true_eq] at h4;unfold nz;rcases lQ (l:=l) (m:=m) hi with ⟨e,h⟩|⟨e,h⟩
 ·rw [h];simp only [eF,dA,kA];omega
 ·rw [h];simp only [eF,dB,kA];omega
theorem aDZ (hok:dH l m n=true):Ord (aV l m m.length) (fun x=>0≤x∧x<(2*m.length:Nat)) where
 trans:=fun x y z hx hy hz h1 h2=>by
  have nx:=zO hok (i:=x.toNat) (by omega);have ny:=zO hok (i:=y.toNat) (by omega);have nz':=zO hok (i:=z.toNat) (by omega);unfold AE at *;have b1:¬ wK (eF (bV (aV l m m.length) y.toNat)) (eF (bV (aV l m m.length) x.toNat)):=fun h=>(by rw [(tX _ _ _).2 h] at h1;cases h1);have b2:¬ wK (eF (bV (aV l m m.length) z.toNat)) (eF (bV (aV l m m.length) y.toNat)):=fun h=>(by rw [(tX _ _ _).2 h] at h2;cases h2);cases h:iT (aV l m m.length) z x with
  |false=>rfl
  |true=>exact absurd ((tX _ _ _).1 h) (R4 nx ny nz' b1 b2)
 asym:=fun x y hx hy h=>by
  unfold AE;cases h2:iT (aV l m m.length) y x with
  |false=>rfl
  |true=>exact absurd ((tX _ _ _).1 h2) (WM ((tX _ _ _).1 h))
theorem X9 (D:List Dt)(s j:Nat):(QF D s j).Nodup:=by
 unfold QF;unfold List.Nodup;rw [List.pairwise_map];have h:List.Pairwise (fun a b:Nat=>a≠b) ((List.range j).filter fun i=>decide ((bV D i).fr.toNat=s)):=List.Pairwise.filter _ List.nodup_range;exact h.imp fun {a b} h e=>h (Int.ofNat.inj e)
theorem JT (D:List Dt)(s j:Nat):(QF D s j).length≤j:=by
 unfold QF;rw [List.length_map];exact Nat.le_trans (List.length_filter_le _ _) (by rw [List.length_range];exact Nat.le_refl _)
theorem aDL (hok:dH l m n=true){s:Nat}(hs:s<l.length):bK (outs l m) s=qS (aV l m m.length) 1000 (QF (aV l m m.length) s (2*m.length)):=by
 have hM:=(kN hok).1;have hfr:∀ i,i<2*m.length→(bV (aV l m m.length) i).fr.toNat<l.length∧(bV (aV l m m.length) i).no=i:=fun i hi=>by
  have:=lK (l:=l) hM hi;omega
 unfold outs;rw [QS _ _ (by rw [mO];exact Nat.le_refl _),if_pos hs,CE _ hfr]
theorem xB (hok:dH l m n=true){s:Nat}(hs:s<l.length):So (aV l m m.length) (bK (outs l m) s) 0 (bK (outs l m) s).length∧(bK (outs l m) s).Perm (QF (aV l m m.length) s (2*m.length)):=by
 obtain⟨hM,h3,h1,h4,h5,_,_⟩:=kN hok;rw [aDL hok hs];have hl:=JT (aV l m m.length) s (2*m.length);have:=aEc (aDZ hok) (f:=1000) (L:=QF (aV l m m.length) s (2*m.length)) (by omega) (fun i _ hi=>by
  have hm:aB (QF (aV l m m.length) s (2*m.length)) i∈QF (aV l m m.length) s (2*m.length):=by
   rw [dK hi];exact List.getElem_mem hi
  obtain⟨k,hk,e,_⟩:=LU hm;rw [e];omega)
 rw [PH];exact this
theorem iV (hok:dH l m n=true){s:Nat}(hs:s<l.length){x:Int}:x∈bK (outs l m) s↔∃ i:Nat,i<2*m.length∧x=i∧(bV (aV l m m.length) i).fr.toNat=s:=by
 rw [(xB hok hs).2.mem_iff];exact⟨LU,fun ⟨i,h1,h2,h3⟩=>by rw [h2];exact RI h1 h3⟩
theorem DL (hok:dH l m n=true){s:Nat}(hs:s<l.length):(bK (outs l m) s).Nodup:=(xB hok hs).2.symm.nodup (X9 _ _ _)
theorem CU {d:Int}{E:Nat}(h0:0≤d)(h1:d<(2*E:Nat)):0≤eM d∧eM d<(2*E:Nat):=by unfold eM;split <;> omega
theorem IB {d:Int}(h0:0≤d):eM (eM d)=d:=by unfold eM;split <;> split <;> omega
theorem L4 (l:List Pt)(m:List Ed){d:Int}(h0:0≤d)(h1:d<(2*m.length:Nat)):(bV (aV l m m.length) (eM d).toNat).fr=(bV (aV l m m.length) d.toNat).tt∧(bV (aV l m m.length) (eM d).toNat).tt=(bV (aV l m m.length) d.toNat).fr∧eF (bV (aV l m m.length) (eM d).toNat)=w9 (eF (bV (aV l m m.length) d.toNat)):=by
 obtain⟨hd1,hd2⟩:=F9 l m (N:=m.length) (i:=d.toNat / 2) (by omega);unfold eM;by_cases e:d % 2=0
 ·rw [if_pos e,show (d+1).toNat=2*(d.toNat / 2)+1 by omega,show bV (aV l m m.length) d.toNat=dA l m (d.toNat / 2) by rw [← hd1];congr 1;omega,hd2];refine⟨rfl,rfl,?_⟩;simp only [eF,dA,dB,w9,Prod.mk.injEq];omega
 ·rw [if_neg e,show (d - 1).toNat=2*(d.toNat / 2) by omega,show bV (aV l m m.length) d.toNat=dB l m (d.toNat / 2) by rw [← hd2];congr 1;omega,hd1];refine⟨rfl,rfl,?_⟩;simp only [eF,dA,dB,w9,Prod.mk.injEq];omega
theorem JH {x:Int}:∀ {L:List Int} {i:Nat},x∈L→∃ k,k<L.length∧pU x L i=((i+k:Nat):Int)∧aB L k=x
 |[],i,h=>by cases h
 |b::r,i,h=>by
  unfold pU;by_cases e:x=b
  ·rw [if_pos e];exact⟨0,Nat.succ_pos _,rfl,e.symm⟩
  ·rw [if_neg e];rcases List.mem_cons.1 h with h|h
   ·exact absurd h e
   ·obtain⟨k,h1,h2,h3⟩:=JH (L:=r) (i:=i+1) h;refine⟨k+1,by simpa using h1,by rw [h2];congr 1;omega,?_⟩;rw [← h3];rfl
theorem sE (hok:dH l m n=true){d:Int}(h0:0≤d)(h1:d<(2*m.length:Nat)):∃ (s a:Nat),s=(bV (aV l m m.length) d.toNat).tt.toNat∧s<l.length∧Q2 (aV l m m.length) (outs l m) d=bK (outs l m) s∧a<(bK (outs l m) s).length ∧
  pU (eM d) (bK (outs l m) s) 0=a∧aB (bK (outs l m) s) a=eM d∧BF (aV l m m.length) (outs l m) d=aB (bK (outs l m) s) (if a=0 then (bK (outs l m) s).length - 1 else a - 1):=by
 obtain⟨hM,h3,h5,h4,h6,_,_⟩:=kN hok;have hf:=lK (l:=l) hM (i:=d.toNat) (by omega);have hb:=CU (E:=m.length) h0 h1;have hbd:=L4 l m h0 h1;refine⟨(bV (aV l m m.length) d.toNat).tt.toNat,?_⟩;have hs:(bV (aV l m m.length) d.toNat).tt.toNat<l.length:=(by omega);have hmem:eM d∈bK (outs l m) (bV (aV l m m.length) d.toNat).tt.toNat:=(iV hok hs).2 ⟨(eM d).toNat,by omega,by omega,by rw [hbd.1]⟩;obtain⟨k,k1,k2,k3⟩:=JH (i:=0) hmem;rw [Nat.zero_add] at k2;refine⟨k,rfl,hs,rfl,k1,k2,k3,?_⟩;unfold BF Q2;rw [k2];congr 1;split
 ·rename_i e;rw [e];have:((0:Nat):Int) - 1+((bK (outs l m) (bV (aV l m m.length) d.toNat).tt.toNat).length:Int)=(((bK (outs l m) (bV (aV l m m.length) d.toNat).tt.toNat).length - 1:Nat):Int):=(by omega);rw [this,Int.emod_eq_of_lt (by omega) (by omega)];rfl
 ·have:(k:Int) - 1+((bK (outs l m) (bV (aV l m m.length) d.toNat).tt.toNat).length:Int)=((k - 1:Nat):Int)+(bK (outs l m) (bV (aV l m m.length) d.toNat).tt.toNat).length:=(by omega);rw [this,Int.add_emod_right,Int.emod_eq_of_lt (by omega) (by omega)];rfl
theorem at_mem {L:List Int}{i:Nat}(h:i<L.length):aB L i∈L:=by rw [dK h];exact List.getElem_mem h
theorem OS (hok:dH l m n=true){d:Int}(h0:0≤d)(h1:d<(2*m.length:Nat)):0≤BF (aV l m m.length) (outs l m) d∧BF (aV l m m.length) (outs l m) d<(2*m.length:Nat)∧(bV (aV l m m.length) (BF (aV l m m.length) (outs l m) d).toNat).fr.toNat=(bV (aV l m m.length) d.toNat).tt.toNat:=by
 obtain⟨s,a,e1,hs,e2,ha,e3,e4,e5⟩:=sE hok h0 h1;rw [e5];have hi:(if a=0 then (bK (outs l m) s).length - 1 else a - 1)<(bK (outs l m) s).length:=(by split <;> omega);obtain⟨i,i1,i2,i3⟩:=(iV hok hs).1 (at_mem hi);rw [i2];exact⟨by omega,by omega,by rw [← e1];exact i3⟩
theorem MN {L:List Int}(h:L.Nodup){i j:Nat}(hi:i<L.length)(hj:j<L.length)(e:aB L i=aB L j):i=j:=by
 rw [dK hi,dK hj] at e;exact (List.getElem_inj h).1 e
theorem aG8 (hok:dH l m n=true){d d':Int}(h0:0≤d)(h1:d<(2*m.length:Nat))(h0':0≤d')(h1':d'<(2*m.length:Nat))(e:BF (aV l m m.length) (outs l m) d=BF (aV l m m.length) (outs l m) d'):d=d':=by
 have hn:=(OS hok h0 h1).2.2;have hn':=(OS hok h0' h1').2.2;obtain⟨s,a,e1,hs,e2,ha,e3,e4,e5⟩:=sE hok h0 h1;obtain⟨s',a',e1',hs',e2',ha',e3',e4',e5'⟩:=sE hok h0' h1';have hss:s=s':=(by rw [e1,e1',← hn,← hn',e]);subst hss;rw [e5,e5'] at e;have:=MN (DL hok hs) (by split <;> omega) (by split <;> omega) e;have haa:a=a':=by
  split at this <;> split at this <;> omega
 have hb:eM d=eM d':=(by rw [← e4,← e4',haa]);rw [← IB h0,hb,IB h0']
theorem aAN:∀ (n:Nat) (f:Nat→Nat),(∀ i,i≤n→f i<n)→∃ i j,i<j∧j≤n∧f i=f j
 |0,f,h=>by have:=h 0 (Nat.le_refl 0);omega
 |n+1,f,h=>by
  by_cases hc:∃ i,i≤n∧f i=f (n+1)
  ·obtain⟨i,h1,h2⟩:=hc;exact⟨i,n+1,by omega,Nat.le_refl _,h2⟩
  ·have hne:∀ i,i≤n→f i≠f (n+1):=fun i hi e=>hc ⟨i,hi,e⟩;obtain⟨i,j,h1,h2,h3⟩:=aAN n (fun i=>if f (n+1)<f i then f i - 1 else f i) (fun i hi=>by
    have a1:=h i (by omega);have a2:=h (n+1) (Nat.le_refl _);have a3:=hne i hi;show (if f (n+1)<f i then f i - 1 else f i)<n;split <;> omega)
   refine⟨i,j,h1,by omega,?_⟩;have a1:=hne i (by omega);have a2:=hne j h2;have h3:(if f (n+1)<f i then f i - 1 else f i)=(if f (n+1)<f j then f j - 1 else f j):=h3;split at h3 <;> split at h3 <;> omega
theorem yE (hok:dH l m n=true){d:Int}(h0:0≤d)(h1:d<(2*m.length:Nat)):∀ i,0≤oN (aV l m m.length) (outs l m) d i∧oN (aV l m m.length) (outs l m) d i<(2*m.length:Nat)
 |0=>⟨h0,h1⟩
 |i+1=>by
  have ih:=yE hok h0 h1 i;have:=OS hok ih.1 ih.2;exact⟨this.1,this.2.1⟩
theorem VS (hok:dH l m n=true){d:Int}(h0:0≤d)(h1:d<(2*m.length:Nat)):∀ (i k:Nat),oN (aV l m m.length) (outs l m) d i=oN (aV l m m.length) (outs l m) d (i+k)→d=oN (aV l m m.length) (outs l m) d k
 |0,k,h=>by rw [Nat.zero_add] at h;exact h
 |i+1,k,h=>by
  refine VS hok h0 h1 i k ?_;have a:=yE hok h0 h1 i;have b:=yE hok h0 h1 (i+k);refine aG8 hok a.1 a.2 b.1 b.2 ?_;rw [show i+1+k=i+k+1 by omega] at h;exact h
theorem PG (D:List Dt)(ls:List (List Int))(d:Int):∀ (k i N:Nat),i≤N→N<i+k→oN D ls d N=d→oN D ls d (F4 D ls d k i)=d
 |0,i,N,h1,h2,_=>by omega
 |k+1,i,N,h1,h2,h3=>by
  unfold F4;split
  ·assumption
  ·rename_i h;refine PG D ls d k (i+1) N ?_ (by omega) h3;rcases Nat.lt_or_ge i N with h4|h4
   ·exact h4
   ·exact absurd (by rw [show i=N by omega];exact h3) h
theorem J9 (hok:dH l m n=true):aAA (aV l m m.length) (outs l m)=true:=by
 refine List.all_eq_true.2 fun d hd=>decide_eq_true ?_;have hd:=List.mem_range.1 hd;rw [bM] at hd;obtain⟨i,j,h1,h2,h3⟩:=aAN (2*m.length) (fun i=>(oN (aV l m m.length) (outs l m) d i).toNat) (fun i _=>by
  have:=yE hok (d:=d) (by omega) (by omega) i;show (oN (aV l m m.length) (outs l m) d i).toNat<2*m.length;omega)
 have a:=yE hok (d:=(d:Int)) (by omega) (by omega) i;have b:=yE hok (d:=(d:Int)) (by omega) (by omega) j;have e:=VS hok (d:=(d:Int)) (by omega) (by omega) i (j - i) (by rw [show i+(j - i)=j by omega];have h3:(oN (aV l m m.length) (outs l m) d i).toNat=(oN (aV l m m.length) (outs l m) d j).toNat:=h3;omega);unfold n9;rw [bM];exact PG _ _ _ _ 1 (j - i) (by omega) (by omega) e.symm
theorem aHS (hok:dH l m n=true):GV l (aV l m m.length) (outs l m)=true:=by
 obtain⟨hM,h3,h5,h4,h6,_,_⟩:=kN hok;simp only [GV,Bool.and_eq_true,decide_eq_true_eq];refine⟨⟨⟨⟨List.all_eq_true.2 fun p hp=>?_,List.all_eq_true.2 fun e he=>?_⟩,by rw [bM];omega⟩,eL l m⟩,by omega⟩
 ·obtain⟨i,hi,rfl⟩:=List.getElem_of_mem hp;have:=qA hok hi;rw [J0 hi] at this;unfold wide;simp only [Bool.and_eq_true,decide_eq_true_eq];omega
 ·obtain⟨i,hi,rfl⟩:=List.getElem_of_mem he;rw [← oA hi];rw [bM] at hi;have:=lK (l:=l) hM hi;simp only [Bool.and_eq_true,decide_eq_true_eq];omega
theorem KW (hok:dH l m n=true):uL l (aV l m m.length) (outs l m)=true:=by
 obtain⟨hM,h3,h5,h4,h6,_,_⟩:=kN hok;unfold uL;rw [aHS hok,Bool.true_and];refine List.all_eq_true.2 fun i hi=>?_;have hi:=List.mem_range.1 hi;rw [bM] at hi;have hn:=OS hok (d:=(i:Int)) (by omega) (by omega);obtain⟨s,a,e1,hs,e2,ha,e3,e4,e5⟩:=sE hok (d:=(i:Int)) (by omega) (by omega);have hf:=lK (l:=l) hM (i:=i) hi;have hlen:(bK (outs l m) s).length≤1000:=by
  have h7:=(xB hok hs).2.length_eq;have h8:=JT (aV l m m.length) s (2*m.length);omega
 simp only [Bool.and_eq_true,decide_eq_true_eq];refine⟨?_,hn.1,by rw [bM];omega⟩;unfold nxB;rw [e2,e3,bM,eL];simp only [Bool.and_eq_true,decide_eq_true_eq,Int.toNat_natCast];omega
theorem aHd (hok:dH l m n=true):XI (aV l m m.length) (outs l m)=true:=by
 obtain⟨hM,h3,h5,h4,h6,_,_⟩:=kN hok;refine List.all_eq_true.2 fun L hL=>?_;obtain⟨s,hs,rfl⟩:=List.getElem_of_mem hL;have hs':=hs;rw [eL] at hs';have e:(outs l m)[s]=bK (outs l m) s:=by
  unfold bK;rw [List.getD_eq_getElem?_getD,List.getElem?_eq_getElem hs];rfl
 rw [e];have h7:=(xB hok hs').2.length_eq;have h8:=JT (aV l m m.length) s (2*m.length);have h9:=TI hok hs';simp only [Bool.and_eq_true,decide_eq_true_eq];refine⟨⟨by omega,by omega⟩,List.all_eq_true.2 fun x hx=>?_⟩;obtain⟨i,i1,i2,_⟩:=(iV hok hs').1 hx;simp only [Bool.and_eq_true,decide_eq_true_eq,bM];omega
end
end Go.Aw
end

noncomputable section
namespace Go.Aw
set_option maxRecDepth 100000
set_option maxHeartbeats 2000000
theorem IL (n:Nat):∀ {h:Heap},fQ h=true→fQ (lT n h)=true
 |[],_=>rfl
 |(k,o)::r,h=>by
  simp only [fQ,Bool.and_eq_true] at h;simp only [lT,fQ,Bool.and_eq_true];refine⟨?_,IL n h.2⟩;cases o with
  |cells wr g sz cs=>rfl
  |_=>exact h.1
def aGN:Nat × XF:=(69,fun args h nx K=>∃ l m n p q,args=[mapA p q n]∧jQ aZ h p l∧jQ aY h q m∧(l.length≤1000∧m.length≤1000) ∧
 ((cN l m n=true∧K (.tuple #[.pointer (some ⟨nx+7,0,none⟩),iv 0]) (app (lT nx (YU l m (oL p) (oL q) n)) (eG h)) (nx+2004))∨(cN l m n=false∧K (.tuple #[.pointer none,iv 1]) h nx)))
theorem aIy:dM Go.Proofs.Tryz.prog aGN.1 aGN.2:=by
 refine (jX (S:=fun args0 h0 n0 v1 h1 j=>∃ l m n c1 c2,(l.length≤1000∧m.length≤1000)∧args0=[aD l.length m.length c1 c2 n]∧h0=aH aZ aY l m∧n0=2 ∧
  ((cN l m n=true∧v1=.tuple #[.pointer (some ⟨7,0,none⟩),iv 0]∧h1=YU l m c1 c2 n∧j=2004)∨(cN l m n=false∧v1=.tuple #[.pointer none,iv 1]∧h1=[]∧j=0))) (aO (xl:=[VF,aDv,TK,U9,VI,(155,aFW)]) (.cons aJ3 (.cons aKk (.cons aF8 (.cons aIS (.cons aIm (.cons aIp .nil))))))) ?_).mono ?_ ?_
 ·rintro args0 h0 n0 v1 h1 j ⟨l,m,n,c1,c2,⟨hl,hm⟩,rfl,rfl,rfl,hc⟩;have hw:=w69 l m n c1 c2 hl hm fun hok=>⟨KW hok,J9 hok,aHd hok,(kN hok).2.2.1⟩;rcases hc with ⟨ho,rfl,rfl,rfl⟩|⟨ho,rfl,rfl,rfl⟩
  ·refine⟨IL 3 vK,_,hw,fun v h nx e=>?_⟩;rcases e with ⟨_,e⟩|⟨e,_⟩
   ·exact e
   ·rw [ho] at e;cases e
  ·refine⟨rfl,_,hw,fun v h nx e=>?_⟩;rcases e with ⟨e,_⟩|⟨_,rfl⟩
   ·rw [ho] at e;cases e
   ·exact mI rfl
 ·rintro args h nx K ⟨l,m,n,p,q,rfl,hl,hm,hlm,hx⟩;rcases hx with ⟨ho,hx⟩|⟨ho,hx⟩
  ·refine⟨_,_,2,_,_,_,⟨l,m,n,oL p,oL q,hlm,rfl,rfl,rfl,.inl ⟨ho,rfl,rfl,rfl⟩⟩,LH aZ aY rfl hl hm,?_⟩;have e:iB (fun k=>nx+k) (.tuple #[.pointer (some ⟨7,0,none⟩),iv 0])=.tuple #[.pointer (some ⟨nx+7,0,none⟩),iv 0]:=(by simp [iB,tr,dS,bS,dT,lB];rfl);rw [e];exact hx
  ·refine⟨_,_,2,_,[],0,⟨l,m,n,oL p,oL q,hlm,rfl,rfl,rfl,.inr ⟨ho,rfl,rfl,rfl⟩⟩,LH aZ aY rfl hl hm,?_⟩;simp only [qW,w8,lT,nQ,Nat.add_zero];rw [r5 rfl];exact hx
 ·rintro args h nx K ⟨l,m,n,p,q,rfl,hl,hm,hlm,hx⟩;rcases hx with ⟨ho,hx⟩|⟨ho,hx⟩
  ·exact⟨_,_,_,hx,fun K' hk=>⟨l,m,n,p,q,rfl,hl,hm,hlm,.inl ⟨ho,hk⟩⟩⟩
  ·exact⟨_,_,_,hx,fun K' hk=>⟨l,m,n,p,q,rfl,hl,hm,hlm,.inr ⟨ho,hk⟩⟩⟩
def ckP (l:List Pt)(m:List Ed)(n:Int):List Value→Option (Bool × Value)
 |[]=>some (decide (l.length≤1000)&&decide (m.length≤1000),iv (if cN l m n=true then 0 else 1))
 |_=>none
def aEe:Nat × XF:=(17,mX aZ aY ckP)
theorem aKb:dM Go.Proofs.Tryz.prog aEe.1 aEe.2:=PJ aZ aY (aO (xl:=[aGN]) (.cons aIy .nil)) fun l m n r v hs=>by
 have:r=[]∧l.length≤1000∧m.length≤1000∧v=iv (if cN l m n=true then 0 else 1):=by
  unfold ckP at hs;split at hs
  ·injection hs with hs;injection hs with h1 h2;simp only [Bool.and_eq_true,decide_eq_true_eq] at h1;exact⟨rfl,h1.1,h1.2,h2.symm⟩
  ·cases hs
 obtain⟨rfl,hl,hm,rfl⟩:=this;clear hs;refine⟨rfl,rfl,fun c1 c2=>?_⟩;(conv=>whnf);refine⟨l,m,n,.slice (some ⟨0,0,none⟩) l.length c1,.slice (some ⟨1,0,none⟩) m.length c2,rfl,aM aZ rfl,aM aY rfl,⟨hl,hm⟩,?_⟩;cases ho:cN l m n with
 |true =>
  refine .inl ⟨rfl,?_⟩;(conv=>whnf);rfl
 |false =>
  refine .inr ⟨rfl,?_⟩;(conv=>whnf);rfl
end Go.Aw
end

noncomputable section
namespace Go.Aw
set_option maxRecDepth 100000
def rR (p q:Pt):V2:=(p.1 - q.1,p.2 - q.2)
theorem GB (v a b:Pt):bE v a b=cr (rR a v) (rR b v):=rfl
theorem sG {a b:Pt}(h:iP a b=true):j3 a b = -1:=by
 rw [yC] at h;have h:=of_decide_eq_true h;rcases xP a b with e|e|e <;> omega
theorem N6 (a:Pt):j3 a a=0:=by
 unfold j3 YO gY;simp
theorem tK {s:Sg}(h:iP s.1 s.2=true):bU s=s:=by
 have:=sG h;unfold bU;rw [this];simp
theorem aCb (a b:Pt):bE a b a=0:=by unfold bE;simp
theorem aDK (a b:Pt):bE a b b=0:=by unfold bE;rw [Int.mul_comm];omega
theorem aBJ {s t:Sg}(h1:eI s=true)(h2:eI t=true)(l1:iP s.1 s.2=true)(l2:iP t.1 t.2=true)(e:s.1=t.1)(hc:bE s.1 s.2 t.2=0):jJ s t=4:=by
 unfold jJ;rw [if_pos ⟨h1,h2⟩];unfold qL bB;rw [hc,← e,aCb];rw [if_pos ⟨rfl,rfl⟩];unfold N3 BG;rw [tK l1,tK l2,← e,N6,if_neg (by omega)];split
 ·rw [e,sG l2];rfl
 ·rw [sG l1];rfl
theorem WB {s t:Sg}(h1:eI s=true)(h2:eI t=true)(l1:iP s.1 s.2=true)(l2:iP t.1 t.2=true)(e:s.2=t.2)(hc:bE s.1 s.2 t.1=0):jJ s t=4:=by
 unfold jJ;rw [if_pos ⟨h1,h2⟩];unfold qL bB;rw [hc,← e,aDK];rw [if_pos ⟨rfl,rfl⟩];unfold N3 BG;rw [tK l1,tK l2,show j3 t.2 s.2=0 by rw [← e];exact N6 _,if_neg (c:=(0:Int)<0) (by omega)];split
 ·rw [e,sG l2];rfl
 ·rw [sG l1];rfl
section
variable {l:List Pt}{m:List Ed}{n:Int}
theorem RY (hok:dH l m n=true){i:Nat}(hi:i<m.length):eI (dO l m i)=true∧iP (dO l m i).1 (dO l m i).2=true:=by
 obtain⟨h1,h2,h3⟩:=J6 hok hi;have h4:=QD hok (i:=(cX m i).a.toNat) (j:=(cX m i).b.toNat) (by omega) (by omega);have pa:=qA hok (i:=(cX m i).a.toNat) (by omega);have pb:=qA hok (i:=(cX m i).b.toNat) (by omega);refine⟨?_,h4⟩;unfold eI cG;have hne:j5 (dO l m i).1 (dO l m i).2=false:=by
  rw [iM];intro e;have h4:iP (dO l m i).1 (dO l m i).2=true:=h4;rw [e] at h4;simp [iP] at h4
 rw [hne];simp only [Bool.and_eq_true,decide_eq_true_eq,Bool.not_false,and_true];simp only [dO,kA];omega
theorem aGM (hp:mE l m n=true){i k:Nat}(hi:i<m.length)(hk:k<m.length)(hne:i≠k):jJ (dO l m i) (dO l m k)≠4∨jJ (dO l m k) (dO l m i)≠4:=by
 simp only [mE,Bool.and_eq_true] at hp;rcases Nat.lt_or_ge k i with h|h
 ·have:=fH (f:=fun k=>O8 l m i k) (fH (f:=fun i=>m8 (fun k=>O8 l m i k) i) hp.2 hi) h;simp only [O8,Bool.or_eq_true,decide_eq_true_eq] at this;exact .inl (by omega)
 ·have:=fH (f:=fun i=>O8 l m k i) (fH (f:=fun i=>m8 (fun k=>O8 l m i k) i) hp.2 hk) (show i<k by omega);simp only [O8,Bool.or_eq_true,decide_eq_true_eq] at this;exact .inr (by omega)
theorem MB (l:List Pt)(m:List Ed){i:Nat}(hi:i<2*m.length):eF (bV (aV l m m.length) i)=rR (kA l (bV (aV l m m.length) i).tt) (kA l (bV (aV l m m.length) i).fr):=by
 rcases lQ (l:=l) (m:=m) hi with ⟨e,h⟩|⟨e,h⟩
 ·rw [h];rfl
 ·rw [h];rfl
theorem V7 {a b:V2}(h:ray a b):(0<a.1∨a.1=0∧0<a.2)→¬ (b.1<0∨b.1=0∧b.2<0):=by
 obtain⟨h1,h2⟩:=h;unfold cr at h1;unfold dt at h2;rintro h3 h4;rcases h3 with h3|⟨h3,h3'⟩
 ·rcases h4 with h4|⟨h4,h4'⟩
  ·-- b=(b1/a1) a,so that both products are negative
   have k1:a.1*b.1<0:=Int.mul_neg_of_pos_of_neg h3 h4;have k2:a.1*(a.2*b.2)=a.2*a.2*b.1:=by
    have:a.1*b.2=a.2*b.1:=(by omega);rw [Int.mul_left_comm,this,← Int.mul_assoc]
   have k3:a.2*a.2*b.1≤0:=Int.mul_nonpos_of_nonneg_of_nonpos (sq0 a.2) (Int.le_of_lt h4);have k4:0<a.2*b.2:=(by omega);have k5:=Int.mul_pos h3 k4;omega
  ·rw [h4] at h1 h2;have:a.1*b.2<0:=Int.mul_neg_of_pos_of_neg h3 h4';simp only [Int.mul_zero] at h1;omega
 ·rw [h3] at h1 h2;rcases h4 with h4|⟨h4,h4'⟩
  ·have:a.2*b.1<0:=Int.mul_neg_of_pos_of_neg h3' h4;simp only [Int.zero_mul] at h1;omega
  ·have:a.2*b.2<0:=Int.mul_neg_of_pos_of_neg h3' h4';simp only [Int.zero_mul] at h2;omega
theorem TD (hok:dH l m n=true){i:Nat}(hi:i<2*m.length):(i % 2=0→0<(eF (bV (aV l m m.length) i)).1∨(eF (bV (aV l m m.length) i)).1=0∧0<(eF (bV (aV l m m.length) i)).2)∧(i % 2=1→(eF (bV (aV l m m.length) i)).1<0∨(eF (bV (aV l m m.length) i)).1=0∧(eF (bV (aV l m m.length) i)).2<0):=by
 have h4:=(RY hok (i:=i / 2) (by omega)).2;unfold iP at h4;simp only [Bool.or_eq_true,Bool.and_eq_true,decide_eq_true_eq] at h4;simp only [dO] at h4;rcases lQ (l:=l) (m:=m) hi with ⟨e,h⟩|⟨e,h⟩
 ·rw [h];simp only [eF,dA];omega
 ·rw [h];simp only [eF,dB];omega
theorem JS {a b:V2}(h:ray a b):ray b a:=by
 obtain⟨h1,h2⟩:=h;refine⟨by rw [eN];omega,?_⟩;unfold dt at *;rw [Int.mul_comm b.1,Int.mul_comm b.2];exact h2
theorem aDO (hp:mE l m n=true){i k:Nat}(hi:i<2*m.length)(hk:k<2*m.length)(hf:(bV (aV l m m.length) i).fr=(bV (aV l m m.length) k).fr)(hr:ray (eF (bV (aV l m m.length) i)) (eF (bV (aV l m m.length) k))):i=k:=by
 have hok:=nW hp;have x1:=TD hok hi;have x2:=TD hok hk;have r1:=V7 hr;have r2:=V7 (JS hr);obtain⟨o1,o2⟩:=RY hok (i:=i / 2) (by omega);obtain⟨o3,o4⟩:=RY hok (i:=k / 2) (by omega);have par:i % 2=k % 2:=by
  rcases Nat.mod_two_eq_zero_or_one i with e|e <;> rcases Nat.mod_two_eq_zero_or_one k with e'|e'
  ·omega
  ·exact absurd (x2.2 e') (r1 (x1.1 e))
  ·exact absurd (x1.2 e) (r2 (x2.1 e'))
  ·omega
 by_cases he:i / 2=k / 2
 ·omega
 exfalso;have hm:=aGM hp (i:=i / 2) (k:=k / 2) (by omega) (by omega) he;have d1:=MB l m hi;have d2:=MB l m hk;rcases lQ (l:=l) (m:=m) hi with ⟨e,h⟩|⟨e,h⟩ <;> rcases lQ (l:=l) (m:=m) hk with ⟨e',h'⟩|⟨e',h'⟩
 ·rw [h,h'] at hf hr;have hv:(dO l m (i / 2)).1=(dO l m (k / 2)).1:=(by show kA l _=kA l _;exact congrArg (kA l) hf);have hc:bE (dO l m (i / 2)).1 (dO l m (i / 2)).2 (dO l m (k / 2)).2=0:=by
   rw [GB];have:=hr.1;rw [show rR (dO l m (k / 2)).2 (dO l m (i / 2)).1=eF (dA l m (k / 2)) by rw [hv];rfl];exact this
  have hc':bE (dO l m (k / 2)).1 (dO l m (k / 2)).2 (dO l m (i / 2)).2=0:=by
   rw [GB];have:=(JS hr).1;rw [show rR (dO l m (i / 2)).2 (dO l m (k / 2)).1=eF (dA l m (i / 2)) by rw [← hv];rfl];exact this
  rcases hm with hm|hm
  ·exact hm (aBJ o1 o3 o2 o4 hv hc)
  ·exact hm (aBJ o3 o1 o4 o2 hv.symm hc')
 ·omega
 ·omega
 ·rw [h,h'] at hf hr;have hv:(dO l m (i / 2)).2=(dO l m (k / 2)).2:=(by show kA l _=kA l _;exact congrArg (kA l) hf);have key:∀ (v a b:Pt),cr (rR a v) (rR b v)=0→bE a v b=0:=fun v a b hh=>by
   unfold cr rR at hh;unfold bE;simp only [Int.mul_sub,Int.sub_mul] at *;rw [Int.mul_comm v.2 v.1,Int.mul_comm v.2 b.1,Int.mul_comm v.2 a.1] at *;rw [Int.mul_comm a.2 b.1] at *;rw [Int.mul_comm a.2 v.1] at *;rw [Int.mul_comm a.2 a.1] at *;omega
  have hc:bE (dO l m (i / 2)).1 (dO l m (i / 2)).2 (dO l m (k / 2)).1=0:=by
   refine key _ _ _ ?_;have:=hr.1;rw [show rR (dO l m (k / 2)).1 (dO l m (i / 2)).2=eF (dB l m (k / 2)) by rw [hv];rfl];exact this
  have hc':bE (dO l m (k / 2)).1 (dO l m (k / 2)).2 (dO l m (i / 2)).1=0:=by
   refine key _ _ _ ?_;have:=(JS hr).1;rw [show rR (dO l m (i / 2)).1 (dO l m (k / 2)).2=eF (dB l m (i / 2)) by rw [← hv];rfl];exact this
  rcases hm with hm|hm
  ·exact hm (WB o1 o3 o2 o4 hv hc)
  ·exact hm (WB o3 o1 o4 o2 hv.symm hc')
end
theorem NR (v u w x:Pt):A2 v u w x=true↔HC (rR u v) (rR w v) (rR x v):=by
 have h1:∀ a b,NP v a b=rk (rR a v) (rR b v):=fun a b=>rfl;unfold A2 HC;rw [h1,h1,GB];split
 ·rename_i e;rw [decide_eq_true_iff];constructor
  ·exact fun h=>.inr ⟨e,h⟩
  ·rintro (h|⟨_,h⟩)
   ·omega
   ·exact h
 ·rename_i e;rw [decide_eq_true_iff];constructor
  ·exact fun h=>.inl h
  ·rintro (h|⟨h,_⟩)
   ·exact h
   ·exact absurd h e
section
variable {l:List Pt}{m:List Ed}{n:Int}
abbrev GZ (l:List Pt)(m:List Ed)(x:Int):V2:=eF (bV (aV l m m.length) x.toNat)
theorem Y4 (hp:mE l m n=true){s:Nat}(hs:s<l.length){i j:Nat}(hij:i<j)(hj:j<(bK (outs l m) s).length):wK (GZ l m (aB (bK (outs l m) s) i)) (GZ l m (aB (bK (outs l m) s) j)):=by
 have hok:=nW hp;have hso:=(xB hok hs).1 i j (Nat.zero_le _) hij hj;obtain⟨a,a1,a2,a3⟩:=(iV hok hs).1 (at_mem (show i<(bK (outs l m) s).length by omega));obtain⟨b,b1,b2,b3⟩:=(iV hok hs).1 (at_mem hj);have hne:a≠b:=fun e=>by
  have:=MN (DL hok hs) (show i<_ by omega) hj (by rw [a2,b2,e]);omega
 have hM:=(kN hok).1;have fa:=lK (l:=l) hM a1;have fb:=lK (l:=l) hM b1;have na:=zO hok a1;have nb:=zO hok b1;unfold AE at hso;rw [a2,b2] at hso ⊢;show wK (eF (bV (aV l m m.length) ((a:Int)).toNat)) (eF (bV (aV l m m.length) ((b:Int)).toNat));rw [Int.toNat_natCast,Int.toNat_natCast];rcases XY na nb (fun hr=>hne (aDO hp a1 b1 (by omega) hr)) with h|h
 ·exact h
 ·exfalso;rw [(tX _ _ _).2 (by rw [Int.toNat_natCast,Int.toNat_natCast];exact h)] at hso;cases hso
theorem aCc (hp:mE l m n=true){d:Int}(h0:0≤d)(h1:d<(2*m.length:Nat)){x:Nat}(hx:x<2*m.length)(hfx:(bV (aV l m m.length) x).fr=(bV (aV l m m.length) d.toNat).tt)(hne:(x:Int)≠BF (aV l m m.length) (outs l m) d) :
  HC (GZ l m (eM d)) (GZ l m (BF (aV l m m.length) (outs l m) d)) (GZ l m x):=by
 have hok:=nW hp;obtain⟨s,a,e1,hs,e2,ha,e3,e4,e5⟩:=sE hok h0 h1;have hb:=CU (E:=m.length) h0 h1;have hmem:(x:Int)∈bK (outs l m) s:=(iV hok hs).2 ⟨x,hx,rfl,by rw [hfx,e1]⟩;obtain⟨q,hq,hqe⟩:=List.getElem_of_mem hmem;rw [← dK hq] at hqe;have hord:∀ {i j:Nat},i<j→j<(bK (outs l m) s).length→wK (GZ l m (aB (bK (outs l m) s) i)) (GZ l m (aB (bK (outs l m) s) j)):=fun hij hj=>Y4 hp hs hij hj;have hnz:∀ {i:Nat},i<(bK (outs l m) s).length→nz (GZ l m (aB (bK (outs l m) s) i)):=fun {i} hi=>by
  obtain⟨c,c1,c2,_⟩:=(iV hok hs).1 (at_mem hi);rw [c2];show nz (eF (bV (aV l m m.length) ((c:Int)).toNat));rw [Int.toNat_natCast];exact zO hok c1
 rw [e5] at hne ⊢;rw [← e4,← hqe];rw [← hqe] at hne;generalize bK (outs l m) s=L at *;by_cases ha0:a=0
 ·rw [if_pos ha0] at hne ⊢;have hqn:q≠L.length - 1:=fun e=>hne (by rw [e]);subst ha0;by_cases hq0:q=0
  ·rw [hq0];exact I3 (hnz ha) (hnz (by omega)) (.inl (hord (by omega) (by omega)))
  ·exact three (hnz ha) (hnz (by omega)) (hnz hq) (.inl ⟨hord (by omega) hq,hord (by omega) (by omega),hord (by omega) (by omega)⟩)
 ·rw [if_neg ha0] at hne ⊢;have hqn:q≠a - 1:=fun e=>hne (by rw [e]);by_cases hqa:q=a
  ·rw [hqa];exact I3 (hnz ha) (hnz (by omega)) (.inr (hord (by omega) ha))
  ·rcases Nat.lt_or_ge q a with h|h
   ·exact three (hnz ha) (hnz (by omega)) (hnz hq) (.inr (.inr ⟨hord (by omega) (by omega),hord (by omega) ha,hord (by omega) ha⟩))
   ·exact three (hnz ha) (hnz (by omega)) (hnz hq) (.inr (.inl ⟨hord (by omega) ha,hord (by omega) hq,hord (by omega) hq⟩))
theorem C8 (l:List Pt)(m:List Ed){d:Int}(h0:0≤d)(h1:d<(2*m.length:Nat)):kZ m d=(bV (aV l m m.length) d.toNat).fr∧wQ m d=(bV (aV l m m.length) d.toNat).tt:=by
 have key:∀ {e:Int},0≤e→e<(2*m.length:Nat)→kZ m e=(bV (aV l m m.length) e.toNat).fr:=fun {e} he0 he1=>by
  unfold kZ;rcases lQ (l:=l) (m:=m) (N:=m.length) (i:=e.toNat) (by omega) with ⟨x,h⟩|⟨x,h⟩
  ·rw [h,if_pos (by omega),show (e / 2).toNat=e.toNat / 2 by omega];rfl
  ·rw [h,if_neg (by omega),show (e / 2).toNat=e.toNat / 2 by omega];rfl
 refine⟨key h0 h1,?_⟩;have hb:=CU (E:=m.length) h0 h1;unfold wQ;rw [show d+1 - 2*(d % 2)=eM d by unfold eM;split <;> omega,key hb.1 hb.2];exact (L4 l m h0 h1).1
theorem Z6 (hp:mE l m n=true){d:Int}(h0:0≤d)(h1:d<(2*m.length:Nat)){k:List Bool}(hk:∀ i,i<2*m.length→dF k i=true):qT l m k d (2*m.length)=BF (aV l m m.length) (outs l m) d:=by
 have hok:=nW hp;have hM:=(kN hok).1;have hn:=OS hok h0 h1;have hfd:=C8 l m h0 h1;have hbd:=L4 l m h0 h1;have hb:=CU (E:=m.length) h0 h1;have hfr:=lK (l:=l) hM (i:=d.toNat) (by omega);obtain⟨Y,hY⟩:∃ Y:Nat,BF (aV l m m.length) (outs l m) d=Y:=⟨(BF (aV l m m.length) (outs l m) d).toNat,by omega⟩;have hYl:Y<2*m.length:=(by omega);have hYf:=lK (l:=l) hM hYl;have hfY:(bV (aV l m m.length) Y).fr=(bV (aV l m m.length) d.toNat).tt:=by
  have:=hn.2.2;rw [hY,Int.toNat_natCast] at this;omega
 -- a dart's direction from the point
 have hv:∀ {x:Nat},x<2*m.length→(bV (aV l m m.length) x).fr=(bV (aV l m m.length) d.toNat).tt→rR (kA l (wQ m x)) (kA l (wQ m d))=GZ l m x:=fun {x} hx hf=>by
  have e:=C8 l m (d:=(x:Int)) (by omega) (by omega);have e2:=MB l m hx;rw [hf] at e2;show _=eF (bV (aV l m m.length) ((x:Int)).toNat);rw [Int.toNat_natCast,e2,e.2,hfd.2,Int.toNat_natCast]
 have hu:rR (kA l (kZ m d)) (kA l (wQ m d))=GZ l m (eM d):=by
  have e2:=MB l m (i:=(eM d).toNat) (by omega);rw [hbd.1,hbd.2.1] at e2;rw [hfd.1,hfd.2];exact e2.symm
 have hc:∀ {x:Nat},x<2*m.length→(kZ m x=wQ m d↔(bV (aV l m m.length) x).fr=(bV (aV l m m.length) d.toNat).tt):=fun {x} hx=>by
  rw [(C8 l m (d:=(x:Int)) (by omega) (by omega)).1,hfd.2,Int.toNat_natCast]
 have hsoon:∀ {x:Nat},x<2*m.length→(bV (aV l m m.length) x).fr=(bV (aV l m m.length) d.toNat).tt→x≠Y→A2 (kA l (wQ m d)) (kA l (kZ m d)) (kA l (wQ m Y)) (kA l (wQ m x))=true∧A2 (kA l (wQ m d)) (kA l (kZ m d)) (kA l (wQ m x)) (kA l (wQ m Y))=false:=fun {x} hx hf hne=>by
  have h:=aCc hp h0 h1 hx hf (by rw [hY];omega);rw [hY] at h;refine⟨(NR _ _ _ _).2 (by rw [hu,hv hYl hfY,hv hx hf];exact h),?_⟩;cases hq:A2 (kA l (wQ m d)) (kA l (kZ m d)) (kA l (wQ m x)) (kA l (wQ m Y)) with
  |false=>rfl
  |true =>
   have:=(NR _ _ _ _).1 hq;rw [hu,hv hYl hfY,hv hx hf] at this;exact absurd this (SG h)
 have key:∀ j,j≤2*m.length→(Y<j→qT l m k d j=Y)∧(j≤Y→qT l m k d j = -1∨∃ c:Nat,c<j∧qT l m k d j=c∧(bV (aV l m m.length) c).fr=(bV (aV l m m.length) d.toNat).tt):=by
  intro j
  induction j with
  |zero=>exact fun _=>⟨fun h=>by omega,fun _=>.inl rfl⟩
  |succ j ih =>
   intro hj;obtain⟨i1,i2⟩:=ih (by omega);rcases Nat.lt_trichotomy j Y with h|h|h
   ·refine⟨fun h'=>by omega,fun _=>?_⟩;unfold qT;split
    ·rename_i hc';exact .inr ⟨j,Nat.lt_succ_self j,rfl,(hc (by omega)).1 hc'.1.2⟩
    ·rcases i2 (by omega) with e|⟨c,c1,c2,c3⟩
     ·exact .inl e
     ·exact .inr ⟨c,by omega,c2,c3⟩
   ·subst h;refine⟨fun _=>?_,fun h'=>by omega⟩;refine aKd ⟨⟨hk j hYl,(hc hYl).2 hfY⟩,?_⟩;rcases i2 (Nat.le_refl _) with e|⟨c,c1,c2,c3⟩
    ·exact .inl (by omega)
    ·rw [c2];exact .inr (hsoon (by omega) c3 (by omega)).1
   ·refine⟨fun _=>?_,fun h'=>by omega⟩;rw [aKl (fun hh=>?_),i1 h];obtain⟨⟨_,q1⟩,q2⟩:=hh;rw [i1 h] at q2;rcases q2 with q2|q2
    ·omega
    ·rw [(hsoon (by omega) ((hc (by omega)).1 q1) (by omega)).2] at q2;cases q2
 rw [(key _ (Nat.le_refl _)).1 hYl,hY]
end
theorem tM (of w:List Int)(fc:Int)(hw:∀ t,t<w.length→(aB w t).toNat<of.length)(i:Nat):∀ k,k≤w.length→((∃ t,t<k∧(aB w t).toNat=i)→aB (fO of w fc k) i=fc)∧((¬ ∃ t,t<k∧(aB w t).toNat=i)→aB (fO of w fc k) i=aB of i)
 |0,_=>⟨fun ⟨t,h,_⟩=>by omega,fun _=>rfl⟩
 |k+1,hk=>by
  obtain⟨i1,i2⟩:=tM of w fc hw i k (by omega);have hs:=QI (fO of w fc k) (aB w k).toNat fc i (by rw [jA];exact hw k (by omega));unfold fO;rw [hs];by_cases e:i=(aB w k).toNat
  ·rw [if_pos e];exact⟨fun _=>rfl,fun h=>absurd ⟨k,Nat.lt_succ_self k,e.symm⟩ h⟩
  ·rw [if_neg e];refine⟨fun ⟨t,h1,h2⟩=>i1 ⟨t,?_,h2⟩,fun h=>i2 fun ⟨t,h1,h2⟩=>h ⟨t,by omega,h2⟩⟩;rcases Nat.lt_or_ge t k with h|h
   ·exact h
   ·exact absurd (by rw [← h2,show t=k by omega]) e
theorem pT (L:List Bool)(x:Nat)(v:Bool)(i:Nat)(hx:x<L.length):dF (L.set x v) i=if i=x then v else dF L i:=by
 unfold dF;rw [List.getD_eq_getElem?_getD,List.getD_eq_getElem?_getD,List.getElem?_set];by_cases h:x=i
 ·subst h;simp [hx]
 ·rw [if_neg h,if_neg (fun e=>h e.symm)]
theorem pO (s:List Bool)(w:List Int)(hw:∀ t,t<w.length→(aB w t).toNat<s.length)(i:Nat):∀ k,k≤w.length→((∃ t,t<k∧(aB w t).toNat=i)→dF (fD s w k) i=true)∧((¬ ∃ t,t<k∧(aB w t).toNat=i)→dF (fD s w k) i=dF s i)
 |0,_=>⟨fun ⟨t,h,_⟩=>by omega,fun _=>rfl⟩
 |k+1,hk=>by
  obtain⟨i1,i2⟩:=pO s w hw i k (by omega);have hs:=pT (fD s w k) (aB w k).toNat true i (by rw [j4];exact hw k (by omega));unfold fD;rw [hs];by_cases e:i=(aB w k).toNat
  ·rw [if_pos e];exact⟨fun _=>rfl,fun h=>absurd ⟨k,Nat.lt_succ_self k,e.symm⟩ h⟩
  ·rw [if_neg e];refine⟨fun ⟨t,h1,h2⟩=>i1 ⟨t,?_,h2⟩,fun h=>i2 fun ⟨t,h1,h2⟩=>h ⟨t,by omega,h2⟩⟩;rcases Nat.lt_or_ge t k with h|h
   ·exact h
   ·exact absurd (by rw [← h2,show t=k by omega]) e
theorem T7 {f:Int→Int}{d:Int}{N T:Nat}:∀ {k i:Nat},i≤T→T≤i+k→(∀ t,i≤t→t<T→O2 f d N t=true)→O2 f d N T=false→XA f d N k i=T
 |0,i,h1,h2,_,_=>by unfold XA;omega
 |k+1,i,h1,h2,h3,h4=>by
  unfold XA;by_cases e:i=T
  ·rw [e,h4];rfl
  ·rw [h3 i (Nat.le_refl _) (by omega),if_pos rfl];exact T7 (by omega) (by omega) (fun t a b=>h3 t (by omega) b) h4
section
variable {l:List Pt}{m:List Ed}{n:Int}
theorem aBz {E i:Nat}(h:i<E):dF (List.replicate E true) i=true:=by
 unfold dF;rw [List.getD_eq_getElem?_getD,List.getElem?_replicate,if_pos h];rfl
theorem ZK (hp:mE l m n=true){d:Nat}(hd:d<2*m.length):Q9 l m (List.replicate (2*m.length) true) d=uJ (aV l m m.length) (outs l m) d:=by
 have hok:=nW hp;have hin:=yE hok (d:=(d:Int)) (by omega) (by omega);have hx:∀ i,WW (aDk l m (List.replicate (2*m.length) true)) d i=oN (aV l m m.length) (outs l m) d (i+1):=by
  intro i
  induction i with
  |zero=>exact Z6 hp (by omega) (by omega) (fun i hi=>aBz hi)
  |succ i ih =>
   unfold WW;rw [ih];have:=hin (i+1);exact Z6 hp this.1 this.2 (fun i hi=>aBz hi)
 have hw:=List.all_eq_true.1 (J9 hok) d (List.mem_range.2 (by rw [bM];exact hd));have hw:=of_decide_eq_true hw;obtain⟨p1,p2,p3⟩:=mF (aV l m m.length) (outs l m) d (aV l m m.length).length 1;unfold uJ;unfold n9 at hw ⊢;generalize F4 (aV l m m.length) (outs l m) d (aV l m m.length).length 1=T at *;rw [bM] at p2;have hN:XA (aDk l m (List.replicate (2*m.length) true)) d (2*m.length) (2*m.length+2) 0=T - 1:=by
  refine T7 (Nat.zero_le _) (by omega) (fun t _ ht=>?_) ?_
  ·unfold O2;rw [hx];have a:=hin (t+1);have b:=p3 (t+1) (by omega) (by omega);rw [decide_eq_false b,decide_eq_true a.1,decide_eq_true (show t≤2*m.length by omega)];rfl
  ·unfold O2;rw [hx,show T - 1+1=T by omega,hw,decide_eq_true rfl];rfl
 unfold Q9;rw [hN];unfold aJ1;apply List.ext_getElem?;intro i;cases i with
 |zero =>
  rw [List.getElem?_cons_zero,List.getElem?_map,List.getElem?_range (by omega)];rfl
 |succ i =>
  rw [List.getElem?_cons_succ,List.getElem?_map,List.getElem?_map];by_cases h:i<T - 1
  ·rw [List.getElem?_range h,List.getElem?_range (by omega)];simp only [Option.map_some];rw [hx]
  ·rw [List.getElem?_eq_none (by rw [List.length_range];omega),List.getElem?_eq_none (by rw [List.length_range];omega)];rfl
theorem KT (l:List Pt)(m:List Ed){w:List Int}(hw:eO (aV l m m.length) w=true):∀ k,k≤w.length→NL l m w k=G0 l (aV l m m.length) w k
 |0,_=>rfl
 |k+1,h=>by
  unfold NL G0;rw [KT l m hw k (by omega)];have hk:=iS hw (i:=k) (by omega);rw [bM] at hk;have:=C8 l m hk.1 (by omega);unfold aEO Z4 kA;rw [this.1,this.2]
structure Fre (m:List Ed) (s:Fst) (t:P7):Prop where
 len:s.of.length=2*m.length
 seen:t.seen.length=2*m.length
 face:t.face.length=2*m.length
 of:∀ i,i<2*m.length→(dF t.seen i=true∧0≤aB s.of i∧aB s.of i=aB t.face i)∨(dF t.seen i=false∧aB s.of i<0)
 many:s.faces=t.many
 low:0≤t.many
 out:s.outside=t.out
 ok:s.ok=!t.flat
theorem aB9 (hp:mE l m n=true){s:Fst}{t:P7}(h:Fre m s t){d:Nat}(hd:d<2*m.length):Fre m (QB l m s d) (kK l (aV l m m.length) (outs l m) t d)∧dF (kK l (aV l m m.length) (outs l m) t d).seen d=true∧∀ i,dF t.seen i=true→i<2*m.length→dF (kK l (aV l m m.length) (outs l m) t d).seen i=true:=by
 have hok:=nW hp;unfold QB kK;rcases h.of d hd with ⟨h1,h2,h3⟩|⟨h1,h2⟩
 ·rw [if_pos h2,if_pos h1];exact⟨h,h1,fun i hi _=>hi⟩
 ·rw [if_neg (by omega),if_neg (by rw [h1];decide)];simp only;rw [ZK hp hd];have w:=SN (l:=l) (KW hok) (d:=d) (by rw [bM];exact hd);have hfirst:aB (uJ (aV l m m.length) (outs l m) d) 0=d:=by
   unfold uJ;unfold aB;rw [List.getD_eq_getElem?_getD,List.getElem?_map,List.getElem?_range (by
    have:=(mF (aV l m m.length) (outs l m) d (aV l m m.length).length 1).1;unfold n9;omega)]
   rfl
  generalize uJ (aV l m m.length) (outs l m) d=W at w hfirst ⊢;rw [KT l m w.1 _ (Nat.le_refl _),h.many,h.out,h.ok];generalize G0 l (aV l m m.length) W W.length=A;have hr:∀ t,t<W.length→(aB W t).toNat<2*m.length:=fun t ht=>by
   have:=iS w.1 (i:=t) ht;rw [bM] at this;omega
  have hset:∀ fc:Int,0≤fc→∀ i,i<2*m.length→(dF (fD t.seen W W.length) i=true∧0≤aB (fO s.of W fc W.length) i∧aB (fO s.of W fc W.length) i=aB (fO t.face W fc W.length) i)∨(dF (fD t.seen W W.length) i=false∧aB (fO s.of W fc W.length) i<0):=fun fc hfc i hi=>by
   obtain⟨a1,a2⟩:=tM s.of W fc (by rw [h.len];exact hr) i _ (Nat.le_refl _);obtain⟨b1,b2⟩:=tM t.face W fc (by rw [h.face];exact hr) i _ (Nat.le_refl _);obtain⟨c1,c2⟩:=pO t.seen W (by rw [h.seen];exact hr) i _ (Nat.le_refl _);by_cases e:∃ k,k<W.length∧(aB W k).toNat=i
   ·rw [a1 e,b1 e,c1 e];exact .inl ⟨rfl,hfc,rfl⟩
   ·rw [a2 e,b2 e,c2 e];exact h.of i hi
  refine⟨⟨by rw [jA];exact h.len,by rw [j4];exact h.seen,by rw [jA];exact h.face,?_,rfl,?_,?_,?_⟩,?_,?_⟩
  ·have:=h.low;by_cases hA:0<A
   ·simp only [if_pos hA];exact hset _ (by omega)
   ·simp only [if_neg hA];exact hset _ (by omega)
  ·have:=h.low;show 0≤if 0<A then t.many+1 else t.many
   split <;> omega
  ·show (if A<0 then t.out+1 else t.out)=if 0<A then t.out else if A<0 then t.out+1 else t.out
   split <;> split <;> (first|rfl|omega)
  ·show (if A=0 then false else !t.flat)=!(if 0<A then t.flat else if A<0 then t.flat else true);by_cases hA:0<A
   ·rw [if_pos hA,if_neg (by omega)]
   ·by_cases hA2:A<0
    ·rw [if_neg hA,if_pos hA2,if_neg (by omega)]
    ·rw [if_neg hA,if_neg hA2,if_pos (by omega)];rfl
  ·exact (pO t.seen W (by rw [h.seen];exact hr) d _ (Nat.le_refl _)).1 ⟨0,by omega,by rw [hfirst];rfl⟩
  ·intro i hi hi2;obtain⟨c1,c2⟩:=pO t.seen W (by rw [h.seen];exact hr) i _ (Nat.le_refl _);by_cases e:∃ k,k<W.length∧(aB W k).toNat=i
   ·exact c1 e
   ·show dF (fD t.seen W W.length) i=true;rw [c2 e];exact hi
theorem UT (hp:mE l m n=true):∀ d,d≤2*m.length→Fre m (PQ l m d) (cE l (aV l m m.length) (outs l m) d)∧∀ i,i<d→dF (cE l (aV l m m.length) (outs l m) d).seen i=true
 |0,_=>by
  refine⟨⟨by simp [PQ],by simp [cE,bM],by simp [cE,bM],fun i hi=>.inr ?_,rfl,Int.le_refl 0,rfl,rfl⟩,fun i hi=>by omega⟩;unfold PQ cE dF aB;rw [List.getD_eq_getElem?_getD,List.getD_eq_getElem?_getD,List.getElem?_replicate,List.getElem?_replicate,bM,if_pos hi,if_pos hi];exact⟨rfl,by decide⟩
 |d+1,h=>by
  obtain⟨i1,i2⟩:=UT hp d (by omega);obtain⟨a1,a2,a3⟩:=aB9 hp i1 (d:=d) (by omega);refine⟨a1,fun i hi=>?_⟩;by_cases e:i=d
  ·rw [e];exact a2
  ·exact a3 i (i2 i (by omega)) (by omega)
theorem RR {f g:Nat→Bool}{n:Nat}(h:∀ i,i<n→f i=g i):m8 f n=m8 g n:=by
 rw [Bool.eq_iff_iff];exact⟨fun a=>kG fun i hi=>by rw [← h i hi];exact fH a hi,fun a=>kG fun i hi=>by rw [h i hi];exact fH a hi⟩
theorem aDE (hp:mE l m n=true):(AO (dD l m)&&(decide ((dD l m).many=n)&&m8 (EC l m) m.length))=(aGd (mS l m)&&(decide ((mS l m).faces=n)&&m8 (faB m (mS l m).of) m.length)):=by
 obtain⟨_,_,_,_,_,hn,_⟩:=kN (nW hp);obtain⟨h1,h2⟩:=UT hp (2*m.length) (Nat.le_refl _);have e:dD l m=cE l (aV l m m.length) (outs l m) (2*m.length):=by
  unfold dD nmD;rw [bM]
 have hof:∀ i,i<2*m.length→aB (mS l m).of i=aB (dD l m).face i:=fun i hi=>by
  rw [e];rcases h1.of i hi with ⟨_,_,h⟩|⟨h,_⟩
  ·exact h
  ·rw [h2 i hi] at h;cases h
 have hall:m8 (EC l m) m.length=m8 (faB m (mS l m).of) m.length:=by
  refine RR fun i hi=>?_;unfold EC faB;rw [hof (2*i) (by omega),hof (2*i+1) (by omega)]
 rw [hall];unfold AO aGd;have k1:(mS l m).faces=(dD l m).many:=(by rw [e];exact h1.many);have k2:(mS l m).outside=(dD l m).out:=(by rw [e];exact h1.out);have k3:(mS l m).ok=!(dD l m).flat:=(by rw [e];exact h1.ok);rw [k1,k2,k3];by_cases hc:(dD l m).many=n
 ·rw [decide_eq_true hc,decide_eq_true (show 1≤(dD l m).many by omega)];cases decide ((dD l m).out=1) <;> cases (dD l m).flat <;> rfl
 ·rw [decide_eq_false hc];simp
end
end Go.Aw
end
