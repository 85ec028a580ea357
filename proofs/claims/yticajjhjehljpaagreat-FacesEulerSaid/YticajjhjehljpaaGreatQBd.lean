/-
  Parts of a proof. No condition.
-/
import Derived.Test.YticajjhjehljpaaGreatQAq
import Derived.Test.YticajjhjehljpaaGreatQAr
import Derived.Test.YticajjhjehljpaaGreatQBa
import Derived.Test.YticajjhjehljpaaGreatQBb
import Derived.Test.YticajjhjehljpaaGreatQBc
set_option linter.unusedSimpArgs false
set_option linter.unusedVariables false
noncomputable section
namespace Go.Aw
set_option maxRecDepth 100000
theorem s8 (D:List Dt)(x y:Int):iS D x y=true↔vU (dL (bK D x.toNat)) (dL (bK D y.toNat)):=by
 show decide (W6 D x y<0)=true↔_;unfold W6;generalize dL (bK D x.toNat)=u;generalize dL (bK D y.toNat)=v;rw [decide_eq_true_iff];have hu:BH u=true↔lo u:=(by unfold BH lo;simp);have hv:BH v=true↔lo v:=(by unfold BH lo;simp);have hc:crP u v=cr u v:=rfl;unfold QO vU gH;rw [hc];cases h1:BH u <;> cases h2:BH v <;> rw [h1] at hu <;> rw [h2] at hv <;> simp only [Bool.false_eq_true,false_iff,true_iff,if_true,if_false] at hu hv ⊢ <;> simp only [hu,hv,not_true,not_false_iff,true_and,false_and,false_or,or_false,and_false,iff_true,true_iff,iff_false,not_false_eq_true]
 ·split <;> (try split) <;> omega
 ·simp
 ·simp
 ·split <;> (try split) <;> omega
theorem QH {a b c:Pt}(h1:fP a b=true)(h2:fP b c=true):fP a c=true:=by
 simp only [fP,Bool.or_eq_true,Bool.and_eq_true,decide_eq_true_eq] at *;omega
section
variable {l:List Pt}{m:List Ed}{n:Int}
theorem I6 (hok:cL l m n=true):∀ {j i:Nat},i<j→j<l.length→fP (pZ l i) (pZ l j)=true
 |0,i,h,_=>by omega
 |j+1,i,h,hj=>by
  simp only [cL,Bool.and_eq_true] at hok;have h1:=eH hok.2.1 hj;simp only [QE,Bool.and_eq_true,Bool.or_eq_true,decide_eq_true_eq] at h1;have h2:fP (pZ l j) (pZ l (j+1))=true:=by
   rcases h1.2 with h|h
   ·omega
   ·exact h
  by_cases e:i=j
  ·rw [e];exact h2
  ·exact QH (I6 (by simp only [cL,Bool.and_eq_true];exact hok) (show i<j by omega) (by omega)) h2
theorem o9 (hok:cL l m n=true){i:Nat}(hi:i<m.length):0≤(dG m i).a∧(dG m i).a<(dG m i).b∧(dG m i).b<l.length:=by
 simp only [cL,Bool.and_eq_true] at hok;have h1:=eH hok.2.2.1 hi;simp only [P5,Bool.and_eq_true,decide_eq_true_eq] at h1;exact⟨h1.1.1.1.1.1,h1.1.1.1.1.2,h1.1.1.1.2⟩
theorem zP (hok:cL l m n=true){i:Nat}(hi:i<2*m.length):nz (dL (bK (aL l m m.length) i)):=by
 obtain⟨h1,h2,h3⟩:=o9 hok (i:=i / 2) (by omega);have h4:=I6 hok (i:=(dG m (i / 2)).a.toNat) (j:=(dG m (i / 2)).b.toNat) (by omega) (by omega);simp only [fP,Bool.or_eq_true,Bool.and_eq_true,decide_eq_true_eq] at h4;unfold nz;rcases kN (l:=l) (m:=m) hi with ⟨e,h⟩|⟨e,h⟩
 ·rw [h];simp only [dL,dA,jY];omega
 ·rw [h];simp only [dL,dB,jY];omega
theorem aD9 (hok:cL l m n=true):Ord (aL l m m.length) (fun x=>0≤x∧x<(2*m.length:Nat)) where
 trans:=fun x y z hx hy hz h1 h2=>by
  have nx:=zP hok (i:=x.toNat) (by omega);have ny:=zP hok (i:=y.toNat) (by omega);have nz':=zP hok (i:=z.toNat) (by omega);unfold yT at *;have b1:¬ vU (dL (bK (aL l m m.length) y.toNat)) (dL (bK (aL l m m.length) x.toNat)):=fun h=>(by rw [(s8 _ _ _).2 h] at h1;cases h1);have b2:¬ vU (dL (bK (aL l m m.length) z.toNat)) (dL (bK (aL l m m.length) y.toNat)):=fun h=>(by rw [(s8 _ _ _).2 h] at h2;cases h2);cases h:iS (aL l m m.length) z x with
  |false=>rfl
  |true=>exact absurd ((s8 _ _ _).1 h) (RQ nx ny nz' b1 b2)
 asym:=fun x y hx hy h=>by
  unfold yT;cases h2:iS (aL l m m.length) y x with
  |false=>rfl
  |true=>exact absurd ((s8 _ _ _).1 h2) (XD ((s8 _ _ _).1 h))
theorem XL (D:List Dt)(s j:Nat):(Q8 D s j).Nodup:=by
 unfold Q8;unfold List.Nodup;rw [List.pairwise_map];have h:List.Pairwise (fun a b:Nat=>a≠b) ((List.range j).filter fun i=>decide ((bK D i).fr.toNat=s)):=List.Pairwise.filter _ List.nodup_range;exact h.imp fun {a b} h e=>h (Int.ofNat.inj e)
theorem JS (D:List Dt)(s j:Nat):(Q8 D s j).length≤j:=by
 unfold Q8;rw [List.length_map];exact Nat.le_trans (List.length_filter_le _ _) (by rw [List.length_range];exact Nat.le_refl _)
theorem aBw (hok:cL l m n=true){s:Nat}(hs:s<l.length):bE (outs l m) s=qE (aL l m m.length) 1000 (Q8 (aL l m m.length) s (2*m.length)):=by
 have hM:=(fC hok).1;have hfr:∀ i,i<2*m.length→(bK (aL l m m.length) i).fr.toNat<l.length∧(bK (aL l m m.length) i).no=i:=fun i hi=>by
  have:=eR (l:=l) hM hi;omega
 unfold outs;rw [RE _ _ (by rw [mD];exact Nat.le_refl _),if_pos hs,CH _ hfr]
theorem yJ (hok:cL l m n=true){s:Nat}(hs:s<l.length):So (aL l m m.length) (bE (outs l m) s) 0 (bE (outs l m) s).length∧(bE (outs l m) s).Perm (Q8 (aL l m m.length) s (2*m.length)):=by
 obtain⟨hM,h3,h1,h4,h5,_,_⟩:=fC hok;rw [aBw hok hs];have hl:=JS (aL l m m.length) s (2*m.length);have:=aCr (aD9 hok) (f:=1000) (L:=Q8 (aL l m m.length) s (2*m.length)) (by omega) (fun i _ hi=>by
  have hm:aH (Q8 (aL l m m.length) s (2*m.length)) i∈Q8 (aL l m m.length) s (2*m.length):=by
   rw [jQ hi];exact List.getElem_mem hi
  obtain⟨k,hk,e,_⟩:=KG hm;rw [e];omega)
 rw [N6];exact this
theorem gG (hok:cL l m n=true){s:Nat}(hs:s<l.length){x:Int}:x∈bE (outs l m) s↔∃ i:Nat,i<2*m.length∧x=i∧(bK (aL l m m.length) i).fr.toNat=s:=by
 rw [(yJ hok hs).2.mem_iff];exact⟨KG,fun ⟨i,h1,h2,h3⟩=>by rw [h2];exact O0 h1 h3⟩
theorem uY (hok:cL l m n=true){s:Nat}(hs:s<l.length):(bE (outs l m) s).Nodup:=(yJ hok hs).2.symm.nodup (XL _ _ _)
theorem sW {d:Int}{E:Nat}(h0:0≤d)(h1:d<(2*E:Nat)):0≤c9 d∧c9 d<(2*E:Nat):=by unfold c9;split <;> omega
theorem zO {d:Int}(h0:0≤d):c9 (c9 d)=d:=by unfold c9;split <;> split <;> omega
theorem wX (l:List Pt)(m:List Ed){d:Int}(h0:0≤d)(h1:d<(2*m.length:Nat)):(bK (aL l m m.length) (c9 d).toNat).fr=(bK (aL l m m.length) d.toNat).tt∧(bK (aL l m m.length) (c9 d).toNat).tt=(bK (aL l m m.length) d.toNat).fr∧dL (bK (aL l m m.length) (c9 d).toNat)=yD (dL (bK (aL l m m.length) d.toNat)):=by
 obtain⟨hd1,hd2⟩:=FE l m (N:=m.length) (i:=d.toNat / 2) (by omega);unfold c9;by_cases e:d % 2=0
 ·rw [if_pos e,show (d+1).toNat=2*(d.toNat / 2)+1 by omega,show bK (aL l m m.length) d.toNat=dA l m (d.toNat / 2) by rw [← hd1];congr 1;omega,hd2];refine⟨rfl,rfl,?_⟩;simp only [dL,dA,dB,yD,Prod.mk.injEq];omega
 ·rw [if_neg e,show (d - 1).toNat=2*(d.toNat / 2) by omega,show bK (aL l m m.length) d.toNat=dB l m (d.toNat / 2) by rw [← hd2];congr 1;omega,hd1];refine⟨rfl,rfl,?_⟩;simp only [dL,dA,dB,yD,Prod.mk.injEq];omega
theorem IG {x:Int}:∀ {L:List Int} {i:Nat},x∈L→∃ k,k<L.length∧oG x L i=((i+k:Nat):Int)∧aH L k=x
 |[],i,h=>by cases h
 |b::r,i,h=>by
  unfold oG;by_cases e:x=b
  ·rw [if_pos e];exact⟨0,Nat.succ_pos _,rfl,e.symm⟩
  ·rw [if_neg e];rcases List.mem_cons.1 h with h|h
   ·exact absurd h e
   ·obtain⟨k,h1,h2,h3⟩:=IG (L:=r) (i:=i+1) h;refine⟨k+1,by simpa using h1,by rw [h2];congr 1;omega,?_⟩;rw [← h3];rfl
theorem oV (hok:cL l m n=true){d:Int}(h0:0≤d)(h1:d<(2*m.length:Nat)):∃ (s a:Nat),s=(bK (aL l m m.length) d.toNat).tt.toNat∧s<l.length∧RD (aL l m m.length) (outs l m) d=bE (outs l m) s∧a<(bE (outs l m) s).length ∧
  oG (c9 d) (bE (outs l m) s) 0=a∧aH (bE (outs l m) s) a=c9 d∧qV (aL l m m.length) (outs l m) d=aH (bE (outs l m) s) (if a=0 then (bE (outs l m) s).length - 1 else a - 1):=by
 obtain⟨hM,h3,h5,h4,h6,_,_⟩:=fC hok;have hf:=eR (l:=l) hM (i:=d.toNat) (by omega);have hb:=sW (E:=m.length) h0 h1;have hbd:=wX l m h0 h1;refine⟨(bK (aL l m m.length) d.toNat).tt.toNat,?_⟩;have hs:(bK (aL l m m.length) d.toNat).tt.toNat<l.length:=(by omega);have hmem:c9 d∈bE (outs l m) (bK (aL l m m.length) d.toNat).tt.toNat:=(gG hok hs).2 ⟨(c9 d).toNat,by omega,by omega,by rw [hbd.1]⟩;obtain⟨k,k1,k2,k3⟩:=IG (i:=0) hmem;rw [Nat.zero_add] at k2;refine⟨k,rfl,hs,rfl,k1,k2,k3,?_⟩;unfold qV RD;rw [k2];congr 1;split
 ·rename_i e;rw [e];have:((0:Nat):Int) - 1+((bE (outs l m) (bK (aL l m m.length) d.toNat).tt.toNat).length:Int)=(((bE (outs l m) (bK (aL l m m.length) d.toNat).tt.toNat).length - 1:Nat):Int):=(by omega);rw [this,Int.emod_eq_of_lt (by omega) (by omega)];rfl
 ·have:(k:Int) - 1+((bE (outs l m) (bK (aL l m m.length) d.toNat).tt.toNat).length:Int)=((k - 1:Nat):Int)+(bE (outs l m) (bK (aL l m m.length) d.toNat).tt.toNat).length:=(by omega);rw [this,Int.add_emod_right,Int.emod_eq_of_lt (by omega) (by omega)];rfl
theorem at_mem {L:List Int}{i:Nat}(h:i<L.length):aH L i∈L:=by rw [jQ h];exact List.getElem_mem h
theorem E0 (hok:cL l m n=true){d:Int}(h0:0≤d)(h1:d<(2*m.length:Nat)):0≤qV (aL l m m.length) (outs l m) d∧qV (aL l m m.length) (outs l m) d<(2*m.length:Nat)∧(bK (aL l m m.length) (qV (aL l m m.length) (outs l m) d).toNat).fr.toNat=(bK (aL l m m.length) d.toNat).tt.toNat:=by
 obtain⟨s,a,e1,hs,e2,ha,e3,e4,e5⟩:=oV hok h0 h1;rw [e5];have hi:(if a=0 then (bE (outs l m) s).length - 1 else a - 1)<(bE (outs l m) s).length:=(by split <;> omega);obtain⟨i,i1,i2,i3⟩:=(gG hok hs).1 (at_mem hi);rw [i2];exact⟨by omega,by omega,by rw [← e1];exact i3⟩
theorem FM {L:List Int}(h:L.Nodup){i j:Nat}(hi:i<L.length)(hj:j<L.length)(e:aH L i=aH L j):i=j:=by
 rw [jQ hi,jQ hj] at e;exact (List.getElem_inj h).1 e
theorem aB4 (hok:cL l m n=true){d d':Int}(h0:0≤d)(h1:d<(2*m.length:Nat))(h0':0≤d')(h1':d'<(2*m.length:Nat))(e:qV (aL l m m.length) (outs l m) d=qV (aL l m m.length) (outs l m) d'):d=d':=by
 have hn:=(E0 hok h0 h1).2.2;have hn':=(E0 hok h0' h1').2.2;obtain⟨s,a,e1,hs,e2,ha,e3,e4,e5⟩:=oV hok h0 h1;obtain⟨s',a',e1',hs',e2',ha',e3',e4',e5'⟩:=oV hok h0' h1';have hss:s=s':=(by rw [e1,e1',← hn,← hn',e]);subst hss;rw [e5,e5'] at e;have:=FM (uY hok hs) (by split <;> omega) (by split <;> omega) e;have haa:a=a':=by
  split at this <;> split at this <;> omega
 have hb:c9 d=c9 d':=(by rw [← e4,← e4',haa]);rw [← zO h0,hb,zO h0']
theorem aAW:∀ (n:Nat) (f:Nat→Nat),(∀ i,i≤n→f i<n)→∃ i j,i<j∧j≤n∧f i=f j
 |0,f,h=>by have:=h 0 (Nat.le_refl 0);omega
 |n+1,f,h=>by
  by_cases hc:∃ i,i≤n∧f i=f (n+1)
  ·obtain⟨i,h1,h2⟩:=hc;exact⟨i,n+1,by omega,Nat.le_refl _,h2⟩
  ·have hne:∀ i,i≤n→f i≠f (n+1):=fun i hi e=>hc ⟨i,hi,e⟩;obtain⟨i,j,h1,h2,h3⟩:=aAW n (fun i=>if f (n+1)<f i then f i - 1 else f i) (fun i hi=>by
    have a1:=h i (by omega);have a2:=h (n+1) (Nat.le_refl _);have a3:=hne i hi;show (if f (n+1)<f i then f i - 1 else f i)<n;split <;> omega)
   refine⟨i,j,h1,by omega,?_⟩;have a1:=hne i (by omega);have a2:=hne j h2;have h3:(if f (n+1)<f i then f i - 1 else f i)=(if f (n+1)<f j then f j - 1 else f j):=h3;split at h3 <;> split at h3 <;> omega
theorem qB (hok:cL l m n=true){d:Int}(h0:0≤d)(h1:d<(2*m.length:Nat)):∀ i,0≤iY (aL l m m.length) (outs l m) d i∧iY (aL l m m.length) (outs l m) d i<(2*m.length:Nat)
 |0=>⟨h0,h1⟩
 |i+1=>by
  have ih:=qB hok h0 h1 i;have:=E0 hok ih.1 ih.2;exact⟨this.1,this.2.1⟩
theorem KK (hok:cL l m n=true){d:Int}(h0:0≤d)(h1:d<(2*m.length:Nat)):∀ (i k:Nat),iY (aL l m m.length) (outs l m) d i=iY (aL l m m.length) (outs l m) d (i+k)→d=iY (aL l m m.length) (outs l m) d k
 |0,k,h=>by rw [Nat.zero_add] at h;exact h
 |i+1,k,h=>by
  refine KK hok h0 h1 i k ?_;have a:=qB hok h0 h1 i;have b:=qB hok h0 h1 (i+k);refine aB4 hok a.1 a.2 b.1 b.2 ?_;rw [show i+1+k=i+k+1 by omega] at h;exact h
theorem NN (D:List Dt)(ls:List (List Int))(d:Int):∀ (k i N:Nat),i≤N→N<i+k→iY D ls d N=d→iY D ls d (E7 D ls d k i)=d
 |0,i,N,h1,h2,_=>by omega
 |k+1,i,N,h1,h2,h3=>by
  unfold E7;split
  ·assumption
  ·rename_i h;refine NN D ls d k (i+1) N ?_ (by omega) h3;rcases Nat.lt_or_ge i N with h4|h4
   ·exact h4
   ·exact absurd (by rw [show i=N by omega];exact h3) h
theorem vK (hok:cL l m n=true):ZR (aL l m m.length) (outs l m)=true:=by
 refine List.all_eq_true.2 fun d hd=>decide_eq_true ?_;have hd:=List.mem_range.1 hd;rw [aY] at hd;obtain⟨i,j,h1,h2,h3⟩:=aAW (2*m.length) (fun i=>(iY (aL l m m.length) (outs l m) d i).toNat) (fun i _=>by
  have:=qB hok (d:=d) (by omega) (by omega) i;show (iY (aL l m m.length) (outs l m) d i).toNat<2*m.length;omega)
 have a:=qB hok (d:=(d:Int)) (by omega) (by omega) i;have b:=qB hok (d:=(d:Int)) (by omega) (by omega) j;have e:=KK hok (d:=(d:Int)) (by omega) (by omega) i (j - i) (by rw [show i+(j - i)=j by omega];have h3:(iY (aL l m m.length) (outs l m) d i).toNat=(iY (aL l m m.length) (outs l m) d j).toNat:=h3;omega);unfold gB;rw [aY];exact NN _ _ _ _ 1 (j - i) (by omega) (by omega) e.symm
theorem aId (hok:cL l m n=true):FX l (aL l m m.length) (outs l m)=true:=by
 obtain⟨hM,h3,h5,h4,h6,_,_⟩:=fC hok;simp only [FX,Bool.and_eq_true,decide_eq_true_eq];refine⟨⟨⟨⟨List.all_eq_true.2 fun p hp=>?_,List.all_eq_true.2 fun e he=>?_⟩,by rw [aY];omega⟩,eJ l m⟩,by omega⟩
 ·obtain⟨i,hi,rfl⟩:=List.getElem_of_mem hp;have:=pA hok hi;rw [KF hi] at this;unfold wide;simp only [Bool.and_eq_true,decide_eq_true_eq];omega
 ·obtain⟨i,hi,rfl⟩:=List.getElem_of_mem he;rw [← oB hi];rw [aY] at hi;have:=eR (l:=l) hM hi;simp only [Bool.and_eq_true,decide_eq_true_eq];omega
theorem EP (hok:cL l m n=true):rE l (aL l m m.length) (outs l m)=true:=by
 obtain⟨hM,h3,h5,h4,h6,_,_⟩:=fC hok;unfold rE;rw [aId hok,Bool.true_and];refine List.all_eq_true.2 fun i hi=>?_;have hi:=List.mem_range.1 hi;rw [aY] at hi;have hn:=E0 hok (d:=(i:Int)) (by omega) (by omega);obtain⟨s,a,e1,hs,e2,ha,e3,e4,e5⟩:=oV hok (d:=(i:Int)) (by omega) (by omega);have hf:=eR (l:=l) hM (i:=i) hi;have hlen:(bE (outs l m) s).length≤1000:=by
  have h7:=(yJ hok hs).2.length_eq;have h8:=JS (aL l m m.length) s (2*m.length);omega
 simp only [Bool.and_eq_true,decide_eq_true_eq];refine⟨?_,hn.1,by rw [aY];omega⟩;unfold nxB;rw [e2,e3,aY,eJ];simp only [Bool.and_eq_true,decide_eq_true_eq,Int.toNat_natCast];omega
theorem aFG (hok:cL l m n=true):VL (aL l m m.length) (outs l m)=true:=by
 obtain⟨hM,h3,h5,h4,h6,_,_⟩:=fC hok;refine List.all_eq_true.2 fun L hL=>?_;obtain⟨s,hs,rfl⟩:=List.getElem_of_mem hL;have hs':=hs;rw [eJ] at hs';have e:(outs l m)[s]=bE (outs l m) s:=by
  unfold bE;rw [List.getD_eq_getElem?_getD,List.getElem?_eq_getElem hs];rfl
 rw [e];have h7:=(yJ hok hs').2.length_eq;have h8:=JS (aL l m m.length) s (2*m.length);have h9:=TJ hok hs';simp only [Bool.and_eq_true,decide_eq_true_eq];refine⟨⟨by omega,by omega⟩,List.all_eq_true.2 fun x hx=>?_⟩;obtain⟨i,i1,i2,_⟩:=(gG hok hs').1 hx;simp only [Bool.and_eq_true,decide_eq_true_eq,aY];omega
end
end Go.Aw
end

noncomputable section
namespace Go.Aw
set_option maxRecDepth 100000
set_option maxHeartbeats 2000000
theorem yZ (n:Nat):∀ {h:Heap},gM h=true→gM (m8 n h)=true
 |[],_=>rfl
 |(k,o)::r,h=>by
  simp only [gM,Bool.and_eq_true] at h;simp only [m8,gM,Bool.and_eq_true];refine⟨?_,yZ n h.2⟩;cases o with
  |cells wr g sz cs=>rfl
  |_=>exact h.1
def aGI:Nat × XF:=(35,fun args h nx K=>∃ l m n p q,args=[mapA p q n]∧n9 a8 h p l∧n9 aX h q m∧(l.length≤1000∧m.length≤1000) ∧
 ((cZ l m n=true∧K (.tuple #[.pointer (some ⟨nx+7,0,none⟩),iv 0]) (app (m8 nx (VT l m (oE p) (oE q) n)) (dT h)) (nx+2004))∨(cZ l m n=false∧K (.tuple #[.pointer none,iv 1]) h nx)))
theorem aHz:dK Go.Proofs.Tryz.prog aGI.1 aGI.2:=by
 refine (jU (S:=fun args0 h0 n0 v1 h1 j=>∃ l m n c1 c2,(l.length≤1000∧m.length≤1000)∧args0=[aC l.length m.length c1 c2 n]∧h0=aE a8 aX l m∧n0=2 ∧
  ((cZ l m n=true∧v1=.tuple #[.pointer (some ⟨7,0,none⟩),iv 0]∧h1=VT l m c1 c2 n∧j=2004)∨(cZ l m n=false∧v1=.tuple #[.pointer none,iv 1]∧h1=[]∧j=0))) (aR (xl:=[UC,aAR,SH,UR,SD,(83,aEW)]) (.cons aHK (.cons aHJ (.cons aDS (.cons aIh (.cons aHV (.cons aIK .nil))))))) ?_).mono ?_ ?_
 ·rintro args0 h0 n0 v1 h1 j ⟨l,m,n,c1,c2,⟨hl,hm⟩,rfl,rfl,rfl,hc⟩;have hw:=w69 l m n c1 c2 hl hm fun hok=>⟨EP hok,vK hok,aFG hok,(fC hok).2.2.1⟩;rcases hc with ⟨ho,rfl,rfl,rfl⟩|⟨ho,rfl,rfl,rfl⟩
  ·refine⟨yZ 3 pJ,_,hw,fun v h nx e=>?_⟩;rcases e with ⟨_,e⟩|⟨e,_⟩
   ·exact e
   ·rw [ho] at e;cases e
  ·refine⟨rfl,_,hw,fun v h nx e=>?_⟩;rcases e with ⟨e,_⟩|⟨_,rfl⟩
   ·rw [ho] at e;cases e
   ·exact mJ rfl
 ·rintro args h nx K ⟨l,m,n,p,q,rfl,hl,hm,hlm,hx⟩;rcases hx with ⟨ho,hx⟩|⟨ho,hx⟩
  ·refine⟨_,_,2,_,_,_,⟨l,m,n,oE p,oE q,hlm,rfl,rfl,rfl,.inl ⟨ho,rfl,rfl,rfl⟩⟩,JY a8 aX rfl hl hm,?_⟩;have e:iM (fun k=>nx+k) (.tuple #[.pointer (some ⟨7,0,none⟩),iv 0])=.tuple #[.pointer (some ⟨nx+7,0,none⟩),iv 0]:=(by simp [iM,tr,dS,bQ,dU,j3];rfl);rw [e];exact hx
  ·refine⟨_,_,2,_,[],0,⟨l,m,n,oE p,oE q,hlm,rfl,rfl,rfl,.inr ⟨ho,rfl,rfl,rfl⟩⟩,JY a8 aX rfl hl hm,?_⟩;simp only [qH,wQ,m8,nJ,Nat.add_zero];rw [sI rfl];exact hx
 ·rintro args h nx K ⟨l,m,n,p,q,rfl,hl,hm,hlm,hx⟩;rcases hx with ⟨ho,hx⟩|⟨ho,hx⟩
  ·exact⟨_,_,_,hx,fun K' hk=>⟨l,m,n,p,q,rfl,hl,hm,hlm,.inl ⟨ho,hk⟩⟩⟩
  ·exact⟨_,_,_,hx,fun K' hk=>⟨l,m,n,p,q,rfl,hl,hm,hlm,.inr ⟨ho,hk⟩⟩⟩
def ckP (l:List Pt)(m:List Ed)(n:Int):List Value→Option (Bool × Value)
 |[]=>some (decide (l.length≤1000)&&decide (m.length≤1000),iv (if cZ l m n=true then 0 else 1))
 |_=>none
def aGS:Nat × XF:=(10,mX a8 aX ckP)
theorem aJz:dK Go.Proofs.Tryz.prog aGS.1 aGS.2:=AQ a8 aX (aR (xl:=[aGI]) (.cons aHz .nil)) fun l m n r v hs=>by
 have:r=[]∧l.length≤1000∧m.length≤1000∧v=iv (if cZ l m n=true then 0 else 1):=by
  unfold ckP at hs;split at hs
  ·injection hs with hs;injection hs with h1 h2;simp only [Bool.and_eq_true,decide_eq_true_eq] at h1;exact⟨rfl,h1.1,h1.2,h2.symm⟩
  ·cases hs
 obtain⟨rfl,hl,hm,rfl⟩:=this;clear hs;refine⟨rfl,rfl,fun c1 c2=>?_⟩;(conv=>whnf);refine⟨l,m,n,.slice (some ⟨0,0,none⟩) l.length c1,.slice (some ⟨1,0,none⟩) m.length c2,rfl,bJ a8 rfl,bJ aX rfl,⟨hl,hm⟩,?_⟩;cases ho:cZ l m n with
 |true =>
  refine .inl ⟨rfl,?_⟩;(conv=>whnf);rfl
 |false =>
  refine .inr ⟨rfl,?_⟩;(conv=>whnf);rfl
end Go.Aw
end

noncomputable section
namespace Go.Aw
set_option maxRecDepth 100000
def rA (p q:Pt):V2:=(p.1 - q.1,p.2 - q.2)
theorem EL (v a b:Pt):aV v a b=cr (rA a v) (rA b v):=rfl
theorem rB {a b:Pt}(h:fP a b=true):jS a b = -1:=by
 rw [wM] at h;have h:=of_decide_eq_true h;rcases xW a b with e|e|e <;> omega
theorem OJ (a:Pt):jS a a=0:=by
 unfold jS XS gH;simp
theorem sT {s:Sg}(h:fP s.1 s.2=true):bH s=s:=by
 have:=rB h;unfold bH;rw [this];simp
theorem aCn (a b:Pt):aV a b a=0:=by unfold aV;simp
theorem TM (a b:Pt):aV a b b=0:=by unfold aV;rw [Int.mul_comm];omega
theorem RK {s t:Sg}(h1:dJ s=true)(h2:dJ t=true)(l1:fP s.1 s.2=true)(l2:fP t.1 t.2=true)(e:s.1=t.1)(hc:aV s.1 s.2 t.2=0):iI s t=4:=by
 unfold iI;rw [if_pos ⟨h1,h2⟩];unfold kX aT;rw [hc,← e,aCn];rw [if_pos ⟨rfl,rfl⟩];unfold IS xO;rw [sT l1,sT l2,← e,OJ,if_neg (by omega)];split
 ·rw [e,rB l2];rfl
 ·rw [rB l1];rfl
theorem T3 {s t:Sg}(h1:dJ s=true)(h2:dJ t=true)(l1:fP s.1 s.2=true)(l2:fP t.1 t.2=true)(e:s.2=t.2)(hc:aV s.1 s.2 t.1=0):iI s t=4:=by
 unfold iI;rw [if_pos ⟨h1,h2⟩];unfold kX aT;rw [hc,← e,TM];rw [if_pos ⟨rfl,rfl⟩];unfold IS xO;rw [sT l1,sT l2,show jS t.2 s.2=0 by rw [← e];exact OJ _,if_neg (c:=(0:Int)<0) (by omega)];split
 ·rw [e,rB l2];rfl
 ·rw [rB l1];rfl
section
variable {l:List Pt}{m:List Ed}{n:Int}
theorem pE (hok:cL l m n=true){i:Nat}(hi:i<m.length):dJ (bZ l m i)=true∧fP (bZ l m i).1 (bZ l m i).2=true:=by
 obtain⟨h1,h2,h3⟩:=o9 hok hi;have h4:=I6 hok (i:=(dG m i).a.toNat) (j:=(dG m i).b.toNat) (by omega) (by omega);have pa:=pA hok (i:=(dG m i).a.toNat) (by omega);have pb:=pA hok (i:=(dG m i).b.toNat) (by omega);refine⟨?_,h4⟩;unfold dJ aW;have hne:jZ (bZ l m i).1 (bZ l m i).2=false:=by
  rw [gJ];intro e;have h4:fP (bZ l m i).1 (bZ l m i).2=true:=h4;rw [e] at h4;simp [fP] at h4
 rw [hne];simp only [Bool.and_eq_true,decide_eq_true_eq,Bool.not_false,and_true];simp only [bZ,jY];omega
theorem aAm (hp:iP l m n=true){i k:Nat}(hi:i<m.length)(hk:k<m.length)(hne:i≠k):iI (bZ l m i) (bZ l m k)≠4∨iI (bZ l m k) (bZ l m i)≠4:=by
 simp only [iP,Bool.and_eq_true] at hp;rcases Nat.lt_or_ge k i with h|h
 ·have:=eH (f:=fun k=>H3 l m i k) (eH (f:=fun i=>mG (fun k=>H3 l m i k) i) hp.2 hi) h;simp only [H3,Bool.or_eq_true,decide_eq_true_eq] at this;exact .inl (by omega)
 ·have:=eH (f:=fun i=>H3 l m k i) (eH (f:=fun i=>mG (fun k=>H3 l m i k) i) hp.2 hk) (show i<k by omega);simp only [H3,Bool.or_eq_true,decide_eq_true_eq] at this;exact .inr (by omega)
theorem vG (l:List Pt)(m:List Ed){i:Nat}(hi:i<2*m.length):dL (bK (aL l m m.length) i)=rA (jY l (bK (aL l m m.length) i).tt) (jY l (bK (aL l m m.length) i).fr):=by
 rcases kN (l:=l) (m:=m) hi with ⟨e,h⟩|⟨e,h⟩
 ·rw [h];rfl
 ·rw [h];rfl
theorem TZ {a b:V2}(h:ray a b):(0<a.1∨a.1=0∧0<a.2)→¬ (b.1<0∨b.1=0∧b.2<0):=by
 obtain⟨h1,h2⟩:=h;unfold cr at h1;unfold dt at h2;rintro h3 h4;rcases h3 with h3|⟨h3,h3'⟩
 ·rcases h4 with h4|⟨h4,h4'⟩
  ·-- b=(b1/a1) a,so that both products are negative
   have k1:a.1*b.1<0:=Int.mul_neg_of_pos_of_neg h3 h4;have k2:a.1*(a.2*b.2)=a.2*a.2*b.1:=by
    have:a.1*b.2=a.2*b.1:=(by omega);rw [Int.mul_left_comm,this,← Int.mul_assoc]
   have k3:a.2*a.2*b.1≤0:=Int.mul_nonpos_of_nonneg_of_nonpos (sq0 a.2) (Int.le_of_lt h4);have k4:0<a.2*b.2:=(by omega);have k5:=Int.mul_pos h3 k4;omega
  ·rw [h4] at h1 h2;have:a.1*b.2<0:=Int.mul_neg_of_pos_of_neg h3 h4';simp only [Int.mul_zero] at h1;omega
 ·rw [h3] at h1 h2;rcases h4 with h4|⟨h4,h4'⟩
  ·have:a.2*b.1<0:=Int.mul_neg_of_pos_of_neg h3' h4;simp only [Int.zero_mul] at h1;omega
  ·have:a.2*b.2<0:=Int.mul_neg_of_pos_of_neg h3' h4';simp only [Int.zero_mul] at h2;omega
theorem TT (hok:cL l m n=true){i:Nat}(hi:i<2*m.length):(i % 2=0→0<(dL (bK (aL l m m.length) i)).1∨(dL (bK (aL l m m.length) i)).1=0∧0<(dL (bK (aL l m m.length) i)).2)∧(i % 2=1→(dL (bK (aL l m m.length) i)).1<0∨(dL (bK (aL l m m.length) i)).1=0∧(dL (bK (aL l m m.length) i)).2<0):=by
 have h4:=(pE hok (i:=i / 2) (by omega)).2;unfold fP at h4;simp only [Bool.or_eq_true,Bool.and_eq_true,decide_eq_true_eq] at h4;simp only [bZ] at h4;rcases kN (l:=l) (m:=m) hi with ⟨e,h⟩|⟨e,h⟩
 ·rw [h];simp only [dL,dA];omega
 ·rw [h];simp only [dL,dB];omega
theorem JW {a b:V2}(h:ray a b):ray b a:=by
 obtain⟨h1,h2⟩:=h;refine⟨by rw [eK];omega,?_⟩;unfold dt at *;rw [Int.mul_comm b.1,Int.mul_comm b.2];exact h2
theorem aBL (hp:iP l m n=true){i k:Nat}(hi:i<2*m.length)(hk:k<2*m.length)(hf:(bK (aL l m m.length) i).fr=(bK (aL l m m.length) k).fr)(hr:ray (dL (bK (aL l m m.length) i)) (dL (bK (aL l m m.length) k))):i=k:=by
 have hok:=cN hp;have x1:=TT hok hi;have x2:=TT hok hk;have r1:=TZ hr;have r2:=TZ (JW hr);obtain⟨o1,o2⟩:=pE hok (i:=i / 2) (by omega);obtain⟨o3,o4⟩:=pE hok (i:=k / 2) (by omega);have par:i % 2=k % 2:=by
  rcases Nat.mod_two_eq_zero_or_one i with e|e <;> rcases Nat.mod_two_eq_zero_or_one k with e'|e'
  ·omega
  ·exact absurd (x2.2 e') (r1 (x1.1 e))
  ·exact absurd (x1.2 e) (r2 (x2.1 e'))
  ·omega
 by_cases he:i / 2=k / 2
 ·omega
 exfalso;have hm:=aAm hp (i:=i / 2) (k:=k / 2) (by omega) (by omega) he;have d1:=vG l m hi;have d2:=vG l m hk;rcases kN (l:=l) (m:=m) hi with ⟨e,h⟩|⟨e,h⟩ <;> rcases kN (l:=l) (m:=m) hk with ⟨e',h'⟩|⟨e',h'⟩
 ·rw [h,h'] at hf hr;have hv:(bZ l m (i / 2)).1=(bZ l m (k / 2)).1:=(by show jY l _=jY l _;exact congrArg (jY l) hf);have hc:aV (bZ l m (i / 2)).1 (bZ l m (i / 2)).2 (bZ l m (k / 2)).2=0:=by
   rw [EL];have:=hr.1;rw [show rA (bZ l m (k / 2)).2 (bZ l m (i / 2)).1=dL (dA l m (k / 2)) by rw [hv];rfl];exact this
  have hc':aV (bZ l m (k / 2)).1 (bZ l m (k / 2)).2 (bZ l m (i / 2)).2=0:=by
   rw [EL];have:=(JW hr).1;rw [show rA (bZ l m (i / 2)).2 (bZ l m (k / 2)).1=dL (dA l m (i / 2)) by rw [← hv];rfl];exact this
  rcases hm with hm|hm
  ·exact hm (RK o1 o3 o2 o4 hv hc)
  ·exact hm (RK o3 o1 o4 o2 hv.symm hc')
 ·omega
 ·omega
 ·rw [h,h'] at hf hr;have hv:(bZ l m (i / 2)).2=(bZ l m (k / 2)).2:=(by show jY l _=jY l _;exact congrArg (jY l) hf);have key:∀ (v a b:Pt),cr (rA a v) (rA b v)=0→aV a v b=0:=fun v a b hh=>by
   unfold cr rA at hh;unfold aV;simp only [Int.mul_sub,Int.sub_mul] at *;rw [Int.mul_comm v.2 v.1,Int.mul_comm v.2 b.1,Int.mul_comm v.2 a.1] at *;rw [Int.mul_comm a.2 b.1] at *;rw [Int.mul_comm a.2 v.1] at *;rw [Int.mul_comm a.2 a.1] at *;omega
  have hc:aV (bZ l m (i / 2)).1 (bZ l m (i / 2)).2 (bZ l m (k / 2)).1=0:=by
   refine key _ _ _ ?_;have:=hr.1;rw [show rA (bZ l m (k / 2)).1 (bZ l m (i / 2)).2=dL (dB l m (k / 2)) by rw [hv];rfl];exact this
  have hc':aV (bZ l m (k / 2)).1 (bZ l m (k / 2)).2 (bZ l m (i / 2)).1=0:=by
   refine key _ _ _ ?_;have:=(JW hr).1;rw [show rA (bZ l m (i / 2)).1 (bZ l m (k / 2)).2=dL (dB l m (i / 2)) by rw [← hv];rfl];exact this
  rcases hm with hm|hm
  ·exact hm (T3 o1 o3 o2 o4 hv hc)
  ·exact hm (T3 o3 o1 o4 o2 hv.symm hc')
end
theorem MJ (v u w x:Pt):AT v u w x=true↔z8 (rA u v) (rA w v) (rA x v):=by
 have h1:∀ a b,NS v a b=rk (rA a v) (rA b v):=fun a b=>rfl;unfold AT z8;rw [h1,h1,EL];split
 ·rename_i e;rw [decide_eq_true_iff];constructor
  ·exact fun h=>.inr ⟨e,h⟩
  ·rintro (h|⟨_,h⟩)
   ·omega
   ·exact h
 ·rename_i e;rw [decide_eq_true_iff];constructor
  ·exact fun h=>.inl h
  ·rintro (h|⟨h,_⟩)
   ·exact h
   ·exact absurd h e
section
variable {l:List Pt}{m:List Ed}{n:Int}
abbrev zR (l:List Pt)(m:List Ed)(x:Int):V2:=dL (bK (aL l m m.length) x.toNat)
theorem Z8 (hp:iP l m n=true){s:Nat}(hs:s<l.length){i j:Nat}(hij:i<j)(hj:j<(bE (outs l m) s).length):vU (zR l m (aH (bE (outs l m) s) i)) (zR l m (aH (bE (outs l m) s) j)):=by
 have hok:=cN hp;have hso:=(yJ hok hs).1 i j (Nat.zero_le _) hij hj;obtain⟨a,a1,a2,a3⟩:=(gG hok hs).1 (at_mem (show i<(bE (outs l m) s).length by omega));obtain⟨b,b1,b2,b3⟩:=(gG hok hs).1 (at_mem hj);have hne:a≠b:=fun e=>by
  have:=FM (uY hok hs) (show i<_ by omega) hj (by rw [a2,b2,e]);omega
 have hM:=(fC hok).1;have fa:=eR (l:=l) hM a1;have fb:=eR (l:=l) hM b1;have na:=zP hok a1;have nb:=zP hok b1;unfold yT at hso;rw [a2,b2] at hso ⊢;show vU (dL (bK (aL l m m.length) ((a:Int)).toNat)) (dL (bK (aL l m m.length) ((b:Int)).toNat));rw [Int.toNat_natCast,Int.toNat_natCast];rcases WD na nb (fun hr=>hne (aBL hp a1 b1 (by omega) hr)) with h|h
 ·exact h
 ·exfalso;rw [(s8 _ _ _).2 (by rw [Int.toNat_natCast,Int.toNat_natCast];exact h)] at hso;cases hso
theorem US (hp:iP l m n=true){d:Int}(h0:0≤d)(h1:d<(2*m.length:Nat)){x:Nat}(hx:x<2*m.length)(hfx:(bK (aL l m m.length) x).fr=(bK (aL l m m.length) d.toNat).tt)(hne:(x:Int)≠qV (aL l m m.length) (outs l m) d) :
  z8 (zR l m (c9 d)) (zR l m (qV (aL l m m.length) (outs l m) d)) (zR l m x):=by
 have hok:=cN hp;obtain⟨s,a,e1,hs,e2,ha,e3,e4,e5⟩:=oV hok h0 h1;have hb:=sW (E:=m.length) h0 h1;have hmem:(x:Int)∈bE (outs l m) s:=(gG hok hs).2 ⟨x,hx,rfl,by rw [hfx,e1]⟩;obtain⟨q,hq,hqe⟩:=List.getElem_of_mem hmem;rw [← jQ hq] at hqe;have hord:∀ {i j:Nat},i<j→j<(bE (outs l m) s).length→vU (zR l m (aH (bE (outs l m) s) i)) (zR l m (aH (bE (outs l m) s) j)):=fun hij hj=>Z8 hp hs hij hj;have hnz:∀ {i:Nat},i<(bE (outs l m) s).length→nz (zR l m (aH (bE (outs l m) s) i)):=fun {i} hi=>by
  obtain⟨c,c1,c2,_⟩:=(gG hok hs).1 (at_mem hi);rw [c2];show nz (dL (bK (aL l m m.length) ((c:Int)).toNat));rw [Int.toNat_natCast];exact zP hok c1
 rw [e5] at hne ⊢;rw [← e4,← hqe];rw [← hqe] at hne;generalize bE (outs l m) s=L at *;by_cases ha0:a=0
 ·rw [if_pos ha0] at hne ⊢;have hqn:q≠L.length - 1:=fun e=>hne (by rw [e]);subst ha0;by_cases hq0:q=0
  ·rw [hq0];exact HA (hnz ha) (hnz (by omega)) (.inl (hord (by omega) (by omega)))
  ·exact three (hnz ha) (hnz (by omega)) (hnz hq) (.inl ⟨hord (by omega) hq,hord (by omega) (by omega),hord (by omega) (by omega)⟩)
 ·rw [if_neg ha0] at hne ⊢;have hqn:q≠a - 1:=fun e=>hne (by rw [e]);by_cases hqa:q=a
  ·rw [hqa];exact HA (hnz ha) (hnz (by omega)) (.inr (hord (by omega) ha))
  ·rcases Nat.lt_or_ge q a with h|h
   ·exact three (hnz ha) (hnz (by omega)) (hnz hq) (.inr (.inr ⟨hord (by omega) (by omega),hord (by omega) ha,hord (by omega) ha⟩))
   ·exact three (hnz ha) (hnz (by omega)) (hnz hq) (.inr (.inl ⟨hord (by omega) ha,hord (by omega) hq,hord (by omega) hq⟩))
theorem BU (l:List Pt)(m:List Ed){d:Int}(h0:0≤d)(h1:d<(2*m.length:Nat)):kV m d=(bK (aL l m m.length) d.toNat).fr∧wV m d=(bK (aL l m m.length) d.toNat).tt:=by
 have key:∀ {e:Int},0≤e→e<(2*m.length:Nat)→kV m e=(bK (aL l m m.length) e.toNat).fr:=fun {e} he0 he1=>by
  unfold kV;rcases kN (l:=l) (m:=m) (N:=m.length) (i:=e.toNat) (by omega) with ⟨x,h⟩|⟨x,h⟩
  ·rw [h,if_pos (by omega),show (e / 2).toNat=e.toNat / 2 by omega];rfl
  ·rw [h,if_neg (by omega),show (e / 2).toNat=e.toNat / 2 by omega];rfl
 refine⟨key h0 h1,?_⟩;have hb:=sW (E:=m.length) h0 h1;unfold wV;rw [show d+1 - 2*(d % 2)=c9 d by unfold c9;split <;> omega,key hb.1 hb.2];exact (wX l m h0 h1).1
theorem aAe (hp:iP l m n=true){d:Int}(h0:0≤d)(h1:d<(2*m.length:Nat)){k:List Bool}(hk:∀ i,i<2*m.length→cM k i=true):qK l m k d (2*m.length)=qV (aL l m m.length) (outs l m) d:=by
 have hok:=cN hp;have hM:=(fC hok).1;have hn:=E0 hok h0 h1;have hfd:=BU l m h0 h1;have hbd:=wX l m h0 h1;have hb:=sW (E:=m.length) h0 h1;have hfr:=eR (l:=l) hM (i:=d.toNat) (by omega);obtain⟨Y,hY⟩:∃ Y:Nat,qV (aL l m m.length) (outs l m) d=Y:=⟨(qV (aL l m m.length) (outs l m) d).toNat,by omega⟩;have hYl:Y<2*m.length:=(by omega);have hYf:=eR (l:=l) hM hYl;have hfY:(bK (aL l m m.length) Y).fr=(bK (aL l m m.length) d.toNat).tt:=by
  have:=hn.2.2;rw [hY,Int.toNat_natCast] at this;omega
 -- a dart's direction from the point
 have hv:∀ {x:Nat},x<2*m.length→(bK (aL l m m.length) x).fr=(bK (aL l m m.length) d.toNat).tt→rA (jY l (wV m x)) (jY l (wV m d))=zR l m x:=fun {x} hx hf=>by
  have e:=BU l m (d:=(x:Int)) (by omega) (by omega);have e2:=vG l m hx;rw [hf] at e2;show _=dL (bK (aL l m m.length) ((x:Int)).toNat);rw [Int.toNat_natCast,e2,e.2,hfd.2,Int.toNat_natCast]
 have hu:rA (jY l (kV m d)) (jY l (wV m d))=zR l m (c9 d):=by
  have e2:=vG l m (i:=(c9 d).toNat) (by omega);rw [hbd.1,hbd.2.1] at e2;rw [hfd.1,hfd.2];exact e2.symm
 have hc:∀ {x:Nat},x<2*m.length→(kV m x=wV m d↔(bK (aL l m m.length) x).fr=(bK (aL l m m.length) d.toNat).tt):=fun {x} hx=>by
  rw [(BU l m (d:=(x:Int)) (by omega) (by omega)).1,hfd.2,Int.toNat_natCast]
 have hsoon:∀ {x:Nat},x<2*m.length→(bK (aL l m m.length) x).fr=(bK (aL l m m.length) d.toNat).tt→x≠Y→AT (jY l (wV m d)) (jY l (kV m d)) (jY l (wV m Y)) (jY l (wV m x))=true∧AT (jY l (wV m d)) (jY l (kV m d)) (jY l (wV m x)) (jY l (wV m Y))=false:=fun {x} hx hf hne=>by
  have h:=US hp h0 h1 hx hf (by rw [hY];omega);rw [hY] at h;refine⟨(MJ _ _ _ _).2 (by rw [hu,hv hYl hfY,hv hx hf];exact h),?_⟩;cases hq:AT (jY l (wV m d)) (jY l (kV m d)) (jY l (wV m x)) (jY l (wV m Y)) with
  |false=>rfl
  |true =>
   have:=(MJ _ _ _ _).1 hq;rw [hu,hv hYl hfY,hv hx hf] at this;exact absurd this (uV h)
 have key:∀ j,j≤2*m.length→(Y<j→qK l m k d j=Y)∧(j≤Y→qK l m k d j = -1∨∃ c:Nat,c<j∧qK l m k d j=c∧(bK (aL l m m.length) c).fr=(bK (aL l m m.length) d.toNat).tt):=by
  intro j
  induction j with
  |zero=>exact fun _=>⟨fun h=>by omega,fun _=>.inl rfl⟩
  |succ j ih =>
   intro hj;obtain⟨i1,i2⟩:=ih (by omega);rcases Nat.lt_trichotomy j Y with h|h|h
   ·refine⟨fun h'=>by omega,fun _=>?_⟩;unfold qK;split
    ·rename_i hc';exact .inr ⟨j,Nat.lt_succ_self j,rfl,(hc (by omega)).1 hc'.1.2⟩
    ·rcases i2 (by omega) with e|⟨c,c1,c2,c3⟩
     ·exact .inl e
     ·exact .inr ⟨c,by omega,c2,c3⟩
   ·subst h;refine⟨fun _=>?_,fun h'=>by omega⟩;refine aJT ⟨⟨hk j hYl,(hc hYl).2 hfY⟩,?_⟩;rcases i2 (Nat.le_refl _) with e|⟨c,c1,c2,c3⟩
    ·exact .inl (by omega)
    ·rw [c2];exact .inr (hsoon (by omega) c3 (by omega)).1
   ·refine⟨fun _=>?_,fun h'=>by omega⟩;rw [aK2 (fun hh=>?_),i1 h];obtain⟨⟨_,q1⟩,q2⟩:=hh;rw [i1 h] at q2;rcases q2 with q2|q2
    ·omega
    ·rw [(hsoon (by omega) ((hc (by omega)).1 q1) (by omega)).2] at q2;cases q2
 rw [(key _ (Nat.le_refl _)).1 hYl,hY]
end
theorem nM (of w:List Int)(fc:Int)(hw:∀ t,t<w.length→(aH w t).toNat<of.length)(i:Nat):∀ k,k≤w.length→((∃ t,t<k∧(aH w t).toNat=i)→aH (eU of w fc k) i=fc)∧((¬ ∃ t,t<k∧(aH w t).toNat=i)→aH (eU of w fc k) i=aH of i)
 |0,_=>⟨fun ⟨t,h,_⟩=>by omega,fun _=>rfl⟩
 |k+1,hk=>by
  obtain⟨i1,i2⟩:=nM of w fc hw i k (by omega);have hs:=PX (eU of w fc k) (aH w k).toNat fc i (by rw [iU];exact hw k (by omega));unfold eU;rw [hs];by_cases e:i=(aH w k).toNat
  ·rw [if_pos e];exact⟨fun _=>rfl,fun h=>absurd ⟨k,Nat.lt_succ_self k,e.symm⟩ h⟩
  ·rw [if_neg e];refine⟨fun ⟨t,h1,h2⟩=>i1 ⟨t,?_,h2⟩,fun h=>i2 fun ⟨t,h1,h2⟩=>h ⟨t,by omega,h2⟩⟩;rcases Nat.lt_or_ge t k with h|h
   ·exact h
   ·exact absurd (by rw [← h2,show t=k by omega]) e
theorem kT (L:List Bool)(x:Nat)(v:Bool)(i:Nat)(hx:x<L.length):cM (L.set x v) i=if i=x then v else cM L i:=by
 unfold cM;rw [List.getD_eq_getElem?_getD,List.getD_eq_getElem?_getD,List.getElem?_set];by_cases h:x=i
 ·subst h;simp [hx]
 ·rw [if_neg h,if_neg (fun e=>h e.symm)]
theorem nH (s:List Bool)(w:List Int)(hw:∀ t,t<w.length→(aH w t).toNat<s.length)(i:Nat):∀ k,k≤w.length→((∃ t,t<k∧(aH w t).toNat=i)→cM (eN s w k) i=true)∧((¬ ∃ t,t<k∧(aH w t).toNat=i)→cM (eN s w k) i=cM s i)
 |0,_=>⟨fun ⟨t,h,_⟩=>by omega,fun _=>rfl⟩
 |k+1,hk=>by
  obtain⟨i1,i2⟩:=nH s w hw i k (by omega);have hs:=kT (eN s w k) (aH w k).toNat true i (by rw [jO];exact hw k (by omega));unfold eN;rw [hs];by_cases e:i=(aH w k).toNat
  ·rw [if_pos e];exact⟨fun _=>rfl,fun h=>absurd ⟨k,Nat.lt_succ_self k,e.symm⟩ h⟩
  ·rw [if_neg e];refine⟨fun ⟨t,h1,h2⟩=>i1 ⟨t,?_,h2⟩,fun h=>i2 fun ⟨t,h1,h2⟩=>h ⟨t,by omega,h2⟩⟩;rcases Nat.lt_or_ge t k with h|h
   ·exact h
   ·exact absurd (by rw [← h2,show t=k by omega]) e
theorem UM {f:Int→Int}{d:Int}{N T:Nat}:∀ {k i:Nat},i≤T→T≤i+k→(∀ t,i≤t→t<T→NG f d N t=true)→NG f d N T=false→WR f d N k i=T
 |0,i,h1,h2,_,_=>by unfold WR;omega
 |k+1,i,h1,h2,h3,h4=>by
  unfold WR;by_cases e:i=T
  ·rw [e,h4];rfl
  ·rw [h3 i (Nat.le_refl _) (by omega),if_pos rfl];exact UM (by omega) (by omega) (fun t a b=>h3 t (by omega) b) h4
section
variable {l:List Pt}{m:List Ed}{n:Int}
theorem aAS {E i:Nat}(h:i<E):cM (List.replicate E true) i=true:=by
 unfold cM;rw [List.getD_eq_getElem?_getD,List.getElem?_replicate,if_pos h];rfl
theorem aAx (hp:iP l m n=true){d:Nat}(hd:d<2*m.length):QT l m (List.replicate (2*m.length) true) d=nS (aL l m m.length) (outs l m) d:=by
 have hok:=cN hp;have hin:=qB hok (d:=(d:Int)) (by omega) (by omega);have hx:∀ i,WX (aBK l m (List.replicate (2*m.length) true)) d i=iY (aL l m m.length) (outs l m) d (i+1):=by
  intro i
  induction i with
  |zero=>exact aAe hp (by omega) (by omega) (fun i hi=>aAS hi)
  |succ i ih =>
   unfold WX;rw [ih];have:=hin (i+1);exact aAe hp this.1 this.2 (fun i hi=>aAS hi)
 have hw:=List.all_eq_true.1 (vK hok) d (List.mem_range.2 (by rw [aY];exact hd));have hw:=of_decide_eq_true hw;obtain⟨p1,p2,p3⟩:=gP (aL l m m.length) (outs l m) d (aL l m m.length).length 1;unfold nS;unfold gB at hw ⊢;generalize E7 (aL l m m.length) (outs l m) d (aL l m m.length).length 1=T at *;rw [aY] at p2;have hN:WR (aBK l m (List.replicate (2*m.length) true)) d (2*m.length) (2*m.length+2) 0=T - 1:=by
  refine UM (Nat.zero_le _) (by omega) (fun t _ ht=>?_) ?_
  ·unfold NG;rw [hx];have a:=hin (t+1);have b:=p3 (t+1) (by omega) (by omega);rw [decide_eq_false b,decide_eq_true a.1,decide_eq_true (show t≤2*m.length by omega)];rfl
  ·unfold NG;rw [hx,show T - 1+1=T by omega,hw,decide_eq_true rfl];rfl
 unfold QT;rw [hN];unfold aIQ;apply List.ext_getElem?;intro i;cases i with
 |zero =>
  rw [List.getElem?_cons_zero,List.getElem?_map,List.getElem?_range (by omega)];rfl
 |succ i =>
  rw [List.getElem?_cons_succ,List.getElem?_map,List.getElem?_map];by_cases h:i<T - 1
  ·rw [List.getElem?_range h,List.getElem?_range (by omega)];simp only [Option.map_some];rw [hx]
  ·rw [List.getElem?_eq_none (by rw [List.length_range];omega),List.getElem?_eq_none (by rw [List.length_range];omega)];rfl
theorem I7 (l:List Pt)(m:List Ed){w:List Int}(hw:XP (aL l m m.length) w=true):∀ k,k≤w.length→LS l m w k=GQ l (aL l m m.length) w k
 |0,_=>rfl
 |k+1,h=>by
  unfold LS GQ;rw [I7 l m hw k (by omega)];have hk:=oD hw (i:=k) (by omega);rw [aY] at hk;have:=BU l m hk.1 (by omega);unfold aDR crI jY;rw [this.1,this.2]
structure Fre (m:List Ed) (s:Fst) (t:K7):Prop where
 len:s.of.length=2*m.length
 seen:t.seen.length=2*m.length
 face:t.face.length=2*m.length
 of:∀ i,i<2*m.length→(cM t.seen i=true∧0≤aH s.of i∧aH s.of i=aH t.face i)∨(cM t.seen i=false∧aH s.of i<0)
 many:s.faces=t.many
 low:0≤t.many
 out:s.outside=t.out
 ok:s.ok=!t.flat
theorem aAa (hp:iP l m n=true){s:Fst}{t:K7}(h:Fre m s t){d:Nat}(hd:d<2*m.length):Fre m (P9 l m s d) (jC l (aL l m m.length) (outs l m) t d)∧cM (jC l (aL l m m.length) (outs l m) t d).seen d=true∧∀ i,cM t.seen i=true→i<2*m.length→cM (jC l (aL l m m.length) (outs l m) t d).seen i=true:=by
 have hok:=cN hp;unfold P9 jC;rcases h.of d hd with ⟨h1,h2,h3⟩|⟨h1,h2⟩
 ·rw [if_pos h2,if_pos h1];exact⟨h,h1,fun i hi _=>hi⟩
 ·rw [if_neg (by omega),if_neg (by rw [h1];decide)];simp only;rw [aAx hp hd];have w:=QB (l:=l) (EP hok) (d:=d) (by rw [aY];exact hd);have hfirst:aH (nS (aL l m m.length) (outs l m) d) 0=d:=by
   unfold nS;unfold aH;rw [List.getD_eq_getElem?_getD,List.getElem?_map,List.getElem?_range (by
    have:=(gP (aL l m m.length) (outs l m) d (aL l m m.length).length 1).1;unfold gB;omega)]
   rfl
  generalize nS (aL l m m.length) (outs l m) d=W at w hfirst ⊢;rw [I7 l m w.1 _ (Nat.le_refl _),h.many,h.out,h.ok];generalize GQ l (aL l m m.length) W W.length=A;have hr:∀ t,t<W.length→(aH W t).toNat<2*m.length:=fun t ht=>by
   have:=oD w.1 (i:=t) ht;rw [aY] at this;omega
  have hset:∀ fc:Int,0≤fc→∀ i,i<2*m.length→(cM (eN t.seen W W.length) i=true∧0≤aH (eU s.of W fc W.length) i∧aH (eU s.of W fc W.length) i=aH (eU t.face W fc W.length) i)∨(cM (eN t.seen W W.length) i=false∧aH (eU s.of W fc W.length) i<0):=fun fc hfc i hi=>by
   obtain⟨a1,a2⟩:=nM s.of W fc (by rw [h.len];exact hr) i _ (Nat.le_refl _);obtain⟨b1,b2⟩:=nM t.face W fc (by rw [h.face];exact hr) i _ (Nat.le_refl _);obtain⟨c1,c2⟩:=nH t.seen W (by rw [h.seen];exact hr) i _ (Nat.le_refl _);by_cases e:∃ k,k<W.length∧(aH W k).toNat=i
   ·rw [a1 e,b1 e,c1 e];exact .inl ⟨rfl,hfc,rfl⟩
   ·rw [a2 e,b2 e,c2 e];exact h.of i hi
  refine⟨⟨by rw [iU];exact h.len,by rw [jO];exact h.seen,by rw [iU];exact h.face,?_,rfl,?_,?_,?_⟩,?_,?_⟩
  ·have:=h.low;by_cases hA:0<A
   ·simp only [if_pos hA];exact hset _ (by omega)
   ·simp only [if_neg hA];exact hset _ (by omega)
  ·have:=h.low;show 0≤if 0<A then t.many+1 else t.many
   split <;> omega
  ·show (if A<0 then t.out+1 else t.out)=if 0<A then t.out else if A<0 then t.out+1 else t.out
   split <;> split <;> (first|rfl|omega)
  ·show (if A=0 then false else !t.flat)=!(if 0<A then t.flat else if A<0 then t.flat else true);by_cases hA:0<A
   ·rw [if_pos hA,if_neg (by omega)]
   ·by_cases hA2:A<0
    ·rw [if_neg hA,if_pos hA2,if_neg (by omega)]
    ·rw [if_neg hA,if_neg hA2,if_pos (by omega)];rfl
  ·exact (nH t.seen W (by rw [h.seen];exact hr) d _ (Nat.le_refl _)).1 ⟨0,by omega,by rw [hfirst];rfl⟩
  ·intro i hi hi2;obtain⟨c1,c2⟩:=nH t.seen W (by rw [h.seen];exact hr) i _ (Nat.le_refl _);by_cases e:∃ k,k<W.length∧(aH W k).toNat=i
   ·exact c1 e
   ·show cM (eN t.seen W W.length) i=true;rw [c2 e];exact hi
theorem BS (hp:iP l m n=true):∀ d,d≤2*m.length→Fre m (LB l m d) (bS l (aL l m m.length) (outs l m) d)∧∀ i,i<d→cM (bS l (aL l m m.length) (outs l m) d).seen i=true
 |0,_=>by
  refine⟨⟨by simp [LB],by simp [bS,aY],by simp [bS,aY],fun i hi=>.inr ?_,rfl,Int.le_refl 0,rfl,rfl⟩,fun i hi=>by omega⟩;unfold LB bS cM aH;rw [List.getD_eq_getElem?_getD,List.getD_eq_getElem?_getD,List.getElem?_replicate,List.getElem?_replicate,aY,if_pos hi,if_pos hi];exact⟨rfl,by decide⟩
 |d+1,h=>by
  obtain⟨i1,i2⟩:=BS hp d (by omega);obtain⟨a1,a2,a3⟩:=aAa hp i1 (d:=d) (by omega);refine⟨a1,fun i hi=>?_⟩;by_cases e:i=d
  ·rw [e];exact a2
  ·exact a3 i (i2 i (by omega)) (by omega)
theorem PY {f g:Nat→Bool}{n:Nat}(h:∀ i,i<n→f i=g i):mG f n=mG g n:=by
 rw [Bool.eq_iff_iff];exact⟨fun a=>kJ fun i hi=>by rw [← h i hi];exact eH a hi,fun a=>kJ fun i hi=>by rw [h i hi];exact eH a hi⟩
theorem aCF (hp:iP l m n=true):(vC (bX l m)&&(decide ((bX l m).many=n)&&mG (GA l m) m.length))=(aEQ (mK l m)&&(decide ((mK l m).faces=n)&&mG (faB m (mK l m).of) m.length)):=by
 obtain⟨_,_,_,_,_,hn,_⟩:=fC (cN hp);obtain⟨h1,h2⟩:=BS hp (2*m.length) (Nat.le_refl _);have e:bX l m=bS l (aL l m m.length) (outs l m) (2*m.length):=by
  unfold bX nmD;rw [aY]
 have hof:∀ i,i<2*m.length→aH (mK l m).of i=aH (bX l m).face i:=fun i hi=>by
  rw [e];rcases h1.of i hi with ⟨_,_,h⟩|⟨h,_⟩
  ·exact h
  ·rw [h2 i hi] at h;cases h
 have hall:mG (GA l m) m.length=mG (faB m (mK l m).of) m.length:=by
  refine PY fun i hi=>?_;unfold GA faB;rw [hof (2*i) (by omega),hof (2*i+1) (by omega)]
 rw [hall];unfold vC aEQ;have k1:(mK l m).faces=(bX l m).many:=(by rw [e];exact h1.many);have k2:(mK l m).outside=(bX l m).out:=(by rw [e];exact h1.out);have k3:(mK l m).ok=!(bX l m).flat:=(by rw [e];exact h1.ok);rw [k1,k2,k3];by_cases hc:(bX l m).many=n
 ·rw [decide_eq_true hc,decide_eq_true (show 1≤(bX l m).many by omega)];cases decide ((bX l m).out=1) <;> cases (bX l m).flat <;> rfl
 ·rw [decide_eq_false hc];simp
end
end Go.Aw
end
