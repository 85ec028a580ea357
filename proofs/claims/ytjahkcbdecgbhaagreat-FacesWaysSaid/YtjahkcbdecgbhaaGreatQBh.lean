/-
  Parts of a proof. No condition.
-/
import Derived.Test.YtjahkcbdecgbhaaGreatQAs
import Derived.Test.YtjahkcbdecgbhaaGreatQAv
import Derived.Test.YtjahkcbdecgbhaaGreatQBe
import Derived.Test.YtjahkcbdecgbhaaGreatQBf
import Derived.Test.YtjahkcbdecgbhaaGreatQBg
set_option linter.unusedSimpArgs false
set_option linter.unusedVariables false
noncomputable section
namespace Go.Aw
set_option maxRecDepth 100000
theorem vJ (D:List Dt)(x y:Int):jZ D x y=true↔yI (eX (cB D x.toNat)) (eX (cB D y.toNat)):=by
 unfold jZ aCY;generalize eX (cB D x.toNat)=u;generalize eX (cB D y.toNat)=v;rw [decide_eq_true_iff];have hu:DE u=true↔lo u:=(by unfold DE lo;simp);have hv:DE v=true↔lo v:=(by unfold DE lo;simp);have hc:crP u v=cr u v:=rfl;unfold S3 yI jL;rw [hc];cases h1:DE u <;> cases h2:DE v <;> rw [h1] at hu <;> rw [h2] at hv <;> simp only [Bool.false_eq_true,false_iff,true_iff,if_true,if_false] at hu hv ⊢ <;> simp only [hu,hv,not_true,not_false_iff,true_and,false_and,false_or,or_false,and_false,iff_true,true_iff,iff_false,not_false_eq_true]
 ·split <;> (try split) <;> omega
 ·simp
 ·simp
 split <;> (try split) <;> omega
theorem SM {a b c:Pt}(h1:gC a b=true)(h2:gC b c=true):gC a c=true:=by
 simp only [gC,Bool.or_eq_true,Bool.and_eq_true,decide_eq_true_eq] at *;omega
section
variable {l:List Pt}{m:List Ed}{n:Int}
theorem T0 (hok:dG l m n=true):∀ {j i:Nat},i<j→j<l.length→gC (jG l i) (jG l j)=true
 |0,i,h,_=>by omega
 |j+1,i,h,hj=>by
  simp only [dG,Bool.and_eq_true] at hok;have h1:=fY hok.2.1 hj;simp only [C8,Bool.and_eq_true,Bool.or_eq_true,decide_eq_true_eq] at h1;have h2:gC (jG l j) (jG l (j+1))=true:=by
   rcases h1.2 with h|h
   ·omega
   exact h
  by_cases e:i=j
  ·rw [e];exact h2
  exact SM (T0 (by simp only [dG,Bool.and_eq_true];exact hok) (show i<j by omega) (by omega)) h2
theorem K6 (hok:dG l m n=true){i:Nat}(hi:i<m.length):0≤(cH m i).a∧(cH m i).a<(cH m i).b∧(cH m i).b<l.length:=by
 simp only [dG,Bool.and_eq_true] at hok;have h1:=fY hok.2.2.1 hi;simp only [I0,Bool.and_eq_true,decide_eq_true_eq] at h1;exact⟨h1.1.1.1.1.1,h1.1.1.1.1.2,h1.1.1.1.2⟩
theorem BO (hok:dG l m n=true){i:Nat}(hi:i<2*m.length):nz (eX (cB (bD l m m.length) i)):=by
 obtain⟨h1,h2,h3⟩:=K6 hok (i:=i / 2) (by omega);have h4:=T0 hok (i:=(cH m (i / 2)).a.toNat) (j:=(cH m (i / 2)).b.toNat) (by omega) (by omega);simp only [gC,Bool.or_eq_true,Bool.and_eq_true,decide_eq_true_eq] at h4;unfold nz;rcases m9 (l:=l) (m:=m) hi with ⟨e,h⟩|⟨e,h⟩
 ·rw [h];simp only [eX,dA,eF];omega
 rw [h];simp only [eX,dB,eF];omega
theorem aE1 (hok:dG l m n=true):Ord (bD l m m.length) (fun x=>0≤x∧x<(2*m.length:Nat)) where
 trans:=fun x y z hx hy hz h1 h2=>by
  have nx:=BO hok (i:=x.toNat) (by omega);have ny:=BO hok (i:=y.toNat) (by omega);have nz':=BO hok (i:=z.toNat) (by omega);unfold A8 at *;have b1:¬ yI (eX (cB (bD l m m.length) y.toNat)) (eX (cB (bD l m m.length) x.toNat)):=fun h=>(by rw [(vJ _ _ _).2 h] at h1;cases h1);have b2:¬ yI (eX (cB (bD l m m.length) z.toNat)) (eX (cB (bD l m m.length) y.toNat)):=fun h=>(by rw [(vJ _ _ _).2 h] at h2;cases h2);cases h:jZ (bD l m m.length) z x with
  |false=>rfl
  |true=>exact absurd ((vJ _ _ _).1 h) (UC nx ny nz' b1 b2)
 asym:=fun x y hx hy h=>by
  unfold A8;cases h2:jZ (bD l m m.length) y x with
  |false=>rfl
  |true=>exact absurd ((vJ _ _ _).1 h2) (YE ((vJ _ _ _).1 h))
theorem Y4 (D:List Dt)(s j:Nat):(SJ D s j).Nodup:=by
 unfold SJ;unfold List.Nodup;rw [List.pairwise_map];have h:List.Pairwise (fun a b:Nat=>a≠b) ((List.range j).filter fun i=>decide ((cB D i).fr.toNat=s)):=List.Pairwise.filter _ List.nodup_range;exact h.imp fun {a b} h e=>h (Int.ofNat.inj e)
theorem MQ (D:List Dt)(s j:Nat):(SJ D s j).length≤j:=by
 unfold SJ;rw [List.length_map];exact Nat.le_trans (List.length_filter_le _ _) (by rw [List.length_range];exact Nat.le_refl _)
theorem aF5 (hok:dG l m n=true){s:Nat}(hs:s<l.length):bR (outs l m) s=sP (bD l m m.length) 1000 (SJ (bD l m m.length) s (2*m.length)):=by
 have hM:=(kW hok).1;have hfr:∀ i,i<2*m.length→(cB (bD l m m.length) i).fr.toNat<l.length∧(cB (bD l m m.length) i).no=i:=fun i hi=>by
  have:=mN (l:=l) hM hi;omega
 unfold outs;rw [S1 _ _ (by rw [oH];exact Nat.le_refl _),if_pos hs,D7 _ hfr]
theorem zK (hok:dG l m n=true){s:Nat}(hs:s<l.length):So (bD l m m.length) (bR (outs l m) s) 0 (bR (outs l m) s).length∧(bR (outs l m) s).Perm (SJ (bD l m m.length) s (2*m.length)):=by
 obtain⟨hM,h3,h1,h4,h5,_,_⟩:=kW hok;rw [aF5 hok hs];have hl:=MQ (bD l m m.length) s (2*m.length);have:=aEK (aE1 hok) (f:=1000) (L:=SJ (bD l m m.length) s (2*m.length)) (by omega) (fun i _ hi=>by
  have hm:aD (SJ (bD l m m.length) s (2*m.length)) i∈SJ (bD l m m.length) s (2*m.length):=by
   rw [dM hi];exact List.getElem_mem hi
  obtain⟨k,hk,e,_⟩:=NP hm;rw [e];omega)
 rw [PH];exact this
theorem j3 (hok:dG l m n=true){s:Nat}(hs:s<l.length){x:Int}:x∈bR (outs l m) s↔∃ i:Nat,i<2*m.length∧x=i∧(cB (bD l m m.length) i).fr.toNat=s:=by
 rw [(zK hok hs).2.mem_iff];exact⟨NP,fun ⟨i,h1,h2,h3⟩=>by rw [h2];exact SV h1 h3⟩
theorem G5 (hok:dG l m n=true){s:Nat}(hs:s<l.length):(bR (outs l m) s).Nodup:=(zK hok hs).2.symm.nodup (Y4 _ _ _)
theorem EL {d:Int}{E:Nat}(h0:0≤d)(h1:d<(2*E:Nat)):0≤fG d∧fG d<(2*E:Nat):=by unfold fG;split <;> omega
theorem KJ {d:Int}(h0:0≤d):fG (fG d)=d:=by unfold fG;split <;> split <;> omega
theorem MJ (l:List Pt)(m:List Ed){d:Int}(h0:0≤d)(h1:d<(2*m.length:Nat)):(cB (bD l m m.length) (fG d).toNat).fr=(cB (bD l m m.length) d.toNat).tt∧(cB (bD l m m.length) (fG d).toNat).tt=(cB (bD l m m.length) d.toNat).fr∧eX (cB (bD l m m.length) (fG d).toNat)=zE (eX (cB (bD l m m.length) d.toNat)):=by
 obtain⟨hd1,hd2⟩:=GD l m (N:=m.length) (i:=d.toNat / 2) (by omega);unfold fG;by_cases e:d % 2=0
 ·rw [if_pos e,show (d+1).toNat=2*(d.toNat / 2)+1 by omega,show cB (bD l m m.length) d.toNat=dA l m (d.toNat / 2) by rw [← hd1];congr 1;omega,hd2];refine⟨rfl,rfl,?_⟩;simp only [eX,dA,dB,zE,Prod.mk.injEq];omega
 rw [if_neg e,show (d - 1).toNat=2*(d.toNat / 2) by omega,show cB (bD l m m.length) d.toNat=dB l m (d.toNat / 2) by rw [← hd2];congr 1;omega,hd1];refine⟨rfl,rfl,?_⟩;simp only [eX,dA,dB,zE,Prod.mk.injEq];omega
theorem J6 {x:Int}:∀ {L:List Int} {i:Nat},x∈L→∃ k,k<L.length∧r6 x L i=((i+k:Nat):Int)∧aD L k=x
 |[],i,h=>by cases h
 |b::r,i,h=>by
  unfold r6;by_cases e:x=b
  ·rw [if_pos e];exact⟨0,Nat.succ_pos _,rfl,e.symm⟩
  rw [if_neg e];rcases List.mem_cons.1 h with h|h
  ·exact absurd h e
  obtain⟨k,h1,h2,h3⟩:=J6 (L:=r) (i:=i+1) h;refine⟨k+1,by simpa using h1,by rw [h2];congr 1;omega,?_⟩;rw [← h3];rfl
theorem tY (hok:dG l m n=true){d:Int}(h0:0≤d)(h1:d<(2*m.length:Nat)):∃ (s a:Nat),s=(cB (bD l m m.length) d.toNat).tt.toNat∧s<l.length∧UE (bD l m m.length) (outs l m) d=bR (outs l m) s∧a<(bR (outs l m) s).length ∧
  r6 (fG d) (bR (outs l m) s) 0=a∧aD (bR (outs l m) s) a=fG d∧CO (bD l m m.length) (outs l m) d=aD (bR (outs l m) s) (if a=0 then (bR (outs l m) s).length - 1 else a - 1):=by
 obtain⟨hM,h3,h5,h4,h6,_,_⟩:=kW hok;have hf:=mN (l:=l) hM (i:=d.toNat) (by omega);have hb:=EL (E:=m.length) h0 h1;have hbd:=MJ l m h0 h1;refine⟨(cB (bD l m m.length) d.toNat).tt.toNat,?_⟩;have hs:(cB (bD l m m.length) d.toNat).tt.toNat<l.length:=(by omega);have hmem:fG d∈bR (outs l m) (cB (bD l m m.length) d.toNat).tt.toNat:=(j3 hok hs).2 ⟨(fG d).toNat,by omega,by omega,by rw [hbd.1]⟩;obtain⟨k,k1,k2,k3⟩:=J6 (i:=0) hmem;rw [Nat.zero_add] at k2;refine⟨k,rfl,hs,rfl,k1,k2,k3,?_⟩;unfold CO UE;rw [k2];congr 1;split
 ·rename_i e;rw [e];have:((0:Nat):Int) - 1+((bR (outs l m) (cB (bD l m m.length) d.toNat).tt.toNat).length:Int)=(((bR (outs l m) (cB (bD l m m.length) d.toNat).tt.toNat).length - 1:Nat):Int):=(by omega);rw [this,Int.emod_eq_of_lt (by omega) (by omega)];rfl
 have:(k:Int) - 1+((bR (outs l m) (cB (bD l m m.length) d.toNat).tt.toNat).length:Int)=((k - 1:Nat):Int)+(bR (outs l m) (cB (bD l m m.length) d.toNat).tt.toNat).length:=(by omega);rw [this,Int.add_emod_right,Int.emod_eq_of_lt (by omega) (by omega)];rfl
theorem at_mem {L:List Int}{i:Nat}(h:i<L.length):aD L i∈L:=by rw [dM h];exact List.getElem_mem h
theorem RH (hok:dG l m n=true){d:Int}(h0:0≤d)(h1:d<(2*m.length:Nat)):0≤CO (bD l m m.length) (outs l m) d∧CO (bD l m m.length) (outs l m) d<(2*m.length:Nat)∧(cB (bD l m m.length) (CO (bD l m m.length) (outs l m) d).toNat).fr.toNat=(cB (bD l m m.length) d.toNat).tt.toNat:=by
 obtain⟨s,a,e1,hs,e2,ha,e3,e4,e5⟩:=tY hok h0 h1;rw [e5];have hi:(if a=0 then (bR (outs l m) s).length - 1 else a - 1)<(bR (outs l m) s).length:=(by split <;> omega);obtain⟨i,i1,i2,i3⟩:=(j3 hok hs).1 (at_mem hi);rw [i2];exact⟨by omega,by omega,by rw [← e1];exact i3⟩
theorem Q6 {L:List Int}(h:L.Nodup){i j:Nat}(hi:i<L.length)(hj:j<L.length)(e:aD L i=aD L j):i=j:=by
 rw [dM hi,dM hj] at e;exact (List.getElem_inj h).1 e
theorem aHm (hok:dG l m n=true){d d':Int}(h0:0≤d)(h1:d<(2*m.length:Nat))(h0':0≤d')(h1':d'<(2*m.length:Nat))(e:CO (bD l m m.length) (outs l m) d=CO (bD l m m.length) (outs l m) d'):d=d':=by
 have hn:=(RH hok h0 h1).2.2;have hn':=(RH hok h0' h1').2.2;obtain⟨s,a,e1,hs,e2,ha,e3,e4,e5⟩:=tY hok h0 h1;obtain⟨s',a',e1',hs',e2',ha',e3',e4',e5'⟩:=tY hok h0' h1';have hss:s=s':=(by rw [e1,e1',← hn,← hn',e]);subst hss;rw [e5,e5'] at e;have:=Q6 (G5 hok hs) (by split <;> omega) (by split <;> omega) e;have haa:a=a':=by
  split at this <;> split at this <;> omega
 have hb:fG d=fG d':=(by rw [← e4,← e4',haa]);rw [← KJ h0,hb,KJ h0']
theorem aBw:∀ (n:Nat) (f:Nat→Nat),(∀ i,i≤n→f i<n)→∃ i j,i<j∧j≤n∧f i=f j
 |0,f,h=>by have:=h 0 (Nat.le_refl 0);omega
 |n+1,f,h=>by
  by_cases hc:∃ i,i≤n∧f i=f (n+1)
  ·obtain⟨i,h1,h2⟩:=hc;exact⟨i,n+1,by omega,Nat.le_refl _,h2⟩
  have hne:∀ i,i≤n→f i≠f (n+1):=fun i hi e=>hc ⟨i,hi,e⟩;obtain⟨i,j,h1,h2,h3⟩:=aBw n (fun i=>if f (n+1)<f i then f i - 1 else f i) (fun i hi=>by
   have a1:=h i (by omega);have a2:=h (n+1) (Nat.le_refl _);have a3:=hne i hi;show (if f (n+1)<f i then f i - 1 else f i)<n;split <;> omega)
  refine⟨i,j,h1,by omega,?_⟩;have a1:=hne i (by omega);have a2:=hne j h2;have h3:(if f (n+1)<f i then f i - 1 else f i)=(if f (n+1)<f j then f j - 1 else f j):=h3;split at h3 <;> split at h3 <;> omega
theorem y6 (hok:dG l m n=true){d:Int}(h0:0≤d)(h1:d<(2*m.length:Nat)):∀ i,0≤pX (bD l m m.length) (outs l m) d i∧pX (bD l m m.length) (outs l m) d i<(2*m.length:Nat)
 |0=>⟨h0,h1⟩
 |i+1=>by
  have ih:=y6 hok h0 h1 i;have:=RH hok ih.1 ih.2;exact⟨this.1,this.2.1⟩
theorem W7 (hok:dG l m n=true){d:Int}(h0:0≤d)(h1:d<(2*m.length:Nat)):∀ (i k:Nat),pX (bD l m m.length) (outs l m) d i=pX (bD l m m.length) (outs l m) d (i+k)→d=pX (bD l m m.length) (outs l m) d k
 |0,k,h=>by rw [Nat.zero_add] at h;exact h
 |i+1,k,h=>by
  refine W7 hok h0 h1 i k ?_;have a:=y6 hok h0 h1 i;have b:=y6 hok h0 h1 (i+k);refine aHm hok a.1 a.2 b.1 b.2 ?_;rw [show i+1+k=i+k+1 by omega] at h;exact h
theorem PU (D:List Dt)(ls:List (List Int))(d:Int):∀ (k i N:Nat),i≤N→N<i+k→pX D ls d N=d→pX D ls d (HT D ls d k i)=d
 |0,i,N,h1,h2,_=>by omega
 |k+1,i,N,h1,h2,h3=>by
  unfold HT;split
  ·assumption
  rename_i h;refine PU D ls d k (i+1) N ?_ (by omega) h3;rcases Nat.lt_or_ge i N with h4|h4
  ·exact h4
  exact absurd (by rw [show i=N by omega];exact h3) h
theorem LK (hok:dG l m n=true):aBR (bD l m m.length) (outs l m)=true:=by
 refine List.all_eq_true.2 fun d hd=>decide_eq_true ?_;have hd:=List.mem_range.1 hd;rw [bP] at hd;obtain⟨i,j,h1,h2,h3⟩:=aBw (2*m.length) (fun i=>(pX (bD l m m.length) (outs l m) d i).toNat) (fun i _=>by
  have:=y6 hok (d:=d) (by omega) (by omega) i;show (pX (bD l m m.length) (outs l m) d i).toNat<2*m.length;omega)
 have a:=y6 hok (d:=(d:Int)) (by omega) (by omega) i;have b:=y6 hok (d:=(d:Int)) (by omega) (by omega) j;have e:=W7 hok (d:=(d:Int)) (by omega) (by omega) i (j - i) (by rw [show i+(j - i)=j by omega];have h3:(pX (bD l m m.length) (outs l m) d i).toNat=(pX (bD l m m.length) (outs l m) d j).toNat:=h3;omega);unfold pG;rw [bP];exact PU _ _ _ _ 1 (j - i) (by omega) (by omega) e.symm
theorem aKB (hok:dG l m n=true):IB l (bD l m m.length) (outs l m)=true:=by
 obtain⟨hM,h3,h5,h4,h6,_,_⟩:=kW hok;simp only [IB,Bool.and_eq_true,decide_eq_true_eq];refine⟨⟨⟨⟨List.all_eq_true.2 fun p hp=>?_,List.all_eq_true.2 fun e he=>?_⟩,by rw [bP];omega⟩,gY l m⟩,by omega⟩
 ·obtain⟨i,hi,rfl⟩:=List.getElem_of_mem hp;have:=rG hok hi;rw [n9 hi] at this;unfold wide;simp only [Bool.and_eq_true,decide_eq_true_eq];omega
 obtain⟨i,hi,rfl⟩:=List.getElem_of_mem he;rw [← pR hi];rw [bP] at hi;have:=mN (l:=l) hM hi;simp only [Bool.and_eq_true,decide_eq_true_eq];omega
theorem LV (hok:dG l m n=true):wJ l (bD l m m.length) (outs l m)=true:=by
 obtain⟨hM,h3,h5,h4,h6,_,_⟩:=kW hok;unfold wJ;rw [aKB hok,Bool.true_and];refine List.all_eq_true.2 fun i hi=>?_;have hi:=List.mem_range.1 hi;rw [bP] at hi;have hn:=RH hok (d:=(i:Int)) (by omega) (by omega);obtain⟨s,a,e1,hs,e2,ha,e3,e4,e5⟩:=tY hok (d:=(i:Int)) (by omega) (by omega);have hf:=mN (l:=l) hM (i:=i) hi;have hlen:(bR (outs l m) s).length≤1000:=by
  have h7:=(zK hok hs).2.length_eq;have h8:=MQ (bD l m m.length) s (2*m.length);omega
 simp only [Bool.and_eq_true,decide_eq_true_eq];refine⟨?_,hn.1,by rw [bP];omega⟩;unfold nxB;rw [e2,e3,bP,gY];simp only [Bool.and_eq_true,decide_eq_true_eq,Int.toNat_natCast];omega
theorem aGP (hok:dG l m n=true):Z1 (bD l m m.length) (outs l m)=true:=by
 obtain⟨hM,h3,h5,h4,h6,_,_⟩:=kW hok;refine List.all_eq_true.2 fun L hL=>?_;obtain⟨s,hs,rfl⟩:=List.getElem_of_mem hL;have hs':=hs;rw [gY] at hs';have e:(outs l m)[s]=bR (outs l m) s:=by
  unfold bR;rw [List.getD_eq_getElem?_getD,List.getElem?_eq_getElem hs];rfl
 rw [e];have h7:=(zK hok hs').2.length_eq;have h8:=MQ (bD l m m.length) s (2*m.length);have h9:=UY hok hs';simp only [Bool.and_eq_true,decide_eq_true_eq];refine⟨⟨by omega,by omega⟩,List.all_eq_true.2 fun x hx=>?_⟩;obtain⟨i,i1,i2,_⟩:=(j3 hok hs').1 hx;simp only [Bool.and_eq_true,decide_eq_true_eq,bP];omega
end
end Go.Aw
end

noncomputable section
namespace Go.Aw
set_option maxRecDepth 100000
set_option maxHeartbeats 2000000
theorem JU (n:Nat):∀ {h:Heap},gM h=true→gM (mR n h)=true
 |[],_=>rfl
 |(k,o)::r,h=>by
  simp only [gM,Bool.and_eq_true] at h;simp only [mR,gM,Bool.and_eq_true];refine⟨?_,JU n h.2⟩;cases o with
  |cells wr g sz cs=>rfl
  |_=>exact h.1
def aKD:Nat × XF:=(69,fun args h nx K=>∃ l m n p q,args=[mapA p q n]∧iQ aT h p l∧iQ aW h q m∧(l.length≤1000∧m.length≤1000) ∧
 ((c9 l m n=true∧K (.tuple #[.pointer (some ⟨nx+7,0,none⟩),iv 0]) (app (mR nx (D6 l m (pE p) (pE q) n)) (eY h)) (nx+2004))∨(c9 l m n=false∧K (.tuple #[.pointer none,iv 1]) h nx)))
theorem aMo:cT Go.Proofs.Tryz.prog aKD.1 aKD.2:=by
 refine (jD (S:=fun args0 h0 n0 v1 h1 j=>∃ l m n c1 c2,(l.length≤1000∧m.length≤1000)∧args0=[aG l.length m.length c1 c2 n]∧h0=aB aT aW l m∧n0=2 ∧
  ((c9 l m n=true∧v1=.tuple #[.pointer (some ⟨7,0,none⟩),iv 0]∧h1=D6 l m c1 c2 n∧j=2004)∨(c9 l m n=false∧v1=.tuple #[.pointer none,iv 1]∧h1=[]∧j=0))) (aL (xl:=[XC,aFK,U2,W6,U4,(155,aIf)]) (.cons aKg (.cons aL8 (.cons aG5 (.cons aK5 (.cons aKo (.cons aKe .nil))))))) ?_).mono ?_ ?_
 ·rintro args0 h0 n0 v1 h1 j ⟨l,m,n,c1,c2,⟨hl,hm⟩,rfl,rfl,rfl,hc⟩;have hw:=w69 l m n c1 c2 hl hm fun hok=>⟨LV hok,LK hok,aGP hok,(kW hok).2.2.1⟩;rcases hc with ⟨ho,rfl,rfl,rfl⟩|⟨ho,rfl,rfl,rfl⟩
  ·refine⟨JU 3 yD,_,hw,fun v h nx e=>?_⟩;rcases e with ⟨_,e⟩|⟨e,_⟩
   ·exact e
   rw [ho] at e;cases e
  refine⟨rfl,_,hw,fun v h nx e=>?_⟩;rcases e with ⟨e,_⟩|⟨_,rfl⟩
  ·rw [ho] at e;cases e
  exact mG rfl
 ·rintro args h nx K ⟨l,m,n,p,q,rfl,hl,hm,hlm,hx⟩;rcases hx with ⟨ho,hx⟩|⟨ho,hx⟩
  ·refine⟨_,_,2,_,_,_,⟨l,m,n,pE p,pE q,hlm,rfl,rfl,rfl,.inl ⟨ho,rfl,rfl,rfl⟩⟩,NB aT aW rfl hl hm,?_⟩;have e:jX (fun k=>nx+k) (.tuple #[.pointer (some ⟨7,0,none⟩),iv 0])=.tuple #[.pointer (some ⟨nx+7,0,none⟩),iv 0]:=(by simp [jX,tr,eD,bT,eG,mB];rfl);rw [e];exact hx
  refine⟨_,_,2,_,[],0,⟨l,m,n,pE p,pE q,hlm,rfl,rfl,rfl,.inr ⟨ho,rfl,rfl,rfl⟩⟩,NB aT aW rfl hl hm,?_⟩;simp only [qK,wR,mR,m8,Nat.add_zero];rw [tP rfl];exact hx
 rintro args h nx K ⟨l,m,n,p,q,rfl,hl,hm,hlm,hx⟩;rcases hx with ⟨ho,hx⟩|⟨ho,hx⟩
 ·exact⟨_,_,_,hx,fun K' hk=>⟨l,m,n,p,q,rfl,hl,hm,hlm,.inl ⟨ho,hk⟩⟩⟩
 exact⟨_,_,_,hx,fun K' hk=>⟨l,m,n,p,q,rfl,hl,hm,hlm,.inr ⟨ho,hk⟩⟩⟩
def ckP (l:List Pt)(m:List Ed)(n:Int):List Value→Option (Bool × Value)
 |[]=>some (decide (l.length≤1000)&&decide (m.length≤1000),iv (if c9 l m n=true then 0 else 1))
 |_=>none
def aMS:Nat × XF:=(17,mX aT aW ckP)
end Go.Aw
end

noncomputable section
namespace Go.Aw
set_option maxRecDepth 100000
def tI (p q:Pt):V2:=(p.1 - q.1,p.2 - q.2)
theorem HL (v a b:Pt):bG v a b=cr (tI a v) (tI b v):=rfl
theorem uT {a b:Pt}(h:gC a b=true):lA a b = -1:=by
 rw [AS] at h;have h:=of_decide_eq_true h;rcases yK a b with e|e|e <;> omega
theorem P5 (a:Pt):lA a a=0:=by
 unfold lA orI jL;simp
theorem vR {s:Sg}(h:gC s.1 s.2=true):bX s=s:=by
 have:=uT h;unfold bX;rw [this];simp
theorem aDS (a b:Pt):bG a b a=0:=by unfold bG;simp
theorem aEu (a b:Pt):bG a b b=0:=by unfold bG;rw [Int.mul_comm];omega
theorem aBp {s t:Sg}(h1:eH s=true)(h2:eH t=true)(l1:gC s.1 s.2=true)(l2:gC t.1 t.2=true)(e:s.1=t.1)(hc:bG s.1 s.2 t.2=0):fT s t=4:=by
 unfold fT;rw [if_pos ⟨h1,h2⟩];unfold sE bE;rw [hc,← e,aDS];rw [if_pos ⟨rfl,rfl⟩];unfold OY CZ;rw [vR l1,vR l2,← e,P5,if_neg (by omega)];split
 ·rw [e,uT l2];rfl
 rw [uT l1];rfl
theorem VK {s t:Sg}(h1:eH s=true)(h2:eH t=true)(l1:gC s.1 s.2=true)(l2:gC t.1 t.2=true)(e:s.2=t.2)(hc:bG s.1 s.2 t.1=0):fT s t=4:=by
 unfold fT;rw [if_pos ⟨h1,h2⟩];unfold sE bE;rw [hc,← e,aEu];rw [if_pos ⟨rfl,rfl⟩];unfold OY CZ;rw [vR l1,vR l2,show lA t.2 s.2=0 by rw [← e];exact P5 _,if_neg (c:=(0:Int)<0) (by omega)];split
 ·rw [e,uT l2];rfl
 rw [uT l1];rfl
section
variable {l:List Pt}{m:List Ed}{n:Int}
theorem R4 (hok:dG l m n=true){i:Nat}(hi:i<m.length):eH (cY l m i)=true∧gC (cY l m i).1 (cY l m i).2=true:=by
 obtain⟨h1,h2,h3⟩:=K6 hok hi;have h4:=T0 hok (i:=(cH m i).a.toNat) (j:=(cH m i).b.toNat) (by omega) (by omega);have pa:=rG hok (i:=(cH m i).a.toNat) (by omega);have pb:=rG hok (i:=(cH m i).b.toNat) (by omega);refine⟨?_,h4⟩;unfold eH bV;have hne:jW (cY l m i).1 (cY l m i).2=false:=by
  rw [jQ];intro e;have h4:gC (cY l m i).1 (cY l m i).2=true:=h4;rw [e] at h4;simp [gC] at h4
 rw [hne];simp only [Bool.and_eq_true,decide_eq_true_eq,Bool.not_false,and_true];simp only [cY,eF];omega
theorem aIQ (hp:iD l m n=true){i k:Nat}(hi:i<m.length)(hk:k<m.length)(hne:i≠k):fT (cY l m i) (cY l m k)≠4∨fT (cY l m k) (cY l m i)≠4:=by
 simp only [iD,Bool.and_eq_true] at hp;rcases Nat.lt_or_ge k i with h|h
 ·have:=fY (f:=fun k=>D4 l m i k) (fY (f:=fun i=>oE (fun k=>D4 l m i k) i) hp.2 hi) h;simp only [D4,Bool.or_eq_true,decide_eq_true_eq] at this;exact .inl (by omega)
 have:=fY (f:=fun i=>D4 l m k i) (fY (f:=fun i=>oE (fun k=>D4 l m i k) i) hp.2 hk) (show i<k by omega);simp only [D4,Bool.or_eq_true,decide_eq_true_eq] at this;exact .inr (by omega)
theorem NJ (l:List Pt)(m:List Ed){i:Nat}(hi:i<2*m.length):eX (cB (bD l m m.length) i)=tI (eF l (cB (bD l m m.length) i).tt) (eF l (cB (bD l m m.length) i).fr):=by
 rcases m9 (l:=l) (m:=m) hi with ⟨e,h⟩|⟨e,h⟩
 ·rw [h];rfl
 rw [h];rfl
theorem U8 {a b:V2}(h:ray a b):(0<a.1∨a.1=0∧0<a.2)→¬ (b.1<0∨b.1=0∧b.2<0):=by
 obtain⟨h1,h2⟩:=h;unfold cr at h1;unfold dt at h2;rintro h3 h4;rcases h3 with h3|⟨h3,h3'⟩
 ·rcases h4 with h4|⟨h4,h4'⟩
  ·-- b=(b1/a1) a,so that both products are negative
   have k1:a.1*b.1<0:=Int.mul_neg_of_pos_of_neg h3 h4;have k2:a.1*(a.2*b.2)=a.2*a.2*b.1:=by
    have:a.1*b.2=a.2*b.1:=(by omega);rw [Int.mul_left_comm,this,← Int.mul_assoc]
   have k3:a.2*a.2*b.1≤0:=Int.mul_nonpos_of_nonneg_of_nonpos (sq0 a.2) (Int.le_of_lt h4);have k4:0<a.2*b.2:=(by omega);have k5:=Int.mul_pos h3 k4;omega
  rw [h4] at h1 h2;have:a.1*b.2<0:=Int.mul_neg_of_pos_of_neg h3 h4';simp only [Int.mul_zero] at h1;omega
 rw [h3] at h1 h2;rcases h4 with h4|⟨h4,h4'⟩
 ·have:a.2*b.1<0:=Int.mul_neg_of_pos_of_neg h3' h4;simp only [Int.zero_mul] at h1;omega
 have:a.2*b.2<0:=Int.mul_neg_of_pos_of_neg h3' h4';simp only [Int.zero_mul] at h2;omega
theorem WC (hok:dG l m n=true){i:Nat}(hi:i<2*m.length):(i % 2=0→0<(eX (cB (bD l m m.length) i)).1∨(eX (cB (bD l m m.length) i)).1=0∧0<(eX (cB (bD l m m.length) i)).2)∧(i % 2=1→(eX (cB (bD l m m.length) i)).1<0∨(eX (cB (bD l m m.length) i)).1=0∧(eX (cB (bD l m m.length) i)).2<0):=by
 have h4:=(R4 hok (i:=i / 2) (by omega)).2;unfold gC at h4;simp only [Bool.or_eq_true,Bool.and_eq_true,decide_eq_true_eq] at h4;simp only [cY] at h4;rcases m9 (l:=l) (m:=m) hi with ⟨e,h⟩|⟨e,h⟩
 ·rw [h];simp only [eX,dA];omega
 rw [h];simp only [eX,dB];omega
theorem NO {a b:V2}(h:ray a b):ray b a:=by
 obtain⟨h1,h2⟩:=h;refine⟨by rw [fH];omega,?_⟩;unfold dt at *;rw [Int.mul_comm b.1,Int.mul_comm b.2];exact h2
theorem aE0 (hp:iD l m n=true){i k:Nat}(hi:i<2*m.length)(hk:k<2*m.length)(hf:(cB (bD l m m.length) i).fr=(cB (bD l m m.length) k).fr)(hr:ray (eX (cB (bD l m m.length) i)) (eX (cB (bD l m m.length) k))):i=k:=by
 have hok:=nC hp;have x1:=WC hok hi;have x2:=WC hok hk;have r1:=U8 hr;have r2:=U8 (NO hr);obtain⟨o1,o2⟩:=R4 hok (i:=i / 2) (by omega);obtain⟨o3,o4⟩:=R4 hok (i:=k / 2) (by omega);have par:i % 2=k % 2:=by
  rcases Nat.mod_two_eq_zero_or_one i with e|e <;> rcases Nat.mod_two_eq_zero_or_one k with e'|e'
  ·omega
  ·exact absurd (x2.2 e') (r1 (x1.1 e))
  ·exact absurd (x1.2 e) (r2 (x2.1 e'))
  omega
 by_cases he:i / 2=k / 2
 ·omega
 exfalso;have hm:=aIQ hp (i:=i / 2) (k:=k / 2) (by omega) (by omega) he;have d1:=NJ l m hi;have d2:=NJ l m hk;rcases m9 (l:=l) (m:=m) hi with ⟨e,h⟩|⟨e,h⟩ <;> rcases m9 (l:=l) (m:=m) hk with ⟨e',h'⟩|⟨e',h'⟩
 ·rw [h,h'] at hf hr;have hv:(cY l m (i / 2)).1=(cY l m (k / 2)).1:=(by show eF l _=eF l _;exact congrArg (eF l) hf);have hc:bG (cY l m (i / 2)).1 (cY l m (i / 2)).2 (cY l m (k / 2)).2=0:=by
   rw [HL];have:=hr.1;rw [show tI (cY l m (k / 2)).2 (cY l m (i / 2)).1=eX (dA l m (k / 2)) by rw [hv];rfl];exact this
  have hc':bG (cY l m (k / 2)).1 (cY l m (k / 2)).2 (cY l m (i / 2)).2=0:=by
   rw [HL];have:=(NO hr).1;rw [show tI (cY l m (i / 2)).2 (cY l m (k / 2)).1=eX (dA l m (i / 2)) by rw [← hv];rfl];exact this
  rcases hm with hm|hm
  ·exact hm (aBp o1 o3 o2 o4 hv hc)
  exact hm (aBp o3 o1 o4 o2 hv.symm hc')
 ·omega
 ·omega
 rw [h,h'] at hf hr;have hv:(cY l m (i / 2)).2=(cY l m (k / 2)).2:=(by show eF l _=eF l _;exact congrArg (eF l) hf);have key:∀ (v a b:Pt),cr (tI a v) (tI b v)=0→bG a v b=0:=fun v a b hh=>by
  unfold cr tI at hh;unfold bG;simp only [Int.mul_sub,Int.sub_mul] at *;rw [Int.mul_comm v.2 v.1,Int.mul_comm v.2 b.1,Int.mul_comm v.2 a.1] at *;rw [Int.mul_comm a.2 b.1] at *;rw [Int.mul_comm a.2 v.1] at *;rw [Int.mul_comm a.2 a.1] at *;omega
 have hc:bG (cY l m (i / 2)).1 (cY l m (i / 2)).2 (cY l m (k / 2)).1=0:=by
  refine key _ _ _ ?_;have:=hr.1;rw [show tI (cY l m (k / 2)).1 (cY l m (i / 2)).2=eX (dB l m (k / 2)) by rw [hv];rfl];exact this
 have hc':bG (cY l m (k / 2)).1 (cY l m (k / 2)).2 (cY l m (i / 2)).1=0:=by
  refine key _ _ _ ?_;have:=(NO hr).1;rw [show tI (cY l m (i / 2)).1 (cY l m (k / 2)).2=eX (dB l m (i / 2)) by rw [← hv];rfl];exact this
 rcases hm with hm|hm
 ·exact hm (VK o1 o3 o2 o4 hv hc)
 exact hm (VK o3 o1 o4 o2 hv.symm hc')
end
theorem OG (v u w x:Pt):qS v u w x=true↔IQ (tI u v) (tI w v) (tI x v):=by
 have h1:∀ a b,CF v a b=rk (tI a v) (tI b v):=fun a b=>rfl;unfold qS IQ;rw [h1,h1,HL];split
 ·rename_i e;rw [decide_eq_true_iff];constructor
  ·exact fun h=>.inr ⟨e,h⟩
  rintro (h|⟨_,h⟩)
  ·omega
  exact h
 rename_i e;rw [decide_eq_true_iff];constructor
 ·exact fun h=>.inl h
 rintro (h|⟨h,_⟩)
 ·exact h
 exact absurd h e
section
variable {l:List Pt}{m:List Ed}{n:Int}
abbrev IV (l:List Pt)(m:List Ed)(x:Int):V2:=eX (cB (bD l m m.length) x.toNat)
theorem aAN (hp:iD l m n=true){s:Nat}(hs:s<l.length){i j:Nat}(hij:i<j)(hj:j<(bR (outs l m) s).length):yI (IV l m (aD (bR (outs l m) s) i)) (IV l m (aD (bR (outs l m) s) j)):=by
 have hok:=nC hp;have hso:=(zK hok hs).1 i j (Nat.zero_le _) hij hj;obtain⟨a,a1,a2,a3⟩:=(j3 hok hs).1 (at_mem (show i<(bR (outs l m) s).length by omega));obtain⟨b,b1,b2,b3⟩:=(j3 hok hs).1 (at_mem hj);have hne:a≠b:=fun e=>by
  have:=Q6 (G5 hok hs) (show i<_ by omega) hj (by rw [a2,b2,e]);omega
 have hM:=(kW hok).1;have fa:=mN (l:=l) hM a1;have fb:=mN (l:=l) hM b1;have na:=BO hok a1;have nb:=BO hok b1;unfold A8 at hso;rw [a2,b2] at hso ⊢;show yI (eX (cB (bD l m m.length) ((a:Int)).toNat)) (eX (cB (bD l m m.length) ((b:Int)).toNat));rw [Int.toNat_natCast,Int.toNat_natCast];rcases ZF na nb (fun hr=>hne (aE0 hp a1 b1 (by omega) hr)) with h|h
 ·exact h
 exfalso;rw [(vJ _ _ _).2 (by rw [Int.toNat_natCast,Int.toNat_natCast];exact h)] at hso;cases hso
theorem aDV (hp:iD l m n=true){d:Int}(h0:0≤d)(h1:d<(2*m.length:Nat)){x:Nat}(hx:x<2*m.length)(hfx:(cB (bD l m m.length) x).fr=(cB (bD l m m.length) d.toNat).tt)(hne:(x:Int)≠CO (bD l m m.length) (outs l m) d) :
  IQ (IV l m (fG d)) (IV l m (CO (bD l m m.length) (outs l m) d)) (IV l m x):=by
 have hok:=nC hp;obtain⟨s,a,e1,hs,e2,ha,e3,e4,e5⟩:=tY hok h0 h1;have hb:=EL (E:=m.length) h0 h1;have hmem:(x:Int)∈bR (outs l m) s:=(j3 hok hs).2 ⟨x,hx,rfl,by rw [hfx,e1]⟩;obtain⟨q,hq,hqe⟩:=List.getElem_of_mem hmem;rw [← dM hq] at hqe;have hord:∀ {i j:Nat},i<j→j<(bR (outs l m) s).length→yI (IV l m (aD (bR (outs l m) s) i)) (IV l m (aD (bR (outs l m) s) j)):=fun hij hj=>aAN hp hs hij hj;have hnz:∀ {i:Nat},i<(bR (outs l m) s).length→nz (IV l m (aD (bR (outs l m) s) i)):=fun {i} hi=>by
  obtain⟨c,c1,c2,_⟩:=(j3 hok hs).1 (at_mem hi);rw [c2];show nz (eX (cB (bD l m m.length) ((c:Int)).toNat));rw [Int.toNat_natCast];exact BO hok c1
 rw [e5] at hne ⊢;rw [← e4,← hqe];rw [← hqe] at hne;generalize bR (outs l m) s=L at *;by_cases ha0:a=0
 ·rw [if_pos ha0] at hne ⊢;have hqn:q≠L.length - 1:=fun e=>hne (by rw [e]);subst ha0;by_cases hq0:q=0
  ·rw [hq0];exact JO (hnz ha) (hnz (by omega)) (.inl (hord (by omega) (by omega)))
  exact three (hnz ha) (hnz (by omega)) (hnz hq) (.inl ⟨hord (by omega) hq,hord (by omega) (by omega),hord (by omega) (by omega)⟩)
 rw [if_neg ha0] at hne ⊢;have hqn:q≠a - 1:=fun e=>hne (by rw [e]);by_cases hqa:q=a
 ·rw [hqa];exact JO (hnz ha) (hnz (by omega)) (.inr (hord (by omega) ha))
 ·rcases Nat.lt_or_ge q a with h|h
  ·exact three (hnz ha) (hnz (by omega)) (hnz hq) (.inr (.inr ⟨hord (by omega) (by omega),hord (by omega) ha,hord (by omega) ha⟩))
  exact three (hnz ha) (hnz (by omega)) (hnz hq) (.inr (.inl ⟨hord (by omega) ha,hord (by omega) hq,hord (by omega) hq⟩))
theorem EB (l:List Pt)(m:List Ed){d:Int}(h0:0≤d)(h1:d<(2*m.length:Nat)):cG m d=(cB (bD l m m.length) d.toNat).fr∧iH m d=(cB (bD l m m.length) d.toNat).tt:=by
 have key:∀ {e:Int},0≤e→e<(2*m.length:Nat)→cG m e=(cB (bD l m m.length) e.toNat).fr:=fun {e} he0 he1=>by
  unfold cG;rcases m9 (l:=l) (m:=m) (N:=m.length) (i:=e.toNat) (by omega) with ⟨x,h⟩|⟨x,h⟩
  ·rw [h,if_pos (by omega),show (e / 2).toNat=e.toNat / 2 by omega];rfl
  rw [h,if_neg (by omega),show (e / 2).toNat=e.toNat / 2 by omega];rfl
 refine⟨key h0 h1,?_⟩;have hb:=EL (E:=m.length) h0 h1;unfold iH;rw [show d+1 - 2*(d % 2)=fG d by unfold fG;split <;> omega,key hb.1 hb.2];exact (MJ l m h0 h1).1
theorem aCN (hp:iD l m n=true){d:Int}(h0:0≤d)(h1:d<(2*m.length:Nat)){k:List Bool}(hk:∀ i,i<2*m.length→dD k i=true):gH l m k d (2*m.length)=CO (bD l m m.length) (outs l m) d:=by
 have hok:=nC hp;have hM:=(kW hok).1;have hn:=RH hok h0 h1;have hfd:=EB l m h0 h1;have hbd:=MJ l m h0 h1;have hb:=EL (E:=m.length) h0 h1;have hfr:=mN (l:=l) hM (i:=d.toNat) (by omega);obtain⟨Y,hY⟩:∃ Y:Nat,CO (bD l m m.length) (outs l m) d=Y:=⟨(CO (bD l m m.length) (outs l m) d).toNat,by omega⟩;have hYl:Y<2*m.length:=(by omega);have hYf:=mN (l:=l) hM hYl;have hfY:(cB (bD l m m.length) Y).fr=(cB (bD l m m.length) d.toNat).tt:=by
  have:=hn.2.2;rw [hY,Int.toNat_natCast] at this;omega
 -- a dart's direction from the point
 have hv:∀ {x:Nat},x<2*m.length→(cB (bD l m m.length) x).fr=(cB (bD l m m.length) d.toNat).tt→tI (eF l (iH m x)) (eF l (iH m d))=IV l m x:=fun {x} hx hf=>by
  have e:=EB l m (d:=(x:Int)) (by omega) (by omega);have e2:=NJ l m hx;rw [hf] at e2;show _=eX (cB (bD l m m.length) ((x:Int)).toNat);rw [Int.toNat_natCast,e2,e.2,hfd.2,Int.toNat_natCast]
 have hu:tI (eF l (cG m d)) (eF l (iH m d))=IV l m (fG d):=by
  have e2:=NJ l m (i:=(fG d).toNat) (by omega);rw [hbd.1,hbd.2.1] at e2;rw [hfd.1,hfd.2];exact e2.symm
 have hc:∀ {x:Nat},x<2*m.length→(cG m x=iH m d↔(cB (bD l m m.length) x).fr=(cB (bD l m m.length) d.toNat).tt):=fun {x} hx=>by
  rw [(EB l m (d:=(x:Int)) (by omega) (by omega)).1,hfd.2,Int.toNat_natCast]
 have hsoon:∀ {x:Nat},x<2*m.length→(cB (bD l m m.length) x).fr=(cB (bD l m m.length) d.toNat).tt→x≠Y→qS (eF l (iH m d)) (eF l (cG m d)) (eF l (iH m Y)) (eF l (iH m x))=true∧qS (eF l (iH m d)) (eF l (cG m d)) (eF l (iH m x)) (eF l (iH m Y))=false:=fun {x} hx hf hne=>by
  have h:=aDV hp h0 h1 hx hf (by rw [hY];omega);rw [hY] at h;refine⟨(OG _ _ _ _).2 (by rw [hu,hv hYl hfY,hv hx hf];exact h),?_⟩;cases hq:qS (eF l (iH m d)) (eF l (cG m d)) (eF l (iH m x)) (eF l (iH m Y)) with
  |false=>rfl
  |true =>
   have:=(OG _ _ _ _).1 hq;rw [hu,hv hYl hfY,hv hx hf] at this;exact absurd this (SW h)
 have key:∀ j,j≤2*m.length→(Y<j→gH l m k d j=Y)∧(j≤Y→gH l m k d j = -1∨∃ c:Nat,c<j∧gH l m k d j=c∧(cB (bD l m m.length) c).fr=(cB (bD l m m.length) d.toNat).tt):=by
  intro j
  induction j with
  |zero=>exact fun _=>⟨fun h=>by omega,fun _=>.inl rfl⟩
  |succ j ih =>
   intro hj;obtain⟨i1,i2⟩:=ih (by omega);rcases Nat.lt_trichotomy j Y with h|h|h
   ·refine⟨fun h'=>by omega,fun _=>?_⟩;unfold gH;split
    ·rename_i hc';exact .inr ⟨j,Nat.lt_succ_self j,rfl,(hc (by omega)).1 hc'.1.2⟩
    ·rcases i2 (by omega) with e|⟨c,c1,c2,c3⟩
     ·exact .inl e
     exact .inr ⟨c,by omega,c2,c3⟩
   ·subst h;refine⟨fun _=>?_,fun h'=>by omega⟩;refine aI1 ⟨⟨hk j hYl,(hc hYl).2 hfY⟩,?_⟩;rcases i2 (Nat.le_refl _) with e|⟨c,c1,c2,c3⟩
    ·exact .inl (by omega)
    rw [c2];exact .inr (hsoon (by omega) c3 (by omega)).1
   refine⟨fun _=>?_,fun h'=>by omega⟩;rw [aEv (fun hh=>?_),i1 h];obtain⟨⟨_,q1⟩,q2⟩:=hh;rw [i1 h] at q2;rcases q2 with q2|q2
   ·omega
   rw [(hsoon (by omega) ((hc (by omega)).1 q1) (by omega)).2] at q2;cases q2
 rw [(key _ (Nat.le_refl _)).1 hYl,hY]
end
theorem vV (of w:List Int)(fc:Int)(hw:∀ t,t<w.length→(aD w t).toNat<of.length)(i:Nat):∀ k,k≤w.length→((∃ t,t<k∧(aD w t).toNat=i)→aD (dW of w fc k) i=fc)∧((¬ ∃ t,t<k∧(aD w t).toNat=i)→aD (dW of w fc k) i=aD of i)
 |0,_=>⟨fun ⟨t,h,_⟩=>by omega,fun _=>rfl⟩
 |k+1,hk=>by
  obtain⟨i1,i2⟩:=vV of w fc hw i k (by omega);have hs:=UL (dW of w fc k) (aD w k).toNat fc i (by rw [fE];exact hw k (by omega));unfold dW;rw [hs];by_cases e:i=(aD w k).toNat
  ·rw [if_pos e];exact⟨fun _=>rfl,fun h=>absurd ⟨k,Nat.lt_succ_self k,e.symm⟩ h⟩
  rw [if_neg e];refine⟨fun ⟨t,h1,h2⟩=>i1 ⟨t,?_,h2⟩,fun h=>i2 fun ⟨t,h1,h2⟩=>h ⟨t,by omega,h2⟩⟩;rcases Nat.lt_or_ge t k with h|h
  ·exact h
  exact absurd (by rw [← h2,show t=k by omega]) e
theorem rC (L:List Bool)(x:Nat)(v:Bool)(i:Nat)(hx:x<L.length):dD (L.set x v) i=if i=x then v else dD L i:=by
 unfold dD;rw [List.getD_eq_getElem?_getD,List.getD_eq_getElem?_getD,List.getElem?_set];by_cases h:x=i
 ·subst h;simp [hx]
 rw [if_neg h,if_neg (fun e=>h e.symm)]
theorem rA (s:List Bool)(w:List Int)(hw:∀ t,t<w.length→(aD w t).toNat<s.length)(i:Nat):∀ k,k≤w.length→((∃ t,t<k∧(aD w t).toNat=i)→dD (fW s w k) i=true)∧((¬ ∃ t,t<k∧(aD w t).toNat=i)→dD (fW s w k) i=dD s i)
 |0,_=>⟨fun ⟨t,h,_⟩=>by omega,fun _=>rfl⟩
 |k+1,hk=>by
  obtain⟨i1,i2⟩:=rA s w hw i k (by omega);have hs:=rC (fW s w k) (aD w k).toNat true i (by rw [kO];exact hw k (by omega));unfold fW;rw [hs];by_cases e:i=(aD w k).toNat
  ·rw [if_pos e];exact⟨fun _=>rfl,fun h=>absurd ⟨k,Nat.lt_succ_self k,e.symm⟩ h⟩
  rw [if_neg e];refine⟨fun ⟨t,h1,h2⟩=>i1 ⟨t,?_,h2⟩,fun h=>i2 fun ⟨t,h1,h2⟩=>h ⟨t,by omega,h2⟩⟩;rcases Nat.lt_or_ge t k with h|h
  ·exact h
  exact absurd (by rw [← h2,show t=k by omega]) e
theorem X5 {f:Int→Int}{d:Int}{N T:Nat}:∀ {k i:Nat},i≤T→T≤i+k→(∀ t,i≤t→t<T→mS f d N t=true)→mS f d N T=false→tD f d N k i=T
 |0,i,h1,h2,_,_=>by unfold tD;omega
 |k+1,i,h1,h2,h3,h4=>by
  unfold tD;by_cases e:i=T
  ·rw [e,h4];rfl
  rw [h3 i (Nat.le_refl _) (by omega),if_pos rfl];exact X5 (by omega) (by omega) (fun t a b=>h3 t (by omega) b) h4
section
variable {l:List Pt}{m:List Ed}{n:Int}
theorem aAt {E i:Nat}(h:i<E):dD (List.replicate E true) i=true:=by
 unfold dD;rw [List.getD_eq_getElem?_getD,List.getElem?_replicate,if_pos h];rfl
theorem aCm (hp:iD l m n=true){d:Nat}(hd:d<2*m.length):kT l m (List.replicate (2*m.length) true) d=wO (bD l m m.length) (outs l m) d:=by
 have hok:=nC hp;have hin:=y6 hok (d:=(d:Int)) (by omega) (by omega);have hx:∀ i,pS (GI l m (List.replicate (2*m.length) true)) d i=pX (bD l m m.length) (outs l m) d (i+1):=by
  intro i
  induction i with
  |zero=>exact aCN hp (by omega) (by omega) (fun i hi=>aAt hi)
  |succ i ih =>
   unfold pS;rw [ih];have:=hin (i+1);exact aCN hp this.1 this.2 (fun i hi=>aAt hi)
 have hw:=List.all_eq_true.1 (LK hok) d (List.mem_range.2 (by rw [bP];exact hd));have hw:=of_decide_eq_true hw;obtain⟨p1,p2,p3⟩:=nT (bD l m m.length) (outs l m) d (bD l m m.length).length 1;unfold wO;unfold pG at hw ⊢;generalize HT (bD l m m.length) (outs l m) d (bD l m m.length).length 1=T at *;rw [bP] at p2;have hN:tD (GI l m (List.replicate (2*m.length) true)) d (2*m.length) (2*m.length+2) 0=T - 1:=by
  refine X5 (Nat.zero_le _) (by omega) (fun t _ ht=>?_) ?_
  ·unfold mS;rw [hx];have a:=hin (t+1);have b:=p3 (t+1) (by omega) (by omega);rw [decide_eq_false b,decide_eq_true a.1,decide_eq_true (show t≤2*m.length by omega)];rfl
  unfold mS;rw [hx,show T - 1+1=T by omega,hw,decide_eq_true rfl];rfl
 unfold kT;rw [hN];unfold C7;apply List.ext_getElem?;intro i;cases i with
 |zero =>
  rw [List.getElem?_cons_zero,List.getElem?_map,List.getElem?_range (by omega)];rfl
 |succ i =>
  rw [List.getElem?_cons_succ,List.getElem?_map,List.getElem?_map];by_cases h:i<T - 1
  ·rw [List.getElem?_range h,List.getElem?_range (by omega)];simp only [Option.map_some];rw [hx]
  rw [List.getElem?_eq_none (by rw [List.length_range];omega),List.getElem?_eq_none (by rw [List.length_range];omega)];rfl
theorem MB (l:List Pt)(m:List Ed){w:List Int}(hw:fI (bD l m m.length) w=true):∀ k,k≤w.length→mV l m w k=IN l (bD l m m.length) w k
 |0,_=>rfl
 |k+1,h=>by
  unfold mV IN;rw [MB l m hw k (by omega)];have hk:=jY hw (i:=k) (by omega);rw [bP] at hk;have:=EB l m hk.1 (by omega);unfold N4 crI eF;rw [this.1,this.2]
structure Fre (m:List Ed) (s:Fst) (t:RL):Prop where
 len:s.of.length=2*m.length
 seen:t.seen.length=2*m.length
 face:t.face.length=2*m.length
 of:∀ i,i<2*m.length→(dD t.seen i=true∧0≤aD s.of i∧aD s.of i=aD t.face i)∨(dD t.seen i=false∧aD s.of i<0)
 many:s.faces=t.many
 low:0≤t.many
 out:s.outside=t.out
 ok:s.ok=!t.flat
theorem aBG (hp:iD l m n=true){s:Fst}{t:RL}(h:Fre m s t){d:Nat}(hd:d<2*m.length):Fre m (pW l m s d) (lG l (bD l m m.length) (outs l m) t d)∧dD (lG l (bD l m m.length) (outs l m) t d).seen d=true∧∀ i,dD t.seen i=true→i<2*m.length→dD (lG l (bD l m m.length) (outs l m) t d).seen i=true:=by
 have hok:=nC hp;unfold pW lG;rcases h.of d hd with ⟨h1,h2,h3⟩|⟨h1,h2⟩
 ·rw [if_pos h2,if_pos h1];exact⟨h,h1,fun i hi _=>hi⟩
 rw [if_neg (by omega),if_neg (by rw [h1];decide)];simp only;rw [aCm hp hd];have w:=TV (l:=l) (LV hok) (d:=d) (by rw [bP];exact hd);have hfirst:aD (wO (bD l m m.length) (outs l m) d) 0=d:=by
  unfold wO;unfold aD;rw [List.getD_eq_getElem?_getD,List.getElem?_map,List.getElem?_range (by
   have:=(nT (bD l m m.length) (outs l m) d (bD l m m.length).length 1).1;unfold pG;omega)]
  rfl
 generalize wO (bD l m m.length) (outs l m) d=W at w hfirst ⊢;rw [MB l m w.1 _ (Nat.le_refl _),h.many,h.out,h.ok];generalize IN l (bD l m m.length) W W.length=A;have hr:∀ t,t<W.length→(aD W t).toNat<2*m.length:=fun t ht=>by
  have:=jY w.1 (i:=t) ht;rw [bP] at this;omega
 have hset:∀ fc:Int,0≤fc→∀ i,i<2*m.length→(dD (fW t.seen W W.length) i=true∧0≤aD (dW s.of W fc W.length) i∧aD (dW s.of W fc W.length) i=aD (dW t.face W fc W.length) i)∨(dD (fW t.seen W W.length) i=false∧aD (dW s.of W fc W.length) i<0):=fun fc hfc i hi=>by
  obtain⟨a1,a2⟩:=vV s.of W fc (by rw [h.len];exact hr) i _ (Nat.le_refl _);obtain⟨b1,b2⟩:=vV t.face W fc (by rw [h.face];exact hr) i _ (Nat.le_refl _);obtain⟨c1,c2⟩:=rA t.seen W (by rw [h.seen];exact hr) i _ (Nat.le_refl _);by_cases e:∃ k,k<W.length∧(aD W k).toNat=i
  ·rw [a1 e,b1 e,c1 e];exact .inl ⟨rfl,hfc,rfl⟩
  rw [a2 e,b2 e,c2 e];exact h.of i hi
 refine⟨⟨by rw [fE];exact h.len,by rw [kO];exact h.seen,by rw [fE];exact h.face,?_,rfl,?_,?_,?_⟩,?_,?_⟩
 ·have:=h.low;by_cases hA:0<A
  ·simp only [if_pos hA];exact hset _ (by omega)
  simp only [if_neg hA];exact hset _ (by omega)
 ·have:=h.low;show 0≤if 0<A then t.many+1 else t.many
  split <;> omega
 ·show (if A<0 then t.out+1 else t.out)=if 0<A then t.out else if A<0 then t.out+1 else t.out
  split <;> split <;> (first|rfl|omega)
 ·show (if A=0 then false else !t.flat)=!(if 0<A then t.flat else if A<0 then t.flat else true);by_cases hA:0<A
  ·rw [if_pos hA,if_neg (by omega)]
  by_cases hA2:A<0
  ·rw [if_neg hA,if_pos hA2,if_neg (by omega)]
  rw [if_neg hA,if_neg hA2,if_pos (by omega)];rfl
 ·exact (rA t.seen W (by rw [h.seen];exact hr) d _ (Nat.le_refl _)).1 ⟨0,by omega,by rw [hfirst];rfl⟩
 intro i hi hi2;obtain⟨c1,c2⟩:=rA t.seen W (by rw [h.seen];exact hr) i _ (Nat.le_refl _);by_cases e:∃ k,k<W.length∧(aD W k).toNat=i
 ·exact c1 e
 show dD (fW t.seen W W.length) i=true;rw [c2 e];exact hi
theorem UU (hp:iD l m n=true):∀ d,d≤2*m.length→Fre m (j6 l m d) (cK l (bD l m m.length) (outs l m) d)∧∀ i,i<d→dD (cK l (bD l m m.length) (outs l m) d).seen i=true
 |0,_=>by
  refine⟨⟨by simp [j6],by simp [cK,bP],by simp [cK,bP],fun i hi=>.inr ?_,rfl,Int.le_refl 0,rfl,rfl⟩,fun i hi=>by omega⟩;unfold j6 cK dD aD;rw [List.getD_eq_getElem?_getD,List.getD_eq_getElem?_getD,List.getElem?_replicate,List.getElem?_replicate,bP,if_pos hi,if_pos hi];exact⟨rfl,by decide⟩
 |d+1,h=>by
  obtain⟨i1,i2⟩:=UU hp d (by omega);obtain⟨a1,a2,a3⟩:=aBG hp i1 (d:=d) (by omega);refine⟨a1,fun i hi=>?_⟩;by_cases e:i=d
  ·rw [e];exact a2
  exact a3 i (i2 i (by omega)) (by omega)
theorem T9 {f g:Nat→Bool}{n:Nat}(h:∀ i,i<n→f i=g i):oE f n=oE g n:=by
 rw [Bool.eq_iff_iff];exact⟨fun a=>fC fun i hi=>by rw [← h i hi];exact fY a hi,fun a=>fC fun i hi=>by rw [h i hi];exact fY a hi⟩
theorem aED (hp:iD l m n=true):(BY (dY l m)&&(decide ((dY l m).many=n)&&oE (FU l m) m.length))=(NK (eU l m)&&(decide ((eU l m).faces=n)&&oE (faB m (eU l m).of) m.length)):=by
 obtain⟨_,_,_,_,_,hn,_⟩:=kW (nC hp);obtain⟨h1,h2⟩:=UU hp (2*m.length) (Nat.le_refl _);have e:dY l m=cK l (bD l m m.length) (outs l m) (2*m.length):=by
  unfold dY nmD;rw [bP]
 have hof:∀ i,i<2*m.length→aD (eU l m).of i=aD (dY l m).face i:=fun i hi=>by
  rw [e];rcases h1.of i hi with ⟨_,_,h⟩|⟨h,_⟩
  ·exact h
  rw [h2 i hi] at h;cases h
 have hall:oE (FU l m) m.length=oE (faB m (eU l m).of) m.length:=by
  refine T9 fun i hi=>?_;unfold FU faB;rw [hof (2*i) (by omega),hof (2*i+1) (by omega)]
 rw [hall];unfold BY NK;have k1:(eU l m).faces=(dY l m).many:=(by rw [e];exact h1.many);have k2:(eU l m).outside=(dY l m).out:=(by rw [e];exact h1.out);have k3:(eU l m).ok=!(dY l m).flat:=(by rw [e];exact h1.ok);rw [k1,k2,k3];by_cases hc:(dY l m).many=n
 ·rw [decide_eq_true hc,decide_eq_true (show 1≤(dY l m).many by omega)];cases decide ((dY l m).out=1) <;> cases (dY l m).flat <;> rfl
 rw [decide_eq_false hc];simp
end
end Go.Aw
end
