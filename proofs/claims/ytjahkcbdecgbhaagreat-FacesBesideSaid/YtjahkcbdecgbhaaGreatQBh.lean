/-
  Parts of a proof. No condition.
-/
import Derived.Test.YtjahkcbdecgbhaaGreatQAs
import Derived.Test.YtjahkcbdecgbhaaGreatQAv
import Derived.Test.YtjahkcbdecgbhaaGreatQBe
import Derived.Test.YtjahkcbdecgbhaaGreatQBf
import Derived.Test.YtjahkcbdecgbhaaGreatQBg
set_option linter.unusedSimpArgs false
set_option linter.unusedVariables false
noncomputable section
namespace Go.Aw
set_option maxRecDepth 100000
theorem uZ (D:List Dt)(x y:Int):jW D x y=true↔yE (eT (bY D x.toNat)) (eT (bY D y.toNat)):=by
 unfold jW aBD;generalize eT (bY D x.toNat)=u;generalize eT (bY D y.toNat)=v;rw [decide_eq_true_iff];have hu:CV u=true↔lo u:=(by unfold CV lo;simp);have hv:CV v=true↔lo v:=(by unfold CV lo;simp);have hc:crP u v=cr u v:=rfl;unfold Q7 yE jG;rw [hc];cases h1:CV u <;> cases h2:CV v <;> rw [h1] at hu <;> rw [h2] at hv <;> simp only [Bool.false_eq_true,false_iff,true_iff,if_true,if_false] at hu hv ⊢ <;> simp only [hu,hv,not_true,not_false_iff,true_and,false_and,false_or,or_false,and_false,iff_true,true_iff,iff_false,not_false_eq_true]
 ·split <;> (try split) <;> omega
 ·simp
 ·simp
 ·split <;> (try split) <;> omega
theorem TD {a b c:Pt}(h1:gH a b=true)(h2:gH b c=true):gH a c=true:=by
 simp only [gH,Bool.or_eq_true,Bool.and_eq_true,decide_eq_true_eq] at *;omega
section
variable {l:List Pt}{m:List Ed}{n:Int}
theorem T1 (hok:cX l m n=true):∀ {j i:Nat},i<j→j<l.length→gH (iB l i) (iB l j)=true
 |0,i,h,_=>by omega
 |j+1,i,h,hj=>by
  simp only [cX,Bool.and_eq_true] at hok;have h1:=fG hok.2.1 hj;simp only [DB,Bool.and_eq_true,Bool.or_eq_true,decide_eq_true_eq] at h1;have h2:gH (iB l j) (iB l (j+1))=true:=by
   rcases h1.2 with h|h
   ·omega
   ·exact h
  by_cases e:i=j
  ·rw [e];exact h2
  ·exact TD (T1 (by simp only [cX,Bool.and_eq_true];exact hok) (show i<j by omega) (by omega)) h2
theorem M6 (hok:cX l m n=true){i:Nat}(hi:i<m.length):0≤(cO m i).a∧(cO m i).a<(cO m i).b∧(cO m i).b<l.length:=by
 simp only [cX,Bool.and_eq_true] at hok;have h1:=fG hok.2.2.1 hi;simp only [IW,Bool.and_eq_true,decide_eq_true_eq] at h1;exact⟨h1.1.1.1.1.1,h1.1.1.1.1.2,h1.1.1.1.2⟩
theorem BV (hok:cX l m n=true){i:Nat}(hi:i<2*m.length):nz (eT (bY (aR l m m.length) i)):=by
 obtain⟨h1,h2,h3⟩:=M6 hok (i:=i / 2) (by omega);have h4:=T1 hok (i:=(cO m (i / 2)).a.toNat) (j:=(cO m (i / 2)).b.toNat) (by omega) (by omega);simp only [gH,Bool.or_eq_true,Bool.and_eq_true,decide_eq_true_eq] at h4;unfold nz;rcases mV (l:=l) (m:=m) hi with ⟨e,h⟩|⟨e,h⟩
 ·rw [h];simp only [eT,dA,dY];omega
 ·rw [h];simp only [eT,dB,dY];omega
theorem aEN (hok:cX l m n=true):Ord (aR l m m.length) (fun x=>0≤x∧x<(2*m.length:Nat)) where
 trans:=fun x y z hx hy hz h1 h2=>by
  have nx:=BV hok (i:=x.toNat) (by omega);have ny:=BV hok (i:=y.toNat) (by omega);have nz':=BV hok (i:=z.toNat) (by omega);unfold BL at *;have b1:¬ yE (eT (bY (aR l m m.length) y.toNat)) (eT (bY (aR l m m.length) x.toNat)):=fun h=>(by rw [(uZ _ _ _).2 h] at h1;cases h1);have b2:¬ yE (eT (bY (aR l m m.length) z.toNat)) (eT (bY (aR l m m.length) y.toNat)):=fun h=>(by rw [(uZ _ _ _).2 h] at h2;cases h2);cases h:jW (aR l m m.length) z x with
  |false=>rfl
  |true=>exact absurd ((uZ _ _ _).1 h) (RZ nx ny nz' b1 b2)
 asym:=fun x y hx hy h=>by
  unfold BL;cases h2:jW (aR l m m.length) y x with
  |false=>rfl
  |true=>exact absurd ((uZ _ _ _).1 h2) (ZV ((uZ _ _ _).1 h))
theorem ZS (D:List Dt)(s j:Nat):(T6 D s j).Nodup:=by
 unfold T6;unfold List.Nodup;rw [List.pairwise_map];have h:List.Pairwise (fun a b:Nat=>a≠b) ((List.range j).filter fun i=>decide ((bY D i).fr.toNat=s)):=List.Pairwise.filter _ List.nodup_range;exact h.imp fun {a b} h e=>h (Int.ofNat.inj e)
theorem M9 (D:List Dt)(s j:Nat):(T6 D s j).length≤j:=by
 unfold T6;rw [List.length_map];exact Nat.le_trans (List.length_filter_le _ _) (by rw [List.length_range];exact Nat.le_refl _)
theorem aDz (hok:cX l m n=true){s:Nat}(hs:s<l.length):bO (outs l m) s=sN (aR l m m.length) 1000 (T6 (aR l m m.length) s (2*m.length)):=by
 have hM:=(iI hok).1;have hfr:∀ i,i<2*m.length→(bY (aR l m m.length) i).fr.toNat<l.length∧(bY (aR l m m.length) i).no=i:=fun i hi=>by
  have:=mM (l:=l) hM hi;omega
 unfold outs;rw [TP _ _ (by rw [nY];exact Nat.le_refl _),if_pos hs,DN _ hfr]
theorem yT (hok:cX l m n=true){s:Nat}(hs:s<l.length):So (aR l m m.length) (bO (outs l m) s) 0 (bO (outs l m) s).length∧(bO (outs l m) s).Perm (T6 (aR l m m.length) s (2*m.length)):=by
 obtain⟨hM,h3,h1,h4,h5,_,_⟩:=iI hok;rw [aDz hok hs];have hl:=M9 (aR l m m.length) s (2*m.length);have:=aDG (aEN hok) (f:=1000) (L:=T6 (aR l m m.length) s (2*m.length)) (by omega) (fun i _ hi=>by
  have hm:aK (T6 (aR l m m.length) s (2*m.length)) i∈T6 (aR l m m.length) s (2*m.length):=by
   rw [dR hi];exact List.getElem_mem hi
  obtain⟨k,hk,e,_⟩:=KX hm;rw [e];omega)
 rw [Q0];exact this
theorem j1 (hok:cX l m n=true){s:Nat}(hs:s<l.length){x:Int}:x∈bO (outs l m) s↔∃ i:Nat,i<2*m.length∧x=i∧(bY (aR l m m.length) i).fr.toNat=s:=by
 rw [(yT hok hs).2.mem_iff];exact⟨KX,fun ⟨i,h1,h2,h3⟩=>by rw [h2];exact SX h1 h3⟩
theorem G3 (hok:cX l m n=true){s:Nat}(hs:s<l.length):(bO (outs l m) s).Nodup:=(yT hok hs).2.symm.nodup (ZS _ _ _)
theorem DX {d:Int}{E:Nat}(h0:0≤d)(h1:d<(2*E:Nat)):0≤fK d∧fK d<(2*E:Nat):=by unfold fK;split <;> omega
theorem JS {d:Int}(h0:0≤d):fK (fK d)=d:=by unfold fK;split <;> split <;> omega
theorem LS (l:List Pt)(m:List Ed){d:Int}(h0:0≤d)(h1:d<(2*m.length:Nat)):(bY (aR l m m.length) (fK d).toNat).fr=(bY (aR l m m.length) d.toNat).tt∧(bY (aR l m m.length) (fK d).toNat).tt=(bY (aR l m m.length) d.toNat).fr∧eT (bY (aR l m m.length) (fK d).toNat)=yN (eT (bY (aR l m m.length) d.toNat)):=by
 obtain⟨hd1,hd2⟩:=GK l m (N:=m.length) (i:=d.toNat / 2) (by omega);unfold fK;by_cases e:d % 2=0
 ·rw [if_pos e,show (d+1).toNat=2*(d.toNat / 2)+1 by omega,show bY (aR l m m.length) d.toNat=dA l m (d.toNat / 2) by rw [← hd1];congr 1;omega,hd2];refine⟨rfl,rfl,?_⟩;simp only [eT,dA,dB,yN,Prod.mk.injEq];omega
 ·rw [if_neg e,show (d - 1).toNat=2*(d.toNat / 2) by omega,show bY (aR l m m.length) d.toNat=dB l m (d.toNat / 2) by rw [← hd2];congr 1;omega,hd1];refine⟨rfl,rfl,?_⟩;simp only [eT,dA,dB,yN,Prod.mk.injEq];omega
theorem KH {x:Int}:∀ {L:List Int} {i:Nat},x∈L→∃ k,k<L.length∧rS x L i=((i+k:Nat):Int)∧aK L k=x
 |[],i,h=>by cases h
 |b::r,i,h=>by
  unfold rS;by_cases e:x=b
  ·rw [if_pos e];exact⟨0,Nat.succ_pos _,rfl,e.symm⟩
  ·rw [if_neg e];rcases List.mem_cons.1 h with h|h
   ·exact absurd h e
   ·obtain⟨k,h1,h2,h3⟩:=KH (L:=r) (i:=i+1) h;refine⟨k+1,by simpa using h1,by rw [h2];congr 1;omega,?_⟩;rw [← h3];rfl
theorem tK (hok:cX l m n=true){d:Int}(h0:0≤d)(h1:d<(2*m.length:Nat)):∃ (s a:Nat),s=(bY (aR l m m.length) d.toNat).tt.toNat∧s<l.length∧SI (aR l m m.length) (outs l m) d=bO (outs l m) s∧a<(bO (outs l m) s).length ∧
  rS (fK d) (bO (outs l m) s) 0=a∧aK (bO (outs l m) s) a=fK d∧yB (aR l m m.length) (outs l m) d=aK (bO (outs l m) s) (if a=0 then (bO (outs l m) s).length - 1 else a - 1):=by
 obtain⟨hM,h3,h5,h4,h6,_,_⟩:=iI hok;have hf:=mM (l:=l) hM (i:=d.toNat) (by omega);have hb:=DX (E:=m.length) h0 h1;have hbd:=LS l m h0 h1;refine⟨(bY (aR l m m.length) d.toNat).tt.toNat,?_⟩;have hs:(bY (aR l m m.length) d.toNat).tt.toNat<l.length:=(by omega);have hmem:fK d∈bO (outs l m) (bY (aR l m m.length) d.toNat).tt.toNat:=(j1 hok hs).2 ⟨(fK d).toNat,by omega,by omega,by rw [hbd.1]⟩;obtain⟨k,k1,k2,k3⟩:=KH (i:=0) hmem;rw [Nat.zero_add] at k2;refine⟨k,rfl,hs,rfl,k1,k2,k3,?_⟩;unfold yB SI;rw [k2];congr 1;split
 ·rename_i e;rw [e];have:((0:Nat):Int) - 1+((bO (outs l m) (bY (aR l m m.length) d.toNat).tt.toNat).length:Int)=(((bO (outs l m) (bY (aR l m m.length) d.toNat).tt.toNat).length - 1:Nat):Int):=(by omega);rw [this,Int.emod_eq_of_lt (by omega) (by omega)];rfl
 ·have:(k:Int) - 1+((bO (outs l m) (bY (aR l m m.length) d.toNat).tt.toNat).length:Int)=((k - 1:Nat):Int)+(bO (outs l m) (bY (aR l m m.length) d.toNat).tt.toNat).length:=(by omega);rw [this,Int.add_emod_right,Int.emod_eq_of_lt (by omega) (by omega)];rfl
theorem at_mem {L:List Int}{i:Nat}(h:i<L.length):aK L i∈L:=by rw [dR h];exact List.getElem_mem h
theorem NL (hok:cX l m n=true){d:Int}(h0:0≤d)(h1:d<(2*m.length:Nat)):0≤yB (aR l m m.length) (outs l m) d∧yB (aR l m m.length) (outs l m) d<(2*m.length:Nat)∧(bY (aR l m m.length) (yB (aR l m m.length) (outs l m) d).toNat).fr.toNat=(bY (aR l m m.length) d.toNat).tt.toNat:=by
 obtain⟨s,a,e1,hs,e2,ha,e3,e4,e5⟩:=tK hok h0 h1;rw [e5];have hi:(if a=0 then (bO (outs l m) s).length - 1 else a - 1)<(bO (outs l m) s).length:=(by split <;> omega);obtain⟨i,i1,i2,i3⟩:=(j1 hok hs).1 (at_mem hi);rw [i2];exact⟨by omega,by omega,by rw [← e1];exact i3⟩
theorem OC {L:List Int}(h:L.Nodup){i j:Nat}(hi:i<L.length)(hj:j<L.length)(e:aK L i=aK L j):i=j:=by
 rw [dR hi,dR hj] at e;exact (List.getElem_inj h).1 e
theorem aHS (hok:cX l m n=true){d d':Int}(h0:0≤d)(h1:d<(2*m.length:Nat))(h0':0≤d')(h1':d'<(2*m.length:Nat))(e:yB (aR l m m.length) (outs l m) d=yB (aR l m m.length) (outs l m) d'):d=d':=by
 have hn:=(NL hok h0 h1).2.2;have hn':=(NL hok h0' h1').2.2;obtain⟨s,a,e1,hs,e2,ha,e3,e4,e5⟩:=tK hok h0 h1;obtain⟨s',a',e1',hs',e2',ha',e3',e4',e5'⟩:=tK hok h0' h1';have hss:s=s':=(by rw [e1,e1',← hn,← hn',e]);subst hss;rw [e5,e5'] at e;have:=OC (G3 hok hs) (by split <;> omega) (by split <;> omega) e;have haa:a=a':=by
  split at this <;> split at this <;> omega
 have hb:fK d=fK d':=(by rw [← e4,← e4',haa]);rw [← JS h0,hb,JS h0']
theorem aCZ:∀ (n:Nat) (f:Nat→Nat),(∀ i,i≤n→f i<n)→∃ i j,i<j∧j≤n∧f i=f j
 |0,f,h=>by have:=h 0 (Nat.le_refl 0);omega
 |n+1,f,h=>by
  by_cases hc:∃ i,i≤n∧f i=f (n+1)
  ·obtain⟨i,h1,h2⟩:=hc;exact⟨i,n+1,by omega,Nat.le_refl _,h2⟩
  ·have hne:∀ i,i≤n→f i≠f (n+1):=fun i hi e=>hc ⟨i,hi,e⟩;obtain⟨i,j,h1,h2,h3⟩:=aCZ n (fun i=>if f (n+1)<f i then f i - 1 else f i) (fun i hi=>by
    have a1:=h i (by omega);have a2:=h (n+1) (Nat.le_refl _);have a3:=hne i hi;show (if f (n+1)<f i then f i - 1 else f i)<n;split <;> omega)
   refine⟨i,j,h1,by omega,?_⟩;have a1:=hne i (by omega);have a2:=hne j h2;have h3:(if f (n+1)<f i then f i - 1 else f i)=(if f (n+1)<f j then f j - 1 else f j):=h3;split at h3 <;> split at h3 <;> omega
theorem tL (hok:cX l m n=true){d:Int}(h0:0≤d)(h1:d<(2*m.length:Nat)):∀ i,0≤kP (aR l m m.length) (outs l m) d i∧kP (aR l m m.length) (outs l m) d i<(2*m.length:Nat)
 |0=>⟨h0,h1⟩
 |i+1=>by
  have ih:=tL hok h0 h1 i;have:=NL hok ih.1 ih.2;exact⟨this.1,this.2.1⟩
theorem WU (hok:cX l m n=true){d:Int}(h0:0≤d)(h1:d<(2*m.length:Nat)):∀ (i k:Nat),kP (aR l m m.length) (outs l m) d i=kP (aR l m m.length) (outs l m) d (i+k)→d=kP (aR l m m.length) (outs l m) d k
 |0,k,h=>by rw [Nat.zero_add] at h;exact h
 |i+1,k,h=>by
  refine WU hok h0 h1 i k ?_;have a:=tL hok h0 h1 i;have b:=tL hok h0 h1 (i+k);refine aHS hok a.1 a.2 b.1 b.2 ?_;rw [show i+1+k=i+k+1 by omega] at h;exact h
theorem OO (D:List Dt)(ls:List (List Int))(d:Int):∀ (k i N:Nat),i≤N→N<i+k→kP D ls d N=d→kP D ls d (HC D ls d k i)=d
 |0,i,N,h1,h2,_=>by omega
 |k+1,i,N,h1,h2,h3=>by
  unfold HC;split
  ·assumption
  ·rename_i h;refine OO D ls d k (i+1) N ?_ (by omega) h3;rcases Nat.lt_or_ge i N with h4|h4
   ·exact h4
   ·exact absurd (by rw [show i=N by omega];exact h3) h
theorem xX (hok:cX l m n=true):aBj (aR l m m.length) (outs l m)=true:=by
 refine List.all_eq_true.2 fun d hd=>decide_eq_true ?_;have hd:=List.mem_range.1 hd;rw [bI] at hd;obtain⟨i,j,h1,h2,h3⟩:=aCZ (2*m.length) (fun i=>(kP (aR l m m.length) (outs l m) d i).toNat) (fun i _=>by
  have:=tL hok (d:=d) (by omega) (by omega) i;show (kP (aR l m m.length) (outs l m) d i).toNat<2*m.length;omega)
 have a:=tL hok (d:=(d:Int)) (by omega) (by omega) i;have b:=tL hok (d:=(d:Int)) (by omega) (by omega) j;have e:=WU hok (d:=(d:Int)) (by omega) (by omega) i (j - i) (by rw [show i+(j - i)=j by omega];have h3:(kP (aR l m m.length) (outs l m) d i).toNat=(kP (aR l m m.length) (outs l m) d j).toNat:=h3;omega);unfold kB;rw [bI];exact OO _ _ _ _ 1 (j - i) (by omega) (by omega) e.symm
theorem aL1 (hok:cX l m n=true):HT l (aR l m m.length) (outs l m)=true:=by
 obtain⟨hM,h3,h5,h4,h6,_,_⟩:=iI hok;simp only [HT,Bool.and_eq_true,decide_eq_true_eq];refine⟨⟨⟨⟨List.all_eq_true.2 fun p hp=>?_,List.all_eq_true.2 fun e he=>?_⟩,by rw [bI];omega⟩,fF l m⟩,by omega⟩
 ·obtain⟨i,hi,rfl⟩:=List.getElem_of_mem hp;have:=rM hok hi;rw [mO hi] at this;unfold wide;simp only [Bool.and_eq_true,decide_eq_true_eq];omega
 ·obtain⟨i,hi,rfl⟩:=List.getElem_of_mem he;rw [← pC hi];rw [bI] at hi;have:=mM (l:=l) hM hi;simp only [Bool.and_eq_true,decide_eq_true_eq];omega
theorem HP (hok:cX l m n=true):vW l (aR l m m.length) (outs l m)=true:=by
 obtain⟨hM,h3,h5,h4,h6,_,_⟩:=iI hok;unfold vW;rw [aL1 hok,Bool.true_and];refine List.all_eq_true.2 fun i hi=>?_;have hi:=List.mem_range.1 hi;rw [bI] at hi;have hn:=NL hok (d:=(i:Int)) (by omega) (by omega);obtain⟨s,a,e1,hs,e2,ha,e3,e4,e5⟩:=tK hok (d:=(i:Int)) (by omega) (by omega);have hf:=mM (l:=l) hM (i:=i) hi;have hlen:(bO (outs l m) s).length≤1000:=by
  have h7:=(yT hok hs).2.length_eq;have h8:=M9 (aR l m m.length) s (2*m.length);omega
 simp only [Bool.and_eq_true,decide_eq_true_eq];refine⟨?_,hn.1,by rw [bI];omega⟩;unfold nxB;rw [e2,e3,bI,fF];simp only [Bool.and_eq_true,decide_eq_true_eq,Int.toNat_natCast];omega
theorem aAX (hok:cX l m n=true):ZB (aR l m m.length) (outs l m)=true:=by
 obtain⟨hM,h3,h5,h4,h6,_,_⟩:=iI hok;refine List.all_eq_true.2 fun L hL=>?_;obtain⟨s,hs,rfl⟩:=List.getElem_of_mem hL;have hs':=hs;rw [fF] at hs';have e:(outs l m)[s]=bO (outs l m) s:=by
  unfold bO;rw [List.getD_eq_getElem?_getD,List.getElem?_eq_getElem hs];rfl
 rw [e];have h7:=(yT hok hs').2.length_eq;have h8:=M9 (aR l m m.length) s (2*m.length);have h9:=UX hok hs';simp only [Bool.and_eq_true,decide_eq_true_eq];refine⟨⟨by omega,by omega⟩,List.all_eq_true.2 fun x hx=>?_⟩;obtain⟨i,i1,i2,_⟩:=(j1 hok hs').1 hx;simp only [Bool.and_eq_true,decide_eq_true_eq,bI];omega
end
end Go.Aw
end

noncomputable section
namespace Go.Aw
set_option maxRecDepth 100000
set_option maxHeartbeats 2000000
theorem A4 (n:Nat):∀ {h:Heap},fN h=true→fN (kQ n h)=true
 |[],_=>rfl
 |(k,o)::r,h=>by
  simp only [fN,Bool.and_eq_true] at h;simp only [kQ,fN,Bool.and_eq_true];refine⟨?_,A4 n h.2⟩;cases o with
  |cells wr g sz cs=>rfl
  |_=>exact h.1
def aKJ:Nat × XF:=(69,fun args h nx K=>∃ l m n p q,args=[mapA p q n]∧eO aP h p l∧eO aS h q m∧(l.length≤1000∧m.length≤1000) ∧
 ((cF l m n=true∧K (.tuple #[.pointer (some ⟨nx+7,0,none⟩),iv 0]) (app (kQ nx (T7 l m (gW p) (gW q) n)) (eU h)) (nx+2004))∨(cF l m n=false∧K (.tuple #[.pointer none,iv 1]) h nx)))
theorem aN8:cH Go.Proofs.Tryz.prog aKJ.1 aKJ.2:=by
 refine (gC (S:=fun args0 h0 n0 v1 h1 j=>∃ l m n c1 c2,(l.length≤1000∧m.length≤1000)∧args0=[aF l.length m.length c1 c2 n]∧h0=aD aP aS l m∧n0=2 ∧
  ((cF l m n=true∧v1=.tuple #[.pointer (some ⟨7,0,none⟩),iv 0]∧h1=T7 l m c1 c2 n∧j=2004)∨(cF l m n=false∧v1=.tuple #[.pointer none,iv 1]∧h1=[]∧j=0))) (aL (xl:=[QW,aBE,P7,OZ,NO,(155,aE1)]) (.cons aFW (.cons aKu (.cons aCb (.cons aFL (.cons aGH (.cons aFK .nil))))))) ?_).mono ?_ ?_
 ·rintro args0 h0 n0 v1 h1 j ⟨l,m,n,c1,c2,⟨hl,hm⟩,rfl,rfl,rfl,hc⟩;have hw:=w69 l m n c1 c2 hl hm fun hok=>⟨HP hok,xX hok,aAX hok,(iI hok).2.2.1⟩;rcases hc with ⟨ho,rfl,rfl,rfl⟩|⟨ho,rfl,rfl,rfl⟩
  ·refine⟨A4 3 rV,_,hw,fun v h nx e=>?_⟩;rcases e with ⟨_,e⟩|⟨e,_⟩
   ·exact e
   ·rw [ho] at e;cases e
  ·refine⟨rfl,_,hw,fun v h nx e=>?_⟩;rcases e with ⟨e,_⟩|⟨_,rfl⟩
   ·rw [ho] at e;cases e
   ·exact kD rfl
 ·rintro args h nx K ⟨l,m,n,p,q,rfl,hl,hm,hlm,hx⟩;rcases hx with ⟨ho,hx⟩|⟨ho,hx⟩
  ·refine⟨_,_,2,_,_,_,⟨l,m,n,gW p,gW q,hlm,rfl,rfl,rfl,.inl ⟨ho,rfl,rfl,rfl⟩⟩,vM aP aS rfl hl hm,?_⟩;have e:iQ (fun k=>nx+k) (.tuple #[.pointer (some ⟨7,0,none⟩),iv 0])=.tuple #[.pointer (some ⟨nx+7,0,none⟩),iv 0]:=(by simp [iQ,tr,dU,bR,dV,lW];rfl);rw [e];exact hx
  ·refine⟨_,_,2,_,[],0,⟨l,m,n,gW p,gW q,hlm,rfl,rfl,rfl,.inr ⟨ho,rfl,rfl,rfl⟩⟩,vM aP aS rfl hl hm,?_⟩;simp only [mY,lD,kQ,j7,Nat.add_zero];rw [mA rfl];exact hx
 ·rintro args h nx K ⟨l,m,n,p,q,rfl,hl,hm,hlm,hx⟩;rcases hx with ⟨ho,hx⟩|⟨ho,hx⟩
  ·exact⟨_,_,_,hx,fun K' hk=>⟨l,m,n,p,q,rfl,hl,hm,hlm,.inl ⟨ho,hk⟩⟩⟩
  ·exact⟨_,_,_,hx,fun K' hk=>⟨l,m,n,p,q,rfl,hl,hm,hlm,.inr ⟨ho,hk⟩⟩⟩
def ckP (l:List Pt)(m:List Ed)(n:Int):List Value→Option (Bool × Value)
 |[]=>some (decide (l.length≤1000)&&decide (m.length≤1000),iv (if cF l m n=true then 0 else 1))
 |_=>none
def aNt:Nat × XF:=(17,mX aP aS ckP)
end Go.Aw
end

noncomputable section
namespace Go.Aw
set_option maxRecDepth 100000
def tA (p q:Pt):V2:=(p.1 - q.1,p.2 - q.2)
theorem EK (v a b:Pt):bE v a b=cr (tA a v) (tA b v):=rfl
theorem uL {a b:Pt}(h:gH a b=true):kY a b = -1:=by
 rw [yY] at h;have h:=of_decide_eq_true h;rcases yM a b with e|e|e <;> omega
theorem PY (a:Pt):kY a a=0:=by
 unfold kY orI jG;simp
theorem uS {s:Sg}(h:gH s.1 s.2=true):bZ s=s:=by
 have:=uL h;unfold bZ;rw [this];simp
theorem aEF (a b:Pt):bE a b a=0:=by unfold bE;simp
theorem aDM (a b:Pt):bE a b b=0:=by unfold bE;rw [Int.mul_comm];omega
theorem aCX {s t:Sg}(h1:eD s=true)(h2:eD t=true)(l1:gH s.1 s.2=true)(l2:gH t.1 t.2=true)(e:s.1=t.1)(hc:bE s.1 s.2 t.2=0):fV s t=4:=by
 unfold fV;rw [if_pos ⟨h1,h2⟩];unfold r9 bB;rw [hc,← e,aEF];rw [if_pos ⟨rfl,rfl⟩];unfold O0 CF;rw [uS l1,uS l2,← e,PY,if_neg (by omega)];split
 ·rw [e,uL l2];rfl
 ·rw [uL l1];rfl
theorem XM {s t:Sg}(h1:eD s=true)(h2:eD t=true)(l1:gH s.1 s.2=true)(l2:gH t.1 t.2=true)(e:s.2=t.2)(hc:bE s.1 s.2 t.1=0):fV s t=4:=by
 unfold fV;rw [if_pos ⟨h1,h2⟩];unfold r9 bB;rw [hc,← e,aDM];rw [if_pos ⟨rfl,rfl⟩];unfold O0 CF;rw [uS l1,uS l2,show kY t.2 s.2=0 by rw [← e];exact PY _,if_neg (c:=(0:Int)<0) (by omega)];split
 ·rw [e,uL l2];rfl
 ·rw [uL l1];rfl
section
variable {l:List Pt}{m:List Ed}{n:Int}
theorem SM (hok:cX l m n=true){i:Nat}(hi:i<m.length):eD (cW l m i)=true∧gH (cW l m i).1 (cW l m i).2=true:=by
 obtain⟨h1,h2,h3⟩:=M6 hok hi;have h4:=T1 hok (i:=(cO m i).a.toNat) (j:=(cO m i).b.toNat) (by omega) (by omega);have pa:=rM hok (i:=(cO m i).a.toNat) (by omega);have pb:=rM hok (i:=(cO m i).b.toNat) (by omega);refine⟨?_,h4⟩;unfold eD bU;have hne:jT (cW l m i).1 (cW l m i).2=false:=by
  rw [jM];intro e;have h4:gH (cW l m i).1 (cW l m i).2=true:=h4;rw [e] at h4;simp [gH] at h4
 rw [hne];simp only [Bool.and_eq_true,decide_eq_true_eq,Bool.not_false,and_true];simp only [cW,dY];omega
theorem aIX (hp:gG l m n=true){i k:Nat}(hi:i<m.length)(hk:k<m.length)(hne:i≠k):fV (cW l m i) (cW l m k)≠4∨fV (cW l m k) (cW l m i)≠4:=by
 simp only [gG,Bool.and_eq_true] at hp;rcases Nat.lt_or_ge k i with h|h
 ·have:=fG (f:=fun k=>DL l m i k) (fG (f:=fun i=>nU (fun k=>DL l m i k) i) hp.2 hi) h;simp only [DL,Bool.or_eq_true,decide_eq_true_eq] at this;exact .inl (by omega)
 ·have:=fG (f:=fun i=>DL l m k i) (fG (f:=fun i=>nU (fun k=>DL l m i k) i) hp.2 hk) (show i<k by omega);simp only [DL,Bool.or_eq_true,decide_eq_true_eq] at this;exact .inr (by omega)
theorem MX (l:List Pt)(m:List Ed){i:Nat}(hi:i<2*m.length):eT (bY (aR l m m.length) i)=tA (dY l (bY (aR l m m.length) i).tt) (dY l (bY (aR l m m.length) i).fr):=by
 rcases mV (l:=l) (m:=m) hi with ⟨e,h⟩|⟨e,h⟩
 ·rw [h];rfl
 ·rw [h];rfl
theorem XA {a b:V2}(h:ray a b):(0<a.1∨a.1=0∧0<a.2)→¬ (b.1<0∨b.1=0∧b.2<0):=by
 obtain⟨h1,h2⟩:=h;unfold cr at h1;unfold dt at h2;rintro h3 h4;rcases h3 with h3|⟨h3,h3'⟩
 ·rcases h4 with h4|⟨h4,h4'⟩
  ·-- b=(b1/a1) a,so that both products are negative
   have k1:a.1*b.1<0:=Int.mul_neg_of_pos_of_neg h3 h4;have k2:a.1*(a.2*b.2)=a.2*a.2*b.1:=by
    have:a.1*b.2=a.2*b.1:=(by omega);rw [Int.mul_left_comm,this,← Int.mul_assoc]
   have k3:a.2*a.2*b.1≤0:=Int.mul_nonpos_of_nonneg_of_nonpos (sq0 a.2) (Int.le_of_lt h4);have k4:0<a.2*b.2:=(by omega);have k5:=Int.mul_pos h3 k4;omega
  ·rw [h4] at h1 h2;have:a.1*b.2<0:=Int.mul_neg_of_pos_of_neg h3 h4';simp only [Int.mul_zero] at h1;omega
 ·rw [h3] at h1 h2;rcases h4 with h4|⟨h4,h4'⟩
  ·have:a.2*b.1<0:=Int.mul_neg_of_pos_of_neg h3' h4;simp only [Int.zero_mul] at h1;omega
  ·have:a.2*b.2<0:=Int.mul_neg_of_pos_of_neg h3' h4';simp only [Int.zero_mul] at h2;omega
theorem V5 (hok:cX l m n=true){i:Nat}(hi:i<2*m.length):(i % 2=0→0<(eT (bY (aR l m m.length) i)).1∨(eT (bY (aR l m m.length) i)).1=0∧0<(eT (bY (aR l m m.length) i)).2)∧(i % 2=1→(eT (bY (aR l m m.length) i)).1<0∨(eT (bY (aR l m m.length) i)).1=0∧(eT (bY (aR l m m.length) i)).2<0):=by
 have h4:=(SM hok (i:=i / 2) (by omega)).2;unfold gH at h4;simp only [Bool.or_eq_true,Bool.and_eq_true,decide_eq_true_eq] at h4;simp only [cW] at h4;rcases mV (l:=l) (m:=m) hi with ⟨e,h⟩|⟨e,h⟩
 ·rw [h];simp only [eT,dA];omega
 ·rw [h];simp only [eT,dB];omega
theorem LC {a b:V2}(h:ray a b):ray b a:=by
 obtain⟨h1,h2⟩:=h;refine⟨by rw [fJ];omega,?_⟩;unfold dt at *;rw [Int.mul_comm b.1,Int.mul_comm b.2];exact h2
theorem aDS (hp:gG l m n=true){i k:Nat}(hi:i<2*m.length)(hk:k<2*m.length)(hf:(bY (aR l m m.length) i).fr=(bY (aR l m m.length) k).fr)(hr:ray (eT (bY (aR l m m.length) i)) (eT (bY (aR l m m.length) k))):i=k:=by
 have hok:=mW hp;have x1:=V5 hok hi;have x2:=V5 hok hk;have r1:=XA hr;have r2:=XA (LC hr);obtain⟨o1,o2⟩:=SM hok (i:=i / 2) (by omega);obtain⟨o3,o4⟩:=SM hok (i:=k / 2) (by omega);have par:i % 2=k % 2:=by
  rcases Nat.mod_two_eq_zero_or_one i with e|e <;> rcases Nat.mod_two_eq_zero_or_one k with e'|e'
  ·omega
  ·exact absurd (x2.2 e') (r1 (x1.1 e))
  ·exact absurd (x1.2 e) (r2 (x2.1 e'))
  ·omega
 by_cases he:i / 2=k / 2
 ·omega
 exfalso;have hm:=aIX hp (i:=i / 2) (k:=k / 2) (by omega) (by omega) he;have d1:=MX l m hi;have d2:=MX l m hk;rcases mV (l:=l) (m:=m) hi with ⟨e,h⟩|⟨e,h⟩ <;> rcases mV (l:=l) (m:=m) hk with ⟨e',h'⟩|⟨e',h'⟩
 ·rw [h,h'] at hf hr;have hv:(cW l m (i / 2)).1=(cW l m (k / 2)).1:=(by show dY l _=dY l _;exact congrArg (dY l) hf);have hc:bE (cW l m (i / 2)).1 (cW l m (i / 2)).2 (cW l m (k / 2)).2=0:=by
   rw [EK];have:=hr.1;rw [show tA (cW l m (k / 2)).2 (cW l m (i / 2)).1=eT (dA l m (k / 2)) by rw [hv];rfl];exact this
  have hc':bE (cW l m (k / 2)).1 (cW l m (k / 2)).2 (cW l m (i / 2)).2=0:=by
   rw [EK];have:=(LC hr).1;rw [show tA (cW l m (i / 2)).2 (cW l m (k / 2)).1=eT (dA l m (i / 2)) by rw [← hv];rfl];exact this
  rcases hm with hm|hm
  ·exact hm (aCX o1 o3 o2 o4 hv hc)
  ·exact hm (aCX o3 o1 o4 o2 hv.symm hc')
 ·omega
 ·omega
 ·rw [h,h'] at hf hr;have hv:(cW l m (i / 2)).2=(cW l m (k / 2)).2:=(by show dY l _=dY l _;exact congrArg (dY l) hf);have key:∀ (v a b:Pt),cr (tA a v) (tA b v)=0→bE a v b=0:=fun v a b hh=>by
   unfold cr tA at hh;unfold bE;simp only [Int.mul_sub,Int.sub_mul] at *;rw [Int.mul_comm v.2 v.1,Int.mul_comm v.2 b.1,Int.mul_comm v.2 a.1] at *;rw [Int.mul_comm a.2 b.1] at *;rw [Int.mul_comm a.2 v.1] at *;rw [Int.mul_comm a.2 a.1] at *;omega
  have hc:bE (cW l m (i / 2)).1 (cW l m (i / 2)).2 (cW l m (k / 2)).1=0:=by
   refine key _ _ _ ?_;have:=hr.1;rw [show tA (cW l m (k / 2)).1 (cW l m (i / 2)).2=eT (dB l m (k / 2)) by rw [hv];rfl];exact this
  have hc':bE (cW l m (k / 2)).1 (cW l m (k / 2)).2 (cW l m (i / 2)).1=0:=by
   refine key _ _ _ ?_;have:=(LC hr).1;rw [show tA (cW l m (i / 2)).1 (cW l m (k / 2)).2=eT (dB l m (i / 2)) by rw [← hv];rfl];exact this
  rcases hm with hm|hm
  ·exact hm (XM o1 o3 o2 o4 hv hc)
  ·exact hm (XM o3 o1 o4 o2 hv.symm hc')
end
theorem QO (v u w x:Pt):pX v u w x=true↔IF (tA u v) (tA w v) (tA x v):=by
 have h1:∀ a b,CA v a b=rk (tA a v) (tA b v):=fun a b=>rfl;unfold pX IF;rw [h1,h1,EK];split
 ·rename_i e;rw [decide_eq_true_iff];constructor
  ·exact fun h=>.inr ⟨e,h⟩
  ·rintro (h|⟨_,h⟩)
   ·omega
   ·exact h
 ·rename_i e;rw [decide_eq_true_iff];constructor
  ·exact fun h=>.inl h
  ·rintro (h|⟨h,_⟩)
   ·exact h
   ·exact absurd h e
section
variable {l:List Pt}{m:List Ed}{n:Int}
abbrev HW (l:List Pt)(m:List Ed)(x:Int):V2:=eT (bY (aR l m m.length) x.toNat)
theorem aCf (hp:gG l m n=true){s:Nat}(hs:s<l.length){i j:Nat}(hij:i<j)(hj:j<(bO (outs l m) s).length):yE (HW l m (aK (bO (outs l m) s) i)) (HW l m (aK (bO (outs l m) s) j)):=by
 have hok:=mW hp;have hso:=(yT hok hs).1 i j (Nat.zero_le _) hij hj;obtain⟨a,a1,a2,a3⟩:=(j1 hok hs).1 (at_mem (show i<(bO (outs l m) s).length by omega));obtain⟨b,b1,b2,b3⟩:=(j1 hok hs).1 (at_mem hj);have hne:a≠b:=fun e=>by
  have:=OC (G3 hok hs) (show i<_ by omega) hj (by rw [a2,b2,e]);omega
 have hM:=(iI hok).1;have fa:=mM (l:=l) hM a1;have fb:=mM (l:=l) hM b1;have na:=BV hok a1;have nb:=BV hok b1;unfold BL at hso;rw [a2,b2] at hso ⊢;show yE (eT (bY (aR l m m.length) ((a:Int)).toNat)) (eT (bY (aR l m m.length) ((b:Int)).toNat));rw [Int.toNat_natCast,Int.toNat_natCast];rcases ZN na nb (fun hr=>hne (aDS hp a1 b1 (by omega) hr)) with h|h
 ·exact h
 ·exfalso;rw [(uZ _ _ _).2 (by rw [Int.toNat_natCast,Int.toNat_natCast];exact h)] at hso;cases hso
theorem aEn (hp:gG l m n=true){d:Int}(h0:0≤d)(h1:d<(2*m.length:Nat)){x:Nat}(hx:x<2*m.length)(hfx:(bY (aR l m m.length) x).fr=(bY (aR l m m.length) d.toNat).tt)(hne:(x:Int)≠yB (aR l m m.length) (outs l m) d) :
  IF (HW l m (fK d)) (HW l m (yB (aR l m m.length) (outs l m) d)) (HW l m x):=by
 have hok:=mW hp;obtain⟨s,a,e1,hs,e2,ha,e3,e4,e5⟩:=tK hok h0 h1;have hb:=DX (E:=m.length) h0 h1;have hmem:(x:Int)∈bO (outs l m) s:=(j1 hok hs).2 ⟨x,hx,rfl,by rw [hfx,e1]⟩;obtain⟨q,hq,hqe⟩:=List.getElem_of_mem hmem;rw [← dR hq] at hqe;have hord:∀ {i j:Nat},i<j→j<(bO (outs l m) s).length→yE (HW l m (aK (bO (outs l m) s) i)) (HW l m (aK (bO (outs l m) s) j)):=fun hij hj=>aCf hp hs hij hj;have hnz:∀ {i:Nat},i<(bO (outs l m) s).length→nz (HW l m (aK (bO (outs l m) s) i)):=fun {i} hi=>by
  obtain⟨c,c1,c2,_⟩:=(j1 hok hs).1 (at_mem hi);rw [c2];show nz (eT (bY (aR l m m.length) ((c:Int)).toNat));rw [Int.toNat_natCast];exact BV hok c1
 rw [e5] at hne ⊢;rw [← e4,← hqe];rw [← hqe] at hne;generalize bO (outs l m) s=L at *;by_cases ha0:a=0
 ·rw [if_pos ha0] at hne ⊢;have hqn:q≠L.length - 1:=fun e=>hne (by rw [e]);subst ha0;by_cases hq0:q=0
  ·rw [hq0];exact JG (hnz ha) (hnz (by omega)) (.inl (hord (by omega) (by omega)))
  ·exact three (hnz ha) (hnz (by omega)) (hnz hq) (.inl ⟨hord (by omega) hq,hord (by omega) (by omega),hord (by omega) (by omega)⟩)
 ·rw [if_neg ha0] at hne ⊢;have hqn:q≠a - 1:=fun e=>hne (by rw [e]);by_cases hqa:q=a
  ·rw [hqa];exact JG (hnz ha) (hnz (by omega)) (.inr (hord (by omega) ha))
  ·rcases Nat.lt_or_ge q a with h|h
   ·exact three (hnz ha) (hnz (by omega)) (hnz hq) (.inr (.inr ⟨hord (by omega) (by omega),hord (by omega) ha,hord (by omega) ha⟩))
   ·exact three (hnz ha) (hnz (by omega)) (hnz hq) (.inr (.inl ⟨hord (by omega) ha,hord (by omega) hq,hord (by omega) hq⟩))
theorem u6 (l:List Pt)(m:List Ed){d:Int}(h0:0≤d)(h1:d<(2*m.length:Nat)):bS m d=(bY (aR l m m.length) d.toNat).fr∧iH m d=(bY (aR l m m.length) d.toNat).tt:=by
 have key:∀ {e:Int},0≤e→e<(2*m.length:Nat)→bS m e=(bY (aR l m m.length) e.toNat).fr:=fun {e} he0 he1=>by
  unfold bS;rcases mV (l:=l) (m:=m) (N:=m.length) (i:=e.toNat) (by omega) with ⟨x,h⟩|⟨x,h⟩
  ·rw [h,if_pos (by omega),show (e / 2).toNat=e.toNat / 2 by omega];rfl
  ·rw [h,if_neg (by omega),show (e / 2).toNat=e.toNat / 2 by omega];rfl
 refine⟨key h0 h1,?_⟩;have hb:=DX (E:=m.length) h0 h1;unfold iH;rw [show d+1 - 2*(d % 2)=fK d by unfold fK;split <;> omega,key hb.1 hb.2];exact (LS l m h0 h1).1
theorem aAx (hp:gG l m n=true){d:Int}(h0:0≤d)(h1:d<(2*m.length:Nat)){k:List Bool}(hk:∀ i,i<2*m.length→cG k i=true):gJ l m k d (2*m.length)=yB (aR l m m.length) (outs l m) d:=by
 have hok:=mW hp;have hM:=(iI hok).1;have hn:=NL hok h0 h1;have hfd:=u6 l m h0 h1;have hbd:=LS l m h0 h1;have hb:=DX (E:=m.length) h0 h1;have hfr:=mM (l:=l) hM (i:=d.toNat) (by omega);obtain⟨Y,hY⟩:∃ Y:Nat,yB (aR l m m.length) (outs l m) d=Y:=⟨(yB (aR l m m.length) (outs l m) d).toNat,by omega⟩;have hYl:Y<2*m.length:=(by omega);have hYf:=mM (l:=l) hM hYl;have hfY:(bY (aR l m m.length) Y).fr=(bY (aR l m m.length) d.toNat).tt:=by
  have:=hn.2.2;rw [hY,Int.toNat_natCast] at this;omega
 -- a dart's direction from the point
 have hv:∀ {x:Nat},x<2*m.length→(bY (aR l m m.length) x).fr=(bY (aR l m m.length) d.toNat).tt→tA (dY l (iH m x)) (dY l (iH m d))=HW l m x:=fun {x} hx hf=>by
  have e:=u6 l m (d:=(x:Int)) (by omega) (by omega);have e2:=MX l m hx;rw [hf] at e2;show _=eT (bY (aR l m m.length) ((x:Int)).toNat);rw [Int.toNat_natCast,e2,e.2,hfd.2,Int.toNat_natCast]
 have hu:tA (dY l (bS m d)) (dY l (iH m d))=HW l m (fK d):=by
  have e2:=MX l m (i:=(fK d).toNat) (by omega);rw [hbd.1,hbd.2.1] at e2;rw [hfd.1,hfd.2];exact e2.symm
 have hc:∀ {x:Nat},x<2*m.length→(bS m x=iH m d↔(bY (aR l m m.length) x).fr=(bY (aR l m m.length) d.toNat).tt):=fun {x} hx=>by
  rw [(u6 l m (d:=(x:Int)) (by omega) (by omega)).1,hfd.2,Int.toNat_natCast]
 have hsoon:∀ {x:Nat},x<2*m.length→(bY (aR l m m.length) x).fr=(bY (aR l m m.length) d.toNat).tt→x≠Y→pX (dY l (iH m d)) (dY l (bS m d)) (dY l (iH m Y)) (dY l (iH m x))=true∧pX (dY l (iH m d)) (dY l (bS m d)) (dY l (iH m x)) (dY l (iH m Y))=false:=fun {x} hx hf hne=>by
  have h:=aEn hp h0 h1 hx hf (by rw [hY];omega);rw [hY] at h;refine⟨(QO _ _ _ _).2 (by rw [hu,hv hYl hfY,hv hx hf];exact h),?_⟩;cases hq:pX (dY l (iH m d)) (dY l (bS m d)) (dY l (iH m x)) (dY l (iH m Y)) with
  |false=>rfl
  |true =>
   have:=(QO _ _ _ _).1 hq;rw [hu,hv hYl hfY,hv hx hf] at this;exact absurd this (S3 h)
 have key:∀ j,j≤2*m.length→(Y<j→gJ l m k d j=Y)∧(j≤Y→gJ l m k d j = -1∨∃ c:Nat,c<j∧gJ l m k d j=c∧(bY (aR l m m.length) c).fr=(bY (aR l m m.length) d.toNat).tt):=by
  intro j
  induction j with
  |zero=>exact fun _=>⟨fun h=>by omega,fun _=>.inl rfl⟩
  |succ j ih =>
   intro hj;obtain⟨i1,i2⟩:=ih (by omega);rcases Nat.lt_trichotomy j Y with h|h|h
   ·refine⟨fun h'=>by omega,fun _=>?_⟩;unfold gJ;split
    ·rename_i hc';exact .inr ⟨j,Nat.lt_succ_self j,rfl,(hc (by omega)).1 hc'.1.2⟩
    ·rcases i2 (by omega) with e|⟨c,c1,c2,c3⟩
     ·exact .inl e
     ·exact .inr ⟨c,by omega,c2,c3⟩
   ·subst h;refine⟨fun _=>?_,fun h'=>by omega⟩;refine aIo ⟨⟨hk j hYl,(hc hYl).2 hfY⟩,?_⟩;rcases i2 (Nat.le_refl _) with e|⟨c,c1,c2,c3⟩
    ·exact .inl (by omega)
    ·rw [c2];exact .inr (hsoon (by omega) c3 (by omega)).1
   ·refine⟨fun _=>?_,fun h'=>by omega⟩;rw [aDn (fun hh=>?_),i1 h];obtain⟨⟨_,q1⟩,q2⟩:=hh;rw [i1 h] at q2;rcases q2 with q2|q2
    ·omega
    ·rw [(hsoon (by omega) ((hc (by omega)).1 q1) (by omega)).2] at q2;cases q2
 rw [(key _ (Nat.le_refl _)).1 hYl,hY]
end
theorem oP (of w:List Int)(fc:Int)(hw:∀ t,t<w.length→(aK w t).toNat<of.length)(i:Nat):∀ k,k≤w.length→((∃ t,t<k∧(aK w t).toNat=i)→aK (dN of w fc k) i=fc)∧((¬ ∃ t,t<k∧(aK w t).toNat=i)→aK (dN of w fc k) i=aK of i)
 |0,_=>⟨fun ⟨t,h,_⟩=>by omega,fun _=>rfl⟩
 |k+1,hk=>by
  obtain⟨i1,i2⟩:=oP of w fc hw i k (by omega);have hs:=R4 (dN of w fc k) (aK w k).toNat fc i (by rw [fE];exact hw k (by omega));unfold dN;rw [hs];by_cases e:i=(aK w k).toNat
  ·rw [if_pos e];exact⟨fun _=>rfl,fun h=>absurd ⟨k,Nat.lt_succ_self k,e.symm⟩ h⟩
  ·rw [if_neg e];refine⟨fun ⟨t,h1,h2⟩=>i1 ⟨t,?_,h2⟩,fun h=>i2 fun ⟨t,h1,h2⟩=>h ⟨t,by omega,h2⟩⟩;rcases Nat.lt_or_ge t k with h|h
   ·exact h
   ·exact absurd (by rw [← h2,show t=k by omega]) e
theorem oO (L:List Bool)(x:Nat)(v:Bool)(i:Nat)(hx:x<L.length):cG (L.set x v) i=if i=x then v else cG L i:=by
 unfold cG;rw [List.getD_eq_getElem?_getD,List.getD_eq_getElem?_getD,List.getElem?_set];by_cases h:x=i
 ·subst h;simp [hx]
 ·rw [if_neg h,if_neg (fun e=>h e.symm)]
theorem o6 (s:List Bool)(w:List Int)(hw:∀ t,t<w.length→(aK w t).toNat<s.length)(i:Nat):∀ k,k≤w.length→((∃ t,t<k∧(aK w t).toNat=i)→cG (fS s w k) i=true)∧((¬ ∃ t,t<k∧(aK w t).toNat=i)→cG (fS s w k) i=cG s i)
 |0,_=>⟨fun ⟨t,h,_⟩=>by omega,fun _=>rfl⟩
 |k+1,hk=>by
  obtain⟨i1,i2⟩:=o6 s w hw i k (by omega);have hs:=oO (fS s w k) (aK w k).toNat true i (by rw [lA];exact hw k (by omega));unfold fS;rw [hs];by_cases e:i=(aK w k).toNat
  ·rw [if_pos e];exact⟨fun _=>rfl,fun h=>absurd ⟨k,Nat.lt_succ_self k,e.symm⟩ h⟩
  ·rw [if_neg e];refine⟨fun ⟨t,h1,h2⟩=>i1 ⟨t,?_,h2⟩,fun h=>i2 fun ⟨t,h1,h2⟩=>h ⟨t,by omega,h2⟩⟩;rcases Nat.lt_or_ge t k with h|h
   ·exact h
   ·exact absurd (by rw [← h2,show t=k by omega]) e
theorem VW {f:Int→Int}{d:Int}{N T:Nat}:∀ {k i:Nat},i≤T→T≤i+k→(∀ t,i≤t→t<T→mT f d N t=true)→mT f d N T=false→tW f d N k i=T
 |0,i,h1,h2,_,_=>by unfold tW;omega
 |k+1,i,h1,h2,h3,h4=>by
  unfold tW;by_cases e:i=T
  ·rw [e,h4];rfl
  ·rw [h3 i (Nat.le_refl _) (by omega),if_pos rfl];exact VW (by omega) (by omega) (fun t a b=>h3 t (by omega) b) h4
section
variable {l:List Pt}{m:List Ed}{n:Int}
theorem aCl {E i:Nat}(h:i<E):cG (List.replicate E true) i=true:=by
 unfold cG;rw [List.getD_eq_getElem?_getD,List.getElem?_replicate,if_pos h];rfl
theorem NU (hp:gG l m n=true){d:Nat}(hd:d<2*m.length):jU l m (List.replicate (2*m.length) true) d=qT (aR l m m.length) (outs l m) d:=by
 have hok:=mW hp;have hin:=tL hok (d:=(d:Int)) (by omega) (by omega);have hx:∀ i,pO (EH l m (List.replicate (2*m.length) true)) d i=kP (aR l m m.length) (outs l m) d (i+1):=by
  intro i
  induction i with
  |zero=>exact aAx hp (by omega) (by omega) (fun i hi=>aCl hi)
  |succ i ih =>
   unfold pO;rw [ih];have:=hin (i+1);exact aAx hp this.1 this.2 (fun i hi=>aCl hi)
 have hw:=List.all_eq_true.1 (xX hok) d (List.mem_range.2 (by rw [bI];exact hd));have hw:=of_decide_eq_true hw;obtain⟨p1,p2,p3⟩:=kZ (aR l m m.length) (outs l m) d (aR l m m.length).length 1;unfold qT;unfold kB at hw ⊢;generalize HC (aR l m m.length) (outs l m) d (aR l m m.length).length 1=T at *;rw [bI] at p2;have hN:tW (EH l m (List.replicate (2*m.length) true)) d (2*m.length) (2*m.length+2) 0=T - 1:=by
  refine VW (Nat.zero_le _) (by omega) (fun t _ ht=>?_) ?_
  ·unfold mT;rw [hx];have a:=hin (t+1);have b:=p3 (t+1) (by omega) (by omega);rw [decide_eq_false b,decide_eq_true a.1,decide_eq_true (show t≤2*m.length by omega)];rfl
  ·unfold mT;rw [hx,show T - 1+1=T by omega,hw,decide_eq_true rfl];rfl
 unfold jU;rw [hN];unfold C8;apply List.ext_getElem?;intro i;cases i with
 |zero =>
  rw [List.getElem?_cons_zero,List.getElem?_map,List.getElem?_range (by omega)];rfl
 |succ i =>
  rw [List.getElem?_cons_succ,List.getElem?_map,List.getElem?_map];by_cases h:i<T - 1
  ·rw [List.getElem?_range h,List.getElem?_range (by omega)];simp only [Option.map_some];rw [hx]
  ·rw [List.getElem?_eq_none (by rw [List.length_range];omega),List.getElem?_eq_none (by rw [List.length_range];omega)];rfl
theorem KO (l:List Pt)(m:List Ed){w:List Int}(hw:fH (aR l m m.length) w=true):∀ k,k≤w.length→mR l m w k=HR l (aR l m m.length) w k
 |0,_=>rfl
 |k+1,h=>by
  unfold mR HR;rw [KO l m hw k (by omega)];have hk:=jV hw (i:=k) (by omega);rw [bI] at hk;have:=u6 l m hk.1 (by omega);unfold N5 crI dY;rw [this.1,this.2]
structure Fre (m:List Ed) (s:Fst) (t:NB):Prop where
 len:s.of.length=2*m.length
 seen:t.seen.length=2*m.length
 face:t.face.length=2*m.length
 of:∀ i,i<2*m.length→(cG t.seen i=true∧0≤aK s.of i∧aK s.of i=aK t.face i)∨(cG t.seen i=false∧aK s.of i<0)
 many:s.faces=t.many
 low:0≤t.many
 out:s.outside=t.out
 ok:s.ok=!t.flat
theorem aAK (hp:gG l m n=true){s:Fst}{t:NB}(h:Fre m s t){d:Nat}(hd:d<2*m.length):Fre m (pG l m s d) (kG l (aR l m m.length) (outs l m) t d)∧cG (kG l (aR l m m.length) (outs l m) t d).seen d=true∧∀ i,cG t.seen i=true→i<2*m.length→cG (kG l (aR l m m.length) (outs l m) t d).seen i=true:=by
 have hok:=mW hp;unfold pG kG;rcases h.of d hd with ⟨h1,h2,h3⟩|⟨h1,h2⟩
 ·rw [if_pos h2,if_pos h1];exact⟨h,h1,fun i hi _=>hi⟩
 ·rw [if_neg (by omega),if_neg (by rw [h1];decide)];simp only;rw [NU hp hd];have w:=RL (l:=l) (HP hok) (d:=d) (by rw [bI];exact hd);have hfirst:aK (qT (aR l m m.length) (outs l m) d) 0=d:=by
   unfold qT;unfold aK;rw [List.getD_eq_getElem?_getD,List.getElem?_map,List.getElem?_range (by
    have:=(kZ (aR l m m.length) (outs l m) d (aR l m m.length).length 1).1;unfold kB;omega)]
   rfl
  generalize qT (aR l m m.length) (outs l m) d=W at w hfirst ⊢;rw [KO l m w.1 _ (Nat.le_refl _),h.many,h.out,h.ok];generalize HR l (aR l m m.length) W W.length=A;have hr:∀ t,t<W.length→(aK W t).toNat<2*m.length:=fun t ht=>by
   have:=jV w.1 (i:=t) ht;rw [bI] at this;omega
  have hset:∀ fc:Int,0≤fc→∀ i,i<2*m.length→(cG (fS t.seen W W.length) i=true∧0≤aK (dN s.of W fc W.length) i∧aK (dN s.of W fc W.length) i=aK (dN t.face W fc W.length) i)∨(cG (fS t.seen W W.length) i=false∧aK (dN s.of W fc W.length) i<0):=fun fc hfc i hi=>by
   obtain⟨a1,a2⟩:=oP s.of W fc (by rw [h.len];exact hr) i _ (Nat.le_refl _);obtain⟨b1,b2⟩:=oP t.face W fc (by rw [h.face];exact hr) i _ (Nat.le_refl _);obtain⟨c1,c2⟩:=o6 t.seen W (by rw [h.seen];exact hr) i _ (Nat.le_refl _);by_cases e:∃ k,k<W.length∧(aK W k).toNat=i
   ·rw [a1 e,b1 e,c1 e];exact .inl ⟨rfl,hfc,rfl⟩
   ·rw [a2 e,b2 e,c2 e];exact h.of i hi
  refine⟨⟨by rw [fE];exact h.len,by rw [lA];exact h.seen,by rw [fE];exact h.face,?_,rfl,?_,?_,?_⟩,?_,?_⟩
  ·have:=h.low;by_cases hA:0<A
   ·simp only [if_pos hA];exact hset _ (by omega)
   ·simp only [if_neg hA];exact hset _ (by omega)
  ·have:=h.low;show 0≤if 0<A then t.many+1 else t.many
   split <;> omega
  ·show (if A<0 then t.out+1 else t.out)=if 0<A then t.out else if A<0 then t.out+1 else t.out
   split <;> split <;> (first|rfl|omega)
  ·show (if A=0 then false else !t.flat)=!(if 0<A then t.flat else if A<0 then t.flat else true);by_cases hA:0<A
   ·rw [if_pos hA,if_neg (by omega)]
   ·by_cases hA2:A<0
    ·rw [if_neg hA,if_pos hA2,if_neg (by omega)]
    ·rw [if_neg hA,if_neg hA2,if_pos (by omega)];rfl
  ·exact (o6 t.seen W (by rw [h.seen];exact hr) d _ (Nat.le_refl _)).1 ⟨0,by omega,by rw [hfirst];rfl⟩
  ·intro i hi hi2;obtain⟨c1,c2⟩:=o6 t.seen W (by rw [h.seen];exact hr) i _ (Nat.le_refl _);by_cases e:∃ k,k<W.length∧(aK W k).toNat=i
   ·exact c1 e
   ·show cG (fS t.seen W W.length) i=true;rw [c2 e];exact hi
theorem KM (hp:gG l m n=true):∀ d,d≤2*m.length→Fre m (j6 l m d) (cC l (aR l m m.length) (outs l m) d)∧∀ i,i<d→cG (cC l (aR l m m.length) (outs l m) d).seen i=true
 |0,_=>by
  refine⟨⟨by simp [j6],by simp [cC,bI],by simp [cC,bI],fun i hi=>.inr ?_,rfl,Int.le_refl 0,rfl,rfl⟩,fun i hi=>by omega⟩;unfold j6 cC cG aK;rw [List.getD_eq_getElem?_getD,List.getD_eq_getElem?_getD,List.getElem?_replicate,List.getElem?_replicate,bI,if_pos hi,if_pos hi];exact⟨rfl,by decide⟩
 |d+1,h=>by
  obtain⟨i1,i2⟩:=KM hp d (by omega);obtain⟨a1,a2,a3⟩:=aAK hp i1 (d:=d) (by omega);refine⟨a1,fun i hi=>?_⟩;by_cases e:i=d
  ·rw [e];exact a2
  ·exact a3 i (i2 i (by omega)) (by omega)
theorem TK {f g:Nat→Bool}{n:Nat}(h:∀ i,i<n→f i=g i):nU f n=nU g n:=by
 rw [Bool.eq_iff_iff];exact⟨fun a=>fB fun i hi=>by rw [← h i hi];exact fG a hi,fun a=>fB fun i hi=>by rw [h i hi];exact fG a hi⟩
theorem aFb (hp:gG l m n=true):(y0 (cE l m)&&(decide ((cE l m).many=n)&&nU (DA l m) m.length))=(MM (eR l m)&&(decide ((eR l m).faces=n)&&nU (faB m (eR l m).of) m.length)):=by
 obtain⟨_,_,_,_,_,hn,_⟩:=iI (mW hp);obtain⟨h1,h2⟩:=KM hp (2*m.length) (Nat.le_refl _);have e:cE l m=cC l (aR l m m.length) (outs l m) (2*m.length):=by
  unfold cE nmD;rw [bI]
 have hof:∀ i,i<2*m.length→aK (eR l m).of i=aK (cE l m).face i:=fun i hi=>by
  rw [e];rcases h1.of i hi with ⟨_,_,h⟩|⟨h,_⟩
  ·exact h
  ·rw [h2 i hi] at h;cases h
 have hall:nU (DA l m) m.length=nU (faB m (eR l m).of) m.length:=by
  refine TK fun i hi=>?_;unfold DA faB;rw [hof (2*i) (by omega),hof (2*i+1) (by omega)]
 rw [hall];unfold y0 MM;have k1:(eR l m).faces=(cE l m).many:=(by rw [e];exact h1.many);have k2:(eR l m).outside=(cE l m).out:=(by rw [e];exact h1.out);have k3:(eR l m).ok=!(cE l m).flat:=(by rw [e];exact h1.ok);rw [k1,k2,k3];by_cases hc:(cE l m).many=n
 ·rw [decide_eq_true hc,decide_eq_true (show 1≤(cE l m).many by omega)];cases decide ((cE l m).out=1) <;> cases (cE l m).flat <;> rfl
 ·rw [decide_eq_false hc];simp
end
end Go.Aw
end
