/-
  FacesColumn No condition.
-/
import Derived.Test.YticajjhjehljpaaGreatQAh
import Derived.Test.YticajjhjehljpaaGreatQAi
import Derived.Test.YticajjhjehljpaaGreatQAw
import Derived.Test.YticajjhjehljpaaGreatQAx
import Derived.Test.YticajjhjehljpaaGreatQAy
import Derived.Test.YticajjhjehljpaaGreatQAz
set_option linter.unusedSimpArgs false
set_option linter.unusedVariables false
noncomputable section
namespace Go.Aw
set_option maxRecDepth 100000
set_option maxHeartbeats 2000000
def BS (l:List Pt)(P:Pt)(e:Ed):Bool:=JS P (kA l e.a,kA l e.b)
def onL (l:List Pt)(m:List Ed)(P:Pt):List Int:=bS (BS l P) m m.length
theorem aCQ {P:Pt}{s:Sg}(h:oF s (P,P)=true):JS P s=false:=by
 cases ho:JS P s with
 |false=>rfl
 |true =>
  exfalso;simp only [JS,Bool.and_eq_true] at ho;have h1:=JP P s ho.1.2;rw [ho.2] at h1;have h1:=h1.symm;obtain⟨px,py⟩:=P;obtain⟨⟨ax,ay⟩,⟨bx,b2⟩⟩:=s;simp only [r8,XN,Bool.and_eq_true,decide_eq_true_eq] at h1;simp only [oF,apI,mxI,mnI,Bool.or_eq_true,decide_eq_true_eq,ite_self] at h;obtain⟨⟨⟨a1,a2⟩,⟨b1,b3⟩⟩,_⟩:=h1;have e1:(if px<px then px else px)=px:=(by split <;> rfl);have e2:(if py<py then py else py)=py:=by split <;> rfl
  try rw [e1,e2] at h
  clear ho;rcases h with (h|h)|(h|h)
  all_goals first
   |exact absurd a1 (Int.not_le.2 h)
   |exact absurd a2 (Int.not_le.2 h)
   |exact absurd b1 (Int.not_le.2 h)
   |exact absurd b3 (Int.not_le.2 h)
   |((repeat' split at h) <;> (repeat' split at a1) <;> (repeat' split at a2) <;> omega)
   |((repeat' split at h) <;> (repeat' split at b1) <;> (repeat' split at b3) <;> omega)
def v48 (a:A48):Value:=match onL a.l a.m a.P with|[]=>aM|x::r=>.slice (some ⟨2010,0,none⟩) (x::r).length (x::r).length
def h48 (a:A48):Heap:=match onL a.l a.m a.P with|[]=>H48 a|x::r=>(2010,.cells true false 1 (flat aR.fl (x::r)))::(2009,.cells true false 1 [iv a.P.1,iv a.P.2])::H48 a
def n48 (a:A48):Nat:=match onL a.l a.m a.P with|[]=>2009|x::r=>2011
def X48:XF:=dX aL2 (fun a=>[pV 12,.agg #[iv a.P.1,iv a.P.2]]) H48 (fun _=>2009) v48 h48 n48
def N0 (N:Nat)(v:Value)(j:Int):List (Nat × Value):=[(0,pV 12),(3,pV 2009),(5,v),(13,iv N),(14,iv j)]
theorem w48 (l:List Pt)(m:List Ed)(n:Int)(c1 c2:Nat)(P:Pt)(ho:aY l m n=true)(hlm:l.length≤1000∧m.length≤1000) :
  body [K7,aDs,X20] 48 [pV 12,.agg #[iv P.1,iv P.2]] (H5 l m n c1 c2 [iv P.1,iv P.2]) 2009 (fun v h nx=>∃ ρ,kV 2009 ρ [(0,v48 ⟨l,m,n,c1,c2,P⟩)] (h48 ⟨l,m,n,c1,c2,P⟩) (n48 ⟨l,m,n,c1,c2,P⟩) [(0,v)] h nx):=by
 have hK:=LZ (l:=l) (m:=m) (n:=n) (c1:=c1) (c2:=c2) (cs:=[iv P.1,iv P.2]) hlm.1 rfl;have hN:∀ k,2009≤k→look (H5 l m n c1 c2 [iv P.1,iv P.2]) k=none:=fun k hk=>WH hlm.1 hk;have hok:=(dM (cB ho)).1;(conv=>whnf)
 refine⟨fun q e h nx=>∃ (i:Nat) (j:Int),j=i∧i≤m.length∧q=m.length - i∧((bS (BS l P) m i=[]∧e=N0 m.length aM j∧h=[(2009,.cells true false 1 [iv P.1,iv P.2])]++H5 l m n c1 c2 [iv P.1,iv P.2]∧nx=2010) ∨
  (0<(bS (BS l P) m i).length∧e=N0 m.length (.slice (some ⟨2010,0,none⟩) (bS (BS l P) m i).length (bS (BS l P) m i).length) j∧h=[(2010,.cells true false 1 (flat aR.fl (bS (BS l P) m i))),(2009,.cells true false 1 [iv P.1,iv P.2])]++H5 l m n c1 c2 [iv P.1,iv P.2]∧nx=2011)),⟨m.length,?_⟩,?_⟩
 ·refine cC (P:=[(2009,.cells true false 1 [iv P.1,iv P.2])]) (W:=H5 l m n c1 c2 [iv P.1,iv P.2]) (e0:=N0 m.length aM 0) (n0:=2010) [] ⟨0,0,rfl,Nat.zero_le _,rfl,.inl ⟨rfl,rfl,rfl,rfl⟩⟩ ?_ hK ?_ ?_ ?_ (fun _ h=>(by cases h)) (by omega)
  ·unfold N0;((repeat' refine iE rfl rfl ?_);exact iN)
  ·exact aV (fun _ _ h=>h) (hN _ (by decide))
  ·exact List.forall_mem_cons.2 ⟨⟨.inl ⟨Nat.le_of_ble_eq_true rfl,Nat.le_of_ble_eq_true rfl,Nat.le_of_ble_eq_true rfl⟩,_,rfl,⟨rfl,rfl,rfl,rfl,cY rfl⟩⟩,fun _ h=>(by cases h)⟩
  show ∀ k∈[2009],∀ k'∈[2009],_;decide
 rintro q e h nx ⟨i,j,hj,hi,rfl,hx⟩;rcases hx with ⟨hnil,rfl,rfl,rfl⟩|⟨hpos,rfl,rfl,rfl⟩
 ·unfold N0 H5;((conv=>whnf);apply bm<;>intro m1);rotate_left
  ·have hil:i=m.length:=(by simp [aA,aF] at m1;omega);(conv=>whnf);have hz:onL l m P=[]:=(by rw [← hnil,hil];rfl);unfold v48 h48 n48;simp only [hz];exact iP (v:=aM) (iQ rfl) (bU rfl) (by repeat' first|exact fun _ _ h=>h|(refine aV ?_ (hN _ (by decide)))|(refine c8 ?_ (hN _ (by decide)))|(refine ext_cons ?_ (hN _ (by decide)))|(refine gK ?_ (hN _ (by decide)))) hK (Nat.le_refl _)
  have hil:i<m.length:=(by simp [aA,aF] at m1;omega);(conv=>whnf);refine⟨l,m,bF dC rfl,bF dP rfl,?_⟩;refine aJ (show (F7 l m&&(decide (0≤j)&&decide (j<m.length)))=true from ?_) ?_
  ·rw [hok,decide_eq_true (show 0≤j by omega),decide_eq_true (show j<m.length by omega)];rfl
  have hjn:j.toNat=i:=(by omega);have hpr:BS l P (cN m i)=JS P (aP l m j.toNat):=(by rw [hjn];rfl);((conv=>whnf);apply bm<;>intro f1);rotate_left
  ·have hfar:oF (aP l m j.toNat) (P,P)=true:=by
    have f1:((!oF (aP l m j.toNat) (P,P)) == true)=false:=f1;simpa using f1
   rw [aCQ hfar] at hpr;have hf:bS (BS l P) m (i+1)=[]:=(tW hpr).trans hnil
   repeat' ((conv=>whnf);apply bm<;>intro g)
   all_goals first
    |((conv=>whnf)
      refine⟨m.length - (i+1),by omega,?_⟩;refine cC (P:=[(2009,.cells true false 1 [iv P.1,iv P.2])]) (W:=H5 l m n c1 c2 [iv P.1,iv P.2]) (e0:=N0 m.length aM (j+1)) (n0:=2010) [] ⟨i+1,j+1,by omega,by omega,rfl,.inl ⟨hf,rfl,rfl,rfl⟩⟩ ?_ hK ?_ ?_ ?_ (fun _ h=>(by cases h)) (by omega)
      ·unfold N0;((repeat' refine iE rfl rfl ?_);exact iN)
      ·repeat' first|exact fun _ _ h=>h|(refine aV ?_ (hN _ (by decide)))|(refine c8 ?_ (hN _ (by decide)))|(refine ext_cons ?_ (hN _ (by decide)))|(refine gK ?_ (hN _ (by decide)))
      ·exact List.forall_mem_cons.2 ⟨⟨.inl ⟨Nat.le_of_ble_eq_true rfl,Nat.le_of_ble_eq_true rfl,Nat.le_of_ble_eq_true rfl⟩,_,rfl,⟨rfl,rfl,rfl,rfl,cY rfl⟩⟩,fun _ h=>(by cases h)⟩
      show ∀ k∈[2009],∀ k'∈[2009],_;decide)
    |(exfalso;clear hf hpr;simp [aA,aF,aH] at *;first|omega|(simp_all;done)|(simp_all;omega))
  have hfar:oF (aP l m j.toNat) (P,P)=false:=by
   have f1:((!oF (aP l m j.toNat) (P,P)) == true)=true:=f1;simpa using f1
  ((conv=>whnf);apply bm<;>intro f2)
  ·have hon:JS P (aP l m j.toNat)=true:=by
    have f2:JS P (aP l m j.toNat)=true:=f2;exact f2
   rw [hon] at hpr;have hf:bS (BS l P) m (i+1)=[j]:=by rw [BI hpr,hnil,hj];rfl
   repeat' ((conv=>whnf);apply bm<;>intro g)
   all_goals first
    |((conv=>whnf)
      refine⟨m.length - (i+1),by omega,?_⟩;refine cC (P:=[(2010,.cells true false 1 (flat aR.fl [j])),(2009,.cells true false 1 [iv P.1,iv P.2])]) (W:=H5 l m n c1 c2 [iv P.1,iv P.2]) (e0:=N0 m.length (.slice (some ⟨2010,0,none⟩) 1 1) (j+1)) (n0:=2011) [(2010,2012)] ⟨i+1,j+1,by omega,by omega,rfl,.inr ⟨by rw [hf];exact Nat.one_pos,by rw [hf];rfl,by rw [hf];rfl,rfl⟩⟩ ?_ hK ?_ ?_ ?_ (fun p h=>by rcases List.mem_cons.1 h with rfl|h;exact Nat.le_of_ble_eq_true rfl;cases h) (by omega)
      ·unfold N0;((repeat' refine iE rfl rfl ?_);exact iN)
      ·repeat' first|exact fun _ _ h=>h|(refine aV ?_ (hN _ (by decide)))|(refine c8 ?_ (hN _ (by decide)))|(refine ext_cons ?_ (hN _ (by decide)))|(refine gK ?_ (hN _ (by decide)))
      ·exact List.forall_mem_cons.2 ⟨⟨.inl ⟨Nat.le_of_ble_eq_true rfl,Nat.le_of_ble_eq_true rfl,Nat.le_of_ble_eq_true rfl⟩,_,rfl,bW (aC aR [j]) rfl⟩,List.forall_mem_cons.2 ⟨⟨.inl ⟨Nat.le_of_ble_eq_true rfl,Nat.le_of_ble_eq_true rfl,Nat.le_of_ble_eq_true rfl⟩,_,rfl,⟨rfl,rfl,rfl,rfl,cY rfl⟩⟩,fun _ h=>(by cases h)⟩⟩
      show ∀ k∈[2010,2009],∀ k'∈[2010,2009],_;decide)
    |(exfalso;clear hf hpr;simp [aA,aF,aH] at *;first|omega|(simp_all;done)|(simp_all;omega))
  have hon:JS P (aP l m j.toNat)=false:=by
   have f2:JS P (aP l m j.toNat)=false:=f2;exact f2
  rw [hon] at hpr;have hf:bS (BS l P) m (i+1)=[]:=(tW hpr).trans hnil
  repeat' ((conv=>whnf);apply bm<;>intro g)
  all_goals first
   |((conv=>whnf)
     refine⟨m.length - (i+1),by omega,?_⟩;refine cC (P:=[(2009,.cells true false 1 [iv P.1,iv P.2])]) (W:=H5 l m n c1 c2 [iv P.1,iv P.2]) (e0:=N0 m.length aM (j+1)) (n0:=2010) [] ⟨i+1,j+1,by omega,by omega,rfl,.inl ⟨hf,rfl,rfl,rfl⟩⟩ ?_ hK ?_ ?_ ?_ (fun _ h=>(by cases h)) (by omega)
     ·unfold N0;((repeat' refine iE rfl rfl ?_);exact iN)
     ·repeat' first|exact fun _ _ h=>h|(refine aV ?_ (hN _ (by decide)))|(refine c8 ?_ (hN _ (by decide)))|(refine ext_cons ?_ (hN _ (by decide)))|(refine gK ?_ (hN _ (by decide)))
     ·exact List.forall_mem_cons.2 ⟨⟨.inl ⟨Nat.le_of_ble_eq_true rfl,Nat.le_of_ble_eq_true rfl,Nat.le_of_ble_eq_true rfl⟩,_,rfl,⟨rfl,rfl,rfl,rfl,cY rfl⟩⟩,fun _ h=>(by cases h)⟩
     show ∀ k∈[2009],∀ k'∈[2009],_;decide)
   |(exfalso;clear hf hpr;simp [aA,aF,aH] at *;first|omega|(simp_all;done)|(simp_all;omega))
 have hlen:(flat aR.fl (bS (BS l P) m i)).length=(bS (BS l P) m i).length:=(by rw [cJ];show _*1=_;omega);have hle:=pW (BS l P) m i;unfold N0 H5;((conv=>whnf);apply bm<;>intro m1);rotate_left
 ·have hil:i=m.length:=(by simp [aA,aF] at m1;omega);(conv=>whnf);have hz:onL l m P=bS (BS l P) m i:=(by rw [hil];rfl);generalize bS (BS l P) m i=L at *;cases L with
  |nil=>cases hpos
  |cons x r =>
   unfold v48 h48 n48;simp only [hz];refine iP (v:=.slice (some ⟨2010,0,none⟩) (x::r).length (x::r).length) rfl ⟨Nat.le_of_ble_eq_true rfl,fun h=>by cases h⟩ ?_ ?_ (Nat.le_of_ble_eq_true rfl)
   ·intro k o h;exact h
   exact bG (bG (sU hK (by omega)) (by omega) ⟨rfl,rfl,rfl,rfl,cY rfl⟩) (by omega) (aG (aC _ _))
 have hil:i<m.length:=(by simp [aA,aF] at m1;omega);(conv=>whnf);refine⟨l,m,bF dC rfl,bF dP rfl,?_⟩;refine aJ (show (F7 l m&&(decide (0≤j)&&decide (j<m.length)))=true from ?_) ?_
 ·rw [hok,decide_eq_true (show 0≤j by omega),decide_eq_true (show j<m.length by omega)];rfl
 have hjn:j.toNat=i:=(by omega);have hpr:BS l P (cN m i)=JS P (aP l m j.toNat):=(by rw [hjn];rfl);((conv=>whnf);apply bm<;>intro f1);rotate_left
 ·have hfar:oF (aP l m j.toNat) (P,P)=true:=by
   have f1:((!oF (aP l m j.toNat) (P,P)) == true)=false:=f1;simpa using f1
  rw [aCQ hfar] at hpr;have hf:bS (BS l P) m (i+1)=bS (BS l P) m i:=tW hpr;generalize bS (BS l P) m i=L at *
  repeat' ((conv=>whnf);apply bm<;>intro g)
  all_goals first
   |((conv=>whnf)
     refine⟨m.length - (i+1),by omega,?_⟩;refine cC (P:=[(2010,.cells true false 1 (flat aR.fl L)),(2009,.cells true false 1 [iv P.1,iv P.2])]) (W:=H5 l m n c1 c2 [iv P.1,iv P.2]) (e0:=N0 m.length (.slice (some ⟨2010,0,none⟩) L.length L.length) (j+1)) (n0:=2011) [] ⟨i+1,j+1,by omega,by omega,rfl,.inr ⟨by rw [hf];exact hpos,by rw [hf];rfl,by rw [hf];rfl,rfl⟩⟩ ?_ hK ?_ ?_ ?_ (fun _ h=>(by cases h)) (by omega)
     ·unfold N0;((repeat' refine iE rfl rfl ?_);exact iN)
     ·repeat' first|exact fun _ _ h=>h|(refine aV ?_ (hN _ (by decide)))|(refine c8 ?_ (hN _ (by decide)))|(refine ext_cons ?_ (hN _ (by decide)))|(refine gK ?_ (hN _ (by decide)))
     ·exact List.forall_mem_cons.2 ⟨⟨.inl ⟨Nat.le_of_ble_eq_true rfl,Nat.le_of_ble_eq_true rfl,Nat.le_of_ble_eq_true rfl⟩,_,rfl,aG (aC _ _)⟩,List.forall_mem_cons.2 ⟨⟨.inl ⟨Nat.le_of_ble_eq_true rfl,Nat.le_of_ble_eq_true rfl,Nat.le_of_ble_eq_true rfl⟩,_,rfl,⟨rfl,rfl,rfl,rfl,cY rfl⟩⟩,fun _ h=>(by cases h)⟩⟩
     show ∀ k∈[2010,2009],∀ k'∈[2010,2009],_;decide)
   |(exfalso;first|exact xY (s:=1) (by omega) (by omega) g|(clear hf hpr;simp [aA,aF,aH] at *;first|omega|(simp_all;done)|(simp_all;omega)))
 have hfar:oF (aP l m j.toNat) (P,P)=false:=by
  have f1:((!oF (aP l m j.toNat) (P,P)) == true)=true:=f1;simpa using f1
 ((conv=>whnf);apply bm<;>intro f2)
 ·have hon:JS P (aP l m j.toNat)=true:=by
   have f2:JS P (aP l m j.toNat)=true:=f2;exact f2
  rw [hon] at hpr;have hf:bS (BS l P) m (i+1)=bS (BS l P) m i++[j]:=(by rw [BI hpr,hj]);generalize bS (BS l P) m i=L at *
  repeat' ((conv=>whnf);apply bm<;>intro g)
  all_goals first
   |((conv=>whnf)
     refine⟨m.length - (i+1),by omega,?_⟩;refine cC (P:=[(2010,.cells true false 1 (flat aR.fl (L++[j]))),(2009,.cells true false 1 [iv P.1,iv P.2])]) (W:=H5 l m n c1 c2 [iv P.1,iv P.2]) (e0:=N0 m.length (.slice (some ⟨2010,0,none⟩) (L.length+1) (L.length+1)) (j+1)) (n0:=2011) [(2010,2013)] ⟨i+1,j+1,by omega,by omega,rfl,.inr ⟨by rw [hf,List.length_append];exact Nat.succ_pos _,by rw [hf,List.length_append];rfl,by rw [hf];rfl,rfl⟩⟩ ?_ hK ?_ ?_ ?_ (fun p h=>by rcases List.mem_cons.1 h with rfl|h;exact Nat.le_of_ble_eq_true rfl;cases h) (by omega)
     ·unfold N0;((repeat' refine iE rfl rfl ?_);exact iN)
     ·repeat' first|exact fun _ _ h=>h|(refine aV ?_ (hN _ (by decide)))|(refine c8 ?_ (hN _ (by decide)))|(refine ext_cons ?_ (hN _ (by decide)))|(refine gK ?_ (hN _ (by decide)))
     ·exact List.forall_mem_cons.2 ⟨⟨.inl ⟨Nat.le_of_ble_eq_true rfl,Nat.le_of_ble_eq_true rfl,Nat.le_of_ble_eq_true rfl⟩,_,rfl,bW (aC aR _) (nQ aR L j rfl)⟩,List.forall_mem_cons.2 ⟨⟨.inl ⟨Nat.le_of_ble_eq_true rfl,Nat.le_of_ble_eq_true rfl,Nat.le_of_ble_eq_true rfl⟩,_,rfl,⟨rfl,rfl,rfl,rfl,cY rfl⟩⟩,fun _ h=>(by cases h)⟩⟩
     show ∀ k∈[2010,2009],∀ k'∈[2010,2009],_;decide)
   |(exfalso;first|exact xY (s:=1) (by omega) (by omega) g|(clear hf hpr;simp [aA,aF,aH] at *;first|omega|(simp_all;done)|(simp_all;omega)))
 have hon:JS P (aP l m j.toNat)=false:=by
  have f2:JS P (aP l m j.toNat)=false:=f2;exact f2
 rw [hon] at hpr;have hf:bS (BS l P) m (i+1)=bS (BS l P) m i:=tW hpr;generalize bS (BS l P) m i=L at *
 repeat' ((conv=>whnf);apply bm<;>intro g)
 all_goals first
  |((conv=>whnf)
    refine⟨m.length - (i+1),by omega,?_⟩;refine cC (P:=[(2010,.cells true false 1 (flat aR.fl L)),(2009,.cells true false 1 [iv P.1,iv P.2])]) (W:=H5 l m n c1 c2 [iv P.1,iv P.2]) (e0:=N0 m.length (.slice (some ⟨2010,0,none⟩) L.length L.length) (j+1)) (n0:=2011) [] ⟨i+1,j+1,by omega,by omega,rfl,.inr ⟨by rw [hf];exact hpos,by rw [hf];rfl,by rw [hf];rfl,rfl⟩⟩ ?_ hK ?_ ?_ ?_ (fun _ h=>(by cases h)) (by omega)
    ·unfold N0;((repeat' refine iE rfl rfl ?_);exact iN)
    ·repeat' first|exact fun _ _ h=>h|(refine aV ?_ (hN _ (by decide)))|(refine c8 ?_ (hN _ (by decide)))|(refine ext_cons ?_ (hN _ (by decide)))|(refine gK ?_ (hN _ (by decide)))
    ·exact List.forall_mem_cons.2 ⟨⟨.inl ⟨Nat.le_of_ble_eq_true rfl,Nat.le_of_ble_eq_true rfl,Nat.le_of_ble_eq_true rfl⟩,_,rfl,aG (aC _ _)⟩,List.forall_mem_cons.2 ⟨⟨.inl ⟨Nat.le_of_ble_eq_true rfl,Nat.le_of_ble_eq_true rfl,Nat.le_of_ble_eq_true rfl⟩,_,rfl,⟨rfl,rfl,rfl,rfl,cY rfl⟩⟩,fun _ h=>(by cases h)⟩⟩
    show ∀ k∈[2010,2009],∀ k'∈[2010,2009],_;decide)
  |(exfalso;first|exact xY (s:=1) (by omega) (by omega) g|(clear hf hpr;simp [aA,aF,aH] at *;first|omega|(simp_all;done)|(simp_all;omega)))
theorem x48:dJ Go.Proofs.Tryz.prog 48 X48:=HE (aK (xl:=[K7,aDs,X20]) (.cons aFF (.cons aLm (.cons x20 .nil)))) fun a ⟨ho,hlm,hP⟩=>w48 a.l a.m a.n a.c1 a.c2 a.P ho hlm
def okA (a:A48 × Bool):Prop:=aY a.1.l a.1.m a.1.n=true∧(a.1.l.length≤1000∧a.1.m.length≤1000)∧aI a.1.P=a.2
def EK (l:List Pt)(m:List Ed)(P:Pt):Bool→Int × Int
 |false=>(0,1)
 |true=>match onL l m P with|[]=>(Y3 l m P,0)|_::_=>(0,21)
def v47 (a:A48 × Bool):Value:=.tuple #[iv (EK a.1.l a.1.m a.1.P a.2).1,iv (EK a.1.l a.1.m a.1.P a.2).2]
def X47:XF:=dX okA (fun _=>[pV 12,pV 3]) (fun a=>H48 a.1) (fun _=>2009) v47 (fun a=>H48 a.1) (fun _=>2009)
theorem YZ (l:List Pt)(m:List Ed)(P:Pt)(b:Bool):EK l m P b=(0,1)∨EK l m P b=(Y3 l m P,0)∨EK l m P b=(0,21):=by
 cases b with
 |false=>exact .inl rfl
 |true =>
  unfold EK;cases onL l m P with
  |nil=>exact .inr (.inl rfl)
  |cons a t=>exact .inr (.inr rfl)
theorem w47 (l:List Pt)(m:List Ed)(n:Int)(c1 c2:Nat)(P:Pt)(b:Bool)(ho:aY l m n=true)(hlm:l.length≤1000∧m.length≤1000)(hb:aI P=b) :
  body [X17,(48,X48),(49,X49)] 47 [pV 12,pV 3] (H5 l m n c1 c2 [iv P.1,iv P.2]) 2009 (fun v h nx=>∃ ρ,kV 2009 ρ [(0,.tuple #[iv (EK l m P b).1,iv (EK l m P b).2])] (H5 l m n c1 c2 [iv P.1,iv P.2]) 2009 [(0,v)] h nx):=by
 have hK:=LZ (l:=l) (m:=m) (n:=n) (c1:=c1) (c2:=c2) (cs:=[iv P.1,iv P.2]) hlm.1 rfl;have hN:∀ k,2009≤k→look (H5 l m n c1 c2 [iv P.1,iv P.2]) k=none:=fun k hk=>WH hlm.1 hk;obtain⟨p1,p2⟩:=P;cases b with
 |false =>
  (conv=>whnf);rw [hb];(conv=>whnf);have he:(if aI (p1,p2)=true then (0:Int) else 1)=1:=(by rw [hb];rfl);show ∃ ρ,kV 2009 ρ _ _ 2009 [(0,.tuple #[iv 0,iv (if aI (p1,p2)=true then 0 else 1)])] _ _;rw [he];exact iP (v:=.tuple #[iv 0,iv 1]) (iQ rfl) (bU rfl) (fun _ _ h=>h) hK (Nat.le_refl _)
 |true =>
  (conv=>whnf);rw [hb];(conv=>whnf);refine⟨⟨l,m,n,c1,c2,(p1,p2)⟩,⟨ho,hlm,hb⟩,rfl,rfl,rfl,?_⟩;cases hL:onL l m (p1,p2) with
  |nil =>
   have hv:v48 ⟨l,m,n,c1,c2,(p1,p2)⟩=aM:=(by unfold v48;simp only [hL]);have hh:h48 ⟨l,m,n,c1,c2,(p1,p2)⟩=H48 ⟨l,m,n,c1,c2,(p1,p2)⟩:=(by unfold h48;simp only [hL]);have hn:n48 ⟨l,m,n,c1,c2,(p1,p2)⟩=2009:=(by unfold n48;simp only [hL]);have ha:EK l m (p1,p2) true=(Y3 l m (p1,p2),0):=(by unfold EK;simp only [hL]);rw [hv,hh,hn,ha];(conv=>whnf);refine⟨⟨l,m,n,c1,c2,(p1,p2)⟩,⟨ho,hlm,hb⟩,rfl,rfl,rfl,?_⟩;(conv=>whnf);exact iP (v:=.tuple #[iv (Y3 l m (p1,p2)),iv 0]) (iQ rfl) (bU rfl) (fun _ _ h=>h) hK (Nat.le_refl _)
  |cons x r =>
   have hv:v48 ⟨l,m,n,c1,c2,(p1,p2)⟩=.slice (some ⟨2010,0,none⟩) (r.length+1) (r.length+1):=(by unfold v48;simp only [hL];rfl);have hh:h48 ⟨l,m,n,c1,c2,(p1,p2)⟩=(2010,.cells true false 1 (flat aR.fl (x::r)))::(2009,.cells true false 1 [iv p1,iv p2])::H48 ⟨l,m,n,c1,c2,(p1,p2)⟩:=(by unfold h48;simp only [hL]);have hn:n48 ⟨l,m,n,c1,c2,(p1,p2)⟩=2011:=(by unfold n48;simp only [hL]);have ha:EK l m (p1,p2) true=(0,21):=(by unfold EK;simp only [hL]);rw [hv,hh,hn,ha];((conv=>whnf);apply bm<;>intro g)
   ·(conv=>whnf);exact iP (v:=.tuple #[iv 0,iv 21]) (iQ rfl) (bU rfl) (ext_cons (ext_cons (fun _ _ h=>h) (hN _ (by decide))) (hN _ (by decide))) hK (Nat.le_refl _)
   exfalso;simp [aA,aF] at g
theorem x47:dJ Go.Proofs.Tryz.prog 47 X47:=HE (aK (xl:=[X17,(48,X48),(49,X49)]) (.cons x17 (.cons x48 (.cons x49 .nil)))) fun a ⟨ho,hlm,hb⟩=>w47 a.1.l a.1.m a.1.n a.1.c1 a.1.c2 a.1.P a.2 ho hlm hb
def atP (l:List Pt)(m:List Ed)(n:Int):List Value→Option (Bool × Value)
 |[.agg ⟨[.int .i64 x,.int .i64 y]⟩]=>some (decide (l.length≤1000)&&decide (m.length≤1000),.tuple #[iv (EK l m (x,y) (aY l m n&&aI (x,y))).1,iv (EK l m (x,y) (aY l m n&&aI (x,y))).2])
 |_=>none
theorem aEB {l:List Pt}{m:List Ed}{n:Int}{r:List Value}{v:Value}(hs:atP l m n r=some (true,v)):∃ P:Pt,r=[.agg #[iv P.1,iv P.2]]∧(l.length≤1000∧m.length≤1000)∧v=.tuple #[iv (EK l m P (aY l m n&&aI P)).1,iv (EK l m P (aY l m n&&aI P)).2]:=by
 unfold atP at hs;split at hs
 ·injection hs with hs;injection hs with h1 h2;simp only [Bool.and_eq_true,decide_eq_true_eq] at h1;exact⟨(_,_),rfl,h1,h2.symm⟩
 ·cases hs
def aER:Nat × XF:=(16,mX dC dP atP)
theorem aMn:dJ Go.Proofs.Tryz.prog aER.1 aER.2:=OG dC dP (jN (D3 (xl:=[aCP,(47,X47)]) (.cons aIR (.cons x47 .nil)) 4) 6).1 fun l m n r v hs=>by
 obtain⟨P,rfl,hlm,rfl⟩:=aEB hs;clear hs;refine⟨rfl,rfl,fun c1 c2=>?_⟩;(conv=>whnf);refine⟨l,m,n,.slice (some ⟨0,0,none⟩) l.length c1,.slice (some ⟨1,0,none⟩) m.length c2,rfl,bF dC rfl,bF dP rfl,hlm,?_⟩;cases ho:aY l m n with
 |false =>
  rw [Bool.false_and];refine .inr ⟨rfl,?_⟩;(conv=>whnf);rfl
 |true =>
  rw [Bool.true_and];refine .inl ⟨rfl,?_⟩;(conv=>whnf);refine⟨(⟨l,m,n,c1,c2,P⟩,aI P),⟨ho,hlm,rfl⟩,rfl,rfl,rfl,?_⟩;have hv:v47 (⟨l,m,n,c1,c2,P⟩,aI P)=.tuple #[iv (EK l m P (aI P)).1,iv (EK l m P (aI P)).2]:=rfl;rcases YZ l m P (aI P) with e|e|e
  all_goals
   rw [e] at hv ⊢;rw [hv];(conv=>whnf);rfl
section
variable {l:List Pt}{m:List Ed}{n:Int}{P:Pt}
theorem aIg (ho:aY l m n=true)(hP:aI P=true)(hL:onL l m P=[]):DF l m P:=fun i hi=>by
 have hs:=(kQ (cB ho) hi).1;have:BS l P (cN m i)=false:=by
  cases h:BS l P (cN m i) with
  |false=>rfl
  |true =>
   have:(i:Int)∈onL l m P:=(uG _ _ _ _).2 ⟨by omega,by omega,by rw [Int.toNat_natCast];exact h⟩;rw [hL] at this;cases this
 have h2:JS P (aP l m i)=false:=this;unfold JS at h2;rw [hP,hs,Bool.true_and,Bool.true_and,JP P _ hs] at h2;exact h2
theorem aLk {S:List Int}:∀ {q:Nat},q<S.length→yR l m P (aE S q).toNat<0→(∀ r,r<q→¬ yR l m P (aE S r).toNat<0)→atS l m P S=(cN m (aE S q).toNat).r:=by
 induction S with
 |nil=>intro q h;cases h
 |cons y t ih =>
  intro q h1 h2 h3;cases q with
  |zero=>exact if_pos h2
  |succ q =>
   have:¬ aL (aP l m y.toNat).1 (aP l m y.toNat).2 P<0:=h3 0 (by omega);rw [atS,if_neg this];exact ih (q:=q) (by simpa using h1) h2 fun r hr=>h3 (r+1) (by omega)
theorem aKK {S:List Int}(h:∀ r,r<S.length→¬ yR l m P (aE S r).toNat<0):atS l m P S=0:=by
 induction S with
 |nil=>rfl
 |cons y t ih =>
  have:¬ aL (aP l m y.toNat).1 (aP l m y.toNat).2 P<0:=h 0 (by simp);rw [atS,if_neg this];exact ih fun r hr=>h (r+1) (by simpa using hr)
theorem aJk (ho:aY l m n=true)(hoff:DF l m P)(f:Int):wnd l m P (cF l m f)=(if Y3 l m P=f then 1 else 0) - (if f=0 then 1 else 0):=by
 have h:=FM ho hoff (x:=P.1) (.inl rfl) f;rcases RL l m P.1 P with ⟨q,h1,h2,h3⟩|h0
 ·have e:Y3 l m P=oO l m (2*cE l m P.1 q+1):=by
   refine (aLk (S:=dD l m P.1) h1 h2 h3).trans ?_;exact (NI ho (lT ho h1).1).2
  rw [h.1 q h1 h2 h3,e]
 have e:Y3 l m P=0:=aKK h0;rw [h.2 h0,e];by_cases g:f=0
 ·rw [if_pos g,if_pos g.symm];rfl
 rw [if_neg g,if_neg fun e=>g e.symm];rfl
end
section
variable {l:List Pt}{m:List Ed}{n:Int}{P:Pt}
theorem aLp (ho:aY l m n=true){d:Nat}(hd:d<2*m.length){e:Nat}(he:e<2*m.length)(h:∀ f,LL l m (cF l m f) d=LL l m (cF l m f) e):oO l m d=oO l m e:=by
 have:=h (oO l m d);rw [MI ho _ hd,MI ho _ he,if_pos rfl] at this;refine Classical.byContradiction fun g=>?_;rw [if_neg (show ¬ oO l m e=oO l m d from fun h=>g h.symm)] at this;omega
theorem aKY (ho:aY l m n=true){d:Nat}(hd:d<2*m.length)(h:∀ f,LL l m (cF l m f) d=0):oO l m d=0:=by
 have:=h (oO l m d);rw [MI ho _ hd,if_pos rfl] at this;refine Classical.byContradiction fun g=>?_;rw [if_neg g] at this;omega
theorem aA3 (ho:aY l m n=true){x:Int}(h0:0<(dD l m x).length):oO l m (2*cE l m x 0+1)=0:=by
 have hE:=lT ho h0;refine aKY ho (by omega) fun f=>?_;have:=aDa ho (pK ho f) h0;rw [(xZ ho (pK ho f) hE.1 hE.2.2).2];omega
theorem aCU (ho:aY l m n=true){x:Int}{q:Nat}(hq:q+1=(dD l m x).length):oO l m (2*cE l m x q)=0:=by
 have hE:=lT ho (x:=x) (q:=q) (by omega);refine aKY ho (by omega) fun f=>?_;rw [(xZ ho (pK ho f) hE.1 hE.2.2).1,U7 ho _ hq];rfl
theorem aAQ (ho:aY l m n=true){x:Int}{q:Nat}(hq:q+1<(dD l m x).length):oO l m (2*cE l m x q)=oO l m (2*cE l m x (q+1)+1):=by
 have hE:=lT ho (x:=x) (q:=q) (by omega);have hF:=lT ho (x:=x) (q:=q+1) (by omega);refine aLp ho (by omega) (by omega) fun f=>?_;rw [(xZ ho (pK ho f) hE.1 hE.2.2).1,(xZ ho (pK ho f) hF.1 hF.2.2).2,aGe ho _ hq];omega
theorem Y9 (m:List Ed)(S:List Int):∀ k,aE (H7 m S k) 0=0
 |0=>rfl
 |k+1=>by
  have h:=Y9 m S k;have hl:=mP m S k;rw [bX (by omega)] at h;rw [bX (by rw [mP];omega)];unfold H7;rw [List.getElem_append_left (by omega)];exact h
theorem aLE (m:List Ed)(S:List Int):∀ k q,q<k→aE (H7 m S k) (q+1)=(cN m (aE S q).toNat).l
 |0,_,h=>by omega
 |k+1,q,h=>by
  have hl:=mP m S k;rw [bX (by rw [mP];omega)];unfold H7;by_cases e:q=k
  ·subst e;rw [List.getElem_append_right (by omega)];simp [hl]
  rw [List.getElem_append_left (by omega)];have:=aLE m S k q (by omega);rw [bX (by omega)] at this;exact this
theorem U3 (ho:aY l m n=true){x:Int}{q:Nat}(hq:q<(dD l m x).length):aE (nS l m x) (q+1)=oO l m (2*cE l m x q):=by
 unfold nS;rw [aLE _ _ _ _ hq];exact (NI ho (lT ho hq).1).1
theorem QL (ho:aY l m n=true){x:Int}{q:Nat}(hq:q<(dD l m x).length):aE (nS l m x) q=oO l m (2*cE l m x q+1):=by
 cases q with
 |zero=>rw [aA3 ho hq];exact Y9 _ _ _
 |succ q=>rw [U3 ho (by omega),aAQ ho hq]
theorem aEa (ho:aY l m n=true){x:Int}:aE (nS l m x) (dD l m x).length=0:=by
 cases h:(dD l m x).length with
 |zero=>exact Y9 _ _ _
 |succ q=>rw [U3 ho (by omega),aCU ho h.symm]
theorem aKa (ho:aY l m n=true){x:Int}{q:Nat}(hq:q<(nS l m x).length):I9 n (aE (nS l m x) q)=true:=by
 have hn:1≤n:=(dM (cB ho)).2.2.2.2.2.1;have hl:(nS l m x).length=(dD l m x).length+1:=mP _ _ _;have:0≤aE (nS l m x) q∧aE (nS l m x) q≤n:=by
  cases q with
  |zero=>rw [show aE (nS l m x) 0=0 from Y9 _ _ _];omega
  |succ q =>
   rw [U3 ho (by omega)];exact GA ho (by have:=(lT ho (x:=x) (q:=q) (by omega)).1;omega)
 simp only [I9,Bool.and_eq_true,decide_eq_true_eq];exact this
theorem aAi (ho:aY l m n=true){x:Int}{q:Nat}(hq:q<(dD l m x).length):0<(bS (RP (aE (nS l m x) q) (aE (nS l m x) (q+1))) m m.length).length:=by
 have hE:=lT ho hq;have he:=NI ho hE.1;have:((cE l m x q:Nat):Int)∈bS (RP (aE (nS l m x) q) (aE (nS l m x) (q+1))) m m.length:=by
  refine (uG _ _ _ _).2 ⟨by omega,by omega,?_⟩;rw [Int.toNat_natCast];unfold RP;have e1:(cN m (cE l m x q)).l=aE (nS l m x) (q+1):=(by rw [U3 ho hq];exact he.1);have e2:(cN m (cE l m x q)).r=aE (nS l m x) q:=(by rw [QL ho hq];exact he.2);rw [e1,e2,decide_eq_true rfl,decide_eq_true rfl];simp
 exact List.length_pos_of_mem this
theorem aIf (ho:aY l m n=true)(hoff:DF l m P){x:Int}(hx:P.1=x∨P.1=x+1):Y3 l m P∈nS l m x:=by
 have hl:(nS l m x).length=(dD l m x).length+1:=mP _ _ _;have uniq:∀ F:Int,(∀ f,wnd l m P (cF l m f)=(if F=f then 1 else 0) - (if f=0 then 1 else 0))→Y3 l m P=F:=fun F hF=>by
  have h1:=hF F;rw [aJk ho hoff F,if_pos rfl] at h1;refine Classical.byContradiction fun g=>?_;rw [if_neg g] at h1;omega
 have hm:∀ q,q<(nS l m x).length→aE (nS l m x) q∈nS l m x:=fun q hq=>(by rw [bX hq];exact List.getElem_mem hq);rcases RL l m x P with ⟨q,h1,h2,h3⟩|h0
 ·have e:=uniq (oO l m (2*cE l m x q+1)) fun f=>(FM ho hoff hx f).1 q h1 h2 h3;rw [e,← QL ho h1];exact hm q (by omega)
 have e:=uniq 0 fun f=>by
  rw [(FM ho hoff hx f).2 h0];by_cases g:f=0
  ·rw [if_pos g,if_pos g.symm];rfl
  rw [if_neg g,if_neg fun e=>g e.symm];rfl
 rw [e,← show aE (nS l m x) 0=0 from Y9 _ _ _];exact hm 0 (by omega)
end
theorem aI1 {l:List Pt}{m:List Ed}(h1:(!(decide ((l.length:Int)≤60)&&decide ((m.length:Int)≤60)))=false):l.length≤1000∧m.length≤1000:=by
 have h1:(decide ((l.length:Int)≤60)&&decide ((m.length:Int)≤60))=true:=(by simpa using h1);simp only [Bool.and_eq_true,decide_eq_true_eq] at h1;omega
set_option maxHeartbeats 4000000
def e5c (x y:Int)(N:Nat)(j:Int):List (Nat × Value):=[(1,iv x),(2,iv y),(3,pV 2),(7,.slice (some ⟨3,0,none⟩) N N),(9,iv j)]
def e5d (x y:Int)(N:Nat)(j:Int):List (Nat × Value):=[(1,iv x),(2,iv y),(3,pV 2),(7,.slice (some ⟨3,0,none⟩) N N),(12,iv j)]
def e5e (x y:Int)(N M:Nat)(j:Int):List (Nat × Value):=[(1,iv x),(2,iv y),(3,pV 2),(7,.slice (some ⟨3,0,none⟩) N N),(9,iv j),(10,.slice (some ⟨4,0,none⟩) M M),(11,iv 0)]
def N5 (l:List Pt)(m:List Ed)(c1 c2:Nat)(n:Int)(O:List Int):Heap:=(3,.cells true false 1 (flat aR.fl O))::(2,mY l.length m.length c1 c2 n)::bR dC dP l m
theorem aJ4 {l:List Pt}{m:List Ed}{n x y j:Int}(ho:aY l m n=true)(hj:j=0∨j=1):∃ F E:Int,EK l m (x+j,y) (aY l m n&&aI (x+j,y))=(F,E)∧(E=0→F∈nS l m x):=by
 rw [ho,Bool.true_and];cases hb:aI (x+j,y) with
 |false=>exact⟨0,1,rfl,fun h=>by cases h⟩
 |true =>
  cases hL:onL l m (x+j,y) with
  |nil =>
   refine⟨Y3 l m (x+j,y),0,by unfold EK;simp only [hL],fun _=>aIf ho (aIg ho hb hL) ?_⟩;show x+j=x∨x+j=x+1;omega
  |cons a t=>exact⟨0,21,by unfold EK;simp only [hL],fun h=>by cases h⟩
theorem w5c (l:List Pt)(m:List Ed)(n:Int)(c1 c2:Nat)(x y:Int):aGN [aFH,X16,aGb,aGa,aER,X62] 5 [l8 l.length m.length c1 c2 n,iv x,iv y] (bR dC dP l m) 2 (fun v _ _=>v=.bool true):=by
 (conv=>whnf);refine⟨l,m,bF dC rfl,bF dP rfl,?_⟩;((conv=>whnf);apply bm<;>intro h1)
 ·(conv=>whnf)
 have hlm:l.length≤1000∧m.length≤1000:=aI1 h1;have hsm:=smB hlm;(conv=>whnf);refine⟨_,_,_,[iv x],l,m,rfl,bF dC rfl,bF dP rfl,?_⟩;rw [show clP l m n [iv x]=some (decide (l.length≤1000)&&decide (m.length≤1000),if clB l m n x=true then nS l m x else [],some (if clB l m n x=true then 0 else 1)) from rfl];refine aJ hsm ?_;cases hb:clB l m n x with
 |false =>
  rw [if_neg Bool.false_ne_true,if_neg Bool.false_ne_true];(conv=>whnf);rfl
 |true =>
  rw [if_pos rfl,if_pos rfl];have hb2:(aY l m n&&Y7 x)=true:=hb;simp only [Bool.and_eq_true] at hb2;obtain⟨ho,hx⟩:=hb2;unfold Y7 at hx;simp only [Bool.and_eq_true,decide_eq_true_eq] at hx;have hcl:(nS l m x).length=(dD l m x).length+1:=XG l m x;have hcm:=NX (l:=l) (m:=m) (x:=x);have hz0:aE (nS l m x) 0=0:=Y9 _ _ _;have hz1:aE (nS l m x) ((nS l m x).length - 1)=0:=(by rw [hcl,Nat.add_sub_cancel];exact aEa ho);have hrg:∀ q,q<(nS l m x).length→I9 n (aE (nS l m x) q)=true:=fun q hq=>aKa ho hq;have hsh:∀ q,q+1<(nS l m x).length→0<(bS (RP (aE (nS l m x) q) (aE (nS l m x) (q+1))) m m.length).length:=fun q hq=>aAi ho (by omega);have hat:∀ j:Int,j=0∨j=1→∃ F E:Int,EK l m (x+j,y) (aY l m n&&aI (x+j,y))=(F,E)∧(E=0→F∈nS l m x):=fun j hj=>aJ4 ho hj;have hOl:(nS l m x).length≤1001:=(by omega);have hO0:0<(nS l m x).length:=(by omega);generalize nS l m x=O at *;refine uV aR hO0 ?_
  repeat' first
   |(((conv=>whnf);apply bm<;>intro g))
   |((conv=>whnf)
     refine kW (iY O (i:=0) hO0 ?_) ?_
     ·show _+Int.toNat 0*1=_;omega
     rw [hz0])
   |((conv=>whnf)
     refine kW (iY O (i:=O.length - 1) (by omega) ?_) ?_
     ·show 0+Int.toNat ((O.length:Int) - 1)*1=_;omega
     rw [hz1])
  all_goals first
   |(exfalso;clear hat hsh hrg;simp [HN,aA,aF,aH] at *;first|omega|(simp_all;done))
   |skip
  (conv=>whnf);refine⟨fun q e h nx=>∃ (i:Nat) (j:Int),j=i∧1≤i∧i≤O.length∧q=O.length - i∧e=e5c x y O.length j∧h=N5 l m c1 c2 n O∧nx=4,⟨O.length - 1,?_⟩,?_⟩
  ·refine cZ (e0:=e5c x y O.length 1) (h0:=N5 l m c1 c2 n O) (n0:=4) ⟨1,1,rfl,Nat.le_refl _,hO0,rfl,rfl,rfl,rfl⟩ ?_ ?_ (by decide)
   ·unfold e5c;((repeat' refine iE rfl rfl ?_);exact iN)
   unfold N5 mY bR;((repeat'(first|refine iF rfl rfl ?_|refine iC rfl rfl rfl ?_|refine iJ rfl rfl rfl rfl ?_));exact iN)
  rintro q e h nx ⟨i,j,hj,hi1,hi,rfl,rfl,rfl,rfl⟩;unfold e5c N5 mY bR;((conv=>whnf);apply bm<;>intro m1);rotate_left
  ·(conv=>whnf);refine⟨fun q e h nx=>∃ (i:Nat) (j:Int),j=i∧i≤2∧q=2 - i∧e=e5d x y O.length j∧h=N5 l m c1 c2 n O∧nx=4,⟨2,?_⟩,?_⟩
   ·refine cZ (e0:=e5d x y O.length 0) (h0:=N5 l m c1 c2 n O) (n0:=4) ⟨0,0,rfl,Nat.zero_le _,rfl,rfl,rfl,rfl⟩ ?_ ?_ (by decide)
    ·unfold e5d;((repeat' refine iE rfl rfl ?_);exact iN)
    unfold N5 mY bR;((repeat'(first|refine iF rfl rfl ?_|refine iC rfl rfl rfl ?_|refine iJ rfl rfl rfl rfl ?_));exact iN)
   rintro q e h nx ⟨i,j,hj,hi,rfl,rfl,rfl,rfl⟩;unfold e5d N5 mY bR;((conv=>whnf);apply bm<;>intro m2)
   ·have hj1:j=0∨j=1:=(by simp [HN,aA,aF] at m2;omega);obtain⟨F,E,hF,hm⟩:=hat j hj1;have hA:∀ r,r=[.agg #[iv (x+j),iv y]]→atP l m n r=some (decide (l.length≤1000)&&decide (m.length≤1000),.tuple #[iv F,iv E]):=fun r hr=>by
     rw [hr];show some (_,Value.tuple #[iv (EK l m (x+j,y) (aY l m n&&aI (x+j,y))).1,iv (EK l m (x+j,y) (aY l m n&&aI (x+j,y))).2])=_;rw [hF]
    ((conv=>whnf);apply bm<;>intro m3)
    ·(conv=>whnf);refine⟨l,m,bF dC rfl,bF dP rfl,?_⟩;rw [hA]
     rotate_left
     ·rfl
     refine aJ hsm ?_
     repeat' first
      |(((conv=>whnf);apply bm<;>intro g))
      |((conv=>whnf)
        refine⟨O,bF aR rfl,?_⟩;refine aJ (decide_eq_true (show O.length≤1000000 by omega)) ?_)
     all_goals first
      |((conv=>whnf)
        refine⟨2 - (i+1),by omega,?_⟩;refine cZ (e0:=e5d x y O.length (j+1)) (h0:=N5 l m c1 c2 n O) (n0:=4) ⟨i+1,j+1,by omega,by omega,rfl,rfl,rfl,rfl⟩ ?_ ?_ (by decide)
        ·unfold e5d;((repeat' refine iE rfl rfl ?_);exact iN)
        unfold N5 mY bR;((repeat'(first|refine iF rfl rfl ?_|refine iC rfl rfl rfl ?_|refine iJ rfl rfl rfl rfl ?_));exact iN))
      |(exfalso;clear hA hF hat hsh hrg;simp [HN,aA,aF,aH] at *;first|omega|(simp_all;done))
    exfalso;simp [HN,aA,aF,aH] at m3;omega
   (conv=>whnf)
  have hil:i<O.length:=(by simp [HN,aA,aF] at m1;omega);have r1:=hrg (i - 1) (by omega);have r2:=hrg i hil;have hs1:=hsh (i - 1) (by omega);rw [Nat.sub_add_cancel hi1] at hs1;have hB:shB l m n (aE O (i - 1)) (aE O i)=true:=(by unfold shB;rw [ho,r1,r2];rfl);have hS:srP l m n [iv (aE O (i - 1)),iv (aE O i)]=some (decide (l.length≤1000)&&decide (m.length≤1000),bS (RP (aE O (i - 1)) (aE O i)) m m.length,some 0):=by
   show some (_,(if shB l m n (aE O (i - 1)) (aE O i)=true then _ else _),some (if shB l m n (aE O (i - 1)) (aE O i)=true then 0 else 1))=_;rw [hB];rfl
  generalize hSL:bS (RP (aE O (i - 1)) (aE O i)) m m.length=SL at *;(conv=>whnf);refine⟨fun e h nx=>e=e5e x y O.length SL.length j∧h=(4,.cells true false 1 (flat aR.fl SL))::N5 l m c1 c2 n O∧nx=5,?_,?_⟩
  ·refine aK5 (A3 (kG.look (.cons aM1 (.cons x16 (.cons aMb (.cons aLP (.cons aMn (.cons x62 .nil)))))))) uR rfl rfl (SR (look (e5c x y O.length j)) (vvR l m n c1 c2 O i j SL.length) (N5 l m c1 c2 n O) ((4,.cells true false 1 (flat aR.fl SL))::N5 l m c1 c2 n O)) ⟨fun t ht=>(by rcases ht with rfl|rfl|rfl|rfl|rfl <;> rfl),fun _ hi=>(by cases hi),.inl ⟨(by decide),rfl,rfl⟩⟩ ?_ ?_
   ·intro done i' o e h' nx' S hnd hpre ho;have f3:cK e (.tmp 3)=some (pV 2):=S.fix 3 (by decide);have f7:cK e (.tmp 7)=some (.slice (some ⟨3,0,none⟩) O.length O.length):=S.fix 7 (by decide);have f9:cK e (.tmp 9)=some (iv j):=S.fix 9 (by decide);have v0:0∈done→cK e (.tmp 58)=some (l8 l.length m.length c1 c2 n):=fun h=>S.val 0 h (by decide);have v1:1∈done→cK e (.tmp 59)=some (.slice (some ⟨3,0,none⟩) O.length O.length):=fun h=>S.val 1 h (by decide);have v2:2∈done→cK e (.tmp 60)=some (iv j):=fun h=>S.val 2 h (by decide);have v3:3∈done→cK e (.tmp 61)=some (iv (j - 1)):=fun h=>S.val 3 h (by decide);have v4:4∈done→cK e (.tmp 62)=some (.pointer (some ⟨3,0+(j - 1).toNat*1,none⟩)):=fun h=>S.val 4 h (by decide);have v5:5∈done→cK e (.tmp 63)=some (iv (aE O (i - 1))):=fun h=>S.val 5 h (by decide);have v6:6∈done→cK e (.tmp 64)=some (.slice (some ⟨3,0,none⟩) O.length O.length):=fun h=>S.val 6 h (by decide);have v7:7∈done→cK e (.tmp 65)=some (iv j):=fun h=>S.val 7 h (by decide);have v8:8∈done→cK e (.tmp 66)=some (.pointer (some ⟨3,0+j.toNat*1,none⟩)):=fun h=>S.val 8 h (by decide);have v9:9∈done→cK e (.tmp 67)=some (iv (aE O i)):=fun h=>S.val 9 h (by decide);have v10:10∈done→cK e (.tmp 68)=some (.tuple #[.slice (some ⟨4,0,none⟩) SL.length SL.length,iv 0]):=fun h=>S.val 10 h (by decide);have v11:11∈done→cK e (.tmp 57)=some (.tuple #[.slice (some ⟨4,0,none⟩) SL.length SL.length,iv 0]):=fun h=>S.val 11 h (by decide);have v12:12∈done→cK e (.tmp 69)=some (.slice (some ⟨4,0,none⟩) SL.length SL.length):=fun h=>S.val 12 h (by decide);have v13:13∈done→cK e (.tmp 70)=some (iv 0):=fun h=>S.val 13 h (by decide)
    match i',ho,hnd with
    |0,ho,hnd =>
     cases ho;refine mK rfl rfl rfl ?_;rcases S.hp with ⟨q1,rfl,q3⟩|⟨q1,rfl,q3⟩
     all_goals
      (conv=>whnf);rw [f3];(conv=>whnf);exact S.same (i:=0) (by decide) (by decide) hnd
    |1,ho,hnd =>
     cases ho;refine mK rfl rfl rfl ?_;(conv=>whnf);rw [f7];(conv=>whnf);exact S.same (i:=1) (by decide) (by decide) hnd
    |2,ho,hnd =>
     cases ho;refine mK rfl rfl rfl ?_;(conv=>whnf);rw [f9];(conv=>whnf);exact S.same (i:=2) (by decide) (by decide) hnd
    |3,ho,hnd =>
     cases ho;refine mK rfl rfl rfl ?_;(conv=>whnf);rw [v2 (hpre 2 (by decide))];(conv=>whnf);refine bm (fun g=>?_) (fun g=>(by exfalso;simp [HN,aA,aF,aH] at g;omega));(conv=>whnf);exact S.same (i:=3) (by decide) (by decide) hnd
    |4,ho,hnd =>
     cases ho;refine mK rfl rfl rfl ?_;(conv=>whnf);rw [v1 (hpre 1 (by decide))];(conv=>whnf);rw [v3 (hpre 3 (by decide))];(conv=>whnf);refine bm (fun g=>?_) (fun g=>(by exfalso;simp [HN,aA,aF,aH] at g;omega));(conv=>whnf);exact S.same (i:=4) (by decide) (by decide) hnd
    |5,ho,hnd =>
     cases ho;refine mK rfl rfl rfl ?_;rcases S.hp with ⟨q1,rfl,q3⟩|⟨q1,rfl,q3⟩
     all_goals
      (conv=>whnf);rw [v4 (hpre 4 (by decide))];(conv=>whnf);refine kW (iY O (i:=i - 1) (by omega) ?_) ?_
      ·show 0+Int.toNat (j - 1)*1=_;omega
      (conv=>whnf);exact S.same (i:=5) (by decide) (by decide) hnd
    |6,ho,hnd =>
     cases ho;refine mK rfl rfl rfl ?_;(conv=>whnf);rw [f7];(conv=>whnf);exact S.same (i:=6) (by decide) (by decide) hnd
    |7,ho,hnd =>
     cases ho;refine mK rfl rfl rfl ?_;(conv=>whnf);rw [f9];(conv=>whnf);exact S.same (i:=7) (by decide) (by decide) hnd
    |8,ho,hnd =>
     cases ho;refine mK rfl rfl rfl ?_;(conv=>whnf);rw [v6 (hpre 6 (by decide))];(conv=>whnf);rw [v7 (hpre 7 (by decide))];(conv=>whnf);refine bm (fun g=>?_) (fun g=>(by exfalso;simp [HN,aA,aF,aH] at g;omega));(conv=>whnf);exact S.same (i:=8) (by decide) (by decide) hnd
    |9,ho,hnd =>
     cases ho;refine mK rfl rfl rfl ?_;rcases S.hp with ⟨q1,rfl,q3⟩|⟨q1,rfl,q3⟩
     all_goals
      (conv=>whnf);rw [v8 (hpre 8 (by decide))];(conv=>whnf);refine kW (iY O (i:=i) hil ?_) ?_
      ·show 0+Int.toNat j*1=_;omega
      (conv=>whnf);exact S.same (i:=9) (by decide) (by decide) hnd
    |10,ho,hnd =>
     cases ho;refine mK rfl rfl rfl ?_;rcases S.hp with ⟨q1,rfl,rfl⟩|⟨q1,rfl,q3⟩
     rotate_left
     ·exact absurd q1 hnd
     have hv:jL e [.tmp 58,.tmp 63,.tmp 67]=some [l8 l.length m.length c1 c2 n,iv (aE O (i - 1)),iv (aE O i)]:=by
      simp only [jL,v0 (hpre 0 (by decide)),v5 (hpre 5 (by decide)),v9 (hpre 9 (by decide))]
     (conv=>whnf);show (match jL e [.tmp 58,.tmp 63,.tmp 67] with|some l'=>_|none=>False);rw [hv];(conv=>whnf);refine⟨_,_,_,[iv (aE O (i - 1)),iv (aE O i)],l,m,rfl,bF dC rfl,bF dP rfl,?_⟩;rw [hS];refine aJ hsm ?_;refine uV aR hs1 ?_;exact S.put (i:=10) (by decide) hnd (.inr ⟨.head _,rfl,rfl⟩)
    |11,ho,hnd =>
     cases ho;refine mK rfl rfl rfl ?_;(conv=>whnf);rw [v10 (hpre 10 (by decide))];(conv=>whnf);exact S.same (i:=11) (by decide) (by decide) hnd
    |12,ho,hnd =>
     cases ho;refine mK rfl rfl rfl ?_;(conv=>whnf);rw [v11 (hpre 11 (by decide))];(conv=>whnf);exact S.same (i:=12) (by decide) (by decide) hnd
    |13,ho,hnd =>
     cases ho;refine mK rfl rfl rfl ?_;(conv=>whnf);rw [v11 (hpre 11 (by decide))];(conv=>whnf);exact S.same (i:=13) (by decide) (by decide) hnd
    |14,ho,hnd =>
     cases ho;refine mK rfl rfl rfl ?_;(conv=>whnf);rw [v12 (hpre 12 (by decide))];(conv=>whnf);exact S.same (i:=14) (by decide) (by decide) hnd
    |15,ho,hnd =>
     cases ho;refine mK rfl rfl rfl ?_;(conv=>whnf);rw [v13 (hpre 13 (by decide))];(conv=>whnf);exact S.same (i:=15) (by decide) (by decide) hnd
    |_+16,ho,hnd=>cases ho
   intro done e h' nx' S hall;have w14:=S.val 14 (hall 14 (by decide)) (by decide);have w15:=S.val 15 (hall 15 (by decide)) (by decide);rcases S.hp with ⟨q1,_⟩|⟨q1,rfl,rfl⟩
   ·exact absurd (hall 10 (by decide)) q1
   refine cZ (e0:=e5e x y O.length SL.length j) (h0:=(4,.cells true false 1 (flat aR.fl SL))::N5 l m c1 c2 n O) (n0:=5) ⟨rfl,rfl,rfl⟩ ?_ ?_ (by decide)
   ·unfold e5e;exact iE (S.fix 1 (by decide)) rfl (iE (S.fix 2 (by decide)) rfl (iE (S.fix 3 (by decide)) rfl (iE (S.fix 7 (by decide)) rfl (iE (S.fix 9 (by decide)) rfl (iE w14 rfl (iE w15 rfl iN))))))
   unfold N5 mY bR;((repeat'(first|refine iF rfl rfl ?_|refine iC rfl rfl rfl ?_|refine iJ rfl rfl rfl rfl ?_));exact iN)
  rintro e h nx ⟨rfl,rfl,rfl⟩;unfold e5e N5 mY bR
  repeat' (((conv=>whnf);apply bm<;>intro g))
  all_goals first
   |((conv=>whnf)
     refine⟨O.length - (i+1),by omega,?_⟩;refine cZ (e0:=e5c x y O.length (j+1)) (h0:=N5 l m c1 c2 n O) (n0:=4) ⟨i+1,j+1,by omega,by omega,by omega,rfl,rfl,rfl,rfl⟩ ?_ ?_ (by decide)
     ·unfold e5c;((repeat' refine iE rfl rfl ?_);exact iN)
     unfold N5 mY bR;((repeat'(first|refine iF rfl rfl ?_|refine iC rfl rfl rfl ?_|refine iJ rfl rfl rfl rfl ?_));exact iN))
   |(exfalso;clear hat hsh hrg hS;simp [HN,aA,aF,aH] at *;first|omega|(simp_all;done))
end Go.Aw
end

noncomputable section
namespace Go.Proofs.YticajjhjehljpaaGreat
open Go.ChangeShapes Go.WideShapes Go.ChangeAt Go.RowKit Go.Aw Go.Joins
set_option maxRecDepth 100000 in
theorem I8 (os:Os)(started:os.Started)(H:Type)(enc:TypeId × Value→H) :
  ReturnsInHanded {} Tryz.checked os 5 .any (Rows.facesColumnSpec.pre6 enc Tryz.prog Tryz.f5 Rows.facesColumnRow.domain false) (Rows.facesColumnSpec.post enc Tryz.prog Tryz.f5 false true false false):=by
 refine returnsInHanded_of_change (C:=Tryz.checked) Tryz.own started (by kernel_rfl) Tryz.func5
  (ChangeSpec.witness6 (enc:=enc) (C:=Tryz.checked) false ⟨#[],#[.agg #[.slice none 0 0,.slice none 0 0,.int .i64 0],.int .i64 0,.int .i64 0],[]⟩ 3 (by kernel_rfl) (by kernel_rfl) (by kernel_rfl) (by kernel_rfl)) ?_
 intro W base args ds gs before hval0 hW hcnd _;have hval:∀ (j:Nat) t v,Tryz.f5.params[j]? = some t→args[j]? = some v→Value.okWide Tryz.prog W .any base t v:=hval0;have hW':=hW;obtain⟨p,q,hA0,hV,rfl,hfz,hnd⟩:=hW;have hA:DataW.TrodAll enc Tryz.prog W 0 (fun _=>true) true Tryz.f5.params.toList args.toList ds p:=hA0;rw [Tryz.params5] at hA hval;obtain⟨v0,v1,v2,d0,d1,d2,p0,p1,p2,rfl,rfl,rfl,h0,h1,h2⟩:=trodAll_three hA;obtain⟨rfl,rfl⟩:=trodVars_none hV;obtain⟨cs,rfl,hsz⟩:=okWide_struct Tryz.underlying25 (hval 0 25 v0 rfl rfl);have h0':=h0;obtain⟨fuel,hf0⟩:=h0';obtain⟨xs,fu,_,_,hlen,hxl,hf⟩:=DataW.trod_struct Tryz.underlying25 hf0;rw [Tryz.aFW] at hlen;have hcs:∃ a b c,cs.toList=[a,b,c]:=aLL hlen;obtain⟨a,b,c,hcs⟩:=hcs;have ecs:cs=#[a,b,c]:=Array.ext' hcs;subst ecs;obtain⟨x0,x1,x2,rfl⟩:=aLL hxl;obtain⟨l,c1,loc1,a1,a2,a3⟩:=JZ dC (by decide) Tryz.underlying22 Tryz.XE aMc (show DataW.trod enc Tryz.prog W 0 (fun _=>true) true fu 22 [a]=some x0 by simpa [Tryz.aFJ,Value.cells] using hf 0 _ rfl);obtain⟨m,c2,loc2,b1,b2,b3⟩:=JZ dP (by decide) Tryz.underlying23 Tryz.VX aLq (show DataW.trod enc Tryz.prog W 0 (fun _=>true) true fu 23 [b]=some x1 by simpa [Tryz.aGk,Value.cells] using hf 1 _ rfl);obtain⟨n,e1⟩:=l7 (show DataW.trod enc Tryz.prog W 0 (fun _=>true) true fu 3 [c]=some x2 by simpa [Tryz.uL,Value.cells] using hf 2 _ rfl);subst e1;obtain⟨z0,rfl⟩:=okWide_int Tryz.underlying3 (hval 1 3 v1 rfl rfl);obtain⟨z1,rfl⟩:=okWide_int Tryz.underlying3 (hval 2 3 v2 rfl rfl);clear hA0 hval0;simp only [List.append_nil,List.append_assoc] at hW';have hlt:∀ x∈p0++(p1++p2),x.block<W.heap.size:=fun x hx=>(by simpa using hW'.lt x hx);refine (OJ (r:=[iv z0,iv z1]) (ON (xl:=[aFH,X16,aGb,aGa,aER,X62]) (.cons aM1 (.cons x16 (.cons aMb (.cons aLP (.cons aMn (.cons x62 .nil))))))) rfl (w5c l m n c1 c2 z0 z1) rfl a1 b1 a2 b2 a3 b3).mono fun e W' ⟨he,hb⟩=>?_;subst he;refine⟨_,rfl,_,_,_,[],p0++(p1++p2),[],hW',trodAll_mk1 (aDn true),?_,rfl,hb.frame _,fun h=>by cases h⟩;exact trodAll_mk3 (Below.trod Tryz.laidOut (by kernel_rfl) (of_decide_eq_true (by kernel_rfl)) h0 hb (fun x hx=>hlt x (List.mem_append.2 (.inl hx)))) (Below.trod Tryz.laidOut (by kernel_rfl) (of_decide_eq_true (by kernel_rfl)) h1 hb (fun x hx=>hlt x (List.mem_append.2 (.inr (List.mem_append.2 (.inl hx)))))) (Below.trod Tryz.laidOut (by kernel_rfl) (of_decide_eq_true (by kernel_rfl)) h2 hb (fun x hx=>hlt x (List.mem_append.2 (.inr (List.mem_append.2 (.inr hx))))))
set_option maxRecDepth 100000 in
theorem jf:joinedFacts Tryz.prog 5 Tryz.f5 Rows.facesColumnSpec Rows.facesColumnRow=true:=by
 unfold joinedFacts;exact (eK (eK (eK (eK (eK (eK (eK (eK (eK (eK (eK (eK (eK (eK (eK (eK (eK (eK (eK (eK (eK (eK (eK (eK (eK (eK (eK (eK (eK (eK (eK jf0 jf1) jf2) jf3) jf4) jf5) jf6) jf7) jf8) jf9) aNg) aOg) aNM) aNq) aO4) aMV) aMX) aOk) aNF) aNk) aNw) aNZ) aMR) aNX) aNz) aNf) aMW) aN2) (by kernel_rfl)) aOa) aNe) aMT)
theorem column_holds:Rows.FacesColumnSaid :=
 OpenClaim.holds_of_wide 5 Tryz.f5 rfl rfl rfl rfl rfl rfl rfl ⟨rfl,rfl,rfl,rfl,rfl⟩ rfl rfl rfl rfl rfl (by kernel_rfl) Tryz.func5 jf
  (of_decide_eq_true (by kernel_rfl)) (by unfold Func.isWrapper;first|(rw [if_pos (by decide +kernel)];kernel_rfl)|(rw [if_neg (by decide +kernel)];exact⟨rfl,rfl⟩))
  (fun os started H enc _=>I8 os started H enc)
#print axioms column_holds
end Go.Proofs.YticajjhjehljpaaGreat
end
