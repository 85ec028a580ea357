/-
  Parts of a proof. No condition.
-/
import Derived.Test.YticajjhjehljpaaGreatQAh
import Derived.Test.YticajjhjehljpaaGreatQAy
set_option linter.unusedSimpArgs false
set_option linter.unusedVariables false
noncomputable section
namespace Go.Aw
set_option maxRecDepth 100000
set_option maxHeartbeats 2000000
def nQ (l:List Pt)(P:Pt)(e:Ed):Bool:=F3 P (eF l e.a,eF l e.b)
def D6 (l:List Pt)(m:List Ed)(P:Pt):List Int:=bS (nQ l P) m m.length
theorem aFp {P:Pt}{s:Sg}(h:pH s (P,P)=true):F3 P s=false:=by
 cases ho:F3 P s with
 |false=>rfl
 |true =>
  exfalso;simp only [F3,Bool.and_eq_true] at ho;have h1:=JC P s ho.1.2;rw [ho.2] at h1;have h1:=h1.symm;obtain⟨px,py⟩:=P;obtain⟨⟨ax,ay⟩,⟨bx,b2⟩⟩:=s;simp only [nW,TT,Bool.and_eq_true,decide_eq_true_eq] at h1;simp only [pH,apI,mxI,mnI,Bool.or_eq_true,decide_eq_true_eq,ite_self] at h;obtain⟨⟨⟨a1,a2⟩,⟨b1,b3⟩⟩,_⟩:=h1;have e1:(if px<px then px else px)=px:=(by split <;> rfl);have e2:(if py<py then py else py)=py:=by split <;> rfl
  try rw [e1,e2] at h
  clear ho;rcases h with (h|h)|(h|h)
  all_goals first
   |exact absurd a1 (Int.not_le.2 h)
   |exact absurd a2 (Int.not_le.2 h)
   |exact absurd b1 (Int.not_le.2 h)
   |exact absurd b3 (Int.not_le.2 h)
   |((repeat' split at h) <;> (repeat' split at a1) <;> (repeat' split at a2) <;> omega)
   |((repeat' split at h) <;> (repeat' split at b1) <;> (repeat' split at b3) <;> omega)
def v48 (a:A48):Value:=match D6 a.l a.m a.P with|[]=>aR|x::r=>.slice (some ⟨2010,0,none⟩) (x::r).length (x::r).length
def UI (a:A48):Heap:=match D6 a.l a.m a.P with|[]=>QW a|x::r=>(2010,.cells true false 1 (flat aT.fl (x::r)))::(2009,.cells true false 1 [iv a.P.1,iv a.P.2])::QW a
def W0 (a:A48):Nat:=match D6 a.l a.m a.P with|[]=>2009|x::r=>2011
def X48:XF:=dX aNo (fun a=>[pV 12,.agg #[iv a.P.1,iv a.P.2]]) QW (fun _=>2009) v48 UI W0
def PO (N:Nat)(v:Value)(j:Int):List (Nat × Value):=[(0,pV 12),(3,pV 2009),(5,v),(13,iv N),(14,iv j)]
theorem w48 (l:List Pt)(m:List Ed)(n:Int)(c1 c2:Nat)(P:Pt)(ho:a8 l m n=true)(hlm:l.length≤1000∧m.length≤1000) :
  body [OR,aF6,X20] 48 [pV 12,.agg #[iv P.1,iv P.2]] (H5 l m n c1 c2 [iv P.1,iv P.2]) 2009 (fun v h nx=>∃ ρ,lQ 2009 ρ [(0,v48 ⟨l,m,n,c1,c2,P⟩)] (UI ⟨l,m,n,c1,c2,P⟩) (W0 ⟨l,m,n,c1,c2,P⟩) [(0,v)] h nx):=by
 have hK:=NV (l:=l) (m:=m) (n:=n) (c1:=c1) (c2:=c2) (cs:=[iv P.1,iv P.2]) hlm.1 rfl;have hN:∀ k,2009≤k→look (H5 l m n c1 c2 [iv P.1,iv P.2]) k=none:=fun k hk=>aA4 hlm.1 hk;have hok:=(cZ (aZ ho)).1;(conv=>whnf)
 refine⟨fun q e h nx=>∃ (i:Nat) (j:Int),j=i∧i≤m.length∧q=m.length - i∧((bS (nQ l P) m i=[]∧e=PO m.length aR j∧h=[(2009,.cells true false 1 [iv P.1,iv P.2])]++H5 l m n c1 c2 [iv P.1,iv P.2]∧nx=2010) ∨
  (0<(bS (nQ l P) m i).length∧e=PO m.length (.slice (some ⟨2010,0,none⟩) (bS (nQ l P) m i).length (bS (nQ l P) m i).length) j∧h=[(2010,.cells true false 1 (flat aT.fl (bS (nQ l P) m i))),(2009,.cells true false 1 [iv P.1,iv P.2])]++H5 l m n c1 c2 [iv P.1,iv P.2]∧nx=2011)),⟨m.length,?_⟩,?_⟩
 ·refine cL (P:=[(2009,.cells true false 1 [iv P.1,iv P.2])]) (W:=H5 l m n c1 c2 [iv P.1,iv P.2]) (e0:=PO m.length aR 0) (n0:=2010) [] ⟨0,0,rfl,Nat.zero_le _,rfl,.inl ⟨rfl,rfl,rfl,rfl⟩⟩ ?_ hK ?_ ?_ ?_ (fun _ h=>(by cases h)) (by omega)
  ·unfold PO;((repeat' refine iE rfl rfl ?_);exact iN)
  ·exact aX (fun _ _ h=>h) (hN _ (by decide))
  ·exact List.forall_mem_cons.2 ⟨⟨.inl ⟨Nat.le_of_ble_eq_true rfl,Nat.le_of_ble_eq_true rfl,Nat.le_of_ble_eq_true rfl⟩,_,rfl,⟨rfl,rfl,rfl,rfl,dT rfl⟩⟩,fun _ h=>(by cases h)⟩
  show ∀ k∈[2009],∀ k'∈[2009],_;decide
 rintro q e h nx ⟨i,j,hj,hi,rfl,hx⟩;rcases hx with ⟨hnil,rfl,rfl,rfl⟩|⟨hpos,rfl,rfl,rfl⟩
 ·unfold PO H5;((conv=>whnf);apply bm<;>intro m1);rotate_left
  ·have hil:i=m.length:=(by simp [aA,aC] at m1;omega);(conv=>whnf);have hz:D6 l m P=[]:=(by rw [← hnil,hil];rfl);unfold v48 UI W0;simp only [hz];exact fQ (v:=aR) (gE rfl) (cG rfl) (by repeat' first|exact fun _ _ h=>h|(refine aX ?_ (hN _ (by decide)))|(refine cK ?_ (hN _ (by decide)))|(refine ext_cons ?_ (hN _ (by decide)))|(refine eH ?_ (hN _ (by decide)))) hK (Nat.le_refl _)
  have hil:i<m.length:=(by simp [aA,aC] at m1;omega);(conv=>whnf);refine⟨l,m,aG bC rfl,aG bL rfl,?_⟩;refine aI (show (kS l m&&(decide (0≤j)&&decide (j<m.length)))=true from ?_) ?_
  ·rw [hok,decide_eq_true (show 0≤j by omega),decide_eq_true (show j<m.length by omega)];rfl
  have hjn:j.toNat=i:=(by omega);have hpr:nQ l P (bO m i)=F3 P (aS l m j.toNat):=(by rw [hjn];rfl);((conv=>whnf);apply bm<;>intro f1);rotate_left
  ·have hfar:pH (aS l m j.toNat) (P,P)=true:=by
    have f1:((!pH (aS l m j.toNat) (P,P)) == true)=false:=f1;simpa using f1
   rw [aFp hfar] at hpr;have hf:bS (nQ l P) m (i+1)=[]:=(rC hpr).trans hnil
   repeat' ((conv=>whnf);apply bm<;>intro g)
   all_goals first
    |((conv=>whnf)
      refine⟨m.length - (i+1),by omega,?_⟩;refine cL (P:=[(2009,.cells true false 1 [iv P.1,iv P.2])]) (W:=H5 l m n c1 c2 [iv P.1,iv P.2]) (e0:=PO m.length aR (j+1)) (n0:=2010) [] ⟨i+1,j+1,by omega,by omega,rfl,.inl ⟨hf,rfl,rfl,rfl⟩⟩ ?_ hK ?_ ?_ ?_ (fun _ h=>(by cases h)) (by omega)
      ·unfold PO;((repeat' refine iE rfl rfl ?_);exact iN)
      ·repeat' first|exact fun _ _ h=>h|(refine aX ?_ (hN _ (by decide)))|(refine cK ?_ (hN _ (by decide)))|(refine ext_cons ?_ (hN _ (by decide)))|(refine eH ?_ (hN _ (by decide)))
      ·exact List.forall_mem_cons.2 ⟨⟨.inl ⟨Nat.le_of_ble_eq_true rfl,Nat.le_of_ble_eq_true rfl,Nat.le_of_ble_eq_true rfl⟩,_,rfl,⟨rfl,rfl,rfl,rfl,dT rfl⟩⟩,fun _ h=>(by cases h)⟩
      show ∀ k∈[2009],∀ k'∈[2009],_;decide)
    |(exfalso;clear hf hpr;simp [aA,aC,aF] at *;first|omega|(simp_all;done)|(simp_all;omega))
  have hfar:pH (aS l m j.toNat) (P,P)=false:=by
   have f1:((!pH (aS l m j.toNat) (P,P)) == true)=true:=f1;simpa using f1
  ((conv=>whnf);apply bm<;>intro f2)
  ·have hon:F3 P (aS l m j.toNat)=true:=by
    have f2:F3 P (aS l m j.toNat)=true:=f2;exact f2
   rw [hon] at hpr;have hf:bS (nQ l P) m (i+1)=[j]:=by rw [v5 hpr,hnil,hj];rfl
   repeat' ((conv=>whnf);apply bm<;>intro g)
   all_goals first
    |((conv=>whnf)
      refine⟨m.length - (i+1),by omega,?_⟩;refine cL (P:=[(2010,.cells true false 1 (flat aT.fl [j])),(2009,.cells true false 1 [iv P.1,iv P.2])]) (W:=H5 l m n c1 c2 [iv P.1,iv P.2]) (e0:=PO m.length (.slice (some ⟨2010,0,none⟩) 1 1) (j+1)) (n0:=2011) [(2010,2012)] ⟨i+1,j+1,by omega,by omega,rfl,.inr ⟨by rw [hf];exact Nat.one_pos,by rw [hf];rfl,by rw [hf];rfl,rfl⟩⟩ ?_ hK ?_ ?_ ?_ (fun p h=>by rcases List.mem_cons.1 h with rfl|h;exact Nat.le_of_ble_eq_true rfl;cases h) (by omega)
      ·unfold PO;((repeat' refine iE rfl rfl ?_);exact iN)
      ·repeat' first|exact fun _ _ h=>h|(refine aX ?_ (hN _ (by decide)))|(refine cK ?_ (hN _ (by decide)))|(refine ext_cons ?_ (hN _ (by decide)))|(refine eH ?_ (hN _ (by decide)))
      ·exact List.forall_mem_cons.2 ⟨⟨.inl ⟨Nat.le_of_ble_eq_true rfl,Nat.le_of_ble_eq_true rfl,Nat.le_of_ble_eq_true rfl⟩,_,rfl,bB (aD aT [j]) rfl⟩,List.forall_mem_cons.2 ⟨⟨.inl ⟨Nat.le_of_ble_eq_true rfl,Nat.le_of_ble_eq_true rfl,Nat.le_of_ble_eq_true rfl⟩,_,rfl,⟨rfl,rfl,rfl,rfl,dT rfl⟩⟩,fun _ h=>(by cases h)⟩⟩
      show ∀ k∈[2010,2009],∀ k'∈[2010,2009],_;decide)
    |(exfalso;clear hf hpr;simp [aA,aC,aF] at *;first|omega|(simp_all;done)|(simp_all;omega))
  have hon:F3 P (aS l m j.toNat)=false:=by
   have f2:F3 P (aS l m j.toNat)=false:=f2;exact f2
  rw [hon] at hpr;have hf:bS (nQ l P) m (i+1)=[]:=(rC hpr).trans hnil
  repeat' ((conv=>whnf);apply bm<;>intro g)
  all_goals first
   |((conv=>whnf)
     refine⟨m.length - (i+1),by omega,?_⟩;refine cL (P:=[(2009,.cells true false 1 [iv P.1,iv P.2])]) (W:=H5 l m n c1 c2 [iv P.1,iv P.2]) (e0:=PO m.length aR (j+1)) (n0:=2010) [] ⟨i+1,j+1,by omega,by omega,rfl,.inl ⟨hf,rfl,rfl,rfl⟩⟩ ?_ hK ?_ ?_ ?_ (fun _ h=>(by cases h)) (by omega)
     ·unfold PO;((repeat' refine iE rfl rfl ?_);exact iN)
     ·repeat' first|exact fun _ _ h=>h|(refine aX ?_ (hN _ (by decide)))|(refine cK ?_ (hN _ (by decide)))|(refine ext_cons ?_ (hN _ (by decide)))|(refine eH ?_ (hN _ (by decide)))
     ·exact List.forall_mem_cons.2 ⟨⟨.inl ⟨Nat.le_of_ble_eq_true rfl,Nat.le_of_ble_eq_true rfl,Nat.le_of_ble_eq_true rfl⟩,_,rfl,⟨rfl,rfl,rfl,rfl,dT rfl⟩⟩,fun _ h=>(by cases h)⟩
     show ∀ k∈[2009],∀ k'∈[2009],_;decide)
   |(exfalso;clear hf hpr;simp [aA,aC,aF] at *;first|omega|(simp_all;done)|(simp_all;omega))
 have hlen:(flat aT.fl (bS (nQ l P) m i)).length=(bS (nQ l P) m i).length:=(by rw [bE];show _*1=_;omega);have hle:=mZ (nQ l P) m i;unfold PO H5;((conv=>whnf);apply bm<;>intro m1);rotate_left
 ·have hil:i=m.length:=(by simp [aA,aC] at m1;omega);(conv=>whnf);have hz:D6 l m P=bS (nQ l P) m i:=(by rw [hil];rfl);generalize bS (nQ l P) m i=L at *;cases L with
  |nil=>cases hpos
  |cons x r =>
   unfold v48 UI W0;simp only [hz];refine fQ (v:=.slice (some ⟨2010,0,none⟩) (x::r).length (x::r).length) rfl ⟨Nat.le_of_ble_eq_true rfl,fun h=>by cases h⟩ ?_ ?_ (Nat.le_of_ble_eq_true rfl)
   ·intro k o h;exact h
   exact bG (bG (vJ hK (by omega)) (by omega) ⟨rfl,rfl,rfl,rfl,dT rfl⟩) (by omega) (aO (aD _ _))
 have hil:i<m.length:=(by simp [aA,aC] at m1;omega);(conv=>whnf);refine⟨l,m,aG bC rfl,aG bL rfl,?_⟩;refine aI (show (kS l m&&(decide (0≤j)&&decide (j<m.length)))=true from ?_) ?_
 ·rw [hok,decide_eq_true (show 0≤j by omega),decide_eq_true (show j<m.length by omega)];rfl
 have hjn:j.toNat=i:=(by omega);have hpr:nQ l P (bO m i)=F3 P (aS l m j.toNat):=(by rw [hjn];rfl);((conv=>whnf);apply bm<;>intro f1);rotate_left
 ·have hfar:pH (aS l m j.toNat) (P,P)=true:=by
   have f1:((!pH (aS l m j.toNat) (P,P)) == true)=false:=f1;simpa using f1
  rw [aFp hfar] at hpr;have hf:bS (nQ l P) m (i+1)=bS (nQ l P) m i:=rC hpr;generalize bS (nQ l P) m i=L at *
  repeat' ((conv=>whnf);apply bm<;>intro g)
  all_goals first
   |((conv=>whnf)
     refine⟨m.length - (i+1),by omega,?_⟩;refine cL (P:=[(2010,.cells true false 1 (flat aT.fl L)),(2009,.cells true false 1 [iv P.1,iv P.2])]) (W:=H5 l m n c1 c2 [iv P.1,iv P.2]) (e0:=PO m.length (.slice (some ⟨2010,0,none⟩) L.length L.length) (j+1)) (n0:=2011) [] ⟨i+1,j+1,by omega,by omega,rfl,.inr ⟨by rw [hf];exact hpos,by rw [hf];rfl,by rw [hf];rfl,rfl⟩⟩ ?_ hK ?_ ?_ ?_ (fun _ h=>(by cases h)) (by omega)
     ·unfold PO;((repeat' refine iE rfl rfl ?_);exact iN)
     ·repeat' first|exact fun _ _ h=>h|(refine aX ?_ (hN _ (by decide)))|(refine cK ?_ (hN _ (by decide)))|(refine ext_cons ?_ (hN _ (by decide)))|(refine eH ?_ (hN _ (by decide)))
     ·exact List.forall_mem_cons.2 ⟨⟨.inl ⟨Nat.le_of_ble_eq_true rfl,Nat.le_of_ble_eq_true rfl,Nat.le_of_ble_eq_true rfl⟩,_,rfl,aO (aD _ _)⟩,List.forall_mem_cons.2 ⟨⟨.inl ⟨Nat.le_of_ble_eq_true rfl,Nat.le_of_ble_eq_true rfl,Nat.le_of_ble_eq_true rfl⟩,_,rfl,⟨rfl,rfl,rfl,rfl,dT rfl⟩⟩,fun _ h=>(by cases h)⟩⟩
     show ∀ k∈[2010,2009],∀ k'∈[2010,2009],_;decide)
   |(exfalso;first|exact nN (s:=1) (by omega) (by omega) g|(clear hf hpr;simp [aA,aC,aF] at *;first|omega|(simp_all;done)|(simp_all;omega)))
 have hfar:pH (aS l m j.toNat) (P,P)=false:=by
  have f1:((!pH (aS l m j.toNat) (P,P)) == true)=true:=f1;simpa using f1
 ((conv=>whnf);apply bm<;>intro f2)
 ·have hon:F3 P (aS l m j.toNat)=true:=by
   have f2:F3 P (aS l m j.toNat)=true:=f2;exact f2
  rw [hon] at hpr;have hf:bS (nQ l P) m (i+1)=bS (nQ l P) m i++[j]:=(by rw [v5 hpr,hj]);generalize bS (nQ l P) m i=L at *
  repeat' ((conv=>whnf);apply bm<;>intro g)
  all_goals first
   |((conv=>whnf)
     refine⟨m.length - (i+1),by omega,?_⟩;refine cL (P:=[(2010,.cells true false 1 (flat aT.fl (L++[j]))),(2009,.cells true false 1 [iv P.1,iv P.2])]) (W:=H5 l m n c1 c2 [iv P.1,iv P.2]) (e0:=PO m.length (.slice (some ⟨2010,0,none⟩) (L.length+1) (L.length+1)) (j+1)) (n0:=2011) [(2010,2013)] ⟨i+1,j+1,by omega,by omega,rfl,.inr ⟨by rw [hf,List.length_append];exact Nat.succ_pos _,by rw [hf,List.length_append];rfl,by rw [hf];rfl,rfl⟩⟩ ?_ hK ?_ ?_ ?_ (fun p h=>by rcases List.mem_cons.1 h with rfl|h;exact Nat.le_of_ble_eq_true rfl;cases h) (by omega)
     ·unfold PO;((repeat' refine iE rfl rfl ?_);exact iN)
     ·repeat' first|exact fun _ _ h=>h|(refine aX ?_ (hN _ (by decide)))|(refine cK ?_ (hN _ (by decide)))|(refine ext_cons ?_ (hN _ (by decide)))|(refine eH ?_ (hN _ (by decide)))
     ·exact List.forall_mem_cons.2 ⟨⟨.inl ⟨Nat.le_of_ble_eq_true rfl,Nat.le_of_ble_eq_true rfl,Nat.le_of_ble_eq_true rfl⟩,_,rfl,bB (aD aT _) (fU aT L j rfl)⟩,List.forall_mem_cons.2 ⟨⟨.inl ⟨Nat.le_of_ble_eq_true rfl,Nat.le_of_ble_eq_true rfl,Nat.le_of_ble_eq_true rfl⟩,_,rfl,⟨rfl,rfl,rfl,rfl,dT rfl⟩⟩,fun _ h=>(by cases h)⟩⟩
     show ∀ k∈[2010,2009],∀ k'∈[2010,2009],_;decide)
   |(exfalso;first|exact nN (s:=1) (by omega) (by omega) g|(clear hf hpr;simp [aA,aC,aF] at *;first|omega|(simp_all;done)|(simp_all;omega)))
 have hon:F3 P (aS l m j.toNat)=false:=by
  have f2:F3 P (aS l m j.toNat)=false:=f2;exact f2
 rw [hon] at hpr;have hf:bS (nQ l P) m (i+1)=bS (nQ l P) m i:=rC hpr;generalize bS (nQ l P) m i=L at *
 repeat' ((conv=>whnf);apply bm<;>intro g)
 all_goals first
  |((conv=>whnf)
    refine⟨m.length - (i+1),by omega,?_⟩;refine cL (P:=[(2010,.cells true false 1 (flat aT.fl L)),(2009,.cells true false 1 [iv P.1,iv P.2])]) (W:=H5 l m n c1 c2 [iv P.1,iv P.2]) (e0:=PO m.length (.slice (some ⟨2010,0,none⟩) L.length L.length) (j+1)) (n0:=2011) [] ⟨i+1,j+1,by omega,by omega,rfl,.inr ⟨by rw [hf];exact hpos,by rw [hf];rfl,by rw [hf];rfl,rfl⟩⟩ ?_ hK ?_ ?_ ?_ (fun _ h=>(by cases h)) (by omega)
    ·unfold PO;((repeat' refine iE rfl rfl ?_);exact iN)
    ·repeat' first|exact fun _ _ h=>h|(refine aX ?_ (hN _ (by decide)))|(refine cK ?_ (hN _ (by decide)))|(refine ext_cons ?_ (hN _ (by decide)))|(refine eH ?_ (hN _ (by decide)))
    ·exact List.forall_mem_cons.2 ⟨⟨.inl ⟨Nat.le_of_ble_eq_true rfl,Nat.le_of_ble_eq_true rfl,Nat.le_of_ble_eq_true rfl⟩,_,rfl,aO (aD _ _)⟩,List.forall_mem_cons.2 ⟨⟨.inl ⟨Nat.le_of_ble_eq_true rfl,Nat.le_of_ble_eq_true rfl,Nat.le_of_ble_eq_true rfl⟩,_,rfl,⟨rfl,rfl,rfl,rfl,dT rfl⟩⟩,fun _ h=>(by cases h)⟩⟩
    show ∀ k∈[2010,2009],∀ k'∈[2010,2009],_;decide)
  |(exfalso;first|exact nN (s:=1) (by omega) (by omega) g|(clear hf hpr;simp [aA,aC,aF] at *;first|omega|(simp_all;done)|(simp_all;omega)))
theorem x48:cO Go.Proofs.Tryz.prog 48 X48:=ED (aH (xl:=[OR,aF6,X20]) (.cons aIl (.cons aNw (.cons x20 .nil)))) fun a ⟨ho,hlm,hP⟩=>w48 a.l a.m a.n a.c1 a.c2 a.P ho hlm
def okA (a:A48 × Bool):Prop:=a8 a.1.l a.1.m a.1.n=true∧(a.1.l.length≤1000∧a.1.m.length≤1000)∧aM a.1.P=a.2
def MZ (l:List Pt)(m:List Ed)(P:Pt):Bool→Int × Int
 |false=>(0,1)
 |true=>match D6 l m P with|[]=>(L7 l m P,0)|_::_=>(0,21)
def v47 (a:A48 × Bool):Value:=.tuple #[iv (MZ a.1.l a.1.m a.1.P a.2).1,iv (MZ a.1.l a.1.m a.1.P a.2).2]
def X47:XF:=dX okA (fun _=>[pV 12,pV 3]) (fun a=>QW a.1) (fun _=>2009) v47 (fun a=>QW a.1) (fun _=>2009)
theorem aBP (l:List Pt)(m:List Ed)(P:Pt)(b:Bool):MZ l m P b=(0,1)∨MZ l m P b=(L7 l m P,0)∨MZ l m P b=(0,21):=by
 cases b with
 |false=>exact .inl rfl
 |true =>
  unfold MZ;cases D6 l m P with
  |nil=>exact .inr (.inl rfl)
  |cons a t=>exact .inr (.inr rfl)
theorem w47 (l:List Pt)(m:List Ed)(n:Int)(c1 c2:Nat)(P:Pt)(b:Bool)(ho:a8 l m n=true)(hlm:l.length≤1000∧m.length≤1000)(hb:aM P=b) :
  body [X17,(48,X48),(49,X49)] 47 [pV 12,pV 3] (H5 l m n c1 c2 [iv P.1,iv P.2]) 2009 (fun v h nx=>∃ ρ,lQ 2009 ρ [(0,.tuple #[iv (MZ l m P b).1,iv (MZ l m P b).2])] (H5 l m n c1 c2 [iv P.1,iv P.2]) 2009 [(0,v)] h nx):=by
 have hK:=NV (l:=l) (m:=m) (n:=n) (c1:=c1) (c2:=c2) (cs:=[iv P.1,iv P.2]) hlm.1 rfl;have hN:∀ k,2009≤k→look (H5 l m n c1 c2 [iv P.1,iv P.2]) k=none:=fun k hk=>aA4 hlm.1 hk;obtain⟨p1,p2⟩:=P;cases b with
 |false =>
  (conv=>whnf);rw [hb];(conv=>whnf);have he:(if aM (p1,p2)=true then (0:Int) else 1)=1:=(by rw [hb];rfl);show ∃ ρ,lQ 2009 ρ _ _ 2009 [(0,.tuple #[iv 0,iv (if aM (p1,p2)=true then 0 else 1)])] _ _;rw [he];exact fQ (v:=.tuple #[iv 0,iv 1]) (gE rfl) (cG rfl) (fun _ _ h=>h) hK (Nat.le_refl _)
 |true =>
  (conv=>whnf);rw [hb];(conv=>whnf);refine⟨⟨l,m,n,c1,c2,(p1,p2)⟩,⟨ho,hlm,hb⟩,rfl,rfl,rfl,?_⟩;cases hL:D6 l m (p1,p2) with
  |nil =>
   have hv:v48 ⟨l,m,n,c1,c2,(p1,p2)⟩=aR:=(by unfold v48;simp only [hL]);have hh:UI ⟨l,m,n,c1,c2,(p1,p2)⟩=QW ⟨l,m,n,c1,c2,(p1,p2)⟩:=(by unfold UI;simp only [hL]);have hn:W0 ⟨l,m,n,c1,c2,(p1,p2)⟩=2009:=(by unfold W0;simp only [hL]);have ha:MZ l m (p1,p2) true=(L7 l m (p1,p2),0):=(by unfold MZ;simp only [hL]);rw [hv,hh,hn,ha];(conv=>whnf);refine⟨⟨l,m,n,c1,c2,(p1,p2)⟩,⟨ho,hlm,hb⟩,rfl,rfl,rfl,?_⟩;(conv=>whnf);exact fQ (v:=.tuple #[iv (L7 l m (p1,p2)),iv 0]) (gE rfl) (cG rfl) (fun _ _ h=>h) hK (Nat.le_refl _)
  |cons x r =>
   have hv:v48 ⟨l,m,n,c1,c2,(p1,p2)⟩=.slice (some ⟨2010,0,none⟩) (r.length+1) (r.length+1):=(by unfold v48;simp only [hL];rfl);have hh:UI ⟨l,m,n,c1,c2,(p1,p2)⟩=(2010,.cells true false 1 (flat aT.fl (x::r)))::(2009,.cells true false 1 [iv p1,iv p2])::QW ⟨l,m,n,c1,c2,(p1,p2)⟩:=(by unfold UI;simp only [hL]);have hn:W0 ⟨l,m,n,c1,c2,(p1,p2)⟩=2011:=(by unfold W0;simp only [hL]);have ha:MZ l m (p1,p2) true=(0,21):=(by unfold MZ;simp only [hL]);rw [hv,hh,hn,ha];((conv=>whnf);apply bm<;>intro g)
   ·(conv=>whnf);exact fQ (v:=.tuple #[iv 0,iv 21]) (gE rfl) (cG rfl) (ext_cons (ext_cons (fun _ _ h=>h) (hN _ (by decide))) (hN _ (by decide))) hK (Nat.le_refl _)
   exfalso;simp [aA,aC] at g
theorem x47:cO Go.Proofs.Tryz.prog 47 X47:=ED (aH (xl:=[X17,(48,X48),(49,X49)]) (.cons x17 (.cons x48 (.cons x49 .nil)))) fun a ⟨ho,hlm,hb⟩=>w47 a.1.l a.1.m a.1.n a.1.c1 a.1.c2 a.1.P a.2 ho hlm hb
def v54 (a:A48 × Bool):Value:=match a.2 with|false=>.tuple #[aR,iv 1]|true=>match D6 a.1.l a.1.m a.1.P with|[]=>.tuple #[aR,iv 0]|x::r=>.tuple #[.slice (some ⟨2010,0,none⟩) (x::r).length (x::r).length,iv 0]
def h54 (a:A48 × Bool):Heap:=match a.2 with|false=>QW a.1|true=>UI a.1
def n54 (a:A48 × Bool):Nat:=match a.2 with|false=>2009|true=>W0 a.1
def aO4:XF:=dX okA (fun _=>[pV 12,pV 3]) (fun a=>QW a.1) (fun _=>2009) v54 h54 n54
theorem w54 (l:List Pt)(m:List Ed)(n:Int)(c1 c2:Nat)(P:Pt)(b:Bool)(ho:a8 l m n=true)(hlm:l.length≤1000∧m.length≤1000)(hb:aM P=b) :
  body [X17,(48,X48)] 54 [pV 12,pV 3] (H5 l m n c1 c2 [iv P.1,iv P.2]) 2009 (fun v h nx=>∃ ρ,lQ 2009 ρ [(0,v54 (⟨l,m,n,c1,c2,P⟩,b))] (h54 (⟨l,m,n,c1,c2,P⟩,b)) (n54 (⟨l,m,n,c1,c2,P⟩,b)) [(0,v)] h nx):=by
 have hK:=NV (l:=l) (m:=m) (n:=n) (c1:=c1) (c2:=c2) (cs:=[iv P.1,iv P.2]) hlm.1 rfl;have hN:∀ k,2009≤k→look (H5 l m n c1 c2 [iv P.1,iv P.2]) k=none:=fun k hk=>aA4 hlm.1 hk;obtain⟨p1,p2⟩:=P;cases b with
 |false =>
  (conv=>whnf);rw [hb];(conv=>whnf);have he:(if aM (p1,p2)=true then (0:Int) else 1)=1:=(by rw [hb];rfl);show ∃ ρ,lQ 2009 ρ _ _ 2009 [(0,.tuple #[aR,iv (if aM (p1,p2)=true then 0 else 1)])] _ _;rw [he];exact fQ (v:=.tuple #[aR,iv 1]) (gE rfl) (cG rfl) (fun _ _ h=>h) hK (Nat.le_refl _)
 |true =>
  (conv=>whnf);rw [hb];(conv=>whnf);refine⟨⟨l,m,n,c1,c2,(p1,p2)⟩,⟨ho,hlm,hb⟩,rfl,rfl,rfl,?_⟩;cases hL:D6 l m (p1,p2) with
  |nil =>
   have hv:v48 ⟨l,m,n,c1,c2,(p1,p2)⟩=aR:=(by unfold v48;simp only [hL]);have hh:UI ⟨l,m,n,c1,c2,(p1,p2)⟩=QW ⟨l,m,n,c1,c2,(p1,p2)⟩:=(by unfold UI;simp only [hL]);have hn:W0 ⟨l,m,n,c1,c2,(p1,p2)⟩=2009:=(by unfold W0;simp only [hL]);have ha:v54 (⟨l,m,n,c1,c2,(p1,p2)⟩,true)=.tuple #[aR,iv 0]:=(by unfold v54;simp only [hL]);have hh5:h54 (⟨l,m,n,c1,c2,(p1,p2)⟩,true)=QW ⟨l,m,n,c1,c2,(p1,p2)⟩:=hh;have hn5:n54 (⟨l,m,n,c1,c2,(p1,p2)⟩,true)=2009:=hn;rw [hv,hh,hn,ha,hh5,hn5];(conv=>whnf);exact fQ (v:=.tuple #[aR,iv 0]) (gE rfl) (cG rfl) (fun _ _ h=>h) hK (Nat.le_refl _)
  |cons x r =>
   have hv:v48 ⟨l,m,n,c1,c2,(p1,p2)⟩=.slice (some ⟨2010,0,none⟩) (x::r).length (x::r).length:=(by unfold v48;simp only [hL]);have hh:UI ⟨l,m,n,c1,c2,(p1,p2)⟩=(2010,.cells true false 1 (flat aT.fl (x::r)))::(2009,.cells true false 1 [iv p1,iv p2])::QW ⟨l,m,n,c1,c2,(p1,p2)⟩:=(by unfold UI;simp only [hL]);have hn:W0 ⟨l,m,n,c1,c2,(p1,p2)⟩=2011:=(by unfold W0;simp only [hL]);have ha:v54 (⟨l,m,n,c1,c2,(p1,p2)⟩,true)=.tuple #[.slice (some ⟨2010,0,none⟩) (x::r).length (x::r).length,iv 0]:=(by unfold v54;simp only [hL]);have hh5:h54 (⟨l,m,n,c1,c2,(p1,p2)⟩,true)=(2010,.cells true false 1 (flat aT.fl (x::r)))::(2009,.cells true false 1 [iv p1,iv p2])::QW ⟨l,m,n,c1,c2,(p1,p2)⟩:=hh;have hn5:n54 (⟨l,m,n,c1,c2,(p1,p2)⟩,true)=2011:=hn;rw [hv,hh,hn,ha,hh5,hn5];generalize x::r=L;(conv=>whnf);refine fQ (v:=.tuple #[.slice (some ⟨2010,0,none⟩) L.length L.length,iv 0]) (by simp [iM,tr,eM,cC,eN,kV];rfl) ?_ (fun _ _ h=>h) ?_ (Nat.le_of_ble_eq_true rfl)
   ·intro x hx;simp only [List.mem_cons,List.not_mem_nil,or_false] at hx;rcases hx with rfl|rfl
    ·exact⟨Nat.le_of_ble_eq_true rfl,fun h=>by cases h⟩
    exact iL (cN rfl)
   exact bG (bG (vJ hK (by omega)) (by omega) ⟨rfl,rfl,rfl,rfl,dT rfl⟩) (by omega) (aO (aD _ _))
theorem aPU:cO Go.Proofs.Tryz.prog 54 aO4:=ED (aH (xl:=[X17,(48,X48)]) (.cons x17 (.cons x48 .nil))) fun a ⟨ho,hlm,hb⟩=>w54 a.1.l a.1.m a.1.n a.1.c1 a.1.c2 a.1.P a.2 ho hlm hb
def atP (l:List Pt)(m:List Ed)(n:Int):List Value→Option (Bool × Value)
 |[.agg ⟨[.int .i64 x,.int .i64 y]⟩]=>some (decide (l.length≤1000)&&decide (m.length≤1000),.tuple #[iv (MZ l m (x,y) (a8 l m n&&aM (x,y))).1,iv (MZ l m (x,y) (a8 l m n&&aM (x,y))).2])
 |_=>none
theorem aAk {l:List Pt}{m:List Ed}{n:Int}{r:List Value}{v:Value}(hs:atP l m n r=some (true,v)):∃ P:Pt,r=[.agg #[iv P.1,iv P.2]]∧(l.length≤1000∧m.length≤1000)∧v=.tuple #[iv (MZ l m P (a8 l m n&&aM P)).1,iv (MZ l m P (a8 l m n&&aM P)).2]:=by
 unfold atP at hs;split at hs
 ·injection hs with hs;injection hs with h1 h2;simp only [Bool.and_eq_true,decide_eq_true_eq] at h1;exact⟨(_,_),rfl,h1,h2.symm⟩
 ·cases hs
def aKX:Nat × XF:=(16,mX bC bL atP)
theorem aQN:cO Go.Proofs.Tryz.prog aKX.1 aKX.2:=mV bC bL (kL (F7 (xl:=[aCK,(47,X47)]) (.cons aJY (.cons x47 .nil)) 4) 6).1 fun l m n r v hs=>by
 obtain⟨P,rfl,hlm,rfl⟩:=aAk hs;clear hs;refine⟨rfl,rfl,fun c1 c2=>?_⟩;(conv=>whnf);refine⟨l,m,n,.slice (some ⟨0,0,none⟩) l.length c1,.slice (some ⟨1,0,none⟩) m.length c2,rfl,aG bC rfl,aG bL rfl,hlm,?_⟩;cases ho:a8 l m n with
 |false =>
  rw [Bool.false_and];refine .inr ⟨rfl,?_⟩;(conv=>whnf);rfl
 |true =>
  rw [Bool.true_and];refine .inl ⟨rfl,?_⟩;(conv=>whnf);refine⟨(⟨l,m,n,c1,c2,P⟩,aM P),⟨ho,hlm,rfl⟩,rfl,rfl,rfl,?_⟩;have hv:v47 (⟨l,m,n,c1,c2,P⟩,aM P)=.tuple #[iv (MZ l m P (aM P)).1,iv (MZ l m P (aM P)).2]:=rfl;rcases aBP l m P (aM P) with e|e|e
  all_goals
   rw [e] at hv ⊢;rw [hv];(conv=>whnf);rfl
def aHA (l:List Pt)(m:List Ed)(n:Int):List Value→Option (Bool × List Int × Option Int)
 |[.agg ⟨[.int .i64 x,.int .i64 y]⟩]=>some (decide (l.length≤1000)&&decide (m.length≤1000),if (a8 l m n&&aM (x,y))=true then D6 l m (x,y) else [],some (if (a8 l m n&&aM (x,y))=true then 0 else 1))
 |_=>none
theorem SX {l:List Pt}{m:List Ed}{n:Int}{r:List Value}{out:List Int}{e:Option Int}(hs:aHA l m n r=some (true,out,e)):∃ P:Pt,r=[.agg #[iv P.1,iv P.2]]∧(l.length≤1000∧m.length≤1000)∧out=(if (a8 l m n&&aM P)=true then D6 l m P else [])∧e=some (if (a8 l m n&&aM P)=true then 0 else 1):=by
 unfold aHA at hs;split at hs
 ·injection hs with hs;injection hs with h1 h2;injection h2 with h2 h3;simp only [Bool.and_eq_true,decide_eq_true_eq] at h1;exact⟨(_,_),rfl,h1,h2.symm,h3.symm⟩
 ·cases hs
def aMa:Nat × XF:=(18,mRX aHA)
theorem aQq:cO Go.Proofs.Tryz.prog aMa.1 aMa.2:=V7 (kL (F7 (xl:=[aCK,(54,aO4)]) (.cons aJY (.cons aPU .nil)) 4) 6).1 fun l m n r out e hs=>by
 obtain⟨P,rfl,hlm,rfl,rfl⟩:=SX hs;clear hs;refine⟨rfl,fun c1 c2=>?_⟩;(conv=>whnf);refine⟨l,m,n,.slice (some ⟨0,0,none⟩) l.length c1,.slice (some ⟨1,0,none⟩) m.length c2,rfl,aG bC rfl,aG bL rfl,hlm,?_⟩;cases ho:a8 l m n with
 |false =>
  rw [Bool.false_and];refine .inr ⟨rfl,?_⟩;(conv=>whnf);rfl
 |true =>
  rw [Bool.true_and];refine .inl ⟨rfl,?_⟩;cases hb:aM P with
  |false =>
   (conv=>whnf);refine⟨(⟨l,m,n,c1,c2,P⟩,false),⟨ho,hlm,hb⟩,rfl,rfl,rfl,?_⟩;(conv=>whnf);rfl
  |true =>
   rw [if_pos rfl,if_pos rfl];(conv=>whnf);refine⟨(⟨l,m,n,c1,c2,P⟩,true),⟨ho,hlm,hb⟩,rfl,rfl,rfl,?_⟩;cases hL:D6 l m P with
   |nil =>
    have ha:v54 (⟨l,m,n,c1,c2,P⟩,true)=.tuple #[aR,iv 0]:=(by unfold v54;simp only [hL]);rw [ha];(conv=>whnf);rfl
   |cons x r =>
    have ha:v54 (⟨l,m,n,c1,c2,P⟩,true)=.tuple #[.slice (some ⟨2010,0,none⟩) (x::r).length (x::r).length,iv 0]:=(by unfold v54;simp only [hL]);have hh5:h54 (⟨l,m,n,c1,c2,P⟩,true)=(2010,.cells true false 1 (flat aT.fl (x::r)))::(2009,.cells true false 1 [iv P.1,iv P.2])::QW ⟨l,m,n,c1,c2,P⟩:=by
     show UI _=_;unfold UI;simp only [hL]
    have hn5:n54 (⟨l,m,n,c1,c2,P⟩,true)=2011:=by
     show W0 _=_;unfold W0;simp only [hL]
    rw [ha,hh5,hn5];have hpos:0<(x::r).length:=Nat.succ_pos _;generalize x::r=L at *;(conv=>whnf);show Yields aT L (some 0) (kQ (some 0) (.slice (some ⟨2010,0,none⟩) L.length L.length)) ((2010,.cells true false 1 (flat aT.fl L))::(2009,.cells true false 1 [iv P.1,iv P.2])::QW ⟨l,m,n,c1,c2,P⟩) 2011;exact mF aT hpos rfl
def H6 (l:List Pt)(m:List Ed)(n:Int)(c1 c2:Nat)(a b:Int):Heap :=
 app (eP (bT (bT (bT (bT (aL bC bL l m) 2 (.cells true false 1 [.slice (some ⟨0,0,none⟩) l.length c1,.slice (some ⟨1,0,none⟩) m.length c2,iv n])) 3 (.cells true false 1 [iv a])) 4 (.cells true false 1 [iv b])) 5 (.cells true false 1 [.slice (some ⟨0,0,none⟩) l.length c1,.slice (some ⟨1,0,none⟩) m.length c2,iv n]))) (wN 6 l m c1 c2 n (wTb 6 l m) (wT 6 l m))
theorem aJB {l:List Pt}{m:List Ed}{n:Int}{c1 c2:Nat}{a b:Int}(hl:l.length≤1000):yG (H6 l m n c1 c2 a b) 2010:=by
 refine O7 ?_ (aDQ (nx:=6) hl);have hb:∀ {b},5≤b→bZ id b (.cells true false 1 [.slice (some ⟨0,0,none⟩) l.length c1,.slice (some ⟨1,0,none⟩) m.length c2,iv n]) (.cells true false 1 [.slice (some ⟨0,0,none⟩) l.length c1,.slice (some ⟨1,0,none⟩) m.length c2,iv n]):=fun {b} h =>
  ⟨rfl,rfl,rfl,rfl,List.forall_mem_cons.2 ⟨⟨Nat.lt_of_lt_of_le (by decide:0<5) h,fun h=>by cases h⟩,List.forall_mem_cons.2 ⟨⟨Nat.lt_of_lt_of_le (by decide:1<5) h,fun h=>by cases h⟩,List.forall_mem_cons.2 ⟨cN rfl,fun _ h=>by cases h⟩⟩⟩⟩
 refine I8 ?_ rfl;exact bG (bG (bG (bG (bG (bG (fun k o hk=>by cases hk) (by omega) (aO (aD _ _))) (by omega) (aO (aD _ _))) (by omega) (hb (by omega))) (by omega) (aO rfl)) (by omega) (aO rfl)) (by omega) (hb (by omega))
theorem aOd {l:List Pt}{m:List Ed}{n:Int}{c1 c2:Nat}{a b:Int}(ho:a8 l m n=true)(hs:l.length≤1000∧m.length≤1000):WA (H6 l m n c1 c2 a b) 13 l m n :=
 aEQ (nx:=6) (aIw (nx:=6) ho hs) (fun k hk=>Z0 hs.1 (.inl hk)) rfl
theorem aOp {l:List Pt}{m:List Ed}{n:Int}{c1 c2:Nat}{a b:Int}(hl:l.length≤1000){k:Nat}(hk:2010≤k):look (H6 l m n c1 c2 a b) k=none:=ZU (nx:=6) rfl (by omega) (Z0 hl (.inr hk))
def Q6 (n a b:Int):Bool:=(u6 n a&&u6 n b)&&(!decide (a=0)&&(!decide (b=0)&&!decide (a=b)))
def abO (l:List Pt)(m:List Ed)(a b:Int):Nat→Bool × Bool
 |0=>(false,false)
 |i+1=>if (eF l (bO m i).a).1=(eF l (bO m i).b).1 then abO l m a b i else ((abO l m a b i).1 || (decide ((bO m i).l=a)&&decide ((bO m i).r=b)),(abO l m a b i).2 || (decide ((bO m i).l=b)&&decide ((bO m i).r=a)))
theorem tX {l:List Pt}{m:List Ed}{a b:Int}{i:Nat}(h:(fA l (bO m i).a.toNat).1=(fA l (bO m i).b.toNat).1):abO l m a b (i+1)=abO l m a b i:=by
 rw [abO];exact if_pos h
theorem tR {l:List Pt}{m:List Ed}{a b:Int}{i:Nat}{o t:Bool}(hO:abO l m a b i=(o,t))(h:¬ (fA l (bO m i).a.toNat).1=(fA l (bO m i).b.toNat).1):abO l m a b (i+1)=(o || (decide ((bO m i).l=a)&&decide ((bO m i).r=b)),t || (decide ((bO m i).l=b)&&decide ((bO m i).r=a))):=by
 rw [abO,hO];exact if_neg h
def upV:Bool × Bool→Int
 |(false,false)=>0
 |(true,false)=>1
 |(false,true)=>2
 |(true,true)=>3
structure A56 where
 l:List Pt
 m:List Ed
 n:Int
 c1:Nat
 c2:Nat
 a:Int
 b:Int
 t:Bool
def aQJ (a:A56):Prop:=a8 a.l a.m a.n=true∧(a.l.length≤1000∧a.m.length≤1000)∧Q6 a.n a.a a.b=a.t
def XN (l:List Pt)(m:List Ed)(a b:Int):Bool→Int × Int
 |false=>(0,1)
 |true=>(upV (abO l m a b m.length),0)
def v56 (a:A56):Value:=.tuple #[.int .u8 (XN a.l a.m a.a a.b a.t).1,iv (XN a.l a.m a.a a.b a.t).2]
def aN9:XF:=dX aQJ (fun _=>[pV 13,pV 3,pV 4,pV 2]) (fun a=>H6 a.l a.m a.n a.c1 a.c2 a.a a.b) (fun _=>2010) v56 (fun a=>H6 a.l a.m a.n a.c1 a.c2 a.a a.b) (fun _=>2010)
def e56 (v:Int)(N c2:Nat)(j:Int):List (Nat × Value):=[(1,pV 3),(2,pV 4),(3,pV 2),(7,.int .u8 v),(30,.slice (some ⟨1,0,none⟩) N c2),(31,iv N),(32,iv j)]
theorem w56 (l:List Pt)(m:List Ed)(n:Int)(c1 c2:Nat)(a b:Int)(t:Bool)(ho:a8 l m n=true)(hlm:l.length≤1000∧m.length≤1000)(hb:Q6 n a b=t) :
  body [aGh] 56 [pV 13,pV 3,pV 4,pV 2] (H6 l m n c1 c2 a b) 2010 (fun v h nx=>∃ ρ,lQ 2010 ρ [(0,.tuple #[.int .u8 (XN l m a b t).1,iv (XN l m a b t).2])] (H6 l m n c1 c2 a b) 2010 [(0,v)] h nx):=by
 have hK:=aJB (l:=l) (m:=m) (n:=n) (c1:=c1) (c2:=c2) (a:=a) (b:=b) hlm.1;have hN:∀ k,2010≤k→look (H6 l m n c1 c2 a b) k=none:=fun k hk=>aOp hlm.1 hk;have hW:=aOd (c1:=c1) (c2:=c2) (a:=a) (b:=b) ho hlm;have heg:=fun i (hi:i<m.length)=>qV (aZ ho) hi;unfold Q6 at hb;(conv=>whnf);refine⟨_,_,l,m,n,[a,b],2,rfl,aEN hW (hN _ (by decide)),⟨_,_,_,_,rfl,rfl⟩,?_⟩;cases hab:(u6 n a&&u6 n b) with
 |false =>
  rw [show aEg l m n [a,b]=some (true,.bool (u6 n a&&u6 n b)) from rfl,hab];rw [hab,Bool.false_and] at hb;subst hb;(conv=>whnf);exact fQ (v:=.tuple #[.int .u8 0,iv 1]) (gE rfl) (cG rfl) (by repeat' first|exact fun _ _ h=>h|(refine aX ?_ (hN _ (by decide)))|(refine cK ?_ (hN _ (by decide)))|(refine ext_cons ?_ (hN _ (by decide)))|(refine eH ?_ (hN _ (by decide)))) hK (Nat.le_refl _)
 |true =>
  rw [show aEg l m n [a,b]=some (true,.bool (u6 n a&&u6 n b)) from rfl,hab];rw [hab,Bool.true_and] at hb;by_cases h0:(¬ a=0∧¬ b=0∧¬ a=b)
  ·have ht:t=true:=(by rw [← hb,decide_eq_false h0.1,decide_eq_false h0.2.1,decide_eq_false h0.2.2];rfl);subst ht;clear hb
   repeat' (((conv=>whnf);apply bm<;>intro g))
   all_goals first
    |(exfalso;clear hK hN hW heg;simp [aA,aC] at *;first|omega|(simp_all;done))
    |skip
   (conv=>whnf);refine⟨fun q e h nx=>∃ (i:Nat) (j:Int) (o t:Bool),j=i∧i≤m.length∧q=m.length - i∧abO l m a b i=(o,t)∧e=e56 (upV (o,t)) m.length c2 j∧h=[]++H6 l m n c1 c2 a b∧nx=2010,⟨m.length,?_⟩,?_⟩
   ·refine cL (P:=[]) (W:=H6 l m n c1 c2 a b) (e0:=e56 0 m.length c2 0) (n0:=2010) [] ⟨0,0,false,false,rfl,Nat.zero_le _,rfl,rfl,rfl,rfl,rfl⟩ ?_ hK (by repeat' first|exact fun _ _ h=>h|(refine aX ?_ (hN _ (by decide)))|(refine cK ?_ (hN _ (by decide)))|(refine ext_cons ?_ (hN _ (by decide)))|(refine eH ?_ (hN _ (by decide)))) (fun _ h=>by cases h) (fun _ h=>by cases h) (fun _ h=>by cases h) (by omega);unfold e56;((repeat' refine iE rfl rfl ?_);exact iN)
   rintro q e h nx ⟨i,j,o,t,hj,hi,rfl,hO,rfl,rfl,rfl⟩;unfold e56 H6;((conv=>whnf);apply bm<;>intro m1);rotate_left
   ·have hil:i=m.length:=(by simp [aA,aC] at m1;omega);subst hil;(conv=>whnf);rw [show XN l m a b true=(upV (o,t),0) by unfold XN;rw [hO]];exact fQ (v:=.tuple #[.int .u8 (upV (o,t)),iv 0]) (gE rfl) (cG rfl) (by repeat' first|exact fun _ _ h=>h|(refine aX ?_ (hN _ (by decide)))|(refine cK ?_ (hN _ (by decide)))|(refine ext_cons ?_ (hN _ (by decide)))|(refine eH ?_ (hN _ (by decide)))) hK (Nat.le_refl _)
   have hil:i<m.length:=(by simp [aA,aC] at m1;omega);obtain⟨v1,v2,v3⟩:=heg i hil;((conv=>whnf);apply bm<;>intro m2);rotate_left
   ·exfalso;simp [aA,aC] at m2;omega
   (conv=>whnf);refine n8 (C5 m (i:=i) hil ?_) ?_
   ·show _+Int.toNat j*5=_;omega
   cases o <;> cases t
   all_goals repeat' first
    |(((conv=>whnf);apply bm<;>intro g))
    |((conv=>whnf)
      refine iU (MH l (i:=(bO m i).a.toNat) (by omega) ?_) ?_
      ·show _+Int.toNat _*2=_;omega)
    |((conv=>whnf)
      refine iU (MH l (i:=(bO m i).b.toNat) (by omega) ?_) ?_
      ·show _+Int.toNat _*2=_;omega)
   all_goals first
    |((conv=>whnf)
      refine⟨m.length - (i+1),by omega,?_⟩;refine cL (P:=[]) (W:=H6 l m n c1 c2 a b) (e0:=e56 (upV (false,false)) m.length c2 (j+1)) (n0:=2010) [] ⟨i+1,j+1,false,false,by omega,by omega,rfl,?_,rfl,rfl,rfl⟩ ?_ hK (by repeat' first|exact fun _ _ h=>h|(refine aX ?_ (hN _ (by decide)))|(refine cK ?_ (hN _ (by decide)))|(refine ext_cons ?_ (hN _ (by decide)))|(refine eH ?_ (hN _ (by decide)))) (fun _ h=>by cases h) (fun _ h=>by cases h) (fun _ h=>by cases h) (by omega)
      ·(clear hK hN hW;simp [aA,aC] at *;first|(rw [tX (by first|assumption|omega)];exact hO)|(rw [tR hO (by first|assumption|omega)];simp_all;done))
      unfold e56 upV;((repeat' refine iE rfl rfl ?_);exact iN))
    |((conv=>whnf)
      refine⟨m.length - (i+1),by omega,?_⟩;refine cL (P:=[]) (W:=H6 l m n c1 c2 a b) (e0:=e56 (upV (false,true)) m.length c2 (j+1)) (n0:=2010) [] ⟨i+1,j+1,false,true,by omega,by omega,rfl,?_,rfl,rfl,rfl⟩ ?_ hK (by repeat' first|exact fun _ _ h=>h|(refine aX ?_ (hN _ (by decide)))|(refine cK ?_ (hN _ (by decide)))|(refine ext_cons ?_ (hN _ (by decide)))|(refine eH ?_ (hN _ (by decide)))) (fun _ h=>by cases h) (fun _ h=>by cases h) (fun _ h=>by cases h) (by omega)
      ·(clear hK hN hW;simp [aA,aC] at *;first|(rw [tX (by first|assumption|omega)];exact hO)|(rw [tR hO (by first|assumption|omega)];simp_all;done))
      unfold e56 upV;((repeat' refine iE rfl rfl ?_);exact iN))
    |((conv=>whnf)
      refine⟨m.length - (i+1),by omega,?_⟩;refine cL (P:=[]) (W:=H6 l m n c1 c2 a b) (e0:=e56 (upV (true,false)) m.length c2 (j+1)) (n0:=2010) [] ⟨i+1,j+1,true,false,by omega,by omega,rfl,?_,rfl,rfl,rfl⟩ ?_ hK (by repeat' first|exact fun _ _ h=>h|(refine aX ?_ (hN _ (by decide)))|(refine cK ?_ (hN _ (by decide)))|(refine ext_cons ?_ (hN _ (by decide)))|(refine eH ?_ (hN _ (by decide)))) (fun _ h=>by cases h) (fun _ h=>by cases h) (fun _ h=>by cases h) (by omega)
      ·(clear hK hN hW;simp [aA,aC] at *;first|(rw [tX (by first|assumption|omega)];exact hO)|(rw [tR hO (by first|assumption|omega)];simp_all;done))
      unfold e56 upV;((repeat' refine iE rfl rfl ?_);exact iN))
    |((conv=>whnf)
      refine⟨m.length - (i+1),by omega,?_⟩;refine cL (P:=[]) (W:=H6 l m n c1 c2 a b) (e0:=e56 (upV (true,true)) m.length c2 (j+1)) (n0:=2010) [] ⟨i+1,j+1,true,true,by omega,by omega,rfl,?_,rfl,rfl,rfl⟩ ?_ hK (by repeat' first|exact fun _ _ h=>h|(refine aX ?_ (hN _ (by decide)))|(refine cK ?_ (hN _ (by decide)))|(refine ext_cons ?_ (hN _ (by decide)))|(refine eH ?_ (hN _ (by decide)))) (fun _ h=>by cases h) (fun _ h=>by cases h) (fun _ h=>by cases h) (by omega)
      ·(clear hK hN hW;simp [aA,aC] at *;first|(rw [tX (by first|assumption|omega)];exact hO)|(rw [tR hO (by first|assumption|omega)];simp_all;done))
      unfold e56 upV;((repeat' refine iE rfl rfl ?_);exact iN))
    |(exfalso;clear hK hN hW;simp [aA,aC,aF] at *;first|omega|(simp_all;done)|(simp_all;omega))
  have ht:t=false:=by
   rw [← hb];by_cases e1:a=0
   ·rw [decide_eq_true e1];rfl
   by_cases e2:b=0
   ·rw [decide_eq_true e2,decide_eq_false e1];rfl
   rw [decide_eq_false e1,decide_eq_false e2,decide_eq_true (show a=b from Classical.byContradiction fun e=>h0 ⟨e1,e2,e⟩)];rfl
  subst ht;clear hb
  repeat' (((conv=>whnf);apply bm<;>intro g))
  all_goals first
   |((conv=>whnf)
     exact fQ (v:=.tuple #[.int .u8 0,iv 1]) (gE rfl) (cG rfl) (by repeat' first|exact fun _ _ h=>h|(refine aX ?_ (hN _ (by decide)))|(refine cK ?_ (hN _ (by decide)))|(refine ext_cons ?_ (hN _ (by decide)))|(refine eH ?_ (hN _ (by decide)))) hK (Nat.le_refl _))
   |(exfalso;clear hK hN hW heg;simp [aA,aC] at *;first|omega|(simp_all;done))
theorem aPs:cO Go.Proofs.Tryz.prog 56 aN9:=ED (aH (xl:=[aGh]) (.cons aQI .nil)) fun a ⟨ho,hlm,hb⟩=>w56 a.l a.m a.n a.c1 a.c2 a.a a.b a.t ho hlm hb
def abP (l:List Pt)(m:List Ed)(n:Int):List Value→Option (Bool × Value)
 |[.int .i64 a,.int .i64 b]=>some (decide (l.length≤1000)&&decide (m.length≤1000),.tuple #[.int .u8 (XN l m a b (a8 l m n&&Q6 n a b)).1,iv (XN l m a b (a8 l m n&&Q6 n a b)).2])
 |_=>none
theorem YN {l:List Pt}{m:List Ed}{n:Int}{r:List Value}{v:Value}(hs:abP l m n r=some (true,v)):∃ a b,r=[iv a,iv b]∧(l.length≤1000∧m.length≤1000)∧v=.tuple #[.int .u8 (XN l m a b (a8 l m n&&Q6 n a b)).1,iv (XN l m a b (a8 l m n&&Q6 n a b)).2]:=by
 unfold abP at hs;split at hs
 ·injection hs with hs;injection hs with h1 h2;simp only [Bool.and_eq_true,decide_eq_true_eq] at h1;exact⟨_,_,rfl,h1,h2.symm⟩
 ·cases hs
def aEY:Nat × XF:=(20,mX bC bL abP)
theorem aNg:cO Go.Proofs.Tryz.prog aEY.1 aEY.2:=mV bC bL (kL (F7 (xl:=[aCK,(56,aN9)]) (.cons aJY (.cons aPs .nil)) 4) 6).1 fun l m n r v hs=>by
 obtain⟨a,b,rfl,hlm,rfl⟩:=YN hs;clear hs;refine⟨rfl,rfl,fun c1 c2=>?_⟩;(conv=>whnf);refine⟨l,m,n,.slice (some ⟨0,0,none⟩) l.length c1,.slice (some ⟨1,0,none⟩) m.length c2,rfl,aG bC rfl,aG bL rfl,hlm,?_⟩;cases ho:a8 l m n with
 |false =>
  rw [Bool.false_and];refine .inr ⟨rfl,?_⟩;(conv=>whnf);rfl
 |true =>
  rw [Bool.true_and];refine .inl ⟨rfl,?_⟩;(conv=>whnf);refine⟨⟨l,m,n,c1,c2,a,b,Q6 n a b⟩,⟨ho,hlm,rfl⟩,rfl,rfl,rfl,?_⟩;have hv:v56 ⟨l,m,n,c1,c2,a,b,Q6 n a b⟩=.tuple #[.int .u8 (XN l m a b (Q6 n a b)).1,iv (XN l m a b (Q6 n a b)).2]:=rfl;cases hb:Q6 n a b
  all_goals
   rw [hb] at hv;rw [hv];(conv=>whnf);rfl
section
variable {l:List Pt}{m:List Ed}{n:Int}
theorem RG (hok:cQ l m n=true):∀ d,d≤2*m.length→∀ i,i<2*m.length→0≤aK (bW l (aQ l m m.length) (outs l m) d).face i∧aK (bW l (aQ l m m.length) (outs l m) d).face i≤(bW l (aQ l m m.length) (outs l m) d).many
 |0,_,i,hi=>by
  unfold bW aK;rw [List.getD_eq_getElem?_getD,List.getElem?_replicate,a9,if_pos hi];exact⟨Int.le_refl _,Int.le_refl _⟩
 |d+1,h,i,hi=>by
  have ih:=RG hok d (by omega) i hi;have hinv:=oR l (aQ l m m.length) (outs l m) d;rw [a9] at hinv;rw [show bW l (aQ l m m.length) (outs l m) (d+1)=iY l (aQ l m m.length) (outs l m) (bW l (aQ l m m.length) (outs l m) d) d from rfl];generalize bW l (aQ l m m.length) (outs l m) d=t at *;unfold iY;split
  ·exact ih
  simp only;have hin:=qE hok (d:=(d:Int)) (by omega) (by omega);have hr:∀ k,k<(j8 (aQ l m m.length) (outs l m) d).length→(aK (j8 (aQ l m m.length) (outs l m) d) k).toNat<t.face.length:=fun k hk=>by
   rw [hinv.1];rw [mH] at hk;rw [xA hk];have:=hin k;omega
  generalize j8 (aQ l m m.length) (outs l m) d=W at *;generalize B8 l (aQ l m m.length) W W.length=A;have hs:=oL t.face W (if 0<A then t.many+1 else 0) hr i _ (Nat.le_refl _);by_cases hc:∃ k,k<W.length∧(aK W k).toNat=i
  ·rw [hs.1 hc];split <;> omega
  rw [hs.2 hc];split <;> omega
theorem JU (ho:a8 l m n=true){i:Nat}(hi:i<2*m.length):0≤aK (c8 l m).face i∧aK (c8 l m).face i≤n:=by
 have ho':=ho;simp only [a8,eK,Bool.and_eq_true,decide_eq_true_eq] at ho';have:=RG ho'.1.1 (2*m.length) (Nat.le_refl _) i hi;have e:bW l (aQ l m m.length) (outs l m) (2*m.length)=c8 l m:=(by unfold c8 nmD;rw [a9]);rw [e,ho'.2.2.2.1] at this;exact this
theorem ZN (ho:a8 l m n=true){i:Nat}(hi:i<m.length):(bO m i).l=aK (c8 l m).face (2*i)∧(bO m i).r=aK (c8 l m).face (2*i+1):=by
 simp only [a8,Bool.and_eq_true] at ho;have:=eG ho.2.2.2.2 hi;simpa only [E3,Bool.and_eq_true,decide_eq_true_eq] using this
theorem aN6 (ho:a8 l m n=true):1≤n∧n≤100:=(cZ (aZ ho)).2.2.2.2.2
end
theorem G5 (D:List Dt)(ls:List (List Int))(d:Int)(a:Nat):∀ b,jI D ls (jI D ls d a) b=jI D ls d (a+b)
 |0=>rfl
 |b+1=>by
  show x6 D ls (jI D ls (jI D ls d a) b)=x6 D ls (jI D ls d (a+b));rw [G5 D ls d a b]
section
variable {l:List Pt}{m:List Ed}{n:Int}
structure Ow (l:List Pt) (m:List Ed) (t:OP):Prop where
 orb:∀ i j:Nat,i<2*m.length→j<2*m.length→cV t.seen i=true→cV t.seen j=true→aK t.face i=aK t.face j→(aK t.face i≠0∨(t.out≤1∧t.flat=false))→∃ k,jI (aQ l m m.length) (outs l m) i k=j
 con:∀ i:Nat,i<2*m.length→cV t.seen i=true→aK t.face (x6 (aQ l m m.length) (outs l m) i).toNat=aK t.face i
 zer:∀ i:Nat,i<2*m.length→cV t.seen i=true→aK t.face i=0→1≤t.out∨t.flat=true
 rng:∀ i:Nat,i<2*m.length→aK t.face i≤t.many
theorem aHJ (hok:cQ l m n=true){t:OP}(h:Hs l m t)(o:Ow l m t)(hout:0≤t.out){d:Nat}(hd:d<2*m.length):Ow l m (iY l (aQ l m m.length) (outs l m) t d):=by
 unfold iY;cases hs:cV t.seen d with
 |true=>rw [if_pos rfl];exact o
 |false =>
  rw [if_neg (by decide)];simp only;have hin:=qE hok (d:=(d:Int)) (by omega) (by omega);have hT:jI (aQ l m m.length) (outs l m) d (gU (aQ l m m.length) (outs l m) d)=d:=by
   have hw:=List.all_eq_true.1 (uR hok) d (List.mem_range.2 (by rw [a9];exact hd));exact of_decide_eq_true hw
  have hT1:1≤gU (aQ l m m.length) (outs l m) d:=by
   have:=(gI (aQ l m m.length) (outs l m) d (aQ l m m.length).length 1).1;unfold gU;omega
  have hget:∀ k,k<gU (aQ l m m.length) (outs l m) d→aK (j8 (aQ l m m.length) (outs l m) d) k=jI (aQ l m m.length) (outs l m) d k:=fun k hk=>xA hk;have hlen:(j8 (aQ l m m.length) (outs l m) d).length=gU (aQ l m m.length) (outs l m) d:=mH;generalize j8 (aQ l m m.length) (outs l m) d=W at hget hlen ⊢;generalize gU (aQ l m m.length) (outs l m) d=T at *;have hr:∀ k,k<W.length→(aK W k).toNat<2*m.length:=fun k hk=>by
   rw [hget k (by omega)];have:=hin k;omega
  have hdis:∀ k,k<W.length→cV t.seen (aK W k).toNat=true→False:=fun k hk hsk=>by
   rw [hget k (by omega)] at hsk;have hf:∀ j,cV t.seen (jI (aQ l m m.length) (outs l m) d (k+j)).toNat=true:=by
    intro j
    induction j with
    |zero=>exact hsk
    |succ j ih =>
     have hi:=hin (k+j);have:=h.cl (jI (aQ l m m.length) (outs l m) d (k+j)).toNat (by omega) ih;rw [Int.toNat_of_nonneg hi.1] at this;exact this
   have:=hf (T - k);rw [show k+(T - k)=T by omega,hT,Int.toNat_natCast,hs] at this;cases this
  generalize B8 l (aQ l m m.length) W W.length=A
  -- which darts lie in the walk
  have hsee:∀ i,cV (fW t.seen W W.length) i=true→(∃ k,k<W.length∧(aK W k).toNat=i)∨(cV t.seen i=true∧¬ ∃ k,k<W.length∧(aK W k).toNat=i):=fun i hi=>by
   by_cases e:∃ k,k<W.length∧(aK W k).toNat=i
   ·exact .inl e
   rw [(oM t.seen W (by rw [h.seen];exact hr) i _ (Nat.le_refl _)).2 e] at hi;exact .inr ⟨hi,e⟩
  have hnew:∀ (fc:Int) i,(∃ k,k<W.length∧(aK W k).toNat=i)→aK (dV t.face W fc W.length) i=fc:=fun fc i hi=>(oL t.face W fc (by rw [h.face];exact hr) i _ (Nat.le_refl _)).1 hi;have hold:∀ (fc:Int) i,(¬ ∃ k,k<W.length∧(aK W k).toNat=i)→aK (dV t.face W fc W.length) i=aK t.face i:=fun fc i hi=>(oL t.face W fc (by rw [h.face];exact hr) i _ (Nat.le_refl _)).2 hi;have hwi:∀ i:Nat,(∃ k,k<W.length∧(aK W k).toNat=i)→∃ k,k<T∧jI (aQ l m m.length) (outs l m) d k=i:=fun i ⟨k,b1,b2⟩=>by
   refine⟨k,by omega,?_⟩;rw [hget k (by omega)] at b2;have:=hin k;omega
  have hiw:∀ k,k≤T→∃ q,q<W.length∧(aK W q).toNat=(jI (aQ l m m.length) (outs l m) d k).toNat:=fun k hk=>by
   rcases Nat.lt_or_ge k T with hk2|hk2
   ·exact⟨k,by omega,by rw [hget k hk2]⟩
   refine⟨0,by omega,?_⟩;rw [hget 0 (by omega),show k=T by omega,hT];rfl
  have hmany:=h.low;refine⟨fun i j hi hj hsi hsj hf hc=>?_,fun i hi hsi=>?_,fun i hi hsi hz=>?_,fun i hi=>?_⟩
  ·rcases hsee i hsi with ei|⟨oi,ni⟩ <;> rcases hsee j hsj with ej|⟨oj,nj⟩
   ·obtain⟨a,a1,a2⟩:=hwi i ei;obtain⟨b,b1,b2⟩:=hwi j ej;refine⟨T - a+b,?_⟩;rw [← a2,G5,show a+(T - a+b)=T+b by omega,← G5,hT,b2]
   ·exfalso;simp only at hf hc;rw [hnew _ i ei] at hf hc;rw [hold _ j nj] at hf;have:=o.rng j hj;have hz:=o.zer j hj oj;by_cases hA:0<A
    ·rw [if_pos hA] at hf;omega
    rw [if_neg hA] at hf hc;simp only [if_neg hA] at hc;have hz:=hz hf.symm;rcases hc with hc|⟨c1,c2⟩
    ·exact hc rfl
    by_cases hA2:A<0
    ·rw [if_pos hA2] at c1 c2;rcases hz with hz|hz
     ·omega
     rw [hz] at c2;cases c2
    rw [if_neg hA2] at c2;cases c2
   ·exfalso;simp only at hf hc;rw [hnew _ j ej] at hf;rw [hold _ i ni] at hf hc;have:=o.rng i hi;have hz:=o.zer i hi oi;by_cases hA:0<A
    ·rw [if_pos hA] at hf;omega
    rw [if_neg hA] at hf;simp only [if_neg hA] at hc;have hz:=hz hf;rcases hc with hc|⟨c1,c2⟩
    ·exact hc hf
    by_cases hA2:A<0
    ·rw [if_pos hA2] at c1 c2;rcases hz with hz|hz
     ·omega
     rw [hz] at c2;cases c2
    rw [if_neg hA2] at c2;cases c2
   simp only at hf hc;rw [hold _ i ni] at hf hc;rw [hold _ j nj] at hf;refine o.orb i j hi hj oi oj hf ?_;rcases hc with hc|⟨c1,c2⟩
   ·exact .inl hc
   refine .inr ?_;by_cases hA:0<A
   ·rw [if_pos hA] at c1 c2;exact⟨c1,c2⟩
   rw [if_neg hA] at c1 c2;by_cases hA2:A<0
   ·rw [if_pos hA2] at c1 c2;exact⟨by omega,c2⟩
   rw [if_neg hA2] at c2;cases c2
  ·rcases hsee i hsi with ei|⟨oi,ni⟩
   ·have e1:=hnew (if 0<A then t.many+1 else 0) i ei;simp only;rw [e1];obtain⟨a,a1,a2⟩:=hwi i ei;refine hnew _ _ ?_;have:=hiw (a+1) (by omega);rw [show jI (aQ l m m.length) (outs l m) d (a+1)=x6 (aQ l m m.length) (outs l m) i from by rw [← a2];rfl] at this;exact this
   simp only;rw [hold _ i ni,← o.con i hi oi];refine hold _ _ fun ⟨k,b1,b2⟩=>?_;have hc:=h.cl i hi oi;rw [← b2] at hc;exact hdis k b1 hc
  ·simp only at hz ⊢;rcases hsee i hsi with ei|⟨oi,ni⟩
   ·rw [hnew _ i ei] at hz;by_cases hA:0<A
    ·rw [if_pos hA] at hz;omega
    rw [if_neg hA,if_neg hA];by_cases hA2:A<0
    ·rw [if_pos hA2];exact .inl (by omega)
    rw [if_neg hA2,if_neg hA2];exact .inr rfl
   rw [hold _ i ni] at hz;have hz:=o.zer i hi oi hz;by_cases hA:0<A
   ·rw [if_pos hA,if_pos hA];exact hz
   rw [if_neg hA,if_neg hA];by_cases hA2:A<0
   ·rw [if_pos hA2,if_pos hA2];exact hz.imp (fun h=>by omega) id
   rw [if_neg hA2,if_neg hA2];exact .inr rfl
  simp only;by_cases ei:∃ k,k<W.length∧(aK W k).toNat=i
  ·rw [hnew _ i ei];split <;> omega
  rw [hold _ i ei];have:=o.rng i hi;split <;> omega
theorem U9 (hok:cQ l m n=true):∀ d,d≤2*m.length→Ow l m (bW l (aQ l m m.length) (outs l m) d)
 |0,_=>by
  have hz:∀ i,cV (bW l (aQ l m m.length) (outs l m) 0).seen i=true→False:=fun i h=>by
   unfold bW cV at h;rw [List.getD_eq_getElem?_getD,List.getElem?_replicate] at h;split at h <;> cases h
  refine⟨fun i j _ _ hs=>(hz i hs).elim,fun i _ hs=>(hz i hs).elim,fun i _ hs=>(hz i hs).elim,fun i hi=>?_⟩;unfold bW aK;rw [List.getD_eq_getElem?_getD,List.getElem?_replicate,a9,if_pos hi];exact Int.le_refl _
 |d+1,h=>aHJ hok (WC hok d (by omega)) (U9 hok d (by omega)) (oR l (aQ l m m.length) (outs l m) d).2.2.2.2.1 (by omega)
theorem aEO (ho:a8 l m n=true){f:Int}(h0:0≤f)(h1:f≤n){d:Nat}(hd:d<2*m.length):((d:Int)∈B9 l m f↔aK (c8 l m).face d=f):=by
 have ho':=ho;simp only [a8,eK,Bool.and_eq_true,decide_eq_true_eq] at ho';obtain⟨⟨hok,hpl⟩,_,hn,hmn,_⟩:=ho';have hp:eK l m n=true:=(by simp only [a8,Bool.and_eq_true] at ho;exact ho.1);have o:=U9 hok (2*m.length) (Nat.le_refl _);have hsn:=(AF hp (2*m.length) (Nat.le_refl _)).2;have e:bW l (aQ l m m.length) (outs l m) (2*m.length)=c8 l m:=(by unfold c8 nmD;rw [a9]);rw [e] at o hsn;simp only [yX,Bool.and_eq_true,decide_eq_true_eq,Bool.not_eq_true'] at hn;obtain⟨k,b1,b2,b3,b4⟩:=uI ho h0 h1;have hw:=List.all_eq_true.1 (uR hok) k (List.mem_range.2 (by rw [a9];exact b1));have hT:jI (aQ l m m.length) (outs l m) k (gU (aQ l m m.length) (outs l m) k)=k:=of_decide_eq_true hw;have hT1:1≤gU (aQ l m m.length) (outs l m) k:=by
  have:=(gI (aQ l m m.length) (outs l m) k (aQ l m m.length).length 1).1;unfold gU;omega
 have hin:=qE hok (d:=(k:Int)) (by omega) (by omega);have hfw:B9 l m f=j8 (aQ l m m.length) (outs l m) k:=(by unfold B9;rw [b4]);have hcon:∀ q,aK (c8 l m).face (jI (aQ l m m.length) (outs l m) k q).toNat=f:=by
  intro q
  induction q with
  |zero=>exact b2
  |succ q ih =>
   have hi:=hin q;have:=o.con (jI (aQ l m m.length) (outs l m) k q).toNat (by omega) (hsn _ (by omega));rw [Int.toNat_of_nonneg hi.1,ih] at this;exact this
 rw [hfw];constructor
 ·intro hm;unfold j8 at hm;obtain⟨q,_,hq⟩:=List.mem_map.1 hm;have:=hcon q;rw [hq,Int.toNat_natCast] at this;exact this
 intro hf;obtain⟨q,hq⟩:=o.orb k d b1 hd (hsn k b1) (hsn d hd) (by rw [b2,hf]) (.inr ⟨by omega,hn.2⟩);obtain⟨T,hTd⟩:∃ T,gU (aQ l m m.length) (outs l m) k=T:=⟨_,rfl⟩;rw [hTd] at hT hT1;have hmod:jI (aQ l m m.length) (outs l m) k (q % T)=d:=by
  have:∀ c,jI (aQ l m m.length) (outs l m) k (T*c+q % T)=jI (aQ l m m.length) (outs l m) k (q % T):=by
   intro c
   induction c with
   |zero=>rw [Nat.mul_zero,Nat.zero_add]
   |succ c ih =>
    rw [show T*(c+1)+q % T=T+(T*c+q % T) by rw [Nat.mul_succ];omega,← G5,hT];exact ih
  rw [← this (q / T),Nat.div_add_mod];exact hq
 have hlt:q % T<T:=Nat.mod_lt _ hT1;unfold j8;rw [hTd];exact List.mem_map.2 ⟨q % T,List.mem_range.2 hlt,hmod⟩
end
abbrev Pq:=Int × Int
def onW (N x y:Int)(p q:Pq):Prop:=∃ α β:Int,0≤α∧0≤β∧α+β=N∧x=α*p.1+β*q.1∧y=α*p.2+β*q.2
def okP (e f:Pq × Pq):Prop:=∀ N x y:Int,0<N→onW N x y e.1 e.2→onW N x y f.1 f.2→∃ z:Pq,(z=e.1∨z=e.2)∧(z=f.1∨z=f.2)∧x=N*z.1∧y=N*z.2
theorem OB {N x y:Int}{p q:Pq}(h:onW N x y p q):onW N x y q p:=by
 obtain⟨α,β,h1,h2,h3,h4,h5⟩:=h;exact⟨β,α,h2,h1,by omega,by omega,by omega⟩
theorem ID {e f:Pq × Pq}(h:okP e f):okP f e:=fun N x y hN he hf=>by
 obtain⟨z,h1,h2,h3⟩:=h N x y hN hf he;exact⟨z,h2,h1,h3⟩
theorem YC {e f:Pq × Pq}(h:okP e f):okP (e.2,e.1) f:=fun N x y hN he hf=>by
 obtain⟨z,h1,h2,h3⟩:=h N x y hN (OB he) hf;exact⟨z,h1.symm,h2,h3⟩
def e3 (F:Int × Int × Int)(N x y:Int):Int:=F.1*N+F.2.1*x+F.2.2*y
theorem dH {a b:Int}(h:a*b=0):a=0∨b=0:=Int.mul_eq_zero.1 h
def pe:List Pq→List (Pq × Pq)
 |a::b::r=>(a,b)::pe (b::r)
 |_=>[]
def cl:List Pq→List (Pq × Pq)
 |[]=>[]
 |p::r=>pe (p::r++[p])
def bU (p q:Pq):Int:=p.1*q.2 - q.1*p.2
def aMT:List (Pq × Pq)→Int
 |[]=>0
 |e::r=>bU e.1 e.2+aMT r
def ar (P:List Pq):Int:=aMT (cl P)
theorem aGR (p q:Pq):bU p q = -bU q p:=by
 unfold bU;omega
def lxp (x y:Int):Prop:=0<x∨(x=0∧0<y)
def lx (p q:Pq):Prop:=lxp (q.1 - p.1) (q.2 - p.2)
theorem XL {w a b:Pq}{N k:Int}(h0:0≤k)(h1:k≤N)(e1:N*(a.1 - w.1)=k*(b.1 - w.1))(e2:N*(a.2 - w.2)=k*(b.2 - w.2)):onW N (N*a.1) (N*a.2) w b :=
 ⟨N - k,k,by omega,h0,by omega,by grind,by grind⟩
def hd (L:List Pq)(z:Pq):Pq:=match L with
 |[]=>z
 |x::_=>x
def mB (f:Pq × Pq→Int):List (Pq × Pq)→Int
 |[]=>0
 |e::r=>f e+mB f r
def fs (f:Pq × Pq→Int)(P:List Pq):Int:=mB f (cl P)
theorem TJ (f:Pq × Pq→Int):∀ (A B:List (Pq × Pq)),mB f (A++B)=mB f A+mB f B
 |[],B=>by simp [mB]
 |e::A,B=>by
  have:=TJ f A B;simp only [List.cons_append,mB];omega
def rI (A B α:Int):Int:=if A≤0∧0<B then (if 0<α then 1 else 0) else if 0<A∧B≤0 then (if α<0 then -1 else 0) else 0
def vec (N:Int)(p a:Pq):Pq:=(N*a.1 - p.1,N*a.2 - p.2)
def wn (u:Pq)(N:Int)(p:Pq)(e:Pq × Pq):Int:=rI (bU u (vec N p e.1)) (bU u (vec N p e.2)) (bU (vec N p e.1) (vec N p e.2))
theorem EH (a:Int):0≤a*a:=by
 rcases Int.le_total 0 a with h|h
 ·exact Int.mul_nonneg h h
 exact Int.mul_nonneg_of_nonpos_of_nonpos h h
theorem sq_pos {x y:Int}(h:¬ (x=0∧y=0)):0<x*x+y*y:=by
 by_cases hx:x=0
 ·have hy:y≠0:=fun e=>h ⟨hx,e⟩;have:=EH x;have h2:0<y*y:=by
   rcases Int.lt_or_lt_of_ne hy with g|g
   ·exact Int.mul_pos_of_neg_of_neg g g
   exact Int.mul_pos g g
  omega
 have:=EH y;have h2:0<x*x:=by
  rcases Int.lt_or_lt_of_ne hx with g|g
  ·exact Int.mul_pos_of_neg_of_neg g g
  exact Int.mul_pos g g
 omega
def lf (f:Pq)(a z:Pq):Int:=f.1*(z.1 - a.1)+f.2*(z.2 - a.2)
def pos (f g a z:Pq):Prop:=lxp (lf f a z) (lf g a z)
theorem RO {s:Sg}(h:dL s=true):∃ a b:Pq,((a=s.1∧b=s.2)∨(a=s.2∧b=s.1))∧key a<key b∧bM s=(a,b)∧aM a=true∧aM b=true:=by
 obtain⟨r1,r2,ns⟩:=oO h;have nk:key s.1≠key s.2:=(HG r1 r2).1 ((jO _ _).2 ns);unfold bM;simp only [jF r1 r2,VZ];by_cases hk:key s.2<key s.1
 ·rw [if_pos hk];exact⟨s.2,s.1,.inr ⟨rfl,rfl⟩,hk,rfl,r2,r1⟩
 rw [if_neg hk];exact⟨s.1,s.2,.inl ⟨rfl,rfl⟩,by omega,rfl,r1,r2⟩
theorem aB4 {s t:Sg}(h:aV s.1 s.2 t.1=0∧aV s.1 s.2 t.2=0){a b c d:Pq}(hs:bM s=(a,b))(ht:bM t=(c,d))(ra:aM a=true)(rb:aM b=true)(rc:aM c=true)(rd:aM d=true) :
  gV s t=if (if key a<key c then key c else key a)<(if key d<key b then key d else key b) then 4 else if (if key a<key c then key c else key a)=(if key d<key b then key d else key b) then 1 else 0:=by
 unfold gV;rw [if_pos h];unfold HR vW;rw [hs,ht];simp only [jF ra rc,jF rd rb,WT];by_cases h1:key a<key c
 ·by_cases h2:key d<key b
  ·simp only [if_pos h1,if_pos h2];rw [jF rc rd,AQ]
  simp only [if_pos h1,if_neg h2];rw [jF rc rb,AQ]
 by_cases h2:key d<key b
 ·simp only [if_neg h1,if_pos h2];rw [jF ra rd,AQ]
 simp only [if_neg h1,if_neg h2];rw [jF ra rb,AQ]
theorem SA {N x y:Int}{s:Sg}{a b:Pq}(h:(a=s.1∧b=s.2)∨(a=s.2∧b=s.1)):onW N x y s.1 s.2↔onW N x y a b:=by
 rcases h with ⟨rfl,rfl⟩|⟨rfl,rfl⟩
 ·exact Iff.rfl
 exact⟨OB,OB⟩
theorem aAo {N x y:Int}{a b:Pq}(h:onW N x y a b)(hk:key a≤key b):N*key a≤x*100000+y∧x*100000+y≤N*key b:=by
 obtain⟨α,β,h1,h2,h3,h4,h5⟩:=h;have e:x*100000+y=α*key a+β*key b:=by
  unfold key;rw [h4,h5]
  grind
 have m1:=Int.mul_le_mul_of_nonneg_left hk h1;have m2:=Int.mul_le_mul_of_nonneg_left hk h2;rw [e,← h3,Int.add_mul,Int.add_mul];omega
theorem ZW {N x y:Int}{a b:Pq}(h:onW N x y a b)(hk:key a<key b)(e:x*100000+y=N*key a):x=N*a.1∧y=N*a.2:=by
 obtain⟨α,β,h1,h2,h3,h4,h5⟩:=h;have e2:x*100000+y=α*key a+β*key b:=by
  unfold key;rw [h4,h5]
  grind
 rw [e,← h3,Int.add_mul] at e2;have e3:β*(key b - key a)=0:=(by rw [Int.mul_sub];omega);have hb:β=0:=(dH e3).resolve_right (by omega);subst hb;rw [Int.add_zero] at h3;subst h3;simp only [Int.zero_mul,Int.add_zero] at h4 h5;exact⟨h4,h5⟩
theorem P7 {N x y:Int}{a b:Pq}(h:onW N x y a b)(hk:key a<key b)(e:x*100000+y=N*key b):x=N*b.1∧y=N*b.2:=by
 obtain⟨α,β,h1,h2,h3,h4,h5⟩:=h;have e2:x*100000+y=α*key a+β*key b:=by
  unfold key;rw [h4,h5]
  grind
 rw [e,← h3,Int.add_mul] at e2;have e3:α*(key b - key a)=0:=(by rw [Int.mul_sub];omega);have hb:α=0:=(dH e3).resolve_right (by omega);subst hb;rw [Int.zero_add] at h3;subst h3;simp only [Int.zero_mul,Int.zero_add] at h4 h5;exact⟨h4,h5⟩
theorem CN {N:Int}(hN:0<N){p q:Pq}(h1:N*p.1=N*q.1)(h2:N*p.2=N*q.2):p=q :=
 Prod.ext (Int.eq_of_mul_eq_mul_left (by omega) h1) (Int.eq_of_mul_eq_mul_left (by omega) h2)
theorem S3 {N x y α β:Int}{p q a b:Pq}(h3:α+β=N)(h4:x=α*p.1+β*q.1)(h5:y=α*p.2+β*q.2) :
  α*aP a b p+β*aP a b q=(b.1 - a.1)*(y - N*a.2) - (b.2 - a.2)*(x - N*a.1):=by
 subst h3 h4 h5;unfold aP
 grind
theorem LU {N x y:Int}{a b:Pq}(h:onW N x y a b):(b.1 - a.1)*(y - N*a.2) - (b.2 - a.2)*(x - N*a.1)=0:=by
 obtain⟨α,β,h1,h2,h3,h4,h5⟩:=h;subst h3 h4 h5
 grind
theorem SI (A B:Int):0<B7 A*B7 B↔0<A*B:=by
 unfold B7;by_cases a0:A<0
 ·by_cases b0:B<0
  ·have:=Int.mul_pos_of_neg_of_neg a0 b0;simp [a0,b0];omega
  by_cases b1:0<B
  ·have:=Int.mul_neg_of_neg_of_pos a0 b1;simp [a0,b0,b1];omega
  have:B=0:=(by omega);subst this;simp [a0]
 by_cases a1:0<A
 ·by_cases b0:B<0
  ·have:=Int.mul_neg_of_pos_of_neg a1 b0;simp [a0,a1,b0];omega
  by_cases b1:0<B
  ·have:=Int.mul_pos a1 b1;simp [a0,a1,b0,b1];omega
  have:B=0:=(by omega);subst this;simp [a0,a1]
 have:A=0:=(by omega);subst this;simp
theorem RX {γ δ A B N:Int}(h1:0≤γ)(h2:0≤δ)(h3:γ+δ=N)(hN:0<N)(h:γ*A+δ*B=0)(hp:0<A*B):False:=by
 rcases Int.lt_or_lt_of_ne (show A≠0 from fun e=>by rw [e,Int.zero_mul] at hp;omega) with hA|hA
 ·have hB:B<0:=Int.not_le.1 fun hB=>by
   have:=Int.mul_nonpos_of_nonpos_of_nonneg (show A≤0 by omega) hB;omega
  have m1:γ*A≤0:=Int.mul_nonpos_of_nonneg_of_nonpos h1 (by omega);have m2:δ*B≤0:=Int.mul_nonpos_of_nonneg_of_nonpos h2 (by omega);have g0:=(dH (show γ*A=0 by omega)).resolve_right (by omega);have d0:=(dH (show δ*B=0 by omega)).resolve_right (by omega);omega
 have hB:0<B:=Int.not_le.1 fun hB=>by
  have:=Int.mul_nonpos_of_nonneg_of_nonpos (show 0≤A by omega) hB;omega
 have m1:0≤γ*A:=Int.mul_nonneg h1 (by omega);have m2:0≤δ*B:=Int.mul_nonneg h2 (by omega);have g0:=(dH (show γ*A=0 by omega)).resolve_right (by omega);have d0:=(dH (show δ*B=0 by omega)).resolve_right (by omega);omega
theorem QU {γ δ A B N x y:Int}{p q:Pq}(h3:γ+δ=N)(hx:x=γ*p.1+δ*q.1)(hy:y=γ*p.2+δ*q.2)(h:γ*A+δ*B=0)(h0:A=0∨B=0)(hn:¬ (A=0∧B=0)):∃ z:Pq,(z=p∨z=q)∧x=N*z.1∧y=N*z.2:=by
 rcases h0 with rfl|rfl
 ·have hd:=(dH (show δ*B=0 by omega)).resolve_right (fun e=>hn ⟨rfl,e⟩);subst hd;refine⟨p,.inl rfl,?_,?_⟩
  ·rw [hx,← h3];grind
  rw [hy,← h3];grind
 have hd:=(dH (show γ*A=0 by omega)).resolve_right (fun e=>hn ⟨e,rfl⟩);subst hd;refine⟨q,.inr rfl,?_,?_⟩
 ·rw [hx,← h3];grind
 rw [hy,← h3];grind
theorem aI9 {s t:Sg}(hs:dL s=true)(ht:dL t=true)(h:gV s t=0∨gV s t=1):okP s t:=by
 intro N x y hN h1 h2;by_cases hl:aV s.1 s.2 t.1=0∧aV s.1 s.2 t.2=0
 ·obtain⟨a,b,eab,kab,esa,ra,rb⟩:=RO hs;obtain⟨c,d,ecd,kcd,esc,rc,rd⟩:=RO ht;rw [aB4 hl esa esc ra rb rc rd] at h;have o1:=(SA eab).1 h1;have o2:=(SA ecd).1 h2;obtain⟨k1,k2⟩:=aAo o1 (Int.le_of_lt kab);obtain⟨k3,k4⟩:=aAo o2 (Int.le_of_lt kcd);have i1:key a≤key d:=Int.le_of_mul_le_mul_left (Int.le_trans k1 k4) hN;have i2:key c≤key b:=Int.le_of_mul_le_mul_left (Int.le_trans k3 k2) hN;have sa:a=s.1∨a=s.2:=eab.elim (fun e=>.inl e.1) (fun e=>.inr e.1);have sb:b=s.1∨b=s.2:=eab.elim (fun e=>.inr e.2) (fun e=>.inl e.2);have tc:c=t.1∨c=t.2:=ecd.elim (fun e=>.inl e.1) (fun e=>.inr e.1);have td:d=t.1∨d=t.2:=ecd.elim (fun e=>.inr e.2) (fun e=>.inl e.2);have q:key a=key d∨key c=key b:=by
   by_cases g1:key a<key c <;> by_cases g2:key d<key b <;> simp only [g1,g2,if_true,if_false] at h <;> split at h <;> (try split at h) <;> omega
  rcases q with q|q
  ·obtain⟨x1,y1⟩:=ZW o1 kab (by rw [q] at k1 ⊢;omega);obtain⟨x2,y2⟩:=P7 o2 kcd (by rw [q] at k1;omega);have e:=CN hN (x1.symm.trans x2) (y1.symm.trans y2);exact⟨a,sa,by rw [e];exact td,x1,y1⟩
  obtain⟨x1,y1⟩:=P7 o1 kab (by rw [q] at k3;omega);obtain⟨x2,y2⟩:=ZW o2 kcd (by rw [q] at k3 ⊢;omega);have e:=CN hN (x1.symm.trans x2) (y1.symm.trans y2);exact⟨b,sb,by rw [e];exact tc,x1,y1⟩
 have hl':¬ (aV t.1 t.2 s.1=0∧aV t.1 t.2 s.2=0):=fun g=>hl (DA s t (oO ht).2.2 g);rw [gV,if_neg hl] at h;have c1:=LU h1;have c2:=LU h2;obtain⟨α,β,p1,p2,p3,p4,p5⟩:=h1;obtain⟨γ,δ,q1,q2,q3,q4,q5⟩:=h2;have m1:=S3 (a:=t.1) (b:=t.2) p3 p4 p5;have m2:=S3 (a:=s.1) (b:=s.2) q3 q4 q5;rw [c2] at m1;rw [c1] at m2;unfold QD at h;by_cases g:0<aV s.1 s.2 t.1*aV s.1 s.2 t.2∨0<aV t.1 t.2 s.1*aV t.1 t.2 s.2
 ·exfalso;rcases g with g|g
  ·exact RX q1 q2 q3 hN m2 ((SI _ _).1 g)
  exact RX p1 p2 p3 hN m1 ((SI _ _).1 g)
 rw [if_neg g] at h;by_cases g2:(aV t.1 t.2 s.1=0∨aV t.1 t.2 s.2=0)∧(aV s.1 s.2 t.1=0∨aV s.1 s.2 t.2=0)
 ·simp only [lU] at g2 hl hl';obtain⟨z,z1,z2,z3⟩:=QU p3 p4 p5 m1 g2.1 hl';obtain⟨w,w1,w2,w3⟩:=QU q3 q4 q5 m2 g2.2 hl;have e:=CN hN (z2.symm.trans w2) (z3.symm.trans w3);exact⟨z,z1,by rw [e];exact w1,z2,z3⟩
 rw [if_neg g2] at h;split at h <;> omega
def yR (A A':Int):Int:=if 0<A∧A'≤0 then 1 else 0
theorem aEA {A B A' B' C D:Int}(hD:0<D)(h:D*C=A*B' - B*A')(h0:C=0→(0<A↔0<B)∧(0<A'↔0<B')):rI A B C - rI A' B' C=yR B B' - yR A A':=by
 have k1:A≤0→0<B→A'≤0→B'≤0→0<C:=fun a b a' b'=>Int.not_le.1 fun hc=>by
  have m1:=Int.mul_nonneg_of_nonpos_of_nonpos a b';have m2:=Int.mul_nonpos_of_nonneg_of_nonpos (Int.le_of_lt b) a';have m3:=Int.mul_nonpos_of_nonneg_of_nonpos (Int.le_of_lt hD) hc;have:C=0:=(dH (show D*C=0 by omega)).resolve_left (by omega);have:=h0 this;omega
 have k2:A≤0→0<B→0<A'→0<B'→C<0:=fun a b a' b'=>Int.not_le.1 fun hc=>by
  have m1:=Int.mul_nonpos_of_nonpos_of_nonneg a (Int.le_of_lt b');have m2:=Int.mul_pos b a';have m3:=Int.mul_nonneg (Int.le_of_lt hD) hc;omega
 have k3:0<A→B≤0→A'≤0→B'≤0→C<0:=fun a b a' b'=>Int.not_le.1 fun hc=>by
  have m1:=Int.mul_nonpos_of_nonneg_of_nonpos (Int.le_of_lt a) b';have m2:=Int.mul_nonneg_of_nonpos_of_nonpos b a';have m3:=Int.mul_nonneg (Int.le_of_lt hD) hc;have:C=0:=(dH (show D*C=0 by omega)).resolve_left (by omega);have:=h0 this;omega
 have k4:0<A→B≤0→0<A'→0<B'→0<C:=fun a b a' b'=>Int.not_le.1 fun hc=>by
  have m1:=Int.mul_pos a b';have m2:=Int.mul_nonpos_of_nonpos_of_nonneg b (Int.le_of_lt a');have m3:=Int.mul_nonpos_of_nonneg_of_nonpos (Int.le_of_lt hD) hc;omega
 have k5:A≤0→B≤0→A'≤0→0<B'→C≤0:=fun a b a' b'=>Int.not_lt.1 fun hc=>by
  have m1:=Int.mul_nonpos_of_nonpos_of_nonneg a (Int.le_of_lt b');have m2:=Int.mul_nonneg_of_nonpos_of_nonpos b a';have m3:=Int.mul_pos hD hc;omega
 have k6:A≤0→B≤0→0<A'→B'≤0→0≤C:=fun a b a' b'=>Int.not_lt.1 fun hc=>by
  have m1:=Int.mul_nonneg_of_nonpos_of_nonpos a b';have m2:=Int.mul_nonpos_of_nonpos_of_nonneg b (Int.le_of_lt a');have m3:=Int.mul_neg_of_pos_of_neg hD hc;omega
 have k7:0<A→0<B→A'≤0→0<B'→0<C:=fun a b a' b'=>Int.not_le.1 fun hc=>by
  have m1:=Int.mul_pos a b';have m2:=Int.mul_nonpos_of_nonneg_of_nonpos (Int.le_of_lt b) a';have m3:=Int.mul_nonpos_of_nonneg_of_nonpos (Int.le_of_lt hD) hc;omega
 have k8:0<A→0<B→0<A'→B'≤0→C<0:=fun a b a' b'=>Int.not_le.1 fun hc=>by
  have m1:=Int.mul_nonpos_of_nonneg_of_nonpos (Int.le_of_lt a) b';have m2:=Int.mul_pos b a';have m3:=Int.mul_nonneg (Int.le_of_lt hD) hc;omega
 have k0:C=0∨C<0∨0<C:=(by omega);clear h;unfold rI yR
 by_cases a:0<A <;> by_cases b:0<B <;> by_cases a':0<A' <;> by_cases b':0<B' <;>
  simp only [a,b,a',b',← Int.not_lt,not_true_eq_false,not_false_eq_true,and_true,and_false,true_and,false_and,and_self,if_true,if_false,forall_const,true_implies,false_implies,iff_true,true_iff,iff_false,false_iff,imp_false] at*<;>
  (repeat' split) <;> omega
def V0 (N:Int)(p:Pq)(e:Pq × Pq):Prop:=¬ ∃ M:Int,0<M∧onW (M*N) (M*p.1) (M*p.2) e.1 e.2
theorem r8 {N:Int}(hN:0<N){p a b:Pq}(hoff:V0 N p (a,b))(h0:bU (vec N p a) (vec N p b)=0)(u:Pq):(0<bU u (vec N p a)↔0<bU u (vec N p b)):=by
 -- the point is beyond both,on their line
 have key:¬ (vec N p a).1*(vec N p b).1+(vec N p a).2*(vec N p b).2≤0:=fun hle=>hoff (by
  by_cases ha:vec N p a=(0,0)
  ·refine⟨1,by decide,N,0,by omega,by decide,by omega,?_,?_⟩
   ·have:=congrArg Prod.fst ha;simp only [vec] at this;simp only;omega
   have:=congrArg Prod.snd ha;simp only [vec] at this;simp only;omega
  have hpos:0<(vec N p a).1*(vec N p a).1+(vec N p a).2*(vec N p a).2:=sq_pos fun g=>ha (Prod.ext g.1 g.2);generalize hS:(vec N p a).1*(vec N p a).1+(vec N p a).2*(vec N p a).2=S at hpos;generalize hk:(vec N p a).1*(vec N p b).1+(vec N p a).2*(vec N p b).2=k at hle;refine⟨S - k,by omega,N * -k,N*S,Int.mul_nonneg (by omega) (by omega),Int.mul_nonneg (by omega) (by omega),by rw [← Int.mul_add,Int.mul_comm,Int.sub_eq_add_neg,Int.add_comm],?_,?_⟩
  ·have e1:S*(vec N p b).1=k*(vec N p a).1:=by
    rw [← hS,← hk];unfold bU at h0;clear hoff hS hk;generalize (vec N p a).1=x1 at *;generalize (vec N p a).2=x2 at *;generalize (vec N p b).1=y1 at *;generalize (vec N p b).2=y2 at *
    grind
   simp only [vec] at e1;simp only;clear hS hk hoff h0
   grind
  have e1:S*(vec N p b).2=k*(vec N p a).2:=by
   rw [← hS,← hk];unfold bU at h0;clear hoff hS hk;generalize (vec N p a).1=x1 at *;generalize (vec N p a).2=x2 at *;generalize (vec N p b).1=y1 at *;generalize (vec N p b).2=y2 at *
   grind
  simp only [vec] at e1;simp only;clear hS hk hoff h0
  grind)
 have hk:0<(vec N p a).1*(vec N p b).1+(vec N p a).2*(vec N p b).2:=(by omega);generalize vec N p a=x at *;generalize vec N p b=y at *;have e:(x.1*y.1+x.2*y.2)*bU u x=(x.1*x.1+x.2*x.2)*bU u y:=by
  unfold bU at *;clear key hk
  grind
 have hx:0<x.1*x.1+x.2*x.2:=sq_pos fun g=>(by rw [g.1,g.2] at hk;simp at hk);constructor
 ·intro h;have:=Int.mul_pos hk h;exact Int.not_le.1 fun g=>by
   have:=Int.mul_nonpos_of_nonneg_of_nonpos (Int.le_of_lt hx) g;omega
 intro h;have:=Int.mul_pos hx h;exact Int.not_le.1 fun g=>by
  have:=Int.mul_nonpos_of_nonneg_of_nonpos (Int.le_of_lt hk) g;omega
def Cs (G:List (Pq × Pq))(c f:Pq × Pq→Int):Int:=mB (fun e=>c e*f e) G
def JR (G:List (Pq × Pq))(c:Pq × Pq→Int):Prop:=∀ g:Pq→Int,Cs G c (fun e=>g e.2 - g e.1)=0
structure Gr (G:List (Pq × Pq)):Prop where
 ne:∀ e∈G,e.1≠e.2
 ok:∀ e∈G,∀ f∈G,e≠f→okP e f
 nd:G.Nodup
def Ad (G:List (Pq × Pq))(u v:Pq):Prop:=(u,v)∈G∨(v,u)∈G
theorem tI {f g:Pq × Pq→Int}:∀ {L:List (Pq × Pq)},(∀ e∈L,f e=g e)→mB f L=mB g L
 |[],_=>rfl
 |e::r,h=>by
  rw [mB,mB,h e (.head _),tI fun x hx=>h x (.tail _ hx)]
theorem QF (f g:Pq × Pq→Int):∀ (L:List (Pq × Pq)),mB (fun e=>f e+g e) L=mB f L+mB g L
 |[]=>rfl
 |e::r=>by
  rw [mB,mB,mB,QF f g r];omega
theorem RN (f g:Pq × Pq→Int):∀ (L:List (Pq × Pq)),mB (fun e=>f e - g e) L=mB f L - mB g L
 |[]=>rfl
 |e::r=>by
  rw [mB,mB,mB,RN f g r];omega
theorem iP {G:List (Pq × Pq)}{c f g:Pq × Pq→Int}(h:∀ e∈G,c e≠0→f e=g e):Cs G c f=Cs G c g :=
 tI fun e he=>by
  by_cases h0:c e=0
  ·rw [h0,Int.zero_mul,Int.zero_mul]
  rw [h e he h0]
theorem T2 (G:List (Pq × Pq))(c f g:Pq × Pq→Int):Cs G c (fun e=>f e+g e)=Cs G c f+Cs G c g:=by
 unfold Cs;rw [← QF];exact tI fun e _=>Int.mul_add _ _ _
theorem I3 (G:List (Pq × Pq))(c f g:Pq × Pq→Int):Cs G c (fun e=>f e - g e)=Cs G c f - Cs G c g:=by
 unfold Cs;rw [← RN];exact tI fun e _=>Int.mul_sub _ _ _
theorem aH4 {G:List (Pq × Pq)}{c f:Pq × Pq→Int}(h:∀ e∈G,c e≠0→f e=0):Cs G c f=0:=by
 have:Cs G c f=Cs G c (fun _=>0):=iP h;rw [this];unfold Cs
 induction G with
 |nil=>rfl
 |cons e r ih =>
  rw [mB,Int.mul_zero,Int.zero_add];exact ih (fun e he=>h e (.tail _ he)) (iP fun e he=>h e (.tail _ he))
theorem aFm {G:List (Pq × Pq)}(hG:Gr G){u v:Pq}(hd:Ad G u v){e:Pq × Pq}(he:e∈G)(h1:e≠(u,v))(h2:e≠(v,u)):okP e (u,v):=by
 rcases hd with hd|hd
 ·exact hG.ok e he _ hd h1
 exact ID (YC (ID (hG.ok e he _ hd h2)))
theorem Ad.ne {G:List (Pq × Pq)}(hG:Gr G){u v:Pq}(hd:Ad G u v):u≠v:=hd.elim (fun h=>hG.ne _ h) (fun h=>fun e=>hG.ne _ h e.symm)
def dd (u v:Pq):Pq:=(v.1 - u.1,v.2 - u.2)
def lam (D v z:Pq):Int:=if 0<bU D (vec 1 v z) then 1 else 0
theorem xH (D v:Pq):bU D (vec 1 v v)=0:=by unfold bU vec;simp only;grind
theorem aDq (v z:Pq):bU (vec 1 v v) (vec 1 v z)=0:=by unfold bU vec;simp only;grind
theorem aEI (v z:Pq):bU (vec 1 v z) (vec 1 v v)=0:=by unfold bU vec;simp only;grind
theorem MD {G:List (Pq × Pq)}(hG:Gr G){u v:Pq}(hd:Ad G u v){e:Pq × Pq}(he:e∈G) :
  wn (dd u v) 1 u e=wn (dd u v) 1 v e+((if e.1=v then lam (dd u v) v e.2 else 0) - (if e.2=v then lam (dd u v) v e.1 else 0)):=by
 obtain⟨y,z⟩:=e;have hyz:y≠z:=hG.ne _ he;have huv:=hd.ne hG;have S1:∀ x:Pq,bU (dd u v) (vec 1 u x)=bU (dd u v) (vec 1 v x):=fun x=>(by unfold bU dd vec;simp only;grind);have hal:bU (vec 1 u y) (vec 1 u z)=bU (vec 1 v y) (vec 1 v z)+bU (dd u v) (vec 1 v z) - bU (dd u v) (vec 1 v y):=(by unfold bU dd vec;simp only;grind);have Su:bU (dd u v) (vec 1 v u)=0:=(by unfold bU dd vec;simp only;grind);have au1:bU (vec 1 v u) (vec 1 v z) = -bU (dd u v) (vec 1 v z):=(by unfold bU dd vec;simp only;grind);have au2:bU (vec 1 v y) (vec 1 v u)=bU (dd u v) (vec 1 v y):=(by unfold bU dd vec;simp only;grind);unfold wn;simp only;rw [S1,S1,hal];by_cases h1:y=v
 ·subst h1;rw [if_pos rfl,if_neg (fun e=>hyz e.symm),xH,aDq];unfold rI lam;simp only [Int.le_refl,true_and,Int.zero_add,Int.sub_zero,Int.lt_irrefl,if_false,false_and];by_cases hp:0<bU (dd u y) (vec 1 y z)
  ·simp only [if_pos hp];omega
  simp only [if_neg hp];omega
 by_cases h2:z=v
 ·subst h2;rw [if_pos rfl,if_neg h1,xH,aEI];unfold rI lam;simp only [Int.le_refl,and_true,Int.zero_add,Int.lt_irrefl,and_false,if_false];by_cases hp:0<bU (dd u z) (vec 1 z y)
  ·simp only [if_pos hp];rw [if_pos (by omega)];omega
  simp only [if_neg hp];omega
 rw [if_neg h1,if_neg h2];by_cases h3:y=u
 ·subst h3;rw [Su,au1];unfold rI;split
  ·rw [if_neg (by omega),if_neg (by omega)];omega
  split <;> omega
 by_cases h4:z=u
 ·subst h4;rw [Su,au2];unfold rI;split
  ·omega
  split
  ·rw [if_neg (by omega),if_neg (by omega)];omega
  omega
 -- a side that meets the edge nowhere
 have hok:=aFm hG hd he (fun e=>h3 (congrArg Prod.fst e)) (fun e=>h1 (congrArg Prod.fst e));have hid1:bU (dd u v) (vec 1 v z)*(vec 1 v y).1 - bU (dd u v) (vec 1 v y)*(vec 1 v z).1=bU (vec 1 v y) (vec 1 v z)*(dd u v).1:=(by unfold bU;grind);have hid2:bU (dd u v) (vec 1 v z)*(vec 1 v y).2 - bU (dd u v) (vec 1 v y)*(vec 1 v z).2=bU (vec 1 v y) (vec 1 v z)*(dd u v).2:=(by unfold bU;grind);generalize bU (dd u v) (vec 1 v y)=A at *;generalize bU (dd u v) (vec 1 v z)=B at *;generalize bU (vec 1 v y) (vec 1 v z)=α at *;have key:∀ M k1 k2:Int,0<M→0≤k1→0≤k2→k1+k2=M→0≤k1*0+M+α*0→True:=fun _ _ _ _ _ _ _ _=>trivial;have up:¬ (A≤0∧0<B∧α≤0∧0<α+B - A):=fun ⟨a1,a2,a3,a4⟩=>by
  obtain⟨w,w1,w2,-⟩:=hok (B - A) (B*y.1+(-A)*z.1) (B*y.2+(-A)*z.2) (by omega)
   ⟨B,-A,by omega,by omega,by omega,rfl,rfl⟩
   ⟨-α,(B - A)+α,by omega,by omega,by omega,by
    show _ = -α*u.1+(B - A+α)*v.1;unfold vec dd at hid1;simp only at hid1;clear hok key;grind,by
    show _ = -α*u.2+(B - A+α)*v.2;unfold vec dd at hid2;simp only at hid2;clear hok key;grind⟩
  simp only at w1 w2;rcases w1 with w1|w1 <;> rcases w2 with w2|w2
  ·exact h3 (w1.symm.trans w2)
  ·exact h1 (w1.symm.trans w2)
  ·exact h4 (w1.symm.trans w2)
  exact h2 (w1.symm.trans w2)
 have dn:¬ (0<A∧B≤0∧0≤α∧α+B - A<0):=fun ⟨a1,a2,a3,a4⟩=>by
  obtain⟨w,w1,w2,-⟩:=hok (A - B) ((-B)*y.1+A*z.1) ((-B)*y.2+A*z.2) (by omega)
   ⟨-B,A,by omega,by omega,by omega,rfl,rfl⟩
   ⟨α,(A - B) - α,by omega,by omega,by omega,by
    show _=α*u.1+(A - B - α)*v.1;unfold vec dd at hid1;simp only at hid1;clear hok key;grind,by
    show _=α*u.2+(A - B - α)*v.2;unfold vec dd at hid2;simp only at hid2;clear hok key;grind⟩
  simp only at w1 w2;rcases w1 with w1|w1 <;> rcases w2 with w2|w2
  ·exact h3 (w1.symm.trans w2)
  ·exact h1 (w1.symm.trans w2)
  ·exact h4 (w1.symm.trans w2)
  exact h2 (w1.symm.trans w2)
 unfold rI
 (repeat' split) <;> omega
def K8 (U U' v z:Pq):Int:=yR (bU U (vec 1 v z)) (bU U' (vec 1 v z))
theorem aB8 {G:List (Pq × Pq)}(hG:Gr G){u v:Pq}(hd:Ad G u v){U U':Pq}(hD:0<bU U U'){e:Pq × Pq}(he:e∈G) :
  wn U 1 v e - wn U' 1 v e=(K8 U U' v e.2 - K8 U U' v e.1) - ((if e.1=v then K8 U U' v e.2 else 0) - (if e.2=v then K8 U U' v e.1 else 0)):=by
 obtain⟨y,z⟩:=e;have hyz:y≠z:=hG.ne _ he;unfold wn;simp only;have c0:K8 U U' v v=0:=(by unfold K8;rw [xH,xH];rfl);have r0:∀ A B:Int,rI A B 0=0:=fun A B=>(by unfold rI;(repeat' split) <;> omega);by_cases h1:y=v
 ·subst h1;rw [if_pos rfl,if_neg (fun e=>hyz e.symm),c0,aDq,r0,r0];omega
 by_cases h2:z=v
 ·subst h2;rw [if_pos rfl,if_neg h1,c0,aEI,r0,r0];omega
 rw [if_neg h1,if_neg h2];have hoff:V0 1 v (y,z):=fun ⟨M,hM,ho⟩=>by
  rw [Int.mul_one] at ho;have hok:=aFm hG hd he (fun e=>h2 (congrArg Prod.snd e)) (fun e=>h1 (congrArg Prod.fst e));obtain⟨w,w1,w2,w3,w4⟩:=hok M (M*v.1) (M*v.2) hM ho ⟨0,M,by decide,by omega,by omega,by show _=0*u.1+M*v.1;omega,by show _=0*u.2+M*v.2;omega⟩;have e1:=Int.eq_of_mul_eq_mul_left (show M≠0 by omega) w3;have e2:=Int.eq_of_mul_eq_mul_left (show M≠0 by omega) w4;have:v=w:=Prod.ext e1 e2;rcases w1 with w1|w1
  ·exact h1 (by rw [this];exact w1.symm)
  exact h2 (by rw [this];exact w1.symm)
 have:=aEA (A:=bU U (vec 1 v y)) (B:=bU U (vec 1 v z)) (A':=bU U' (vec 1 v y)) (B':=bU U' (vec 1 v z)) (C:=bU (vec 1 v y) (vec 1 v z)) hD (by unfold bU;grind) fun hc=>⟨r8 (by decide) hoff hc U,r8 (by decide) hoff hc U'⟩;unfold K8;omega
variable {G:List (Pq × Pq)}{c:Pq × Pq→Int}
def At (G:List (Pq × Pq))(c:Pq × Pq→Int)(v:Pq)(h:Pq→Int):Int:=Cs G c (fun e=>(if e.1=v then h e.2 else 0) - (if e.2=v then h e.1 else 0))
theorem pG {v:Pq}{h k:Pq→Int}(hh:∀ z,Ad G v z→h z=k z):At G c v h=At G c v k:=by
 unfold At;refine iP fun e he _=>?_;by_cases h1:e.1=v
 ·have:Ad G v e.2:=.inl (by rw [← h1];exact he);by_cases h2:e.2=v
  ·have h3:Ad G v e.1:=.inr (by rw [← h2];exact he);simp only [if_pos h1,if_pos h2,hh _ this,hh _ h3]
  simp only [if_pos h1,if_neg h2,hh _ this]
 by_cases h2:e.2=v
 ·have h3:Ad G v e.1:=.inr (by rw [← h2];exact he);simp only [if_neg h1,if_pos h2,hh _ h3]
 simp only [if_neg h1,if_neg h2]
theorem v8 {v:Pq}(hc:JR G c)(k:Int):At G c v (fun _=>k)=0:=by
 have:=hc (fun z=>if z=v then -k else 0);have h2:At G c v (fun _=>k)=Cs G c (fun e=>(if e.2=v then -k else 0) - (if e.1=v then -k else 0)):=by
  unfold At;refine iP fun e _ _=>?_;by_cases h1:e.1=v <;> by_cases h2:e.2=v <;> simp [h1,h2]
 rw [h2];exact this
theorem aLl {v:Pq}{h k:Pq→Int}:At G c v (fun z=>h z - k z)=At G c v h - At G c v k:=by
 unfold At;rw [← I3];refine iP fun e _ _=>?_;by_cases h1:e.1=v <;> by_cases h2:e.2=v <;> simp [h1,h2] <;> omega
theorem aLU {v:Pq}{h k:Pq→Int}:At G c v (fun z=>h z+k z)=At G c v h+At G c v k:=by
 unfold At;rw [← T2];refine iP fun e _ _=>?_;by_cases h1:e.1=v <;> by_cases h2:e.2=v <;> simp [h1,h2] <;> omega
def Wd (G:List (Pq × Pq))(c:Pq × Pq→Int)(U v:Pq):Int:=Cs G c (wn U 1 v)
theorem QA (hG:Gr G){u v:Pq}(hd:Ad G u v):Wd G c (dd u v) u=Wd G c (dd u v) v+At G c v (lam (dd u v) v):=by
 unfold Wd At;rw [← T2];exact iP fun e he _=>MD hG hd he
theorem rV (hG:Gr G)(hc:JR G c){u v:Pq}(hd:Ad G u v){U U':Pq}(hD:0<bU U U'):Wd G c U v=Wd G c U' v - At G c v (K8 U U' v):=by
 have h1:Cs G c (fun e=>wn U 1 v e - wn U' 1 v e)=Cs G c (fun e=>(K8 U U' v e.2 - K8 U U' v e.1) - ((if e.1=v then K8 U U' v e.2 else 0) - (if e.2=v then K8 U U' v e.1 else 0))):=iP fun e he _=>aB8 hG hd hD he;rw [I3,I3,hc (K8 U U' v)] at h1;unfold Wd At;omega
theorem Ad.symm {u v:Pq}(h:Ad G u v):Ad G v u:=h.elim .inr .inl
theorem aNN (hG:Gr G){u v y z:Pq}(h1:Ad G y z)(h2:Ad G u v)(n1:(y,z)≠(u,v))(n2:(y,z)≠(v,u)):okP (y,z) (u,v):=by
 rcases h1 with h1|h1
 ·exact aFm hG h2 h1 n1 n2
 refine YC (e:=(z,y)) (aFm hG h2 h1 (fun e=>n2 ?_) (fun e=>n1 ?_))
 ·injection e with e1 e2;rw [e1,e2]
 injection e with e1 e2;rw [e1,e2]
theorem PA (hG:Gr G){u v z:Pq}(hz:Ad G v z)(hu:Ad G v u)(hzu:z≠u)(h0:bU (dd u v) (vec 1 v z)=0)(h1:0<(u.1 - v.1)*(z.1 - v.1)+(u.2 - v.2)*(z.2 - v.2)):False:=by
 have hvz:=hz.ne hG;have hvu:=hu.ne hG;have hok:=aNN hG hz hu (fun e=>hzu (congrArg Prod.snd e)) (fun e=>hvu (congrArg Prod.fst e));have hS:=sq_pos (x:=u.1 - v.1) (y:=u.2 - v.2) fun g=>hvu (Prod.ext (by omega) (by omega));have e1:((u.1 - v.1)*(u.1 - v.1)+(u.2 - v.2)*(u.2 - v.2))*(z.1 - v.1)=((u.1 - v.1)*(z.1 - v.1)+(u.2 - v.2)*(z.2 - v.2))*(u.1 - v.1):=by
  unfold bU dd vec at h0;simp only at h0;clear hok hS h1;grind
 have e2:((u.1 - v.1)*(u.1 - v.1)+(u.2 - v.2)*(u.2 - v.2))*(z.2 - v.2)=((u.1 - v.1)*(z.1 - v.1)+(u.2 - v.2)*(z.2 - v.2))*(u.2 - v.2):=by
  unfold bU dd vec at h0;simp only at h0;clear hok hS h1;grind
 generalize (u.1 - v.1)*(u.1 - v.1)+(u.2 - v.2)*(u.2 - v.2)=S at *;generalize (u.1 - v.1)*(z.1 - v.1)+(u.2 - v.2)*(z.2 - v.2)=k at *;rcases Int.le_total k S with g|g
 ·obtain⟨w,w1,w2,w3,w4⟩:=hok S (S*z.1) (S*z.2) hS ⟨0,S,by decide,by omega,by omega,by show _=0*v.1+S*z.1;omega,by show _=0*v.2+S*z.2;omega⟩
   (XL (w:=v) (a:=z) (b:=u) (k:=k) (by omega) g e1 e2)
  have f1:=Int.eq_of_mul_eq_mul_left (show S≠0 by omega) w3;have f2:=Int.eq_of_mul_eq_mul_left (show S≠0 by omega) w4;have:z=w:=Prod.ext f1 f2;rcases w2 with w2|w2
  ·exact hvz (w2.symm.trans this.symm)
  exact hzu (this.trans w2)
 obtain⟨w,w1,w2,w3,w4⟩:=hok k (k*u.1) (k*u.2) h1 (XL (w:=v) (a:=u) (b:=z) (k:=S) (by omega) g e1.symm e2.symm)
  ⟨0,k,by decide,by omega,by omega,by show _=0*v.1+k*u.1;omega,by show _=0*v.2+k*u.2;omega⟩
 have f1:=Int.eq_of_mul_eq_mul_left (show k≠0 by omega) w3;have f2:=Int.eq_of_mul_eq_mul_left (show k≠0 by omega) w4;have:u=w:=Prod.ext f1 f2;rcases w1 with w1|w1
 ·exact hvu (w1.symm.trans this.symm)
 exact hzu (w1.symm.trans this.symm)
def Ld (G:List (Pq × Pq))(c:Pq × Pq→Int)(u v:Pq):Int:=Wd G c (dd u v) u
theorem XC (hG:Gr G)(hc:JR G c){u v:Pq}(hd:Ad G u v):Ld G c u v - Ld G c v u=Cs G c (fun e=>(if e=(u,v) then 1 else 0) - (if e=(v,u) then 1 else 0)):=by
 have huv:=hd.ne hG;have hp:=sq_pos (x:=v.1 - u.1) (y:=v.2 - u.2) fun g=>huv (Prod.ext (by omega) (by omega));have h1:=QA (c:=c) hG hd;have h2:=rV (c:=c) hG hc hd (U:=dd u v) (U':=(-(dd u v).2,(dd u v).1)) (by
  have:bU (dd u v) (-(dd u v).2,(dd u v).1)=(v.1 - u.1)*(v.1 - u.1)+(v.2 - u.2)*(v.2 - u.2):=(by unfold bU dd;simp only;grind);omega)
 have h3:=rV (c:=c) hG hc hd (U:=(-(dd u v).2,(dd u v).1)) (U':=dd v u) (by
  have:bU (-(dd u v).2,(dd u v).1) (dd v u)=(v.1 - u.1)*(v.1 - u.1)+(v.2 - u.2)*(v.2 - u.2):=(by unfold bU dd;simp only;grind);omega)
 have h4:At G c v (K8 (dd u v) (-(dd u v).2,(dd u v).1) v)+At G c v (K8 (-(dd u v).2,(dd u v).1) (dd v u) v) - At G c v (lam (dd u v) v)=At G c v (fun z=>if z=u then 1 else 0):=by
  rw [← aLU,← aLl];refine pG fun z hz=>?_;have hzv:v≠z:=hz.ne hG;have e1:bU (dd v u) (vec 1 v z) = -bU (dd u v) (vec 1 v z):=by unfold bU dd vec;simp only;grind
  -- only u lies straight back
  have back:bU (dd u v) (vec 1 v z)=0→0<bU (-(dd u v).2,(dd u v).1) (vec 1 v z)→z=u:=fun g0 g1=>Classical.byContradiction fun hzu=>by
   exact PA hG hz hd.symm hzu g0 (by
    have:bU (-(dd u v).2,(dd u v).1) (vec 1 v z)=(u.1 - v.1)*(z.1 - v.1)+(u.2 - v.2)*(z.2 - v.2):=(by unfold bU dd vec;simp only;grind);omega)
  have only:z=u→bU (dd u v) (vec 1 v z)=0∧0<bU (-(dd u v).2,(dd u v).1) (vec 1 v z):=fun g=>by
   subst g;have t1:bU (dd z v) (vec 1 v z)=0:=(by unfold bU dd vec;simp only;grind);have t2:bU (-(dd z v).2,(dd z v).1) (vec 1 v z)=(v.1 - z.1)*(v.1 - z.1)+(v.2 - z.2)*(v.2 - z.2):=(by unfold bU dd vec;simp only;grind);exact⟨t1,by omega⟩
  unfold K8 yR lam;rw [e1];generalize bU (dd u v) (vec 1 v z)=A at *;generalize bU (-(dd u v).2,(dd u v).1) (vec 1 v z)=B at *;by_cases hzu:z=u
  ·obtain⟨a,b⟩:=only hzu;rw [if_pos hzu]
   (repeat' split) <;> omega
  have:¬ (A=0∧0<B):=fun g=>hzu (back g.1 g.2);rw [if_neg hzu]
  (repeat' split) <;> omega
 have h5:At G c v (fun z=>if z=u then 1 else 0) = -Cs G c (fun e=>(if e=(u,v) then 1 else 0) - (if e=(v,u) then 1 else 0)):=by
  have:Cs G c (fun e=>(if e=(u,v) then (1:Int) else 0) - (if e=(v,u) then 1 else 0))+At G c v (fun z=>if z=u then 1 else 0)=0:=by
   unfold At;rw [← T2];refine aH4 fun e _ _=>?_;obtain⟨y,z⟩:=e;simp only [Prod.mk.injEq]
   by_cases a1:y=u <;> by_cases a2:y=v <;> by_cases a3:z=u <;> by_cases a4:z=v <;> first
    |exact absurd (a1.symm.trans a2) huv
    |exact absurd (a3.symm.trans a4) huv
    |simp [a1,a2,a3,a4,huv,Ne.symm huv]
  omega
 unfold Ld;omega
def rkP (v u w:Pq):Int:=if aP v u w<0 then 0 else if 0<aP v u w then 2 else if (u.1 - v.1)*(w.1 - v.1)+(u.2 - v.2)*(w.2 - v.2)<0 then 1 else 3
def Z9 (v u z w:Pq):Prop:=rkP v u z<rkP v u w∨rkP v u z=rkP v u w∧aP v z w<0
theorem aFf {U U':Pq}{k l:Int}(hk:0<k)(hl:0<l)(h1:k*U.1=l*U'.1)(h2:k*U.2=l*U'.2)(N:Int)(p:Pq)(e:Pq × Pq):wn U N p e=wn U' N p e:=by
 have s:∀ x:Pq,(0<bU U x↔0<bU U' x):=fun x=>by
  have e:k*bU U x=l*bU U' x:=by
   unfold bU
   grind
  constructor
  ·intro h;have:=Int.mul_pos hk h;exact Int.not_le.1 fun g=>by
    have:=Int.mul_nonpos_of_nonneg_of_nonpos (Int.le_of_lt hl) g;omega
  intro h;have:=Int.mul_pos hl h;exact Int.not_le.1 fun g=>by
   have:=Int.mul_nonpos_of_nonneg_of_nonpos (Int.le_of_lt hk) g;omega
 have s1:=s (vec N p e.1);have s2:=s (vec N p e.2);unfold wn rI
 (repeat' split) <;> omega
theorem aA9 (hG:Gr G)(hc:JR G c){u v w:Pq}(hd:Ad G u v)(hw:Ad G v w)(hmin:∀ z,Ad G v z→¬ Z9 v u z w):Ld G c u v=Ld G c v w:=by
 have huv:=hd.ne hG;have hvw:=hw.ne hG;have h1:=QA (c:=c) hG hd;have cz:∀ z:Pq,aP v u z = -bU (dd u v) (vec 1 v z):=fun z=>(by unfold aP bU dd vec;simp only;grind);have cw:∀ z:Pq,aP v z w = -bU (dd v w) (vec 1 v z):=fun z=>(by unfold aP bU dd vec;simp only;grind);have dnn:bU (dd u v) (dd v w)=bU (dd u v) (vec 1 v w):=(by unfold bU dd vec;simp only;grind);have hm:∀ z,Ad G v z→¬ (rkP v u z<rkP v u w)∧¬ (rkP v u z=rkP v u w∧0<bU (dd v w) (vec 1 v z)):=fun z hz=>⟨fun g=>hmin z hz (.inl g),fun g=>hmin z hz (.inr ⟨g.1,by rw [cw];omega⟩)⟩;have rk0:∀ z,rkP v u z=if 0<bU (dd u v) (vec 1 v z) then 0 else if bU (dd u v) (vec 1 v z)<0 then 2 else if (u.1 - v.1)*(z.1 - v.1)+(u.2 - v.2)*(z.2 - v.2)<0 then 1 else 3:=fun z=>by
  unfold rkP;rw [cz];by_cases a:0<bU (dd u v) (vec 1 v z)
  ·rw [if_pos (by omega),if_pos a]
  rw [if_neg (by omega),if_neg a];by_cases b:bU (dd u v) (vec 1 v z)<0
  ·rw [if_pos (by omega),if_pos b]
  rw [if_neg (by omega),if_neg b]
 unfold Ld;rw [h1];rcases Int.lt_trichotomy (bU (dd u v) (vec 1 v w)) 0 with hs|hs|hs
 ·-- to the right
  have rw2:rkP v u w=2:=(by rw [rk0,if_neg (by omega),if_pos hs]);have l0:At G c v (lam (dd u v) v)=0:=by
   rw [← v8 (v:=v) hc 0];refine pG fun z hz=>?_;unfold lam;refine if_neg fun g=>(hm z hz).1 ?_;rw [rw2,rk0,if_pos g];decide
  have h2:=rV (c:=c) hG hc hd (U:=dd v w) (U':=dd u v) (by rw [aGR,dnn];omega);have x0:At G c v (K8 (dd v w) (dd u v) v)=0:=by
   rw [← v8 (v:=v) hc 0];refine pG fun z hz=>?_;unfold K8 yR;refine if_neg fun ⟨g1,g2⟩=>?_;rcases Int.lt_or_eq_of_le g2 with g3|g3
   ·exact (hm z hz).2 ⟨by rw [rw2,rk0,if_neg (by omega),if_pos g3],g1⟩
   -- straight on,or straight back
   have hzv:=hz.ne hG;by_cases hb:(u.1 - v.1)*(z.1 - v.1)+(u.2 - v.2)*(z.2 - v.2)<0
   ·exact (hm z hz).1 (by rw [rw2,rk0,if_neg (by omega),if_neg (by omega),if_pos hb];decide)
   -- z is u
   have hk:0≤(u.1 - v.1)*(z.1 - v.1)+(u.2 - v.2)*(z.2 - v.2):=(by omega);have hS:=sq_pos (x:=u.1 - v.1) (y:=u.2 - v.2) fun g=>huv (Prod.ext (by omega) (by omega));have e1:((u.1 - v.1)*(u.1 - v.1)+(u.2 - v.2)*(u.2 - v.2))*bU (dd v w) (vec 1 v z)=((u.1 - v.1)*(z.1 - v.1)+(u.2 - v.2)*(z.2 - v.2))*bU (dd u v) (vec 1 v w):=by
    unfold bU dd vec at g3 ⊢;simp only at g3 ⊢;clear h1 h2 l0 hm hmin hs hS hk hb g1 g2;grind
   have m1:=Int.mul_pos hS g1;have m2:=Int.mul_nonpos_of_nonneg_of_nonpos hk (Int.le_of_lt hs);omega
  omega
 ·-- straight on,or back
  have l0:At G c v (lam (dd u v) v)=0:=by
   by_cases hb:(u.1 - v.1)*(w.1 - v.1)+(u.2 - v.2)*(w.2 - v.2)<0
   ·rw [← v8 (v:=v) hc 0];refine pG fun z hz=>?_;unfold lam;refine if_neg fun g=>(hm z hz).1 ?_;rw [rk0 z,if_pos g,rk0 w,if_neg (by omega),if_neg (by omega),if_pos hb];decide
   rw [← v8 (v:=v) hc 0];refine pG fun z hz=>?_;unfold lam;refine if_neg fun g=>(hm z hz).1 ?_;rw [rk0 z,if_pos g,rk0 w,if_neg (by omega),if_neg (by omega),if_neg hb];decide
  have hS:=sq_pos (x:=u.1 - v.1) (y:=u.2 - v.2) fun g=>huv (Prod.ext (by omega) (by omega));have hT:=sq_pos (x:=w.1 - v.1) (y:=w.2 - v.2) fun g=>hvw (Prod.ext (by omega) (by omega));by_cases hb:(u.1 - v.1)*(w.1 - v.1)+(u.2 - v.2)*(w.2 - v.2)<0
  ·have:Wd G c (dd u v) v=Wd G c (dd v w) v:=by
    unfold Wd;refine iP fun e _ _=>aFf (k:=-((u.1 - v.1)*(w.1 - v.1)+(u.2 - v.2)*(w.2 - v.2))) (l:=(u.1 - v.1)*(u.1 - v.1)+(u.2 - v.2)*(u.2 - v.2)) (by omega) hS ?_ ?_ 1 v e
    ·unfold bU dd vec at hs;simp only at hs;unfold dd;simp only;clear h1 l0 hm hmin hb;grind
    unfold bU dd vec at hs;simp only at hs;unfold dd;simp only;clear h1 l0 hm hmin hb;grind
   omega
  -- the way back alone
  have hwu:w=u:=Classical.byContradiction fun hne=>by
   by_cases hz:0<(u.1 - v.1)*(w.1 - v.1)+(u.2 - v.2)*(w.2 - v.2)
   ·exact PA hG hw hd.symm hne hs hz
   have h0:(u.1 - v.1)*(w.1 - v.1)+(u.2 - v.2)*(w.2 - v.2)=0:=(by omega);have e1:((u.1 - v.1)*(u.1 - v.1)+(u.2 - v.2)*(u.2 - v.2))*(w.1 - v.1)=0:=(by unfold bU dd vec at hs;simp only at hs;clear h1 l0 hm hmin hb hS hT hz;grind);have e2:((u.1 - v.1)*(u.1 - v.1)+(u.2 - v.2)*(u.2 - v.2))*(w.2 - v.2)=0:=(by unfold bU dd vec at hs;simp only at hs;clear h1 l0 hm hmin hb hS hT hz e1;grind);have f1:=(dH e1).resolve_left (by omega);have f2:=(dH e2).resolve_left (by omega);exact hvw (Prod.ext (by omega) (by omega))
  subst hwu;have hall:∀ z,Ad G v z→z=w:=fun z hz=>by
   have hzv:=hz.ne hG;have r3:rkP v w w=3:=(by rw [rk0,if_neg (by omega),if_neg (by omega),if_neg hb]);have:=(hm z hz).1;rw [r3,rk0] at this;by_cases a:0<bU (dd w v) (vec 1 v z)
   ·rw [if_pos a] at this;omega
   rw [if_neg a] at this;by_cases b:bU (dd w v) (vec 1 v z)<0
   ·rw [if_pos b] at this;omega
   rw [if_neg b] at this;by_cases d:(w.1 - v.1)*(z.1 - v.1)+(w.2 - v.2)*(z.2 - v.2)<0
   ·rw [if_pos d] at this;omega
   refine Classical.byContradiction fun hne=>?_;have g0:bU (dd w v) (vec 1 v z)=0:=(by omega);by_cases hz0:0<(w.1 - v.1)*(z.1 - v.1)+(w.2 - v.2)*(z.2 - v.2)
   ·exact PA hG hz hd.symm hne g0 hz0
   have h0:(w.1 - v.1)*(z.1 - v.1)+(w.2 - v.2)*(z.2 - v.2)=0:=(by omega);have e1:((w.1 - v.1)*(w.1 - v.1)+(w.2 - v.2)*(w.2 - v.2))*(z.1 - v.1)=0:=(by unfold bU dd vec at g0;simp only at g0;clear h1 l0 hm hmin hb hS hT hz0 this hs;grind);have e2:((w.1 - v.1)*(w.1 - v.1)+(w.2 - v.2)*(w.2 - v.2))*(z.2 - v.2)=0:=(by unfold bU dd vec at g0;simp only at g0;clear h1 l0 hm hmin hb hS hT hz0 this e1 hs;grind);have f1:=(dH e1).resolve_left (by omega);have f2:=(dH e2).resolve_left (by omega);exact hzv (Prod.ext (by omega) (by omega))
  have kV:∀ h:Pq→Int,At G c v h=0:=fun h=>by
   rw [← v8 (v:=v) hc (h w)];exact pG fun z hz=>by rw [hall z hz]
  have h2:=rV (c:=c) hG hc hd (U:=dd w v) (U':=(-(dd w v).2,(dd w v).1)) (by
   have:bU (dd w v) (-(dd w v).2,(dd w v).1)=(w.1 - v.1)*(w.1 - v.1)+(w.2 - v.2)*(w.2 - v.2):=(by unfold bU dd;simp only;grind);omega)
  have h3:=rV (c:=c) hG hc hd (U:=(-(dd w v).2,(dd w v).1)) (U':=dd v w) (by
   have:bU (-(dd w v).2,(dd w v).1) (dd v w)=(w.1 - v.1)*(w.1 - v.1)+(w.2 - v.2)*(w.2 - v.2):=(by unfold bU dd;simp only;grind);omega)
  rw [kV] at h2 h3;rw [kV];omega
 -- to the left
 have rw0:rkP v u w=0:=(by rw [rk0,if_pos hs]);have h2:=rV (c:=c) hG hc hd (U:=dd u v) (U':=dd v w) (by rw [dnn];exact hs);have x0:At G c v (K8 (dd u v) (dd v w) v)=At G c v (lam (dd u v) v):=by
  refine pG fun z hz=>?_;unfold K8 yR lam;by_cases g:0<bU (dd u v) (vec 1 v z)
  ·rw [if_pos g,if_pos ⟨g,Int.not_lt.1 fun g2=>(hm z hz).2 ⟨by rw [rw0,rk0,if_pos g],g2⟩⟩]
  rw [if_neg g,if_neg (fun h=>g h.1)]
 omega
end Go.Aw
end
