/-
  FacesEdges returns true, for every map and all numbers. No condition.
-/
import Derived.Test.YtjahkcbdecgbhaaGreatQAu
import Derived.Test.YtjahkcbdecgbhaaGreatQBa
import Derived.Test.YtjahkcbdecgbhaaGreatQBw
import Derived.Test.YtjahkcbdecgbhaaGreatQBx
import Derived.Test.YtjahkcbdecgbhaaGreatQBy
import Derived.Carry
set_option linter.unusedSimpArgs false
set_option linter.unusedVariables false
noncomputable section
namespace Go.Aw
set_option maxRecDepth 100000
set_option maxHeartbeats 2000000
def LI (m:List Ed)(i:Int):Bool:=decide (0≤i)&&decide (i<m.length)
def sgL (l:List Pt)(m:List Ed)(i:Int):Int:=CI [(cC l m i.toNat).1,(cC l m i.toNat).2]
def S7 (l:List Pt)(m:List Ed)(L:List Int):Nat→Int
 |0=>0
 |i+1=>S7 l m L i+sgL l m (aN L i)
def S4 (l:List Pt)(m:List Ed)(L:List Int):Int:=if 400<L.length then 0 else if L.all (LI m)=true then S7 l m L L.length else 0
def O9 (m:List Ed)(L:List Int):Int:=if 400<L.length then 2 else if L.all (LI m)=true then 0 else 1
theorem JL (l:List Pt)(m:List Ed)(i:Int):0≤sgL l m i∧sgL l m i≤20000:=by
 unfold sgL CI;split
 ·rename_i h;have h2:=h.2;simp only [List.all_cons,List.all_nil,Bool.and_true,Bool.and_eq_true] at h2;have:=EE h2.1 h2.2;have e:pQ [(cC l m i.toNat).1,(cC l m i.toNat).2] 2=zG (cC l m i.toNat).1 (cC l m i.toNat).2:=(by simp [pQ,dL]);show 0≤pQ _ 2∧pQ _ 2≤20000;rw [e];exact this
 ·omega
theorem J9 (l:List Pt)(m:List Ed)(L:List Int):∀ i:Nat,0≤S7 l m L i∧S7 l m L i≤20000*i
 |0=>by unfold S7;omega
 |i+1=>by
  have:=J9 l m L i;have:=JL l m (aN L i);unfold S7;omega
theorem LA {m:List Ed}{L:List Int}{i:Nat}(hi:i<L.length)(h:LI m (aN L i)=false):L.all (LI m)=false:=by
 cases hb:L.all (LI m) with
 |false=>rfl
 |true =>
  have:=List.all_eq_true.1 hb _ (List.getElem_mem hi);rw [← gP hi,h] at this;cases this
theorem C2 {m:List Ed}{L:List Int}(h:∀ k,k<L.length→LI m (aN L k)=true):L.all (LI m)=true:=by
 refine List.all_eq_true.2 fun x hx=>?_;obtain⟨i,hi,rfl⟩:=List.getElem_of_mem hx;have:=h i hi;rw [gP hi] at this;exact this
def mV3 (a b c1 c2:Nat)(n:Int):List Value:=[.slice (some ⟨0,0,none⟩) a c1,.slice (some ⟨1,0,none⟩) b c2,iv n]
def aI6 (l:List Pt)(m:List Ed)(n:Int)(c1 c2:Nat)(L:List Int)(c3:Nat):Heap:=eJ (bV (bV (bV (eF aP aR aO l m L) 3 (.cells true false 1 (mV3 l.length m.length c1 c2 n))) 4 (.cells true false 1 [.slice (some ⟨2,0,none⟩) L.length c3])) 5 (.cells true false 1 (mV3 l.length m.length c1 c2 n)))
def H97 (l:List Pt)(m:List Ed)(n:Int)(c1 c2:Nat)(L:List Int)(c3:Nat):Heap:=app (aI6 l m n c1 c2 L c3) (wN 6 l m c1 c2 n (wTb 6 l m) (wT 6 l m))
theorem aCa {l:List Pt}{m:List Ed}{n:Int}{c1 c2:Nat}{L:List Int}{c3:Nat}(hl:l.length≤1000):xO (H97 l m n c1 c2 L c3) 2010:=by
 have hb:bO id 2010 (.cells true false 1 (mV3 l.length m.length c1 c2 n)) (.cells true false 1 (mV3 l.length m.length c1 c2 n)):=⟨rfl,rfl,rfl,rfl,jU rfl⟩;refine TZ (MJ ?_ rfl) (aGq (nx:=6) hl);exact cA (cA (cA (cA (cA (cA (fun k o hk=>by cases hk) (by omega) (aM (aI _ _))) (by omega) (aM (aI _ _))) (by omega) (aM (aI _ _))) (by omega) hb) (by omega) ⟨rfl,rfl,rfl,rfl,jU rfl⟩) (by omega) hb
structure A97 where
 l:List Pt
 m:List Ed
 n:Int
 c1:Nat
 c2:Nat
 L:List Int
 c3:Nat
def aKA (a:A97):Prop:=dE a.l a.m a.n=true∧(a.l.length≤1000∧a.m.length≤1000)
def X97:XF:=dX aKA (fun a=>[pV 13,pV 4,pV 3]) (fun a=>H97 a.l a.m a.n a.c1 a.c2 a.L a.c3) (fun _=>2010) (fun a=>.tuple #[iv (S4 a.l a.m a.L),iv (O9 a.m a.L)]) (fun a=>H97 a.l a.m a.n a.c1 a.c2 a.L a.c3) (fun _=>2010)
def e97 (N c3:Nat)(s j:Int):List (Nat × Value):=[(2,pV 3),(6,iv s),(13,.slice (some ⟨2,0,none⟩) N c3),(14,iv N),(15,iv j)]
theorem w97 (l:List Pt)(m:List Ed)(n:Int)(c1 c2:Nat)(L:List Int)(c3:Nat)(ho:dE l m n=true)(hlm:l.length≤1000∧m.length≤1000) :
  body [W9,X30] 97 [pV 13,pV 4,pV 3] (H97 l m n c1 c2 L c3) 2010 (fun v h nx=>∃ ρ,qE 2010 ρ [(0,.tuple #[iv (S4 l m L),iv (O9 m L)])] (H97 l m n c1 c2 L c3) 2010 [(0,v)] h nx):=by
 have hK:=aCa (l:=l) (m:=m) (n:=n) (c1:=c1) (c2:=c2) (L:=L) (c3:=c3) hlm.1;have hN:∀ k,2010≤k→look (H97 l m n c1 c2 L c3) k=none:=fun k hk=>bM hK hk;obtain⟨hM,h3,h1l,h400,m400,_,_⟩:=jX (qR ho);((conv=>whnf);refine bm (fun m0=>?_) (fun m0=>?_))
 ·have m0:400<L.length:=(by simp [aA,aB] at m0;omega);have hv:S4 l m L=0:=(by unfold S4;rw [if_pos m0]);have he:O9 m L=2:=(by unfold O9;rw [if_pos m0]);rw [hv,he];(conv=>whnf);exact xK (v:=.tuple #[iv 0,iv 2]) (kT rfl) (bU rfl) (fun _ _ h=>h) hK (Nat.le_refl _)
 ·have m0:¬ 400<L.length:=(by simp [aA,aB] at m0;omega);have hv:S4 l m L=if L.all (LI m)=true then S7 l m L L.length else 0:=by unfold S4;rw [if_neg m0]
  have he:O9 m L=if L.all (LI m)=true then 0 else 1:=by unfold O9;rw [if_neg m0]
  rw [hv,he];clear hv he;(conv=>whnf);refine⟨fun q e h nx=>∃ (i:Nat) (j s:Int),j=i∧i≤L.length∧q=L.length - i∧s=S7 l m L i∧(∀ k,k<i→LI m (aN L k)=true)∧e=e97 L.length c3 s j∧h=H97 l m n c1 c2 L c3∧nx=2010,⟨L.length,?_⟩,?_⟩
  ·refine eK (P:=[]) (W:=H97 l m n c1 c2 L c3) (e0:=e97 L.length c3 0 0) (n0:=2010) [] ⟨0,0,0,rfl,Nat.zero_le _,rfl,rfl,fun k h=>absurd h (Nat.not_lt_zero k),rfl,rfl,rfl⟩ ?_ hK (fun _ _ h=>h) (fun _ h=>by cases h) (fun _ h=>by cases h) (fun _ h=>by cases h) (by omega);unfold e97;((repeat' refine iE rfl rfl ?_);exact iN)
  ·rintro q e h nx ⟨i,j,s,hj,hi,rfl,hs,hb,rfl,rfl,rfl⟩;have hlow:=J9 l m L i;unfold e97 H97 aI6 mV3;((conv=>whnf);refine bm (fun m1=>?_) (fun m1=>?_))
   ·have hil:i<L.length:=(by simp [aA,aB] at m1;omega);((conv=>whnf);refine bm (fun m2=>?_) (fun m2=>?_))
    ·(conv=>whnf);refine fY (fR L (i:=i) hil ?_) ?_
     ·show _+Int.toNat j*1=_;omega
     ((conv=>whnf);refine bm (fun m3=>?_) (fun m3=>?_))
     ·have m3:¬ aN L i<0:=(by simp [aA,aB] at m3;omega);((conv=>whnf);refine bm (fun m4=>?_) (fun m4=>?_))
      ·have m4:(m.length:Int)≤aN L i:=(by simp [aA,aB] at m4;omega);have ha:=LA hil (m:=m) (by unfold LI;rw [decide_eq_false (show ¬ aN L i<m.length by omega),Bool.and_false]);(conv=>whnf);rw [if_neg (by rw [ha];decide),if_neg (by rw [ha];decide)];exact xK (v:=.tuple #[iv 0,iv 1]) (kT rfl) (bU rfl) (fun _ _ h=>h) hK (Nat.le_refl _)
      ·have m4:aN L i<m.length:=(by simp [aA,aB] at m4;omega);(conv=>whnf);refine⟨l,m,aD aP rfl,aD aR rfl,?_⟩;refine aJ (show (oE l m&&(decide (0≤aN L i)&&decide (aN L i<m.length)))=true by rw [hM,decide_eq_true (by omega),decide_eq_true m4];rfl) ?_;have hsl:=JL l m (aN L i);have hsu:S7 l m L (i+1)=s+sgL l m (aN L i):=(by rw [hs];rfl);unfold sgL at hsl hsu;(conv=>whnf);generalize cC l m (aN L i).toNat=AB at *;obtain⟨⟨ax,ay⟩,bx,b2⟩:=AB;simp only at hsl hsu;refine⟨[(ax,ay),(bx,b2)],⟨rfl,_,_,_,_,rfl,rfl⟩,?_⟩;refine aJ rfl ?_;((conv=>whnf);refine bm (fun m5=>?_) (fun m5=>?_))
       ·((conv=>whnf);refine bm (fun m6=>?_) (fun m6=>?_))
        ·(conv=>whnf);refine⟨L.length - (i+1),by omega,?_⟩;refine eK (P:=[]) (W:=H97 l m n c1 c2 L c3) (e0:=e97 L.length c3 (s+CI [(ax,ay),(bx,b2)]) (j+1)) (n0:=2010) [] ⟨i+1,j+1,_,by omega,by omega,rfl,hsu.symm,fun k hk=>?_,rfl,rfl,rfl⟩ ?_ hK ?_ (fun _ h=>by cases h) (fun _ h=>by cases h) (fun _ h=>by cases h) (by omega)
         ·by_cases e:k=i
          ·rw [e];unfold LI;rw [decide_eq_true (by omega),decide_eq_true m4];rfl
          ·exact hb k (by omega)
         ·unfold e97;((repeat' refine iE rfl rfl ?_);exact iN)
         ·exact cU (fZ (cU (fun _ _ h=>h) (hN _ (by decide))) (hN _ (by decide))) (hN _ (by decide))
        ·exfalso;simp [aA,aB,aH] at m6;omega
       ·exfalso;simp [aA,aB,aH] at m5;omega
     ·have m3:aN L i<0:=(by simp [aA,aB] at m3;omega);have ha:=LA hil (m:=m) (by unfold LI;rw [decide_eq_false (by omega),Bool.false_and]);(conv=>whnf);rw [if_neg (by rw [ha];decide),if_neg (by rw [ha];decide)];exact xK (v:=.tuple #[iv 0,iv 1]) (kT rfl) (bU rfl) (fun _ _ h=>h) hK (Nat.le_refl _)
    ·exfalso;simp [aA,aB] at m2;omega
   ·have hil:i=L.length:=(by simp [aA,aB] at m1;omega);(conv=>whnf);rw [if_pos (C2 (fun k hk=>hb k (by omega))),if_pos (C2 (fun k hk=>hb k (by omega))),show S7 l m L L.length=s by rw [← hil];exact hs.symm];exact xK (v:=.tuple #[iv s,iv 0]) (kT rfl) (bU rfl) (fun _ _ h=>h) hK (Nat.le_refl _)
def lgS (l:List Pt)(m:List Ed)(n:Int)(L:List Int):List Value→Option (Bool × Value)
 |[]=>some (decide (l.length≤1000)&&decide (m.length≤1000),.tuple #[iv (if dE l m n=true then S4 l m L else 0),iv (if dE l m n=true then O9 m L else 1)])
 |_=>none
theorem T6 {l:List Pt}{m:List Ed}{n:Int}{L:List Int}{r:List Value}{v:Value}(hs:lgS l m n L r=some (true,v)):r=[]∧(l.length≤1000∧m.length≤1000)∧v=.tuple #[iv (if dE l m n=true then S4 l m L else 0),iv (if dE l m n=true then O9 m L else 1)]:=by
 unfold lgS at hs;split at hs
 ·injection hs with hs;injection hs with h1 h2;simp only [Bool.and_eq_true,decide_eq_true_eq] at h1;exact⟨rfl,h1,h2.symm⟩
 ·cases hs
theorem aKC:cJ Go.Proofs.Tryz.prog 97 X97:=U6 (aK (xl:=[W9,X30]) (.cons aID (.cons x30 .nil))) fun a ⟨ho,hlm⟩=>w97 a.l a.m a.n a.c1 a.c2 a.L a.c3 ho hlm
theorem aCX {l:List Pt}{m:List Ed}{L:List Int}(h:O9 m L≠0):S4 l m L=0:=by
 unfold O9 at h;unfold S4;split
 ·rfl
 ·rename_i h1;rw [if_neg h1] at h;split
  ·rename_i h2;rw [if_pos h2] at h;exact absurd rfl h
  ·rfl
def aGd:Nat × XF:=(32,mLX aP aR aO lgS)
theorem aK5:cJ Go.Proofs.Tryz.prog aGd.1 aGd.2:=J6 aP aR aO (kG (C3 (xl:=[YB,(97,X97)]) (.cons aGH (.cons aKC .nil)) 4) 6).1 fun l m n L r v hs=>by
 obtain⟨rfl,hlm,rfl⟩:=T6 hs;clear hs;refine⟨rfl,rfl,fun c1 c2 c3=>?_⟩;(conv=>whnf);refine⟨l,m,n,.slice (some ⟨0,0,none⟩) l.length c1,.slice (some ⟨1,0,none⟩) m.length c2,rfl,aD aP rfl,aD aR rfl,hlm,?_⟩;cases ho:dE l m n with
 |false =>
  refine .inr ⟨rfl,?_⟩;(conv=>whnf);rfl
 |true =>
  refine .inl ⟨rfl,?_⟩;rw [if_pos rfl,if_pos rfl];have hve:=aCX (l:=l) (m:=m) (L:=L);(conv=>whnf);refine⟨⟨l,m,n,c1,c2,L,c3⟩,⟨ho,hlm⟩,rfl,rfl,rfl,?_⟩;((conv=>whnf);refine bm (fun g1=>?_) (fun g1=>?_))
  ·have g1:¬ O9 m L=0:=(by simpa [aBA,aA,aB] using g1);rw [hve g1];(conv=>whnf);rfl
  ·have g1:O9 m L=0:=(by simpa [aBA,aA,aB] using g1);rw [g1];(conv=>whnf);rfl
def e33 (N c3:Nat)(s j:Int):List (Nat × Value):=[(1,.slice (some ⟨2,0,none⟩) N c3),(2,pV 3),(7,iv s),(8,iv j)]
def h33 (l:List Pt)(m:List Ed)(c1 c2:Nat)(n:Int)(L:List Int):Heap:=(3,aW l.length m.length c1 c2 n)::eF aP aR aO l m L
def aH5:Nat × XF:=(33,mLX aP aR aO lgS)
theorem aKS:cJ Go.Proofs.Tryz.prog aH5.1 aH5.2:=J6 aP aR aO (aK (xl:=[aB8,aCo,X31]) (.cons aHi (.cons aHS (.cons x31 .nil)))) fun l m n L r v hs=>by
 obtain⟨rfl,hlm,rfl⟩:=T6 hs;clear hs;refine⟨rfl,rfl,fun c1 c2 c3=>?_⟩;(conv=>whnf);refine⟨l,m,aD aP rfl,aD aR rfl,?_⟩;refine aJ (smB hlm) ?_;cases ho:dE l m n with
 |false =>
  (conv=>whnf);rfl
 |true =>
  rw [if_pos rfl,if_pos rfl];obtain⟨hM,h3,h1l,h400,m400,_,_⟩:=jX (qR ho);((conv=>whnf);refine bm (fun m0=>?_) (fun m0=>?_))
  ·have m0:400<L.length:=(by simp [aA,aB] at m0;omega);have hv:S4 l m L=0:=(by unfold S4;rw [if_pos m0]);have he:O9 m L=2:=(by unfold O9;rw [if_pos m0]);rw [hv,he];(conv=>whnf);rfl
  ·have m0:¬ 400<L.length:=(by simp [aA,aB] at m0;omega);have hv:S4 l m L=if L.all (LI m)=true then S7 l m L L.length else 0:=by unfold S4;rw [if_neg m0]
   have he:O9 m L=if L.all (LI m)=true then 0 else 1:=by unfold O9;rw [if_neg m0]
   rw [hv,he];clear hv he;(conv=>whnf);refine⟨fun q e h nx=>∃ (i:Nat) (j s:Int),j=i∧i≤L.length∧q=L.length - i∧s=S7 l m L i∧(∀ k,k<i→LI m (aN L k)=true)∧e=e33 L.length c3 s j∧h=h33 l m c1 c2 n L∧nx=4,⟨L.length,?_⟩,?_⟩
   ·refine aL (e0:=e33 L.length c3 0 0) (h0:=h33 l m c1 c2 n L) (n0:=4) ⟨0,0,0,rfl,Nat.zero_le _,rfl,rfl,fun k h=>absurd h (Nat.not_lt_zero k),rfl,rfl,rfl⟩ ?_ ?_ (by decide)
    ·unfold e33;((repeat' refine iE rfl rfl ?_);exact iN)
    ·unfold h33 aW eF;((repeat'(first|refine iF rfl rfl ?_|refine iC rfl rfl rfl ?_|refine iJ rfl rfl rfl rfl ?_));exact iN)
   ·rintro q e h nx ⟨i,j,s,hj,hi,rfl,hs,hb,rfl,rfl,rfl⟩;have hlow:=J9 l m L i;unfold e33 h33 aW eF;((conv=>whnf);refine bm (fun m1=>?_) (fun m1=>?_))
    ·have hil:i<L.length:=(by simp [aA,aB] at m1;omega);((conv=>whnf);refine bm (fun m2=>?_) (fun m2=>?_))
     ·(conv=>whnf);refine fY (fR L (i:=i) hil ?_) ?_
      ·show _+Int.toNat j*1=_;omega
      ((conv=>whnf);refine bm (fun m3=>?_) (fun m3=>?_))
      ·have m3:¬ aN L i<0:=(by simp [aA,aB] at m3;omega);((conv=>whnf);refine bm (fun m4=>?_) (fun m4=>?_))
       ·(conv=>whnf);refine fY (fR L (i:=i) hil ?_) ?_
        ·show _+Int.toNat j*1=_;omega
        ((conv=>whnf);refine bm (fun m5=>?_) (fun m5=>?_))
        ·have m5:(m.length:Int)≤aN L i:=(by simp [aA,aB] at m5;omega);have ha:=LA hil (m:=m) (by unfold LI;rw [decide_eq_false (show ¬ aN L i<m.length by omega),Bool.and_false]);(conv=>whnf);rw [if_neg (by rw [ha];decide),if_neg (by rw [ha];decide)];rfl
        ·have m5:aN L i<m.length:=(by simp [aA,aB] at m5;omega);((conv=>whnf);refine bm (fun m6=>?_) (fun m6=>?_))
         ·(conv=>whnf);refine fY (fR L (i:=i) hil ?_) ?_
          ·show _+Int.toNat j*1=_;omega
          (conv=>whnf);refine⟨l,m,aD aP rfl,aD aR rfl,?_⟩;refine aJ (show (oE l m&&(decide (0≤aN L i)&&decide (aN L i<m.length)))=true by rw [hM,decide_eq_true (by omega),decide_eq_true m5];rfl) ?_;have hsl:=JL l m (aN L i);have hsu:S7 l m L (i+1)=s+sgL l m (aN L i):=(by rw [hs];rfl);unfold sgL at hsl hsu;(conv=>whnf);generalize cC l m (aN L i).toNat=AB at *;obtain⟨⟨ax,ay⟩,bx,b2⟩:=AB;simp only at hsl hsu;refine⟨[(ax,ay),(bx,b2)],⟨rfl,_,_,_,_,rfl,rfl⟩,?_⟩;refine aJ rfl ?_;((conv=>whnf);refine bm (fun m7=>?_) (fun m7=>?_))
          ·((conv=>whnf);refine bm (fun m8=>?_) (fun m8=>?_))
           ·(conv=>whnf);refine⟨L.length - (i+1),by omega,?_⟩;refine aL (e0:=e33 L.length c3 (s+CI [(ax,ay),(bx,b2)]) (j+1)) (h0:=h33 l m c1 c2 n L) (n0:=4) ⟨i+1,j+1,_,by omega,by omega,rfl,hsu.symm,fun k hk=>?_,rfl,rfl,rfl⟩ ?_ ?_ (by decide)
            ·by_cases e:k=i
             ·rw [e];unfold LI;rw [decide_eq_true (by omega),decide_eq_true m5];rfl
             ·exact hb k (by omega)
            ·unfold e33;((repeat' refine iE rfl rfl ?_);exact iN)
            ·unfold h33 aW eF;((repeat'(first|refine iF rfl rfl ?_|refine iC rfl rfl rfl ?_|refine iJ rfl rfl rfl rfl ?_));exact iN)
           ·exfalso;simp [aA,aB,aH] at m8;omega
          ·exfalso;simp [aA,aB,aH] at m7;omega
         ·exfalso;simp [aA,aB] at m6;omega
       ·exfalso;simp [aA,aB] at m4;omega
      ·have m3:aN L i<0:=(by simp [aA,aB] at m3;omega);have ha:=LA hil (m:=m) (by unfold LI;rw [decide_eq_false (by omega),Bool.false_and]);(conv=>whnf);rw [if_neg (by rw [ha];decide),if_neg (by rw [ha];decide)];rfl
     ·exfalso;simp [aA,aB] at m2;omega
    ·have hil:i=L.length:=(by simp [aA,aB] at m1;omega);(conv=>whnf);rw [if_pos (C2 (fun k hk=>hb k (by omega))),if_pos (C2 (fun k hk=>hb k (by omega))),show S7 l m L L.length=s by rw [← hil];exact hs.symm];rfl
def smI (l1 l2:List Int):Bool:=decide (l1=l2)
def smS (l1 l2:List Int):Option (Bool × Value):=some (decide (l1.length≤1000000),.bool (smI l1 l2))
def e21 (l1 l2:List Int)(c1 c2:Nat)(j:Int):List (Nat × Value):=[(0,.slice (some ⟨0,0,none⟩) l1.length c1),(1,.slice (some ⟨1,0,none⟩) l2.length c2),(5,iv j)]
def h21 (l1 l2:List Int):Heap:=[(0,.cells false true 1 (flat aO.fl l1)),(1,.cells false true 1 (flat aO.fl l2))]
theorem aF6 {l1 l2:List Int}(hl:l1.length=l2.length)(h:∀ k,k<l1.length→aN l1 k=aN l2 k):l1=l2:=by
 refine List.ext_getElem hl fun k h1 h2=>?_;have:=h k h1;rw [gP h1,gP h2] at this;exact this
def aD0:Nat × XF:=(21,l2X aO smS)
theorem aL5:cJ Go.Proofs.Tryz.prog aD0.1 aD0.2:=aFA aO (f:=21) (s:=smS) (aK (xl:=[]) .nil) fun l1 l2 v hs=>by
 have hs':l1.length≤1000000∧v=.bool (smI l1 l2):=by
  unfold smS at hs;injection hs with hs;injection hs with h1 h2;exact⟨by simpa using h1,h2.symm⟩
 obtain⟨hlen,rfl⟩:=hs';refine⟨rfl,fun c1 c2=>?_⟩;((conv=>whnf);refine bm (fun h1=>?_) (fun h1=>?_))
 ·(conv=>whnf);have hne:l1≠l2:=by
   intro e;simp [aA,aB,e] at h1
  show Value.bool false=.bool (decide (l1=l2));rw [decide_eq_false hne]
 ·have hll:l1.length=l2.length:=(by simp [aA,aB] at h1;omega);(conv=>whnf);refine⟨fun n e h nx=>∃ (i:Nat) (j:Int),j=i∧i≤l1.length∧n=l1.length - i∧(∀ k,k<i→aN l1 k=aN l2 k)∧e=e21 l1 l2 c1 c2 j∧h=h21 l1 l2∧nx=2,⟨l1.length,?_⟩,?_⟩
  ·refine aL (e0:=e21 l1 l2 c1 c2 0) (h0:=h21 l1 l2) (n0:=2) ⟨0,0,rfl,Nat.zero_le _,rfl,fun k h=>absurd h (Nat.not_lt_zero k),rfl,rfl,rfl⟩ ?_ ?_ (by decide)
   ·unfold e21;((repeat' refine iE rfl rfl ?_);exact iN)
   ·unfold h21;((repeat'(first|refine iF rfl rfl ?_|refine iJ rfl rfl rfl rfl ?_));exact iN)
  ·rintro n e h nx ⟨i,j,hj,hi,rfl,hb,rfl,rfl,rfl⟩;unfold e21 h21;((conv=>whnf);refine bm (fun g1=>?_) (fun g1=>?_))
   ·have hlt:i<l1.length:=(by simp [aA,aB] at g1;omega);((conv=>whnf);refine bm (fun g2=>?_) (fun g2=>?_))
    ·(conv=>whnf);refine fY (fR l1 hlt ?_) ?_
     ·show _+Int.toNat j*1=_;omega
     ((conv=>whnf);refine bm (fun g3=>?_) (fun g3=>?_))
     ·(conv=>whnf);refine fY (fR l2 (i:=i) (by omega) ?_) ?_
      ·show _+Int.toNat j*1=_;omega
      ((conv=>whnf);refine bm (fun g4=>?_) (fun g4=>?_))
      ·(conv=>whnf);have hne:l1≠l2:=by
        intro e;simp [aA,aB,e] at g4
       show Value.bool false=.bool (decide (l1=l2));rw [decide_eq_false hne]
      ·have g4:aN l1 i=aN l2 i:=(by simpa [aA,aB] using g4);((conv=>whnf);refine bm (fun g5=>?_) (fun g5=>?_))
       ·(conv=>whnf);refine⟨l1.length - (i+1),by omega,?_⟩;refine aL (e0:=e21 l1 l2 c1 c2 (j+1)) (h0:=h21 l1 l2) (n0:=2) ⟨i+1,j+1,by omega,hlt,rfl,fun k hk=>?_,rfl,rfl,rfl⟩ ?_ ?_ (by decide)
        ·by_cases hki:k=i
         ·rw [hki];exact g4
         ·exact hb k (by omega)
        ·unfold e21;((repeat' refine iE rfl rfl ?_);exact iN)
        ·unfold h21;((repeat'(first|refine iF rfl rfl ?_|refine iJ rfl rfl rfl rfl ?_));exact iN)
       ·exfalso;simp [aA,aB,aH] at g5;omega
     ·exfalso;simp [aA,aB] at g3;omega
    ·exfalso;simp [aA,aB] at g2;omega
   ·have hge:i=l1.length:=(by simp [aA,aB] at g1;omega);(conv=>whnf);show Value.bool true=.bool (decide (l1=l2));rw [decide_eq_true (aF6 hll fun k hk=>hb k (by omega))]
theorem aAb {l:List Pt}{m:List Ed}(h1:(!(decide ((l.length:Int)≤60)&&decide ((m.length:Int)≤60)))=false):l.length≤1000∧m.length≤1000:=by
 have h1:(decide ((l.length:Int)≤60)&&decide ((m.length:Int)≤60))=true:=(by simpa using h1);simp only [Bool.and_eq_true,decide_eq_true_eq] at h1;omega
theorem w5 (l:List Pt)(m:List Ed)(n:Int)(c1 c2:Nat)(d f:Int):body [aB6,X16,aD0,aJO,aKD,aL7,aLp,aKT,aLz] 5 [aF l.length m.length c1 c2 n,iv d,iv f] (aC aP aR l m) 2 (fun v _ _=>v=.bool true):=by
 (conv=>whnf);refine⟨l,m,aD aP rfl,aD aR rfl,?_⟩;((conv=>whnf);refine bm (fun h1=>?_) (fun h1=>?_))
 ·(conv=>whnf)
 ·have hlm:l.length≤1000∧m.length≤1000:=aAb h1;have hsm:=smB hlm;obtain⟨O,hO⟩:∃ O,(if MD l m n f=true then wlI l m f else [])=O:=⟨_,rfl⟩;have hOl:O.length≤1000000:=by
   rw [← hO];split
   ·rename_i hf;have hf:(dE l m n&&zX n f)=true:=hf;simp only [Bool.and_eq_true] at hf;have:=(aHX hf.1 hf.2).2.2.1;unfold wlI;rw [T7];omega
   ·exact Nat.zero_le _
  have hsame:smI O O=true:=decide_eq_true rfl;(conv=>whnf);refine⟨l,m,aD aP rfl,aD aR rfl,?_⟩;refine aJ hsm ?_;(conv=>whnf);refine⟨l,m,aD aP rfl,aD aR rfl,?_⟩;refine aJ hsm ?_;(conv=>whnf);refine⟨_,_,_,[iv f],l,m,rfl,aD aP rfl,aD aR rfl,?_⟩;refine aJ hsm ?_;rw [hO];cases O with
  |nil =>
   (conv=>whnf);refine⟨_,_,_,[iv f],l,m,rfl,aD aP rfl,aD aR rfl,?_⟩;refine aJ hsm ?_;rw [hO];(conv=>whnf);refine⟨l,m,aD aP rfl,aD aR rfl,?_⟩;refine aJ hsm ?_;(conv=>whnf);refine⟨l,m,aD aP rfl,aD aR rfl,?_⟩;refine aJ hsm ?_
   repeat' (((conv=>whnf);refine bm (fun g=>?_) (fun g=>?_)))
   all_goals (conv=>whnf)
   all_goals first
    |(exfalso;simp [aA,aB] at g;done)
    |(refine⟨[],[],⟨rfl,rfl,rfl⟩,⟨rfl,rfl,rfl⟩,?_⟩
      refine aJ (decide_eq_true hOl) ?_;rw [hsame];(conv=>whnf))
  |cons a t =>
   (conv=>whnf);refine⟨_,_,_,[iv f],l,m,rfl,aD aP rfl,aD aR rfl,?_⟩;refine aJ hsm ?_;rw [hO];(conv=>whnf);refine⟨l,m,aD aP rfl,aD aR rfl,?_⟩;refine aJ hsm ?_;(conv=>whnf);refine⟨l,m,aD aP rfl,aD aR rfl,?_⟩;refine aJ hsm ?_
   repeat' (((conv=>whnf);refine bm (fun g=>?_) (fun g=>?_)))
   all_goals (conv=>whnf)
   all_goals first
    |(exfalso;simp [aA,aB] at g;done)
    |(refine⟨a::t,a::t,aD aO rfl,aD aO rfl,?_⟩
      refine aJ (decide_eq_true hOl) ?_;rw [hsame];(conv=>whnf))
theorem w6 (l:List Pt)(m:List Ed)(n:Int)(c1 c2:Nat)(a b:Int)(L:List Int)(c3:Nat):body [aB6,X16,aD0,aFR,aGQ,aG4,aFO,aGd,aH5] 6 [aF l.length m.length c1 c2 n,iv a,iv b,.slice (some ⟨2,0,none⟩) L.length c3] (eF aP aR aO l m L) 3 (fun v _ _=>v=.bool true):=by
 (conv=>whnf);refine⟨l,m,aD aP rfl,aD aR rfl,?_⟩;((conv=>whnf);refine bm (fun h1=>?_) (fun h1=>?_))
 ·((conv=>whnf);refine bm (fun h2=>?_) (fun h2=>?_))
  ·(conv=>whnf)
  ·have hlm:l.length≤1000∧m.length≤1000:=by
    have h1:((!(decide ((l.length:Int)≤60)&&decide ((m.length:Int)≤60))) == false)=true:=h1;exact aAb (by simpa using h1)
   have hsm:=smB hlm;obtain⟨O,hO⟩:∃ O,(if shB l m n a b=true then bL (pI a b) m m.length else [])=O:=⟨_,rfl⟩;obtain⟨Q,hQ⟩:∃ Q,(if dE l m n=true then bL rM m m.length else [])=Q:=⟨_,rfl⟩;have hOl:O.length≤1000000:=by
    have:=qG (pI a b) m m.length;rw [← hO];split
    ·omega
    ·exact Nat.zero_le _
   have hQl:Q.length≤1000000:=by
    have:=qG rM m m.length;rw [← hQ];split
    ·omega
    ·exact Nat.zero_le _
   have hs1:smI O O=true:=decide_eq_true rfl;have hs2:smI Q Q=true:=decide_eq_true rfl;(conv=>whnf);refine⟨_,_,_,[iv a,iv b],l,m,rfl,aD aP rfl,aD aR rfl,?_⟩;refine aJ hsm ?_;rw [hO];cases O with
   |nil =>
    (conv=>whnf);refine⟨_,_,_,[iv a,iv b],l,m,rfl,aD aP rfl,aD aR rfl,?_⟩;refine aJ hsm ?_;rw [hO];(conv=>whnf);refine⟨_,_,_,[],l,m,rfl,aD aP rfl,aD aR rfl,?_⟩;refine aJ hsm ?_;rw [hQ];cases Q with
    |nil =>
     (conv=>whnf);refine⟨_,_,_,[],l,m,rfl,aD aP rfl,aD aR rfl,?_⟩;refine aJ hsm ?_;rw [hQ];(conv=>whnf);refine⟨_,_,_,[],_,l,m,L,rfl,aD aP rfl,aD aR rfl,aD aO rfl,?_⟩;refine aJ hsm ?_;(conv=>whnf);refine⟨_,_,_,[],_,l,m,L,rfl,aD aP rfl,aD aR rfl,aD aO rfl,?_⟩;refine aJ hsm ?_
     repeat' (((conv=>whnf);refine bm (fun g=>?_) (fun g=>?_)))
     all_goals (conv=>whnf)
     all_goals first
      |(exfalso;simp [aA,aB] at g;done)
      |(refine⟨[],[],⟨rfl,rfl,rfl⟩,⟨rfl,rfl,rfl⟩,?_⟩
        refine aJ (decide_eq_true hOl) ?_;rw [hs1]
        repeat' (((conv=>whnf);refine bm (fun g=>?_) (fun g=>?_)))
        all_goals (conv=>whnf)
        all_goals first
         |(exfalso;simp [aA,aB] at g;done)
         |(refine⟨[],[],⟨rfl,rfl,rfl⟩,⟨rfl,rfl,rfl⟩,?_⟩
           refine aJ (decide_eq_true hQl) ?_;rw [hs2];(conv=>whnf)))
    |cons y s =>
     (conv=>whnf);refine⟨_,_,_,[],l,m,rfl,aD aP rfl,aD aR rfl,?_⟩;refine aJ hsm ?_;rw [hQ];(conv=>whnf);refine⟨_,_,_,[],_,l,m,L,rfl,aD aP rfl,aD aR rfl,aD aO rfl,?_⟩;refine aJ hsm ?_;(conv=>whnf);refine⟨_,_,_,[],_,l,m,L,rfl,aD aP rfl,aD aR rfl,aD aO rfl,?_⟩;refine aJ hsm ?_
     repeat' (((conv=>whnf);refine bm (fun g=>?_) (fun g=>?_)))
     all_goals (conv=>whnf)
     all_goals first
      |(exfalso;simp [aA,aB] at g;done)
      |(refine⟨[],[],⟨rfl,rfl,rfl⟩,⟨rfl,rfl,rfl⟩,?_⟩
        refine aJ (decide_eq_true hOl) ?_;rw [hs1]
        repeat' (((conv=>whnf);refine bm (fun g=>?_) (fun g=>?_)))
        all_goals (conv=>whnf)
        all_goals first
         |(exfalso;simp [aA,aB] at g;done)
         |(refine⟨y::s,y::s,aD aO rfl,aD aO rfl,?_⟩
           refine aJ (decide_eq_true hQl) ?_;rw [hs2];(conv=>whnf)))
   |cons x t =>
    (conv=>whnf);refine⟨_,_,_,[iv a,iv b],l,m,rfl,aD aP rfl,aD aR rfl,?_⟩;refine aJ hsm ?_;rw [hO];(conv=>whnf);refine⟨_,_,_,[],l,m,rfl,aD aP rfl,aD aR rfl,?_⟩;refine aJ hsm ?_;rw [hQ];cases Q with
    |nil =>
     (conv=>whnf);refine⟨_,_,_,[],l,m,rfl,aD aP rfl,aD aR rfl,?_⟩;refine aJ hsm ?_;rw [hQ];(conv=>whnf);refine⟨_,_,_,[],_,l,m,L,rfl,aD aP rfl,aD aR rfl,aD aO rfl,?_⟩;refine aJ hsm ?_;(conv=>whnf);refine⟨_,_,_,[],_,l,m,L,rfl,aD aP rfl,aD aR rfl,aD aO rfl,?_⟩;refine aJ hsm ?_
     repeat' (((conv=>whnf);refine bm (fun g=>?_) (fun g=>?_)))
     all_goals (conv=>whnf)
     all_goals first
      |(exfalso;simp [aA,aB] at g;done)
      |(refine⟨x::t,x::t,aD aO rfl,aD aO rfl,?_⟩
        refine aJ (decide_eq_true hOl) ?_;rw [hs1]
        repeat' (((conv=>whnf);refine bm (fun g=>?_) (fun g=>?_)))
        all_goals (conv=>whnf)
        all_goals first
         |(exfalso;simp [aA,aB] at g;done)
         |(refine⟨[],[],⟨rfl,rfl,rfl⟩,⟨rfl,rfl,rfl⟩,?_⟩
           refine aJ (decide_eq_true hQl) ?_;rw [hs2];(conv=>whnf)))
    |cons y s =>
     (conv=>whnf);refine⟨_,_,_,[],l,m,rfl,aD aP rfl,aD aR rfl,?_⟩;refine aJ hsm ?_;rw [hQ];(conv=>whnf);refine⟨_,_,_,[],_,l,m,L,rfl,aD aP rfl,aD aR rfl,aD aO rfl,?_⟩;refine aJ hsm ?_;(conv=>whnf);refine⟨_,_,_,[],_,l,m,L,rfl,aD aP rfl,aD aR rfl,aD aO rfl,?_⟩;refine aJ hsm ?_
     repeat' (((conv=>whnf);refine bm (fun g=>?_) (fun g=>?_)))
     all_goals (conv=>whnf)
     all_goals first
      |(exfalso;simp [aA,aB] at g;done)
      |(refine⟨x::t,x::t,aD aO rfl,aD aO rfl,?_⟩
        refine aJ (decide_eq_true hOl) ?_;rw [hs1]
        repeat' (((conv=>whnf);refine bm (fun g=>?_) (fun g=>?_)))
        all_goals (conv=>whnf)
        all_goals first
         |(exfalso;simp [aA,aB] at g;done)
         |(refine⟨y::s,y::s,aD aO rfl,aD aO rfl,?_⟩
           refine aJ (decide_eq_true hQl) ?_;rw [hs2];(conv=>whnf)))
 ·(conv=>whnf)
end Go.Aw
end

noncomputable section
namespace Go.Proofs.YtjahkcbdecgbhaaGreat
open Go.ChangeShapes Go.WideShapes Go.ChangeAt Go.RowKit Go.Aw Go.Joins
set_option maxRecDepth 100000 in
theorem KW (os:Os)(started:os.Started)(H:Type)(enc:TypeId × Value→H) :
  ReturnsInHanded {} Tryz.checked os 6 .any (Rows.facesEdgesSpec.pre6 enc Tryz.prog Tryz.f6 Rows.facesEdgesRow.domain false) (Rows.facesEdgesSpec.post enc Tryz.prog Tryz.f6 false true false false):=by
 refine returnsInHanded_of_change (C:=Tryz.checked) Tryz.own started (by kernel_rfl) Tryz.func6
  (ChangeSpec.witness6 (enc:=enc) (C:=Tryz.checked) false ⟨#[],#[.agg #[.slice none 0 0,.slice none 0 0,.int .i64 0],.int .i64 0,.int .i64 0,.slice none 0 0],[]⟩ 3 (by kernel_rfl) (by kernel_rfl) (by kernel_rfl) (by kernel_rfl)) ?_
 intro W base args ds gs before hval0 hW hcnd _;have hval:∀ (j:Nat) t v,Tryz.f6.params[j]? = some t→args[j]? = some v→Value.okWide Tryz.prog W .any base t v:=hval0;have hW':=hW;obtain⟨p,q,hA0,hV,rfl,hfz,hnd⟩:=hW;have hA:DataW.TrodAll enc Tryz.prog W 0 (fun _=>true) true Tryz.f6.params.toList args.toList ds p:=hA0;rw [Tryz.params6] at hA hval;obtain⟨v0,v1,v2,v3,d0,d1,d2,d3,p0,p1,p2,p3,rfl,rfl,rfl,h0,h1,h2,h3⟩:=trodAll_four hA;obtain⟨rfl,rfl⟩:=trodVars_none hV;obtain⟨cs,rfl,hsz⟩:=okWide_struct Tryz.underlying25 (hval 0 25 v0 rfl rfl);have h0':=h0;obtain⟨fuel,hf0⟩:=h0';obtain⟨xs,fu,_,_,hlen,hxl,hf⟩:=DataW.trod_struct Tryz.underlying25 hf0;rw [Tryz.aBZ] at hlen;have hcs:∃ a b c,cs.toList=[a,b,c]:=aHR hlen;obtain⟨a,b,c,hcs⟩:=hcs;have ecs:cs=#[a,b,c]:=Array.ext' hcs;subst ecs;obtain⟨x0,x1,x2,rfl⟩:=aHR hxl;obtain⟨l,c1,loc1,a1,a2,a3⟩:=z9 aP (by decide) Tryz.underlying22 Tryz.U3 aIB (show DataW.trod enc Tryz.prog W 0 (fun _=>true) true fu 22 [a]=some x0 by simpa [Tryz.aDx,Value.cells] using hf 0 _ rfl);obtain⟨m,c2,loc2,b1,b2,b3⟩:=z9 aR (by decide) Tryz.underlying23 Tryz.VF aI9 (show DataW.trod enc Tryz.prog W 0 (fun _=>true) true fu 23 [b]=some x1 by simpa [Tryz.aBY,Value.cells] using hf 1 _ rfl);obtain⟨n,e1⟩:=lM (show DataW.trod enc Tryz.prog W 0 (fun _=>true) true fu 3 [c]=some x2 by simpa [Tryz.qJ,Value.cells] using hf 2 _ rfl);subst e1;obtain⟨z0,rfl⟩:=okWide_int Tryz.underlying3 (hval 1 3 v1 rfl rfl);obtain⟨z1,rfl⟩:=okWide_int Tryz.underlying3 (hval 2 3 v2 rfl rfl);obtain⟨s0,sl,sc,rfl⟩:=okWide_slice Tryz.underlying30 (hval 3 30 v3 rfl rfl);have hl':=h3;obtain⟨fl,hfl⟩:=hl';obtain⟨L,c3,loc3,l1,l2,l3⟩:=z9 aO (by decide) Tryz.underlying30 Tryz.qJ aFh hfl;clear hA0 hval0;simp only [List.append_nil,List.append_assoc] at hW';have hlt:∀ x∈p0++(p1++(p2++p3)),x.block<W.heap.size:=fun x hx=>(by simpa using hW'.lt x hx);refine (NP (r:=[iv z0,iv z1]) (.cons aKz (.cons x16 (.cons aL5 (.cons aKu (.cons aLd (.cons aK7 (.cons aKB (.cons aK5 (.cons aKS .nil))))))))) rfl (w6 l m n c1 c2 z0 z1 L c3) rfl a1 b1 l1 a2 b2 l2 a3 b3 l3).mono fun e W' ⟨he,hb⟩=>?_;subst he;refine⟨_,rfl,_,_,_,[],p0++(p1++(p2++p3)),[],hW',trodAll_mk1 (aB2 true),?_,rfl,hb.frame _,fun h=>by cases h⟩;exact trodAll_mk4 (Below.trod Tryz.laidOut (by kernel_rfl) (of_decide_eq_true (by kernel_rfl)) h0 hb (fun x hx=>hlt x (List.mem_append.2 (.inl hx)))) (Below.trod Tryz.laidOut (by kernel_rfl) (of_decide_eq_true (by kernel_rfl)) h1 hb (fun x hx=>hlt x (List.mem_append.2 (.inr (List.mem_append.2 (.inl hx)))))) (Below.trod Tryz.laidOut (by kernel_rfl) (of_decide_eq_true (by kernel_rfl)) h2 hb (fun x hx=>hlt x (List.mem_append.2 (.inr (List.mem_append.2 (.inr (List.mem_append.2 (.inl hx)))))))) (Below.trod Tryz.laidOut (by kernel_rfl) (of_decide_eq_true (by kernel_rfl)) h3 hb (fun x hx=>hlt x (List.mem_append.2 (.inr (List.mem_append.2 (.inr (List.mem_append.2 (.inr hx))))))))
set_option maxRecDepth 100000 in
theorem jf:joinedFacts Tryz.prog 6 Tryz.f6 Rows.facesEdgesSpec Rows.facesEdgesRow=true:=by
 unfold joinedFacts;exact (eD (eD (eD (eD (eD (eD (eD (eD (eD (eD (eD (eD (eD (eD (eD (eD (eD (eD (eD (eD (eD (eD (eD (eD (eD (eD (eD (eD (eD (eD (eD jf0 jf1) jf2) jf3) jf4) jf5) jf6) jf7) jf8) jf9) aK4) aKg) aKl) aJL) aJU) aK0) aKt) aK9) aKH) aL6) aJY) aKO) aKb) aLq) aJH) aKk) aLk) aKQ) (by kernel_rfl)) aJM) aKP) aKI)
theorem edges_holds:Rows.FacesEdgesSaid :=
 OpenClaim.holds_of_wide 6 Tryz.f6 rfl rfl rfl rfl rfl rfl rfl ⟨rfl,rfl,rfl,rfl,rfl⟩ rfl rfl rfl rfl rfl (by kernel_rfl) Tryz.func6 jf
  (of_decide_eq_true (by kernel_rfl)) (by unfold Func.isWrapper;first|(rw [if_pos (by decide +kernel)];kernel_rfl)|(rw [if_neg (by decide +kernel)];exact⟨rfl,rfl⟩))
  (fun os started H enc _=>KW os started H enc)
#print axioms edges_holds
end Go.Proofs.YtjahkcbdecgbhaaGreat
end
