/-
  Parts of a proof. No condition.
-/
import Derived.Test.YtjahkcbdecgbhaaGreatQAp
import Derived.Test.YtjahkcbdecgbhaaGreatQAq
set_option linter.unusedSimpArgs false
set_option linter.unusedVariables false
noncomputable section
namespace Go.Aw
set_option maxRecDepth 100000
def liS (l:List Pt)(m:List Ed)(n:Int):List Value→Option (Bool × Value)
 |[]=>some (decide (l.length≤1000)&&decide (m.length≤1000),.bool (dH l m n))
 |_=>none
theorem aD6 {l:List Pt}{m:List Ed}{n:Int}{r:List Value}{v:Value}(h:liS l m n r=some (true,v)):r=[]∧l.length≤1000∧m.length≤1000∧v=.bool (dH l m n):=by
 unfold liS at h;split at h
 ·injection h with h;injection h with h1 h2;simp only [Bool.and_eq_true,decide_eq_true_eq] at h1;exact⟨rfl,h1.1,h1.2,h2.symm⟩
 ·cases h
def OM (N c:Nat)(j:Int):List (Nat × Value):=[(1,.pointer (some ⟨2,0,none⟩)),(35,.slice (some ⟨0,0,none⟩) N c),(36,iv N),(37,iv j)]
def A5 (N M c:Nat)(j:Int):List (Nat × Value):=[(1,.pointer (some ⟨2,0,none⟩)),(5,.slice (some ⟨3,0,none⟩) N N),(66,.slice (some ⟨1,0,none⟩) M c),(67,iv M),(68,iv j)]
def VF:Nat × XF:=(152,mX aZ aY liS)
theorem aJ3:dM Go.Proofs.Tryz.prog VF.1 VF.2:=PJ aZ aY (aO (xl:=[X17,aG0,QA,aBV,V8]) (.cons x17 (.cons aIz (.cons W3 (.cons aHf (.cons aEv .nil)))))) fun l m n r v hs=>by
 obtain⟨rfl,hl,hm,rfl⟩:=aD6 hs;clear hs;refine⟨rfl,rfl,fun c1 c2=>?_⟩;have hszf:¬ (l.length≤400∧3≤m.length∧m.length≤400∧1≤n∧n≤100)→dH l m n=false:=fun h=>aGl (by
  cases hz:szB l m n with
  |false=>rfl
  |true=>simp only [szB,Bool.and_eq_true,decide_eq_true_eq] at hz;exact absurd ⟨hz.1.1.1.1,hz.1.1.1.2,hz.1.1.2,hz.1.2,hz.2⟩ h)
 ((conv=>whnf);refine bm (fun a1=>?_) (fun a1=>?_))
 ·have a1:¬ 400<l.length:=(by simp [aA,aF] at a1;omega);((conv=>whnf);refine bm (fun a2=>?_) (fun a2=>?_))
  ·have a2:¬ m.length<3:=(by simp [aA,aF] at a2;omega);((conv=>whnf);refine bm (fun a3=>?_) (fun a3=>?_))
   ·have a3:¬ 400<m.length:=(by simp [aA,aF] at a3;omega);((conv=>whnf);refine bm (fun a4=>?_) (fun a4=>?_))
    ·have a4:¬ n<1:=(by simp [aA,aF] at a4;omega);((conv=>whnf);refine bm (fun a5=>?_) (fun a5=>?_))
     ·have a5:100<n:=(by simp [aA,aF] at a5;omega);(conv=>whnf);rw [hszf (by omega)]
     ·have a5:¬ 100<n:=(by simp [aA,aF] at a5;omega);have hsz:szB l m n=true:=by
       simp only [szB,Bool.and_eq_true,decide_eq_true_eq];omega
      clear hszf;(conv=>whnf);refine⟨fun q e h nx=>∃ (i:Nat) (j:Int),j=i∧i≤l.length∧q=l.length - i∧(∀ t,t<i→QM l t=true)∧e=OM l.length c1 j∧h=zZ l m c1 c2 n∧nx=3,⟨l.length,?_⟩,?_⟩
      ·refine cO (e0:=OM l.length c1 0) (h0:=zZ l m c1 c2 n) (n0:=3) ⟨0,0,rfl,Nat.zero_le _,rfl,fun t ht=>absurd ht (Nat.not_lt_zero t),rfl,rfl,rfl⟩ ?_ ?_ (by decide)
       ·unfold OM;((repeat' refine iE rfl rfl ?_);exact iN)
       ·unfold zZ bP aH;((repeat'(first|refine iF rfl rfl ?_|refine iC rfl rfl rfl ?_|refine iJ rfl rfl rfl rfl ?_));exact iN)
      ·rintro q e h nx ⟨i,j,hj,hi,rfl,hpt,rfl,rfl,rfl⟩;unfold OM zZ bP aH;((conv=>whnf);refine bm (fun b1=>?_) (fun b1=>?_))
       ·have hlt:i<l.length:=(by simp [aA,aF] at b1;omega);((conv=>whnf);refine bm (fun b2=>?_) (fun b2=>?_))
        ·(conv=>whnf);refine IF (uY l (i:=i) hlt ?_) ?_
         ·show _+Int.toNat j*2=_;omega
         ((conv=>whnf);refine bm (fun b3=>?_) (fun b3=>?_))
         ·have hr:cG (tQ l i)=true:=(by simpa [aA,aF] using b3);((conv=>whnf);refine bm (fun b4=>?_) (fun b4=>?_))
          ·have hi0:i≠0:=(by simp [aA,aF] at b4;omega);((conv=>whnf);refine bm (fun b5=>?_) (fun b5=>?_))
           ·((conv=>whnf);refine bm (fun b6=>?_) (fun b6=>?_))
            ·(conv=>whnf);refine IF (uY l (i:=i - 1) (by omega) ?_) ?_
             ·show _+Int.toNat (j - 1)*2=_;omega
             ((conv=>whnf);refine bm (fun b8=>?_) (fun b8=>?_))
             ·have b8:iP (tQ l (i - 1)) (tQ l i)=false:=by
               rw [yC];have:0≤j3 (tQ l (i - 1)) (tQ l i):=(by simpa [aA,aF] using b8);exact decide_eq_false (by omega)
              (conv=>whnf);rw [ZE hlt (show QM l i=false by rw [QM,hr,b8,decide_eq_false hi0];rfl)]
             ·have b8:iP (tQ l (i - 1)) (tQ l i)=true:=by
               rw [yC];have:¬ 0≤j3 (tQ l (i - 1)) (tQ l i):=(by simpa [aA,aF] using b8);exact decide_eq_true (by omega)
              have hyes:QM l i=true:=(by rw [QM,hr,b8];simp);((conv=>whnf);refine bm (fun b9=>?_) (fun b9=>?_))
              ·(conv=>whnf);refine⟨l.length - (i+1),by omega,?_⟩;refine cO (e0:=OM l.length c1 (j+1)) (h0:=zZ l m c1 c2 n) (n0:=3) ⟨i+1,j+1,by omega,by omega,rfl,fun t ht=>?_,rfl,rfl,rfl⟩ ?_ ?_ (by decide)
               ·by_cases hti:t=i
                ·rw [hti];exact hyes
                ·exact hpt t (by omega)
               ·unfold OM;((repeat' refine iE rfl rfl ?_);exact iN)
               ·unfold zZ bP aH;((repeat'(first|refine iF rfl rfl ?_|refine iC rfl rfl rfl ?_|refine iJ rfl rfl rfl rfl ?_));exact iN)
              ·exfalso;simp [aA,aF,aI] at b9;omega
            ·exfalso;simp [aA,aF] at b6;omega
           ·exfalso;simp [aA,aF,aI] at b5;omega
          ·have hi0:i=0:=(by simp [aA,aF] at b4;omega);have hyes:QM l i=true:=(by rw [QM,hr,hi0];rfl);((conv=>whnf);refine bm (fun b9=>?_) (fun b9=>?_))
           ·(conv=>whnf);refine⟨l.length - (i+1),by omega,?_⟩;refine cO (e0:=OM l.length c1 (j+1)) (h0:=zZ l m c1 c2 n) (n0:=3) ⟨i+1,j+1,by omega,by omega,rfl,fun t ht=>?_,rfl,rfl,rfl⟩ ?_ ?_ (by decide)
            ·by_cases hti:t=i
             ·rw [hti];exact hyes
             ·exact hpt t (by omega)
            ·unfold OM;((repeat' refine iE rfl rfl ?_);exact iN)
            ·unfold zZ bP aH;((repeat'(first|refine iF rfl rfl ?_|refine iC rfl rfl rfl ?_|refine iJ rfl rfl rfl rfl ?_));exact iN)
           ·exfalso;simp [aA,aF,aI] at b9;omega
         ·have hr:cG (tQ l i)=false:=(by simpa [aA,aF] using b3);(conv=>whnf);rw [ZE hlt (show QM l i=false by rw [QM,hr];rfl)]
        ·exfalso;simp [aA,aF] at b2;omega
       ·have hge:i=l.length:=(by simp [aA,aF] at b1;omega);subst hge;clear b1 hi hj;((conv=>whnf);refine bm (fun m1=>?_) (fun m1=>?_))
        ·(conv=>whnf);refine⟨fun q e h nx=>∃ (i:Nat) (j:Int),j=i∧i≤m.length∧q=m.length - i∧(∀ t,t<i→SK l m t=true)∧e=A5 l.length m.length c2 j∧h=BA l m c1 c2 n (xV m (List.replicate l.length false) i)∧nx=4,⟨m.length,?_⟩,?_⟩
         ·refine cO (e0:=A5 l.length m.length c2 0) (h0:=BA l m c1 c2 n (List.replicate l.length false)) (n0:=4) ⟨0,0,rfl,Nat.zero_le _,rfl,fun t ht=>absurd ht (Nat.not_lt_zero t),rfl,rfl,rfl⟩ ?_ ?_ (by decide)
          ·unfold A5;((repeat' refine iE rfl rfl ?_);exact iN)
          ·unfold BA zZ bP aH;have hrep:=Q6 l.length;((repeat'(first|refine iW rfl rfl (bG (aE oO _) hrep) ?_|refine iF rfl rfl ?_|refine iC rfl rfl rfl ?_|refine iJ rfl rfl rfl rfl ?_));exact iN)
         ·rintro q e h nx ⟨i,j,hj,hi,rfl,hed0,rfl,rfl,rfl⟩;have rl:(xV m (List.replicate l.length false) i).length=l.length:=(by rw [GM,List.length_replicate]);have nxt:xV m (List.replicate l.length false) (i+1)=((xV m (List.replicate l.length false) i).set (cX m i).a.toNat true).set (cX m i).b.toNat true:=rfl;generalize hs0:xV m (List.replicate l.length false) i=s at rl nxt;have hsl:(flat oO.fl s).length=l.length:=(by rw [bJ,rl];exact Nat.mul_one _);unfold A5 BA zZ bP aH;((conv=>whnf);refine bm (fun d1=>?_) (fun d1=>?_))
          ·have hlt:i<m.length:=(by simp [aA,aF] at d1;omega);((conv=>whnf);refine bm (fun d2=>?_) (fun d2=>?_))
           ·(conv=>whnf);refine IF (YH m (i:=i) hlt ?_) ?_
            ·show _+Int.toNat j*5=_;omega
            generalize hed:cX m i=ed at nxt;((conv=>whnf);refine bm (fun f1=>?_) (fun f1=>?_))
            ·have f1:0≤ed.a:=(by simp [aA,aF] at f1;omega);((conv=>whnf);refine bm (fun f2=>?_) (fun f2=>?_))
             ·have f2:ed.a<ed.b:=(by simp [aA,aF] at f2;omega);((conv=>whnf);refine bm (fun f3=>?_) (fun f3=>?_))
              ·have f3:ed.b<l.length:=(by simp [aA,aF] at f3;omega);((conv=>whnf);refine bm (fun f4=>?_) (fun f4=>?_))
               ·have f4 : -1≤ed.n:=(by simp [aA,aF] at f4;omega);((conv=>whnf);refine bm (fun f5=>?_) (fun f5=>?_))
                ·have f5:200≤ed.n:=(by simp [aA,aF] at f5;omega);(conv=>whnf);rw [zY hlt (FQ hed (by omega))]
                ·have f5:ed.n<200:=(by simp [aA,aF] at f5;omega);((conv=>whnf);refine bm (fun f6=>?_) (fun f6=>?_))
                 ·have f6:0<i:=(by simp [aA,aF] at f6;omega);((conv=>whnf);refine bm (fun f7=>?_) (fun f7=>?_))
                  ·((conv=>whnf);refine bm (fun f8=>?_) (fun f8=>?_))
                   ·(conv=>whnf);refine eP (aDI m 0 (i:=i - 1) (by omega) rfl (by decide) ?_) ?_
                    ·show _+Int.toNat (j - 1)*5+0=_;omega
                    ((conv=>whnf);refine bm (fun f9=>?_) (fun f9=>?_))
                    ·((conv=>whnf);refine bm (fun f10=>?_) (fun f10=>?_))
                     ·(conv=>whnf);refine eP (aDI m 1 (i:=i - 1) (by omega) rfl (by decide) ?_) ?_
                      ·show _+Int.toNat (j - 1)*5+1=_;omega
                      generalize hd0:cX m (i - 1)=dd;(conv=>whnf);refine⟨[gY dd.a ed.a,gY dd.b ed.b],⟨rfl,_,_,_,_,rfl,rfl⟩,?_⟩;((conv=>whnf);refine bm (fun f11=>?_) (fun f11=>?_))
                      ·have f11:bfE dd ed=false:=by
                        rw [TJ];have:0≤YO (gY dd.a ed.a) (gY dd.b ed.b):=(by simpa [aA,aF] using f11);exact decide_eq_false (by omega)
                       (conv=>whnf);rw [zY hlt (aFQ hed hd0 (by omega) f11)]
                      ·have f11:bfE dd ed=true:=by
                        rw [TJ];have:¬ 0≤YO (gY dd.a ed.a) (gY dd.b ed.b):=(by simpa [aA,aF] using f11);exact decide_eq_true (by omega)
                       have hyes:SK l m i=true:=T6 hed ⟨f1,f2,f3,f4,f5⟩ (by rw [hd0,f11,Bool.or_true]);((conv=>whnf);refine bm (fun k1=>?_) (fun k1=>?_))
                       ·((conv=>whnf);refine bm (fun k2=>?_) (fun k2=>?_))
                        ·((conv=>whnf);refine bm (fun k3=>?_) (fun k3=>?_))
                         ·((conv=>whnf);refine bm (fun k4=>?_) (fun k4=>?_))
                          ·((conv=>whnf);refine bm (fun k5=>?_) (fun k5=>?_))
                           ·(conv=>whnf);refine⟨m.length - (i+1),by omega,?_⟩;refine cO (e0:=A5 l.length m.length c2 (j+1)) (h0:=BA l m c1 c2 n (xV m (List.replicate l.length false) (i+1))) (n0:=4) ⟨i+1,j+1,by omega,by omega,rfl,fun t ht=>?_,rfl,rfl,rfl⟩ ?_ ?_ (by decide)
                            ·by_cases hti:t=i
                             ·rw [hti];exact hyes
                             ·exact hed0 t (by omega)
                            ·unfold A5;((repeat' refine iE rfl rfl ?_);exact iN)
                            ·unfold BA zZ bP aH;have cV:=aIc (s:=s) (a:=ed.a.toNat) (b:=ed.b.toNat) (o1:=0+ed.a.toNat*1) (o2:=0+ed.b.toNat*1) (by omega) (by omega) (by omega) (by omega);rw [nxt];((repeat'(first|refine iW rfl rfl (bG (aE oO _) cV) ?_|refine iF rfl rfl ?_|refine iC rfl rfl rfl ?_|refine iJ rfl rfl rfl rfl ?_));exact iN)
                           ·exfalso;simp [aA,aF,aI] at k5;omega
                          ·have hpl:(dE (flat oO.fl s) (0+ed.a.toNat*1) [.bool true]).length=l.length:=(by rw [gO (by rw [hsl];show 0+ed.a.toNat*1+1≤l.length;omega)];exact hsl);have k4:(0+ed.b.toNat*1+1).ble (dE (flat oO.fl s) (0+ed.a.toNat*1) [.bool true]).length=false:=k4;rw [hpl] at k4;exact lE k4 (by omega)
                         ·exfalso;simp [aA,aF] at k3;omega
                        ·rw [hsl] at k2;exact lE k2 (by show 0+ed.a.toNat*1+1≤l.length;omega)
                       ·exfalso;simp [aA,aF] at k1;omega
                     ·exfalso;simp [aA,aF] at f10;omega
                    ·exfalso;simp [aA,aF,aI] at f9;omega
                   ·exfalso;simp [aA,aF] at f8;omega
                  ·exfalso;simp [aA,aF,aI] at f7;omega
                 ·have f6:i=0:=(by simp [aA,aF] at f6;omega);have hyes:SK l m i=true:=T6 hed ⟨f1,f2,f3,f4,f5⟩ (by simp [f6]);((conv=>whnf);refine bm (fun k1=>?_) (fun k1=>?_))
                  ·((conv=>whnf);refine bm (fun k2=>?_) (fun k2=>?_))
                   ·((conv=>whnf);refine bm (fun k3=>?_) (fun k3=>?_))
                    ·((conv=>whnf);refine bm (fun k4=>?_) (fun k4=>?_))
                     ·((conv=>whnf);refine bm (fun k5=>?_) (fun k5=>?_))
                      ·(conv=>whnf);refine⟨m.length - (i+1),by omega,?_⟩;refine cO (e0:=A5 l.length m.length c2 (j+1)) (h0:=BA l m c1 c2 n (xV m (List.replicate l.length false) (i+1))) (n0:=4) ⟨i+1,j+1,by omega,by omega,rfl,fun t ht=>?_,rfl,rfl,rfl⟩ ?_ ?_ (by decide)
                       ·by_cases hti:t=i
                        ·rw [hti];exact hyes
                        ·exact hed0 t (by omega)
                       ·unfold A5;((repeat' refine iE rfl rfl ?_);exact iN)
                       ·unfold BA zZ bP aH;have cV:=aIc (s:=s) (a:=ed.a.toNat) (b:=ed.b.toNat) (o1:=0+ed.a.toNat*1) (o2:=0+ed.b.toNat*1) (by omega) (by omega) (by omega) (by omega);rw [nxt];((repeat'(first|refine iW rfl rfl (bG (aE oO _) cV) ?_|refine iF rfl rfl ?_|refine iC rfl rfl rfl ?_|refine iJ rfl rfl rfl rfl ?_));exact iN)
                      ·exfalso;simp [aA,aF,aI] at k5;omega
                     ·have hpl:(dE (flat oO.fl s) (0+ed.a.toNat*1) [.bool true]).length=l.length:=(by rw [gO (by rw [hsl];show 0+ed.a.toNat*1+1≤l.length;omega)];exact hsl);have k4:(0+ed.b.toNat*1+1).ble (dE (flat oO.fl s) (0+ed.a.toNat*1) [.bool true]).length=false:=k4;rw [hpl] at k4;exact lE k4 (by omega)
                    ·exfalso;simp [aA,aF] at k3;omega
                   ·rw [hsl] at k2;exact lE k2 (by show 0+ed.a.toNat*1+1≤l.length;omega)
                  ·exfalso;simp [aA,aF] at k1;omega
               ·have f4:¬ -1≤ed.n:=(by simp [aA,aF] at f4;omega);(conv=>whnf);rw [zY hlt (FQ hed (by omega))]
              ·have f3:¬ ed.b<l.length:=(by simp [aA,aF] at f3;omega);(conv=>whnf);rw [zY hlt (FQ hed (by omega))]
             ·have f2:¬ ed.a<ed.b:=(by simp [aA,aF] at f2;omega);(conv=>whnf);rw [zY hlt (FQ hed (by omega))]
            ·have f1:¬ 0≤ed.a:=(by simp [aA,aF] at f1;omega);(conv=>whnf);rw [zY hlt (FQ hed (by omega))]
           ·exfalso;simp [aA,aF] at d2;omega
          ·have hge:i=m.length:=(by simp [aA,aF] at d1;omega);subst hge;(conv=>whnf);refine⟨s,⟨rl.symm,_,_,_,_,rfl,by rw [List.drop_zero,List.take_length]⟩,?_⟩;((conv=>whnf);refine bm (fun g1=>?_) (fun g1=>?_))
           ·(conv=>whnf);rw [dH,hsz,kG hpt,kG hed0,hs0];show Value.bool (!(!(s.all id)))=_;rw [Bool.not_not];rfl
           ·exfalso;have g1:decide (s.length≤1000000)=false:=g1;simp at g1;omega
        ·exfalso;simp [aA,aF] at m1;omega
    ·have a4:n<1:=(by simp [aA,aF] at a4;omega);(conv=>whnf);rw [hszf (by omega)]
   ·have a3:400<m.length:=(by simp [aA,aF] at a3;omega);(conv=>whnf);rw [hszf (by omega)]
  ·have a2:m.length<3:=(by simp [aA,aF] at a2;omega);(conv=>whnf);rw [hszf (by omega)]
 ·have a1:400<l.length:=(by simp [aA,aF] at a1;omega);(conv=>whnf);rw [hszf (by omega)]
end Go.Aw
end

noncomputable section
namespace Go.Aw
theorem apart {F1 F2 G1 G2 s1 s2 t1 t2 c:Int}(hi:G1*s2 - G2*s1=F2*t1 - F1*t2)(hd:G1 - G2=F2 - F1)(hF:F1*F2<0)(hG:G1*G2<0)
  (h1:s1≤c) (h2:s2≤c) (h3:c+1≤t1) (h4:c+1≤t2):False:=by
 have key:∀ {F1 F2 G1 G2 s1 s2 t1 t2:Int},G1*s2 - G2*s1=F2*t1 - F1*t2→G1 - G2=F2 - F1→F1<0→0<F2→0<G1→G2<0→s1≤c→s2≤c→c+1≤t1→c+1≤t2→False:=by
  intro F1 F2 G1 G2 s1 s2 t1 t2 hi hd f1 f2 g1 g2 h1 h2 h3 h4;have e1:=Int.mul_le_mul_of_nonneg_left h2 (Int.le_of_lt g1);have e2:=Int.mul_le_mul_of_nonneg_left h1 (show 0≤-G2 by omega);have e3:=Int.mul_le_mul_of_nonneg_left h3 (Int.le_of_lt f2);have e4:=Int.mul_le_mul_of_nonneg_left h4 (show 0≤-F1 by omega);have d:(G1 - G2)*c=(F2 - F1)*c:=(by rw [hd]);simp only [Int.mul_add,Int.mul_one,Int.neg_mul,Int.sub_mul] at e1 e2 e3 e4 d;omega
 rcases Int.lt_or_le F1 0 with f1|f1
 ·have f2:0<F2:=by
   rcases Int.lt_or_le 0 F2 with h|h
   ·exact h
   ·have:=Int.mul_nonneg_of_nonpos_of_nonpos (Int.le_of_lt f1) h;omega
  rcases Int.lt_or_le G1 0 with g1|g1
  ·have g2:0<G2:=by
    rcases Int.lt_or_le 0 G2 with h|h
    ·exact h
    ·have:=Int.mul_nonneg_of_nonpos_of_nonpos (Int.le_of_lt g1) h;omega
   omega
  ·have g1':0<G1:=by
    rcases Int.lt_or_le 0 G1 with h|h
    ·exact h
    ·have:G1=0:=(by omega);rw [this] at hG;omega
   have g2:G2<0:=by
    rcases Int.lt_or_le G2 0 with h|h
    ·exact h
    ·have:=Int.mul_nonneg g1 h;omega
   exact key hi hd f1 f2 g1' g2 h1 h2 h3 h4
 ·have f1':0<F1:=by
   rcases Int.lt_or_le 0 F1 with h|h
   ·exact h
   ·have:F1=0:=(by omega);rw [this] at hF;omega
  have f2:F2<0:=by
   rcases Int.lt_or_le F2 0 with h|h
   ·exact h
   ·have:=Int.mul_nonneg f1 h;omega
  rcases Int.lt_or_le G1 0 with g1|g1
  ·have g2:0<G2:=by
    rcases Int.lt_or_le 0 G2 with h|h
    ·exact h
    ·have:=Int.mul_nonneg_of_nonpos_of_nonpos (Int.le_of_lt g1) h;omega
   exact key (F1:=F2) (F2:=F1) (G1:=G2) (G2:=G1) (s1:=s2) (s2:=s1) (t1:=t2) (t2:=t1) (by omega) (by omega) f2 f1' g2 g1 h2 h1 h4 h3
  ·have g2:G2<0:=by
    rcases Int.lt_or_le G2 0 with h|h
    ·exact h
    ·have:=Int.mul_nonneg g1 h;omega
   omega
theorem M3 {a b:Int}(h:sgn a*sgn b<0):a*b<0:=by
 unfold sgn at h
 split at h <;> split at h <;> first
  |omega
  |(exact Int.mul_neg_of_neg_of_pos (by omega) (by omega))
  |(exact Int.mul_neg_of_pos_of_neg (by omega) (by omega))
  |(split at h <;> first|omega|(exact Int.mul_neg_of_neg_of_pos (by omega) (by omega))|(exact Int.mul_neg_of_pos_of_neg (by omega) (by omega)))
theorem aAD (s t:Sg):bE t.1 t.2 s.1 - bE t.1 t.2 s.2=bE s.1 s.2 t.2 - bE s.1 s.2 t.1:=by
 obtain⟨⟨a,b⟩,⟨c,d⟩⟩:=s;obtain⟨⟨e,f⟩,⟨g,h⟩⟩:=t;simp only [bE,Int.sub_mul,Int.mul_sub,Int.mul_comm,Int.mul_left_comm,Int.mul_assoc];omega
theorem aB5 (s t:Sg):bE t.1 t.2 s.1*s.2.1 - bE t.1 t.2 s.2*s.1.1=bE s.1 s.2 t.2*t.1.1 - bE s.1 s.2 t.1*t.2.1:=by
 obtain⟨⟨a,b⟩,⟨c,d⟩⟩:=s;obtain⟨⟨e,f⟩,⟨g,h⟩⟩:=t;simp only [bE,Int.sub_mul,Int.mul_sub,Int.mul_comm,Int.mul_left_comm,Int.mul_assoc];omega
theorem ZY (s t:Sg):bE t.1 t.2 s.1*s.2.2 - bE t.1 t.2 s.2*s.1.2=bE s.1 s.2 t.2*t.1.2 - bE s.1 s.2 t.1*t.2.2:=by
 obtain⟨⟨a,b⟩,⟨c,d⟩⟩:=s;obtain⟨⟨e,f⟩,⟨g,h⟩⟩:=t;simp only [bE,Int.sub_mul,Int.mul_sub,Int.mul_comm,Int.mul_left_comm,Int.mul_assoc];omega
theorem T9 {a b c d:Int}(h:apI a b c d=true):(∃ k,a≤k∧b≤k∧k+1≤c∧k+1≤d)∨(∃ k,c≤k∧d≤k∧k+1≤a∧k+1≤b):=by
 unfold apI mxI mnI at h;simp only [Bool.or_eq_true,decide_eq_true_eq] at h;rcases h with h|h
 ·refine .inl ⟨if b > a then b else a,?_⟩;split at h <;> split at h <;> omega
 ·refine .inr ⟨if d > c then d else c,?_⟩;split at h <;> split at h <;> omega
theorem XM {s t:Sg}(h:AS s t=true):¬ (bB s.1 s.2 t.1*bB s.1 s.2 t.2<0∧bB t.1 t.2 s.1*bB t.1 t.2 s.2<0):=by
 rintro ⟨h1,h2⟩;have h1:=M3 h1;have h2:=M3 h2;have d1:=aAD s t;have d2:=aAD t s;unfold AS at h;rw [Bool.or_eq_true] at h;rcases h with h|h
 ·rcases T9 h with ⟨k,a1,a2,a3,a4⟩|⟨k,a1,a2,a3,a4⟩
  ·exact apart (aB5 s t) d1 h1 h2 a1 a2 a3 a4
  ·exact apart (aB5 t s) d2 h2 h1 a1 a2 a3 a4
 ·rcases T9 h with ⟨k,a1,a2,a3,a4⟩|⟨k,a1,a2,a3,a4⟩
  ·exact apart (ZY s t) d1 h1 h2 a1 a2 a3 a4
  ·exact apart (ZY t s) d2 h2 h1 a1 a2 a3 a4
theorem aCK {s t:Sg}(h:AS s t=true)(p:Pt):¬ (yF p s=true∧yF p t=true):=by
 rintro ⟨h1,h2⟩;simp only [yF,btw,Bool.and_eq_true,decide_eq_true_eq] at h1 h2;obtain⟨⟨⟨x1,x2⟩,y1,y2⟩,_⟩:=h1;obtain⟨⟨⟨x3,x4⟩,y3,y4⟩,_⟩:=h2;unfold AS at h;rw [Bool.or_eq_true] at h;rcases h with h|h
 ·rcases T9 h with ⟨k,a1,a2,a3,a4⟩|⟨k,a1,a2,a3,a4⟩ <;>
   (split at x1 <;> split at x2 <;> split at x3 <;> split at x4 <;> omega)
 ·rcases T9 h with ⟨k,a1,a2,a3,a4⟩|⟨k,a1,a2,a3,a4⟩ <;>
   (split at y1 <;> split at y2 <;> split at y3 <;> split at y4 <;> omega)
theorem aAq {s t:Sg}(h:AS s t=true):jJ s t=0:=by
 unfold jJ;split
 ·rename_i hr;rw [aE2 s t hr.1 hr.2];have he:NU s t=[]:=by
   unfold NU;have:∀ p,KL s t [] p=[]:=fun p=>by
    unfold KL;rw [if_neg (fun hh=>aCK h p ⟨hh.1,hh.2.1⟩)]
   rw [this,this,this,this]
  unfold D9;rw [he];exact if_neg (XM h)
 ·rfl
theorem aA9 (s t:Sg):EL s t=jJ s t:=by
 unfold EL;split
 ·rename_i h;rw [aAq h]
 ·rfl
end Go.Aw
end

noncomputable section
namespace Go.Aw
set_option maxRecDepth 100000
def CA (v:Pt):Bool:=decide (v.2<0) || (decide (v.2=0)&&decide (v.1<0))
def aGB:Nat × XF:=(242,gX (s1 cP fun v=>(true,.bool (CA v))))
theorem aKY:dM Go.Proofs.Tryz.prog aGB.1 aGB.2:=x1 cP (xl:=[]) .nil (fun _=>rfl) fun a _=>by
 obtain⟨ax,ay⟩:=a;unfold fB
 repeat' ((conv=>whnf);refine bm (fun h=>?_) (fun h=>?_))
 all_goals (conv=>whnf)
 all_goals (simp only [nO,A9,LJ,nJ,beq_iff_eq,beq_eq_false_iff_ne,ne_eq,Bool.not_eq_false,Bool.not_eq_true,decide_eq_true_eq,decide_eq_false_iff_not] at *)
 all_goals (show _=Value.bool (CA _);unfold CA;simp_all)
def crP (w v:Pt):Int:=w.1*v.2 - w.2*v.1
def RX (w v:Pt):Int:=if CA w=CA v then gY 0 (crP w v) else if CA v=true then -1 else 1
def aGq:Nat × XF:=(210,gX (s2 cP cP fun w v=>(wide w&&wide v,iv (RX w v))))
theorem aKC:dM Go.Proofs.Tryz.prog aGq.1 aGq.2:=x2 cP cP (xl:=[aGB,QA]) (.cons aKY (.cons W3 .nil)) (fun _ _=>rfl) fun w v hp=>by
 obtain⟨wx,wy⟩:=w;obtain⟨vx,vy⟩:=v;simp only [wide,Bool.and_eq_true,decide_eq_true_eq] at hp;have m1:=WJ (a:=wx) (b:=vy) (A:=1000000) (B:=1000000) (by omega) (by omega) (by omega) (by omega);have m2:=WJ (a:=wy) (b:=vx) (A:=1000000) (B:=1000000) (by omega) (by omega) (by omega) (by omega);unfold fB
 repeat' ((conv=>whnf);refine bm (fun h=>?_) (fun h=>?_))
 all_goals (conv=>whnf)
 all_goals first
  |(exfalso;simp [aA,aF,aI] at h;omega)
  |(show iv _=iv (RX _ _);unfold RX;simp [aA,aF] at *;simp_all;done)
  |(show iv _=iv (RX _ _);unfold RX crP;simp [aA,aF] at *;simp_all)
  |trace_state
structure Dt where
 dx:Int
 dy:Int
 no:Int
 fr:Int
 tt:Int
def qQ:El Dt:=⟨fun e=>[iv e.dx,iv e.dy,iv e.no,iv e.fr,iv e.tt],5,fun _=>rfl,fun _=>rfl,by decide⟩
def bV (m:List Dt)(i:Nat):Dt:=m.getD i ⟨0,0,0,0,0⟩
theorem oA {m:List Dt}{i:Nat}(h:i<m.length):bV m i=m[i]:=by
 unfold bV;rw [List.getD_eq_getElem?_getD,List.getElem?_eq_getElem h];rfl
theorem aFj (m:List Dt){i o:Nat}(hi:i<m.length)(ho:o=i*5):m5 (flat qQ.fl m) o 5=some [iv (bV m i).dx,iv (bV m i).dy,iv (bV m i).no,iv (bV m i).fr,iv (bV m i).tt]:=by
 rw [oA hi];exact GH qQ m hi ho
def eF (d:Dt):Pt:=(d.dx,d.dy)
theorem VO (m:List Dt){i o:Nat}(hi:i<m.length)(ho:o=i*5):m5 (flat qQ.fl m) o 2=some [iv (eF (bV m i)).1,iv (eF (bV m i)).2]:=by
 have h1:nth (flat qQ.fl m) o=some (iv (bV m i).dx):=by
  rw [oA hi];exact mN qQ m hi (k:=0) rfl (by decide) (by rw [ho];rfl)
 have h2:nth (flat qQ.fl m) (o+1)=some (iv (bV m i).dy):=by
  rw [oA hi];exact mN qQ m hi (k:=1) rfl (by decide) (by rw [ho];rfl)
 simp only [m5,h1,h2];rfl
def mY (h:Heap)(p:Nat)(D:List Dt):Prop:=∃ b c k0 k1 wr g sz r0 wr1 g1 sz1 r1 wr2 g2 sz2 cs n0 c0 n1 c1 F cc,
 look h p=some (.cells wr g sz (.pointer (some ⟨b,0,none⟩)::r0)) ∧
 look h b=some (.cells wr1 g1 sz1 (.slice (some ⟨k0,0,none⟩) n0 c0::.slice (some ⟨k1,0,none⟩) n1 c1::iv F::.slice (some ⟨c,0,none⟩) D.length cc::r1)) ∧
 look h c=some (.cells wr2 g2 sz2 cs)∧cs.take (flat qQ.fl D).length=flat qQ.fl D
def fE (D:List Dt):Bool:=D.all fun d=>wide (eF d)
def Y0 (D:List Dt)(x y:Int):Int:=RX (eF (bV D x.toNat)) (eF (bV D y.toNat))
def rD (D:List Dt)(x y:Int):Bool:=decide (0≤x)&&decide (x<D.length)&&(decide (0≤y)&&decide (y<D.length))&&fE D
def TU:Nat × XF:=(209,fun args h nx K=>∃ x y p D,args=[iv x,iv y,.pointer (some ⟨p,0,none⟩)]∧mY h p D∧dP (rD D x y) (K (iv (Y0 D x y)) h nx))
def aHo (D:List Dt)(n0 c0 n1 c1:Nat)(F:Int)(cc:Nat):Heap:=[(0,.cells false false 1 [.pointer (some ⟨1,0,none⟩)]),(1,.cells false false 1 [.slice (some ⟨3,0,none⟩) n0 c0,.slice (some ⟨4,0,none⟩) n1 c1,iv F,.slice (some ⟨2,0,none⟩) D.length cc]),(2,.cells false true 5 (flat qQ.fl D))]
def aJW (p b c k0 k1:Nat):Nat→Nat
 |0=>p
 |1=>b
 |2=>c
 |3=>k0
 |_=>k1
theorem aG6 {h:Heap}{p nx:Nat}{D:List Dt}(hd:mY h p D)(x y:Int):∃ n0 c0 n1 c1 F cc,In [iv x,iv y,.pointer (some ⟨0,0,none⟩)] (aHo D n0 c0 n1 c1 F cc) 5 [iv x,iv y,.pointer (some ⟨p,0,none⟩)] h nx:=by
 obtain⟨b,c,k0,k1,wr,g,sz,r0,wr1,g1,sz1,r1,wr2,g2,sz2,cs,n0,c0,n1,c1,F,cc,h1,h2,h3,h4⟩:=hd;refine⟨n0,c0,n1,c1,F,cc,rP (aJW p b c k0 k1) rfl ?_ ?_⟩
 ·refine List.forall_mem_cons.2 ⟨cY rfl,List.forall_mem_cons.2 ⟨cY rfl,List.forall_mem_cons.2 ⟨⟨by decide,rfl⟩,fun _ h=>by cases h⟩⟩⟩
 ·intro k o hk;unfold aHo at hk;rw [aC] at hk;split at hk
  ·rename_i hb;injection hk with hk;subst hk;rw [← beq_true hb]
   refine⟨by decide,false,1,_,rfl,by decide,(fun h=>by cases h),List.forall_mem_cons.2 ⟨⟨by decide,rfl⟩,fun _ h=>by cases h⟩,wr,g,sz,_,h1,rfl⟩
  rw [aC] at hk;split at hk
  ·rename_i hb;injection hk with hk;subst hk;rw [← beq_true hb]
   refine⟨by decide,false,1,_,rfl,by decide,(fun h=>by cases h),?_,wr1,g1,sz1,_,h2,rfl⟩;refine List.forall_mem_cons.2 ⟨⟨by decide,fun h=>by cases h⟩,List.forall_mem_cons.2 ⟨⟨by decide,fun h=>by cases h⟩,List.forall_mem_cons.2 ⟨cA rfl,List.forall_mem_cons.2 ⟨⟨by decide,fun h=>by cases h⟩,fun _ h=>by cases h⟩⟩⟩⟩
  rw [aC] at hk;split at hk
  ·rename_i hb;injection hk with hk;subst hk;rw [← beq_true hb]
   exact⟨by decide,true,5,_,rfl,by decide,fun _=>aE qQ D,fun v hv=>cA (aU (aE qQ D) hv),wr2,g2,sz2,cs,h3,by rw [h4];exact (bW (aE qQ D)).symm⟩
  ·exact bY hk
theorem aEM:dM Go.Proofs.Tryz.prog TU.1 TU.2:=by
 refine (jX (S:=fun args0 h0 n0 v1 h1 m=>∃ x y D n1 c1 n2 c2 F cc,rD D x y=true∧args0=[iv x,iv y,.pointer (some ⟨0,0,none⟩)]∧h0=aHo D n1 c1 n2 c2 F cc∧n0=5∧v1=iv (Y0 D x y)∧h1=[]∧m=0) (aO (xl:=[aGq]) (.cons aKC .nil)) ?_).mono ?_ ?_
 ·rintro args0 h0 n0 v1 h1 m ⟨x,y,D,n1,c1,n2,c2,F,cc,hok,rfl,rfl,rfl,rfl,rfl,rfl⟩;refine⟨rfl,fun u _ _=>u=iv (Y0 D x y),?_,fun v h nx e=>by rw [e];exact mI rfl⟩;simp only [rD,Bool.and_eq_true,decide_eq_true_eq] at hok;obtain⟨⟨⟨h0,h1⟩,h2,h3⟩,hw⟩:=hok;have wx:wide (eF (bV D x.toNat))=true:=by
   rw [oA (by omega)];exact List.all_eq_true.1 hw _ (List.getElem_mem _)
  have wy:wide (eF (bV D y.toNat))=true:=by
   rw [oA (by omega)];exact List.all_eq_true.1 hw _ (List.getElem_mem _)
  ((conv=>whnf);refine bm (fun a1=>?_) (fun a1=>?_))
  ·(conv=>whnf);refine IF (VO D (i:=x.toNat) (by omega) ?_) ?_
   ·show _+Int.toNat x*5=_;omega
   ((conv=>whnf);refine bm (fun a2=>?_) (fun a2=>?_))
   ·(conv=>whnf);refine IF (VO D (i:=y.toNat) (by omega) ?_) ?_
    ·show _+Int.toNat y*5=_;omega
    ((conv=>whnf);refine bm (fun a3=>?_) (fun a3=>?_))
    ·(conv=>whnf);rfl
    ·exfalso;have a3:(wide (eF (bV D x.toNat))&&wide (eF (bV D y.toNat)))=false:=a3;rw [wx,wy] at a3;cases a3
   ·exfalso;simp [aA,aF] at a2;omega
  ·exfalso;simp [aA,aF] at a1;omega
 ·rintro args h nx K ⟨x,y,p,D,rfl,hd,hx⟩;obtain⟨hb,hx⟩:=aG.1 hx;obtain⟨n0,c0,n1,c1,F,cc,i⟩:=aG6 (nx:=nx) hd x y;refine⟨_,_,5,_,[],0,⟨x,y,D,n0,c0,n1,c1,F,cc,hb,rfl,rfl,rfl,rfl,rfl,rfl⟩,i,?_⟩;exact hx
 ·rintro args h nx K ⟨x,y,p,D,rfl,hd,hx⟩;obtain⟨hb,hx⟩:=aG.1 hx;exact⟨_,_,_,hx,fun K' hk'=>⟨x,y,p,D,rfl,hd,aJ hb hk'⟩⟩
end Go.Aw
end

noncomputable section
namespace Go.Aw
open Go.RowKit
section
variable {α:Type}(E:El α)
theorem KN {ι ι':Nat→Loc}{B:Nat}{w:World}{sz:Nat}{cs:List Value}{loc:Loc}(hg:c9 cs=true)(h:jR ι B w (.cells true false sz cs) loc):jR ι' B w (.cells true false sz cs) loc:=by
 cases loc with
 |nil p=>exact h
 |lay b o e =>
  obtain⟨x1,x2,arr,t,x3,x4,x5⟩:=h;refine⟨x1,x2,arr,t,x3,x4,fun i v hv=>?_⟩;rw [x5 i v hv,jM (aU hg (List.mem_of_getElem? hv)),jM (aU hg (List.mem_of_getElem? hv))]
end
def wV (k:Nat)(ι:Nat→Loc):Nat→Loc:=fun j=>if j=0 then ι k else ι (j - 1)
theorem nZ (k:Nat)(ι:Nat→Loc):wV k ι 0=ι k:=if_pos rfl
theorem jT (k:Nat)(ι:Nat→Loc)(j:Nat):wV k ι (1+j)=ι j:=by
 unfold wV;rw [if_neg (by omega),Nat.add_sub_cancel_left]
def KH (F:Heap)(nx:Nat):Prop:=1≤nx∧∀ j o,look F j=some o→0<j∧j<nx∧bO id nx o o
theorem bI {b n0 nx:Nat}{I:KS}{e0 e:List (Nat × Value)}{F:Heap}{o0 o:aT}(hF:KH F n0)(hI:I e0 ((0,o0)::F) n0)(he:∀ p∈e0,look e p.1=some (iB id p.2)∧A0 n0 p.2)(ho:bO id n0 o0 o)(hb:b≤n0) :
  qU b I e ((0,o)::F) nx:=by
 refine⟨e0,(0,o0)::F,n0,id,hI,fun t v hv=>he (t,v) (bF hv),fun k q hk=>?_,fun k k' q q' _ _ e=>e,fun k _=>rfl,hb⟩;rw [aC] at hk;split at hk
 ·rename_i hb1;injection hk with hk;subst hk;have:=beq_true hb1;subst this;exact⟨hF.1,o,rfl,ho⟩
 ·obtain⟨h1,h2,h3⟩:=hF.2 k q hk;refine⟨h2,q,?_,h3⟩;show look ((0,o)::F) k=some q;rw [aC];rename_i hb1;rw [hb1];exact hk
theorem fJ {n:Nat}:∀ (h:Heap) {j:Nat} {o:aT},look h j=some o→look (lT n h) (n+j)=some (SI n o)
 |[],j,o,hl=>(by cases hl)
 |(i,q)::r,j,o,hl=>by
  rw [aC] at hl;simp only [lT];rw [aC];split at hl
  ·rename_i hb;injection hl with hl;subst hl;have:=beq_true hb;subst this;rw [Nat.beq_refl]
  ·rename_i hb;have hne:Nat.beq (n+i) (n+j)=false:=by
    cases hb':Nat.beq (n+i) (n+j) with
    |false=>rfl
    |true =>
     have:=beq_true hb';have:i=j:=(by omega);subst this;rw [Nat.beq_refl] at hb;cases hb
   rw [hne];exact fJ r hl
theorem KJ {ι:Nat→Loc}{σ:Nat→Nat}{n:Nat}{v:Value}(h:nV ι n v):nV (lB σ) n v:=by
 cases v with
 |pointer a=>cases a with
  |none=>trivial
  |some a=>exact⟨h.1,rfl⟩
 |slice a l c=>cases a with
  |none=>trivial
  |some a=>exact⟨h.1,fun hf=>by cases hf⟩
 |map a=>cases a with
  |none=>trivial
  |some a=>exact⟨h.1,rfl⟩
 |agg c=>exact h.elim
 |tuple c=>exact h.elim
 |_=>trivial
theorem aBO {ι:Nat→Loc}{σ:Nat→Nat}{n:Nat}{v:Value}(h:gG ι n v):gG (lB σ) n v:=by
 cases v with
 |func f a c =>
  refine⟨?_,fun x hx=>KJ (h.2 x hx)⟩;have h1:=h.1;cases f with
  |yield l=>exact⟨h1.1,rfl⟩
  |_=>trivial
 |pointer a=>have:=KJ (ι:=ι) (σ:=σ) (n:=n) (v:=.pointer a);cases a <;> exact this h
 |slice a l c=>have:=KJ (ι:=ι) (σ:=σ) (n:=n) (v:=.slice a l c);cases a <;> exact this h
 |map a=>have:=KJ (ι:=ι) (σ:=σ) (n:=n) (v:=.map a);cases a <;> exact this h
 |agg c=>exact h.elim
 |tuple c=>exact h.elim
 |_=>trivial
section
variable {ι ι0:Nat→Loc}{B n:Nat}{w:World}
theorem aBF {v:Value}(hs:gG ι n v)(hι:∀ j,j<n→ι0 (1+j)=ι j):gG ι0 (1+n) (bR (fun k=>1+k) v) :=
 iY (m:=n) (gM (ι:=ι) (ι':=fun k=>ι0 (1+k)) (Nat.le_refl _) hι hs) (fun k hk=>by omega)
theorem aF0 {v:Value}(hs:gG ι n v)(hι:∀ j,j<n→ι0 (1+j)=ι j):bS ι0 (bR (fun k=>1+k) v)=bS ι v:=by
 unfold bR;rw [gW (n:=1+n) (aBF hs hι)];exact lJ (ι:=ι) (ι':=fun k=>ι0 (1+k)) hι hs
theorem aBQ {v:Value}(hs:gG ι n v):AB (1+n) (bR (fun k=>1+k) v) :=
 iY (m:=n) (aBO hs) (fun k hk=>by omega)
theorem aEx {v:Value}(hs:gG ι n v):bR id (bR (fun k=>1+k) v)=bR (fun k=>1+k) v:=by
 unfold bR;rw [gW (n:=1+n) (aBQ hs)];rfl
theorem S4 {wr g:Bool}{sz:Nat}{cs:List Value}{l:Loc}(h:jR ι B w (.cells wr g sz cs) l)(hs:∀ v∈cs,gG ι n v)(hι:∀ j,j<n→ι0 (1+j)=ι j):jR ι0 B w (SI 1 (.cells wr g sz cs)) l:=by
 have hg:∀ {q:Prop},(g=true→c9 cs=true)→g=true→c9 (cs.map (bR fun k=>1+k))=true:=fun hq e=>pM fun v hv=>by
  obtain⟨u,hu,rfl⟩:=List.mem_map.1 hv;exact aF4 (aU (hq e) hu)
 have key:∀ {Φ:Nat→Value→Prop},(∀ (i:Nat) v,cs[i]? = some v→Φ i (bS ι v))→∀ (i:Nat) v,(cs.map (bR fun k=>1+k))[i]? = some v→Φ i (bS ι0 v):=fun hΦ i v hv=>by
  rw [List.getElem?_map] at hv;obtain⟨u,hu,rfl⟩:=Option.map_eq_some_iff.1 hv;rw [aF0 (hs u (List.mem_of_getElem? hu)) hι];exact hΦ i u hu
 cases l with
 |nil p =>
  have h1:cs=[]∧(sz=0∨wr=true→p.isSome=true):=(by cases wr <;> exact h);obtain⟨rfl,hz⟩:=h1;cases wr <;> exact⟨rfl,hz⟩
 |lay b o e =>
  cases wr with
  |true =>
   obtain⟨x1,x2,arr,t,x3,x4,x5⟩:=h;exact⟨x1,hg (q:=True) x2,arr,t,x3,by rw [List.length_map];exact x4,key (Φ:=fun i v=>arr[o+i]? = some v) x5⟩
  |false =>
   obtain⟨x1,x2,x3⟩:=h;exact⟨x1,hg (q:=True) x2,key (Φ:=fun i v=>w.cell? ⟨b,o+i,none⟩=some v) x3⟩
theorem H4 {wr g:Bool}{sz:Nat}{cs:List Value}{l:Loc}(h:jR ι0 B w (SI 1 (.cells wr g sz cs)) l)(hs:∀ v∈cs,gG ι n v)(hι:∀ j,j<n→ι0 (1+j)=ι j)(hg0:g=true→c9 cs=true):jR ι B w (.cells wr g sz cs) l:=by
 have key:∀ {Φ:Nat→Value→Prop},(∀ (i:Nat) v,(cs.map (bR fun k=>1+k))[i]? = some v→Φ i (bS ι0 v))→∀ (i:Nat) v,cs[i]? = some v→Φ i (bS ι v):=fun hΦ i v hv=>by
  rw [← aF0 (hs v (List.mem_of_getElem? hv)) hι];exact hΦ i _ (by rw [List.getElem?_map,hv];rfl)
 cases l with
 |nil p =>
  have h1:cs.map (bR fun k=>1+k)=[]∧(sz=0∨wr=true→p.isSome=true):=(by cases wr <;> exact h);have h2:cs=[]:=(by simpa using h1.1);cases wr <;> exact⟨h2,h1.2⟩
 |lay b o e =>
  cases wr with
  |true =>
   obtain⟨x1,x2,arr,t,x3,x4,x5⟩:=h;rw [List.length_map] at x4;exact⟨x1,hg0,arr,t,x3,x4,key (Φ:=fun i v=>arr[o+i]? = some v) x5⟩
  |false =>
   obtain⟨x1,x2,x3⟩:=h;exact⟨x1,hg0,key (Φ:=fun i v=>w.cell? ⟨b,o+i,none⟩=some v) x3⟩
end
theorem JA (n:Nat)(o:aT):(SI n o).alone=o.alone:=by cases o <;> rfl
def rv (k c:Nat):Option Nat→Value
 |none=>.tuple #[]
 |some m=>.slice (some ⟨k,0,none⟩) m c
section
variable {α:Type}(E:El α)
def frX (s:List α→List Value→Nat→Option (Bool × Option Nat × List Value)):XF:=fun args h nx K=>match args with
 |.slice (some ⟨k,0,none⟩) n c::r=>∃ l,n=l.length∧look h k=some (.cells true false E.sz (flat E.fl l))∧fQ h=true∧(match s l r c with|some p=>dP p.1 (K (rv k c p.2.1) (qJ h k (.cells true false E.sz p.2.2)) nx)|none=>False)
 |_=>False
theorem aGC {P:Program}{C:VC}{f:Nat}{s:List α→List Value→Nat→Option (Bool × Option Nat × List Value)}(hC:bL P C)
  (hs:∀ l r c m cs',s l r c=some (true,m,cs')→fC r=true∧c9 cs'=true∧(∀ q,m=some q→q≤l.length) ∧
   ∀ F nx,KH F nx→C f (.slice (some ⟨0,0,none⟩) l.length c::r) ((0,.cells true false E.sz (flat E.fl l))::F) nx (fun v h _=>v=rv 0 c m∧h=(0,.cells true false E.sz cs')::F)):dM P f (frX E s):=by
 refine⟨fun args h nx K hx ι B w H hsc=>?_,fun args h nx K hx=>?_⟩
 ·unfold frX at hx;split at hx
  case h_2=>exact hx.elim
  rename_i k n c r;obtain⟨l,rfl,hk,hcH,hx⟩:=hx;split at hx
  case h_2=>exact hx.elim
  rename_i p e1;obtain⟨b,m,cs'⟩:=p;obtain⟨rfl,hx⟩:=aG.1 hx;obtain⟨a1,a2,a3,a4⟩:=hs l r c m cs' e1;have hsl:k<nx∧((ι k).fI=false→l.length=0∧c=0):=hsc _ (.head _);have hcells:∀ j o,look h j=some o→∃ wr g sz cs,o=.cells wr g sz cs:=fun j o hj=>nG hcH hj;have hι0:∀ j,j<nx→wV k ι (1+j)=ι j:=fun j _=>jT k ι j;have hF:∀ j q,look (lT 1 (rem h k)) j=some q→∃ i o,j=1+i∧i≠k∧look h i=some o∧q=SI 1 o:=by
   intro j q hq;obtain⟨i,o,e2,e3,e4⟩:=jV _ hq;rw [cT] at e3;split at e3
   ·cases e3
   ·rename_i hne;exact⟨i,o,e2,hne,e3,e4⟩
  have hFr:KH (lT 1 (rem h k)) (1+nx):=by
   refine⟨by omega,fun j q hq=>?_⟩;obtain⟨i,o,rfl,hne,hi,rfl⟩:=hF j q hq;have hlow:=H.low i o hi;obtain⟨wr,g,sz,cs,rfl⟩:=hcells i o hi;refine⟨by omega,by omega,rfl,rfl,rfl,?_,fun v hv=>?_⟩
   ·rw [List.map_map];exact List.map_congr_left fun v hv=>(aEx (H.sc i _ hi v hv)).symm
   ·obtain⟨u,hu,rfl⟩:=List.mem_map.1 hv;exact aBQ (H.sc i _ hi u hu)
  have H0:aQ (wV k ι) B ((0,.cells true false E.sz (flat E.fl l))::lT 1 (rem h k)) (1+nx) w:=by
   refine⟨fun j q hq=>?_,fun j j' q q' hq hq' hne ha b hb=>?_,fun j q hq=>?_,H.size,fun j q hq=>?_⟩
   ·rw [aC] at hq;split at hq
    ·rename_i hb;injection hq with hq;subst hq;have:=beq_true hb;subst this;rw [nZ];exact KN (aE E l) (H.obj k _ hk)
    ·obtain⟨i,o,rfl,hne,hi,rfl⟩:=hF j q hq;obtain⟨wr,g,sz,cs,rfl⟩:=hcells i o hi;rw [jT];exact S4 (H.obj i _ hi) (H.sc i _ hi) hι0
   ·rw [aC] at hq hq';split at hq
    ·rename_i hb1;have:=beq_true hb1;subst this;split at hq'
     ·rename_i hb2;exact absurd (beq_true hb2) hne
     ·obtain⟨i,o,rfl,hni,hi,rfl⟩:=hF j' q' hq';rw [nZ] at hb;rw [jT];exact H.sep k i _ _ hk hi (fun e=>hni e.symm) rfl b hb
    ·obtain⟨i,o,rfl,hni,hi,rfl⟩:=hF j q hq;rw [JA] at ha;rw [jT] at hb;split at hq'
     ·rename_i hb2;have:=beq_true hb2;subst this;rw [nZ];exact H.sep i k _ _ hi hk hni ha b hb
     ·obtain⟨i',o',rfl,hni',hi',rfl⟩:=hF j' q' hq';rw [jT];exact H.sep i i' _ _ hi hi' (fun e=>hne (by rw [e])) ha b hb
   ·rw [aC] at hq;split at hq
    ·rename_i hb;rw [← beq_true hb];omega
    ·exact (hFr.2 j q hq).2.1
   ·rw [aC] at hq;split at hq
    ·injection hq with hq;subst hq;exact fun v hv=>cA (aU (aE E l) hv)
    ·obtain⟨i,o,rfl,hni,hi,rfl⟩:=hF j q hq;obtain⟨wr,g,sz,cs,rfl⟩:=hcells i o hi;intro v hv;obtain⟨u,hu,rfl⟩:=List.mem_map.1 hv;exact aBF (H.sc i _ hi u hu) hι0
  have hrun:=hC f _ _ (1+nx) _ (a4 _ _ hFr) (wV k ι) B w H0 (fun v hv=>by
   cases hv with
   |head=>exact⟨show 0<1+nx by omega,fun hf=>hsl.2 (by rw [nZ] at hf;exact hf)⟩
   |tail _ hm=>exact cY (cC a1 hm))
  refine⟨hrun.1,?_⟩;have he:((.slice (some ⟨k,0,none⟩) l.length c::r):List Value).map (tr ι)=((.slice (some ⟨0,0,none⟩) l.length c::r):List Value).map (tr (wV k ι)):=by
   rw [List.map_cons,List.map_cons];congr 1;exact List.map_congr_left fun v hv=>by rw [fZ (cC a1 hv),fZ (cC a1 hv)]
  rw [he];refine CallsIn.mono hrun.2 fun e w' hret=>?_;cases e with
  |returned u =>
   obtain⟨v,h',nx',ι1,⟨rfl,rfl⟩,q2,q3,q4,q5,q6,rfl⟩:=hret;have hι1:∀ j,j<nx→ι1 (1+j)=ι j:=fun j hj=>(q5 (1+j) (by omega)).trans (jT k ι j);have hι10:ι1 0=ι k:=(q5 0 (by omega)).trans (nZ k ι);have hback:∀ j o,look (qJ h k (.cells true false E.sz cs')) j=some o→(j=k∧o=.cells true false E.sz cs')∨(j≠k∧look h j=some o):=by
    intro j o hj;rw [kX] at hj;split at hj
    ·rename_i e;injection hj with hj;exact .inl ⟨e,hj.symm⟩
    ·rename_i e;exact .inr ⟨e,hj⟩
   refine⟨rv k c m,_,nx,ι,hx,?_,⟨fun j o hj=>?_,fun j j' o o' hj hj' hne ha b hb=>?_,fun j o hj=>?_,q3.size,fun j o hj=>?_⟩,q4,fun _ _=>rfl,Nat.le_refl _,?_⟩
   ·cases m with
    |none=>exact fun v hv=>(by cases hv)
    |some q =>
     refine⟨hsl.1,fun hf=>?_⟩;have:=hsl.2 hf;have:=a3 q rfl;omega
   ·rcases hback j o hj with ⟨rfl,rfl⟩|⟨hne,hj⟩
    ·have:=q3.obj 0 (.cells true false E.sz cs') rfl;rw [hι10] at this;exact KN a2 this
    ·obtain⟨wr,g,sz,cs,rfl⟩:=hcells j o hj;have hlow:=H.low j _ hj;have h1:look ((0,.cells true false E.sz cs')::lT 1 (rem h k)) (1+j)=some (SI 1 (.cells wr g sz cs)):=by
      rw [aC,show Nat.beq 0 (1+j)=false by cases hb:Nat.beq 0 (1+j) with|false=>rfl|true=>have:=beq_true hb;omega];exact fJ _ (by rw [cT,if_neg hne];exact hj)
     have h2:=q3.obj _ _ h1;rw [hι1 j hlow] at h2;refine H4 h2 (H.sc j _ hj) hι1 ?_;intro hgt;have h3:=H.obj j _ hj;cases hl:ι j with
     |nil p =>
      rw [hl] at h3;have h4:cs=[]∧(sz=0∨wr=true→p.isSome=true):=(by cases wr <;> exact h3);rw [h4.1];rfl
     |lay b off ex =>
      rw [hl] at h3;cases wr with
      |true=>exact h3.2.1 hgt
      |false=>exact h3.2.1 hgt
   ·rcases hback j o hj with ⟨e3,e4⟩|⟨hnk,hj2⟩
    ·rcases hback j' o' hj' with ⟨e5,e6⟩|⟨hnk',hj3⟩
     ·exact absurd (e3.trans e5.symm) hne
     ·exact H.sep j j' _ _ (by rw [e3];exact hk) hj3 hne rfl b hb
    ·rcases hback j' o' hj' with ⟨e5,e6⟩|⟨hnk',hj3⟩
     ·exact H.sep j j' _ _ hj2 (by rw [e5];exact hk) hne ha b hb
     ·exact H.sep j j' _ _ hj2 hj3 hne ha b hb
   ·rcases hback j o hj with ⟨rfl,rfl⟩|⟨hnk,hj⟩
    ·exact hsl.1
    ·exact H.low j o hj
   ·rcases hback j o hj with ⟨rfl,rfl⟩|⟨hnk,hj⟩
    ·exact fun v hv=>cA (aU a2 hv)
    ·exact H.sc j o hj
   ·cases m with
    |none=>simp [rv,tr]
    |some q=>simp only [rv,tr,dS,bS,dT,hι10]
  |_=>exact hret.elim
 ·unfold frX at hx;split at hx
  case h_2=>exact hx.elim
  rename_i k n c r;obtain⟨l,hn,hk,hcH,hx⟩:=hx;split at hx
  case h_2=>exact hx.elim
  rename_i p e1;obtain⟨hb,hx⟩:=aG.1 hx;exact⟨_,_,_,hx,fun K' hk'=>⟨l,hn,hk,hcH,by rw [e1];exact aJ hb hk'⟩⟩
end
end Go.Aw
end
