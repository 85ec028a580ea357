/-
  Parts of a proof. No condition.
-/
import Derived.Test.YticajjhjehljpaaGreatQAp
import Derived.Test.YticajjhjehljpaaGreatQAq
set_option linter.unusedSimpArgs false
set_option linter.unusedVariables false
noncomputable section
namespace Go.Aw
set_option maxRecDepth 100000
def liS (l:List Pt)(m:List Ed)(n:Int):List Value→Option (Bool × Value)
 |[]=>some (decide (l.length≤1000)&&decide (m.length≤1000),.bool (cL l m n))
 |_=>none
theorem aBY {l:List Pt}{m:List Ed}{n:Int}{r:List Value}{v:Value}(h:liS l m n r=some (true,v)):r=[]∧l.length≤1000∧m.length≤1000∧v=.bool (cL l m n):=by
 unfold liS at h;split at h
 ·injection h with h;injection h with h1 h2;simp only [Bool.and_eq_true,decide_eq_true_eq] at h1;exact⟨rfl,h1.1,h1.2,h2.symm⟩
 ·cases h
def LI (N c:Nat)(j:Int):List (Nat × Value):=[(1,.pointer (some ⟨2,0,none⟩)),(35,.slice (some ⟨0,0,none⟩) N c),(36,iv N),(37,iv j)]
def AZ (N M c:Nat)(j:Int):List (Nat × Value):=[(1,.pointer (some ⟨2,0,none⟩)),(5,.slice (some ⟨3,0,none⟩) N N),(66,.slice (some ⟨1,0,none⟩) M c),(67,iv M),(68,iv j)]
def UC:Nat × XF:=(79,mX a8 aX liS)
theorem aHK:dK Go.Proofs.Tryz.prog UC.1 UC.2:=AQ a8 aX (aR (xl:=[X17,aGx,OU,Y8,RY]) (.cons x17 (.cons aIC (.cons QD (.cons aGk (.cons aED .nil)))))) fun l m n r v hs=>by
 obtain⟨rfl,hl,hm,rfl⟩:=aBY hs;clear hs;refine⟨rfl,rfl,fun c1 c2=>?_⟩;have hszf:¬ (l.length≤400∧3≤m.length∧m.length≤400∧1≤n∧n≤100)→cL l m n=false:=fun h=>aGG (by
  cases hz:szB l m n with
  |false=>rfl
  |true=>simp only [szB,Bool.and_eq_true,decide_eq_true_eq] at hz;exact absurd ⟨hz.1.1.1.1,hz.1.1.1.2,hz.1.1.2,hz.1.2,hz.2⟩ h)
 ((conv=>whnf);refine bm (fun a1=>?_) (fun a1=>?_))
 ·have a1:¬ 400<l.length:=(by simp [aA,aG] at a1;omega);((conv=>whnf);refine bm (fun a2=>?_) (fun a2=>?_))
  ·have a2:¬ m.length<3:=(by simp [aA,aG] at a2;omega);((conv=>whnf);refine bm (fun a3=>?_) (fun a3=>?_))
   ·have a3:¬ 400<m.length:=(by simp [aA,aG] at a3;omega);((conv=>whnf);refine bm (fun a4=>?_) (fun a4=>?_))
    ·have a4:¬ n<1:=(by simp [aA,aG] at a4;omega);((conv=>whnf);refine bm (fun a5=>?_) (fun a5=>?_))
     ·have a5:100<n:=(by simp [aA,aG] at a5;omega);(conv=>whnf);rw [hszf (by omega)]
     ·have a5:¬ 100<n:=(by simp [aA,aG] at a5;omega);have hsz:szB l m n=true:=by
       simp only [szB,Bool.and_eq_true,decide_eq_true_eq];omega
      clear hszf;(conv=>whnf);refine⟨fun q e h nx=>∃ (i:Nat) (j:Int),j=i∧i≤l.length∧q=l.length - i∧(∀ t,t<i→QE l t=true)∧e=LI l.length c1 j∧h=z7 l m c1 c2 n∧nx=3,⟨l.length,?_⟩,?_⟩
      ·refine c8 (e0:=LI l.length c1 0) (h0:=z7 l m c1 c2 n) (n0:=3) ⟨0,0,rfl,Nat.zero_le _,rfl,fun t ht=>absurd ht (Nat.not_lt_zero t),rfl,rfl,rfl⟩ ?_ ?_ (by decide)
       ·unfold LI;((repeat' refine iE rfl rfl ?_);exact iN)
       ·unfold z7 bI aE;((repeat'(first|refine iF rfl rfl ?_|refine iC rfl rfl rfl ?_|refine iJ rfl rfl rfl rfl ?_));exact iN)
      ·rintro q e h nx ⟨i,j,hj,hi,rfl,hpt,rfl,rfl,rfl⟩;unfold LI z7 bI aE;((conv=>whnf);refine bm (fun b1=>?_) (fun b1=>?_))
       ·have hlt:i<l.length:=(by simp [aA,aG] at b1;omega);((conv=>whnf);refine bm (fun b2=>?_) (fun b2=>?_))
        ·(conv=>whnf);refine K6 (tT l (i:=i) hlt ?_) ?_
         ·show _+Int.toNat j*2=_;omega
         ((conv=>whnf);refine bm (fun b3=>?_) (fun b3=>?_))
         ·have hr:aW (pZ l i)=true:=(by simpa [aA,aG] using b3);((conv=>whnf);refine bm (fun b4=>?_) (fun b4=>?_))
          ·have hi0:i≠0:=(by simp [aA,aG] at b4;omega);((conv=>whnf);refine bm (fun b5=>?_) (fun b5=>?_))
           ·((conv=>whnf);refine bm (fun b6=>?_) (fun b6=>?_))
            ·(conv=>whnf);refine K6 (tT l (i:=i - 1) (by omega) ?_) ?_
             ·show _+Int.toNat (j - 1)*2=_;omega
             ((conv=>whnf);refine bm (fun b8=>?_) (fun b8=>?_))
             ·have b8:fP (pZ l (i - 1)) (pZ l i)=false:=by
               rw [wM];have:0≤jS (pZ l (i - 1)) (pZ l i):=(by simpa [aA,aG] using b8);exact decide_eq_false (by omega)
              (conv=>whnf);rw [aAX hlt (show QE l i=false by rw [QE,hr,b8,decide_eq_false hi0];rfl)]
             ·have b8:fP (pZ l (i - 1)) (pZ l i)=true:=by
               rw [wM];have:¬ 0≤jS (pZ l (i - 1)) (pZ l i):=(by simpa [aA,aG] using b8);exact decide_eq_true (by omega)
              have hyes:QE l i=true:=(by rw [QE,hr,b8];simp);((conv=>whnf);refine bm (fun b9=>?_) (fun b9=>?_))
              ·(conv=>whnf);refine⟨l.length - (i+1),by omega,?_⟩;refine c8 (e0:=LI l.length c1 (j+1)) (h0:=z7 l m c1 c2 n) (n0:=3) ⟨i+1,j+1,by omega,by omega,rfl,fun t ht=>?_,rfl,rfl,rfl⟩ ?_ ?_ (by decide)
               ·by_cases hti:t=i
                ·rw [hti];exact hyes
                ·exact hpt t (by omega)
               ·unfold LI;((repeat' refine iE rfl rfl ?_);exact iN)
               ·unfold z7 bI aE;((repeat'(first|refine iF rfl rfl ?_|refine iC rfl rfl rfl ?_|refine iJ rfl rfl rfl rfl ?_));exact iN)
              ·exfalso;simp [aA,aG,aK] at b9;omega
            ·exfalso;simp [aA,aG] at b6;omega
           ·exfalso;simp [aA,aG,aK] at b5;omega
          ·have hi0:i=0:=(by simp [aA,aG] at b4;omega);have hyes:QE l i=true:=(by rw [QE,hr,hi0];rfl);((conv=>whnf);refine bm (fun b9=>?_) (fun b9=>?_))
           ·(conv=>whnf);refine⟨l.length - (i+1),by omega,?_⟩;refine c8 (e0:=LI l.length c1 (j+1)) (h0:=z7 l m c1 c2 n) (n0:=3) ⟨i+1,j+1,by omega,by omega,rfl,fun t ht=>?_,rfl,rfl,rfl⟩ ?_ ?_ (by decide)
            ·by_cases hti:t=i
             ·rw [hti];exact hyes
             ·exact hpt t (by omega)
            ·unfold LI;((repeat' refine iE rfl rfl ?_);exact iN)
            ·unfold z7 bI aE;((repeat'(first|refine iF rfl rfl ?_|refine iC rfl rfl rfl ?_|refine iJ rfl rfl rfl rfl ?_));exact iN)
           ·exfalso;simp [aA,aG,aK] at b9;omega
         ·have hr:aW (pZ l i)=false:=(by simpa [aA,aG] using b3);(conv=>whnf);rw [aAX hlt (show QE l i=false by rw [QE,hr];rfl)]
        ·exfalso;simp [aA,aG] at b2;omega
       ·have hge:i=l.length:=(by simp [aA,aG] at b1;omega);subst hge;clear b1 hi hj;((conv=>whnf);refine bm (fun m1=>?_) (fun m1=>?_))
        ·(conv=>whnf);refine⟨fun q e h nx=>∃ (i:Nat) (j:Int),j=i∧i≤m.length∧q=m.length - i∧(∀ t,t<i→P5 l m t=true)∧e=AZ l.length m.length c2 j∧h=A0 l m c1 c2 n (x6 m (List.replicate l.length false) i)∧nx=4,⟨m.length,?_⟩,?_⟩
         ·refine c8 (e0:=AZ l.length m.length c2 0) (h0:=A0 l m c1 c2 n (List.replicate l.length false)) (n0:=4) ⟨0,0,rfl,Nat.zero_le _,rfl,fun t ht=>absurd ht (Nat.not_lt_zero t),rfl,rfl,rfl⟩ ?_ ?_ (by decide)
          ·unfold AZ;((repeat' refine iE rfl rfl ?_);exact iN)
          ·unfold A0 z7 bI aE;have hrep:=KV l.length;((repeat'(first|refine iW rfl rfl (cV (aF lU _) hrep) ?_|refine iF rfl rfl ?_|refine iC rfl rfl rfl ?_|refine iJ rfl rfl rfl rfl ?_));exact iN)
         ·rintro q e h nx ⟨i,j,hj,hi,rfl,hed0,rfl,rfl,rfl⟩;have rl:(x6 m (List.replicate l.length false) i).length=l.length:=(by rw [FP,List.length_replicate]);have nxt:x6 m (List.replicate l.length false) (i+1)=((x6 m (List.replicate l.length false) i).set (dG m i).a.toNat true).set (dG m i).b.toNat true:=rfl;generalize hs0:x6 m (List.replicate l.length false) i=s at rl nxt;have hsl:(flat lU.fl s).length=l.length:=(by rw [cG,rl];exact Nat.mul_one _);unfold AZ A0 z7 bI aE;((conv=>whnf);refine bm (fun d1=>?_) (fun d1=>?_))
          ·have hlt:i<m.length:=(by simp [aA,aG] at d1;omega);((conv=>whnf);refine bm (fun d2=>?_) (fun d2=>?_))
           ·(conv=>whnf);refine K6 (aDz m (i:=i) hlt ?_) ?_
            ·show _+Int.toNat j*5=_;omega
            generalize hed:dG m i=ed at nxt;((conv=>whnf);refine bm (fun f1=>?_) (fun f1=>?_))
            ·have f1:0≤ed.a:=(by simp [aA,aG] at f1;omega);((conv=>whnf);refine bm (fun f2=>?_) (fun f2=>?_))
             ·have f2:ed.a<ed.b:=(by simp [aA,aG] at f2;omega);((conv=>whnf);refine bm (fun f3=>?_) (fun f3=>?_))
              ·have f3:ed.b<l.length:=(by simp [aA,aG] at f3;omega);((conv=>whnf);refine bm (fun f4=>?_) (fun f4=>?_))
               ·have f4 : -1≤ed.n:=(by simp [aA,aG] at f4;omega);((conv=>whnf);refine bm (fun f5=>?_) (fun f5=>?_))
                ·have f5:200≤ed.n:=(by simp [aA,aG] at f5;omega);(conv=>whnf);rw [yX hlt (EO hed (by omega))]
                ·have f5:ed.n<200:=(by simp [aA,aG] at f5;omega);((conv=>whnf);refine bm (fun f6=>?_) (fun f6=>?_))
                 ·have f6:0<i:=(by simp [aA,aG] at f6;omega);((conv=>whnf);refine bm (fun f7=>?_) (fun f7=>?_))
                  ·((conv=>whnf);refine bm (fun f8=>?_) (fun f8=>?_))
                   ·(conv=>whnf);refine lD (L9 m 0 (i:=i - 1) (by omega) rfl (by decide) ?_) ?_
                    ·show _+Int.toNat (j - 1)*5+0=_;omega
                    ((conv=>whnf);refine bm (fun f9=>?_) (fun f9=>?_))
                    ·((conv=>whnf);refine bm (fun f10=>?_) (fun f10=>?_))
                     ·(conv=>whnf);refine lD (L9 m 1 (i:=i - 1) (by omega) rfl (by decide) ?_) ?_
                      ·show _+Int.toNat (j - 1)*5+1=_;omega
                      generalize hd0:dG m (i - 1)=dd;(conv=>whnf);refine⟨[gH dd.a ed.a,gH dd.b ed.b],⟨rfl,_,_,_,_,rfl,rfl⟩,?_⟩;((conv=>whnf);refine bm (fun f11=>?_) (fun f11=>?_))
                      ·have f11:bfE dd ed=false:=by
                        rw [UP];have:0≤XS (gH dd.a ed.a) (gH dd.b ed.b):=(by simpa [aA,aG] using f11);exact decide_eq_false (by omega)
                       (conv=>whnf);rw [yX hlt (aFx hed hd0 (by omega) f11)]
                      ·have f11:bfE dd ed=true:=by
                        rw [UP];have:¬ 0≤XS (gH dd.a ed.a) (gH dd.b ed.b):=(by simpa [aA,aG] using f11);exact decide_eq_true (by omega)
                       have hyes:P5 l m i=true:=TE hed ⟨f1,f2,f3,f4,f5⟩ (by rw [hd0,f11,Bool.or_true]);((conv=>whnf);refine bm (fun k1=>?_) (fun k1=>?_))
                       ·((conv=>whnf);refine bm (fun k2=>?_) (fun k2=>?_))
                        ·((conv=>whnf);refine bm (fun k3=>?_) (fun k3=>?_))
                         ·((conv=>whnf);refine bm (fun k4=>?_) (fun k4=>?_))
                          ·((conv=>whnf);refine bm (fun k5=>?_) (fun k5=>?_))
                           ·(conv=>whnf);refine⟨m.length - (i+1),by omega,?_⟩;refine c8 (e0:=AZ l.length m.length c2 (j+1)) (h0:=A0 l m c1 c2 n (x6 m (List.replicate l.length false) (i+1))) (n0:=4) ⟨i+1,j+1,by omega,by omega,rfl,fun t ht=>?_,rfl,rfl,rfl⟩ ?_ ?_ (by decide)
                            ·by_cases hti:t=i
                             ·rw [hti];exact hyes
                             ·exact hed0 t (by omega)
                            ·unfold AZ;((repeat' refine iE rfl rfl ?_);exact iN)
                            ·unfold A0 z7 bI aE;have cC:=aHw (s:=s) (a:=ed.a.toNat) (b:=ed.b.toNat) (o1:=0+ed.a.toNat*1) (o2:=0+ed.b.toNat*1) (by omega) (by omega) (by omega) (by omega);rw [nxt];((repeat'(first|refine iW rfl rfl (cV (aF lU _) cC) ?_|refine iF rfl rfl ?_|refine iC rfl rfl rfl ?_|refine iJ rfl rfl rfl rfl ?_));exact iN)
                           ·exfalso;simp [aA,aG,aK] at k5;omega
                          ·have hpl:(eC (flat lU.fl s) (0+ed.a.toNat*1) [.bool true]).length=l.length:=(by rw [gO (by rw [hsl];show 0+ed.a.toNat*1+1≤l.length;omega)];exact hsl);have k4:(0+ed.b.toNat*1+1).ble (eC (flat lU.fl s) (0+ed.a.toNat*1) [.bool true]).length=false:=k4;rw [hpl] at k4;exact kH k4 (by omega)
                         ·exfalso;simp [aA,aG] at k3;omega
                        ·rw [hsl] at k2;exact kH k2 (by show 0+ed.a.toNat*1+1≤l.length;omega)
                       ·exfalso;simp [aA,aG] at k1;omega
                     ·exfalso;simp [aA,aG] at f10;omega
                    ·exfalso;simp [aA,aG,aK] at f9;omega
                   ·exfalso;simp [aA,aG] at f8;omega
                  ·exfalso;simp [aA,aG,aK] at f7;omega
                 ·have f6:i=0:=(by simp [aA,aG] at f6;omega);have hyes:P5 l m i=true:=TE hed ⟨f1,f2,f3,f4,f5⟩ (by simp [f6]);((conv=>whnf);refine bm (fun k1=>?_) (fun k1=>?_))
                  ·((conv=>whnf);refine bm (fun k2=>?_) (fun k2=>?_))
                   ·((conv=>whnf);refine bm (fun k3=>?_) (fun k3=>?_))
                    ·((conv=>whnf);refine bm (fun k4=>?_) (fun k4=>?_))
                     ·((conv=>whnf);refine bm (fun k5=>?_) (fun k5=>?_))
                      ·(conv=>whnf);refine⟨m.length - (i+1),by omega,?_⟩;refine c8 (e0:=AZ l.length m.length c2 (j+1)) (h0:=A0 l m c1 c2 n (x6 m (List.replicate l.length false) (i+1))) (n0:=4) ⟨i+1,j+1,by omega,by omega,rfl,fun t ht=>?_,rfl,rfl,rfl⟩ ?_ ?_ (by decide)
                       ·by_cases hti:t=i
                        ·rw [hti];exact hyes
                        ·exact hed0 t (by omega)
                       ·unfold AZ;((repeat' refine iE rfl rfl ?_);exact iN)
                       ·unfold A0 z7 bI aE;have cC:=aHw (s:=s) (a:=ed.a.toNat) (b:=ed.b.toNat) (o1:=0+ed.a.toNat*1) (o2:=0+ed.b.toNat*1) (by omega) (by omega) (by omega) (by omega);rw [nxt];((repeat'(first|refine iW rfl rfl (cV (aF lU _) cC) ?_|refine iF rfl rfl ?_|refine iC rfl rfl rfl ?_|refine iJ rfl rfl rfl rfl ?_));exact iN)
                      ·exfalso;simp [aA,aG,aK] at k5;omega
                     ·have hpl:(eC (flat lU.fl s) (0+ed.a.toNat*1) [.bool true]).length=l.length:=(by rw [gO (by rw [hsl];show 0+ed.a.toNat*1+1≤l.length;omega)];exact hsl);have k4:(0+ed.b.toNat*1+1).ble (eC (flat lU.fl s) (0+ed.a.toNat*1) [.bool true]).length=false:=k4;rw [hpl] at k4;exact kH k4 (by omega)
                    ·exfalso;simp [aA,aG] at k3;omega
                   ·rw [hsl] at k2;exact kH k2 (by show 0+ed.a.toNat*1+1≤l.length;omega)
                  ·exfalso;simp [aA,aG] at k1;omega
               ·have f4:¬ -1≤ed.n:=(by simp [aA,aG] at f4;omega);(conv=>whnf);rw [yX hlt (EO hed (by omega))]
              ·have f3:¬ ed.b<l.length:=(by simp [aA,aG] at f3;omega);(conv=>whnf);rw [yX hlt (EO hed (by omega))]
             ·have f2:¬ ed.a<ed.b:=(by simp [aA,aG] at f2;omega);(conv=>whnf);rw [yX hlt (EO hed (by omega))]
            ·have f1:¬ 0≤ed.a:=(by simp [aA,aG] at f1;omega);(conv=>whnf);rw [yX hlt (EO hed (by omega))]
           ·exfalso;simp [aA,aG] at d2;omega
          ·have hge:i=m.length:=(by simp [aA,aG] at d1;omega);subst hge;(conv=>whnf);refine⟨s,⟨rl.symm,_,_,_,_,rfl,by rw [List.drop_zero,List.take_length]⟩,?_⟩;((conv=>whnf);refine bm (fun g1=>?_) (fun g1=>?_))
           ·(conv=>whnf);rw [cL,hsz,kJ hpt,kJ hed0,hs0];show Value.bool (!(!(s.all id)))=_;rw [Bool.not_not];rfl
           ·exfalso;have g1:decide (s.length≤1000000)=false:=g1;simp at g1;omega
        ·exfalso;simp [aA,aG] at m1;omega
    ·have a4:n<1:=(by simp [aA,aG] at a4;omega);(conv=>whnf);rw [hszf (by omega)]
   ·have a3:400<m.length:=(by simp [aA,aG] at a3;omega);(conv=>whnf);rw [hszf (by omega)]
  ·have a2:m.length<3:=(by simp [aA,aG] at a2;omega);(conv=>whnf);rw [hszf (by omega)]
 ·have a1:400<l.length:=(by simp [aA,aG] at a1;omega);(conv=>whnf);rw [hszf (by omega)]
end Go.Aw
end

noncomputable section
namespace Go.Aw
theorem apart {F1 F2 G1 G2 s1 s2 t1 t2 c:Int}(hi:G1*s2 - G2*s1=F2*t1 - F1*t2)(hd:G1 - G2=F2 - F1)(hF:F1*F2<0)(hG:G1*G2<0)
  (h1:s1≤c) (h2:s2≤c) (h3:c+1≤t1) (h4:c+1≤t2):False:=by
 have key:∀ {F1 F2 G1 G2 s1 s2 t1 t2:Int},G1*s2 - G2*s1=F2*t1 - F1*t2→G1 - G2=F2 - F1→F1<0→0<F2→0<G1→G2<0→s1≤c→s2≤c→c+1≤t1→c+1≤t2→False:=by
  intro F1 F2 G1 G2 s1 s2 t1 t2 hi hd f1 f2 g1 g2 h1 h2 h3 h4;have e1:=Int.mul_le_mul_of_nonneg_left h2 (Int.le_of_lt g1);have e2:=Int.mul_le_mul_of_nonneg_left h1 (show 0≤-G2 by omega);have e3:=Int.mul_le_mul_of_nonneg_left h3 (Int.le_of_lt f2);have e4:=Int.mul_le_mul_of_nonneg_left h4 (show 0≤-F1 by omega);have d:(G1 - G2)*c=(F2 - F1)*c:=(by rw [hd]);simp only [Int.mul_add,Int.mul_one,Int.neg_mul,Int.sub_mul] at e1 e2 e3 e4 d;omega
 rcases Int.lt_or_le F1 0 with f1|f1
 ·have f2:0<F2:=by
   rcases Int.lt_or_le 0 F2 with h|h
   ·exact h
   ·have:=Int.mul_nonneg_of_nonpos_of_nonpos (Int.le_of_lt f1) h;omega
  rcases Int.lt_or_le G1 0 with g1|g1
  ·have g2:0<G2:=by
    rcases Int.lt_or_le 0 G2 with h|h
    ·exact h
    ·have:=Int.mul_nonneg_of_nonpos_of_nonpos (Int.le_of_lt g1) h;omega
   omega
  ·have g1':0<G1:=by
    rcases Int.lt_or_le 0 G1 with h|h
    ·exact h
    ·have:G1=0:=(by omega);rw [this] at hG;omega
   have g2:G2<0:=by
    rcases Int.lt_or_le G2 0 with h|h
    ·exact h
    ·have:=Int.mul_nonneg g1 h;omega
   exact key hi hd f1 f2 g1' g2 h1 h2 h3 h4
 ·have f1':0<F1:=by
   rcases Int.lt_or_le 0 F1 with h|h
   ·exact h
   ·have:F1=0:=(by omega);rw [this] at hF;omega
  have f2:F2<0:=by
   rcases Int.lt_or_le F2 0 with h|h
   ·exact h
   ·have:=Int.mul_nonneg f1 h;omega
  rcases Int.lt_or_le G1 0 with g1|g1
  ·have g2:0<G2:=by
    rcases Int.lt_or_le 0 G2 with h|h
    ·exact h
    ·have:=Int.mul_nonneg_of_nonpos_of_nonpos (Int.le_of_lt g1) h;omega
   exact key (F1:=F2) (F2:=F1) (G1:=G2) (G2:=G1) (s1:=s2) (s2:=s1) (t1:=t2) (t2:=t1) (by omega) (by omega) f2 f1' g2 g1 h2 h1 h4 h3
  ·have g2:G2<0:=by
    rcases Int.lt_or_le G2 0 with h|h
    ·exact h
    ·have:=Int.mul_nonneg g1 h;omega
   omega
theorem N0 {a b:Int}(h:U5 a*U5 b<0):a*b<0:=by
 unfold U5 at h
 split at h <;> split at h <;> first
  |omega
  |(exact Int.mul_neg_of_neg_of_pos (by omega) (by omega))
  |(exact Int.mul_neg_of_pos_of_neg (by omega) (by omega))
  |(split at h <;> first|omega|(exact Int.mul_neg_of_neg_of_pos (by omega) (by omega))|(exact Int.mul_neg_of_pos_of_neg (by omega) (by omega)))
theorem ZD (s t:Sg):aV t.1 t.2 s.1 - aV t.1 t.2 s.2=aV s.1 s.2 t.2 - aV s.1 s.2 t.1:=by
 obtain⟨⟨a,b⟩,⟨c,d⟩⟩:=s;obtain⟨⟨e,f⟩,⟨g,h⟩⟩:=t;simp only [aV,Int.sub_mul,Int.mul_sub,Int.mul_comm,Int.mul_left_comm,Int.mul_assoc];omega
theorem ZY (s t:Sg):aV t.1 t.2 s.1*s.2.1 - aV t.1 t.2 s.2*s.1.1=aV s.1 s.2 t.2*t.1.1 - aV s.1 s.2 t.1*t.2.1:=by
 obtain⟨⟨a,b⟩,⟨c,d⟩⟩:=s;obtain⟨⟨e,f⟩,⟨g,h⟩⟩:=t;simp only [aV,Int.sub_mul,Int.mul_sub,Int.mul_comm,Int.mul_left_comm,Int.mul_assoc];omega
theorem Z3 (s t:Sg):aV t.1 t.2 s.1*s.2.2 - aV t.1 t.2 s.2*s.1.2=aV s.1 s.2 t.2*t.1.2 - aV s.1 s.2 t.1*t.2.2:=by
 obtain⟨⟨a,b⟩,⟨c,d⟩⟩:=s;obtain⟨⟨e,f⟩,⟨g,h⟩⟩:=t;simp only [aV,Int.sub_mul,Int.mul_sub,Int.mul_comm,Int.mul_left_comm,Int.mul_assoc];omega
theorem R9 {a b c d:Int}(h:apI a b c d=true):(∃ k,a≤k∧b≤k∧k+1≤c∧k+1≤d)∨(∃ k,c≤k∧d≤k∧k+1≤a∧k+1≤b):=by
 unfold apI mxI mnI at h;simp only [Bool.or_eq_true,decide_eq_true_eq] at h;rcases h with h|h
 ·refine .inl ⟨if b > a then b else a,?_⟩;split at h <;> split at h <;> omega
 ·refine .inr ⟨if d > c then d else c,?_⟩;split at h <;> split at h <;> omega
theorem V3 {s t:Sg}(h:yU s t=true):¬ (aT s.1 s.2 t.1*aT s.1 s.2 t.2<0∧aT t.1 t.2 s.1*aT t.1 t.2 s.2<0):=by
 rintro ⟨h1,h2⟩;have h1:=N0 h1;have h2:=N0 h2;have d1:=ZD s t;have d2:=ZD t s;unfold yU at h;rw [Bool.or_eq_true] at h;rcases h with h|h
 ·rcases R9 h with ⟨k,a1,a2,a3,a4⟩|⟨k,a1,a2,a3,a4⟩
  ·exact apart (ZY s t) d1 h1 h2 a1 a2 a3 a4
  ·exact apart (ZY t s) d2 h2 h1 a1 a2 a3 a4
 ·rcases R9 h with ⟨k,a1,a2,a3,a4⟩|⟨k,a1,a2,a3,a4⟩
  ·exact apart (Z3 s t) d1 h1 h2 a1 a2 a3 a4
  ·exact apart (Z3 t s) d2 h2 h1 a1 a2 a3 a4
theorem aCU {s t:Sg}(h:yU s t=true)(p:Pt):¬ (wL p s=true∧wL p t=true):=by
 rintro ⟨h1,h2⟩;simp only [wL,YN,Bool.and_eq_true,decide_eq_true_eq] at h1 h2;obtain⟨⟨⟨x1,x2⟩,y1,y2⟩,_⟩:=h1;obtain⟨⟨⟨x3,x4⟩,y3,y4⟩,_⟩:=h2;unfold yU at h;rw [Bool.or_eq_true] at h;rcases h with h|h
 ·rcases R9 h with ⟨k,a1,a2,a3,a4⟩|⟨k,a1,a2,a3,a4⟩ <;>
   (split at x1 <;> split at x2 <;> split at x3 <;> split at x4 <;> omega)
 ·rcases R9 h with ⟨k,a1,a2,a3,a4⟩|⟨k,a1,a2,a3,a4⟩ <;>
   (split at y1 <;> split at y2 <;> split at y3 <;> split at y4 <;> omega)
theorem X3 {s t:Sg}(h:yU s t=true):iI s t=0:=by
 unfold iI;split
 ·rename_i hr;rw [aCg s t hr.1 hr.2];have he:MD s t=[]:=by
   unfold MD;have:∀ p,JZ s t [] p=[]:=fun p=>by
    unfold JZ;rw [if_neg (fun hh=>aCU h p ⟨hh.1,hh.2.1⟩)]
   rw [this,this,this,this]
  unfold ES;rw [he];exact if_neg (V3 h)
 ·rfl
theorem aB6 (s t:Sg):E6 s t=iI s t:=by
 unfold E6;split
 ·rename_i h;rw [X3 h]
 ·rfl
end Go.Aw
end

noncomputable section
namespace Go.Aw
set_option maxRecDepth 100000
def BH (v:Pt):Bool:=decide (v.2<0) || (decide (v.2=0)&&decide (v.1<0))
def aGP:Nat × XF:=(171,gX (s1 cP fun v=>(true,.bool (BH v))))
theorem aKv:dK Go.Proofs.Tryz.prog aGP.1 aGP.2:=x1 cP (xl:=[]) .nil (fun _=>rfl) fun a _=>by
 obtain⟨ax,ay⟩:=a;unfold eZ
 repeat' ((conv=>whnf);refine bm (fun h=>?_) (fun h=>?_))
 all_goals (conv=>whnf)
 all_goals (simp only [ZK,aB8,KR,K3,beq_iff_eq,beq_eq_false_iff_ne,ne_eq,Bool.not_eq_false,Bool.not_eq_true,decide_eq_true_eq,decide_eq_false_iff_not] at *)
 all_goals (show _=Value.bool (BH _);unfold BH;simp_all)
def crP (w v:Pt):Int:=w.1*v.2 - w.2*v.1
def QO (w v:Pt):Int:=if BH w=BH v then gH 0 (crP w v) else if BH v=true then -1 else 1
def aFQ:Nat × XF:=(144,gX (s2 cP cP fun w v=>(wide w&&wide v,iv (QO w v))))
theorem aJn:dK Go.Proofs.Tryz.prog aFQ.1 aFQ.2:=x2 cP cP (xl:=[aGP,OU]) (.cons aKv (.cons QD .nil)) (fun _ _=>rfl) fun w v hp=>by
 obtain⟨wx,wy⟩:=w;obtain⟨vx,vy⟩:=v;simp only [wide,Bool.and_eq_true,decide_eq_true_eq] at hp;have m1:=GV (a:=wx) (b:=vy) (A:=1000000) (B:=1000000) (by omega) (by omega) (by omega) (by omega);have m2:=GV (a:=wy) (b:=vx) (A:=1000000) (B:=1000000) (by omega) (by omega) (by omega) (by omega);unfold eZ
 repeat' ((conv=>whnf);refine bm (fun h=>?_) (fun h=>?_))
 all_goals (conv=>whnf)
 all_goals first
  |(exfalso;simp [aA,aG,aK] at h;omega)
  |(show iv _=iv (QO _ _);unfold QO;simp [aA,aG] at *;simp_all;done)
  |(show iv _=iv (QO _ _);unfold QO crP;simp [aA,aG] at *;simp_all)
  |trace_state
structure Dt where
 dx:Int
 dy:Int
 no:Int
 fr:Int
 tt:Int
def p0:El Dt:=⟨fun e=>[iv e.dx,iv e.dy,iv e.no,iv e.fr,iv e.tt],5,fun _=>rfl,fun _=>rfl,by decide⟩
def bK (m:List Dt)(i:Nat):Dt:=m.getD i ⟨0,0,0,0,0⟩
theorem oB {m:List Dt}{i:Nat}(h:i<m.length):bK m i=m[i]:=by
 unfold bK;rw [List.getD_eq_getElem?_getD,List.getElem?_eq_getElem h];rfl
theorem aE2 (m:List Dt){i o:Nat}(hi:i<m.length)(ho:o=i*5):m9 (flat p0.fl m) o 5=some [iv (bK m i).dx,iv (bK m i).dy,iv (bK m i).no,iv (bK m i).fr,iv (bK m i).tt]:=by
 rw [oB hi];exact D5 p0 m hi ho
def dL (d:Dt):Pt:=(d.dx,d.dy)
theorem UJ (m:List Dt){i o:Nat}(hi:i<m.length)(ho:o=i*5):m9 (flat p0.fl m) o 2=some [iv (dL (bK m i)).1,iv (dL (bK m i)).2]:=by
 have h1:nth (flat p0.fl m) o=some (iv (bK m i).dx):=by
  rw [oB hi];exact mI p0 m hi (k:=0) rfl (by decide) (by rw [ho];rfl)
 have h2:nth (flat p0.fl m) (o+1)=some (iv (bK m i).dy):=by
  rw [oB hi];exact mI p0 m hi (k:=1) rfl (by decide) (by rw [ho];rfl)
 simp only [m9,h1,h2];rfl
def YT (h:Heap)(p:Nat)(D:List Dt):Prop:=∃ b c k0 k1 wr g sz r0 wr1 g1 sz1 r1 wr2 g2 sz2 cs n0 c0 n1 c1 F cc,
 look h p=some (.cells wr g sz (.pointer (some ⟨b,0,none⟩)::r0)) ∧
 look h b=some (.cells wr1 g1 sz1 (.slice (some ⟨k0,0,none⟩) n0 c0::.slice (some ⟨k1,0,none⟩) n1 c1::iv F::.slice (some ⟨c,0,none⟩) D.length cc::r1)) ∧
 look h c=some (.cells wr2 g2 sz2 cs)∧cs.take (flat p0.fl D).length=flat p0.fl D
def aA8 (D:List Dt):Bool:=D.all fun d=>wide (dL d)
def W6 (D:List Dt)(x y:Int):Int:=QO (dL (bK D x.toNat)) (dL (bK D y.toNat))
def SX (D:List Dt)(x y:Int):Bool:=decide (0≤x)&&decide (x<D.length)&&(decide (0≤y)&&decide (y<D.length))&&aA8 D
def aAC:Nat × XF:=(143,fun args h nx K=>∃ x y p D,args=[iv x,iv y,.pointer (some ⟨p,0,none⟩)]∧YT h p D∧dI (SX D x y) (K (iv (W6 D x y)) h nx))
def aEI (D:List Dt)(n0 c0 n1 c1:Nat)(F:Int)(cc:Nat):Heap:=[(0,.cells false false 1 [.pointer (some ⟨1,0,none⟩)]),(1,.cells false false 1 [.slice (some ⟨3,0,none⟩) n0 c0,.slice (some ⟨4,0,none⟩) n1 c1,iv F,.slice (some ⟨2,0,none⟩) D.length cc]),(2,.cells false true 5 (flat p0.fl D))]
def aK4 (p b c k0 k1:Nat):Nat→Nat
 |0=>p
 |1=>b
 |2=>c
 |3=>k0
 |_=>k1
theorem aFE {h:Heap}{p nx:Nat}{D:List Dt}(hd:YT h p D)(x y:Int):∃ n0 c0 n1 c1 F cc,In [iv x,iv y,.pointer (some ⟨0,0,none⟩)] (aEI D n0 c0 n1 c1 F cc) 5 [iv x,iv y,.pointer (some ⟨p,0,none⟩)] h nx:=by
 obtain⟨b,c,k0,k1,wr,g,sz,r0,wr1,g1,sz1,r1,wr2,g2,sz2,cs,n0,c0,n1,c1,F,cc,h1,h2,h3,h4⟩:=hd;refine⟨n0,c0,n1,c1,F,cc,vN (aK4 p b c k0 k1) rfl ?_ ?_⟩
 ·refine List.forall_mem_cons.2 ⟨dD rfl,List.forall_mem_cons.2 ⟨dD rfl,List.forall_mem_cons.2 ⟨⟨by decide,rfl⟩,fun _ h=>by cases h⟩⟩⟩
 ·intro k o hk;unfold aEI at hk;rw [aB] at hk;split at hk
  ·rename_i hb;injection hk with hk;subst hk;rw [← beq_true hb]
   refine⟨by decide,false,1,_,rfl,by decide,(fun h=>by cases h),List.forall_mem_cons.2 ⟨⟨by decide,rfl⟩,fun _ h=>by cases h⟩,wr,g,sz,_,h1,rfl⟩
  rw [aB] at hk;split at hk
  ·rename_i hb;injection hk with hk;subst hk;rw [← beq_true hb]
   refine⟨by decide,false,1,_,rfl,by decide,(fun h=>by cases h),?_,wr1,g1,sz1,_,h2,rfl⟩;refine List.forall_mem_cons.2 ⟨⟨by decide,fun h=>by cases h⟩,List.forall_mem_cons.2 ⟨⟨by decide,fun h=>by cases h⟩,List.forall_mem_cons.2 ⟨cD rfl,List.forall_mem_cons.2 ⟨⟨by decide,fun h=>by cases h⟩,fun _ h=>by cases h⟩⟩⟩⟩
  rw [aB] at hk;split at hk
  ·rename_i hb;injection hk with hk;subst hk;rw [← beq_true hb]
   exact⟨by decide,true,5,_,rfl,by decide,fun _=>aF p0 D,fun v hv=>cD (a9 (aF p0 D) hv),wr2,g2,sz2,cs,h3,by rw [h4];exact (bP (aF p0 D)).symm⟩
  ·exact cK hk
theorem aHN:dK Go.Proofs.Tryz.prog aAC.1 aAC.2:=by
 refine (jU (S:=fun args0 h0 n0 v1 h1 m=>∃ x y D n1 c1 n2 c2 F cc,SX D x y=true∧args0=[iv x,iv y,.pointer (some ⟨0,0,none⟩)]∧h0=aEI D n1 c1 n2 c2 F cc∧n0=5∧v1=iv (W6 D x y)∧h1=[]∧m=0) (aR (xl:=[aFQ]) (.cons aJn .nil)) ?_).mono ?_ ?_
 ·rintro args0 h0 n0 v1 h1 m ⟨x,y,D,n1,c1,n2,c2,F,cc,hok,rfl,rfl,rfl,rfl,rfl,rfl⟩;refine⟨rfl,fun u _ _=>u=iv (W6 D x y),?_,fun v h nx e=>by rw [e];exact mJ rfl⟩;simp only [SX,Bool.and_eq_true,decide_eq_true_eq] at hok;obtain⟨⟨⟨h0,h1⟩,h2,h3⟩,hw⟩:=hok;have wx:wide (dL (bK D x.toNat))=true:=by
   rw [oB (by omega)];exact List.all_eq_true.1 hw _ (List.getElem_mem _)
  have wy:wide (dL (bK D y.toNat))=true:=by
   rw [oB (by omega)];exact List.all_eq_true.1 hw _ (List.getElem_mem _)
  ((conv=>whnf);refine bm (fun a1=>?_) (fun a1=>?_))
  ·(conv=>whnf);refine K6 (UJ D (i:=x.toNat) (by omega) ?_) ?_
   ·show _+Int.toNat x*5=_;omega
   ((conv=>whnf);refine bm (fun a2=>?_) (fun a2=>?_))
   ·(conv=>whnf);refine K6 (UJ D (i:=y.toNat) (by omega) ?_) ?_
    ·show _+Int.toNat y*5=_;omega
    ((conv=>whnf);refine bm (fun a3=>?_) (fun a3=>?_))
    ·(conv=>whnf);rfl
    ·exfalso;have a3:(wide (dL (bK D x.toNat))&&wide (dL (bK D y.toNat)))=false:=a3;rw [wx,wy] at a3;cases a3
   ·exfalso;simp [aA,aG] at a2;omega
  ·exfalso;simp [aA,aG] at a1;omega
 ·rintro args h nx K ⟨x,y,p,D,rfl,hd,hx⟩;obtain⟨hb,hx⟩:=aD.1 hx;obtain⟨n0,c0,n1,c1,F,cc,i⟩:=aFE (nx:=nx) hd x y;refine⟨_,_,5,_,[],0,⟨x,y,D,n0,c0,n1,c1,F,cc,hb,rfl,rfl,rfl,rfl,rfl,rfl⟩,i,?_⟩;exact hx
 ·rintro args h nx K ⟨x,y,p,D,rfl,hd,hx⟩;obtain⟨hb,hx⟩:=aD.1 hx;exact⟨_,_,_,hx,fun K' hk'=>⟨x,y,p,D,rfl,hd,aJ hb hk'⟩⟩
end Go.Aw
end

noncomputable section
namespace Go.Aw
set_option maxRecDepth 100000
set_option maxHeartbeats 2000000
def aHv (xl:List (Nat × XF))(k:Nat):B9:={ aA with X:=look xl,M:=k }
theorem aBx {xl:List (Nat × XF)}(h:lB xl)(k:Nat):oS Go.Proofs.Tryz.prog (aHv xl k) where
 ar:=fN.ar
 tab:=fN.tab
 mixed:=fN.mixed
 funcs:=fN.funcs
 xs:=h.look
def hgN (s:Sg)(y:Int):Int:=2*(s.2.1 - s.1.1)*s.1.2+(s.2.2 - s.1.2)*(y - 2*s.1.1)
def hgD (s:Sg):Int:=s.2.1 - s.1.1
theorem O2 {s:Sg}(hs:aW s.1=true∧aW s.2=true){y:Int}(h0:0≤y)(h1:y≤30000):(-200000000≤2*(s.2.1 - s.1.1)*s.1.2∧2*(s.2.1 - s.1.1)*s.1.2≤200000000)∧(-300000000≤(s.2.2 - s.1.2)*(y - 2*s.1.1)∧(s.2.2 - s.1.2)*(y - 2*s.1.1)≤300000000):=by
 obtain⟨h2,h3⟩:=hs;simp only [aW,Bool.and_eq_true,decide_eq_true_eq] at h2 h3;have m1:=GV (a:=2*(s.2.1 - s.1.1)) (b:=s.1.2) (A:=20000) (B:=10000) (by omega) (by omega) (by omega) (by omega);have m2:=GV (a:=s.2.2 - s.1.2) (b:=y - 2*s.1.1) (A:=10000) (B:=30000) (by omega) (by omega) (by omega) (by omega);omega
theorem aAO {s t:Sg}(hs:aW s.1=true∧aW s.2=true)(ht:aW t.1=true∧aW t.2=true){y:Int}(h0:0≤y)(h1:y≤30000):(-10000000000000≤hgN s y*(2*hgD t)∧hgN s y*(2*hgD t)≤10000000000000)∧(-5000000000000≤hgN s y*hgD t∧hgN s y*hgD t≤5000000000000):=by
 have b1:=O2 hs h0 h1;obtain⟨h2,h3⟩:=ht;simp only [aW,Bool.and_eq_true,decide_eq_true_eq] at h2 h3;have e:hgN s y=2*(s.2.1 - s.1.1)*s.1.2+(s.2.2 - s.1.2)*(y - 2*s.1.1):=rfl;have e2:hgD t=t.2.1 - t.1.1:=rfl;have m1:=GV (a:=hgN s y) (b:=2*hgD t) (A:=500000000) (B:=20000) (by omega) (by omega) (by omega) (by omega);have m2:=GV (a:=hgN s y) (b:=hgD t) (A:=500000000) (B:=10000) (by omega) (by omega) (by omega) (by omega);omega
def hgV (s t:Sg)(x:Int):Int:=gH (hgN s (2*x+1)*(2*hgD t)) (hgN t (2*x+1)*(2*hgD s))
def okX (x:Int):Bool:=decide (0≤x)&&decide (x≤10000)
def rgS (s:Sg):Bool:=aW s.1&&aW s.2
def aGX:Nat × XF:=(106,gX (s3 cS cS cI fun s t x=>(rgS s&&rgS t&&okX x,iv (hgV s t x))))
theorem aJw:dK Go.Proofs.Tryz.prog aGX.1 aGX.2:=uD (iX (aBx (xl:=[OU]) (.cons QD .nil) 4) 6).1 fun args v hs=>by
 obtain⟨s,t,x,rfl,e⟩:=aAV cS cS cI hs;injection e with hp e;subst e;clear hs;refine⟨rfl,rfl,?_⟩;simp only [rgS,okX,Bool.and_eq_true,decide_eq_true_eq] at hp;obtain⟨⟨hS,hT⟩,h0,h1⟩:=hp;have b1:=O2 hS (y:=2*x+1) (by omega) (by omega);have b2:=O2 hT (y:=2*x+1) (by omega) (by omega);have b3:=aAO hS hT (y:=2*x+1) (by omega) (by omega);have b4:=aAO hT hS (y:=2*x+1) (by omega) (by omega);obtain⟨⟨ax,ay⟩,⟨bx,b_y⟩⟩:=s;obtain⟨⟨cx,cy⟩,⟨dx,dy⟩⟩:=t;obtain⟨hS1,hS2⟩:=hS;obtain⟨hT1,hT2⟩:=hT;simp only [aW,Bool.and_eq_true,decide_eq_true_eq] at hS1 hS2 hT1 hT2;unfold hgV;unfold hgN hgD at *;dsimp only at *
 repeat' (((conv=>whnf);refine bm (fun g=>?_) (fun g=>?_)))
 all_goals (conv=>whnf)
 all_goals first
  |rfl
  |(exfalso;simp [aHv,aA,aG,aK] at g;omega)
theorem U0 {l:List Pt}{m:List Ed}(hM:ND l m=true)(hr:l.all aW=true){i:Nat}(hi:i<m.length):aW (bZ l m i).1=true∧aW (bZ l m i).2=true:=by
 have he:=uO hM hi;have key:∀ a:Int,0≤a→a<l.length→aW (jY l a)=true:=fun a h0 h1=>by
  unfold jY pZ;rw [List.getD_eq_getElem?_getD,List.getElem?_eq_getElem (by omega)];exact List.all_eq_true.1 hr _ (List.getElem_mem _)
 exact⟨key _ he.1 he.2.1,key _ he.2.2.1 he.2.2.2⟩
end Go.Aw
end

noncomputable section
namespace Go.Aw
open Go.RowKit
section
variable {α:Type}(E:El α)
theorem Z4 {ι ι':Nat→Loc}{B:Nat}{w:World}{sz:Nat}{cs:List Value}{loc:Loc}(hg:dE cs=true)(h:jT ι B w (.cells true false sz cs) loc):jT ι' B w (.cells true false sz cs) loc:=by
 cases loc with
 |nil p=>exact h
 |lay b o e =>
  obtain⟨x1,x2,arr,t,x3,x4,x5⟩:=h;refine⟨x1,x2,arr,t,x3,x4,fun i v hv=>?_⟩;rw [x5 i v hv,mT (a9 hg (List.mem_of_getElem? hv)),mT (a9 hg (List.mem_of_getElem? hv))]
end
def C0 (k:Nat)(ι:Nat→Loc):Nat→Loc:=fun j=>if j=0 then ι k else ι (j - 1)
theorem DM (k:Nat)(ι:Nat→Loc):C0 k ι 0=ι k:=if_pos rfl
theorem qN (k:Nat)(ι:Nat→Loc)(j:Nat):C0 k ι (1+j)=ι j:=by
 unfold C0;rw [if_neg (by omega),Nat.add_sub_cancel_left]
def QU (F:Heap)(nx:Nat):Prop:=1≤nx∧∀ j o,look F j=some o→0<j∧j<nx∧bT id nx o o
theorem bL {b n0 nx:Nat}{I:KS}{e0 e:List (Nat × Value)}{F:Heap}{o0 o:aS}(hF:QU F n0)(hI:I e0 ((0,o0)::F) n0)(he:∀ p∈e0,look e p.1=some (iM id p.2)∧BK n0 p.2)(ho:bT id n0 o0 o)(hb:b≤n0) :
  qI b I e ((0,o)::F) nx:=by
 refine⟨e0,(0,o0)::F,n0,id,hI,fun t v hv=>he (t,v) (bA hv),fun k q hk=>?_,fun k k' q q' _ _ e=>e,fun k _=>rfl,hb⟩;rw [aB] at hk;split at hk
 ·rename_i hb1;injection hk with hk;subst hk;have:=beq_true hb1;subst this;exact⟨hF.1,o,rfl,ho⟩
 ·obtain⟨h1,h2,h3⟩:=hF.2 k q hk;refine⟨h2,q,?_,h3⟩;show look ((0,o)::F) k=some q;rw [aB];rename_i hb1;rw [hb1];exact hk
theorem jM {n:Nat}:∀ (h:Heap) {j:Nat} {o:aS},look h j=some o→look (m8 n h) (n+j)=some (V0 n o)
 |[],j,o,hl=>(by cases hl)
 |(i,q)::r,j,o,hl=>by
  rw [aB] at hl;simp only [m8];rw [aB];split at hl
  ·rename_i hb;injection hl with hl;subst hl;have:=beq_true hb;subst this;rw [Nat.beq_refl]
  ·rename_i hb;have hne:Nat.beq (n+i) (n+j)=false:=by
    cases hb':Nat.beq (n+i) (n+j) with
    |false=>rfl
    |true =>
     have:=beq_true hb';have:i=j:=(by omega);subst this;rw [Nat.beq_refl] at hb;cases hb
   rw [hne];exact jM r hl
theorem KP {ι:Nat→Loc}{σ:Nat→Nat}{n:Nat}{v:Value}(h:mW ι n v):mW (j3 σ) n v:=by
 cases v with
 |pointer a=>cases a with
  |none=>trivial
  |some a=>exact⟨h.1,rfl⟩
 |slice a l c=>cases a with
  |none=>trivial
  |some a=>exact⟨h.1,fun hf=>by cases hf⟩
 |map a=>cases a with
  |none=>trivial
  |some a=>exact⟨h.1,rfl⟩
 |agg c=>exact h.elim
 |tuple c=>exact h.elim
 |_=>trivial
theorem ZN {ι:Nat→Loc}{σ:Nat→Nat}{n:Nat}{v:Value}(h:fV ι n v):fV (j3 σ) n v:=by
 cases v with
 |func f a c =>
  refine⟨?_,fun x hx=>KP (h.2 x hx)⟩;have h1:=h.1;cases f with
  |yield l=>exact⟨h1.1,rfl⟩
  |_=>trivial
 |pointer a=>have:=KP (ι:=ι) (σ:=σ) (n:=n) (v:=.pointer a);cases a <;> exact this h
 |slice a l c=>have:=KP (ι:=ι) (σ:=σ) (n:=n) (v:=.slice a l c);cases a <;> exact this h
 |map a=>have:=KP (ι:=ι) (σ:=σ) (n:=n) (v:=.map a);cases a <;> exact this h
 |agg c=>exact h.elim
 |tuple c=>exact h.elim
 |_=>trivial
section
variable {ι ι0:Nat→Loc}{B n:Nat}{w:World}
theorem aDL {v:Value}(hs:fV ι n v)(hι:∀ j,j<n→ι0 (1+j)=ι j):fV ι0 (1+n) (bM (fun k=>1+k) v) :=
 iV (m:=n) (gQ (ι:=ι) (ι':=fun k=>ι0 (1+k)) (Nat.le_refl _) hι hs) (fun k hk=>by omega)
theorem aEr {v:Value}(hs:fV ι n v)(hι:∀ j,j<n→ι0 (1+j)=ι j):bQ ι0 (bM (fun k=>1+k) v)=bQ ι v:=by
 unfold bM;rw [gV (n:=1+n) (aDL hs hι)];exact lF (ι:=ι) (ι':=fun k=>ι0 (1+k)) hι hs
theorem aE5 {v:Value}(hs:fV ι n v):BR (1+n) (bM (fun k=>1+k) v) :=
 iV (m:=n) (ZN hs) (fun k hk=>by omega)
theorem aIV {v:Value}(hs:fV ι n v):bM id (bM (fun k=>1+k) v)=bM (fun k=>1+k) v:=by
 unfold bM;rw [gV (n:=1+n) (aE5 hs)];rfl
theorem aDA {wr g:Bool}{sz:Nat}{cs:List Value}{l:Loc}(h:jT ι B w (.cells wr g sz cs) l)(hs:∀ v∈cs,fV ι n v)(hι:∀ j,j<n→ι0 (1+j)=ι j):jT ι0 B w (V0 1 (.cells wr g sz cs)) l:=by
 have hg:∀ {q:Prop},(g=true→dE cs=true)→g=true→dE (cs.map (bM fun k=>1+k))=true:=fun hq e=>sU fun v hv=>by
  obtain⟨u,hu,rfl⟩:=List.mem_map.1 hv;exact aDQ (a9 (hq e) hu)
 have key:∀ {Φ:Nat→Value→Prop},(∀ (i:Nat) v,cs[i]? = some v→Φ i (bQ ι v))→∀ (i:Nat) v,(cs.map (bM fun k=>1+k))[i]? = some v→Φ i (bQ ι0 v):=fun hΦ i v hv=>by
  rw [List.getElem?_map] at hv;obtain⟨u,hu,rfl⟩:=Option.map_eq_some_iff.1 hv;rw [aEr (hs u (List.mem_of_getElem? hu)) hι];exact hΦ i u hu
 cases l with
 |nil p =>
  have h1:cs=[]∧(sz=0∨wr=true→p.isSome=true):=(by cases wr <;> exact h);obtain⟨rfl,hz⟩:=h1;cases wr <;> exact⟨rfl,hz⟩
 |lay b o e =>
  cases wr with
  |true =>
   obtain⟨x1,x2,arr,t,x3,x4,x5⟩:=h;exact⟨x1,hg (q:=True) x2,arr,t,x3,by rw [List.length_map];exact x4,key (Φ:=fun i v=>arr[o+i]? = some v) x5⟩
  |false =>
   obtain⟨x1,x2,x3⟩:=h;exact⟨x1,hg (q:=True) x2,key (Φ:=fun i v=>w.cell? ⟨b,o+i,none⟩=some v) x3⟩
theorem WC {wr g:Bool}{sz:Nat}{cs:List Value}{l:Loc}(h:jT ι0 B w (V0 1 (.cells wr g sz cs)) l)(hs:∀ v∈cs,fV ι n v)(hι:∀ j,j<n→ι0 (1+j)=ι j)(hg0:g=true→dE cs=true):jT ι B w (.cells wr g sz cs) l:=by
 have key:∀ {Φ:Nat→Value→Prop},(∀ (i:Nat) v,(cs.map (bM fun k=>1+k))[i]? = some v→Φ i (bQ ι0 v))→∀ (i:Nat) v,cs[i]? = some v→Φ i (bQ ι v):=fun hΦ i v hv=>by
  rw [← aEr (hs v (List.mem_of_getElem? hv)) hι];exact hΦ i _ (by rw [List.getElem?_map,hv];rfl)
 cases l with
 |nil p =>
  have h1:cs.map (bM fun k=>1+k)=[]∧(sz=0∨wr=true→p.isSome=true):=(by cases wr <;> exact h);have h2:cs=[]:=(by simpa using h1.1);cases wr <;> exact⟨h2,h1.2⟩
 |lay b o e =>
  cases wr with
  |true =>
   obtain⟨x1,x2,arr,t,x3,x4,x5⟩:=h;rw [List.length_map] at x4;exact⟨x1,hg0,arr,t,x3,x4,key (Φ:=fun i v=>arr[o+i]? = some v) x5⟩
  |false =>
   obtain⟨x1,x2,x3⟩:=h;exact⟨x1,hg0,key (Φ:=fun i v=>w.cell? ⟨b,o+i,none⟩=some v) x3⟩
end
theorem VP (n:Nat)(o:aS):(V0 n o).alone=o.alone:=by cases o <;> rfl
section
variable {α:Type}(E:El α)
end
end Go.Aw
end
