/-
  Parts of a proof. No condition.
-/
import Derived.Test.YthgjfhncomhofaaGreatQAl
import Derived.Test.YthgjfhncomhofaaGreatQAm
import Derived.Test.YthgjfhncomhofaaGreatQAz
set_option linter.unusedSimpArgs false
set_option linter.unusedVariables false
noncomputable section
namespace Go.Aw
open Proofs
set_option maxRecDepth 100000
set_option maxHeartbeats 4000000
def aHa (n:Nat)(D:CW)(l:List Int)(r:List Value)(c:Nat):Option (Bool × List Int):=match r with
 |[.int .i64 a,.int .i64 m,.int .i64 b]=>some (decide (0<=a)&&decide (a<m)&&decide (m<b)&&decide (b<=l.length)&&decide (b - a<=n)&&decide (l.length<=1000000)&&kJ D l,dQ D n l a.toNat m.toNat b.toNat)
 |_=>none
theorem VP {n:Nat}{D:CW}{l:List Int}{r:List Value}{c:Nat}{l':List Int}(h:aHa n D l r c=some (true,l')):∃ a m b:Int,r=[iv a,iv m,iv b]/\0<=a/\a<m/\m<b/\b<=l.length/\b - a<=n/\l.length<=1000000/\kJ D l=true/\l'=dQ D n l a.toNat m.toNat b.toNat:=by
 unfold aHa at h;split at h
 ·rename_i a m b;injection h with h;injection h with h1 h2;simp only[af,ag]at h1;obtain⟨⟨⟨⟨⟨⟨p1,p2⟩,p3⟩,p4⟩,p5⟩,p6⟩,p7⟩:=h1;exact⟨a,m,b,rfl,p1,p2,p3,p4,p5,p6,p7,h2.symm⟩
 ·cases h
theorem aKc:∀ n,c7 Tryz.prog 232 (frQ (aHa n))
 |0=>w7 (aL (xl:=[]) .nil) fun l0 l r c l' hs=>by
  obtain⟨a,m,b,rfl,ha,ham,hmb,hb,hn,_⟩:=VP hs;omega
 |n+1=>w7 (aL (xl:=[Y5,aGX,(232,frQ (aHa n))]) (.cons aDC (.cons aPU (.cons (aKc n) .nil)))) fun l0 l r c l' hs=>by
  obtain⟨a,m,b,rfl,ha,ham,hmb,hb,hn,hl,hin,rfl⟩:=VP hs;clear hs;refine⟨rfl,fun F nx hF hC=>?_⟩;have hp:CLt (.pnts l0) (0,0) nx:=trivial;have hl1:(flat (eV l0).fl l).length=l.length*2:=(by rw[aO];rfl);(conv=>whnf);refine bt ?_;((conv=>whnf);apply bm<;>intro g2)
  ·have g2:m - a=1:=(by simpa[aB,aF]using g2);(conv=>whnf);refine⟨fun q e h nx'=>∃(i j k:Nat) (x y:Int),x=i/\y=j/\m.toNat<=i/\i<=j/\j<=b.toNat/\j - i<=k/\q=j - i/\sT (fun h=>!(gI (.pnts l0) (aG l h) (aG l a.toNat))) (b.toNat - m.toNat) m.toNat b.toNat=sT (fun h=>!(gI (.pnts l0) (aG l h) (aG l a.toNat))) k i j/\e=o7 l.length c a x y (.pnts l0) (0,0)/\h=(0,aq 2 (flat (eV l0).fl l))::F/\nx'=nx,⟨b.toNat - m.toNat,?_⟩,?_⟩
   ·refine aV (e0:=o7 l.length c a m b (.pnts l0) (0,0)) (o0:=aq 2 (flat (eV l0).fl l)) (n0:=nx) hF ⟨m.toNat,b.toNat,_,_,_,aa,aa,ah _,aa,ah _,ah _,rfl,rfl,rfl,rfl,rfl⟩ ?_ (aE (aC _ _)) (ah _);unfold o7;refine ae.2 ⟨bE hF.1 rfl,ae.2 ⟨bP hp rfl,?_⟩⟩;exact xE
   rintro q e h nx' ⟨i,j,k,x,y,hx,hy,hi0,hij,hj,hk,rfl,hbs,rfl,rfl,rfl⟩;unfold o7;((conv=>whnf);apply bm<;>intro h1)
   ·have h1:i<j:=(by simp[aB,aF]at h1;omega);obtain⟨k',rfl⟩:∃ k',k=k'+1:=⟨k - 1,aa⟩;rw[C6 h1]at hbs;have qh:(x+y).tdiv 2=(((i+j) / 2:Nat):Int):=(by rw[Int.tdiv_eq_ediv_of_nonneg aa];omega);(conv=>whnf);refine bt ?_;(conv=>whnf);refine bt ?_;(conv=>whnf);refine bt ?_;((conv=>whnf);apply bm<;>intro q4);rotate_left
    ·exfalso;simp[aB,aF,aN,qh]at q4;omega
    ((conv=>whnf);apply bm<;>intro q5);rotate_left
    ·exfalso;simp[aB,aF,qh]at q5;omega
    (conv=>whnf);refine eZ (wK l0 l (i:=(i+j) / 2) aa ?_) ?_
    ·show _+Int.toNat ((x+y).tdiv 2)*2=_;rw[qh];omega
    ((conv=>whnf);apply bm<;>intro q6)
    ·(conv=>whnf);refine eZ (wK l0 l (i:=a.toNat) aa ?_) ?_
     ·show _+Int.toNat (a)*2=_;omega
     ((conv=>whnf);apply bm<;>intro q8)
     ·have q8:gI (.pnts l0) (aG l ((i+j) / 2)) (aG l (a.toNat))=true:=q8;((conv=>whnf);apply bm<;>intro q9)
      ·(conv=>whnf);refine⟨j - ((i+j) / 2+1),aa,?_⟩;refine aV (e0:=o7 l.length c a ((x+y).tdiv 2+1) y (.pnts l0) (0,0)) (o0:=aq 2 (flat (eV l0).fl l)) (n0:=nx') hF ⟨(i+j) / 2+1,j,k',_,_,by rw[qh];omega,hy,aa,aa,aa,aa,rfl,by rw[hbs,if_neg (by simp[q8])],rfl,rfl,rfl⟩ ?_ (aE (aC _ _)) (ah _);unfold o7;refine ae.2 ⟨bE hF.1 rfl,ae.2 ⟨bP hp rfl,?_⟩⟩;exact xE
      exfalso;simp[aB,aF,aN,qh]at q9;omega
     have q8:gI (.pnts l0) (aG l ((i+j) / 2)) (aG l (a.toNat))=false:=q8;(conv=>whnf);refine⟨(i+j) / 2 - i,aa,?_⟩;refine aV (e0:=o7 l.length c a x ((x+y).tdiv 2) (.pnts l0) (0,0)) (o0:=aq 2 (flat (eV l0).fl l)) (n0:=nx') hF ⟨i,(i+j) / 2,k',_,_,hx,qh,hi0,aa,aa,aa,rfl,by rw[hbs,if_pos (by simp[q8])],rfl,rfl,rfl⟩ ?_ (aE (aC _ _)) (ah _);unfold o7;refine ae.2 ⟨bE hF.1 rfl,ae.2 ⟨bP hp rfl,?_⟩⟩;exact xE
    exfalso;simp[aB,aF,qh]at q6;omega
   have h1:i=j:=(by simp[aB,aF]at h1;omega);subst h1;rw[pD]at hbs;(conv=>whnf);refine⟨fun q e h nx''=>∃(t:Nat) (z:Int),z=a.toNat+t/\t<=(i - 1 - a.toNat)/\q=(i - 1 - a.toNat) - t/\e=v8 l.length c x (z)/\h=(0,aq 2 (flat (eV l0).fl (TW l a.toNat t)))::F/\nx''=nx',⟨(i - 1 - a.toNat),?_⟩,?_⟩
   ·refine aV (e0:=v8 l.length c x (a)) (o0:=aq 2 (flat (eV l0).fl l)) (n0:=nx') hF ⟨0,_,aa,Nat.zero_le _,rfl,rfl,rfl,rfl⟩ ?_ (aE (aC _ _)) (ah _);unfold v8;refine ae.2 ⟨bE hF.1 rfl,?_⟩;exact xE
   rintro q e h nx'' ⟨t,z,hz,ht,rfl,rfl,rfl,rfl⟩;have sw:=aCw l a.toNat t aa;have sl:=sw.len;have nxt:TW l a.toNat (t+1)=lH (TW l a.toNat t) (a.toNat+t) (a.toNat+t+1):=rfl;generalize hs0:TW l a.toNat t=L at sl nxt;have hl1:(flat (eV l0).fl L).length=L.length*2:=(by rw[aO];rfl);unfold v8;(conv=>whnf);refine bt ?_
   skip
   ((conv=>whnf);apply bm<;>intro r2);rotate_left
   ·have r2:t=(i - 1 - a.toNat):=(by simp[aB,aF]at r2;omega);(conv=>whnf);refine⟨rfl,?_⟩;rw[<- hs0,r2,dQ,if_pos aa,hbs]
   have r2:t<(i - 1 - a.toNat):=(by simp[aB,aF]at r2;omega);have cO:=I6 (l0:=l0) (L:=L) (x:=a.toNat+t) (y:=a.toNat+t+1) (o1:=0+z.toNat*2) (o2:=0+(z+1).toNat*2) aa aa aa aa
   repeat' first
    |(((conv=>whnf);apply bm<;>intro g))
    |((conv=>whnf)
      refine eZ (wK l0 L (i:=a.toNat+t) aa ?_) ?_
      ·show _+Int.toNat z*2=_;omega)
    |((conv=>whnf)
      refine eZ (wK l0 L (i:=a.toNat+t+1) aa ?_) ?_
      ·show _+Int.toNat (z+1)*2=_;omega)
   all_goals first
    |(exfalso;simp[aB,aF,aN]at g;omega)
    |(have g:(0+z.toNat*2+2).ble (flat (eV l0).fl L).length=false:=g
      rw[hl1]at g;exact eD g aa)
    |(have g:(0+(z+1).toNat*2+2).ble (bU (flat (eV l0).fl L) (0+z.toNat*2) [iv (bI l0 (aG L (a.toNat+t+1)).toNat).1,iv (bI l0 (aG L (a.toNat+t+1)).toNat).2]).length=false:=g
      rw[cG (by rw[hl1];show 0+z.toNat*2+2<=L.length*2;omega),hl1]at g;exact eD g aa)
    |skip
   (conv=>whnf);refine⟨(i - 1 - a.toNat) - (t+1),aa,?_⟩;refine aV (e0:=v8 l.length c x (z+1)) (o0:=aq 2 (flat (eV l0).fl (lH L (a.toNat+t) (a.toNat+t+1)))) (n0:=nx'') hF ⟨t+1,z+1,aa,aa,rfl,rfl,by rw[nxt],rfl⟩ ?_ (aK (aC _ _) cO) (ah _);unfold v8;refine ae.2 ⟨bE hF.1 rfl,?_⟩;exact xE
  have g2:¬ m - a=1:=(by simpa[aB,aF]using g2);(conv=>whnf);refine bt ?_;((conv=>whnf);apply bm<;>intro g4)
  ·have g4:b - m=1:=(by simpa[aB,aF]using g4);(conv=>whnf);refine⟨fun q e h nx'=>∃(i j k:Nat) (x y:Int),x=i/\y=j/\a.toNat<=i/\i<=j/\j<=m.toNat/\j - i<=k/\q=j - i/\sT (fun h=>gI (.pnts l0) (aG l m.toNat) (aG l h)) (m.toNat - a.toNat) a.toNat m.toNat=sT (fun h=>gI (.pnts l0) (aG l m.toNat) (aG l h)) k i j/\e=pA l.length c m x y (.pnts l0) (0,0)/\h=(0,aq 2 (flat (eV l0).fl l))::F/\nx'=nx,⟨m.toNat - a.toNat,?_⟩,?_⟩
   ·refine aV (e0:=pA l.length c m a m (.pnts l0) (0,0)) (o0:=aq 2 (flat (eV l0).fl l)) (n0:=nx) hF ⟨a.toNat,m.toNat,_,_,_,aa,aa,ah _,aa,ah _,ah _,rfl,rfl,rfl,rfl,rfl⟩ ?_ (aE (aC _ _)) (ah _);unfold pA;refine ae.2 ⟨bE hF.1 rfl,ae.2 ⟨bP hp rfl,?_⟩⟩;exact xE
   rintro q e h nx' ⟨i,j,k,x,y,hx,hy,hi0,hij,hj,hk,rfl,hbs,rfl,rfl,rfl⟩;unfold pA;((conv=>whnf);apply bm<;>intro h1)
   ·have h1:i<j:=(by simp[aB,aF]at h1;omega);obtain⟨k',rfl⟩:∃ k',k=k'+1:=⟨k - 1,aa⟩;rw[C6 h1]at hbs;have qh:(x+y).tdiv 2=(((i+j) / 2:Nat):Int):=(by rw[Int.tdiv_eq_ediv_of_nonneg aa];omega);(conv=>whnf);refine bt ?_;(conv=>whnf);refine bt ?_;(conv=>whnf);refine bt ?_;((conv=>whnf);apply bm<;>intro q4);rotate_left
    ·exfalso;simp[aB,aF,aN,qh]at q4;omega
    ((conv=>whnf);apply bm<;>intro q5);rotate_left
    ·exfalso;simp[aB,aF,qh]at q5;omega
    (conv=>whnf);refine eZ (wK l0 l (i:=m.toNat) aa ?_) ?_
    ·show _+Int.toNat (m)*2=_;omega
    ((conv=>whnf);apply bm<;>intro q6)
    ·(conv=>whnf);refine eZ (wK l0 l (i:=(i+j) / 2) aa ?_) ?_
     ·show _+Int.toNat ((x+y).tdiv 2)*2=_;rw[qh];omega
     ((conv=>whnf);apply bm<;>intro q8)
     ·have q8:gI (.pnts l0) (aG l m.toNat) (aG l ((i+j) / 2))=false:=(by have q8:(!(gI (.pnts l0) (aG l m.toNat) (aG l ((i+j) / 2))))=true:=q8;simpa using q8);((conv=>whnf);apply bm<;>intro q9)
      ·(conv=>whnf);refine⟨j - ((i+j) / 2+1),aa,?_⟩;refine aV (e0:=pA l.length c m ((x+y).tdiv 2+1) y (.pnts l0) (0,0)) (o0:=aq 2 (flat (eV l0).fl l)) (n0:=nx') hF ⟨(i+j) / 2+1,j,k',_,_,by rw[qh];omega,hy,aa,aa,aa,aa,rfl,by rw[hbs,if_neg (by simp[q8])],rfl,rfl,rfl⟩ ?_ (aE (aC _ _)) (ah _);unfold pA;refine ae.2 ⟨bE hF.1 rfl,ae.2 ⟨bP hp rfl,?_⟩⟩;exact xE
      exfalso;simp[aB,aF,aN,qh]at q9;omega
     have q8:gI (.pnts l0) (aG l m.toNat) (aG l ((i+j) / 2))=true:=(by have q8:(!(gI (.pnts l0) (aG l m.toNat) (aG l ((i+j) / 2))))=false:=q8;simpa using q8);(conv=>whnf);refine⟨(i+j) / 2 - i,aa,?_⟩;refine aV (e0:=pA l.length c m x ((x+y).tdiv 2) (.pnts l0) (0,0)) (o0:=aq 2 (flat (eV l0).fl l)) (n0:=nx') hF ⟨i,(i+j) / 2,k',_,_,hx,qh,hi0,aa,aa,aa,rfl,by rw[hbs,if_pos (by simp[q8])],rfl,rfl,rfl⟩ ?_ (aE (aC _ _)) (ah _);unfold pA;refine ae.2 ⟨bE hF.1 rfl,ae.2 ⟨bP hp rfl,?_⟩⟩;exact xE
    exfalso;simp[aB,aF,qh]at q6;omega
   have h1:i=j:=(by simp[aB,aF]at h1;omega);subst h1;rw[pD]at hbs;(conv=>whnf);refine⟨fun q e h nx''=>∃(t:Nat) (z:Int),z=m.toNat - t/\t<=(m.toNat - i)/\q=(m.toNat - i) - t/\e=v9 l.length c x (z)/\h=(0,aq 2 (flat (eV l0).fl (U2 l m.toNat t)))::F/\nx''=nx',⟨(m.toNat - i),?_⟩,?_⟩
   ·refine aV (e0:=v9 l.length c x (m)) (o0:=aq 2 (flat (eV l0).fl l)) (n0:=nx') hF ⟨0,_,aa,Nat.zero_le _,rfl,rfl,rfl,rfl⟩ ?_ (aE (aC _ _)) (ah _);unfold v9;refine ae.2 ⟨bE hF.1 rfl,?_⟩;exact xE
   rintro q e h nx'' ⟨t,z,hz,ht,rfl,rfl,rfl,rfl⟩;have sw:=aDu l m.toNat aa t;have sl:=sw.len;have nxt:U2 l m.toNat (t+1)=lH (U2 l m.toNat t) (m.toNat - t) (m.toNat - t - 1):=rfl;generalize hs0:U2 l m.toNat t=L at sl nxt;have hl1:(flat (eV l0).fl L).length=L.length*2:=(by rw[aO];rfl);unfold v9;((conv=>whnf);apply bm<;>intro r2);rotate_left
   ·have r2:t=(m.toNat - i):=(by simp[aB,aF]at r2;omega);(conv=>whnf);refine⟨rfl,?_⟩;rw[<- hs0,r2,dQ,if_neg aa,if_pos aa,hbs]
   have r2:t<(m.toNat - i):=(by simp[aB,aF]at r2;omega);have cO:=I6 (l0:=l0) (L:=L) (x:=m.toNat - t) (y:=m.toNat - t - 1) (o1:=0+z.toNat*2) (o2:=0+(z - 1).toNat*2) aa aa aa aa
   repeat' first
    |(((conv=>whnf);apply bm<;>intro g))
    |((conv=>whnf)
      refine eZ (wK l0 L (i:=m.toNat - t) aa ?_) ?_
      ·show _+Int.toNat z*2=_;omega)
    |((conv=>whnf)
      refine eZ (wK l0 L (i:=m.toNat - t - 1) aa ?_) ?_
      ·show _+Int.toNat (z - 1)*2=_;omega)
   all_goals first
    |(exfalso;simp[aB,aF,aN]at g;omega)
    |(have g:(0+z.toNat*2+2).ble (flat (eV l0).fl L).length=false:=g
      rw[hl1]at g;exact eD g aa)
    |(have g:(0+(z - 1).toNat*2+2).ble (bU (flat (eV l0).fl L) (0+z.toNat*2) [iv (bI l0 (aG L (m.toNat - t - 1)).toNat).1,iv (bI l0 (aG L (m.toNat - t - 1)).toNat).2]).length=false:=g
      rw[cG (by rw[hl1];show 0+z.toNat*2+2<=L.length*2;omega),hl1]at g;exact eD g aa)
    |skip
   (conv=>whnf);refine⟨(m.toNat - i) - (t+1),aa,?_⟩;refine aV (e0:=v9 l.length c x (z - 1)) (o0:=aq 2 (flat (eV l0).fl (lH L (m.toNat - t) (m.toNat - t - 1)))) (n0:=nx'') hF ⟨t+1,z - 1,aa,aa,rfl,rfl,by rw[nxt],rfl⟩ ?_ (aK (aC _ _) cO) (ah _);unfold v9;refine ae.2 ⟨bE hF.1 rfl,?_⟩;exact xE
  have g4:¬ b - m=1:=(by simpa[aB,aF]using g4);have hM:(a+b).tdiv 2=(((a.toNat+b.toNat) / 2:Nat):Int):=(by rw[Int.tdiv_eq_ediv_of_nonneg aa];omega);(conv=>whnf);refine bt ?_;((conv=>whnf);apply bm<;>intro g5b);rotate_left;(exfalso;simp[aB,aF,aN]at g5b;omega);((conv=>whnf);apply bm<;>intro g5c);rotate_left;(exfalso;simp[aB,aF,aN]at g5c;omega);((conv=>whnf);apply bm<;>intro g6);rotate_left
  ·exfalso;simp[aB,aF,aN,hM]at g6;omega
  ((conv=>whnf);apply bm<;>intro g7);rotate_left
  ·exfalso;simp[aB,aF,aN,hM]at g7;omega
  ((conv=>whnf);apply bm<;>intro g8);rotate_left
  ·have g8:¬(a+b).tdiv 2<m:=(by simpa[aB,aF]using g8);have hc:¬(a.toNat+b.toNat) / 2<m.toNat:=aa;((conv=>whnf);apply bm<;>intro g10)
   ·skip
    (conv=>whnf);refine⟨fun q e h nx'=>∃(i j k:Nat) (x y:Int),x=i/\y=j/\a.toNat<=i/\i<=j/\j<=m.toNat/\j - i<=k/\q=j - i/\sT (fun c=>gI (.pnts l0) (aG l ((a.toNat+b.toNat) / 2+m.toNat - 1 - c)) (aG l c)) (m.toNat - a.toNat) a.toNat m.toNat=sT (fun c=>gI (.pnts l0) (aG l ((a.toNat+b.toNat) / 2+m.toNat - 1 - c)) (aG l c)) k i j/\e=fQ l.length c a m b ((a+b).tdiv 2) ((a+b).tdiv 2+m) ((a+b).tdiv 2+m - 1) x y (.pnts l0) (0,0)/\h=(0,aq 2 (flat (eV l0).fl l))::F/\nx'=nx,⟨m.toNat - a.toNat,?_⟩,?_⟩
    ·refine aV (e0:=fQ l.length c a m b ((a+b).tdiv 2) ((a+b).tdiv 2+m) ((a+b).tdiv 2+m - 1) a m (.pnts l0) (0,0)) (o0:=aq 2 (flat (eV l0).fl l)) (n0:=nx) hF ⟨a.toNat,m.toNat,_,_,_,aa,aa,ah _,aa,ah _,ah _,rfl,rfl,rfl,rfl,rfl⟩ ?_ (aE (aC _ _)) (ah _);unfold fQ;refine ae.2 ⟨bE hF.1 rfl,ae.2 ⟨bP hp rfl,?_⟩⟩;exact xE
    rintro q e h nx' ⟨i,j,k,x,y,hx,hy,hi0,hij,hj,hk,rfl,hbs,rfl,rfl,rfl⟩;unfold fQ;((conv=>whnf);apply bm<;>intro h1)
    ·have h1:i<j:=(by simp[aB,aF]at h1;omega);obtain⟨k',rfl⟩:∃ k',k=k'+1:=⟨k - 1,aa⟩;rw[C6 h1]at hbs;have qh:(x+y).tdiv 2=(((i+j) / 2:Nat):Int):=(by rw[Int.tdiv_eq_ediv_of_nonneg aa];omega);(conv=>whnf);refine bt ?_;(conv=>whnf);refine bt ?_;(conv=>whnf);refine bt ?_;((conv=>whnf);apply bm<;>intro q4)
     ·((conv=>whnf);apply bm<;>intro q5a);rotate_left;(exfalso;simp[aB,aF,aN,hM,qh]at q5a;omega);((conv=>whnf);apply bm<;>intro q5)
      ·(conv=>whnf);refine eZ (wK l0 l (i:=((a.toNat+b.toNat) / 2+m.toNat - 1 - (i+j) / 2)) aa ?_) ?_
       ·show _+Int.toNat (((a+b).tdiv 2+m - 1 - (x+y).tdiv 2))*2=_;rw[qh];omega
       ((conv=>whnf);apply bm<;>intro q6)
       ·(conv=>whnf);refine eZ (wK l0 l (i:=(i+j) / 2) aa ?_) ?_
        ·show _+Int.toNat ((x+y).tdiv 2)*2=_;rw[qh];omega
        ((conv=>whnf);apply bm<;>intro q8)
        ·have q8:gI (.pnts l0) (aG l ((a.toNat+b.toNat) / 2+m.toNat - 1 - (i+j) / 2)) (aG l ((i+j) / 2))=false:=(by have q8:(!(gI (.pnts l0) (aG l ((a.toNat+b.toNat) / 2+m.toNat - 1 - (i+j) / 2)) (aG l ((i+j) / 2))))=true:=q8;simpa using q8);((conv=>whnf);apply bm<;>intro q9)
         ·(conv=>whnf);refine⟨j - ((i+j) / 2+1),aa,?_⟩;refine aV (e0:=fQ l.length c a m b ((a+b).tdiv 2) ((a+b).tdiv 2+m) ((a+b).tdiv 2+m - 1) ((x+y).tdiv 2+1) y (.pnts l0) (0,0)) (o0:=aq 2 (flat (eV l0).fl l)) (n0:=nx') hF ⟨(i+j) / 2+1,j,k',_,_,by rw[qh];omega,hy,aa,aa,aa,aa,rfl,by rw[hbs,if_neg (by simp[q8])],rfl,rfl,rfl⟩ ?_ (aE (aC _ _)) (ah _);unfold fQ;refine ae.2 ⟨bE hF.1 rfl,ae.2 ⟨bP hp rfl,?_⟩⟩;exact xE
         exfalso;simp[aB,aF,aN,qh]at q9;omega
        have q8:gI (.pnts l0) (aG l ((a.toNat+b.toNat) / 2+m.toNat - 1 - (i+j) / 2)) (aG l ((i+j) / 2))=true:=(by have q8:(!(gI (.pnts l0) (aG l ((a.toNat+b.toNat) / 2+m.toNat - 1 - (i+j) / 2)) (aG l ((i+j) / 2))))=false:=q8;simpa using q8);(conv=>whnf);refine⟨(i+j) / 2 - i,aa,?_⟩;refine aV (e0:=fQ l.length c a m b ((a+b).tdiv 2) ((a+b).tdiv 2+m) ((a+b).tdiv 2+m - 1) x ((x+y).tdiv 2) (.pnts l0) (0,0)) (o0:=aq 2 (flat (eV l0).fl l)) (n0:=nx') hF ⟨i,(i+j) / 2,k',_,_,hx,qh,hi0,aa,aa,aa,rfl,by rw[hbs,if_pos (by simp[q8])],rfl,rfl,rfl⟩ ?_ (aE (aC _ _)) (ah _);unfold fQ;refine ae.2 ⟨bE hF.1 rfl,ae.2 ⟨bP hp rfl,?_⟩⟩;exact xE
       exfalso;simp[aB,aF,hM,qh]at q6;omega
      exfalso;simp[aB,aF,hM,qh]at q5;omega
     exfalso;simp[aB,aF,hM,aN,qh]at q4;omega
    have h1:i=j:=(by simp[aB,aF]at h1;omega);subst h1;rw[pD]at hbs
    skip
    have hst:stM (.pnts l0) l a.toNat m.toNat b.toNat=i:=(by unfold stM;simp only[if_neg hc];exact hbs);have low:=vL (D:=.pnts l0) (L:=l) (a:=a.toNat) (m:=m.toNat) (b:=b.toNat) aa aa;clear hbs hk hj hi0 hc g8;obtain⟨A,eA⟩:∃ A,a.toNat=A:=⟨_,rfl⟩;obtain⟨Q,eQ⟩:∃ Q,m.toNat=Q:=⟨_,rfl⟩;obtain⟨B,eB⟩:∃ B,b.toNat=B:=⟨_,rfl⟩;obtain⟨W,eW⟩:∃ W,(A+B) / 2=W:=⟨_,rfl⟩;rw[eA,eQ,eB]at hst;rw[eA,eQ,eB]at low;rw[hst,eW]at low;rw[eA,eB,eW]at hM;have zA:a=A:=aa;have zQ:m=Q:=aa;have zB:b=B:=aa;have uA:∀ _:Unit,a.toNat=A:=fun _=>eA;have uQ:∀ _:Unit,m.toNat=Q:=fun _=>eQ;have uB:∀ _:Unit,b.toNat=B:=fun _=>eB;have uW:∀ _:Unit,(A+B) / 2=W:=fun _=>eW;have zW:A+1<=W/\W+1<=B:=aa;clear eA eQ eB eW;have u1:∀ _:Unit,x.toNat=i:=fun _=>aa;have u2:∀ _:Unit,((a+b).tdiv 2).toNat=W:=fun _=>(by rw[hM];omega);have u3:∀ _:Unit,(m - x).toNat=Q - i:=fun _=>aa;have u4:∀ _:Unit,(((a+b).tdiv 2)+m - x).toNat=(W+Q - i):=fun _=>(by rw[hM];omega);have u5:∀ _:Unit,((((a+b).tdiv 2)+m - x) - m).toNat=(W+Q - i) - Q:=fun _=>(by rw[hM];omega);((conv=>whnf);apply bm<;>intro s1);rotate_left;(exfalso;simp[aB,aF,aN,hM]at s1;omega);have n1:¬ Q - A=1:=aa;have n2:¬ B - Q=1:=aa;obtain⟨Z,hZ⟩:∃ Z,dQ (.pnts l0) (n+1) l a.toNat m.toNat b.toNat=Z:=⟨_,rfl⟩;rw[hZ];obtain⟨L1,e1⟩:∃ L1,(if i<Q/\Q<W+Q - i then iI Q (Q - i+(W+Q - i - Q)) l (Q - i) (W+Q - i - Q)else l)=L1:=⟨_,rfl⟩;obtain⟨L2,e2⟩:∃ L2,(if A<i/\i<W then dQ (.pnts l0) n L1 A i W else L1)=L2:=⟨_,rfl⟩;obtain⟨L3,e3⟩:∃ L3,(if W<W+Q - i/\W+Q - i<B then dQ (.pnts l0) n L2 W (W+Q - i) B else L2)=L3:=⟨_,rfl⟩;have hL3:Z=L3:=by
     rw[<- hZ,dQ];simp only[hst,uA (),uQ (),uB (),uW (),if_neg n1,if_neg n2,e1,e2,e3]
    have S1:Sw l L1:=by
     rw[<- e1];split
     ·exact sN _ _ _ _ _ aa aa
     exact .refl l
    have S2:Sw l L2:=by
     rw[<- e2];split
     ·exact S1.trans (oX (.pnts l0) n _ _ _ _ aa aa (by rw[S1.len];omega))
     exact S1
    clear hst hZ;((conv=>whnf);apply bm<;>intro s2)
    rotate_left
    rw[show flat (eV l0).fl l=flat (eV l0).fl L1 by rw[<- e1,if_neg (by simp[aB,aF,hM]at s2;omega)]]
    rotate_left
    ((conv=>whnf);apply bm<;>intro s3)
    rotate_left
    rw[show flat (eV l0).fl l=flat (eV l0).fl L1 by rw[<- e1,if_neg (by simp[aB,aF,hM]at s3;omega)]]
    rotate_left 2
    (conv=>whnf);refine⟨0,c,[iv x,iv m,iv (((a+b).tdiv 2)+m - x)],l0,l,rfl,rfl,bD hC,?_⟩;simp[aB,aF,hM]at s2 s3;((conv=>whnf);apply bm<;>intro t)
    rotate_left
    ·exfalso;have t:(decide (0<=x)&&decide (x<m)&&decide (m<(((a+b).tdiv 2)+m - x))&&decide ((((a+b).tdiv 2)+m - x)<=l.length)&&decide (l.length<=1000000))=false:=t;simp[hM]at t;omega
    rotate_left 2
    rw[show iI m.toNat ((m - x).toNat+((((a+b).tdiv 2)+m - x) - m).toNat) l (m - x).toNat ((((a+b).tdiv 2)+m - x) - m).toNat=L1 by simp only[uQ (),u3 (),u5 ()];rw[<- e1,if_pos aa]]
    all_goals
     ((conv=>whnf);apply bm<;>intro s4)
     rotate_left
     rw[show flat (eV l0).fl L1=flat (eV l0).fl L2 by rw[<- e2,if_neg (by simp[aB,aF,hM]at s4;omega)]]
     rotate_left
     ((conv=>whnf);apply bm<;>intro s5)
     rotate_left
     rw[show flat (eV l0).fl L1=flat (eV l0).fl L2 by rw[<- e2,if_neg (by simp[aB,aF,hM]at s5;omega)]]
     rotate_left 2
     (conv=>whnf);refine⟨0,c,[iv a,iv x,iv ((a+b).tdiv 2)],l0,L1,by rw[S1.len];rfl,rfl,bD hC,?_⟩;simp[aB,aF,hM]at s4 s5;((conv=>whnf);apply bm<;>intro t)
     rotate_left
     ·exfalso;have t:(decide (0<=a)&&decide (a<x)&&decide (x<((a+b).tdiv 2))&&decide (((a+b).tdiv 2)<=L1.length)&&decide (((a+b).tdiv 2) - a<=n)&&decide (L1.length<=1000000)&&kJ (.pnts l0) L1)=false:=t;rw[S1.kJ hin,S1.len]at t;simp[hM]at t;omega
     rotate_left 2
     rw[show dQ (.pnts l0) n L1 a.toNat x.toNat ((a+b).tdiv 2).toNat=L2 by simp only[uA (),u1 (),u2 ()];rw[<- e2,if_pos aa]]
    all_goals
     ((conv=>whnf);apply bm<;>intro s6)
     rotate_left
     rw[show flat (eV l0).fl L2=flat (eV l0).fl L3 by rw[<- e3,if_neg (by simp[aB,aF,hM]at s6;omega)]]
     rotate_left
     ((conv=>whnf);apply bm<;>intro s7)
     rotate_left
     rw[show flat (eV l0).fl L2=flat (eV l0).fl L3 by rw[<- e3,if_neg (by simp[aB,aF,hM]at s7;omega)]]
     rotate_left 2
     (conv=>whnf);refine⟨0,c,[iv ((a+b).tdiv 2),iv (((a+b).tdiv 2)+m - x),iv b],l0,L2,by rw[S2.len];rfl,rfl,bD hC,?_⟩;simp[aB,aF,hM]at s6 s7;((conv=>whnf);apply bm<;>intro t)
     rotate_left
     ·exfalso;have t:(decide (0<=((a+b).tdiv 2))&&decide (((a+b).tdiv 2)<(((a+b).tdiv 2)+m - x))&&decide ((((a+b).tdiv 2)+m - x)<b)&&decide (b<=L2.length)&&decide (b - ((a+b).tdiv 2)<=n)&&decide (L2.length<=1000000)&&kJ (.pnts l0) L2)=false:=t;rw[S2.kJ hin,S2.len]at t;simp[hM]at t;omega
     rotate_left 2
     rw[show dQ (.pnts l0) n L2 ((a+b).tdiv 2).toNat (((a+b).tdiv 2)+m - x).toNat b.toNat=L3 by simp only[u2 (),u4 (),uB ()];rw[<- e3,if_pos aa]]
    all_goals
     (conv=>whnf);refine⟨rfl,?_⟩;show(0,aq 2 (flat (eV l0).fl L3))::F=_;rw[hL3]
   exfalso;simp[aB,aF,aN,hM]at g10;omega
  have g8:(a+b).tdiv 2<m:=(by simpa[aB,aF]using g8);have hc:(a.toNat+b.toNat) / 2<m.toNat:=aa;((conv=>whnf);apply bm<;>intro g9);rotate_left
  ·exfalso;simp[aB,aF,aN,hM]at g9;omega
  ((conv=>whnf);apply bm<;>intro g10);rotate_left
  ·exfalso;simp[aB,aF,aN,hM]at g10;omega
  skip
  (conv=>whnf);refine⟨fun q e h nx'=>∃(i j k:Nat) (x y:Int),x=i/\y=j/\((a.toNat+b.toNat) / 2+m.toNat - b.toNat)<=i/\i<=j/\j<=((a.toNat+b.toNat) / 2)/\j - i<=k/\q=j - i/\sT (fun c=>gI (.pnts l0) (aG l ((a.toNat+b.toNat) / 2+m.toNat - 1 - c)) (aG l c)) (((a.toNat+b.toNat) / 2) - ((a.toNat+b.toNat) / 2+m.toNat - b.toNat)) ((a.toNat+b.toNat) / 2+m.toNat - b.toNat) ((a.toNat+b.toNat) / 2)=sT (fun c=>gI (.pnts l0) (aG l ((a.toNat+b.toNat) / 2+m.toNat - 1 - c)) (aG l c)) k i j/\e=fQ l.length c a m b ((a+b).tdiv 2) ((a+b).tdiv 2+m) ((a+b).tdiv 2+m - 1) x y (.pnts l0) (0,0)/\h=(0,aq 2 (flat (eV l0).fl l))::F/\nx'=nx,⟨((a.toNat+b.toNat) / 2) - ((a.toNat+b.toNat) / 2+m.toNat - b.toNat),?_⟩,?_⟩
  ·refine aV (e0:=fQ l.length c a m b ((a+b).tdiv 2) ((a+b).tdiv 2+m) ((a+b).tdiv 2+m - 1) ((a+b).tdiv 2+m - b) ((a+b).tdiv 2) (.pnts l0) (0,0)) (o0:=aq 2 (flat (eV l0).fl l)) (n0:=nx) hF ⟨((a.toNat+b.toNat) / 2+m.toNat - b.toNat),((a.toNat+b.toNat) / 2),_,_,_,aa,aa,ah _,aa,ah _,ah _,rfl,rfl,rfl,rfl,rfl⟩ ?_ (aE (aC _ _)) (ah _);unfold fQ;refine ae.2 ⟨bE hF.1 rfl,ae.2 ⟨bP hp rfl,?_⟩⟩;exact xE
  rintro q e h nx' ⟨i,j,k,x,y,hx,hy,hi0,hij,hj,hk,rfl,hbs,rfl,rfl,rfl⟩;unfold fQ;((conv=>whnf);apply bm<;>intro h1)
  ·have h1:i<j:=(by simp[aB,aF]at h1;omega);obtain⟨k',rfl⟩:∃ k',k=k'+1:=⟨k - 1,aa⟩;rw[C6 h1]at hbs;have qh:(x+y).tdiv 2=(((i+j) / 2:Nat):Int):=(by rw[Int.tdiv_eq_ediv_of_nonneg aa];omega);(conv=>whnf);refine bt ?_;(conv=>whnf);refine bt ?_;(conv=>whnf);refine bt ?_;((conv=>whnf);apply bm<;>intro q4);rotate_left
   ·exfalso;simp[aB,aF,hM,aN,qh]at q4;omega
   ((conv=>whnf);apply bm<;>intro q5a);rotate_left;(exfalso;simp[aB,aF,aN,hM,qh]at q5a;omega);((conv=>whnf);apply bm<;>intro q5);rotate_left
   ·exfalso;simp[aB,aF,hM,qh]at q5;omega
   (conv=>whnf);refine eZ (wK l0 l (i:=((a.toNat+b.toNat) / 2+m.toNat - 1 - (i+j) / 2)) aa ?_) ?_
   ·show _+Int.toNat (((a+b).tdiv 2+m - 1 - (x+y).tdiv 2))*2=_;rw[qh];omega
   ((conv=>whnf);apply bm<;>intro q6)
   ·(conv=>whnf);refine eZ (wK l0 l (i:=(i+j) / 2) aa ?_) ?_
    ·show _+Int.toNat ((x+y).tdiv 2)*2=_;rw[qh];omega
    ((conv=>whnf);apply bm<;>intro q8)
    ·have q8:gI (.pnts l0) (aG l ((a.toNat+b.toNat) / 2+m.toNat - 1 - (i+j) / 2)) (aG l ((i+j) / 2))=false:=(by have q8:(!(gI (.pnts l0) (aG l ((a.toNat+b.toNat) / 2+m.toNat - 1 - (i+j) / 2)) (aG l ((i+j) / 2))))=true:=q8;simpa using q8);((conv=>whnf);apply bm<;>intro q9)
     ·(conv=>whnf);refine⟨j - ((i+j) / 2+1),aa,?_⟩;refine aV (e0:=fQ l.length c a m b ((a+b).tdiv 2) ((a+b).tdiv 2+m) ((a+b).tdiv 2+m - 1) ((x+y).tdiv 2+1) y (.pnts l0) (0,0)) (o0:=aq 2 (flat (eV l0).fl l)) (n0:=nx') hF ⟨(i+j) / 2+1,j,k',_,_,by rw[qh];omega,hy,aa,aa,aa,aa,rfl,by rw[hbs,if_neg (by simp[q8])],rfl,rfl,rfl⟩ ?_ (aE (aC _ _)) (ah _);unfold fQ;refine ae.2 ⟨bE hF.1 rfl,ae.2 ⟨bP hp rfl,?_⟩⟩;exact xE
     exfalso;simp[aB,aF,aN,qh]at q9;omega
    have q8:gI (.pnts l0) (aG l ((a.toNat+b.toNat) / 2+m.toNat - 1 - (i+j) / 2)) (aG l ((i+j) / 2))=true:=(by have q8:(!(gI (.pnts l0) (aG l ((a.toNat+b.toNat) / 2+m.toNat - 1 - (i+j) / 2)) (aG l ((i+j) / 2))))=false:=q8;simpa using q8);(conv=>whnf);refine⟨(i+j) / 2 - i,aa,?_⟩;refine aV (e0:=fQ l.length c a m b ((a+b).tdiv 2) ((a+b).tdiv 2+m) ((a+b).tdiv 2+m - 1) x ((x+y).tdiv 2) (.pnts l0) (0,0)) (o0:=aq 2 (flat (eV l0).fl l)) (n0:=nx') hF ⟨i,(i+j) / 2,k',_,_,hx,qh,hi0,aa,aa,aa,rfl,by rw[hbs,if_pos (by simp[q8])],rfl,rfl,rfl⟩ ?_ (aE (aC _ _)) (ah _);unfold fQ;refine ae.2 ⟨bE hF.1 rfl,ae.2 ⟨bP hp rfl,?_⟩⟩;exact xE
   exfalso;simp[aB,aF,hM,qh]at q6;omega
  have h1:i=j:=(by simp[aB,aF]at h1;omega);subst h1;rw[pD]at hbs
  skip
  have hst:stM (.pnts l0) l a.toNat m.toNat b.toNat=i:=(by unfold stM;simp only[if_pos hc];exact hbs);have low:=vL (D:=.pnts l0) (L:=l) (a:=a.toNat) (m:=m.toNat) (b:=b.toNat) aa aa;clear hbs hk hj hi0 hc g8;obtain⟨A,eA⟩:∃ A,a.toNat=A:=⟨_,rfl⟩;obtain⟨Q,eQ⟩:∃ Q,m.toNat=Q:=⟨_,rfl⟩;obtain⟨B,eB⟩:∃ B,b.toNat=B:=⟨_,rfl⟩;obtain⟨W,eW⟩:∃ W,(A+B) / 2=W:=⟨_,rfl⟩;rw[eA,eQ,eB]at hst;rw[eA,eQ,eB]at low;rw[hst,eW]at low;rw[eA,eB,eW]at hM;have zA:a=A:=aa;have zQ:m=Q:=aa;have zB:b=B:=aa;have uA:∀ _:Unit,a.toNat=A:=fun _=>eA;have uQ:∀ _:Unit,m.toNat=Q:=fun _=>eQ;have uB:∀ _:Unit,b.toNat=B:=fun _=>eB;have uW:∀ _:Unit,(A+B) / 2=W:=fun _=>eW;have zW:A+1<=W/\W+1<=B:=aa;clear eA eQ eB eW;have u1:∀ _:Unit,x.toNat=i:=fun _=>aa;have u2:∀ _:Unit,((a+b).tdiv 2).toNat=W:=fun _=>(by rw[hM];omega);have u3:∀ _:Unit,(m - x).toNat=Q - i:=fun _=>aa;have u4:∀ _:Unit,(((a+b).tdiv 2)+m - x).toNat=(W+Q - i):=fun _=>(by rw[hM];omega);have u5:∀ _:Unit,((((a+b).tdiv 2)+m - x) - m).toNat=(W+Q - i) - Q:=fun _=>(by rw[hM];omega);((conv=>whnf);apply bm<;>intro s1);rotate_left;(exfalso;simp[aB,aF,aN,hM]at s1;omega);have n1:¬ Q - A=1:=aa;have n2:¬ B - Q=1:=aa;obtain⟨Z,hZ⟩:∃ Z,dQ (.pnts l0) (n+1) l a.toNat m.toNat b.toNat=Z:=⟨_,rfl⟩;rw[hZ];obtain⟨L1,e1⟩:∃ L1,(if i<Q/\Q<W+Q - i then iI Q (Q - i+(W+Q - i - Q)) l (Q - i) (W+Q - i - Q)else l)=L1:=⟨_,rfl⟩;obtain⟨L2,e2⟩:∃ L2,(if A<i/\i<W then dQ (.pnts l0) n L1 A i W else L1)=L2:=⟨_,rfl⟩;obtain⟨L3,e3⟩:∃ L3,(if W<W+Q - i/\W+Q - i<B then dQ (.pnts l0) n L2 W (W+Q - i) B else L2)=L3:=⟨_,rfl⟩;have hL3:Z=L3:=by
   rw[<- hZ,dQ];simp only[hst,uA (),uQ (),uB (),uW (),if_neg n1,if_neg n2,e1,e2,e3]
  have S1:Sw l L1:=by
   rw[<- e1];split
   ·exact sN _ _ _ _ _ aa aa
   exact .refl l
  have S2:Sw l L2:=by
   rw[<- e2];split
   ·exact S1.trans (oX (.pnts l0) n _ _ _ _ aa aa (by rw[S1.len];omega))
   exact S1
  clear hst hZ;((conv=>whnf);apply bm<;>intro s2)
  rotate_left
  rw[show flat (eV l0).fl l=flat (eV l0).fl L1 by rw[<- e1,if_neg (by simp[aB,aF,hM]at s2;omega)]]
  rotate_left
  ((conv=>whnf);apply bm<;>intro s3)
  rotate_left
  rw[show flat (eV l0).fl l=flat (eV l0).fl L1 by rw[<- e1,if_neg (by simp[aB,aF,hM]at s3;omega)]]
  rotate_left 2
  (conv=>whnf);refine⟨0,c,[iv x,iv m,iv (((a+b).tdiv 2)+m - x)],l0,l,rfl,rfl,bD hC,?_⟩;simp[aB,aF,hM]at s2 s3;((conv=>whnf);apply bm<;>intro t)
  rotate_left
  ·exfalso;have t:(decide (0<=x)&&decide (x<m)&&decide (m<(((a+b).tdiv 2)+m - x))&&decide ((((a+b).tdiv 2)+m - x)<=l.length)&&decide (l.length<=1000000))=false:=t;simp[hM]at t;omega
  rotate_left 2
  rw[show iI m.toNat ((m - x).toNat+((((a+b).tdiv 2)+m - x) - m).toNat) l (m - x).toNat ((((a+b).tdiv 2)+m - x) - m).toNat=L1 by simp only[uQ (),u3 (),u5 ()];rw[<- e1,if_pos aa]]
  all_goals
   ((conv=>whnf);apply bm<;>intro s4)
   rotate_left
   rw[show flat (eV l0).fl L1=flat (eV l0).fl L2 by rw[<- e2,if_neg (by simp[aB,aF,hM]at s4;omega)]]
   rotate_left
   ((conv=>whnf);apply bm<;>intro s5)
   rotate_left
   rw[show flat (eV l0).fl L1=flat (eV l0).fl L2 by rw[<- e2,if_neg (by simp[aB,aF,hM]at s5;omega)]]
   rotate_left 2
   (conv=>whnf);refine⟨0,c,[iv a,iv x,iv ((a+b).tdiv 2)],l0,L1,by rw[S1.len];rfl,rfl,bD hC,?_⟩;simp[aB,aF,hM]at s4 s5;((conv=>whnf);apply bm<;>intro t)
   rotate_left
   ·exfalso;have t:(decide (0<=a)&&decide (a<x)&&decide (x<((a+b).tdiv 2))&&decide (((a+b).tdiv 2)<=L1.length)&&decide (((a+b).tdiv 2) - a<=n)&&decide (L1.length<=1000000)&&kJ (.pnts l0) L1)=false:=t;rw[S1.kJ hin,S1.len]at t;simp[hM]at t;omega
   rotate_left 2
   rw[show dQ (.pnts l0) n L1 a.toNat x.toNat ((a+b).tdiv 2).toNat=L2 by simp only[uA (),u1 (),u2 ()];rw[<- e2,if_pos aa]]
  all_goals
   ((conv=>whnf);apply bm<;>intro s6)
   rotate_left
   rw[show flat (eV l0).fl L2=flat (eV l0).fl L3 by rw[<- e3,if_neg (by simp[aB,aF,hM]at s6;omega)]]
   rotate_left
   ((conv=>whnf);apply bm<;>intro s7)
   rotate_left
   rw[show flat (eV l0).fl L2=flat (eV l0).fl L3 by rw[<- e3,if_neg (by simp[aB,aF,hM]at s7;omega)]]
   rotate_left 2
   (conv=>whnf);refine⟨0,c,[iv ((a+b).tdiv 2),iv (((a+b).tdiv 2)+m - x),iv b],l0,L2,by rw[S2.len];rfl,rfl,bD hC,?_⟩;simp[aB,aF,hM]at s6 s7;((conv=>whnf);apply bm<;>intro t)
   rotate_left
   ·exfalso;have t:(decide (0<=((a+b).tdiv 2))&&decide (((a+b).tdiv 2)<(((a+b).tdiv 2)+m - x))&&decide ((((a+b).tdiv 2)+m - x)<b)&&decide (b<=L2.length)&&decide (b - ((a+b).tdiv 2)<=n)&&decide (L2.length<=1000000)&&kJ (.pnts l0) L2)=false:=t;rw[S2.kJ hin,S2.len]at t;simp[hM]at t;omega
   rotate_left 2
   rw[show dQ (.pnts l0) n L2 ((a+b).tdiv 2).toNat (((a+b).tdiv 2)+m - x).toNat b.toNat=L3 by simp only[u2 (),u4 (),uB ()];rw[<- e3,if_pos aa]]
  all_goals
   (conv=>whnf);refine⟨rfl,?_⟩;show(0,aq 2 (flat (eV l0).fl L3))::F=_;rw[hL3]
def aIl (n:Nat)(D:CW)(l:List Int)(r:List Value)(c:Nat):Option (Bool × List Int):=match r with
 |[.int .i64 a]=>some (decide (a=l.length)&&decide (l.length<=n)&&decide (l.length<=1000000)&&kJ D l,kO D n l)
 |_=>none
theorem aEu {n:Nat}{D:CW}{l:List Int}{r:List Value}{c:Nat}{l':List Int}(h:aIl n D l r c=some (true,l')):∃ a:Int,r=[iv a]/\a=l.length/\l.length<=n/\l.length<=1000000/\kJ D l=true/\l'=kO D n l:=by
 unfold aIl at h;split at h
 ·rename_i a;injection h with h;injection h with h1 h2;simp only[af,ag]at h1;exact⟨a,rfl,h1.1.1.1,h1.1.1.2,h1.1.2,h1.2,h2.symm⟩
 ·cases h
theorem aOM (n:Nat):c7 Tryz.prog 210 (frQ (aIl n)):=w7 (aL (xl:=[(232,frQ (aHa n)),aHc]) (.cons (aKc n) (.cons aPq .nil))) fun l0 l r c l' hs=>by
 obtain⟨w,rfl,hw,hn,hl,hin,rfl⟩:=aEu hs;clear hs;refine⟨rfl,fun F nx hF hC=>?_⟩;have hp:CLt (.pnts l0) (0,0) nx:=trivial;(conv=>whnf);refine⟨fun q e h nx'=>∃(a k:Nat) (x y:Int) (L:List Int),x=a/\y=a+20/\(a<=l.length)/\l.length+1 - a<=k/\q=l.length+1 - a/\Sw l L/\nA (.pnts l0) l.length (l.length+1) l 0=nA (.pnts l0) l.length k L a/\e=wE l.length c w x y (.pnts l0) (0,0)/\h=(0,aq 2 (flat (eV l0).fl L))::F/\nx'=nx,⟨l.length+1 - 0,?_⟩,?_⟩
 ·refine aV (e0:=wE l.length c w 0 20 (.pnts l0) (0,0)) (o0:=aq 2 (flat (eV l0).fl l)) (n0:=nx) hF ⟨0,l.length+1,0,20,l,rfl,rfl,Nat.zero_le _,aa,rfl,.refl l,rfl,rfl,rfl,rfl⟩ ?_ (aE (aC _ _)) (ah _);unfold wE;refine ae.2 ⟨bE hF.1 rfl,ae.2 ⟨bP hp rfl,?_⟩⟩;exact xE
 rintro q e h nx' ⟨a,k,x,y,L,hx,hy,ha,hk,rfl,sw,hins,rfl,rfl,rfl⟩;unfold wE;((conv=>whnf);apply bm<;>intro h1)
 ·have h1:a+20<=l.length:=(by simp[aB,aF]at h1;omega);obtain⟨k',rfl⟩:∃ k',k=k'+1:=⟨k - 1,aa⟩;rw[nA.eq_2 (.pnts l0) l.length L a k',if_pos h1]at hins;(conv=>whnf);refine⟨0,c,[iv x,iv y],l0,L,by rw[sw.len];rfl,rfl,bD hC,?_⟩;((conv=>whnf);apply bm<;>intro t)
  ·(conv=>whnf);refine bt ?_;(conv=>whnf);refine⟨l.length+1 - (a+20),aa,?_⟩;have hv:gH (.pnts l0) x.toNat L (y - 1 - x).toNat=gH (.pnts l0) a L (a+20 - 1 - a):=(by rw[(aa:x.toNat=a),(aa:(y - 1 - x).toNat=a+20 - 1 - a)]);refine aV (e0:=wE l.length c w y (y+20) (.pnts l0) (0,0)) (o0:=aq 2 (flat (eV l0).fl (gH (.pnts l0) a L (a+20 - 1 - a)))) (n0:=nx') hF ⟨a+20,k',_,_,_,aa,aa,aa,aa,rfl,sw.trans (DG (.pnts l0) a (a+20) L (by rw[sw.len];omega) aa),hins,rfl,rfl,rfl⟩ ?_ (aK (aC _ _) (by rw[<- hv])) (ah _);unfold wE;refine ae.2 ⟨bE hF.1 rfl,ae.2 ⟨bP hp rfl,?_⟩⟩;exact xE
  exfalso;have t:(decide (0<=x)&&decide (x<=y)&&decide (y<=L.length)&&decide (L.length<=1000000)&&kJ (.pnts l0) L)=false:=t;rw[sw.kJ hin,sw.len]at t;simp at t;omega
 have h1:¬ a+20<=l.length:=(by simp[aB,aF]at h1;omega);obtain⟨k',rfl⟩:∃ k',k=k'+1:=⟨k - 1,aa⟩;rw[nA.eq_2 (.pnts l0) l.length L a k',if_neg h1]at hins;(conv=>whnf);refine⟨0,c,[iv x,iv w],l0,L,by rw[sw.len];rfl,rfl,bD hC,?_⟩;((conv=>whnf);apply bm<;>intro t);rotate_left
 ·exfalso;have t:(decide (0<=x)&&decide (x<=w)&&decide (w<=L.length)&&decide (L.length<=1000000)&&kJ (.pnts l0) L)=false:=t;rw[sw.kJ hin,sw.len]at t;simp at t;omega
 have hv:gH (.pnts l0) x.toNat L (w - 1 - x).toNat=gH (.pnts l0) (nA (.pnts l0) l.length (l.length+1) l 0).2 (nA (.pnts l0) l.length (l.length+1) l 0).1 (l.length - 1 - (nA (.pnts l0) l.length (l.length+1) l 0).2):=by
  rw[hins,(aa:x.toNat=a),(aa:(w - 1 - x).toNat=l.length - 1 - a)]
 have sw1:Sw l (gH (.pnts l0) x.toNat L (w - 1 - x).toNat):=by
  rw[(aa:x.toNat=a),(aa:(w - 1 - x).toNat=l.length - 1 - a)];exact sw.trans (DG (.pnts l0) a l.length L (by rw[sw.len];omega) aa)
 clear hins;generalize hL1:gH (.pnts l0) x.toNat L (w - 1 - x).toNat=L1 at hv sw1;(conv=>whnf);refine⟨fun q e h nx''=>∃(s k:Nat) (z:Int) (M:List Int),z=s/\1<=s/\s<=2000000/\l.length+1 - s<=k/\q=l.length+1 - s/\Sw l M/\kO (.pnts l0) n l=C3 (.pnts l0) n l.length k M s/\e=o9 l.length c w z (.pnts l0) (0,0)/\h=(0,aq 2 (flat (eV l0).fl M))::F/\nx''=nx',⟨l.length+1 - 20,?_⟩,?_⟩
 ·refine aV (e0:=o9 l.length c w 20 (.pnts l0) (0,0)) (o0:=aq 2 (flat (eV l0).fl L1)) (n0:=nx') hF ⟨20,l.length+1,20,L1,rfl,aa,aa,aa,rfl,sw1,by rw[hv];rfl,rfl,rfl,rfl⟩ ?_ (aK (aC _ _) (by rw[<- hL1])) (ah _);unfold o9;refine ae.2 ⟨bE hF.1 rfl,ae.2 ⟨bP hp rfl,?_⟩⟩;exact xE
 rintro q e h nx'' ⟨s,k2,z,M,hz,hs1,hs2,hk2,rfl,swM,hst,rfl,rfl,rfl⟩;clear hv hL1 sw1 hk ha sw hy hx h1;unfold o9;((conv=>whnf);apply bm<;>intro h2);rotate_left
 ·have h2:¬ s<l.length:=(by simp[aB,aF]at h2;omega);(conv=>whnf);refine⟨rfl,?_⟩;have hM:kO (.pnts l0) n l=M:=by
   rw[hst];cases k2 with
   |zero=>rfl
   |succ k2=>rw[C3.eq_2,if_neg h2]
  rw[hM]
 have h2:s<l.length:=(by simp[aB,aF]at h2;omega);obtain⟨k3,rfl⟩:∃ k3,k2=k3+1:=⟨k2 - 1,aa⟩;rw[C3.eq_2 (.pnts l0) n l.length M s k3,if_pos h2]at hst;(conv=>whnf);refine bt ?_;(conv=>whnf);refine⟨fun q e h nx'''=>∃(a k:Nat) (x y:Int) (L:List Int),x=a/\y=a+2*s/\(a<=l.length)/\l.length+1 - a<=k/\q=l.length+1 - a/\Sw l L/\rH (.pnts l0) n l.length s (l.length+1) M 0=rH (.pnts l0) n l.length s k L a/\e=wH l.length c w z x y (.pnts l0) (0,0)/\h=(0,aq 2 (flat (eV l0).fl L))::F/\nx'''=nx'',⟨l.length+1 - 0,?_⟩,?_⟩
 ·refine aV (e0:=wH l.length c w z 0 (2*z) (.pnts l0) (0,0)) (o0:=aq 2 (flat (eV l0).fl M)) (n0:=nx'') hF ⟨0,l.length+1,0,_,M,rfl,aa,Nat.zero_le _,aa,rfl,swM,rfl,rfl,rfl,rfl⟩ ?_ (aE (aC _ _)) (ah _);unfold wH;refine ae.2 ⟨bE hF.1 rfl,ae.2 ⟨bP hp rfl,?_⟩⟩;exact xE
 rintro q e h nx''' ⟨a,k,x,y,L,hx,hy,ha,hk,rfl,sw,hmr,rfl,rfl,rfl⟩;unfold wH;obtain⟨k',rfl⟩:∃ k',k=k'+1:=⟨k - 1,aa⟩;((conv=>whnf);apply bm<;>intro h4)
 ·have h4:a+2*s<=l.length:=(by simp[aB,aF]at h4;omega);rw[rH.eq_2 (.pnts l0) n l.length s L a k',if_pos h4]at hmr;(conv=>whnf);refine bt ?_;(conv=>whnf);refine⟨0,c,[iv x,iv (x+z),iv y],l0,L,by rw[sw.len];rfl,rfl,bD hC,?_⟩;((conv=>whnf);apply bm<;>intro t3)
  ·(conv=>whnf);refine bt ?_;(conv=>whnf);refine bt ?_;(conv=>whnf);refine⟨l.length+1 - (a+2*s),aa,?_⟩;have hv:dQ (.pnts l0) n L x.toNat (x+z).toNat y.toNat=dQ (.pnts l0) n L a (a+s) (a+2*s):=(by rw[(aa:x.toNat=a),(aa:(x+z).toNat=a+s),(aa:y.toNat=a+2*s)]);refine aV (e0:=wH l.length c w z y (y+2*z) (.pnts l0) (0,0)) (o0:=aq 2 (flat (eV l0).fl (dQ (.pnts l0) n L a (a+s) (a+2*s)))) (n0:=nx''') hF ⟨a+2*s,k',_,_,_,aa,aa,aa,aa,rfl,sw.trans (oX (.pnts l0) n _ _ _ _ aa aa (by rw[sw.len];omega)),hmr,rfl,rfl,rfl⟩ ?_ (aK (aC _ _) (by rw[<- hv])) (ah _);unfold wH;refine ae.2 ⟨bE hF.1 rfl,ae.2 ⟨bP hp rfl,?_⟩⟩;exact xE
  exfalso;have t3:(decide (0<=x)&&decide (x<x+z)&&decide (x+z<y)&&decide (y<=L.length)&&decide (y - x<=n)&&decide (L.length<=1000000)&&kJ (.pnts l0) L)=false:=t3;rw[sw.kJ hin,sw.len]at t3;simp at t3;omega
 have h4:¬ a+2*s<=l.length:=(by simp[aB,aF]at h4;omega);rw[rH.eq_2 (.pnts l0) n l.length s L a k',if_neg h4]at hmr;rw[hmr]at hst;(conv=>whnf);refine bt ?_;((conv=>whnf);apply bm<;>intro h6)
 ·have h6:a+s<l.length:=(by simp[aB,aF]at h6;omega);(conv=>whnf);refine⟨0,c,[iv x,iv (x+z),iv w],l0,L,by rw[sw.len];rfl,rfl,bD hC,?_⟩;((conv=>whnf);apply bm<;>intro t3)
  ·(conv=>whnf);refine bt ?_;(conv=>whnf);refine⟨l.length+1 - s*2,aa,?_⟩;have hv:dQ (.pnts l0) n L x.toNat (x+z).toNat w.toNat=rL (.pnts l0) n l.length s (L,a):=by
    unfold rL;rw[if_pos h6,(aa:x.toNat=a),(aa:(x+z).toNat=a+s),(aa:w.toNat=l.length)]
   have sw2:Sw l (rL (.pnts l0) n l.length s (L,a)):=by
    unfold rL;rw[if_pos h6];exact sw.trans (oX (.pnts l0) n _ _ _ _ (by show a<a+s;omega) h6 (by rw[sw.len];omega))
   refine aV (e0:=o9 l.length c w (z*2) (.pnts l0) (0,0)) (o0:=aq 2 (flat (eV l0).fl (rL (.pnts l0) n l.length s (L,a)))) (n0:=nx''') hF ⟨s*2,k3,_,_,aa,aa,aa,aa,rfl,sw2,hst,rfl,rfl,rfl⟩ ?_ (aK (aC _ _) (by rw[<- hv])) (ah _);unfold o9;refine ae.2 ⟨bE hF.1 rfl,ae.2 ⟨bP hp rfl,?_⟩⟩;exact xE
  exfalso;have t3:(decide (0<=x)&&decide (x<x+z)&&decide (x+z<w)&&decide (w<=L.length)&&decide (w - x<=n)&&decide (L.length<=1000000)&&kJ (.pnts l0) L)=false:=t3;rw[sw.kJ hin,sw.len]at t3;simp at t3;omega
 have h6:¬ a+s<l.length:=(by simp[aB,aF]at h6;omega);(conv=>whnf);refine bt ?_;(conv=>whnf);refine⟨l.length+1 - s*2,aa,?_⟩;have hv:rL (.pnts l0) n l.length s (L,a)=L:=(by unfold rL;rw[if_neg h6]);rw[hv]at hst;refine aV (e0:=o9 l.length c w (z*2) (.pnts l0) (0,0)) (o0:=aq 2 (flat (eV l0).fl L)) (n0:=nx''') hF ⟨s*2,k3,_,_,aa,aa,aa,aa,rfl,sw,hst,rfl,rfl,rfl⟩ ?_ (aE (aC _ _)) (ah _);unfold o9;refine ae.2 ⟨bE hF.1 rfl,ae.2 ⟨bP hp rfl,?_⟩⟩;exact xE
def WV (n:Nat)(D:CW)(l:List Int)(r:List Value)(c:Nat):Option (Bool × List Int):=match r with
 |[]=>some (decide (l.length<=n)&&decide (l.length<=1000000)&&kJ D l,kO D n l)
 |_=>none
theorem SS {n:Nat}{D:CW}{l:List Int}{r:List Value}{c:Nat}{l':List Int}(h:WV n D l r c=some (true,l')):r=[]/\l.length<=n/\l.length<=1000000/\kJ D l=true/\l'=kO D n l:=by
 unfold WV at h;split at h
 ·injection h with h;injection h with h1 h2;simp only[af,ag]at h1;exact⟨rfl,h1.1.1,h1.1.2,h1.2,h2.symm⟩
 ·cases h
theorem aQi (n:Nat):c7 Tryz.prog 175 (frQ (WV n)):=w7 (aL (xl:=[(210,frQ (aIl n))]) (.cons (aOM n) .nil)) fun l0 l r c l' hs=>by
 obtain⟨rfl,hn,hl,hin,rfl⟩:=SS hs;clear hs;refine⟨rfl,fun F nx hF hC=>?_⟩;(conv=>whnf);refine⟨0,c,[iv l.length],l0,l,rfl,rfl,bD hC,?_⟩;((conv=>whnf);apply bm<;>intro t)
 ·(conv=>whnf);exact⟨rfl,rfl⟩
 exfalso;have t:(decide ((l.length:Int)=l.length)&&decide (l.length<=n)&&decide (l.length<=1000000)&&kJ (.pnts l0) l)=false:=t;rw[hin]at t;simp at t;omega
theorem aQs (n:Nat):c7 Tryz.prog 115 (frQ (WV n)):=w7 (aL (xl:=[(175,frQ (WV n))]) (.cons (aQi n) .nil)) fun l0 l r c l' hs=>by
 obtain⟨rfl,hn,hl,hin,rfl⟩:=SS hs;clear hs;refine⟨rfl,fun F nx hF hC=>?_⟩;(conv=>whnf);refine⟨0,c,[],l0,l,rfl,rfl,bD hC,?_⟩;((conv=>whnf);apply bm<;>intro t)
 ·(conv=>whnf);exact⟨rfl,rfl⟩
 exfalso;have t:(decide (l.length<=n)&&decide (l.length<=1000000)&&kJ (.pnts l0) l)=false:=t;rw[hin]at t;simp at t;omega
theorem TG {a b:Nat}:(Nat.ble a b=true)↔a<=b:=⟨Nat.le_of_ble_eq_true,Nat.ble_eq_true_of_le⟩
theorem TL {a b:Nat}:(Nat.ble a b=false)↔b<a:=by
 constructor
 ·intro h;apply Classical.byContradiction;intro hn;rw[Nat.ble_eq_true_of_le aa]at h;cases h
 intro h;cases e:Nat.ble a b with
 |false=>rfl
 |true=>exact absurd (Nat.le_of_ble_eq_true e) aa
theorem JJ (o:Nat)(i:Int)(s:Nat):aB.A.ix o i s=o+i.toNat*s:=rfl
theorem r5 (a b:Nat):aB.A.subN a b=a - b:=rfl
theorem yO (a:Int):aB.A.toN a=a.toNat:=rfl
theorem yE (l:List (Int × Int)):(flat aX.fl l).length=l.length*2:=aO aX l
theorem uN (n:Nat)(zs:List Value):(rep n zs).length=n*zs.length:=by
 unfold rep;rw[List.length_flatten,List.map_replicate,List.sum_replicate_nat]
theorem aFw (l:List (Int × Int)):∀(i:Nat) (v:Int × Int),i<l.length->bU (flat aX.fl l) (i*2) [iv v.1,iv v.2]=flat aX.fl (l.set i v):=by
 induction l with
 |nil=>intro i v h;cases h
 |cons a r ih =>
  intro i v h;cases i with
  |zero=>rfl
  |succ i =>
   have:=ih i v (by simpa using h);simp only[List.set_cons_succ,flat,<- this];have e:(i+1)*2=i*2+2:=aa;rw[e];unfold bU;show List.take (i*2+2) (iv a.1::iv a.2::flat aX.fl r)++_++List.drop (i*2+2+2) (iv a.1::iv a.2::flat aX.fl r)=_;rfl
set_option maxRecDepth 100000
def nH (l:List (Int × Int)):Nat->List (Int × Int)
 |0=>[]
 |p+1=>nH l p++(if p=0\/fS (bI l p) (bI l (p - 1))=false then[bI l p]else[])
theorem DK (l:List (Int × Int)):∀ p,(nH l p).length<=p
 |0=>ah _
 |p+1=>by
  have:=DK l p;unfold nH;rw[List.length_append];split <;> simp <;> omega
theorem ID {l:List (Int × Int)}{p:Nat}(h:fS (bI l p) (bI l (p - 1))=false):nH l (p+1)=nH l p++[bI l p]:=by
 conv=>lhs;unfold nH
 rw[if_pos (.inr h)]
theorem LG {l:List (Int × Int)}{p:Nat}(h0:0<p)(h:fS (bI l p) (bI l (p - 1))=true):nH l (p+1)=nH l p:=by
 conv=>lhs;unfold nH
 rw[if_neg (fun hq=>hq.elim (fun h1=>by omega) (fun h1=>by rw[h]at h1;cases h1)),List.append_nil]
theorem I8 {l:List (Int × Int)}:∀ p,p<=l.length->(∀ i,0<i->i<p->fS (bI l i) (bI l (i - 1))=false)->nH l p=l.take p
 |0,_,_=>rfl
 |p+1,hp,h=>by
  unfold nH;have h1:p=0\/fS (bI l p) (bI l (p - 1))=false:=by
   by_cases h0:p=0
   ·exact .inl h0
   exact .inr (h p aa aa)
  rw[if_pos h1,I8 p aa (fun i h0 hi=>h i h0 aa),gK (aa:p<l.length),List.take_append_getElem aa]
def rJ (l:List (Int × Int))(p:Nat):List (Int × Int):=nH l p++l.drop (nH l p).length
theorem xB (l:List (Int × Int)){p:Nat}(hp:p<=l.length):(rJ l p).length=l.length:=by
 have:=DK l p;unfold rJ;rw[List.length_append,List.length_drop];omega
theorem aHB (l:List (Int × Int)){p k:Nat}(hp:p<=l.length)(hk:(nH l p).length<=k)(hkl:k<l.length):bI (rJ l p) k=bI l k:=by
 rw[gK (by rw[xB l hp];exact hkl),gK hkl];unfold rJ;rw[List.getElem_append_right hk,List.getElem_drop];congr 1;omega
theorem aFc {l:List (Int × Int)}{p:Nat}(hp:p<l.length)(hd:(nH l p).length<p)(h:fS (bI l p) (bI l (p - 1))=false):(rJ l p).set (nH l p).length (bI l p)=rJ l (p+1):=by
 unfold rJ;rw[ID h,List.length_append,List.length_singleton];rw[List.set_append_right _ _ (ah _),Nat.sub_self,List.append_assoc];congr 1;rw[List.drop_eq_getElem_cons (aa:(nH l p).length<l.length)];rfl
theorem aDo {l:List (Int × Int)}{p:Nat}(h0:0<p)(h:fS (bI l p) (bI l (p - 1))=true):rJ l p=rJ l (p+1):=by
 unfold rJ;rw[LG h0 h]
theorem YI {l:List (Int × Int)}{p:Nat}(h0:0<p)(hp:p<l.length)(hno:∀ i,0<i->i<p->fS (bI l i) (bI l (i - 1))=false)(h:fS (bI l p) (bI l (p - 1))=true):rJ l (p+1)=l/\(nH l (p+1)).length=p:=by
 have e:=I8 p aa hno;have e2:nH l (p+1)=l.take p:=(by rw[LG h0 h,e]);have e3:(nH l (p+1)).length=p:=(by rw[e2,List.length_take];omega);refine⟨?_,e3⟩;unfold rJ;rw[e3,e2,List.take_append_drop]
theorem aDx {l:List (Int × Int)}{o m:Nat}(ho:o=(nH l l.length).length*2)(hm:m=l.length - (nH l l.length).length):bU (flat aX.fl (rJ l l.length)) o (rep m [iv 0,iv 0])=flat aX.fl (nH l l.length)++rep m [iv 0,iv 0]:=by
 have h1:=DK l l.length;subst ho;unfold bU rJ;have l1:(flat aX.fl (nH l l.length)).length=(nH l l.length).length*2:=yE _;have l2:(flat aX.fl (l.drop (nH l l.length).length)).length=(l.length - (nH l l.length).length)*2:=(by rw[yE,List.length_drop]);have l3:(rep m [iv 0,iv 0]).length=m*2:=uN _ _;rw[rY,List.take_left' l1,l3];rw[List.drop_eq_nil_of_le (by rw[List.length_append,l1,l2,hm];omega),List.append_nil]
def SCo (l:List (Int × Int)):List Value->Nat->Option (Bool × Option Nat × List Value)
 |[],c=>some (decide (l.length<=1000000)&&decide (l.length<=c),some (nH l l.length).length,flat aX.fl (nH l l.length)++rep (l.length - (nH l l.length).length) [iv 0,iv 0])
 |_,_=>none
theorem aHL {l:List (Int × Int)}{r:List Value}{c:Nat}{m:Option Nat}{cs:List Value}(h:SCo l r c=some (true,m,cs)):r=[]/\l.length<=1000000/\l.length<=c/\m=some (nH l l.length).length/\cs=flat aX.fl (nH l l.length)++rep (l.length - (nH l l.length).length) [iv 0,iv 0]:=by
 unfold SCo at h;split at h
 ·injection h with h;injection h with h1 h2;injection h2 with h2 h3;simp only[af,ag]at h1;exact⟨rfl,h1.1,h1.2,h2.symm,h3.symm⟩
 ·cases h
theorem aPl (n:Nat):dT (rep n [iv 0,iv 0])=true:=by
 unfold rep;refine r7 fun v hv=>?_;obtain⟨x,hx,hv⟩:=List.mem_flatten.1 hv;rw[(List.mem_replicate.1 hx).2]at hv;simp only[List.mem_cons,List.not_mem_nil,or_false]at hv;rcases hv with rfl|rfl <;> rfl
theorem JN (k o n c:Nat):fJ id (.slice (some ⟨k,o,none⟩) n c)=.slice (some ⟨k,o,none⟩) n c:=by
 unfold fJ;simp only[tr,eK,cF,eM,j4,Nat.zero_add,Nat.add_zero,id]
def aCg (n c:Nat)(k:Int):List (Nat × Value):=[(0,ak 0 n c),(3,iv k)]
def G3 (n c:Nat)(o2 n2 c2:Nat)(k k2:Int):List (Nat × Value):=[(0,ak 0 n c),(3,iv k),(4,.slice (some ⟨0,o2,none⟩) n2 c2),(5,iv k2)]
theorem aPL {l:List (Int × Int)}{p q o:Nat}(hp:p<=l.length)(hd:(nH l p).length<=q)(hq:q<l.length)(ho:o=q*2):kI (flat aX.fl (rJ l p)) o 2=some [iv (bI l q).1,iv (bI l q).2]:=by
 rw[<- aHB l hp hd hq];exact MH _ (by rw[xB l hp];exact hq) ho
set_option maxHeartbeats 1000000 in
attribute [local irreducible] bI rJ nH in
theorem aOQ:c7 Tryz.prog 117 (frX aX SCo):=aNx aX (s:=SCo) (f:=117) (aL (xl:=[]) .nil) fun l r c m cs' hs=>by
 obtain⟨rfl,hlen,hlc,rfl,rfl⟩:=aHL hs;refine⟨rfl,by rw[GB,aC aX,aPl];rfl,(fun q e=>by injection e with e;rw[<- e];exact DK l _),fun F N hF=>?_⟩;have hN:=hF.1;clear hs;((conv=>whnf);apply bm<;>intro h1)
 ·have hsm:l.length<2:=(by simp only[iZ,gZ,ag]at h1;omega);have hd:nH l l.length=l:=by
   rw[I8 l.length (ah _) (fun i h0 hi=>by omega),List.take_length]
  rw[hd,Nat.sub_self];(conv=>whnf);exact⟨rfl,(by show(0,aq 2 (flat aX.fl l))::F=_;rw[show rep 0 [iv 0,iv 0]=[]from rfl,List.append_nil];rfl)⟩
 have hbig:2<=l.length:=(by simp only[iZ,gZ,decide_eq_false_iff_not]at h1;omega);(conv=>whnf);refine⟨fun n e h nq=>∃(i:Nat) (a:Int),a=i/\1<=i/\i<=l.length/\n=l.length - i/\(∀ j,0<j->j<i->fS (bI l j) (bI l (j - 1))=false)/\e=aCg l.length c a/\h=(0,aq 2 (flat aX.fl l))::F/\nq=N,⟨l.length - 1,?_⟩,?_⟩
 ·refine aV (e0:=aCg l.length c 1) hF ⟨1,1,rfl,ah _,aa,rfl,(fun j h0 h1=>by omega),rfl,rfl,rfl⟩ ?_ ?_ (ah _)
  ·unfold aCg;((repeat' (refine ae.2 ⟨⟨by first|rfl|(rw[JN];rfl),?_⟩,?_⟩;(first|exact c9 rfl|exact⟨hN,fun h=>(by cases h)⟩)));exact fun _ h=>(by cases h))
  exact aE (aC aX _)
 rintro n e h nq ⟨i,a,ha,hi1,hi,rfl,hno,rfl,rfl,hnx⟩;subst hnx;unfold aCg;((conv=>whnf);apply bm<;>intro g1);rotate_left
 ·have hge:i=l.length:=(by simp only[iZ,gZ,decide_eq_false_iff_not]at g1;omega);subst hge;have hd:nH l l.length=l:=by
   rw[I8 l.length (ah _) (fun i h0 hi=>hno i h0 hi),List.take_length]
  rw[hd,Nat.sub_self];(conv=>whnf);exact⟨rfl,(by show(0,aq 2 (flat aX.fl l))::F=_;rw[show rep 0 [iv 0,iv 0]=[]from rfl,List.append_nil];rfl)⟩
 have hlt:i<l.length:=(by simp only[iZ,gZ,ag]at g1;omega);have hlt1:i - 1<l.length:=aa;have hi0:0<i:=aa
 repeat' first
  |(exfalso
    simp only[lS,AU,gD,iZ,B3,xR,jE,mW,gZ,r5,yO,aN,TG,TL,yE,Bool.not_eq_false',Bool.not_eq_true',Bool.and_eq_false_iff,af,ag,decide_eq_false_iff_not,List.length_append,List.length_take,List.length_drop,List.length_nil,List.length_cons,JJ,uN,bU]at g;omega)
  |(((conv=>whnf);apply bm<;>intro g))
  |((conv=>whnf)
    refine eZ (MH l hlt ?_) ?_
    ·simp[aB,aF];omega)
  |((conv=>whnf)
    refine eZ (MH l hlt1 ?_) ?_
    ·show 0+(a - 1).toNat*2=_;omega)
 all_goals(conv=>whnf)
 ·have hdup:fS (bI l i) (bI l (i - 1))=true:=‹aB.A.andB (aB.A.eq (bI l i).fst (bI l (i - 1)).fst) (aB.A.andB (aB.A.eq (bI l i).snd (bI l (i - 1)).snd) true)=true›;obtain⟨hW,hD⟩:=YI hi0 hlt hno hdup;refine⟨fun m e h nr=>∃(p:Nat) (a' b:Int),i+1<=p/\p<=l.length/\m=l.length - p/\b=(p:Int) - i/\a'=((nH l p).length:Int)/\(nH l p).length<p/\e=G3 l.length c (aB.A.ix 0 a 2) (aB.A.subN l.length (aB.A.toN a)) (aB.A.subN c (aB.A.toN a)) a' b/\h=(0,aq 2 (flat aX.fl (rJ l p)))::F/\nr=nq,⟨l.length - (i+1),?_⟩,?_⟩
  ·refine aV (e0:=G3 l.length c (aB.A.ix 0 a 2) (aB.A.subN l.length (aB.A.toN a)) (aB.A.subN c (aB.A.toN a)) a 1) hF ⟨i+1,a,1,ah _,aa,rfl,aa,by rw[hD];exact ha,aa,rfl,rfl,rfl⟩ ?_ ?_ (ah _)
   ·unfold G3;((repeat' (refine ae.2 ⟨⟨by first|rfl|(rw[JN];rfl),?_⟩,?_⟩;(first|exact c9 rfl|exact⟨hN,fun h=>(by cases h)⟩)));exact fun _ h=>(by cases h))
   rw[hW];exact aE (aC aX _)
  rintro m e h nr ⟨p,a',b,hp1,hp2,rfl,hb,ha',hd',rfl,rfl,hnr⟩;subst hnr;have hF:=hF;unfold G3;((conv=>whnf);apply bm<;>intro g2)
  ·have hpl:p<l.length:=(by simp only[iZ,gZ,r5,yO,ag]at g2;omega);have hwl:=xB l hp2
   repeat' first
    |(exfalso
      simp only[lS,AU,gD,iZ,B3,xR,jE,mW,gZ,r5,yO,aN,TG,TL,yE,hwl,Bool.not_eq_false',Bool.not_eq_true',Bool.and_eq_false_iff,af,ag,decide_eq_false_iff_not,List.length_nil,List.length_cons,JJ]at g;omega)
    |(((conv=>whnf);apply bm<;>intro g))
    |((conv=>whnf)
      refine eZ (aPL (q:=p) hp2 aa hpl ?_) ?_
      ·simp only[JJ,AU];omega)
    |((conv=>whnf)
      refine eZ (aPL (q:=p - 1) hp2 aa aa ?_) ?_
      ·simp only[JJ,AU];omega)
   all_goals(conv=>whnf)
   ·have hneq:fS (bI l p) (bI l (p - 1))=false:=by
     have hg:(!(fS (bI l p) (bI l (p - 1))))=true:=‹aB.A.notB (aB.A.andB (aB.A.eq (bI l p).fst (bI l (p - 1)).fst) (aB.A.andB (aB.A.eq (bI l p).snd (bI l (p - 1)).snd) true))=true›;simpa using hg
    refine⟨l.length - (p+1),aa,?_⟩;refine aV (e0:=G3 l.length c (aB.A.ix 0 a 2) (aB.A.subN l.length (aB.A.toN a)) (aB.A.subN c (aB.A.toN a)) (a'+1) (b+1)) hF ⟨p+1,a'+1,b+1,aa,hpl,rfl,aa,by rw[ID hneq,List.length_append,List.length_singleton];omega,by rw[ID hneq,List.length_append,List.length_singleton];omega,rfl,rfl,rfl⟩ ?_ ?_ (ah _)
    ·unfold G3;((repeat' (refine ae.2 ⟨⟨by first|rfl|(rw[JN];rfl),?_⟩,?_⟩;(first|exact c9 rfl|exact⟨hN,fun h=>(by cases h)⟩)));exact fun _ h=>(by cases h))
    refine aK (aC aX _) ?_;rw[<- aFc hpl hd' hneq,<- aFw _ _ _ (by rw[xB l hp2];omega)];show bU _ (0+a'.toNat*2) _=_;rw[(aa:0+a'.toNat*2=(nH l p).length*2)];rfl
   ·exfalso;have hx:0+a'.toNat*2+2<=(flat aX.fl (rJ l p)).length:=(by rw[yE,hwl];omega);have hc:Nat.ble (0+a'.toNat*2+2) (flat aX.fl (rJ l p)).length=false:=g;rw[Nat.ble_eq_true_of_le hx]at hc;cases hc
   have hneq:fS (bI l p) (bI l (p - 1))=true:=by
    have hg:(!(fS (bI l p) (bI l (p - 1))))=false:=‹aB.A.notB (aB.A.andB (aB.A.eq (bI l p).fst (bI l (p - 1)).fst) (aB.A.andB (aB.A.eq (bI l p).snd (bI l (p - 1)).snd) true))=false›;simpa using hg
   refine⟨l.length - (p+1),aa,?_⟩;refine aV (e0:=G3 l.length c (aB.A.ix 0 a 2) (aB.A.subN l.length (aB.A.toN a)) (aB.A.subN c (aB.A.toN a)) a' (b+1)) hF ⟨p+1,a',b+1,aa,hpl,rfl,aa,by rw[LG aa hneq];exact ha',by rw[LG aa hneq];omega,rfl,rfl,rfl⟩ ?_ ?_ (ah _)
   ·unfold G3;((repeat' (refine ae.2 ⟨⟨by first|rfl|(rw[JN];rfl),?_⟩,?_⟩;(first|exact c9 rfl|exact⟨hN,fun h=>(by cases h)⟩)));exact fun _ h=>(by cases h))
   rw[aDo aa hneq];exact aE (aC aX _)
  have hpe:p=l.length:=(by simp only[iZ,gZ,r5,yO,decide_eq_false_iff_not]at g2;omega);subst hpe
  repeat' first
   |(exfalso
     simp only[lS,AU,gD,iZ,B3,xR,jE,mW,gZ,r5,yO,aN,TG,TL,yE,Bool.not_eq_false',Bool.not_eq_true',Bool.and_eq_false_iff,af,ag,decide_eq_false_iff_not,List.length_append,List.length_take,List.length_drop,List.length_nil,List.length_cons,JJ,uN,bU]at g;omega)
   |(((conv=>whnf);apply bm<;>intro g))
  all_goals(conv=>whnf)
  obtain⟨M,hM⟩:∃ M:Nat,aB.A.subN l.length (aB.A.toN a')=M+1:=⟨l.length - a'.toNat - 1,by simp only[r5,yO];omega⟩;have hM2:M+1=l.length - (nH l l.length).length:=by
   have:l.length - a'.toNat=M+1:=hM;omega
  rw[hM]
  repeat' first
   |(exfalso
     simp only[lS,AU,gD,iZ,B3,xR,jE,mW,gZ,r5,yO,aN,TG,TL,yE,Bool.not_eq_false',Bool.not_eq_true',Bool.and_eq_false_iff,af,ag,decide_eq_false_iff_not,List.length_append,List.length_take,List.length_drop,List.length_nil,List.length_cons,JJ,uN,bU]at g;omega)
   |(((conv=>whnf);apply bm<;>intro g))
  all_goals(conv=>whnf)
  rotate_left
  all_goals try
   (exfalso
    have hx:0+a'.toNat*2+(M+1)*2<=(flat aX.fl (rJ l l.length)).length:=(by rw[yE,xB l (ah _)];omega);have hc:Nat.ble (0+a'.toNat*2+(M+1)*2) (flat aX.fl (rJ l l.length)).length=false:=g;rw[Nat.ble_eq_true_of_le hx]at hc;cases hc)
  all_goals try
   (exfalso
    simp only[lS,AU,gD,iZ,B3,xR,jE,mW,gZ,r5,yO,aN,TG,TL,yE,Bool.not_eq_false',Bool.not_eq_true',Bool.and_eq_false_iff,af,ag,decide_eq_false_iff_not,List.length_append,List.length_take,List.length_drop,List.length_nil,List.length_cons,JJ,uN,bU]at g;omega)
  ·refine⟨?_,?_⟩
   ·show ak 0 a'.toNat c=ak 0 _ c;rw[(aa:a'.toNat=(nH l l.length).length)]
   show(0,aq 2 (bU (flat aX.fl (rJ l l.length)) (0+a'.toNat*2) (rep (M+1) [iv 0,iv 0])))::F=_;rw[aDx aa hM2,hM2];rfl
  all_goals trace_state
 have hnd:fS (bI l i) (bI l (i - 1))=false:=‹aB.A.andB (aB.A.eq (bI l i).fst (bI l (i - 1)).fst) (aB.A.andB (aB.A.eq (bI l i).snd (bI l (i - 1)).snd) true)=false›;refine⟨l.length - (i+1),aa,?_⟩;refine aV (e0:=aCg l.length c (a+1)) hF ⟨i+1,a+1,aa,aa,hlt,rfl,(fun j h0 h1=>?_),rfl,rfl,rfl⟩ ?_ ?_ (ah _)
 ·by_cases e:j=i
  ·rw[e];exact hnd
  exact hno j h0 aa
 ·unfold aCg;((repeat' (refine ae.2 ⟨⟨by first|rfl|(rw[JN];rfl),?_⟩,?_⟩;(first|exact c9 rfl|exact⟨hN,fun h=>(by cases h)⟩)));exact fun _ h=>(by cases h))
 exact aE (aC aX _)
def V7 (l:List gC):Nat->List Pt
 |0=>[]
 |i+1=>V7 l i++[(gF l i).a,(gF l i).b]
theorem RZ (l:List gC):∀ i,(V7 l i).length=2*i
 |0=>rfl
 |i+1=>by
  unfold V7;rw[List.length_append,RZ l i];show 2*i+2=_;omega
def fM (n:Nat):List Int:=(List.range n).map fun(i:Nat)=>(i:Int)
theorem eH (n:Nat):(fM n).length=n:=by unfold fM;rw[List.length_map,List.length_range]
theorem I5 {n i:Nat}(h:i<n):aG (fM n) i=i:=by
 unfold aG fM;rw[List.getD_eq_getElem?_getD,List.getElem?_map,List.getElem?_range h];rfl
def HM (P:List Pt)(x:List Int):List Pt:=x.map fun i=>bI P i.toNat
theorem XX (P:List Pt):∀ x:List Int,flat (eV P).fl x=flat aX.fl (HM P x)
 |[]=>rfl
 |a::r=>by
  show(eV P).fl a++flat (eV P).fl r=_;rw[XX P r];rfl
theorem VO (P:List Pt):HM P (fM P.length)=P:=by
 unfold HM fM;rw[List.map_map];apply List.ext_getElem?;intro i;rw[List.getElem?_map];by_cases h:i<P.length
 ·rw[List.getElem?_range h,List.getElem?_eq_getElem h];show some (bI P ((i:Int)).toNat)=_;unfold bI;rw[Int.toNat_natCast,List.getD_eq_getElem?_getD,List.getElem?_eq_getElem h];rfl
 rw[List.getElem?_eq_none (by rw[List.length_range];omega),List.getElem?_eq_none aa];rfl
def HV (P:List Pt):List Pt:=HM P (kO (.pnts P) 1000 (fM P.length))
def aQ (l:List gC):List Pt:=nH (HV (V7 l l.length)) (HV (V7 l l.length)).length
def cL (l:List gC):List Int:=kO (.ords (aQ l) l) 1000 (fM l.length)
def edA (l:List gC)(x:Int):Ed:=⟨(uP (aQ l) l x).1,(uP (aQ l) l x).2,0,0,(gF l x.toNat).ln⟩
def aR (l:List gC):List Ed:=(cL l).map (edA l)
def wP (m:List Ed)(fc:List Int):Nat->List Ed
 |0=>m
 |i+1=>(wP m fc i).set i ⟨(aU m i).a,(aU m i).b,aG fc (2*i),aG fc (2*i+1),(aU m i).n⟩
theorem vJ (m:List Ed)(fc:List Int):∀ i,(wP m fc i).length=m.length
 |0=>rfl
 |i+1=>by unfold wP;rw[List.length_set];exact vJ m fc i
def okA (l:List gC):Prop:=kJ (.ords (aQ l) l) (cL l)=true/\aMM (aQ l) (aR l)/\1<=(aQ l).length/\vV (aQ l) (bA (aQ l) (aR l) (aR l).length) (outs (aQ l) (aR l))=true/\RJ (bA (aQ l) (aR l) (aR l).length) (outs (aQ l) (aR l))=true/\S4 (bA (aQ l) (aR l) (aR l).length) (outs (aQ l) (aR l))=true
theorem AN (l:List gC){i:Nat}(h:i<(cL l).length):(((cL l).take (i+1)).map (edA l))=((cL l).take i).map (edA l)++[edA l (aG (cL l) i)]:=by
 rw[List.take_add_one,List.getElem?_eq_getElem h,List.map_append,fK h];rfl
theorem aA7 {D:CW}{n:Nat}(h:n<=CW.num D):kJ D (fM n)=true:=ZF fun i hi=>by
 rw[eH]at hi;rw[I5 hi];omega
set_option maxHeartbeats 2000000
def dK:bV:=aq 1 [aI,aI,iv 0]
def bX (k n:Nat):Value:=.slice (some ⟨k,0,none⟩) n n
theorem pT {ρ:Nat->Nat}{n0 f p q:Nat}(h:p<n0)(hp:ρ p=q):cK ρ n0 (aq 1 [.func (.func f) #[] #[pV p]]) (aq 1 [.func (.func f) #[] #[pV q]]):=by
 subst hp;refine⟨rfl,rfl,rfl,?_,ae.2 ⟨⟨trivial,ae.2 ⟨⟨h,rfl⟩,fun _ h=>by cases h⟩⟩,fun _ h=>by cases h⟩⟩;simp[cB,tr,eK,cF,nB,eM,j4]
theorem zK {ρ:Nat->Nat}{n0 f p q p' q':Nat}(h:p<n0)(h':p'<n0)(hp:ρ p=q)(hp':ρ p'=q'):cK ρ n0 (aq 1 [.func (.func f) #[] #[pV p,pV p']]) (aq 1 [.func (.func f) #[] #[pV q,pV q']]):=by
 subst hp hp';refine⟨rfl,rfl,rfl,?_,ae.2 ⟨⟨trivial,ae.2 ⟨⟨h,rfl⟩,ae.2 ⟨⟨h',rfl⟩,fun _ h=>by cases h⟩⟩⟩,fun _ h=>by cases h⟩⟩;simp[cB,tr,eK,cF,nB,eM,j4]
def u6 (l:List gC)(c:Nat)(p q:Value):Heap:=[(3,aq 1 [p,q,iv 0]),(2,dK),(1,aq 1 [ak 0 l.length c]),(0,au 6 (flat DM.fl l))]
def HB (l:List gC)(c:Nat)(q:Value):Heap:=(7,aq 1 [.func (.func 120) #[] #[pV 5,pV 1]])::(6,aq 1 (flat aW.fl (cL l)))::(5,aq 1 [.func (.func 118) #[] #[pV 3]])::(4,aq 2 (flat aX.fl (aQ l)))::u6 l c (bX 4 (aQ l).length) q
def hB (l:List gC)(c:Nat):Heap:=(8,aq 5 (flat bS.fl (aR l)))::HB l c (bX 8 (aR l).length)
def GJ (i:Nat):Nat:=if i=0 then 4 else 8
def yA:Nat->Nat:=sX 2 GJ 10
theorem aE1 {k b:Nat}(h:k<b):yA k<10+b:=by
 unfold yA sX GJ;split
 ·split <;> omega
 omega
theorem O8 {τ:Nat->Nat}{n:Nat}:∀(h:Heap) {j:Nat} {wr g:Bool} {sz:Nat} {cs:List Value},fL h=true->aw h j=some (.cells wr g sz cs)->aw (shT τ n h) (n+j)=some (.cells wr g sz (cs.map (cB τ)))
 |[],_,_,_,_,_,_,h=>by cases h
 |(k,o)::r,j,wr,g,sz,cs,hc,h=>by
  obtain⟨wr',g',sz',cs',rfl⟩:=kD hc (k:=k) (by rw[aD,Nat.beq_refl]);have hr:fL r=true:=(by simp only[fL,af]at hc;exact hc.2);unfold shT;rw[aD]at h ⊢;by_cases e:k=j
  ·subst e;rw[Nat.beq_refl]at h ⊢;injection h with h;injection h with h1 h2 h3 h4;subst h1 h2 h3 h4;rfl
  rw[show Nat.beq k j=false by cases hb:Nat.beq k j with|false=>rfl|true=>exact absurd (az hb) e]at h;rw[show Nat.beq (n+k) (n+j)=false by cases hb:Nat.beq (n+k) (n+j)with|false=>rfl|true=>have:=az hb;omega];exact O8 r hr h
def pY (l:List gC)(c:Nat):Heap:=app (shT yA 10 (NX (aQ l) (aR l))) (hB l c)
def aA (l:List gC)(c:Nat):BN:=⟨pY l c,4,8,16,15,fun i=>10+(i+1000),aQ l,bA (aQ l) (aR l) (aR l).length,outs (aQ l) (aR l),(aR l).length,(aQ l).length,(aR l).length,0⟩
theorem aP6 {l:List gC}{c:Nat}:app (shT yA 10 (YE (aQ l) (aR l) (aQ l).length (aR l).length 0)) (hB l c)=(14,AQ (aA l c) aI)::pY l c:=by
 unfold AQ aA;simp only[bT,fV];rfl
theorem u9 {l:List Pt}{m:List Ed}:fL (NX l m)=true:=w9 _ _ _
theorem KK {l:List gC}{c j:Nat}{wr g:Bool}{sz:Nat}{cs:List Value}(h:aw (NX (aQ l) (aR l)) j=some (.cells wr g sz cs)):aw (pY l c) (10+j)=some (.cells wr g sz (cs.map (cB yA))):=by
 unfold pY;rw[jM,O8 _ u9 h]
theorem KG {l:List gC}{c k:Nat}(h:k<10):aw (pY l c) k=aw (hB l c) k:=by
 unfold pY;rw[jM];split
 ·rename_i o' ho;exfalso;obtain⟨j,_,_,_,_,e1,_⟩:=DA _ u9 ho;omega
 rfl
theorem aNs {l:List gC}{c:Nat}:D3 (hB l c) 10:=by
 have hsl:∀{q a b:Nat},q<10->wM 10 (.slice (some ⟨q,0,none⟩) a b):=fun{q a b} hq=>⟨hq,fun h=>by cases h⟩;refine cJ (cJ (cJ (cJ (cJ (cJ (cJ (cJ (cJ (fun k o hk=>by cases hk) aa (aE (aC _ _))) aa ⟨rfl,rfl,rfl,rfl,?_⟩) aa (aE rfl)) aa ⟨rfl,rfl,rfl,rfl,?_⟩) aa (aE (aC _ _))) aa (pT aa rfl)) aa (aE (aC _ _))) aa (zK aa aa rfl rfl)) aa (aE (aC _ _))
 ·exact ae.2 ⟨hsl aa,fun _ h=>(by cases h)⟩
 exact ae.2 ⟨hsl aa,ae.2 ⟨hsl aa,ae.2 ⟨bM rfl,fun _ h=>(by cases h)⟩⟩⟩
theorem aEE {l:List Pt}{m:List Ed}(hl:l.length<=1000):D3 (NX l m) 2000:=fun k o hk=>by
 have hol:=fV l m;rcases JR (aT hk)with h|h|⟨i,h1,h2,h⟩
 ·injection h with e1 e2;subst e1 e2;exact⟨aa,aE (aC _ _)⟩
 ·injection h with e1 e2;subst e1 e2;exact⟨aa,rfl,rfl,rfl,E1 (ρ:=id) (m8 _ _) fun i hi=>CS hi,KA aa aa⟩
 injection h with e1 e2;subst e1 e2;exact⟨aa,aE (aC _ _)⟩
theorem aM5 {l:List gC}{c:Nat}(hl:(aQ l).length<=1000):D3 (pY l c) 2010:=by
 refine aB1 (fun k o hk=>?_) (DS aNs aa);obtain⟨j,wr,g,sz,cs,rfl,h1,rfl⟩:=DA _ u9 hk;obtain⟨a1,_,_,_,h4,h5⟩:=aEE hl j _ h1;have key:∀ v∈cs,cB id (cB yA v)=cB yA v/\wM 2010 (cB yA v):=fun v hv=>by
  have hn:wM 2010 (cB yA v):=iQ (m:=2000) (Y1 (h5 v hv)) (fun k hk=>aE1 hk);refine⟨?_,hn⟩;unfold cB;rw[iL (n:=2010) hn];rfl
 refine⟨aa,rfl,rfl,rfl,?_,fun v hv=>?_⟩
 ·rw[List.map_map];exact List.map_congr_left fun v hv=>(key v hv).1.symm
 obtain⟨u,hu,rfl⟩:=List.mem_map.1 hv;exact(key u hu).2
theorem aDS {l:List gC}{c:Nat}:WbR (pY l c) 4 16 15 (fun i=>10+(i+1000)) (aQ l) (bA (aQ l) (aR l) (aR l).length) (outs (aQ l) (aR l)):=by
 have hfl:∀{α:Type} (E:El α) (x:List α),(flat E.fl x).map (cB yA)=flat E.fl x:=fun E x=>bK (aC E x);refine⟨⟨_,_,_,_,KG aa,List.take_length⟩,⟨_,_,_,_,KK (j:=6) rfl,?_⟩,⟨true,false,1,?_⟩,fun i hi h0=>⟨true,false,1,flat aW.fl (cH (outs (aQ l) (aR l)) i),?_,List.take_length⟩⟩
 ·rw[hfl];exact List.take_length
 ·rw[show(15:Nat)=10+5 from rfl,KK (j:=5) (cs:=tC (outs (aQ l) (aR l)).length (outs (aQ l) (aR l))) (wr:=true) (g:=false) (sz:=1) rfl];unfold tC;rw[List.map_map];congr 2;refine List.map_congr_left fun i hi=>?_;show cB _ (tV (tN (outs (aQ l) (aR l)).length i) (cH (outs (aQ l) (aR l)) i))=_;rw[SA];unfold tN;rw[if_neg (by have:=List.mem_range.1 hi;omega)];unfold yA sX;rw[if_neg aa]
 have:aw (NX (aQ l) (aR l)) (i+1000)=some (ob (cH (outs (aQ l) (aR l)) i)):=by
  unfold NX;rw[bJ aa,bJ aa];exact mU aa h0 hi
 show aw (pY l c) (10+(i+1000))=_;rw[KK this,hfl]
theorem aKn {l:List gC}{c:Nat}:aw (pY l c) 14=none:=by
 cases hl:aw (pY l c) 14 with
 |none=>rfl
 |some o =>
  exfalso;unfold pY at hl;rw[jM]at hl;split at hl
  ·rename_i o' ho;obtain⟨j,_,_,_,_,e1,e2,_⟩:=DA _ u9 ho;rcases JR (aT e2)with h|h|⟨i,h1,h2,h⟩ <;> (injection h with e3 e4;omega)
  ·cases hl
theorem aON {l:List gC}{c:Nat}(hl:(aQ l).length<=1000)(h1:vV (aQ l) (bA (aQ l) (aR l) (aR l).length) (outs (aQ l) (aR l))=true)(h2:RJ (bA (aQ l) (aR l) (aR l).length) (outs (aQ l) (aR l))=true):aFK (aA l c) :=
 ⟨h1,h2,aM5 hl,aKn,aDS,ab,ab,ab,ab⟩
theorem aAw {l:List gC}{c k:Nat}{fv:Value}(h:k<10):aw ((14,AQ (aA l c) fv)::pY l c) k=aw (hB l c) k:=by
 rw[bJ aa,KG h]
theorem lM {l:List gC}{c k:Nat}(h:k<10):aw (J7 (aA l c)) k=aw (hB l c) k:=by
 unfold J7;rw[bJ aa,bJ aa];exact KG h
theorem aRv {l:List gC}{c:Nat}:InN GJ [fH (aQ l).length (aR l).length (aQ l).length (aR l).length 0] (aS aX bS (aQ l) (aR l)) 2 [.agg #[bX 4 (aQ l).length,bX 8 (aR l).length,iv 0]] (hB l c) 10:=by
 refine⟨?_,?_,fun k o hk=>?_,fun k hk=>?_⟩
 ·simp[fH,bX,fJ,tr,eK,cF,eM,j4,GJ];rfl
 ·exact ae.2 ⟨ae.2 ⟨⟨ab,fun h=>by cases h⟩,ae.2 ⟨⟨ab,fun h=>by cases h⟩,ae.2 ⟨bM rfl,fun _ h=>(by cases h)⟩⟩⟩,fun _ h=>(by cases h)⟩
 ·unfold aS at hk;rw[aD]at hk;split at hk
  ·rename_i hq;injection hk with hk;subst hk;rw[<- az hq]
   exact⟨by decide,true,_,_,rfl,aX.pos,fun _=>aC aX _,fun v hv=>bM (a9 (aC aX _) hv),true,false,2,_,rfl,by rw[List.take_length];exact(bK (aC aX _)).symm⟩
  rw[aD]at hk;split at hk
  ·rename_i hq;injection hk with hk;subst hk;rw[<- az hq]
   exact⟨by decide,true,_,_,rfl,bS.pos,fun _=>aC bS _,fun v hv=>bM (a9 (aC bS _) hv),true,false,5,_,rfl,by rw[List.take_length];exact(bK (aC bS _)).symm⟩
  exact cA hk
 unfold GJ;split <;> omega
attribute [irreducible] pY
end Go.Aw
end
