/-
  Parts of a proof. No condition.
-/
import Derived.Test.YtjahkcbdecgbhaaGreatQBr
import Derived.Test.YtjahkcbdecgbhaaGreatQBs
set_option linter.unusedSimpArgs false
set_option linter.unusedVariables false
noncomputable section
namespace Go.Aw
set_option maxRecDepth 100000
set_option maxHeartbeats 2000000
def stO (k0 k1 kd kt kf nP nE nD nL c1 c2:Nat)(n:Int)(fo:Option (Nat × Nat)):a8:=.cells false false 1 (EC k0 k1 kd kt kf nP nE nD nL c1 c2 n fo)
def aKp (h:Heap)(p:Nat)(n:Int):Prop:=∃ wr g sz k0 k1 kd kt kf nP nE nD nL c1 c2 fo,look h p=some (.cells wr g sz (EC k0 k1 kd kt kf nP nE nD nL c1 c2 n fo))
def aKa (h:Heap)(k:Nat)(L:List Int):Prop:=∃ wr g sz cs,look h k=some (.cells wr g sz cs)∧cs.take (flat aP.fl L).length=flat aP.fl L
def rhS (p k3 k0 k1 kd kt kf:Nat)(k:Nat):Nat:=if k=0 then p else if k=3 then k3 else if k=4 then k0 else if k=5 then k1 else if k=1 then kd else if k=2 then kt else kf
theorem aJY {h:Heap}{p k3:Nat}{n:Int}{L:List Int}(hs:aKp h p n)(hL:aKa h k3 L)(c:Nat){nx:Nat}:∃ nP nE nD nL c1 c2 fo,In [pV 0,.slice (some ⟨3,0,none⟩) L.length c] [(0,stO 4 5 1 2 6 nP nE nD nL c1 c2 n fo),(3,.cells false true 1 (flat aP.fl L))] 9 [pV p,.slice (some ⟨k3,0,none⟩) L.length c] h nx:=by
 obtain⟨wr,g,sz,k0,k1,kd,kt,kf,nP,nE,nD,nL,c1,c2,fo,hst⟩:=hs;obtain⟨w2,g2,s2,cs,h2,h3⟩:=hL;refine⟨nP,nE,nD,nL,c1,c2,fo,BJ (rhS p k3 k0 k1 kd kt kf) rfl ?_ fun k o hk=>?_⟩
 ·exact List.forall_mem_cons.2 ⟨lR rfl,List.forall_mem_cons.2 ⟨lR rfl,fun _ h=>by cases h⟩⟩
 rw [aE] at hk;split at hk
 ·rename_i hq;injection hk with hk;subst hk;rw [← beq_true hq]
  refine⟨by decide,false,1,_,rfl,by decide,(fun h=>by cases h),?_,wr,g,sz,_,hst,?_⟩
  ·exact List.forall_mem_cons.2 ⟨dV rfl,List.forall_mem_cons.2 ⟨dV rfl,List.forall_mem_cons.2 ⟨dV rfl,List.forall_mem_cons.2 ⟨dV rfl,List.forall_mem_cons.2 ⟨dV rfl,List.forall_mem_cons.2 ⟨by cases fo <;> exact dV rfl,fun _ h=>by cases h⟩⟩⟩⟩⟩⟩
  ·cases fo <;> rfl
 rw [aE] at hk;split at hk
 ·rename_i hq;injection hk with hk;subst hk;rw [← beq_true hq]
  exact⟨by decide,true,1,_,rfl,by decide,fun _=>aH aP L,fun v hv=>cX (bB (aH aP L) hv),w2,g2,s2,cs,h2,by rw [h3];exact (cZ (aH aP L)).symm⟩
 exact bU hk
def aEg:Nat × XF:=(82,fun args h nx K=>∃ p k3 n L c b,args=[pV p,.slice (some ⟨k3,0,none⟩) L.length c]∧aKp h p n∧aKa h k3 L∧aGW [] [] n L=some (true,.bool b)∧K (.bool b) h nx)
theorem aLW:cT Go.Proofs.Tryz.prog aEg.1 aEg.2:=by
 refine (jD (S:=fun args0 h0 n0 v1 h1 m=>∃ nP nE nD nL c1 c2 n fo L c b,args0=[pV 0,.slice (some ⟨3,0,none⟩) L.length c]∧h0=[(0,stO 4 5 1 2 6 nP nE nD nL c1 c2 n fo),(3,.cells false true 1 (flat aP.fl L))]∧n0=9∧aGW [] [] n L=some (true,.bool b)∧v1=.bool b∧h1=[]∧m=0) (mC (NF (xl:=[]) .nil 4) 6).1 ?_).mono ?_ ?_
 ·rintro args0 h0 n0 v1 h1 m ⟨nP,nE,nD,nL,c1,c2,n,fo,L,c,b,rfl,rfl,rfl,hs,rfl,rfl,rfl⟩;refine⟨rfl,fun u _ _=>u=.bool b,?_,fun v h nx e=>by rw [e];exact mG rfl⟩;have:(∃ a,L=[a]∧b=sU n a)∨(∃ a a',L=[a,a']∧b=(sU n a&&sU n a')):=by
   unfold aGW at hs;split at hs
   ·injection hs with hs;injection hs with h1 h2;injection h2 with h2;exact .inl ⟨_,rfl,h2.symm⟩
   ·injection hs with hs;injection hs with h1 h2;injection h2 with h2;exact .inr ⟨_,_,rfl,h2.symm⟩
   ·cases hs
  clear hs;rcases this with ⟨a,rfl,rfl⟩|⟨a,a',rfl,rfl⟩
  ·unfold sU stO EC
   repeat' (((conv=>whnf);apply bm<;>intro g))
   all_goals (conv=>whnf)
   all_goals (show Value.bool _=Value.bool _;congr 1;simp [aEh,aA,aC] at *;try omega)
  unfold sU stO EC
  repeat' (((conv=>whnf);apply bm<;>intro g))
  all_goals (conv=>whnf)
  all_goals (show Value.bool _=Value.bool _;congr 1;simp [aEh,aA,aC] at *;try omega)
 ·rintro args h nx K ⟨p,k3,n,L,c,b,rfl,hs,hL,he,hk⟩;obtain⟨nP,nE,nD,nL,c1,c2,fo,hin⟩:=aJY (nx:=nx) hs hL c;exact⟨_,_,9,_,[],0,⟨nP,nE,nD,nL,c1,c2,n,fo,L,c,b,rfl,rfl,rfl,he,rfl,rfl,rfl⟩,hin,hk⟩
 rintro args h nx K ⟨p,k3,n,L,c,b,rfl,hs,hL,he,hk⟩;exact⟨_,_,_,hk,fun K' hk'=>⟨p,k3,n,L,c,b,rfl,hs,hL,he,hk'⟩⟩
def WE (h:Heap)(p:Nat)(m:List Ed)(n:Int):Prop:=∃ wr g sz k0 k1 kd kt kf nP nD nL c1 c2 fo w2 g2 s2 cs,look h p=some (.cells wr g sz (EC k0 k1 kd kt kf nP m.length nD nL c1 c2 n fo))∧look h k1=some (.cells w2 g2 s2 cs)∧cs.take (flat aW.fl m).length=flat aW.fl m
theorem aFS {h:Heap}{p:Nat}{m:List Ed}{n:Int}(hw:WE h p m n){R:Heap}(σ:Nat→Nat){as0 as1:List Value}{nx:Nat}(hF:∀ ρ:Nat→Nat,(∀ k,7≤k→ρ k=σ k)→as1=as0.map (jX ρ))(hn:∀ v∈as0,C3 2000 v)
  (hR:∀ ρ:Nat→Nat,(∀ k,7≤k→ρ k=σ k)→∀ k o,look R k=some o→k<2000∧∃ g sz cs0,o=.cells false g sz cs0∧sz≠0∧(g=true→dL cs0=true)∧(∀ v∈cs0,DN 2000 v)∧∃ wr g' sz' cs,look h (ρ k)=some (.cells wr g' sz' cs)∧cs.take cs0.length=cs0.map (cD ρ)) :
  ∃ nP nD nL c1 c2 fo,In (pV 0::as0) (fZ R nP m nD nL c1 c2 n fo) 2000 (pV p::as1) h nx:=by
 obtain⟨wr,g,sz,k0,k1,kd,kt,kf,nP,nD,nL,c1,c2,fo,w2,g2,s2,cs,h1,h2,h3⟩:=hw;have hρ:∀ k,7≤k→(fun k=>if k=0 then p else if k=4 then k0 else if k=5 then k1 else if k=1 then kd else if k=2 then kt else if k=6 then kf else σ k) k=σ k:=fun k hk=>by
  show (if _ then _ else _)=_;rw [if_neg (by omega),if_neg (by omega),if_neg (by omega),if_neg (by omega),if_neg (by omega),if_neg (by omega)]
 refine⟨nP,nD,nL,c1,c2,fo,BJ (fun k=>if k=0 then p else if k=4 then k0 else if k=5 then k1 else if k=1 then kd else if k=2 then kt else if k=6 then kf else σ k) ?_ ?_ fun k o hk=>?_⟩
 ·rw [List.map_cons,← hF _ hρ];rfl
 ·exact List.forall_mem_cons.2 ⟨lR rfl,hn⟩
 unfold fZ at hk;rw [aE] at hk;split at hk
 ·rename_i hq;injection hk with hk;subst hk;rw [← beq_true hq]
  refine⟨by decide,false,1,_,rfl,by decide,(fun h=>by cases h),?_,wr,g,sz,_,h1,?_⟩
  ·exact List.forall_mem_cons.2 ⟨dV rfl,List.forall_mem_cons.2 ⟨dV rfl,List.forall_mem_cons.2 ⟨dV rfl,List.forall_mem_cons.2 ⟨dV rfl,List.forall_mem_cons.2 ⟨dV rfl,List.forall_mem_cons.2 ⟨by cases fo <;> exact dV rfl,fun _ h=>by cases h⟩⟩⟩⟩⟩⟩
  ·cases fo <;> rfl
 rw [aE] at hk;split at hk
 ·rename_i hq;injection hk with hk;subst hk;rw [← beq_true hq]
  exact⟨by decide,true,aW.sz,_,rfl,by decide,fun _=>aH aW m,fun v hv=>cX (bB (aH aW m) hv),w2,g2,s2,cs,h2,by rw [h3];exact (cZ (aH aW m)).symm⟩
 exact hR _ hρ k o hk
def X1:Nat × XF:=(124,fun args h nx K=>∃ p m n f,args=[pV p,iv f]∧WE h p m n∧m.length≤1000∧MV aP (dS m f) none h nx K)
theorem aKr:cT Go.Proofs.Tryz.prog X1.1 X1.2:=by
 have h0:cT Go.Proofs.Tryz.prog 124 (yOf aP aKn):=TB aP (aL (xl:=[(134,sIn),(202,cIn)]) (.cons aLC (.cons aMj .nil))) fun _ _ _ _ _=>aME;refine h0.mono ?_ ?_
 ·rintro args h nx K ⟨p,m,n,f,rfl,hw,hm,hk⟩;obtain⟨nP,nD,nL,c1,c2,fo,hin⟩:=aFS (nx:=nx) hw (R:=[]) id (as0:=[iv f]) (as1:=[iv f]) (fun ρ e=>by rw [List.map_cons,tP rfl];rfl) (List.forall_mem_cons.2 ⟨lR rfl,fun _ h=>by cases h⟩) (fun ρ e k o hk=>bU hk);exact MA aP ⟨nP,m,nD,nL,c1,c2,n,fo,f,rfl,rfl,rfl,rfl,rfl,hm⟩ hin hk
 rintro args h nx K ⟨p,m,n,f,rfl,hw,hm,hk⟩;obtain⟨v,h',nx',h1,h2⟩:=Q9 hk;exact⟨v,h',nx',h1,fun K' hk'=>⟨p,m,n,f,rfl,hw,hm,h2 K' hk'⟩⟩
abbrev DP:=List Int × List Int
def dZ (nb:List Int)(f:Int)(s:DP):Nat→DP
 |0=>s
 |k+1=>if aD (dZ nb f s k).1 (aD nb k).toNat=0 then ((dZ nb f s k).1.set (aD nb k).toNat (aD (dZ nb f s k).1 f.toNat+1),(dZ nb f s k).2++[aD nb k]) else dZ nb f s k
def fS (m:List Ed)(b:Int)(now:List Int)(s:DP):Nat→DP
 |0=>s
 |i+1=>if aD now i=0∧aD now i≠b then fS m b now s i else dZ (dS m (aD now i)) (aD now i) (fS m b now s i) (dS m (aD now i)).length
def H9 (m:List Ed)(b:Int)(s:DP):DP:=fS m b s.2 (s.1,[]) s.2.length
def oQ (a:Int)(s:DP):Bool:=decide (s.2=[]) || decide (aD s.1 a.toNat≠0)
def LH (m:List Ed)(a b:Int):Nat→DP→DP
 |0,s=>s
 |k+1,s=>if oQ a s=true then s else LH m a b k (H9 m b s)
def w0 (n b:Int):DP:=((List.replicate (n+1).toNat 0).set b.toNat 1,[b])
def yC (L:List Int):Nat:=L.countP fun x=>decide (x=0)
def RY (s:DP):Nat:=2*yC s.1+(if s.2=[] then 0 else 1)
def N5 (S:List Int)(f b g:Int):Bool:=decide (aD S g.toNat=aD S f.toNat - 1)&&(decide (0<aD S g.toNat)&&(decide (g≠0) || decide (g=b)))
def DI (S:List Int)(f b:Int):List Int→Option Int
 |[]=>none
 |g::r=>if N5 S f b g=true then some g else DI S f b r
def nO (m:List Ed)(S:List Int)(b:Int):Nat→Int→List Int→Option (List Int)
 |0,f,out=>if f=b then some out else none
 |k+1,f,out=>if f=b then some out else (match DI S f b (dS m f) with|some g=>nO m S b k g (out++[g])|none=>none)
def s94 (l:List Pt)(m:List Ed)(n:Int):List Value→Option (Bool × List Int × Option Int)
 |[.int .i64 a,.int .i64 b]=>some (decide (m.length≤1000),jT (tA a b) m m.length,none)
 |_=>none
def VH (a b:Int)(v:Value)(j:Int):List (Nat × Value):=[(1,iv a),(2,iv b),(3,.pointer (some ⟨2,0,none⟩)),(7,v),(8,iv j)]
def sF (l:List Pt)(m:List Ed)(c1 c2:Nat)(n:Int):Heap:=(2,aX l.length m.length c1 c2 n)::aB aT aW l m
def aHO:Nat × XF:=(94,mRX s94)
theorem aMD:cT Go.Proofs.Tryz.prog aHO.1 aHO.2:=LO (aL (xl:=[]) .nil) fun l m n r out e hs=>by
 have:∃ a b,r=[iv a,iv b]∧m.length≤1000∧out=jT (tA a b) m m.length∧e=none:=by
  unfold s94 at hs;split at hs
  ·injection hs with hs;injection hs with h1 h2;injection h2 with h2 h3;exact⟨_,_,rfl,of_decide_eq_true h1,h2.symm,h3.symm⟩
  ·cases hs
 obtain⟨a,b,rfl,hm,rfl,rfl⟩:=this;clear hs;refine⟨rfl,fun c1 c2=>?_⟩;(conv=>whnf)
 refine⟨fun q e h nx=>∃ (i:Nat) (j:Int),j=i∧i≤m.length∧q=m.length - i ∧
  ((jT (tA a b) m i=[]∧e=VH a b (.slice none 0 0) j∧h=sF l m c1 c2 n∧nx=3) ∨
   (0<(jT (tA a b) m i).length∧e=VH a b (.slice (some ⟨3,0,none⟩) (jT (tA a b) m i).length (jT (tA a b) m i).length) j∧h=(3,.cells true false 1 (flat aP.fl (jT (tA a b) m i)))::sF l m c1 c2 n∧nx=4)),⟨m.length,?_⟩,?_⟩
 ·refine aO (e0:=VH a b (.slice none 0 0) 0) (h0:=sF l m c1 c2 n) (n0:=3) ⟨0,0,rfl,Nat.zero_le _,rfl,.inl ⟨rfl,rfl,rfl,rfl⟩⟩ ?_ ?_ (by decide)
  ·unfold VH;((repeat' refine iE rfl rfl ?_);exact iN)
  unfold sF aX aB;((repeat'(first|refine iF rfl rfl ?_|refine iC rfl rfl rfl ?_|refine iJ rfl rfl rfl rfl ?_));exact iN)
 rintro q e h nx ⟨i,j,hj,hi,rfl,hx⟩;rcases hx with ⟨hnil,rfl,rfl,rfl⟩|⟨hpos,rfl,rfl,rfl⟩
 ·unfold VH sF aX aB;((conv=>whnf);apply bm<;>intro m1);rotate_left
  ·have hil:i=m.length:=(by simp [aA,aC] at m1;omega);(conv=>whnf);rw [hil] at hnil;rw [hnil];rfl
  have hil:i<m.length:=(by simp [aA,aC] at m1;omega);((conv=>whnf);apply bm<;>intro m2);rotate_left
  ·exfalso;simp [aA,aC] at m2;omega
  (conv=>whnf);refine nN (A2 m (i:=i) hil ?_) ?_
  ·show _+Int.toNat j*5=_;omega
  cases hp:tA a b (cH m i) with
  |true =>
   have hf:jT (tA a b) m (i+1)=[j]:=by rw [SA hp,hnil,hj];rfl
   repeat' (((conv=>whnf);apply bm<;>intro g))
   all_goals (conv=>whnf)
   all_goals first
    |(refine⟨m.length - (i+1),by omega,?_⟩
      refine gN (e0:=VH a b (.slice (some ⟨3,0,none⟩) 1 1) (j+1)) (h0:=(3,.cells true false 1 (flat aP.fl [j]))::sF l m c1 c2 n) (n0:=4) 3 5 (by decide) (by decide) ⟨i+1,j+1,by omega,by omega,rfl,.inr ⟨by rw [hf];exact Nat.one_pos,by rw [hf];rfl,by rw [hf];rfl,rfl⟩⟩ ?_ ?_ ?_
      ·unfold VH;((repeat' refine iE rfl rfl ?_);exact iN)
      ·unfold sF aX aB;((repeat'(first|refine iF rfl rfl ?_|refine iC rfl rfl rfl ?_|refine iJ rfl rfl rfl rfl ?_));exact iN)
      unfold sF;((repeat' refine iK rfl ?_);exact iN))
    |(exfalso;clear hf;unfold tA at hp;simp [aA,aC,aF] at *;first|omega|(simp_all;done)|(simp_all;omega))
  |false =>
   have hf:jT (tA a b) m (i+1)=[]:=(S6 hp).trans hnil
   repeat' (((conv=>whnf);apply bm<;>intro g))
   all_goals (conv=>whnf)
   all_goals first
    |(refine⟨m.length - (i+1),by omega,?_⟩
      refine aO (e0:=VH a b (.slice none 0 0) (j+1)) (h0:=sF l m c1 c2 n) (n0:=3) ⟨i+1,j+1,by omega,by omega,rfl,.inl ⟨hf,rfl,rfl,rfl⟩⟩ ?_ ?_ (by decide)
      ·unfold VH;((repeat' refine iE rfl rfl ?_);exact iN)
      unfold sF aX aB;((repeat'(first|refine iF rfl rfl ?_|refine iC rfl rfl rfl ?_|refine iJ rfl rfl rfl rfl ?_));exact iN))
    |(exfalso;clear hf;unfold tA at hp;simp [aA,aC,aF] at *;first|omega|(simp_all;done)|(simp_all;omega))
 unfold VH sF aX aB;have hlen:(flat aP.fl (jT (tA a b) m i)).length=(jT (tA a b) m i).length:=(by rw [a7];show _*1=_;omega);have hle:=PY (tA a b) m i;((conv=>whnf);apply bm<;>intro m1);rotate_left
 ·have hil:i=m.length:=(by simp [aA,aC] at m1;omega);(conv=>whnf);rw [show jT (tA a b) m m.length=jT (tA a b) m i by rw [← hil]];have:=iR aP (l:=jT (tA a b) m i) (e:=none) (h:=(3,.cells true false 1 (flat aP.fl (jT (tA a b) m i)))::sF l m c1 c2 n) (q:=3) (nx:=4) hpos rfl;exact this
 have hil:i<m.length:=(by simp [aA,aC] at m1;omega);((conv=>whnf);apply bm<;>intro m2);rotate_left
 ·exfalso;simp [aA,aC] at m2;omega
 (conv=>whnf);refine nN (A2 m (i:=i) hil ?_) ?_
 ·show _+Int.toNat j*5=_;omega
 cases hp:tA a b (cH m i) with
 |true =>
  have hf:jT (tA a b) m (i+1)=jT (tA a b) m i++[j]:=(by rw [SA hp,hj]);generalize jT (tA a b) m i=L at *
  repeat' (((conv=>whnf);apply bm<;>intro g))
  all_goals (conv=>whnf)
  all_goals first
   |(refine⟨m.length - (i+1),by omega,?_⟩
     refine gN (e0:=VH a b (.slice (some ⟨3,0,none⟩) (L.length+1) (L.length+1)) (j+1)) (h0:=(3,.cells true false 1 (flat aP.fl (L++[j])))::sF l m c1 c2 n) (n0:=4) 3 6 (by decide) (by decide) ⟨i+1,j+1,by omega,by omega,rfl,.inr ⟨by rw [hf,List.length_append];exact Nat.succ_pos _,by rw [hf,List.length_append];rfl,by rw [hf];rfl,rfl⟩⟩ ?_ ?_ ?_
     ·unfold VH;((repeat' refine iE rfl rfl ?_);exact iN)
     ·unfold sF aX aB;((repeat'(first|refine iW rfl rfl (aU (aH aP _) (cL aP L j rfl)) ?_|refine iF rfl rfl ?_|refine iC rfl rfl rfl ?_|refine iJ rfl rfl rfl rfl ?_));exact iN)
     unfold sF;((repeat' refine iK rfl ?_);exact iN))
   |exact jA (s:=1) (by omega) (by omega) (by assumption)
   |(exfalso;rename_i g;have:=Nat.le_of_ble_eq_true g;omega)
   |(exfalso;clear hf;unfold tA at hp;simp [aA,aC,aF] at *;first|omega|(simp_all;done)|(simp_all;omega))
 |false =>
  have hf:jT (tA a b) m (i+1)=jT (tA a b) m i:=S6 hp;generalize jT (tA a b) m i=L at *
  repeat' (((conv=>whnf);apply bm<;>intro g))
  all_goals (conv=>whnf)
  all_goals first
   |(refine⟨m.length - (i+1),by omega,?_⟩
     refine aO (e0:=VH a b (.slice (some ⟨3,0,none⟩) L.length L.length) (j+1)) (h0:=(3,.cells true false 1 (flat aP.fl L))::sF l m c1 c2 n) (n0:=4) ⟨i+1,j+1,by omega,by omega,rfl,.inr ⟨by rw [hf];exact hpos,by rw [hf];rfl,by rw [hf];rfl,rfl⟩⟩ ?_ ?_ (by decide)
     ·unfold VH;((repeat' refine iE rfl rfl ?_);exact iN)
     unfold sF aX aB;((repeat'(first|refine iF rfl rfl ?_|refine iC rfl rfl rfl ?_|refine iJ rfl rfl rfl rfl ?_));exact iN))
   |(exfalso;clear hf;unfold tA at hp;simp [aA,aC,aF] at *;first|omega|(simp_all;done)|(simp_all;omega))
def NW (m:List Ed)(f g:Int):Bool:=decide (g≠f)&&decide (0<(jT (tA g f) m m.length).length)
def xE (m:List Ed)(f:Int):Nat→List Int
 |0=>[]
 |i+1=>if NW m f i=true then xE m f i++[(i:Int)] else xE m f i
theorem aBB {m:List Ed}{f:Int}{i:Nat}(h:NW m f i=true):xE m f (i+1)=xE m f i++[(i:Int)]:=by
 show (if _ then _ else _)=_;rw [if_pos h]
theorem OH {m:List Ed}{f:Int}{i:Nat}(h:NW m f i=false):xE m f (i+1)=xE m f i:=by
 show (if _ then _ else _)=_;rw [if_neg (by rw [h];decide)]
theorem UT (m:List Ed)(f:Int):∀ i,(xE m f i).length≤i
 |0=>Nat.le_refl _
 |i+1=>by
  have:=UT m f i;unfold xE;split
  ·rw [List.length_append,List.length_singleton];omega
  omega
def rnO (m:List Ed)(n f:Int):List Int:=xE m f (n+1).toNat
def aDY (l:List Pt)(m:List Ed)(n:Int):List Value→Option (Bool × List Int × Option Int)
 |[.int .i64 f]=>some (decide (m.length≤1000)&&decide (0≤n)&&decide (n≤1000),rnO m n f,none)
 |_=>none
def sM (f:Int)(v:Value)(j:Int):List (Nat × Value):=[(1,iv f),(2,pV 2),(5,v),(6,iv j)]
def aBL:Nat × XF:=(125,mRX aDY)
theorem aJF:cT Go.Proofs.Tryz.prog aBL.1 aBL.2:=LO (aL (xl:=[aHO]) (.cons aMD .nil)) fun l m n r out e hs=>by
 have:∃ f,r=[iv f]∧m.length≤1000∧0≤n∧n≤1000∧out=rnO m n f∧e=none:=by
  unfold aDY at hs;split at hs
  ·injection hs with hs;injection hs with h1 h2;injection h2 with h2 h3;simp only [Bool.and_eq_true,decide_eq_true_eq] at h1;exact⟨_,rfl,h1.1.1,h1.1.2,h1.2,h2.symm,h3.symm⟩
  ·cases hs
 obtain⟨f,rfl,hm,hn0,hn,rfl,rfl⟩:=this;clear hs;obtain⟨T,hT⟩:∃ T:Nat,(n+1).toNat=T:=⟨_,rfl⟩;have hTn:(T:Int)=n+1:=(by omega);refine⟨rfl,fun c1 c2=>?_⟩;unfold rnO;rw [hT];(conv=>whnf)
 refine⟨fun q e h nx=>∃ (i:Nat) (j:Int),j=i∧i≤T∧q=T - i ∧
  ((xE m f i=[]∧e=sM f (.slice none 0 0) j∧h=sF l m c1 c2 n∧nx=3) ∨
   (0<(xE m f i).length∧e=sM f (.slice (some ⟨3,0,none⟩) (xE m f i).length (xE m f i).length) j∧h=(3,.cells true false 1 (flat aP.fl (xE m f i)))::sF l m c1 c2 n∧nx=4)),⟨T,?_⟩,?_⟩
 ·refine aO (e0:=sM f (.slice none 0 0) 0) (h0:=sF l m c1 c2 n) (n0:=3) ⟨0,0,rfl,Nat.zero_le _,rfl,.inl ⟨rfl,rfl,rfl,rfl⟩⟩ ?_ ?_ (by decide)
  ·unfold sM;((repeat' refine iE rfl rfl ?_);exact iN)
  unfold sF aX aB;((repeat'(first|refine iF rfl rfl ?_|refine iC rfl rfl rfl ?_|refine iJ rfl rfl rfl rfl ?_));exact iN)
 rintro q e h nx ⟨i,j,hj,hi,rfl,hx⟩;have hle:=UT m f i;rcases hx with ⟨hnil,rfl,rfl,rfl⟩|⟨hpos,rfl,rfl,rfl⟩
 ·unfold sM sF aX aB;((conv=>whnf);apply bm<;>intro m1);rotate_left
  ·have hil:i=T:=(by simp [aA,aC] at m1;omega);(conv=>whnf);rw [← hil,hnil];rfl
  have m1:j≤n:=(by simp [aA,aC] at m1;omega);((conv=>whnf);apply bm<;>intro m2);rotate_left
  ·have m2:j=f:=(by simpa [aA,aC] using m2);have hr:NW m f i=false:=(by unfold NW;rw [← hj,decide_eq_false (by omega)];rfl);have hf:xE m f (i+1)=[]:=(OH hr).trans hnil;((conv=>whnf);apply bm<;>intro m3)
   ·(conv=>whnf);refine⟨T - (i+1),by omega,?_⟩;refine aO (e0:=sM f (.slice none 0 0) (j+1)) (h0:=sF l m c1 c2 n) (n0:=3) ⟨i+1,j+1,by omega,by omega,rfl,.inl ⟨hf,rfl,rfl,rfl⟩⟩ ?_ ?_ (by decide)
    ·unfold sM;((repeat' refine iE rfl rfl ?_);exact iN)
    unfold sF aX aB;((repeat'(first|refine iF rfl rfl ?_|refine iC rfl rfl rfl ?_|refine iJ rfl rfl rfl rfl ?_));exact iN)
   exfalso;simp [aA,aC,aF] at m3;omega
  have m2:j≠f:=(by simpa [aA,aC] using m2);(conv=>whnf);refine⟨_,_,_,[iv j,iv f],l,m,rfl,aJ aT rfl,aJ aW rfl,?_⟩;refine aM (decide_eq_true hm) ?_;cases hO:jT (tA j f) m m.length with
  |nil =>
   have hr:NW m f i=false:=(by unfold NW;rw [← hj,hO];exact Bool.and_false _);have hf:xE m f (i+1)=[]:=(OH hr).trans hnil;(conv=>whnf);((conv=>whnf);apply bm<;>intro m3)
   ·(conv=>whnf);refine⟨T - (i+1),by omega,?_⟩;refine aO (e0:=sM f (.slice none 0 0) (j+1)) (h0:=sF l m c1 c2 n) (n0:=3) ⟨i+1,j+1,by omega,by omega,rfl,.inl ⟨hf,rfl,rfl,rfl⟩⟩ ?_ ?_ (by decide)
    ·unfold sM;((repeat' refine iE rfl rfl ?_);exact iN)
    unfold sF aX aB;((repeat'(first|refine iF rfl rfl ?_|refine iC rfl rfl rfl ?_|refine iJ rfl rfl rfl rfl ?_));exact iN)
   exfalso;simp [aA,aC,aF] at m3;omega
  |cons x t =>
   have hr:NW m f i=true:=(by unfold NW;rw [← hj,hO,decide_eq_true m2];rfl);have hf:xE m f (i+1)=[j]:=(by rw [aBB hr,hnil,hj];rfl);(conv=>whnf)
   repeat' (((conv=>whnf);apply bm<;>intro g))
   all_goals (conv=>whnf)
   all_goals first
    |(refine⟨T - (i+1),by omega,?_⟩
      refine gN (e0:=sM f (.slice (some ⟨3,0,none⟩) 1 1) (j+1)) (h0:=(3,.cells true false 1 (flat aP.fl [j]))::sF l m c1 c2 n) (n0:=4) 3 5 (by decide) (by decide) ⟨i+1,j+1,by omega,by omega,rfl,.inr ⟨by rw [hf];exact Nat.one_pos,by rw [hf];rfl,by rw [hf];rfl,rfl⟩⟩ ?_ ?_ ?_
      ·unfold sM;((repeat' refine iE rfl rfl ?_);exact iN)
      ·unfold sF aX aB;((repeat'(first|refine iF rfl rfl ?_|refine iC rfl rfl rfl ?_|refine iJ rfl rfl rfl rfl ?_));exact iN)
      unfold sF;((repeat' refine iK rfl ?_);exact iN))
    |(exfalso;clear hf;simp [aA,aC,aF] at*<;> first|omega|(simp_all;done)|(simp_all;omega))
 unfold sM sF aX aB;have hlen:(flat aP.fl (xE m f i)).length=(xE m f i).length:=(by rw [a7];show _*1=_;omega);((conv=>whnf);apply bm<;>intro m1);rotate_left
 ·have hil:i=T:=(by simp [aA,aC] at m1;omega);(conv=>whnf);rw [← hil];have:=iR aP (l:=xE m f i) (e:=none) (h:=(3,.cells true false 1 (flat aP.fl (xE m f i)))::sF l m c1 c2 n) (q:=3) (nx:=4) hpos rfl;exact this
 have m1:j≤n:=(by simp [aA,aC] at m1;omega);((conv=>whnf);apply bm<;>intro m2);rotate_left
 ·have m2:j=f:=(by simpa [aA,aC] using m2);have hr:NW m f i=false:=(by unfold NW;rw [← hj,decide_eq_false (by omega)];rfl);have hf:xE m f (i+1)=xE m f i:=OH hr;generalize xE m f i=X at *;((conv=>whnf);apply bm<;>intro m3)
  ·(conv=>whnf);refine⟨T - (i+1),by omega,?_⟩;refine aO (e0:=sM f (.slice (some ⟨3,0,none⟩) X.length X.length) (j+1)) (h0:=(3,.cells true false 1 (flat aP.fl X))::sF l m c1 c2 n) (n0:=4) ⟨i+1,j+1,by omega,by omega,rfl,.inr ⟨by rw [hf];exact hpos,by rw [hf];rfl,by rw [hf];rfl,rfl⟩⟩ ?_ ?_ (by decide)
   ·unfold sM;((repeat' refine iE rfl rfl ?_);exact iN)
   unfold sF aX aB;((repeat'(first|refine iF rfl rfl ?_|refine iC rfl rfl rfl ?_|refine iJ rfl rfl rfl rfl ?_));exact iN)
  exfalso;simp [aA,aC,aF] at m3;omega
 have m2:j≠f:=(by simpa [aA,aC] using m2);(conv=>whnf);refine⟨_,_,_,[iv j,iv f],l,m,rfl,aJ aT rfl,aJ aW rfl,?_⟩;refine aM (decide_eq_true hm) ?_;cases hO:jT (tA j f) m m.length with
 |nil =>
  have hr:NW m f i=false:=(by unfold NW;rw [← hj,hO];exact Bool.and_false _);have hf:xE m f (i+1)=xE m f i:=OH hr;generalize xE m f i=X at *;(conv=>whnf);((conv=>whnf);apply bm<;>intro m3)
  ·(conv=>whnf);refine⟨T - (i+1),by omega,?_⟩;refine aO (e0:=sM f (.slice (some ⟨3,0,none⟩) X.length X.length) (j+1)) (h0:=(3,.cells true false 1 (flat aP.fl X))::sF l m c1 c2 n) (n0:=4) ⟨i+1,j+1,by omega,by omega,rfl,.inr ⟨by rw [hf];exact hpos,by rw [hf];rfl,by rw [hf];rfl,rfl⟩⟩ ?_ ?_ (by decide)
   ·unfold sM;((repeat' refine iE rfl rfl ?_);exact iN)
   unfold sF aX aB;((repeat'(first|refine iF rfl rfl ?_|refine iC rfl rfl rfl ?_|refine iJ rfl rfl rfl rfl ?_));exact iN)
  exfalso;simp [aA,aC,aF] at m3;omega
 |cons x t =>
  have hr:NW m f i=true:=(by unfold NW;rw [← hj,hO,decide_eq_true m2];rfl);have hf:xE m f (i+1)=xE m f i++[j]:=(by rw [aBB hr,hj]);generalize xE m f i=X at *;(conv=>whnf)
  repeat' (((conv=>whnf);apply bm<;>intro g))
  all_goals (conv=>whnf)
  all_goals first
   |(refine⟨T - (i+1),by omega,?_⟩
     refine gN (e0:=sM f (.slice (some ⟨3,0,none⟩) (X.length+1) (X.length+1)) (j+1)) (h0:=(3,.cells true false 1 (flat aP.fl (X++[j])))::sF l m c1 c2 n) (n0:=4) 3 6 (by decide) (by decide) ⟨i+1,j+1,by omega,by omega,rfl,.inr ⟨by rw [hf,List.length_append];exact Nat.succ_pos _,by rw [hf,List.length_append];rfl,by rw [hf];rfl,rfl⟩⟩ ?_ ?_ ?_
     ·unfold sM;((repeat' refine iE rfl rfl ?_);exact iN)
     ·unfold sF aX aB;((repeat'(first|refine iW rfl rfl (aU (aH aP _) (cL aP X j rfl)) ?_|refine iF rfl rfl ?_|refine iC rfl rfl rfl ?_|refine iJ rfl rfl rfl rfl ?_));exact iN)
     unfold sF;((repeat' refine iK rfl ?_);exact iN))
   |exact jA (s:=1) (by omega) (by omega) (by assumption)
   |(exfalso;rename_i g;have:=Nat.le_of_ble_eq_true g;omega)
   |(exfalso;clear hf;simp [aA,aC,aF] at*<;> first|omega|(simp_all;done)|(simp_all;omega))
end Go.Aw
end

noncomputable section
namespace Go.Aw
set_option maxRecDepth 100000
theorem W3:∀ {a b:List Int},a.Pairwise (·<·)→b.Pairwise (·<·)→(∀ x,x∈a↔x∈b)→a=b
 |[],[],_,_,_=>rfl
 |[],y::s,_,_,h=>by have:=(h y).2 (.head _);cases this
 |x::r,[],_,_,h=>by have:=(h x).1 (.head _);cases this
 |x::r,y::s,ha,hb,h=>by
  obtain⟨a1,a2⟩:=List.pairwise_cons.1 ha;obtain⟨b1,b2⟩:=List.pairwise_cons.1 hb;have e:x=y:=by
   have hx:=(h x).1 (.head _);have hy:=(h y).2 (.head _);rcases List.mem_cons.1 hx with e|hx
   ·exact e
   ·rcases List.mem_cons.1 hy with e|hy
    ·exact e.symm
    have:=b1 x hx;have:=a1 y hy;omega
  subst e;rw [W3 a2 b2 fun z=>?_];constructor
  ·intro hz;rcases List.mem_cons.1 ((h z).1 (.tail _ hz)) with e|h2
   ·have:=a1 z hz;omega
   exact h2
  intro hz;rcases List.mem_cons.1 ((h z).2 (.tail _ hz)) with e|h2
  ·have:=b1 z hz;omega
  exact h2
theorem D8 {l:List Int}{k:Nat}(h:k<l.length):aD l k∈l:=by rw [dM h];exact List.getElem_mem h
theorem NH {l:List Int}{x:Int}(h:x∈l):∃ k,k<l.length∧aD l k=x:=by
 obtain⟨k,hk,e⟩:=List.getElem_of_mem h;exact⟨k,hk,by rw [dM hk];exact e⟩
theorem XQ {Z:List Int}(hZ:Z.Pairwise (·≤·)):∀ p,p≤Z.length→(jC Z p).Pairwise (·<·)∧(∀ x∈jC Z p,∃ k,k<p∧aD Z k=x)∧(∀ k,k<p→aD Z k∈jC Z p)
 |0,_=>⟨.nil,fun _ h=>by (cases h),fun k h=>by omega⟩
 |p+1,hp=>by
  obtain⟨h1,h2,h3⟩:=XQ hZ p (by omega);have hle:∀ k,k<p→aD Z k≤aD Z p:=fun k hk=>by
   rw [dM (show k<Z.length by omega),dM (show p<Z.length by omega)];exact List.pairwise_iff_getElem.1 hZ k p (by omega) (by omega) hk
  by_cases hc:p=0∨MT (aD Z p) (aD Z (p - 1))=false
  ·have e:jC Z (p+1)=jC Z p++[aD Z p]:=(by conv=>lhs;unfold jC;rw [if_pos hc]);rw [e];refine⟨List.pairwise_append.2 ⟨h1,List.pairwise_singleton _ _,fun a ha b hb=>?_⟩,fun x hx=>?_,fun k hk=>?_⟩
   ·simp only [List.mem_cons,List.not_mem_nil,or_false] at hb;subst hb;obtain⟨k,hk,rfl⟩:=h2 a ha;rcases hc with hc|hc
    ·omega
    have hne:aD Z p≠aD Z (p - 1):=of_decide_eq_false hc;have e1:=hle (p - 1) (by omega);have e2:aD Z k≤aD Z (p - 1):=by
     rcases Nat.lt_or_ge k (p - 1) with hk2|hk2
     ·rw [dM (show k<Z.length by omega),dM (show p - 1<Z.length by omega)];exact List.pairwise_iff_getElem.1 hZ k (p - 1) (by omega) (by omega) hk2
     rw [show k=p - 1 by omega];exact Int.le_refl _
    omega
   ·rcases List.mem_append.1 hx with hx|hx
    ·obtain⟨k,hk,e2⟩:=h2 x hx;exact⟨k,by omega,e2⟩
    simp only [List.mem_cons,List.not_mem_nil,or_false] at hx;exact⟨p,by omega,hx.symm⟩
   by_cases e2:k=p
   ·subst e2;exact List.mem_append_right _ (.head _)
   exact List.mem_append_left _ (h3 k (by omega))
  have hc1:0<p:=by
   rcases Nat.eq_zero_or_pos p with h|h
   ·exact absurd (.inl h) hc
   exact h
  have hc2:MT (aD Z p) (aD Z (p - 1))=true:=by
   cases hb:MT (aD Z p) (aD Z (p - 1)) with
   |true=>rfl
   |false=>exact absurd (.inr hb) hc
  rw [HP hc1 hc2];refine⟨h1,fun x hx=>?_,fun k hk=>?_⟩
  ·obtain⟨k,hk,e2⟩:=h2 x hx;exact⟨k,by omega,e2⟩
  by_cases e2:k=p
  ·subst e2;rw [show aD Z k=aD Z (k - 1) from of_decide_eq_true hc2];exact h3 (k - 1) (by omega)
  exact h3 k (by omega)
theorem AO (l:List Int):(jC (j7 l) (j7 l).length).Pairwise (·<·)∧∀ x,x∈jC (j7 l) (j7 l).length↔x∈l:=by
 obtain⟨h1,h2,h3⟩:=XQ (K5 l) _ (Nat.le_refl _);refine⟨h1,fun x=>?_⟩;rw [← (UN l).mem_iff];constructor
 ·intro hx;obtain⟨k,hk,rfl⟩:=h2 x hx;exact D8 hk
 intro hx;obtain⟨k,hk,rfl⟩:=NH hx;exact h3 k hk
theorem N3 {P:Ed→Bool}{m:List Ed}:∀ i,i≤m.length→(0<(jT P m i).length↔∃ k,k<i∧P (cH m k)=true)
 |0,_=>by constructor <;> intro h;(exact absurd h (Nat.lt_irrefl 0));(obtain⟨k,hk,_⟩:=h;omega)
 |i+1,h=>by
  have ih:=N3 (P:=P) (m:=m) i (by omega);cases hp:P (cH m i) with
  |true =>
   rw [SA hp,List.length_append];exact⟨fun _=>⟨i,by omega,hp⟩,fun _=>Nat.succ_pos _⟩
  |false =>
   rw [S6 hp,ih];constructor
   ·rintro ⟨k,hk,h2⟩;exact⟨k,by omega,h2⟩
   rintro ⟨k,hk,h2⟩;refine⟨k,?_,h2⟩;rcases Nat.lt_or_ge k i with h3|h3
   ·exact h3
   rw [show k=i by omega,hp] at h2;cases h2
theorem yX {m:List Ed}{f x:Int}:∀ i,(x∈vB m f i↔∃ k,k<i∧x∈X2 f (cH m k))
 |0=>by constructor <;> intro h;(cases h);(obtain⟨k,hk,_⟩:=h;omega)
 |i+1=>by
  rw [UP,List.mem_append,yX i];constructor
  ·rintro (⟨k,hk,h⟩|h)
   ·exact⟨k,by omega,h⟩
   exact⟨i,by omega,h⟩
  rintro ⟨k,hk,h⟩;rcases Nat.lt_or_ge k i with h3|h3
  ·exact .inl ⟨k,h3,h⟩
  rw [show k=i by omega] at h;exact .inr h
theorem DV {f x:Int}{e:Ed}:x∈X2 f e↔(x≠f∧tA x f e=true):=by
 unfold X2 tA;simp only [Bool.or_eq_true,Bool.and_eq_true,decide_eq_true_eq];split
 ·rename_i h;simp only [List.mem_cons,List.not_mem_nil,or_false];omega
 split
 ·rename_i h1 h;simp only [List.mem_cons,List.not_mem_nil,or_false];omega
 rename_i h1 h2;simp only [List.not_mem_nil,false_iff];omega
theorem V8 (m:List Ed)(f:Int):∀ i,(xE m f i).Pairwise (·<·)∧∀ x:Int,x∈xE m f i↔(0≤x∧x<i∧NW m f x=true)
 |0=>⟨.nil,fun x=>by constructor;(intro h;cases h);(rintro ⟨h1,h2,_⟩;omega)⟩
 |i+1=>by
  obtain⟨h1,h2⟩:=V8 m f i;cases hr:NW m f i with
  |true =>
   rw [aBB hr];refine⟨List.pairwise_append.2 ⟨h1,List.pairwise_singleton _ _,fun a ha b hb=>?_⟩,fun x=>?_⟩
   ·simp only [List.mem_cons,List.not_mem_nil,or_false] at hb;subst hb;exact ((h2 a).1 ha).2.1
   rw [List.mem_append,h2];simp only [List.mem_cons,List.not_mem_nil,or_false];constructor
   ·rintro (⟨a1,a2,a3⟩|rfl)
    ·exact⟨a1,by omega,a3⟩
    exact⟨by omega,by omega,hr⟩
   rintro ⟨a1,a2,a3⟩;by_cases e:x=i
   ·exact .inr e
   exact .inl ⟨a1,by omega,a3⟩
  |false =>
   rw [OH hr];refine⟨h1,fun x=>?_⟩;rw [h2];constructor
   ·rintro ⟨a1,a2,a3⟩;exact⟨a1,by omega,a3⟩
   rintro ⟨a1,a2,a3⟩;refine⟨a1,?_,a3⟩;by_cases e:x=i
   ·rw [e,hr] at a3;cases a3
   omega
section
variable {l:List Pt}{m:List Ed}{n:Int}
theorem OF (hok:dG l m n=true):∀ d,d≤2*m.length→∀ i,i<2*m.length→0≤aD (cK l (bD l m m.length) (outs l m) d).face i∧aD (cK l (bD l m m.length) (outs l m) d).face i≤(cK l (bD l m m.length) (outs l m) d).many
 |0,_,i,hi=>by
  unfold cK aD;rw [List.getD_eq_getElem?_getD,List.getElem?_replicate,bP,if_pos hi];exact⟨Int.le_refl _,Int.le_refl _⟩
 |d+1,h,i,hi=>by
  have ih:=OF hok d (by omega) i hi;have hinv:=vO l (bD l m m.length) (outs l m) d;rw [bP] at hinv;rw [show cK l (bD l m m.length) (outs l m) (d+1)=lG l (bD l m m.length) (outs l m) (cK l (bD l m m.length) (outs l m) d) d from rfl];generalize cK l (bD l m m.length) (outs l m) d=t at *;unfold lG;split
  ·exact ih
  simp only;have hin:=y6 hok (d:=(d:Int)) (by omega) (by omega);have hr:∀ k,k<(wO (bD l m m.length) (outs l m) d).length→(aD (wO (bD l m m.length) (outs l m) d) k).toNat<t.face.length:=fun k hk=>by
   rw [hinv.1];rw [FG] at hk;rw [X8 hk];have:=hin k;omega
  generalize wO (bD l m m.length) (outs l m) d=W at *;generalize IN l (bD l m m.length) W W.length=A;have hs:=vV t.face W (if 0<A then t.many+1 else 0) hr i _ (Nat.le_refl _);by_cases hc:∃ k,k<W.length∧(aD W k).toNat=i
  ·rw [hs.1 hc];split <;> omega
  rw [hs.2 hc];split <;> omega
theorem H4 (ho:c9 l m n=true){i:Nat}(hi:i<2*m.length):0≤aD (dY l m).face i∧aD (dY l m).face i≤n:=by
 have ho':=ho;simp only [c9,iD,Bool.and_eq_true,decide_eq_true_eq] at ho';have:=OF ho'.1.1 (2*m.length) (Nat.le_refl _) i hi;have e:cK l (bD l m m.length) (outs l m) (2*m.length)=dY l m:=(by unfold dY nmD;rw [bP]);rw [e,ho'.2.2.2.1] at this;exact this
theorem aER (ho:c9 l m n=true){i:Nat}(hi:i<m.length):(cH m i).l=aD (dY l m).face (2*i)∧(cH m i).r=aD (dY l m).face (2*i+1):=by
 simp only [c9,Bool.and_eq_true] at ho;have:=fY ho.2.2.2.2 hi;simpa only [FU,Bool.and_eq_true,decide_eq_true_eq] using this
theorem qR (ho:c9 l m n=true){i:Nat}(hi:i<m.length):(0≤(cH m i).l∧(cH m i).l≤n)∧(0≤(cH m i).r∧(cH m i).r≤n):=by
 obtain⟨e1,e2⟩:=aER ho hi;rw [e1,e2];exact⟨H4 ho (by omega),H4 ho (by omega)⟩
theorem C4 (ho:c9 l m n=true):1≤n∧n≤100:=(kW (xR ho)).2.2.2.2.2
theorem aJX (ho:c9 l m n=true)(f:Int):dS m f=rnO m n f:=by
 have hn:=C4 ho;obtain⟨d1,d2⟩:=AO (vB m f m.length);obtain⟨r1,r2⟩:=V8 m f (n+1).toNat;refine W3 d1 r1 fun x=>?_;unfold rnO;rw [show (x∈dS m f)=(x∈jC (j7 (vB m f m.length)) (j7 (vB m f m.length)).length) from rfl,d2,yX,r2];simp only [NW,Bool.and_eq_true,decide_eq_true_eq,N3 m.length (Nat.le_refl _)];constructor
 ·rintro ⟨k,hk,hx⟩;obtain⟨a1,a2⟩:=DV.1 hx;obtain⟨b1,b2⟩:=qR ho hk;have a3:=a2;simp only [tA,Bool.or_eq_true,Bool.and_eq_true,decide_eq_true_eq] at a3;exact⟨by omega,by omega,a1,k,hk,a2⟩
 rintro ⟨h1,h2,h3,k,hk,h4⟩;exact⟨k,hk,DV.2 ⟨h3,h4⟩⟩
end
theorem HZ {L:List Int}{p:Nat}{v:Int}(hp:p<L.length)(h:aD L p=0)(hv:v≠0):yC (L.set p v)+1=yC L:=by
 unfold yC;rw [dM hp] at h
 induction L generalizing p with
 |nil=>simp at hp
 |cons b r ih =>
  cases p with
  |zero =>
   simp only [List.getElem_cons_zero] at h;subst h;simp [hv]
  |succ p =>
   simp only [List.getElem_cons_succ] at h;have:=ih (by simpa using hp) h;simp only [List.set_cons_succ,List.countP_cons];omega
theorem aDX (L:List Int):yC L≤L.length:=List.countP_le_length
structure YP (T:Nat) (n:Int) (s:DP):Prop where
 len:s.1.length=T
 rng:∀ i,i<T→0≤aD s.1 i∧aD s.1 i+yC s.1≤T
 nx:∀ j,j<s.2.length→0≤aD s.2 j∧aD s.2 j≤n
 sz:s.2.length+yC s.1≤T
theorem aEH {L:List Int}{x:Int}{j:Nat}(h:j<(L++[x]).length):aD (L++[x]) j=if j<L.length then aD L j else x:=by
 rw [dM h];split
 ·rename_i hj;rw [List.getElem_append_left hj,dM hj]
 rename_i hj;rw [List.getElem_append_right (by omega)];simp only [List.length_append,List.length_singleton] at h;simp [show j - L.length=0 by omega]
theorem aEs {T:Nat}{n:Int}{s:DP}(h:YP T n s){f g:Int}(hf:0≤f∧f<T)(hg:0≤g∧g<T)(hn:g≤n)(h0:aD s.1 g.toNat=0):YP T n (s.1.set g.toNat (aD s.1 f.toNat+1),s.2++[g]):=by
 have hfr:=h.rng f.toNat (by omega);have hc:=HZ (v:=aD s.1 f.toNat+1) (show g.toNat<s.1.length by rw [h.len];omega) h0 (by omega);refine⟨by simp [h.len],fun i hi=>?_,fun j hj=>?_,?_⟩
 ·simp only;rw [mZ];have:=h.rng i hi;split <;> omega
 ·simp only at hj ⊢;rw [aEH hj];split
  ·rename_i h1;exact h.nx j h1
  omega
 simp only [List.length_append,List.length_singleton];have:=h.sz;omega
theorem vD (m:List Ed)(f:Int):(dS m f).length≤m.length:=by
 have h1:=vK (j7 (vB m f m.length)) (j7 (vB m f m.length)).length;have h2:=MF m f m.length;rw [v7] at h1;unfold dS;rw [v7];omega
def HJ (m:List Ed)(n:Int):Prop:=∀ i,i<m.length→(0≤(cH m i).l∧(cH m i).l≤n)∧(0≤(cH m i).r∧(cH m i).r≤n)
theorem gU {m:List Ed}{n f:Int}(hE:HJ m n){k:Nat}(hk:k<(dS m f).length):0≤aD (dS m f) k∧aD (dS m f) k≤n:=by
 have hx:=D8 hk;generalize aD (dS m f) k=x at hx ⊢;unfold dS at hx;rw [(AO (vB m f m.length)).2,yX] at hx;obtain⟨i,hi,h⟩:=hx;have:=hE i hi;unfold X2 at h;split at h
 ·simp only [List.mem_cons,List.not_mem_nil,or_false] at h;omega
 split at h
 ·simp only [List.mem_cons,List.not_mem_nil,or_false] at h;omega
 ·cases h
theorem ET {T:Nat}{n:Int}{m:List Ed}(hTn:(T:Int)=n+1)(hE:HJ m n){s:DP}(h:YP T n s){f:Int}(hf:0≤f∧f<T):∀ k,k≤(dS m f).length→YP T n (dZ (dS m f) f s k)
 |0,_=>h
 |k+1,hk=>by
  have ih:=ET hTn hE h hf k (by omega);have hg:=gU hE (f:=f) (k:=k) (by omega);unfold dZ;split
  ·rename_i h0;exact aEs ih hf ⟨hg.1,by omega⟩ hg.2 h0
  exact ih
theorem EI {T:Nat}{n:Int}{m:List Ed}(hTn:(T:Int)=n+1)(hE:HJ m n){s:DP}{b:Int}(h:YP T n s):∀ i,i≤s.2.length→YP T n (fS m b s.2 (s.1,[]) i)
 |0,_=>⟨h.len,h.rng,fun j hj=>by simp [fS] at hj,by have:=aDX s.1;have:=h.len;show 0+yC s.1≤T;omega⟩
 |i+1,hi=>by
  have ih:=EI (b:=b) hTn hE h i (by omega);have hf:=h.nx i (by omega);unfold fS;split
  ·exact ih
  exact ET hTn hE ih ⟨hf.1,by omega⟩ _ (Nat.le_refl _)
theorem WL {T:Nat}{n:Int}{m:List Ed}(hTn:(T:Int)=n+1)(hE:HJ m n){s:DP}{b:Int}(h:YP T n s):YP T n (H9 m b s):=EI hTn hE h _ (Nat.le_refl _)
theorem WV (nb:List Int)(f:Int)(s:DP)(T:Nat)(hs:s.1.length=T)(hr:∀ i,i<T→0≤aD s.1 i)(hb:∀ k,k<nb.length→0≤aD nb k∧aD nb k<T):∀ k,k≤nb.length→(dZ nb f s k).1.length=T∧(∀ i,i<T→0≤aD (dZ nb f s k).1 i)∧yC (dZ nb f s k).1+(dZ nb f s k).2.length=yC s.1+s.2.length
 |0,_=>⟨hs,hr,rfl⟩
 |k+1,hk=>by
  obtain⟨h1,h2,h3⟩:=WV nb f s T hs hr hb k (by omega);have hg:=hb k (by omega);unfold dZ;split
  ·rename_i h0;have hf0:0≤aD (dZ nb f s k).1 f.toNat:=by
    by_cases hf:f.toNat<T
    ·exact h2 _ hf
    unfold aD;rw [List.getD_eq_getElem?_getD,List.getElem?_eq_none (by omega)];exact Int.le_refl _
   have hc:=HZ (v:=aD (dZ nb f s k).1 f.toNat+1) (show (aD nb k).toNat<(dZ nb f s k).1.length by omega) h0 (by omega);refine⟨by simp [h1],fun i hi=>?_,?_⟩
   ·simp only;rw [mZ];have:=h2 i hi;split <;> omega
   simp only [List.length_append,List.length_singleton];omega
  exact⟨h1,h2,h3⟩
theorem X7 {T:Nat}{n:Int}{m:List Ed}(hTn:(T:Int)=n+1)(hE:HJ m n){s:DP}{b:Int}(h:YP T n s):∀ i,i≤s.2.length→yC (fS m b s.2 (s.1,[]) i).1+(fS m b s.2 (s.1,[]) i).2.length=yC s.1
 |0,_=>rfl
 |i+1,hi=>by
  have ih:=X7 (b:=b) hTn hE h i (by omega);have hw:=EI (b:=b) hTn hE h i (by omega);unfold fS;split
  ·exact ih
  rw [(WV (dS m (aD s.2 i)) (aD s.2 i) (fS m b s.2 (s.1,[]) i) T hw.len (fun j hj=>(hw.rng j hj).1) (fun k hk=>by have:=gU hE hk;omega) _ (Nat.le_refl _)).2.2];exact ih
theorem aCt {T:Nat}{n:Int}{m:List Ed}(hTn:(T:Int)=n+1)(hE:HJ m n){s:DP}{b:Int}(h:YP T n s)(hne:s.2≠[]):RY (H9 m b s)<RY s:=by
 have:=X7 (b:=b) hTn hE h s.2.length (Nat.le_refl _);unfold RY H9;rw [if_neg hne];split
 ·omega
 rename_i h2;have:0<(fS m b s.2 (s.1,[]) s.2.length).2.length:=List.length_pos_iff.2 h2;omega
theorem aCV {T:Nat}{n b:Int}(hT:(n+1).toNat=T)(hn:0≤n)(hb:0≤b∧b≤n):YP T n (w0 n b)∧RY (w0 n b)≤2*T:=by
 have hl:(List.replicate (n+1).toNat (0:Int)).length=T:=(by rw [List.length_replicate,hT]);have ha:∀ i,aD (List.replicate (n+1).toNat (0:Int)) i=0:=fun i=>by
  unfold aD;rw [List.getD_eq_getElem?_getD,List.getElem?_replicate];split <;> rfl
 have hc:yC (List.replicate (n+1).toNat (0:Int))=T:=by
  unfold yC;rw [List.countP_replicate,hT];rfl
 have hs:=HZ (v:=1) (show b.toNat<(List.replicate (n+1).toNat (0:Int)).length by rw [hl];omega) (ha _) (by decide);rw [hc] at hs;refine⟨⟨by unfold w0;rw [List.length_set];exact hl,fun i hi=>?_,fun j hj=>?_,?_⟩,?_⟩
 ·unfold w0;simp only;rw [mZ,ha];split <;> omega
 ·unfold w0 at hj ⊢;simp only [List.length_cons,List.length_nil] at hj;rw [show j=0 by omega];exact hb
 ·unfold w0;show 1+yC ((List.replicate (n+1).toNat 0).set b.toNat 1)≤T;omega
 unfold RY w0;rw [if_neg (by simp)];simp only;omega
end Go.Aw
end

noncomputable section
namespace Go.Aw
set_option maxRecDepth 100000
set_option maxHeartbeats 2000000
theorem qH {α:Type}(E:El α){l:List α}{e:Option Int}{h:Heap}{nx:Nat}{K:KE}(hl:0<l.length)(hk:K (kJ e (.slice (some ⟨nx,0,none⟩) l.length l.length)) (bZ h nx (.cells true false E.sz (flat E.fl l))) (nx+1)):MV E l e h nx K:=by
 cases l with
 |nil=>cases hl
 |cons a r=>exact hk
end Go.Aw
end
