/-
  Parts of a proof. No condition.
-/
import Derived.Test.YtjahkcbdecgbhaaGreatQBt
import Derived.Test.YtjahkcbdecgbhaaGreatQBu
set_option linter.unusedSimpArgs false
set_option linter.unusedVariables false
noncomputable section
namespace Go.Aw
set_option maxRecDepth 100000
set_option maxHeartbeats 2000000
def aLm (h:Heap)(k:Nat)(n:Int):Prop:=∃ wr g sz q1 N1 e1 q2 N2 e2,look h k=some (.cells wr g sz [.slice (some ⟨q1,0,none⟩) N1 e1,.slice (some ⟨q2,0,none⟩) N2 e2,iv n])
def aD9:Nat × XF:=(123,fun args h nx K=>∃ p k1 k2 k3 a b m n,args=[pV p,pV k1,pV k2,pV k3]∧WE h p m n∧aGA h k1 a∧aGA h k2 b∧aLm h k3 n∧m.length≤1000∧0≤n∧n≤100∧HJ m n∧MV aP (SR m n a b) (some (S8 m n a b)) h nx K)
def sg5 (k1 k2 k3 q1 q2 k:Nat):Nat:=if k=7 then k1 else if k=8 then k2 else if k=9 then k3 else if k=10 then q1 else q2
theorem aJn:cT Go.Proofs.Tryz.prog aD9.1 aD9.2:=by
 have h0:cT Go.Proofs.Tryz.prog 123 (yOf aP aKb):=TB aP (aL (xl:=[aEg,X1]) (.cons aLW (.cons aKr .nil))) fun _ _ _ _ _=>aMR;refine h0.mono ?_ ?_
 ·rintro args h nx K ⟨p,k1,k2,k3,a,b,m,n,rfl,hw,⟨w1,g1,s1,h1⟩,⟨w2,g2,s2,h2⟩,⟨w3,g3,s3,q1,N1,e1,q2,N2,e2,h3⟩,hm,hn0,hn,hE,hk⟩
  obtain⟨nP,nD,nL,c1,c2,fo,hin⟩:=aFS (nx:=nx) hw (R:=cR a b N1 N2 e1 e2 n) (sg5 k1 k2 k3 q1 q2) (as0:=[pV 7,pV 8,pV 9]) (as1:=[pV k1,pV k2,pV k3])
   (fun ρ e=>by
    show _=[Value.pointer (some ⟨ρ 7,0+0,none⟩),.pointer (some ⟨ρ 8,0+0,none⟩),.pointer (some ⟨ρ 9,0+0,none⟩)];rw [e 7 (by decide),e 8 (by decide),e 9 (by decide)];rfl) (List.forall_mem_cons.2 ⟨lR rfl,List.forall_mem_cons.2 ⟨lR rfl,List.forall_mem_cons.2 ⟨lR rfl,fun _ h=>by cases h⟩⟩⟩) (fun ρ e k o hk=>by
    unfold cR at hk;rw [aE] at hk;split at hk
    ·rename_i hq;injection hk with hk;subst hk;rw [← beq_true hq]
     exact⟨by decide,true,1,_,rfl,by decide,fun _=>rfl,cO rfl,w1,g1,s1,_,by rw [e 7 (by decide)];exact h1,rfl⟩
    rw [aE] at hk;split at hk
    ·rename_i hq;injection hk with hk;subst hk;rw [← beq_true hq]
     exact⟨by decide,true,1,_,rfl,by decide,fun _=>rfl,cO rfl,w2,g2,s2,_,by rw [e 8 (by decide)];exact h2,rfl⟩
    rw [aE] at hk;split at hk
    ·rename_i hq;injection hk with hk;subst hk;rw [← beq_true hq]
     refine⟨by decide,false,1,_,rfl,by decide,(fun h=>by cases h),cO rfl,w3,g3,s3,_,by rw [e 9 (by decide)];exact h3,?_⟩;show _=[Value.slice (some ⟨ρ 10,0+0,none⟩) N1 (e1+0),.slice (some ⟨ρ 11,0+0,none⟩) N2 (e2+0),iv n];rw [e 10 (by decide),e 11 (by decide)];rfl
    exact bU hk)
  exact MA aP ⟨a,b,N1,N2,e1,e2,nP,m,nD,nL,c1,c2,n,fo,rfl,rfl,rfl,rfl,rfl,hm,hn0,hn,hE⟩ hin hk
 rintro args h nx K ⟨p,k1,k2,k3,a,b,m,n,rfl,hw,h1,h2,h3,hm,hn0,hn,hE,hk⟩;obtain⟨v,h',nx',a1,a2⟩:=Q9 hk;exact⟨v,h',nx',a1,fun K' hk'=>⟨p,k1,k2,k3,a,b,m,n,rfl,hw,h1,h2,h3,hm,hn0,hn,hE,a2 K' hk'⟩⟩
def wyP (l:List Pt)(m:List Ed)(n:Int):List Value→Option (Bool × List Int × Option Int)
 |[.int .i64 a,.int .i64 b]=>some (decide (l.length≤1000)&&decide (m.length≤1000),if c9 l m n=true then SR m n a b else [],some (if c9 l m n=true then S8 m n a b else 1))
 |_=>none
theorem aDR {l:List Pt}{m:List Ed}{n:Int}{r:List Value}{out:List Int}{e:Option Int}(hs:wyP l m n r=some (true,out,e)):∃ a b,r=[iv a,iv b]∧(l.length≤1000∧m.length≤1000)∧out=(if c9 l m n=true then SR m n a b else [])∧e=some (if c9 l m n=true then S8 m n a b else 1):=by
 unfold wyP at hs;split at hs
 ·injection hs with hs;injection hs with h1 h2;injection h2 with h2 h3;simp only [Bool.and_eq_true,decide_eq_true_eq] at h1;exact⟨_,_,rfl,h1,h2.symm,h3.symm⟩
 ·cases hs
theorem aIw {m:List Ed}{n a b:Int}(h:S8 m n a b≠0):SR m n a b=[]:=by
 unfold S8 at h;unfold SR;split
 ·rename_i h1;rw [if_pos h1] at h;cases ho:TK m n a b with
  |none=>rfl
  |some x=>rw [ho] at h;exact absurd rfl h
 rfl
def aH0:Nat × XF:=(43,mRX wyP)
theorem aMh:cT Go.Proofs.Tryz.prog aH0.1 aH0.2:=LO (mC (NF (xl:=[aIo,aD9]) (.cons aMQ (.cons aJn .nil)) 4) 6).1 fun l m n r out e hs=>by
 obtain⟨a,b,rfl,hlm,rfl,rfl⟩:=aDR hs;clear hs;refine⟨rfl,fun c1 c2=>?_⟩;(conv=>whnf);refine⟨l,m,n,.slice (some ⟨0,0,none⟩) l.length c1,.slice (some ⟨1,0,none⟩) m.length c2,rfl,aJ aT rfl,aJ aW rfl,hlm,?_⟩;cases ho:c9 l m n with
 |false =>
  refine .inr ⟨rfl,?_⟩;(conv=>whnf);rfl
 |true =>
  refine .inl ⟨rfl,?_⟩;have hn:=C4 ho;have hE:HJ m n:=fun i hi=>qR ho hi;have hve:=aIw (m:=m) (n:=n) (a:=a) (b:=b);rw [if_pos rfl,if_pos rfl];obtain⟨O,hO⟩:∃ O,SR m n a b=O:=⟨_,rfl⟩;obtain⟨E,hEE⟩:∃ E,S8 m n a b=E:=⟨_,rfl⟩;rw [hO,hEE] at hve ⊢;(conv=>whnf);refine⟨_,_,_,_,a,b,m,n,rfl,⟨_,_,_,_,_,_,_,_,_,_,_,_,_,_,_,_,_,_,rfl,rfl,List.take_length⟩,⟨_,_,_,rfl⟩,⟨_,_,_,rfl⟩,⟨_,_,_,_,_,_,_,_,_,rfl⟩,hlm.2,by omega,hn.2,hE,?_⟩;rw [hO,hEE];cases O with
  |nil =>
   ((conv=>whnf);apply bm<;>intro g1)
   ·(conv=>whnf);rfl
   have g1:E=0:=(by simpa [aEh,aA,aC] using g1);rw [g1];(conv=>whnf);rfl
  |cons x t =>
   have hz:E=0:=by
    by_cases h:E=0
    ·exact h
    ·cases hve h
   subst hz;(conv=>whnf);exact iR aP (l:=x::t) (e:=some 0) (nx:=0) (Nat.succ_pos _) rfl
end Go.Aw
end

noncomputable section
namespace Go.Aw
set_option maxRecDepth 100000
def uR (nb:List Int)(z:Int)(S:List Int):Nat→List Int
 |0=>S
 |k+1=>if aD (uR nb z S k) (aD nb k).toNat<0 then (uR nb z S k).set (aD nb k).toNat (z+1) else uR nb z S k
def QL (b z:Int)(S:List Int)(f:Int):Bool:=decide (aD S f.toNat≠z) || (decide (f=0)&&decide (f≠b))
def mL (m:List Ed)(b z:Int)(S:List Int):Nat→List Int
 |0=>S
 |i+1=>if QL b z (mL m b z S i) i=true then mL m b z S i else uR (dS m i) z (mL m b z S i) (dS m i).length
def f0 (n b:Int):List Int:=(List.replicate (n+1).toNat (-1)).set b.toNat 0
def fJ (m:List Ed)(n b:Int):Nat→List Int
 |0=>f0 n b
 |z+1=>mL m b z (fJ m n b z) (n+1).toNat
def fF (m:List Ed)(n b:Int):List Int:=fJ m n b (n+1).toNat
def HW (m:List Ed)(b:Int)(A:Int→Prop)(g:Int):Prop:=∃ f,A f∧¬ (f=0∧f≠b)∧g∈dS m f
section
variable {m:List Ed}{n b:Int}{T:Nat}
theorem B6 (nb:List Int)(z:Int)(hz:0≤z)(S:List Int)(hS:S.length=T)(hb:∀ k,k<nb.length→0≤aD nb k∧aD nb k<T):∀ k,k≤nb.length→(uR nb z S k).length=T∧∀ g:Nat,g<T→aD (uR nb z S k) g=if aD S g<0∧(∃ t,t<k∧aD nb t=g) then z+1 else aD S g
 |0,_=>⟨hS,fun g hg=>by rw [if_neg (by rintro ⟨_,t,h,_⟩;omega)];rfl⟩
 |k+1,hk=>by
  obtain⟨h1,h2⟩:=B6 nb z hz S hS hb k (by omega);have hg:=hb k (by omega);have h3:=h2 (aD nb k).toNat (by omega);have hcase:∀ g:Nat,(∃ t,t<k+1∧aD nb t=g)↔((∃ t,t<k∧aD nb t=g)∨(aD nb k).toNat=g):=fun g=>by
   constructor
   ·rintro ⟨t,ht,e⟩;by_cases hc:t=k
    ·subst hc;exact .inr (by omega)
    exact .inl ⟨t,by omega,e⟩
   rintro (⟨t,ht,e⟩|e)
   ·exact⟨t,by omega,e⟩
   exact⟨k,by omega,by omega⟩
  unfold uR;by_cases hl:aD (uR nb z S k) (aD nb k).toNat<0
  ·rw [if_pos hl];refine⟨by rw [List.length_set];exact h1,fun g hgT=>?_⟩;rw [mZ,h2 g hgT];by_cases he:(aD nb k).toNat=g
   ·subst he;rw [if_pos ⟨rfl,by omega⟩];have:aD S (aD nb k).toNat<0:=by
     rw [h3] at hl;split at hl
     ·rename_i hh;exact hh.1
     exact hl
    rw [if_pos ⟨this,(hcase _).2 (.inr rfl)⟩]
   rw [if_neg (fun h=>he h.1)];by_cases hc:aD S g<0∧∃ t,t<k∧aD nb t=g
   ·rw [if_pos hc,if_pos ⟨hc.1,(hcase g).2 (.inl hc.2)⟩]
   rw [if_neg hc,if_neg (fun h=>hc ⟨h.1,((hcase g).1 h.2).resolve_right he⟩)]
  rw [if_neg hl];refine⟨h1,fun g hgT=>?_⟩;rw [h2 g hgT];by_cases hc:aD S g<0∧∃ t,t<k∧aD nb t=g
  ·rw [if_pos hc,if_pos ⟨hc.1,(hcase g).2 (.inl hc.2)⟩]
  rw [if_neg hc];by_cases he:(aD nb k).toNat=g
  ·subst he;rw [h3,if_neg hc] at hl;rw [if_neg (fun h=>hl h.1)]
  rw [if_neg (fun h=>hc ⟨h.1,((hcase g).1 h.2).resolve_right he⟩)]
theorem xX {L:List Int}{x:Int}:(∃ t,t<L.length∧aD L t=x)↔x∈L:=⟨fun ⟨t,ht,e⟩=>e▸D8 ht,NH⟩
open Classical in
theorem A5 (hTn:(T:Int)=n+1)(hE:HJ m n){z:Int}(hz:0≤z){S:List Int}(hS:S.length=T):∀ i,i≤T→(mL m b z S i).length=T∧∀ g:Nat,g<T→aD (mL m b z S i) g=if aD S g<0∧HW m b (fun f=>0≤f∧f<i∧aD S f.toNat=z) g then z+1 else aD S g
 |0,_=>⟨hS,fun g hg=>by rw [if_neg (by rintro ⟨_,f,h,_⟩;omega)];rfl⟩
 |i+1,hi=>by
  obtain⟨h1,h2⟩:=A5 hTn hE hz hS i (by omega);have hi2:=h2 i (by omega);have hzi:aD (mL m b z S i) i=z↔aD S i=z:=by
   rw [hi2];split
   ·rename_i hh;constructor <;> intro h <;> omega
   exact Iff.rfl
  unfold mL;by_cases hsk:QL b z (mL m b z S i) i=true
  ·rw [if_pos hsk];refine⟨h1,fun g hg=>?_⟩;rw [h2 g hg];have hno:¬ (aD S i=z∧¬ ((i:Int)=0∧(i:Int)≠b)):=by
    rintro ⟨e1,e2⟩;simp only [QL,Bool.or_eq_true,Bool.and_eq_true,decide_eq_true_eq,Int.toNat_natCast] at hsk;rcases hsk with h|h
    ·exact h (hzi.2 e1)
    exact e2 h
   have hiff:HW m b (fun f=>0≤f∧f<((i+1:Nat):Int)∧aD S f.toNat=z) g↔HW m b (fun f=>0≤f∧f<(i:Int)∧aD S f.toNat=z) g:=by
    constructor
    ·rintro ⟨f,⟨a1,a2,a3⟩,a4,a5⟩;by_cases e:f=i
     ·subst e;rw [Int.toNat_natCast] at a3;exact absurd ⟨a3,a4⟩ hno
     exact⟨f,⟨a1,by omega,a3⟩,a4,a5⟩
    rintro ⟨f,⟨a1,a2,a3⟩,a4,a5⟩;exact⟨f,⟨a1,by omega,a3⟩,a4,a5⟩
   by_cases hc:aD S g<0∧HW m b (fun f=>0≤f∧f<(i:Int)∧aD S f.toNat=z) g
   ·rw [if_pos hc,if_pos ⟨hc.1,hiff.2 hc.2⟩]
   rw [if_neg hc,if_neg (fun h=>hc ⟨h.1,hiff.1 h.2⟩)]
  rw [if_neg hsk];have hyes:aD S i=z∧¬ ((i:Int)=0∧(i:Int)≠b):=by
   simp only [QL,Bool.or_eq_true,Bool.and_eq_true,decide_eq_true_eq,Int.toNat_natCast,not_or] at hsk;exact⟨hzi.1 (Decidable.not_not.1 hsk.1),hsk.2⟩
  obtain⟨c1,c2⟩:=B6 (T:=T) (dS m i) z hz (mL m b z S i) h1 (fun k hk=>by have:=gU hE hk;omega) _ (Nat.le_refl _);refine⟨c1,fun g hg=>?_⟩;rw [c2 g hg];have hme:=xX (L:=dS m i) (x:=g);have hiff:HW m b (fun f=>0≤f∧f<((i+1:Nat):Int)∧aD S f.toNat=z) g↔(HW m b (fun f=>0≤f∧f<(i:Int)∧aD S f.toNat=z) g∨(g:Int)∈dS m i):=by
   constructor
   ·rintro ⟨f,⟨a1,a2,a3⟩,a4,a5⟩;by_cases e:f=i
    ·subst e;exact .inr a5
    exact .inl ⟨f,⟨a1,by omega,a3⟩,a4,a5⟩
   rintro (⟨f,⟨a1,a2,a3⟩,a4,a5⟩|h)
   ·exact⟨f,⟨a1,by omega,a3⟩,a4,a5⟩
   exact⟨i,⟨by omega,by omega,by rw [Int.toNat_natCast];exact hyes.1⟩,hyes.2,h⟩
  have h2g:=h2 g hg;generalize aD (mL m b z S i) g=V at *;by_cases hS0:aD S g<0
  ·by_cases hr:HW m b (fun f=>0≤f∧f<(i:Int)∧aD S f.toNat=z) g
   ·rw [if_pos ⟨hS0,hr⟩] at h2g;rw [if_neg (fun h=>by omega),if_pos ⟨hS0,hiff.2 (.inl hr)⟩];exact h2g
   rw [if_neg (fun h=>hr h.2)] at h2g;by_cases hm:(g:Int)∈dS m i
   ·rw [if_pos ⟨by omega,hme.2 hm⟩,if_pos ⟨hS0,hiff.2 (.inr hm)⟩]
   rw [if_neg (fun h=>hm (hme.1 h.2)),if_neg (fun h=>(hiff.1 h.2).elim hr hm)];exact h2g
  rw [if_neg (fun h=>hS0 h.1)] at h2g;rw [if_neg (fun h=>hS0 (by omega)),if_neg (fun h=>hS0 h.1)];exact h2g
theorem JY (nb:List Int)(f:Int)(v:Int)(hv:0<v)(s:DP)(hS:s.1.length=T)(hf:0≤f∧f<T)(hfv:aD s.1 f.toNat=v)(hb:∀ k,k<nb.length→0≤aD nb k∧aD nb k<T):∀ k,k≤nb.length→(dZ nb f s k).1.length=T∧(∀ g:Nat,g<T→aD (dZ nb f s k).1 g=if aD s.1 g=0∧(∃ t,t<k∧aD nb t=g) then v+1 else aD s.1 g)∧∀ x:Int,x∈(dZ nb f s k).2↔(x∈s.2∨(0≤x∧x<T∧aD s.1 x.toNat=0∧∃ t,t<k∧aD nb t=x))
 |0,_=>⟨hS,fun g hg=>by rw [if_neg (by rintro ⟨_,t,h,_⟩;omega)];rfl,fun x=>⟨.inl,fun h=>h.elim id (by rintro ⟨_,_,_,t,h,_⟩;omega)⟩⟩
 |k+1,hk=>by
  obtain⟨h1,h2,hx⟩:=JY nb f v hv s hS hf hfv hb k (by omega);have hg:=hb k (by omega);have h3:=h2 (aD nb k).toNat (by omega);have h4:=h2 f.toNat (by omega);rw [hfv,if_neg (fun h=>by omega)] at h4;have hcase:∀ g:Int,(∃ t,t<k+1∧aD nb t=g)↔((∃ t,t<k∧aD nb t=g)∨aD nb k=g):=fun g=>by
   constructor
   ·rintro ⟨t,ht,e⟩;by_cases hc:t=k
    ·subst hc;exact .inr e
    exact .inl ⟨t,by omega,e⟩
   rintro (⟨t,ht,e⟩|e)
   ·exact⟨t,by omega,e⟩
   exact⟨k,by omega,e⟩
  unfold dZ;by_cases hl:aD (dZ nb f s k).1 (aD nb k).toNat=0
  ·rw [if_pos hl];have hs0:aD s.1 (aD nb k).toNat=0:=by
    rw [h3] at hl;split at hl
    ·omega
    exact hl
   refine⟨by simp only [List.length_set];exact h1,fun g hgT=>?_,fun x=>?_⟩
   ·simp only;rw [mZ,h2 g hgT,h4];by_cases he:(aD nb k).toNat=g
    ·subst he;rw [if_pos ⟨rfl,by omega⟩,if_pos ⟨hs0,(hcase _).2 (.inr (by omega))⟩]
    rw [if_neg (fun h=>he h.1)];by_cases hc:aD s.1 g=0∧∃ t,t<k∧aD nb t=g
    ·rw [if_pos hc,if_pos ⟨hc.1,(hcase g).2 (.inl hc.2)⟩]
    rw [if_neg hc,if_neg (fun h=>hc ⟨h.1,((hcase g).1 h.2).resolve_right (fun e=>he (by omega))⟩)]
   simp only [List.mem_append,List.mem_cons,List.not_mem_nil,or_false];rw [hx,hcase];constructor
   ·rintro ((h|⟨a1,a2,a3,a4⟩)|h)
    ·exact .inl h
    ·exact .inr ⟨a1,a2,a3,.inl a4⟩
    subst h;exact .inr ⟨hg.1,hg.2,hs0,.inr rfl⟩
   rintro (h|⟨a1,a2,a3,a4|a4⟩)
   ·exact .inl (.inl h)
   ·exact .inl (.inr ⟨a1,a2,a3,a4⟩)
   exact .inr a4.symm
  rw [if_neg hl];have hor:∀ g:Int,0≤g→g<T→aD s.1 g.toNat=0→((∃ t,t<k+1∧aD nb t=g)↔∃ t,t<k∧aD nb t=g):=fun g hg0 hgT hs0=>by
   rw [hcase];refine⟨fun h=>h.elim id fun e=>?_,.inl⟩;subst e;apply Classical.byContradiction;intro hn;rw [h3,if_neg (fun h=>hn (by obtain⟨t,ht,e⟩:=h.2;exact⟨t,ht,by omega⟩))] at hl;exact hl hs0
  refine⟨h1,fun g hgT=>?_,fun x=>?_⟩
  ·rw [h2 g hgT];by_cases hs0:aD s.1 g=0
   ·have:=hor g (by omega) (by omega) (by rw [Int.toNat_natCast];exact hs0);by_cases hc:∃ t,t<k∧aD nb t=g
    ·rw [if_pos ⟨hs0,hc⟩,if_pos ⟨hs0,this.2 hc⟩]
    rw [if_neg (fun h=>hc h.2),if_neg (fun h=>hc (this.1 h.2))]
   rw [if_neg (fun h=>hs0 h.1),if_neg (fun h=>hs0 h.1)]
  rw [hx];constructor
  ·rintro (h|⟨a1,a2,a3,a4⟩)
   ·exact .inl h
   exact .inr ⟨a1,a2,a3,(hor x a1 a2 a3).2 a4⟩
  rintro (h|⟨a1,a2,a3,a4⟩)
  ·exact .inl h
  exact .inr ⟨a1,a2,a3,(hor x a1 a2 a3).1 a4⟩
end
def VJ (F:List Int)(f b g:Int):Bool:=decide (aD F g.toNat=aD F f.toNat - 1)&&(decide (g≠0) || decide (g=b))
def A0 (F:List Int)(f b:Int)(nb:List Int):Nat→Int
 |0=>-1
 |i+1=>if A0 F f b nb i<0∧VJ F f b (aD nb i)=true then aD nb i else A0 F f b nb i
def yW (m:List Ed)(F:List Int)(b:Int):Nat→Int→List Int→List Int
 |0,_,out=>out
 |k+1,f,out=>if f=b then out else yW m F b k (A0 F f b (dS m f) (dS m f).length) (out++[A0 F f b (dS m f) (dS m f).length])
theorem aFu {m:List Ed}{f g:Int}(h:g∈dS m f):f∈dS m g:=by
 unfold dS at h ⊢;rw [(AO (vB m f m.length)).2,yX] at h;rw [(AO (vB m g m.length)).2,yX];obtain⟨k,hk,hx⟩:=h;obtain⟨a1,a2⟩:=DV.1 hx;refine⟨k,hk,DV.2 ⟨a1.symm,?_⟩⟩;simp only [tA,Bool.or_eq_true,Bool.and_eq_true,decide_eq_true_eq] at a2 ⊢;omega
theorem E8 {F:List Int}{f b:Int}{nb:List Int}(hp:∀ t,t<nb.length→0≤aD nb t):∀ i,i≤nb.length→(A0 F f b nb i = -1∧∀ t,t<i→VJ F f b (aD nb t)=false)∨∃ t,t<i∧A0 F f b nb i=aD nb t∧VJ F f b (aD nb t)=true∧∀ u,u<t→VJ F f b (aD nb u)=false
 |0,_=>.inl ⟨rfl,fun t h=>absurd h (Nat.not_lt_zero t)⟩
 |i+1,hi=>by
  have h0:=hp i (by omega);rcases E8 (F:=F) (f:=f) (b:=b) hp i (by omega) with ⟨h1,h2⟩|⟨t,ht,h1,h2,h3⟩
  ·cases hk:VJ F f b (aD nb i) with
   |true =>
    refine .inr ⟨i,by omega,?_,hk,h2⟩;unfold A0;rw [if_pos ⟨by omega,hk⟩]
   |false =>
    refine .inl ⟨?_,fun t ht=>?_⟩
    ·unfold A0;rw [if_neg (by rw [hk];rintro ⟨_,h⟩;cases h)];exact h1
    by_cases e:t=i
    ·rw [e];exact hk
    exact h2 t (by omega)
  refine .inr ⟨t,by omega,?_,h2,h3⟩;have:=hp t (by omega);unfold A0;rw [if_neg (by rintro ⟨h,_⟩;omega)];exact h1
section
variable {m:List Ed}{n b:Int}{T:Nat}
theorem P9 (hT:(n+1).toNat=T)(hb:0≤b∧b<T):(fJ m n b 0).length=T∧∀ g:Nat,g<T→aD (fJ m n b 0) g=if b=g then 0 else -1:=by
 have e:fJ m n b 0=(List.replicate T (-1)).set b.toNat 0:=(by show f0 n b=_;unfold f0;rw [hT]);rw [e];refine⟨by rw [List.length_set,List.length_replicate],fun g hg=>?_⟩;rw [mZ,List.length_replicate];have:aD (List.replicate T (-1)) g = -1:=by
  unfold aD;rw [List.getD_eq_getElem?_getD,List.getElem?_replicate,if_pos hg];rfl
 rw [this];by_cases h:b.toNat=g
 ·rw [if_pos ⟨h,by omega⟩,if_pos (by omega)]
 rw [if_neg (fun h'=>h h'.1),if_neg (by omega)]
open Classical in
theorem J5 (hT:(n+1).toNat=T)(hTn:(T:Int)=n+1)(hE:HJ m n){z:Nat}(hl:(fJ m n b z).length=T):(fJ m n b (z+1)).length=T∧∀ g:Nat,g<T→aD (fJ m n b (z+1)) g=if aD (fJ m n b z) g<0∧HW m b (fun f=>0≤f∧f<T∧aD (fJ m n b z) f.toNat=z) g then (z:Int)+1 else aD (fJ m n b z) g:=by
 have e:fJ m n b (z+1)=mL m b z (fJ m n b z) T:=(by show mL m b z (fJ m n b z) (n+1).toNat=_;rw [hT]);rw [e];exact A5 hTn hE (by omega) hl T (Nat.le_refl _)
theorem G9 (hT:(n+1).toNat=T)(hTn:(T:Int)=n+1)(hE:HJ m n)(hb:0≤b∧b<T):∀ z,(fJ m n b z).length=T
 |0=>(P9 hT hb).1
 |z+1=>(J5 hT hTn hE (G9 hT hTn hE hb z)).1
theorem J1 (hT:(n+1).toNat=T)(hTn:(T:Int)=n+1)(hE:HJ m n)(hb:0≤b∧b<T){g:Nat}(hg:g<T):∀ z:Nat,-1≤aD (fJ m n b z) g∧aD (fJ m n b z) g≤z
 |0=>by
  rw [(P9 hT hb).2 g hg];split <;> omega
 |z+1=>by
  have ih:=J1 hT hTn hE hb hg z;rw [(J5 hT hTn hE (G9 hT hTn hE hb z)).2 g hg];split <;> omega
theorem uF (hT:(n+1).toNat=T)(hTn:(T:Int)=n+1)(hE:HJ m n)(hb:0≤b∧b<T){g:Nat}(hg:g<T)(z:Nat):∀ d:Nat,aD (fJ m n b (z+d)) g=aD (fJ m n b z) g∨(aD (fJ m n b z) g<0∧(z:Int)<aD (fJ m n b (z+d)) g)
 |0=>.inl rfl
 |d+1=>by
  have ih:=uF hT hTn hE hb hg z d;have hs:=(J5 hT hTn hE (G9 hT hTn hE hb (z+d))).2 g hg;have e:fJ m n b (z+(d+1))=fJ m n b (z+d+1):=rfl;rw [e,hs];split
  ·rename_i h;rcases ih with h1|⟨h1,h2⟩
   ·exact .inr ⟨by omega,by omega⟩
   omega
  exact ih
theorem aBh (hT:(n+1).toNat=T)(hTn:(T:Int)=n+1)(hE:HJ m n)(hb:0≤b∧b<T){g:Nat}(hg:g<T)(z:Nat):aD (fJ m n b z) g=0↔b=g:=by
 have h0:=(P9 (m:=m) hT hb).2 g hg;have hu:=uF hT hTn hE hb hg 0 z;rw [Nat.zero_add] at hu;split at h0
 ·rename_i h;constructor
  ·intro _;exact h
  intro _;omega
 rename_i h;constructor
 ·intro _;omega
 intro e;exact absurd e h
theorem VF (hT:(n+1).toNat=T)(hTn:(T:Int)=n+1)(hE:HJ m n)(hb:0≤b∧b<T){g:Nat}(hg:g<T):∀ z:Nat,0<aD (fJ m n b z) g→∃ f:Int,0≤f∧f<T∧¬ (f=0∧f≠b)∧(g:Int)∈dS m f∧aD (fJ m n b z) f.toNat=aD (fJ m n b z) g - 1
 |0,h=>by
  rw [(P9 hT hb).2 g hg] at h;split at h <;> omega
 |z+1,h=>by
  have hs:=(J5 hT hTn hE (G9 hT hTn hE hb z)).2 g hg;have hkeep:∀ f:Int,0≤f→f<T→0≤aD (fJ m n b z) f.toNat→aD (fJ m n b (z+1)) f.toNat=aD (fJ m n b z) f.toNat:=fun f h1 h2 h3=>by
   rcases uF hT hTn hE hb (g:=f.toNat) (by omega) z 1 with h4|⟨h4,_⟩
   ·exact h4
   omega
  by_cases hc:aD (fJ m n b z) g<0∧HW m b (fun f=>0≤f∧f<T∧aD (fJ m n b z) f.toNat=z) g
  ·rw [if_pos hc] at hs;obtain⟨f,⟨h1,h2,h3⟩,h4,h5⟩:=hc.2;exact⟨f,h1,h2,h4,h5,by rw [hkeep f h1 h2 (by omega),hs];omega⟩
  rw [if_neg hc] at hs;obtain⟨f,h1,h2,h3,h4,h5⟩:=VF hT hTn hE hb hg z (by omega);exact⟨f,h1,h2,h3,h4,by rw [hkeep f h1 h2 (by omega),hs];omega⟩
end
section
variable {l:List Pt}{m:List Ed}{n b:Int}
theorem oT (ho:c9 l m n=true)(hb:0≤b∧b≤n):(((n+1).toNat:Nat):Int)=n+1∧HJ m n∧0≤b∧b<(((n+1).toNat:Nat):Int):=by
 have:=C4 ho;exact⟨by omega,fun i hi=>qR ho hi,by omega,by omega⟩
theorem aEn (ho:c9 l m n=true)(hb:0≤b∧b≤n)(z:Nat):(fJ m n b z).length=(n+1).toNat:=by
 obtain⟨h1,h2,h3⟩:=oT ho hb;exact G9 rfl h1 h2 h3 z
theorem aGL (ho:c9 l m n=true)(hb:0≤b∧b≤n)(z:Nat){i:Nat}(hi:i<(n+1).toNat) : -1≤aD (fJ m n b z) i∧aD (fJ m n b z) i≤z:=by
 obtain⟨h1,h2,h3⟩:=oT ho hb;exact J1 rfl h1 h2 h3 hi z
theorem aDf (ho:c9 l m n=true){z:Int}(hz:0≤z){S:List Int}(hS:S.length=(n+1).toNat){i:Nat}(hi:i≤(n+1).toNat):(mL m b z S i).length=(n+1).toNat:=by
 have:=C4 ho;exact (A5 (b:=b) (T:=(n+1).toNat) (by omega) (fun i hi=>qR ho hi) hz hS i hi).1
theorem aBs (ho:c9 l m n=true){z f:Int}(hz:0≤z){S:List Int}(hS:S.length=(n+1).toNat){i:Nat}(hi:i≤(dS m f).length):(uR (dS m f) z S i).length=(n+1).toNat:=by
 have:=C4 ho;have hE:HJ m n:=fun i hi=>qR ho hi;exact (B6 (T:=(n+1).toNat) (dS m f) z hz S hS (fun k hk=>by have:=gU hE hk;omega) i hi).1
theorem aBm (ho:c9 l m n=true)(hb:0≤b∧b≤n){f:Int}(hf:0≤f∧f≤n)(hne:f≠b)(h0:0≤aD (fF m n b) f.toNat):(0≤A0 (fF m n b) f b (dS m f) (dS m f).length∧A0 (fF m n b) f b (dS m f) (dS m f).length≤n)∧aD (fF m n b) (A0 (fF m n b) f b (dS m f) (dS m f).length).toNat=aD (fF m n b) f.toNat - 1∧0<aD (fF m n b) f.toNat∧0<(dS m f).length:=by
 obtain⟨h1,hE,h3⟩:=oT ho hb;unfold fF at h0 ⊢;have hz:=aBh rfl h1 hE h3 (g:=f.toNat) (by omega) (n+1).toNat;have hpos:0<aD (fJ m n b (n+1).toNat) f.toNat:=by
  by_cases h:aD (fJ m n b (n+1).toNat) f.toNat=0
  ·have:=hz.1 h;omega
  omega
 obtain⟨g,g1,g2,g3,g4,g5⟩:=VF rfl h1 hE h3 (g:=f.toNat) (by omega) (n+1).toNat hpos;rw [Int.toNat_of_nonneg hf.1] at g4;obtain⟨t,ht,et⟩:=NH (aFu g4);have hk:VJ (fJ m n b (n+1).toNat) f b (aD (dS m f) t)=true:=by
  rw [et];simp only [VJ,Bool.and_eq_true,Bool.or_eq_true,decide_eq_true_eq];exact⟨g5,by omega⟩
 rcases E8 (F:=fJ m n b (n+1).toNat) (f:=f) (b:=b) (fun t ht=>(gU hE ht).1) (dS m f).length (Nat.le_refl _) with ⟨_,e⟩|⟨u,hu,e1,e2,_⟩
 ·rw [e t ht] at hk;cases hk
 rw [e1];simp only [VJ,Bool.and_eq_true,decide_eq_true_eq] at e2;exact⟨gU hE hu,e2.1,hpos,by omega⟩
end
end Go.Aw
end
