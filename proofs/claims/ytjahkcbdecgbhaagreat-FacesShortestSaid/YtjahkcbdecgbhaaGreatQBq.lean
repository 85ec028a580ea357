/-
  Parts of a proof. No condition.
-/
import Derived.Test.YtjahkcbdecgbhaaGreatQBm
import Derived.Test.YtjahkcbdecgbhaaGreatQBn
import Derived.Test.YtjahkcbdecgbhaaGreatQBo
import Derived.Test.YtjahkcbdecgbhaaGreatQBp
set_option linter.unusedSimpArgs false
set_option linter.unusedVariables false
noncomputable section
namespace Go.Aw
set_option maxRecDepth 100000
set_option maxHeartbeats 2000000
def aK1 (h:Heap)(k:Nat)(n:Int):Prop:=∃ wr g sz q1 N1 e1 q2 N2 e2,look h k=some (.cells wr g sz [.slice (some ⟨q1,0,none⟩) N1 e1,.slice (some ⟨q2,0,none⟩) N2 e2,iv n])
def aAB:Nat × XF:=(123,fun args h nx K=>∃ p k1 k2 k3 a b m n,args=[pV p,pV k1,pV k2,pV k3]∧WE h p m n∧aF7 h k1 a∧aF7 h k2 b∧aK1 h k3 n∧m.length≤1000∧0≤n∧n≤100∧C1 m n∧MI aL (KF m n a b) (some (LC m n a b)) h nx K)
def sg5 (k1 k2 k3 q1 q2 k:Nat):Nat:=if k=7 then k1 else if k=8 then k2 else if k=9 then k3 else if k=10 then q1 else q2
theorem aHZ:dM Go.Proofs.Tryz.prog aAB.1 aAB.2:=by
 have h0:dM Go.Proofs.Tryz.prog 123 (yOf aL aI9):=JY aL (aO (xl:=[aD7,TC]) (.cons aKU (.cons aIL .nil))) fun _ _ _ _ _=>aJV;refine h0.mono ?_ ?_
 ·rintro args h nx K ⟨p,k1,k2,k3,a,b,m,n,rfl,hw,⟨w1,g1,s1,h1⟩,⟨w2,g2,s2,h2⟩,⟨w3,g3,s3,q1,N1,e1,q2,N2,e2,h3⟩,hm,hn0,hn,hE,hk⟩
  obtain⟨nP,nD,nL,c1,c2,fo,hin⟩:=aER (nx:=nx) hw (R:=cH a b N1 N2 e1 e2 n) (sg5 k1 k2 k3 q1 q2) (as0:=[pV 7,pV 8,pV 9]) (as1:=[pV k1,pV k2,pV k3])
   (fun ρ e=>by
    show _=[Value.pointer (some ⟨ρ 7,0+0,none⟩),.pointer (some ⟨ρ 8,0+0,none⟩),.pointer (some ⟨ρ 9,0+0,none⟩)];rw [e 7 (by decide),e 8 (by decide),e 9 (by decide)];rfl) (List.forall_mem_cons.2 ⟨jC rfl,List.forall_mem_cons.2 ⟨jC rfl,List.forall_mem_cons.2 ⟨jC rfl,fun _ h=>by cases h⟩⟩⟩) (fun ρ e k o hk=>by
    unfold cH at hk;rw [aC] at hk;split at hk
    ·rename_i hq;injection hk with hk;subst hk;rw [← beq_true hq]
     exact⟨by decide,true,1,_,rfl,by decide,fun _=>rfl,kV rfl,w1,g1,s1,_,by rw [e 7 (by decide)];exact h1,rfl⟩
    rw [aC] at hk;split at hk
    ·rename_i hq;injection hk with hk;subst hk;rw [← beq_true hq]
     exact⟨by decide,true,1,_,rfl,by decide,fun _=>rfl,kV rfl,w2,g2,s2,_,by rw [e 8 (by decide)];exact h2,rfl⟩
    rw [aC] at hk;split at hk
    ·rename_i hq;injection hk with hk;subst hk;rw [← beq_true hq]
     refine⟨by decide,false,1,_,rfl,by decide,(fun h=>by cases h),kV rfl,w3,g3,s3,_,by rw [e 9 (by decide)];exact h3,?_⟩;show _=[Value.slice (some ⟨ρ 10,0+0,none⟩) N1 (e1+0),.slice (some ⟨ρ 11,0+0,none⟩) N2 (e2+0),iv n];rw [e 10 (by decide),e 11 (by decide)];rfl
    ·exact bY hk)
  exact CZ aL ⟨a,b,N1,N2,e1,e2,nP,m,nD,nL,c1,c2,n,fo,rfl,rfl,rfl,rfl,rfl,hm,hn0,hn,hE⟩ hin hk
 ·rintro args h nx K ⟨p,k1,k2,k3,a,b,m,n,rfl,hw,h1,h2,h3,hm,hn0,hn,hE,hk⟩;obtain⟨v,h',nx',a1,a2⟩:=GC hk;exact⟨v,h',nx',a1,fun K' hk'=>⟨p,k1,k2,k3,a,b,m,n,rfl,hw,h1,h2,h3,hm,hn0,hn,hE,a2 K' hk'⟩⟩
def wyP (l:List Pt)(m:List Ed)(n:Int):List Value→Option (Bool × List Int × Option Int)
 |[.int .i64 a,.int .i64 b]=>some (decide (l.length≤1000)&&decide (m.length≤1000),if cN l m n=true then KF m n a b else [],some (if cN l m n=true then LC m n a b else 1))
 |_=>none
theorem aDb {l:List Pt}{m:List Ed}{n:Int}{r:List Value}{out:List Int}{e:Option Int}(hs:wyP l m n r=some (true,out,e)):∃ a b,r=[iv a,iv b]∧(l.length≤1000∧m.length≤1000)∧out=(if cN l m n=true then KF m n a b else [])∧e=some (if cN l m n=true then LC m n a b else 1):=by
 unfold wyP at hs;split at hs
 ·injection hs with hs;injection hs with h1 h2;injection h2 with h2 h3;simp only [Bool.and_eq_true,decide_eq_true_eq] at h1;exact⟨_,_,rfl,h1,h2.symm,h3.symm⟩
 ·cases hs
theorem aAd {m:List Ed}{n a b:Int}(h:LC m n a b≠0):KF m n a b=[]:=by
 unfold LC at h;unfold KF;split
 ·rename_i h1;rw [if_pos h1] at h;cases ho:SH m n a b with
  |none=>rfl
  |some x=>rw [ho] at h;exact absurd rfl h
 ·rfl
def aHs:Nat × XF:=(43,mRX wyP)
theorem aKQ:dM Go.Proofs.Tryz.prog aHs.1 aHs.2:=ZD (iU (xO (xl:=[aEo,aAB]) (.cons aHL (.cons aHZ .nil)) 4) 6).1 fun l m n r out e hs=>by
 obtain⟨a,b,rfl,hlm,rfl,rfl⟩:=aDb hs;clear hs;refine⟨rfl,fun c1 c2=>?_⟩;(conv=>whnf);refine⟨l,m,n,.slice (some ⟨0,0,none⟩) l.length c1,.slice (some ⟨1,0,none⟩) m.length c2,rfl,aM aZ rfl,aM aY rfl,hlm,?_⟩;cases ho:cN l m n with
 |false =>
  refine .inr ⟨rfl,?_⟩;(conv=>whnf);rfl
 |true =>
  refine .inl ⟨rfl,?_⟩;have hn:=UN ho;have hE:C1 m n:=fun i hi=>sH ho hi;have hve:=aAd (m:=m) (n:=n) (a:=a) (b:=b);rw [if_pos rfl,if_pos rfl];obtain⟨O,hO⟩:∃ O,KF m n a b=O:=⟨_,rfl⟩;obtain⟨E,hEE⟩:∃ E,LC m n a b=E:=⟨_,rfl⟩;rw [hO,hEE] at hve ⊢;(conv=>whnf);refine⟨_,_,_,_,a,b,m,n,rfl,⟨_,_,_,_,_,_,_,_,_,_,_,_,_,_,_,_,_,_,rfl,rfl,List.take_length⟩,⟨_,_,_,rfl⟩,⟨_,_,_,rfl⟩,⟨_,_,_,_,_,_,_,_,_,rfl⟩,hlm.2,by omega,hn.2,hE,?_⟩;rw [hO,hEE];cases O with
  |nil =>
   ((conv=>whnf);refine bm (fun g1=>?_) (fun g1=>?_))
   ·(conv=>whnf);rfl
   ·have g1:E=0:=(by simpa [X3,aA,aF] using g1);rw [g1];(conv=>whnf);rfl
  |cons x t =>
   have hz:E=0:=by
    by_cases h:E=0
    ·exact h
    ·cases hve h
   subst hz;(conv=>whnf);exact mL aL (l:=x::t) (e:=some 0) (nx:=0) (Nat.succ_pos _) rfl
end Go.Aw
end

noncomputable section
namespace Go.Aw
set_option maxRecDepth 100000
def OI (nb:List Int)(z:Int)(S:List Int):Nat→List Int
 |0=>S
 |k+1=>if aB (OI nb z S k) (aB nb k).toNat<0 then (OI nb z S k).set (aB nb k).toNat (z+1) else OI nb z S k
def aDl (b z:Int)(S:List Int)(f:Int):Bool:=decide (aB S f.toNat≠z) || (decide (f=0)&&decide (f≠b))
def zE (m:List Ed)(b z:Int)(S:List Int):Nat→List Int
 |0=>S
 |i+1=>if aDl b z (zE m b z S i) i=true then zE m b z S i else OI (c7 m i) z (zE m b z S i) (c7 m i).length
def f0 (n b:Int):List Int:=(List.replicate (n+1).toNat (-1)).set b.toNat 0
def gD (m:List Ed)(n b:Int):Nat→List Int
 |0=>f0 n b
 |z+1=>zE m b z (gD m n b z) (n+1).toNat
def fF (m:List Ed)(n b:Int):List Int:=gD m n b (n+1).toNat
def GR (m:List Ed)(b:Int)(A:Int→Prop)(g:Int):Prop:=∃ f,A f∧¬ (f=0∧f≠b)∧g∈c7 m f
section
variable {m:List Ed}{n b:Int}{T:Nat}
theorem IC (nb:List Int)(z:Int)(hz:0≤z)(S:List Int)(hS:S.length=T)(hb:∀ k,k<nb.length→0≤aB nb k∧aB nb k<T):∀ k,k≤nb.length→(OI nb z S k).length=T∧∀ g:Nat,g<T→aB (OI nb z S k) g=if aB S g<0∧(∃ t,t<k∧aB nb t=g) then z+1 else aB S g
 |0,_=>⟨hS,fun g hg=>by rw [if_neg (by rintro ⟨_,t,h,_⟩;omega)];rfl⟩
 |k+1,hk=>by
  obtain⟨h1,h2⟩:=IC nb z hz S hS hb k (by omega);have hg:=hb k (by omega);have h3:=h2 (aB nb k).toNat (by omega);have hcase:∀ g:Nat,(∃ t,t<k+1∧aB nb t=g)↔((∃ t,t<k∧aB nb t=g)∨(aB nb k).toNat=g):=fun g=>by
   constructor
   ·rintro ⟨t,ht,e⟩;by_cases hc:t=k
    ·subst hc;exact .inr (by omega)
    ·exact .inl ⟨t,by omega,e⟩
   ·rintro (⟨t,ht,e⟩|e)
    ·exact⟨t,by omega,e⟩
    ·exact⟨k,by omega,by omega⟩
  unfold OI;by_cases hl:aB (OI nb z S k) (aB nb k).toNat<0
  ·rw [if_pos hl];refine⟨by rw [List.length_set];exact h1,fun g hgT=>?_⟩;rw [lS,h2 g hgT];by_cases he:(aB nb k).toNat=g
   ·subst he;rw [if_pos ⟨rfl,by omega⟩];have:aB S (aB nb k).toNat<0:=by
     rw [h3] at hl;split at hl
     ·rename_i hh;exact hh.1
     ·exact hl
    rw [if_pos ⟨this,(hcase _).2 (.inr rfl)⟩]
   ·rw [if_neg (fun h=>he h.1)];by_cases hc:aB S g<0∧∃ t,t<k∧aB nb t=g
    ·rw [if_pos hc,if_pos ⟨hc.1,(hcase g).2 (.inl hc.2)⟩]
    ·rw [if_neg hc,if_neg (fun h=>hc ⟨h.1,((hcase g).1 h.2).resolve_right he⟩)]
  ·rw [if_neg hl];refine⟨h1,fun g hgT=>?_⟩;rw [h2 g hgT];by_cases hc:aB S g<0∧∃ t,t<k∧aB nb t=g
   ·rw [if_pos hc,if_pos ⟨hc.1,(hcase g).2 (.inl hc.2)⟩]
   ·rw [if_neg hc];by_cases he:(aB nb k).toNat=g
    ·subst he;rw [h3,if_neg hc] at hl;rw [if_neg (fun h=>hl h.1)]
    ·rw [if_neg (fun h=>hc ⟨h.1,((hcase g).1 h.2).resolve_right he⟩)]
theorem vL {L:List Int}{x:Int}:(∃ t,t<L.length∧aB L t=x)↔x∈L:=⟨fun ⟨t,ht,e⟩=>e▸tJ ht,uC⟩
open Classical in
theorem I5 (hTn:(T:Int)=n+1)(hE:C1 m n){z:Int}(hz:0≤z){S:List Int}(hS:S.length=T):∀ i,i≤T→(zE m b z S i).length=T∧∀ g:Nat,g<T→aB (zE m b z S i) g=if aB S g<0∧GR m b (fun f=>0≤f∧f<i∧aB S f.toNat=z) g then z+1 else aB S g
 |0,_=>⟨hS,fun g hg=>by rw [if_neg (by rintro ⟨_,f,h,_⟩;omega)];rfl⟩
 |i+1,hi=>by
  obtain⟨h1,h2⟩:=I5 hTn hE hz hS i (by omega);have hi2:=h2 i (by omega);have hzi:aB (zE m b z S i) i=z↔aB S i=z:=by
   rw [hi2];split
   ·rename_i hh;constructor <;> intro h <;> omega
   ·exact Iff.rfl
  unfold zE;by_cases hsk:aDl b z (zE m b z S i) i=true
  ·rw [if_pos hsk];refine⟨h1,fun g hg=>?_⟩;rw [h2 g hg];have hno:¬ (aB S i=z∧¬ ((i:Int)=0∧(i:Int)≠b)):=by
    rintro ⟨e1,e2⟩;simp only [aDl,Bool.or_eq_true,Bool.and_eq_true,decide_eq_true_eq,Int.toNat_natCast] at hsk;rcases hsk with h|h
    ·exact h (hzi.2 e1)
    ·exact e2 h
   have hiff:GR m b (fun f=>0≤f∧f<((i+1:Nat):Int)∧aB S f.toNat=z) g↔GR m b (fun f=>0≤f∧f<(i:Int)∧aB S f.toNat=z) g:=by
    constructor
    ·rintro ⟨f,⟨a1,a2,a3⟩,a4,a5⟩;by_cases e:f=i
     ·subst e;rw [Int.toNat_natCast] at a3;exact absurd ⟨a3,a4⟩ hno
     ·exact⟨f,⟨a1,by omega,a3⟩,a4,a5⟩
    ·rintro ⟨f,⟨a1,a2,a3⟩,a4,a5⟩;exact⟨f,⟨a1,by omega,a3⟩,a4,a5⟩
   by_cases hc:aB S g<0∧GR m b (fun f=>0≤f∧f<(i:Int)∧aB S f.toNat=z) g
   ·rw [if_pos hc,if_pos ⟨hc.1,hiff.2 hc.2⟩]
   ·rw [if_neg hc,if_neg (fun h=>hc ⟨h.1,hiff.1 h.2⟩)]
  ·rw [if_neg hsk];have hyes:aB S i=z∧¬ ((i:Int)=0∧(i:Int)≠b):=by
    simp only [aDl,Bool.or_eq_true,Bool.and_eq_true,decide_eq_true_eq,Int.toNat_natCast,not_or] at hsk;exact⟨hzi.1 (Decidable.not_not.1 hsk.1),hsk.2⟩
   obtain⟨c1,c2⟩:=IC (T:=T) (c7 m i) z hz (zE m b z S i) h1 (fun k hk=>by have:=fR hE hk;omega) _ (Nat.le_refl _);refine⟨c1,fun g hg=>?_⟩;rw [c2 g hg];have hme:=vL (L:=c7 m i) (x:=g);have hiff:GR m b (fun f=>0≤f∧f<((i+1:Nat):Int)∧aB S f.toNat=z) g↔(GR m b (fun f=>0≤f∧f<(i:Int)∧aB S f.toNat=z) g∨(g:Int)∈c7 m i):=by
    constructor
    ·rintro ⟨f,⟨a1,a2,a3⟩,a4,a5⟩;by_cases e:f=i
     ·subst e;exact .inr a5
     ·exact .inl ⟨f,⟨a1,by omega,a3⟩,a4,a5⟩
    ·rintro (⟨f,⟨a1,a2,a3⟩,a4,a5⟩|h)
     ·exact⟨f,⟨a1,by omega,a3⟩,a4,a5⟩
     ·exact⟨i,⟨by omega,by omega,by rw [Int.toNat_natCast];exact hyes.1⟩,hyes.2,h⟩
   have h2g:=h2 g hg;generalize aB (zE m b z S i) g=V at *;by_cases hS0:aB S g<0
   ·by_cases hr:GR m b (fun f=>0≤f∧f<(i:Int)∧aB S f.toNat=z) g
    ·rw [if_pos ⟨hS0,hr⟩] at h2g;rw [if_neg (fun h=>by omega),if_pos ⟨hS0,hiff.2 (.inl hr)⟩];exact h2g
    ·rw [if_neg (fun h=>hr h.2)] at h2g;by_cases hm:(g:Int)∈c7 m i
     ·rw [if_pos ⟨by omega,hme.2 hm⟩,if_pos ⟨hS0,hiff.2 (.inr hm)⟩]
     ·rw [if_neg (fun h=>hm (hme.1 h.2)),if_neg (fun h=>(hiff.1 h.2).elim hr hm)];exact h2g
   ·rw [if_neg (fun h=>hS0 h.1)] at h2g;rw [if_neg (fun h=>hS0 (by omega)),if_neg (fun h=>hS0 h.1)];exact h2g
theorem IA (nb:List Int)(f:Int)(v:Int)(hv:0<v)(s:B7)(hS:s.1.length=T)(hf:0≤f∧f<T)(hfv:aB s.1 f.toNat=v)(hb:∀ k,k<nb.length→0≤aB nb k∧aB nb k<T):∀ k,k≤nb.length→(dQ nb f s k).1.length=T∧(∀ g:Nat,g<T→aB (dQ nb f s k).1 g=if aB s.1 g=0∧(∃ t,t<k∧aB nb t=g) then v+1 else aB s.1 g)∧∀ x:Int,x∈(dQ nb f s k).2↔(x∈s.2∨(0≤x∧x<T∧aB s.1 x.toNat=0∧∃ t,t<k∧aB nb t=x))
 |0,_=>⟨hS,fun g hg=>by rw [if_neg (by rintro ⟨_,t,h,_⟩;omega)];rfl,fun x=>⟨.inl,fun h=>h.elim id (by rintro ⟨_,_,_,t,h,_⟩;omega)⟩⟩
 |k+1,hk=>by
  obtain⟨h1,h2,hx⟩:=IA nb f v hv s hS hf hfv hb k (by omega);have hg:=hb k (by omega);have h3:=h2 (aB nb k).toNat (by omega);have h4:=h2 f.toNat (by omega);rw [hfv,if_neg (fun h=>by omega)] at h4;have hcase:∀ g:Int,(∃ t,t<k+1∧aB nb t=g)↔((∃ t,t<k∧aB nb t=g)∨aB nb k=g):=fun g=>by
   constructor
   ·rintro ⟨t,ht,e⟩;by_cases hc:t=k
    ·subst hc;exact .inr e
    ·exact .inl ⟨t,by omega,e⟩
   ·rintro (⟨t,ht,e⟩|e)
    ·exact⟨t,by omega,e⟩
    ·exact⟨k,by omega,e⟩
  unfold dQ;by_cases hl:aB (dQ nb f s k).1 (aB nb k).toNat=0
  ·rw [if_pos hl];have hs0:aB s.1 (aB nb k).toNat=0:=by
    rw [h3] at hl;split at hl
    ·omega
    ·exact hl
   refine⟨by simp only [List.length_set];exact h1,fun g hgT=>?_,fun x=>?_⟩
   ·simp only;rw [lS,h2 g hgT,h4];by_cases he:(aB nb k).toNat=g
    ·subst he;rw [if_pos ⟨rfl,by omega⟩,if_pos ⟨hs0,(hcase _).2 (.inr (by omega))⟩]
    ·rw [if_neg (fun h=>he h.1)];by_cases hc:aB s.1 g=0∧∃ t,t<k∧aB nb t=g
     ·rw [if_pos hc,if_pos ⟨hc.1,(hcase g).2 (.inl hc.2)⟩]
     ·rw [if_neg hc,if_neg (fun h=>hc ⟨h.1,((hcase g).1 h.2).resolve_right (fun e=>he (by omega))⟩)]
   ·simp only [List.mem_append,List.mem_cons,List.not_mem_nil,or_false];rw [hx,hcase];constructor
    ·rintro ((h|⟨a1,a2,a3,a4⟩)|h)
     ·exact .inl h
     ·exact .inr ⟨a1,a2,a3,.inl a4⟩
     ·subst h;exact .inr ⟨hg.1,hg.2,hs0,.inr rfl⟩
    ·rintro (h|⟨a1,a2,a3,a4|a4⟩)
     ·exact .inl (.inl h)
     ·exact .inl (.inr ⟨a1,a2,a3,a4⟩)
     ·exact .inr a4.symm
  ·rw [if_neg hl];have hor:∀ g:Int,0≤g→g<T→aB s.1 g.toNat=0→((∃ t,t<k+1∧aB nb t=g)↔∃ t,t<k∧aB nb t=g):=fun g hg0 hgT hs0=>by
    rw [hcase];refine⟨fun h=>h.elim id fun e=>?_,.inl⟩;subst e;apply Classical.byContradiction;intro hn;rw [h3,if_neg (fun h=>hn (by obtain⟨t,ht,e⟩:=h.2;exact⟨t,ht,by omega⟩))] at hl;exact hl hs0
   refine⟨h1,fun g hgT=>?_,fun x=>?_⟩
   ·rw [h2 g hgT];by_cases hs0:aB s.1 g=0
    ·have:=hor g (by omega) (by omega) (by rw [Int.toNat_natCast];exact hs0);by_cases hc:∃ t,t<k∧aB nb t=g
     ·rw [if_pos ⟨hs0,hc⟩,if_pos ⟨hs0,this.2 hc⟩]
     ·rw [if_neg (fun h=>hc h.2),if_neg (fun h=>hc (this.1 h.2))]
    ·rw [if_neg (fun h=>hs0 h.1),if_neg (fun h=>hs0 h.1)]
   ·rw [hx];constructor
    ·rintro (h|⟨a1,a2,a3,a4⟩)
     ·exact .inl h
     ·exact .inr ⟨a1,a2,a3,(hor x a1 a2 a3).2 a4⟩
    ·rintro (h|⟨a1,a2,a3,a4⟩)
     ·exact .inl h
     ·exact .inr ⟨a1,a2,a3,(hor x a1 a2 a3).1 a4⟩
end
def fOk (F:List Int)(f b g:Int):Bool:=decide (aB F g.toNat=aB F f.toNat - 1)&&(decide (g≠0) || decide (g=b))
def CB (F:List Int)(f b:Int)(nb:List Int):Nat→Int
 |0=>-1
 |i+1=>if CB F f b nb i<0∧fOk F f b (aB nb i)=true then aB nb i else CB F f b nb i
def CC (m:List Ed)(F:List Int)(b:Int):Nat→Int→List Int→List Int
 |0,_,out=>out
 |k+1,f,out=>if f=b then out else CC m F b k (CB F f b (c7 m f) (c7 m f).length) (out++[CB F f b (c7 m f) (c7 m f).length])
theorem VB {m:List Ed}{f g:Int}(h:g∈c7 m f):f∈c7 m g:=by
 unfold c7 at h ⊢;rw [(F5 (wD m f m.length)).2,CK] at h;rw [(F5 (wD m g m.length)).2,CK];obtain⟨k,hk,hx⟩:=h;obtain⟨a1,a2⟩:=VP.1 hx;refine⟨k,hk,VP.2 ⟨a1.symm,?_⟩⟩;simp only [shP,Bool.or_eq_true,Bool.and_eq_true,decide_eq_true_eq] at a2 ⊢;omega
theorem x9 {F:List Int}{f b:Int}{nb:List Int}(hp:∀ t,t<nb.length→0≤aB nb t):∀ i,i≤nb.length→(CB F f b nb i = -1∧∀ t,t<i→fOk F f b (aB nb t)=false)∨∃ t,t<i∧CB F f b nb i=aB nb t∧fOk F f b (aB nb t)=true∧∀ u,u<t→fOk F f b (aB nb u)=false
 |0,_=>.inl ⟨rfl,fun t h=>absurd h (Nat.not_lt_zero t)⟩
 |i+1,hi=>by
  have h0:=hp i (by omega);rcases x9 (F:=F) (f:=f) (b:=b) hp i (by omega) with ⟨h1,h2⟩|⟨t,ht,h1,h2,h3⟩
  ·cases hk:fOk F f b (aB nb i) with
   |true =>
    refine .inr ⟨i,by omega,?_,hk,h2⟩;unfold CB;rw [if_pos ⟨by omega,hk⟩]
   |false =>
    refine .inl ⟨?_,fun t ht=>?_⟩
    ·unfold CB;rw [if_neg (by rw [hk];rintro ⟨_,h⟩;cases h)];exact h1
    ·by_cases e:t=i
     ·rw [e];exact hk
     ·exact h2 t (by omega)
  ·refine .inr ⟨t,by omega,?_,h2,h3⟩;have:=hp t (by omega);unfold CB;rw [if_neg (by rintro ⟨h,_⟩;omega)];exact h1
section
variable {m:List Ed}{n b:Int}{T:Nat}
theorem NO (hT:(n+1).toNat=T)(hb:0≤b∧b<T):(gD m n b 0).length=T∧∀ g:Nat,g<T→aB (gD m n b 0) g=if b=g then 0 else -1:=by
 have e:gD m n b 0=(List.replicate T (-1)).set b.toNat 0:=(by show f0 n b=_;unfold f0;rw [hT]);rw [e];refine⟨by rw [List.length_set,List.length_replicate],fun g hg=>?_⟩;rw [lS,List.length_replicate];have:aB (List.replicate T (-1)) g = -1:=by
  unfold aB;rw [List.getD_eq_getElem?_getD,List.getElem?_replicate,if_pos hg];rfl
 rw [this];by_cases h:b.toNat=g
 ·rw [if_pos ⟨h,by omega⟩,if_pos (by omega)]
 ·rw [if_neg (fun h'=>h h'.1),if_neg (by omega)]
open Classical in
theorem GK (hT:(n+1).toNat=T)(hTn:(T:Int)=n+1)(hE:C1 m n){z:Nat}(hl:(gD m n b z).length=T):(gD m n b (z+1)).length=T∧∀ g:Nat,g<T→aB (gD m n b (z+1)) g=if aB (gD m n b z) g<0∧GR m b (fun f=>0≤f∧f<T∧aB (gD m n b z) f.toNat=z) g then (z:Int)+1 else aB (gD m n b z) g:=by
 have e:gD m n b (z+1)=zE m b z (gD m n b z) T:=(by show zE m b z (gD m n b z) (n+1).toNat=_;rw [hT]);rw [e];exact I5 hTn hE (by omega) hl T (Nat.le_refl _)
theorem EN (hT:(n+1).toNat=T)(hTn:(T:Int)=n+1)(hE:C1 m n)(hb:0≤b∧b<T):∀ z,(gD m n b z).length=T
 |0=>(NO hT hb).1
 |z+1=>(GK hT hTn hE (EN hT hTn hE hb z)).1
theorem H6 (hT:(n+1).toNat=T)(hTn:(T:Int)=n+1)(hE:C1 m n)(hb:0≤b∧b<T){g:Nat}(hg:g<T):∀ z:Nat,-1≤aB (gD m n b z) g∧aB (gD m n b z) g≤z
 |0=>by
  rw [(NO hT hb).2 g hg];split <;> omega
 |z+1=>by
  have ih:=H6 hT hTn hE hb hg z;rw [(GK hT hTn hE (EN hT hTn hE hb z)).2 g hg];split <;> omega
theorem oD (hT:(n+1).toNat=T)(hTn:(T:Int)=n+1)(hE:C1 m n)(hb:0≤b∧b<T){g:Nat}(hg:g<T)(z:Nat):∀ d:Nat,aB (gD m n b (z+d)) g=aB (gD m n b z) g∨(aB (gD m n b z) g<0∧(z:Int)<aB (gD m n b (z+d)) g)
 |0=>.inl rfl
 |d+1=>by
  have ih:=oD hT hTn hE hb hg z d;have hs:=(GK hT hTn hE (EN hT hTn hE hb (z+d))).2 g hg;have e:gD m n b (z+(d+1))=gD m n b (z+d+1):=rfl;rw [e,hs];split
  ·rename_i h;rcases ih with h1|⟨h1,h2⟩
   ·exact .inr ⟨by omega,by omega⟩
   ·omega
  ·exact ih
theorem EP (hT:(n+1).toNat=T)(hTn:(T:Int)=n+1)(hE:C1 m n)(hb:0≤b∧b<T){g:Nat}(hg:g<T)(z:Nat):aB (gD m n b z) g=0↔b=g:=by
 have h0:=(NO (m:=m) hT hb).2 g hg;have hu:=oD hT hTn hE hb hg 0 z;rw [Nat.zero_add] at hu;split at h0
 ·rename_i h;constructor
  ·intro _;exact h
  ·intro _;omega
 ·rename_i h;constructor
  ·intro _;omega
  ·intro e;exact absurd e h
theorem VH (hT:(n+1).toNat=T)(hTn:(T:Int)=n+1)(hE:C1 m n)(hb:0≤b∧b<T){g:Nat}(hg:g<T):∀ z:Nat,0<aB (gD m n b z) g→∃ f:Int,0≤f∧f<T∧¬ (f=0∧f≠b)∧(g:Int)∈c7 m f∧aB (gD m n b z) f.toNat=aB (gD m n b z) g - 1
 |0,h=>by
  rw [(NO hT hb).2 g hg] at h;split at h <;> omega
 |z+1,h=>by
  have hs:=(GK hT hTn hE (EN hT hTn hE hb z)).2 g hg;have hkeep:∀ f:Int,0≤f→f<T→0≤aB (gD m n b z) f.toNat→aB (gD m n b (z+1)) f.toNat=aB (gD m n b z) f.toNat:=fun f h1 h2 h3=>by
   rcases oD hT hTn hE hb (g:=f.toNat) (by omega) z 1 with h4|⟨h4,_⟩
   ·exact h4
   ·omega
  by_cases hc:aB (gD m n b z) g<0∧GR m b (fun f=>0≤f∧f<T∧aB (gD m n b z) f.toNat=z) g
  ·rw [if_pos hc] at hs;obtain⟨f,⟨h1,h2,h3⟩,h4,h5⟩:=hc.2;exact⟨f,h1,h2,h4,h5,by rw [hkeep f h1 h2 (by omega),hs];omega⟩
  ·rw [if_neg hc] at hs;obtain⟨f,h1,h2,h3,h4,h5⟩:=VH hT hTn hE hb hg z (by omega);exact⟨f,h1,h2,h3,h4,by rw [hkeep f h1 h2 (by omega),hs];omega⟩
end
section
variable {l:List Pt}{m:List Ed}{n b:Int}
theorem oT (ho:cN l m n=true)(hb:0≤b∧b≤n):(((n+1).toNat:Nat):Int)=n+1∧C1 m n∧0≤b∧b<(((n+1).toNat:Nat):Int):=by
 have:=UN ho;exact⟨by omega,fun i hi=>sH ho hi,by omega,by omega⟩
theorem SS (ho:cN l m n=true)(hb:0≤b∧b≤n){f:Int}(hf:0≤f∧f≤n)(hne:f≠b)(h0:0≤aB (fF m n b) f.toNat):(0≤CB (fF m n b) f b (c7 m f) (c7 m f).length∧CB (fF m n b) f b (c7 m f) (c7 m f).length≤n)∧aB (fF m n b) (CB (fF m n b) f b (c7 m f) (c7 m f).length).toNat=aB (fF m n b) f.toNat - 1∧0<aB (fF m n b) f.toNat∧0<(c7 m f).length:=by
 obtain⟨h1,hE,h3⟩:=oT ho hb;unfold fF at h0 ⊢;have hz:=EP rfl h1 hE h3 (g:=f.toNat) (by omega) (n+1).toNat;have hpos:0<aB (gD m n b (n+1).toNat) f.toNat:=by
  by_cases h:aB (gD m n b (n+1).toNat) f.toNat=0
  ·have:=hz.1 h;omega
  ·omega
 obtain⟨g,g1,g2,g3,g4,g5⟩:=VH rfl h1 hE h3 (g:=f.toNat) (by omega) (n+1).toNat hpos;rw [Int.toNat_of_nonneg hf.1] at g4;obtain⟨t,ht,et⟩:=uC (VB g4);have hk:fOk (gD m n b (n+1).toNat) f b (aB (c7 m f) t)=true:=by
  rw [et];simp only [fOk,Bool.and_eq_true,Bool.or_eq_true,decide_eq_true_eq];exact⟨g5,by omega⟩
 rcases x9 (F:=gD m n b (n+1).toNat) (f:=f) (b:=b) (fun t ht=>(fR hE ht).1) (c7 m f).length (Nat.le_refl _) with ⟨_,e⟩|⟨u,hu,e1,e2,_⟩
 ·rw [e t ht] at hk;cases hk
 ·rw [e1];simp only [fOk,Bool.and_eq_true,decide_eq_true_eq] at e2;exact⟨fR hE hu,e2.1,hpos,by omega⟩
end
end Go.Aw
end

noncomputable section
namespace Go.Aw
set_option maxRecDepth 100000
set_option maxHeartbeats 4000000
def rwL (m:List Ed)(n a b:Int):List Int:=if (oJ n a&&oJ n b)=true then (if aB (fF m n b) a.toNat<0 then [] else CC m (fF m n b) b ((n+1).toNat+1) a [a]) else []
def rwE (m:List Ed)(n a b:Int):Int:=if (oJ n a&&oJ n b)=true then (if aB (fF m n b) a.toNat<0 then 5 else 0) else 1
end Go.Aw
end

noncomputable section
namespace Go.Aw
set_option maxRecDepth 100000
section
variable {m:List Ed}{n b:Int}{T:Nat}
open Classical in
theorem HY (hTn:(T:Int)=n+1)(hE:C1 m n){now S:List Int}{v:Int}(hv:0<v)(hS:S.length=T)(hnow:∀ t,t<now.length→(0≤aB now t∧aB now t<T)∧aB S (aB now t).toNat=v):∀ i,i≤now.length→(eY m b now (S,[]) i).1.length=T∧(∀ g:Nat,g<T→aB (eY m b now (S,[]) i).1 g=if aB S g=0∧GR m b (fun f=>∃ t,t<i∧aB now t=f) g then v+1 else aB S g)∧∀ x:Int,x∈(eY m b now (S,[]) i).2↔(0≤x∧x<T∧aB S x.toNat=0∧GR m b (fun f=>∃ t,t<i∧aB now t=f) x)
 |0,_=>⟨hS,fun g hg=>by rw [if_neg (by rintro ⟨_,f,⟨t,h,_⟩,_⟩;omega)];rfl,fun x=>⟨fun h=>(by cases h),fun h=>(by obtain⟨_,_,_,f,⟨t,h,_⟩,_⟩:=h;omega)⟩⟩
 |i+1,hi=>by
  obtain⟨h1,h2,h3⟩:=HY hTn hE hv hS hnow i (by omega);obtain⟨hf,hfv⟩:=hnow i (by omega);have hcase:∀ g:Int,GR m b (fun f=>∃ t,t<i+1∧aB now t=f) g↔(GR m b (fun f=>∃ t,t<i∧aB now t=f) g∨(¬ (aB now i=0∧aB now i≠b)∧g∈c7 m (aB now i))):=fun g=>by
   constructor
   ·rintro ⟨f,⟨t,ht,e⟩,a4,a5⟩;by_cases ht2:t=i
    ·subst ht2;subst e;exact .inr ⟨a4,a5⟩
    ·exact .inl ⟨f,⟨t,by omega,e⟩,a4,a5⟩
   ·rintro (⟨f,⟨t,ht,e⟩,a4,a5⟩|⟨a4,a5⟩)
    ·exact⟨f,⟨t,by omega,e⟩,a4,a5⟩
    ·exact⟨_,⟨i,by omega,rfl⟩,a4,a5⟩
  unfold eY;by_cases hc:aB now i=0∧aB now i≠b
  ·rw [if_pos hc];have hiff:∀ g:Int,GR m b (fun f=>∃ t,t<i+1∧aB now t=f) g↔GR m b (fun f=>∃ t,t<i∧aB now t=f) g:=fun g=>by
    rw [hcase];exact⟨fun h=>h.elim id fun h=>absurd hc h.1,.inl⟩
   refine⟨h1,fun g hg=>?_,fun x=>?_⟩
   ·rw [h2 g hg];have:=hiff g;by_cases hr:aB S g=0∧GR m b (fun f=>∃ t,t<i∧aB now t=f) g
    ·rw [if_pos hr,if_pos ⟨hr.1,this.2 hr.2⟩]
    ·rw [if_neg hr,if_neg (fun h=>hr ⟨h.1,this.1 h.2⟩)]
   ·rw [h3 x,hiff x]
  ·rw [if_neg hc];have hfs:=h2 (aB now i).toNat (by omega);rw [hfv,if_neg (fun h=>by omega)] at hfs;obtain⟨c1,c2,c3⟩:=IA (T:=T) (c7 m (aB now i)) (aB now i) v hv (eY m b now (S,[]) i) h1 hf hfs (fun k hk=>by have:=fR hE hk;omega) _ (Nat.le_refl _);have hme:∀ x:Int,(∃ t,t<(c7 m (aB now i)).length∧aB (c7 m (aB now i)) t=x)↔x∈c7 m (aB now i):=fun x=>vL;refine⟨c1,fun g hg=>?_,fun x=>?_⟩
   ·have c2g:=c2 g hg;have h2g:=h2 g hg;have hmg:=hme g;have hcg:=hcase g;generalize aB (eY m b now (S,[]) i).1 g=V at *;by_cases hS0:aB S g=0
    ·by_cases hr:GR m b (fun f=>∃ t,t<i∧aB now t=f) g
     ·rw [if_pos ⟨hS0,hr⟩] at h2g;rw [if_neg (fun h=>by omega)] at c2g;rw [if_pos ⟨hS0,hcg.2 (.inl hr)⟩];omega
     ·rw [if_neg (fun h=>hr h.2)] at h2g;by_cases hx:(g:Int)∈c7 m (aB now i)
      ·rw [if_pos ⟨by omega,hmg.2 hx⟩] at c2g;rw [if_pos ⟨hS0,hcg.2 (.inr ⟨hc,hx⟩)⟩];exact c2g
      ·rw [if_neg (fun h=>hx (hmg.1 h.2))] at c2g;rw [if_neg (fun h=>(hcg.1 h.2).elim hr fun h=>hx h.2)];omega
    ·rw [if_neg (fun h=>hS0 h.1)] at h2g;rw [if_neg (fun h=>by omega)] at c2g;rw [if_neg (fun h=>hS0 h.1)];omega
   ·rw [c3 x,h3 x,hme x,hcase x];constructor
    ·rintro (⟨a1,a2,a3,a4⟩|⟨a1,a2,a3,a4⟩)
     ·exact⟨a1,a2,a3,.inl a4⟩
     ·have h2g:=h2 x.toNat (by omega);rw [a3] at h2g;by_cases hr:aB S x.toNat=0∧GR m b (fun f=>∃ t,t<i∧aB now t=f) x.toNat
      ·rw [if_pos hr] at h2g;omega
      ·rw [if_neg hr] at h2g;exact⟨a1,a2,h2g.symm,.inr ⟨hc,a4⟩⟩
    ·rintro ⟨a1,a2,a3,a4⟩;by_cases hr:GR m b (fun f=>∃ t,t<i∧aB now t=f) x
     ·exact .inl ⟨a1,a2,a3,hr⟩
     ·rcases a4 with a4|⟨_,a4⟩
      ·exact absurd a4 hr
      ·refine .inr ⟨a1,a2,?_,a4⟩;rw [h2 x.toNat (by omega),if_neg (by rw [Int.toNat_of_nonneg a1];exact fun h=>hr h.2)];exact a3
def sW (m:List Ed)(n b:Int):Nat→B7
 |0=>w0 n b
 |k+1=>DI m b (sW m n b k)
theorem LO (hT:(n+1).toNat=T)(hTn:(T:Int)=n+1)(hE:C1 m n)(hb:0≤b∧b<T):∀ k:Nat,(sW m n b k).1.length=T∧(∀ g:Nat,g<T→aB (sW m n b k).1 g=aB (gD m n b k) g+1)∧∀ x:Int,x∈(sW m n b k).2↔(0≤x∧x<T∧aB (gD m n b k) x.toNat=k)
 |0=>by
  have h0:=(NO (m:=m) hT hb).2;have hl:((List.replicate (n+1).toNat (0:Int)).set b.toNat 1).length=T:=(by rw [List.length_set,List.length_replicate,hT]);refine⟨hl,fun g hg=>?_,fun x=>?_⟩
  ·rw [h0 g hg];show aB ((List.replicate (n+1).toNat 0).set b.toNat 1) g=_;rw [lS,List.length_replicate,hT];have:aB (List.replicate T (0:Int)) g=0:=by
    unfold aB;rw [List.getD_eq_getElem?_getD,List.getElem?_replicate];split <;> rfl
   rw [hT] at *;rw [this];by_cases h:b.toNat=g
   ·rw [if_pos ⟨h,by omega⟩,if_pos (by omega)];rfl
   ·rw [if_neg (fun h'=>h h'.1),if_neg (by omega)];rfl
  ·show x∈[b]↔_;rw [List.mem_singleton];constructor
   ·intro e;rw [e,h0 b.toNat (by omega),if_pos (by omega)];exact⟨hb.1,hb.2,rfl⟩
   ·rintro ⟨a1,a2,a3⟩;rw [h0 x.toNat (by omega)] at a3;split at a3
    ·omega
    ·omega
 |k+1=>by
  obtain⟨h1,h2,h3⟩:=LO hT hTn hE hb k;have hs:=(GK hT hTn hE (EN hT hTn hE hb k)).2;have hr:=fun {g:Nat} (hg:g<T)=>H6 hT hTn hE hb hg k;obtain⟨c1,c2,c3⟩:=HY (m:=m) (b:=b) (now:=(sW m n b k).2) (S:=(sW m n b k).1) (v:=k+1) hTn hE (by omega) h1 (fun t ht=>by
   obtain⟨a1,a2,a3⟩:=(h3 _).1 (tJ ht);exact⟨⟨a1,a2⟩,by rw [h2 _ (by omega),a3]⟩) _ (Nat.le_refl _)
  have hme:∀ x:Int,(∃ t,t<(sW m n b k).2.length∧aB (sW m n b k).2 t=x)↔(0≤x∧x<T∧aB (gD m n b k) x.toNat=k):=fun x=>vL.trans (h3 x);have hR:∀ g:Int,GR m b (fun f=>∃ t,t<(sW m n b k).2.length∧aB (sW m n b k).2 t=f) g↔GR m b (fun f=>0≤f∧f<T∧aB (gD m n b k) f.toNat=k) g:=fun g =>
   ⟨fun ⟨f,a,c,d⟩=>⟨f,(hme f).1 a,c,d⟩,fun ⟨f,a,c,d⟩=>⟨f,(hme f).2 a,c,d⟩⟩
  have hit:sW m n b (k+1)=eY m b (sW m n b k).2 ((sW m n b k).1,[]) (sW m n b k).2.length:=rfl;rw [hit];refine⟨c1,fun g hg=>?_,fun x=>?_⟩
  ·have c2g:=c2 g hg;have hsg:=hs g hg;have hg2:=h2 g hg;have hrg:=hr hg;by_cases hc:aB (gD m n b k) g<0∧GR m b (fun f=>0≤f∧f<T∧aB (gD m n b k) f.toNat=k) g
   ·rw [if_pos hc] at hsg;rw [if_pos ⟨by omega,(hR g).2 hc.2⟩] at c2g;rw [c2g,hsg]
   ·rw [if_neg hc] at hsg;rw [if_neg (fun h=>hc ⟨by omega,(hR g).1 h.2⟩)] at c2g;rw [c2g,hsg,hg2]
  ·rw [c3 x];constructor
   ·rintro ⟨a1,a2,a3,a4⟩;refine⟨a1,a2,?_⟩;have hg2:=h2 x.toNat (by omega);rw [hs x.toNat (by omega),if_pos ⟨by omega,by rw [Int.toNat_of_nonneg a1];exact (hR x).1 a4⟩];omega
   ·rintro ⟨a1,a2,a3⟩;refine⟨a1,a2,?_⟩;have hg2:=h2 x.toNat (by omega);have hrg:=hr (g:=x.toNat) (by omega);have hsg:=hs x.toNat (by omega);by_cases hc:aB (gD m n b k) x.toNat<0∧GR m b (fun f=>0≤f∧f<T∧aB (gD m n b k) f.toNat=k) x.toNat
    ·rw [Int.toNat_of_nonneg a1] at hc;exact⟨by omega,(hR x).2 hc.2⟩
    ·rw [if_neg hc] at hsg;omega
theorem KI (hT:(n+1).toNat=T)(hTn:(T:Int)=n+1)(hE:C1 m n)(hb:0≤b∧b<T):∀ k,X5 T n (sW m n b k)
 |0=>(aC1 hT (by omega) ⟨hb.1,by omega⟩).1
 |k+1=>VT hTn hE (KI hT hTn hE hb k)
theorem TH (hT:(n+1).toNat=T)(hTn:(T:Int)=n+1)(hE:C1 m n)(hb:0≤b∧b<T)(a:Int):∀ k K,SB (sW m n b K)≤k→∃ K',LS m a b k (sW m n b K)=sW m n b K'∧nK a (sW m n b K')=true
 |0,K,h=>by
  refine⟨K,rfl,?_⟩;unfold SB at h;split at h
  ·rename_i e;unfold nK;rw [decide_eq_true e];rfl
  ·omega
 |k+1,K,h=>by
  cases hs:nK a (sW m n b K) with
  |true=>exact⟨K,zC hs _,hs⟩
  |false =>
   rw [UR hs];have hne:(sW m n b K).2≠[]:=fun e=>(by unfold nK at hs;rw [decide_eq_true e] at hs;cases hs);have:=aBt (b:=b) hTn hE (KI hT hTn hE hb K) hne;exact TH hT hTn hE hb a k (K+1) (by show SB (DI m b (sW m n b K))≤k;omega)
theorem aEi {S F:List Int}{f:Int}{nb:List Int}(hp:∀ t,t<nb.length→0≤aB nb t)(he:∀ t,t<nb.length→OY S f b (aB nb t)=fOk F f b (aB nb t))(hg:0≤CB F f b nb nb.length):BZ S f b nb=some (CB F f b nb nb.length):=by
 rcases x9 (F:=F) (f:=f) (b:=b) hp nb.length (Nat.le_refl _) with ⟨e,_⟩|⟨t,ht,e1,e2,e3⟩
 ·omega
 ·rw [e1];exact CF ht (fun i hi=>by rw [he i (by omega)];exact e3 i hi) (by rw [he t ht];exact e2)
end
section
variable {l:List Pt}{m:List Ed}{n b:Int}
theorem aFI (ho:cN l m n=true){a:Int}(ha:0≤a∧a≤n)(hb:0≤b∧b≤n):SH m n a b=if aB (fF m n b) a.toNat<0 then none else some (CC m (fF m n b) b ((n+1).toNat+1) a [a]):=by
 obtain⟨hTn,hE,hb2⟩:=oT ho hb;have hn:=UN ho;obtain⟨T,hT⟩:∃ T:Nat,(n+1).toNat=T:=⟨_,rfl⟩;have hgd:=fun {f:Int} (h1:0≤f∧f≤n) (h2:f≠b) (h3:0≤aB (fF m n b) f.toNat)=>SS ho hb h1 h2 h3;rw [hT] at hTn hb2;obtain⟨K,hK,hstop⟩:=TH hT hTn hE hb2 a (2*T) 0 (aC1 hT (by omega) hb).2;have hwF:wF m n a b=sW m n b K:=(by unfold wF;rw [hT];exact hK);obtain⟨r1,r2,r3⟩:=LO hT hTn hE hb2 K;have hok:=KI hT hTn hE hb2 K;have hF:fF m n b=gD m n b T:=(by unfold fF;rw [hT]);unfold SH;rw [hwF,hT];rw [hF] at hgd ⊢
 -- what is reached by round K stays so
 have hkeep:∀ x:Nat,x<T→0≤aB (gD m n b K) x→aB (gD m n b T) x=aB (gD m n b K) x:=fun x hx h0=>by
  have hle:=(hok.rng x hx).2;rw [r2 x hx] at hle;by_cases hKT:K≤T
  ·obtain⟨d,rfl⟩:∃ d,T=K+d:=⟨T - K,by omega⟩;rcases oD hT hTn hE hb2 hx K d with h|⟨h,_⟩
   ·exact h
   ·omega
  ·obtain⟨d,rfl⟩:∃ d,K=T+d:=⟨K - T,by omega⟩;rcases oD hT hTn hE hb2 hx T d with h|⟨h,h'⟩
   ·exact h.symm
   ·omega
 have hnew:∀ x:Nat,x<T→aB (gD m n b K) x<0→aB (gD m n b T) x<0∨(K:Int)<aB (gD m n b T) x:=fun x hx h0=>by
  by_cases hKT:K≤T
  ·obtain⟨d,rfl⟩:∃ d,T=K+d:=⟨T - K,by omega⟩;rcases oD hT hTn hE hb2 hx K d with h|⟨_,h⟩
   ·exact .inl (by omega)
   ·exact .inr h
  ·obtain⟨d,rfl⟩:∃ d,K=T+d:=⟨K - T,by omega⟩;rcases oD hT hTn hE hb2 hx T d with h|⟨h,_⟩
   ·exact .inl (by omega)
   ·exact .inl h
 by_cases hs0:aB (sW m n b K).1 a.toNat=0
 ·rw [if_pos hs0];have hnil:(sW m n b K).2=[]:=by
   unfold nK at hstop;simp only [Bool.or_eq_true,decide_eq_true_eq] at hstop;exact hstop.resolve_right fun h=>h hs0
  have hsame:∀ d:Nat,∀ x:Nat,x<T→aB (gD m n b (K+d)) x=aB (gD m n b K) x:=fun d=>by
   induction d with
   |zero=>intro x _;rfl
   |succ d ih =>
    intro x hx;have hs:=(GK hT hTn hE (EN hT hTn hE hb2 (K+d))).2 x hx;have e:gD m n b (K+(d+1))=gD m n b (K+d+1):=rfl;rw [e,hs,if_neg]
    ·exact ih x hx
    ·rintro ⟨_,f,⟨f1,f2,f3⟩,_⟩;have h1:=ih f.toNat (by omega);have h2:=H6 hT hTn hE hb2 (g:=f.toNat) (by omega) K;have h3:f∈(sW m n b K).2:=(r3 f).2 ⟨f1,f2,by omega⟩;rw [hnil] at h3;cases h3
  have ha2:aB (gD m n b K) a.toNat<0:=(by have:=r2 a.toNat (by omega);omega);have haT:aB (gD m n b T) a.toNat<0:=by
   by_cases hKT:K≤T
   ·obtain⟨d,hd⟩:∃ d,T=K+d:=⟨T - K,by omega⟩;have:=hsame d a.toNat (by omega);rw [← hd] at this;omega
   ·obtain⟨d,hd⟩:∃ d,K=T+d:=⟨K - T,by omega⟩;rcases oD hT hTn hE hb2 (g:=a.toNat) (by omega) T d with h|⟨h,_⟩
    ·rw [← hd] at h;omega
    ·exact h
  rw [if_pos haT]
 ·rw [if_neg hs0];have ha2:0≤aB (gD m n b K) a.toNat:=by
   have h1:=r2 a.toNat (by omega);have h2:=H6 hT hTn hE hb2 (g:=a.toNat) (by omega) K;omega
  have haT:=hkeep a.toNat (by omega) ha2;rw [if_neg (by omega)];have hpath:∀ k:Nat,∀ f:Int,∀ out:List Int,0≤f→f≤n→0≤aB (gD m n b K) f.toNat→aB (gD m n b K) f.toNat+1≤k→mU m (sW m n b K).1 b k f out=some (CC m (gD m n b T) b k f out):=fun k=>by
   induction k with
   |zero=>intro f out h0 h1 h2 h3;omega
   |succ k ih =>
    intro f out h0 h1 h2 h3;have hkf:=hkeep f.toNat (by omega) h2;by_cases hfb:f=b
    ·unfold mU CC;rw [if_pos hfb,if_pos hfb]
    ·obtain⟨g1,g2,g3,g4⟩:=hgd ⟨h0,h1⟩ hfb (by omega);have hfr:=H6 hT hTn hE hb2 (g:=f.toNat) (by omega) K;have hrf:=r2 f.toNat (by omega);have hw:=aEi (S:=(sW m n b K).1) (F:=gD m n b T) (f:=f) (b:=b) (nb:=c7 m f) (fun t ht=>(fR hE ht).1) (fun t ht=>by
      obtain⟨t1,t2⟩:=fR hE ht;have hrx:=r2 (aB (c7 m f) t).toNat (by omega);have hx:(aB (sW m n b K).1 (aB (c7 m f) t).toNat=aB (sW m n b K).1 f.toNat - 1∧0<aB (sW m n b K).1 (aB (c7 m f) t).toNat)↔aB (gD m n b T) (aB (c7 m f) t).toNat=aB (gD m n b T) f.toNat - 1:=by
       by_cases h:0≤aB (gD m n b K) (aB (c7 m f) t).toNat
       ·have:=hkeep _ (by omega) h;constructor
        ·intro h;omega
        ·intro h;omega
       ·have:=hnew (aB (c7 m f) t).toNat (by omega) (by omega);constructor
        ·intro h;omega
        ·intro h;omega
      unfold OY fOk;rw [← Bool.and_assoc];congr 1;rw [Bool.eq_iff_iff];simp only [Bool.and_eq_true,decide_eq_true_eq];exact hx) g1.1
     have e1:mU m (sW m n b K).1 b (k+1) f out=(match BZ (sW m n b K).1 f b (c7 m f) with|some g=>mU m (sW m n b K).1 b k g (out++[g])|none=>none):=LN hfb;have e2:CC m (gD m n b T) b (k+1) f out=CC m (gD m n b T) b k (CB (gD m n b T) f b (c7 m f) (c7 m f).length) (out++[CB (gD m n b T) f b (c7 m f) (c7 m f).length]):=by
      show (if _ then _ else _)=_;rw [if_neg hfb]
     rw [e1,e2,hw];show mU m (sW m n b K).1 b k _ _=_;generalize CB (gD m n b T) f b (c7 m f) (c7 m f).length=g at *;have hgK:0≤aB (gD m n b K) g.toNat∧aB (gD m n b K) g.toNat+1≤k:=by
      by_cases h:0≤aB (gD m n b K) g.toNat
      ·have:=hkeep g.toNat (by omega) h;omega
      ·have:=hnew g.toNat (by omega) (by omega);omega
     exact ih g _ g1.1 g1.2 hgK.1 hgK.2
  refine hpath (T+1) a [a] ha.1 ha.2 ha2 ?_;have:=(hok.rng a.toNat (by omega)).2;have:=r2 a.toNat (by omega);omega
theorem LQ (ho:cN l m n=true)(a:Int):KF m n a b=rwL m n a b∧LC m n a b=rwE m n a b:=by
 unfold KF rwL LC rwE;by_cases h:(oJ n a&&oJ n b)=true
 ·rw [if_pos h,if_pos h,if_pos h,if_pos h];simp only [oJ,Bool.and_eq_true,decide_eq_true_eq] at h;rw [aFI ho h.1 h.2];split <;> exact⟨rfl,rfl⟩
 ·rw [if_neg h,if_neg h,if_neg h,if_neg h];exact⟨rfl,rfl⟩
end
end Go.Aw
end

noncomputable section
namespace Go.Aw
set_option maxRecDepth 100000
set_option maxHeartbeats 2000000
theorem OP {m:List Ed}{F:List Int}{b:Int}:∀ (k:Nat) (f:Int) (out:List Int),(CC m F b k f out).length≤out.length+k
 |0,f,out=>Nat.le_refl _
 |k+1,f,out=>by
  unfold CC;split
  ·omega
  ·have:=OP (m:=m) (F:=F) (b:=b) k (CB F f b (c7 m f) (c7 m f).length) (out++[CB F f b (c7 m f) (c7 m f).length]);rw [List.length_append,List.length_singleton] at this;omega
theorem aCW {m:List Ed}{n a b:Int}(hn:n≤100):(rwL m n a b).length≤1000:=by
 unfold rwL;split
 ·split
  ·exact Nat.zero_le _
  ·have:=OP (m:=m) (F:=fF m n b) (b:=b) ((n+1).toNat+1) a [a];rw [List.length_singleton] at this;omega
 ·exact Nat.zero_le _
def hsS (l:List Int):List Value→Option (Bool × Value)
 |[.int .i64 x]=>some (decide (l.length≤1000000),.bool (decide (x∈l)))
 |_=>none
def e62 (l:List Int)(c:Nat)(x j:Int):List (Nat × Value):=[(0,.slice (some ⟨0,0,none⟩) l.length c),(1,iv x),(5,iv j)]
def h62 (l:List Int):Heap:=[(0,.cells false true 1 (flat aL.fl l))]
def X62:Nat × XF:=(62,lX aL hsS)
theorem x62:dM Go.Proofs.Tryz.prog X62.1 X62.2:=M0 aL (aO (xl:=[]) .nil) fun l r v hs=>by
 have:∃ x,r=[iv x]∧l.length≤1000000∧v=.bool (decide (x∈l)):=by
  unfold hsS at hs;split at hs
  ·injection hs with hs;injection hs with h1 h2;exact⟨_,rfl,of_decide_eq_true h1,h2.symm⟩
  ·cases hs
 obtain⟨x,rfl,hlen,rfl⟩:=this;clear hs;refine⟨rfl,rfl,fun c=>?_⟩;(conv=>whnf);refine⟨fun n e h nx=>∃ (i:Nat) (j:Int),j=i∧i≤l.length∧n=l.length - i∧(∀ k,k<i→aB l k≠x)∧e=e62 l c x j∧h=h62 l∧nx=1,⟨l.length,?_⟩,?_⟩
 ·refine cO (e0:=e62 l c x 0) (h0:=h62 l) (n0:=1) ⟨0,0,rfl,Nat.zero_le _,rfl,fun k h=>absurd h (Nat.not_lt_zero k),rfl,rfl,rfl⟩ ?_ ?_ (by decide)
  ·unfold e62;((repeat' refine iE rfl rfl ?_);exact iN)
  ·unfold h62;((repeat'(first|refine iF rfl rfl ?_|refine iJ rfl rfl rfl rfl ?_));exact iN)
 ·rintro n e h nx ⟨i,j,hj,hi,rfl,hb,rfl,rfl,rfl⟩;unfold e62 h62;((conv=>whnf);refine bm (fun g1=>?_) (fun g1=>?_))
  ·have hlt:i<l.length:=(by simp [aA,aF] at g1;omega);((conv=>whnf);refine bm (fun g2=>?_) (fun g2=>?_))
   ·(conv=>whnf);refine eP (cF l hlt ?_) ?_
    ·show _+Int.toNat j*1=_;omega
    ((conv=>whnf);refine bm (fun g3=>?_) (fun g3=>?_))
    ·have g3:aB l i=x:=(by simpa [aA,aF] using g3);(conv=>whnf);show Value.bool true=.bool (decide (x∈l));rw [decide_eq_true (g3▸tJ hlt)]
    ·have g3:aB l i≠x:=(by simpa [aA,aF] using g3);((conv=>whnf);refine bm (fun g4=>?_) (fun g4=>?_))
     ·(conv=>whnf);refine⟨l.length - (i+1),by omega,?_⟩;refine cO (e0:=e62 l c x (j+1)) (h0:=h62 l) (n0:=1) ⟨i+1,j+1,by omega,by omega,rfl,fun k hk=>?_,rfl,rfl,rfl⟩ ?_ ?_ (by decide)
      ·by_cases e:k=i
       ·rw [e];exact g3
       ·exact hb k (by omega)
      ·unfold e62;((repeat' refine iE rfl rfl ?_);exact iN)
      ·unfold h62;((repeat'(first|refine iF rfl rfl ?_|refine iJ rfl rfl rfl rfl ?_));exact iN)
     ·exfalso;simp [aA,aF,aI] at g4;omega
   ·exfalso;simp [aA,aF] at g2;omega
  ·have hlt:i=l.length:=(by simp [aA,aF] at g1;omega);(conv=>whnf);show Value.bool false=.bool (decide (x∈l));rw [decide_eq_false];intro hx;obtain⟨k,hk,e⟩:=uC hx;exact hb k (by omega) e
def MJ (l:List Pt)(m:List Ed)(c1 c2:Nat)(n:Int)(L:List Int):Heap:=(3,bP l.length m.length c1 c2 n)::j9 aZ aY aL l m L
end Go.Aw
end
