/-
  Parts of the proof, put together. No condition.
-/
import Derived.Test.YtjahkcbdecgbhaaGreatQBx
set_option linter.unusedSimpArgs false
set_option linter.unusedVariables false
noncomputable section
namespace Go.Aw
set_option maxRecDepth 100000
set_option maxHeartbeats 2000000
def X2 (l:List Pt)(m:List Ed)(f:Int):List Int:=xB (a9 l m m.length) (outs l m) (rE f (dO l m).face 0)
def MD (l:List Pt)(m:List Ed)(n f:Int):Bool:=dE l m n&&(decide (0≤f)&&decide (f≤n))
def a2P (l:List Pt)(m:List Ed)(n:Int):List Value→Option (Bool × Value)
 |[.int .i64 f]=>some (decide (l.length≤1000)&&decide (m.length≤1000),.tuple #[iv (if MD l m n f=true then I6 l (a9 l m m.length) (X2 l m f) (X2 l m f).length else 0),iv (if MD l m n f=true then 0 else 1)])
 |_=>none
theorem aIa {l:List Pt}{m:List Ed}{n f:Int}(ho:dE l m n=true)(h0:0≤f)(h1:f≤n):∃ d:Int,rE f (dO l m).face 0=d∧0≤d∧d<2*m.length∧vB l (a9 l m m.length) (outs l m)=true∧pH (a9 l m m.length) (outs l m) d (o6 (a9 l m m.length) (outs l m) d)=d∧eT (a9 l m m.length) (xB (a9 l m m.length) (outs l m) d)=true∧1≤(xB (a9 l m m.length) (outs l m) d).length∧(xB (a9 l m m.length) (outs l m) d).length≤2*m.length+1:=by
 obtain⟨k,b1,b2,b3,b4⟩:=ZQ ho h0 h1;have hok:=qR ho;have hw:=List.all_eq_true.1 (KZ hok) k (List.mem_range.2 (by rw [bP];exact b1));have w:=RG (l:=l) (JK hok) (d:=k) (by rw [bP];exact b1);have p:=oA (a9 l m m.length) (outs l m) k (a9 l m m.length).length 1;refine⟨k,b4,by omega,by omega,JK hok,of_decide_eq_true hw,w.1,?_,?_⟩
 ·exact w.2.2
 ·have:=w.2.1;rw [bP] at this;exact this
def aKT:Nat × XF:=(26,mX aP aR a2P)
def mRX (s:List Pt→List Ed→Int→List Value→Option (Bool × List Int × Option Int)):XF:=fun args h nx K=>∃ p q n r l m,args=mapA p q n::r∧gZ aP h p l∧gZ aR h q m ∧
 (match s l m n r with|some pr=>dI pr.1 (RW aO pr.2.1 pr.2.2 h nx K)|none=>False)
theorem E3 {P:Program}{C:VC}{f:Nat}{s:List Pt→List Ed→Int→List Value→Option (Bool × List Int × Option Int)}(hC:bI P C)
  (hs:∀ l m n r out e,s l m n r=some (true,out,e)→eM r=true∧∀ c1 c2,C f (aF l.length m.length c1 c2 n::r) (aC aP aR l m) 2 (Yields aO out e)):cJ P f (mRX s):=by
 refine (X9 aO (T:=fun args0 h0 n0 out e=>C f args0 h0 n0 (Yields aO out e)) hC ?_).mono ?_ ?_
 ·rintro args0 h0 n0 out e hc;exact hc
 ·rintro args h nx K ⟨p,q,n,r,l,m,rfl,hl,hm,hx⟩;split at hx
  case h_2=>exact hx.elim
  rename_i pr e1;obtain⟨bb,out,e⟩:=pr;obtain⟨rfl,hx⟩:=aG.1 hx;obtain⟨a1,a3⟩:=hs l m n r out e e1;obtain⟨c1,c2,i⟩:=LV (n:=n) (nx:=nx) aP aR a1 hl hm;exact J2 aO (a3 c1 c2) i hx
 ·rintro args h nx K ⟨p,q,n,r,l,m,rfl,hl,hm,hx⟩;split at hx
  case h_2=>exact hx.elim
  rename_i pr e1;obtain⟨bb,out,e⟩:=pr;obtain⟨hb,hx⟩:=aG.1 hx;cases out with
  |nil=>exact⟨_,_,_,hx,fun K' hk'=>⟨p,q,n,r,l,m,rfl,hl,hm,by rw [e1];exact aJ hb hk'⟩⟩
  |cons a t=>exact⟨_,_,_,hx,fun K' hk'=>⟨p,q,n,r,l,m,rfl,hl,hm,by rw [e1];exact aJ hb hk'⟩⟩
theorem aGq {nx:Nat}{l:List Pt}{m:List Ed}{c1 c2:Nat}{n:Int}(hl:l.length≤1000):xO (wN nx l m c1 c2 n (wTb nx l m) (wT nx l m)) (nx+2004):=by
 rw [← UU];exact QP (n:=nx) (W:=WD l m c1 c2 n) (b:=2004) (fun k o hk=>J4 hl k o (LO k o hk)) (AK 3 qI)
theorem xK {v:Value}{H' h:Heap}{b n0 nx:Nat}(hv:fV id v=v)(hn:wJ n0 v)(hh:∀ k o,look H' k=some o→look h k=some o)(hok:xO H' n0)(hb:b≤n0):∃ ρ,qE b ρ [(0,v)] H' n0 [(0,v)] h nx:=by
 refine⟨id,fun t u hu=>?_,fun k o hk=>⟨(hok k o hk).1,o,hh k o hk,(hok k o hk).2⟩,fun _ _ _ _ _ _ e=>e,fun _ _=>rfl,hb⟩;have hm:=aZ hu;simp only [List.mem_cons,List.not_mem_nil,or_false] at hm;injection hm with e1 e2;subst e1 e2;rw [hv];exact⟨rfl,hn⟩
def frL (D:List Dt)(L:List Int):Nat→List Int
 |0=>L
 |i+1=>(frL D L i).set i (bX D (aN L i).toNat).fr
theorem T7 (D:List Dt)(L:List Int):∀ i,(frL D L i).length=L.length
 |0=>rfl
 |i+1=>by unfold frL;rw [List.length_set];exact T7 D L i
def wlI (l:List Pt)(m:List Ed)(f:Int):List Int:=frL (a9 l m m.length) (X2 l m f) (X2 l m f).length
def bx1 (a:Int):aV:=.cells false true 1 [iv a]
def IG (h:Heap)(k:Nat)(a:Int):Prop:=∃ wr g sz,look h k=some (.cells wr g sz [iv a])
def pI (a b:Int)(e:Ed):Bool:=(decide (e.l=a)&&decide (e.r=b)) || (decide (e.l=b)&&decide (e.r=a))
def X93:Nat × XF:=(93,fun args h nx K=>∃ e ka kb a b,args=[WC e,.pointer (some ⟨ka,0,none⟩),.pointer (some ⟨kb,0,none⟩)]∧IG h ka a∧IG h kb b∧K (.bool (pI a b e)) h nx)
theorem aDH {h:Heap}{nx ka kb:Nat}{a b:Int}(ha:IG h ka a)(hb:IG h kb b)(e:Ed):In [WC e,.pointer (some ⟨7,0,none⟩),.pointer (some ⟨8,0,none⟩)] [(7,bx1 a),(8,bx1 b)] 9 [WC e,.pointer (some ⟨ka,0,none⟩),.pointer (some ⟨kb,0,none⟩)] h nx:=by
 obtain⟨w1,g1,s1,h1⟩:=ha;obtain⟨w2,g2,s2,h2⟩:=hb;refine wQ (fun k=>if k=7 then ka else kb) (by show [WC e,_,_]=[fV _ (WC e),fV _ _,fV _ _];rw [kT (v:=WC e) rfl];rfl) ?_ fun k o hk=>?_
 ·exact List.forall_mem_cons.2 ⟨bU rfl,List.forall_mem_cons.2 ⟨lH rfl,List.forall_mem_cons.2 ⟨lH rfl,fun _ h=>by cases h⟩⟩⟩
 ·rw [aE] at hk;split at hk
  ·rename_i hq;injection hk with hk;subst hk;rw [← beq_true hq]
   exact⟨by decide,true,1,_,rfl,by decide,fun _=>rfl,jU rfl,w1,g1,s1,_,h1,rfl⟩
  ·rw [aE] at hk;split at hk
   ·rename_i hq;injection hk with hk;subst hk;rw [← beq_true hq]
    exact⟨by decide,true,1,_,rfl,by decide,fun _=>rfl,jU rfl,w2,g2,s2,_,h2,rfl⟩
   ·exact bS hk
theorem x93:cJ Go.Proofs.Tryz.prog X93.1 X93.2:=by
 refine (gF (S:=fun args0 h0 n0 v1 h1 m=>∃ e a b,args0=[WC e,.pointer (some ⟨7,0,none⟩),.pointer (some ⟨8,0,none⟩)]∧h0=[(7,bx1 a),(8,bx1 b)]∧n0=9∧v1=.bool (pI a b e)∧h1=[]∧m=0) (aK (xl:=[]) .nil) ?_).mono ?_ ?_
 ·rintro args0 h0 n0 v1 h1 m ⟨e,a,b,rfl,rfl,rfl,rfl,rfl,rfl⟩;refine⟨rfl,fun u _ _=>u=.bool (pI a b e),?_,fun v h nx e=>by rw [e];exact kK rfl⟩;unfold WC bx1
  repeat' (((conv=>whnf);refine bm (fun g=>?_) (fun g=>?_)))
  all_goals (conv=>whnf)
  all_goals (show Value.bool _=Value.bool _;congr 1;unfold pI;simp [aA,aB] at *;try simp_all)
 ·rintro args h nx K ⟨e,ka,kb,a,b,rfl,ha,hb,hx⟩;exact⟨_,_,9,_,[],0,⟨e,a,b,rfl,rfl,rfl,rfl,rfl,rfl⟩,aDH ha hb e,hx⟩
 ·rintro args h nx K ⟨e,ka,kb,a,b,rfl,ha,hb,hx⟩;exact⟨_,_,_,hx,fun K' hk=>⟨e,ka,kb,a,b,rfl,ha,hb,hk⟩⟩
def rM (e:Ed):Bool:=decide (e.l=e.r)
def X96:Nat × XF:=(96,fun args h nx K=>∃ e,args=[WC e]∧K (.bool (rM e)) h nx)
theorem x96:cJ Go.Proofs.Tryz.prog X96.1 X96.2:=by
 refine (gF (S:=fun args0 h0 n0 v1 h1 m=>∃ e,args0=[WC e]∧h0=[]∧n0=0∧v1=.bool (rM e)∧h1=[]∧m=0) (aK (xl:=[]) .nil) ?_).mono ?_ ?_
 ·rintro args0 h0 n0 v1 h1 m ⟨e,rfl,rfl,rfl,rfl,rfl,rfl⟩;refine⟨rfl,fun u _ _=>u=.bool (rM e),?_,fun v h nx e=>by rw [e];exact kK rfl⟩;unfold WC;(conv=>whnf);rfl
 ·rintro args h nx K ⟨e,rfl,hx⟩;exact⟨_,_,0,_,[],0,⟨e,rfl,rfl,rfl,rfl,rfl,rfl⟩,aCS fun u hu=>cF (l:=[WC e]) rfl hu,hx⟩
 ·rintro args h nx K ⟨e,rfl,hx⟩;exact⟨_,_,_,hx,fun K' hk=>⟨e,rfl,hk⟩⟩
def ovB (ρ:Nat→Nat)(ka kb:Nat)(k:Nat):Nat:=if k=7 then ka else if k=8 then kb else ρ k
theorem aEB {h:Heap}{p:Nat}{l:List Pt}{m:List Ed}{n:Int}(hw:WA h p l m n){R:Heap}{ka kb:Nat}{F F0:Value}{nx:Nat}(hF:∀ ρ:Nat→Nat,ρ 7=ka→ρ 8=kb→F=fV ρ F0)(hn:wJ 2000 F0)
  (hR:∀ ρ:Nat→Nat,ρ 7=ka→ρ 8=kb→∀ k o,look R k=some o→k<2000∧∃ g sz cs0,o=.cells false g sz cs0∧sz≠0∧(g=true→c9 cs0=true)∧(∀ v∈cs0,A8 2000 v)∧∃ wr g' sz' cs,look h (ρ k)=some (.cells wr g' sz' cs)∧cs.take cs0.length=cs0.map (bN ρ)) :
  ∃ nP nD nL c1 c2 fo,In [.pointer (some ⟨0,0,none⟩),F0] (PM R nP m nD nL c1 c2 n fo) 2000 [.pointer (some ⟨p,0,none⟩),F] h nx:=by
 obtain⟨ok,sm,k0,k1,kd,kt,kf,nm,c1,c2,w,⟨w1,g1,s1,x1,a1,b1⟩,_⟩:=hw;obtain⟨wr,g,sz,hst⟩:=w.st;refine⟨l.length,(a9 l m m.length).length,(outs l m).length,c1,c2,some ((a9 l m m.length).length,(a9 l m m.length).length),wQ (ovB (rhW p k0 k1 kd kt kf 0 nm 0) ka kb) ?_ ?_ fun k o hk=>?_⟩
 ·show [Value.pointer (some ⟨p,0,none⟩),F]=[fV _ (.pointer (some ⟨0,0,none⟩)),fV _ F0];rw [← hF _ rfl rfl];rfl
 ·exact List.forall_mem_cons.2 ⟨lH rfl,List.forall_mem_cons.2 ⟨hn,fun _ h=>by cases h⟩⟩
 ·unfold PM at hk;rw [aE] at hk;split at hk
  ·rename_i hq;injection hk with hk;subst hk;rw [← beq_true hq]
   exact⟨by decide,false,1,_,rfl,by decide,(fun h=>by cases h),jU rfl,wr,g,sz,_,hst,rfl⟩
  ·rw [aE] at hk;split at hk
   ·rename_i hq;injection hk with hk;subst hk;rw [← beq_true hq]
    exact⟨by decide,true,aR.sz,_,rfl,by decide,fun _=>aI aR m,fun v hv=>cR (a8 (aI aR m) hv),w1,g1,s1,x1,a1,by rw [b1];exact (bZ (aI aR m)).symm⟩
   ·exact hR _ rfl rfl k o hk
abbrev pV (k:Nat):Value:=.pointer (some ⟨k,0,none⟩)
def aLb:List (Nat × XF):=[X93,X96]
theorem aCO:nQ aLb:=.cons x93 (.cons x96 .nil)
theorem ZT {R:Heap}{nP:Nat}{m:List Ed}{nD nL c1 c2:Nat}{n:Int}{fo:Option (Nat × Nat)}(h:xO R 2000):xO (PM R nP m nD nL c1 c2 n fo) 2000:=by
 refine cA (cA h (by decide) (aM (aI _ _))) (by decide) ?_;refine aB1 ?_;exact List.forall_mem_cons.2 ⟨⟨rfl,mQ rfl⟩,List.forall_mem_cons.2 ⟨⟨rfl,mQ rfl⟩,List.forall_mem_cons.2 ⟨⟨rfl,mQ rfl⟩,List.forall_mem_cons.2 ⟨⟨rfl,mQ rfl⟩,List.forall_mem_cons.2 ⟨⟨rfl,mQ rfl⟩,List.forall_mem_cons.2 ⟨⟨by cases fo <;> rfl,by cases fo <;> exact mQ rfl⟩,fun _ h=>by cases h⟩⟩⟩⟩⟩⟩
def aDc:Nat × XF:=(92,fun args h nx K=>∃ p l m n P,WA h p l m n∧RW aO (bL P m m.length) none h nx K ∧
 ((∃ ka kb a b,args=[pV p,nB 93 [pV ka,pV kb]]∧IG h ka a∧IG h kb b∧P=pI a b)∨(args=[pV p,nB 96 []]∧P=rM)))
theorem YF {α:Type}{E:El α}{out:List α}{e:Option Int}{h:Heap}{nx:Nat}{K:KE}(hx:RW E out e h nx K):∃ v h' nx',K v h' nx'∧∀ K':KE,K' v h' nx'→RW E out e h nx K':=by
 cases out with
 |nil=>exact⟨_,_,_,hx,fun K' hk=>hk⟩
 |cons a t=>exact⟨_,_,_,hx,fun K' hk=>hk⟩
theorem aIA:cJ Go.Proofs.Tryz.prog aDc.1 aDc.2:=by
 refine (x92 aCO).mono ?_ ?_
 ·rintro args h nx K ⟨p,l,m,n,P,hw,hk,⟨ka,kb,a,b,rfl,ha,hb,rfl⟩|⟨rfl,rfl⟩⟩
  ·obtain⟨w1,g1,s1,h1⟩:=ha;obtain⟨w2,g2,s2,h2⟩:=hb
   obtain⟨nP,nD,nL,c1,c2,fo,hin⟩:=aEB (nx:=nx) hw (R:=[(7,bx1 a),(8,bx1 b)]) (ka:=ka) (kb:=kb) (F:=nB 93 [pV ka,pV kb]) (F0:=nB 93 [pV 7,pV 8])
    (fun ρ e1 e2=>by subst e1 e2;simp [nB,fV,tr,dP,bR,lN,dR,kA]) (lH rfl) (fun ρ e1 e2 k o hk=>by
     rw [aE] at hk;split at hk
     ·rename_i hq;injection hk with hk;subst hk;rw [← beq_true hq]
      exact⟨by decide,true,1,_,rfl,by decide,fun _=>rfl,jU rfl,w1,g1,s1,_,by rw [e1];exact h1,rfl⟩
     ·rw [aE] at hk;split at hk
      ·rename_i hq;injection hk with hk;subst hk;rw [← beq_true hq]
       exact⟨by decide,true,1,_,rfl,by decide,fun _=>rfl,jU rfl,w2,g2,s2,_,by rw [e2];exact h2,rfl⟩
      ·exact bS hk)
   refine J2 aO ⟨_,nP,m,nD,nL,c1,c2,n,fo,93,[pV 7,pV 8],pI a b,⟨rfl,rfl,hw.sm.2,?_,lH rfl,by simp [nB,fV,tr,dP,bR,lN,dR,kA],rfl,?_⟩,rfl,rfl,rfl⟩ hin hk
   ·exact ZT (cA (cA (fun k o hk=>by cases hk) (by decide) (aM rfl)) (by decide) (aM rfl))
   ·exact fun e h' nx' K hs hk=>⟨e,7,8,a,b,rfl,⟨_,_,_,hs 7 _ rfl⟩,⟨_,_,_,hs 8 _ rfl⟩,hk⟩
  ·obtain⟨nP,nD,nL,c1,c2,fo,hin⟩:=aEB (nx:=nx) hw (R:=[]) (ka:=0) (kb:=0) (F:=nB 96 []) (F0:=nB 96 [])
    (fun ρ e1 e2=>by simp [nB,fV,tr,dP,bR,lN,dR,kA]) (lH rfl) (fun ρ e1 e2 k o hk=>bS hk)
   refine J2 aO ⟨_,nP,m,nD,nL,c1,c2,n,fo,96,[],rM,⟨rfl,rfl,hw.sm.2,?_,lH rfl,by simp [nB,fV,tr,dP,bR,lN,dR,kA],rfl,?_⟩,rfl,rfl,rfl⟩ hin hk
   ·exact ZT (fun k o hk=>by cases hk)
   ·exact fun e h' nx' K hs hk=>⟨e,rfl,hk⟩
 ·rintro args h nx K ⟨p,l,m,n,P,hw,hk,hc⟩;obtain⟨v,h',nx',h1,h2⟩:=YF hk;exact⟨v,h',nx',h1,fun K' hk'=>⟨p,l,m,n,P,hw,h2 K' hk',hc⟩⟩
def shB (l:List Pt)(m:List Ed)(n a b:Int):Bool:=dE l m n&&(zX n a&&zX n b)
def srP (l:List Pt)(m:List Ed)(n:Int):List Value→Option (Bool × List Int × Option Int)
 |[.int .i64 a,.int .i64 b]=>some (decide (l.length≤1000)&&decide (m.length≤1000),if shB l m n a b=true then bL (pI a b) m m.length else [],some (if shB l m n a b=true then 0 else 1))
 |_=>none
theorem T3 {l:List Pt}{m:List Ed}{n:Int}{r:List Value}{out:List Int}{e:Option Int}(hs:srP l m n r=some (true,out,e)):∃ a b,r=[iv a,iv b]∧(l.length≤1000∧m.length≤1000)∧out=(if shB l m n a b=true then bL (pI a b) m m.length else [])∧e=some (if shB l m n a b=true then 0 else 1):=by
 unfold srP at hs;split at hs
 ·injection hs with hs;injection hs with h1 h2;injection h2 with h2 h3;simp only [Bool.and_eq_true,decide_eq_true_eq] at h1;exact⟨_,_,rfl,h1,h2.symm,h3.symm⟩
 ·cases hs
def aFR:Nat × XF:=(28,mRX srP)
theorem aKu:cJ Go.Proofs.Tryz.prog aFR.1 aFR.2:=E3 (kG (C3 (xl:=[YB,aGG,aDc]) (.cons aGH (.cons aKE (.cons aIA .nil))) 4) 6).1 fun l m n r out e hs=>by
 obtain⟨a,b,rfl,hlm,rfl,rfl⟩:=T3 hs;clear hs;refine⟨rfl,fun c1 c2=>?_⟩;(conv=>whnf);refine⟨l,m,n,.slice (some ⟨0,0,none⟩) l.length c1,.slice (some ⟨1,0,none⟩) m.length c2,rfl,aD aP rfl,aD aR rfl,hlm,?_⟩;have hfb:shB l m n a b=(dE l m n&&(zX n a&&zX n b)):=rfl;cases ho:dE l m n with
 |false =>
  rw [ho,Bool.false_and] at hfb;refine .inr ⟨rfl,?_⟩;rw [hfb];(conv=>whnf);rfl
 |true =>
  rw [ho,Bool.true_and] at hfb;refine .inl ⟨rfl,?_⟩;have hW:WA _ (2+1+1+1+1+7) l m n:=aEz (nx:=2+1+1+1+1) (c1:=c1) (c2:=c2) ho hlm;have hno:∀ k,k<2+1+1+1+1∨_→_:=fun k hk=>aEE (nx:=2+1+1+1+1) (m:=m) (c1:=c1) (c2:=c2) (n:=n) hlm.1 hk;generalize wT _ l m=W at hW hno ⊢;generalize wTb _ l m=TB at hW hno ⊢;rw [hfb];(conv=>whnf);refine⟨_,_,l,m,n,[a,b],2,rfl,aBq (R0 hW (fun k hk=>hno k (.inl hk)) rfl) (T1 (nx:=2+1+1+1+1) rfl (by decide) (hno _ (.inr (by decide)))),⟨_,_,_,_,rfl,rfl⟩,?_⟩;cases hab:(zX n a&&zX n b) with
  |false =>
   rw [show aAN l m n [a,b]=some (true,.bool (zX n a&&zX n b)) from rfl,hab];(conv=>whnf);rfl
  |true =>
   rw [show aAN l m n [a,b]=some (true,.bool (zX n a&&zX n b)) from rfl,hab];rw [if_pos rfl,if_pos rfl];generalize hO:bL (pI a b) m m.length=O;(conv=>whnf);refine⟨_,l,m,n,pI a b,aBq (R0 hW (fun k hk=>hno k (.inl hk)) rfl) (T1 (nx:=2+1+1+1+1) rfl (by decide) (hno _ (.inr (by decide)))),?_,.inl ⟨_,_,a,b,rfl,⟨_,_,_,rfl⟩,⟨_,_,_,rfl⟩,rfl⟩⟩;rw [hO];cases O with
   |nil=>(conv=>whnf);rfl
   |cons x t =>
    (conv=>whnf);exact j0 aO (l:=x::t) (e:=some 0) (nx:=0) (Nat.succ_pos _) rfl
def deP (l:List Pt)(m:List Ed)(n:Int):List Value→Option (Bool × List Int × Option Int)
 |[]=>some (decide (l.length≤1000)&&decide (m.length≤1000),if dE l m n=true then bL rM m m.length else [],some (if dE l m n=true then 0 else 1))
 |_=>none
theorem TU {l:List Pt}{m:List Ed}{n:Int}{r:List Value}{out:List Int}{e:Option Int}(hs:deP l m n r=some (true,out,e)):r=[]∧(l.length≤1000∧m.length≤1000)∧out=(if dE l m n=true then bL rM m m.length else [])∧e=some (if dE l m n=true then 0 else 1):=by
 unfold deP at hs;split at hs
 ·injection hs with hs;injection hs with h1 h2;injection h2 with h2 h3;simp only [Bool.and_eq_true,decide_eq_true_eq] at h1;exact⟨rfl,h1,h2.symm,h3.symm⟩
 ·cases hs
def aG4:Nat × XF:=(30,mRX deP)
theorem aK7:cJ Go.Proofs.Tryz.prog aG4.1 aG4.2:=E3 (kG (C3 (xl:=[YB,aDc]) (.cons aGH (.cons aIA .nil)) 4) 6).1 fun l m n r out e hs=>by
 obtain⟨rfl,hlm,rfl,rfl⟩:=TU hs;clear hs;refine⟨rfl,fun c1 c2=>?_⟩;(conv=>whnf);refine⟨l,m,n,.slice (some ⟨0,0,none⟩) l.length c1,.slice (some ⟨1,0,none⟩) m.length c2,rfl,aD aP rfl,aD aR rfl,hlm,?_⟩;cases ho:dE l m n with
 |false =>
  refine .inr ⟨rfl,?_⟩;(conv=>whnf);rfl
 |true =>
  refine .inl ⟨rfl,?_⟩;have hW:WA _ (2+1+1+7) l m n:=aEz (nx:=2+1+1) (c1:=c1) (c2:=c2) ho hlm;have hno:∀ k,k<2+1+1∨_→_:=fun k hk=>aEE (nx:=2+1+1) (m:=m) (c1:=c1) (c2:=c2) (n:=n) hlm.1 hk;generalize wT _ l m=W at hW hno ⊢;generalize wTb _ l m=TB at hW hno ⊢;rw [if_pos rfl,if_pos rfl];generalize hO:bL rM m m.length=O;(conv=>whnf);refine⟨_,l,m,n,rM,R0 hW (fun k hk=>hno k (.inl hk)) rfl,?_,.inr ⟨rfl,rfl⟩⟩;rw [hO];cases O with
  |nil=>(conv=>whnf);rfl
  |cons x t =>
   (conv=>whnf);exact j0 aO (l:=x::t) (e:=some 0) (nx:=0) (Nat.succ_pos _) rfl
def wlP (l:List Pt)(m:List Ed)(n:Int):List Value→Option (Bool × List Int × Option Int)
 |[.int .i64 f]=>some (decide (l.length≤1000)&&decide (m.length≤1000),if MD l m n f=true then wlI l m f else [],some (if MD l m n f=true then 0 else 1))
 |_=>none
def aL7:Nat × XF:=(24,mRX wlP)
def voS (l:List Pt)(m:List Ed)(n:Int):List Value→Option (Bool × Value)
 |[]=>some (decide (l.length≤1000)&&decide (m.length≤1000),.bool (dE l m n))
 |_=>none
def aB8:Nat × XF:=(70,mX aP aR voS)
theorem aHi:cJ Go.Proofs.Tryz.prog aB8.1 aB8.2:=by
 have e:voS=vaS:=by
  funext l m n r;cases r with
  |nil=>show some (_,Value.bool (dE l m n))=some (_,Value.bool (G8 l m n));rw [aAU]
  |cons a r=>rfl
 show cJ _ 70 (mX aP aR voS);rw [e];exact aJZ
def X85:Nat × XF:=(85,mX aP aR (sMD fun l m n f=>(true,.bool (zX n f))))
theorem x85:cJ Go.Proofs.Tryz.prog X85.1 X85.2:=sS aP aR (aK (xl:=[]) .nil) fun l m n r v hs=>by
 obtain⟨f,rfl,_,rfl⟩:=y9 hs;refine⟨rfl,rfl,fun c1 c2=>?_⟩;unfold zX;((conv=>whnf);refine bm (fun h1=>?_) (fun h1=>?_))
 ·have h1:decide (0≤f)=true:=by
   have h1:(decide (0≤f) == true)=true:=h1;simpa using h1
  (conv=>whnf);rw [h1,Bool.true_and];rfl
 ·have h1:decide (0≤f)=false:=by
   have h1:(decide (0≤f) == true)=false:=h1;simpa using h1
  (conv=>whnf);rw [h1,Bool.false_and]
theorem smB {l:List Pt}{m:List Ed}(h:l.length≤1000∧m.length≤1000):(decide (l.length≤1000)&&decide (m.length≤1000))=true:=by
 rw [decide_eq_true h.1,decide_eq_true h.2];rfl
def aKD:Nat × XF:=(23,mX aP aR nxP)
def aLz:Nat × XF:=(27,mX aP aR a2P)
theorem aHX {l:List Pt}{m:List Ed}{n f:Int}(ho:dE l m n=true)(hb:zX n f=true):RE m (X2 l m f)=true∧1≤(X2 l m f).length∧(X2 l m f).length≤10000∧mE l m (X2 l m f) (X2 l m f).length=I6 l (a9 l m m.length) (X2 l m f) (X2 l m f).length:=by
 have hb2:=hb;simp only [zX,Bool.and_eq_true,decide_eq_true_eq] at hb2;obtain⟨d,e1,e2,e3,e4,e5,e6,e7,e8⟩:=aIa ho hb2.1 hb2.2;obtain⟨hM,h3,h1l,h400,m400,_,_⟩:=jX (qR ho);have e:X2 l m f=xB (a9 l m m.length) (outs l m) d:=(by unfold X2;rw [e1]);rw [e];refine⟨List.all_eq_true.2 fun x hx=>?_,e7,by omega,J8 l m e6 _ (Nat.le_refl _)⟩;obtain⟨i,hi,rfl⟩:=List.getElem_of_mem hx;have:=jJ e6 hi;rw [gP hi,bP] at this;simp only [o5,Bool.and_eq_true,decide_eq_true_eq];omega
def aLp:Nat × XF:=(25,mRX wlP)
def s94 (l:List Pt)(m:List Ed)(n:Int):List Value→Option (Bool × List Int × Option Int)
 |[.int .i64 a,.int .i64 b]=>some (decide (m.length≤1000),bL (pI a b) m m.length,none)
 |_=>none
def U2 (a b:Int)(v:Value)(j:Int):List (Nat × Value):=[(1,iv a),(2,iv b),(3,.pointer (some ⟨2,0,none⟩)),(7,v),(8,iv j)]
def uD (l:List Pt)(m:List Ed)(c1 c2:Nat)(n:Int):Heap:=(2,aW l.length m.length c1 c2 n)::aC aP aR l m
def aGo:Nat × XF:=(94,mRX s94)
theorem aLl:cJ Go.Proofs.Tryz.prog aGo.1 aGo.2:=E3 (aK (xl:=[]) .nil) fun l m n r out e hs=>by
 have:∃ a b,r=[iv a,iv b]∧m.length≤1000∧out=bL (pI a b) m m.length∧e=none:=by
  unfold s94 at hs;split at hs
  ·injection hs with hs;injection hs with h1 h2;injection h2 with h2 h3;exact⟨_,_,rfl,of_decide_eq_true h1,h2.symm,h3.symm⟩
  ·cases hs
 obtain⟨a,b,rfl,hm,rfl,rfl⟩:=this;clear hs;refine⟨rfl,fun c1 c2=>?_⟩;(conv=>whnf)
 refine⟨fun q e h nx=>∃ (i:Nat) (j:Int),j=i∧i≤m.length∧q=m.length - i ∧
  ((bL (pI a b) m i=[]∧e=U2 a b (.slice none 0 0) j∧h=uD l m c1 c2 n∧nx=3) ∨
   (0<(bL (pI a b) m i).length∧e=U2 a b (.slice (some ⟨3,0,none⟩) (bL (pI a b) m i).length (bL (pI a b) m i).length) j∧h=(3,.cells true false 1 (flat aO.fl (bL (pI a b) m i)))::uD l m c1 c2 n∧nx=4)),⟨m.length,?_⟩,?_⟩
 ·refine aL (e0:=U2 a b (.slice none 0 0) 0) (h0:=uD l m c1 c2 n) (n0:=3) ⟨0,0,rfl,Nat.zero_le _,rfl,.inl ⟨rfl,rfl,rfl,rfl⟩⟩ ?_ ?_ (by decide)
  ·unfold U2;((repeat' refine iE rfl rfl ?_);exact iN)
  ·unfold uD aW aC;((repeat'(first|refine iF rfl rfl ?_|refine iC rfl rfl rfl ?_|refine iJ rfl rfl rfl rfl ?_));exact iN)
 ·rintro q e h nx ⟨i,j,hj,hi,rfl,hx⟩;rcases hx with ⟨hnil,rfl,rfl,rfl⟩|⟨hpos,rfl,rfl,rfl⟩
  ·unfold U2 uD aW aC;((conv=>whnf);refine bm (fun m1=>?_) (fun m1=>?_))
   ·have hil:i<m.length:=(by simp [aA,aB] at m1;omega);((conv=>whnf);refine bm (fun m2=>?_) (fun m2=>?_))
    ·(conv=>whnf);refine mR (A4 m (i:=i) hil ?_) ?_
     ·show _+Int.toNat j*5=_;omega
     cases hp:pI a b (cN m i) with
     |true =>
      have hf:bL (pI a b) m (i+1)=[j]:=by rw [AO hp,hnil,hj];rfl
      repeat' (((conv=>whnf);refine bm (fun g=>?_) (fun g=>?_)))
      all_goals (conv=>whnf)
      all_goals first
       |(refine⟨m.length - (i+1),by omega,?_⟩
         refine gC (e0:=U2 a b (.slice (some ⟨3,0,none⟩) 1 1) (j+1)) (h0:=(3,.cells true false 1 (flat aO.fl [j]))::uD l m c1 c2 n) (n0:=4) 3 5 (by decide) (by decide) ⟨i+1,j+1,by omega,by omega,rfl,.inr ⟨by rw [hf];exact Nat.one_pos,by rw [hf];rfl,by rw [hf];rfl,rfl⟩⟩ ?_ ?_ ?_
         ·unfold U2;((repeat' refine iE rfl rfl ?_);exact iN)
         ·unfold uD aW aC;((repeat'(first|refine iF rfl rfl ?_|refine iC rfl rfl rfl ?_|refine iJ rfl rfl rfl rfl ?_));exact iN)
         ·unfold uD;((repeat' refine iK rfl ?_);exact iN))
       |(exfalso;clear hf;unfold pI at hp;simp [aA,aB,aH] at *;first|omega|(simp_all;done)|(simp_all;omega))
     |false =>
      have hf:bL (pI a b) m (i+1)=[]:=(AQ hp).trans hnil
      repeat' (((conv=>whnf);refine bm (fun g=>?_) (fun g=>?_)))
      all_goals (conv=>whnf)
      all_goals first
       |(refine⟨m.length - (i+1),by omega,?_⟩
         refine aL (e0:=U2 a b (.slice none 0 0) (j+1)) (h0:=uD l m c1 c2 n) (n0:=3) ⟨i+1,j+1,by omega,by omega,rfl,.inl ⟨hf,rfl,rfl,rfl⟩⟩ ?_ ?_ (by decide)
         ·unfold U2;((repeat' refine iE rfl rfl ?_);exact iN)
         ·unfold uD aW aC;((repeat'(first|refine iF rfl rfl ?_|refine iC rfl rfl rfl ?_|refine iJ rfl rfl rfl rfl ?_));exact iN))
       |(exfalso;clear hf;unfold pI at hp;simp [aA,aB,aH] at *;first|omega|(simp_all;done)|(simp_all;omega))
    ·exfalso;simp [aA,aB] at m2;omega
   ·have hil:i=m.length:=(by simp [aA,aB] at m1;omega);(conv=>whnf);rw [hil] at hnil;rw [hnil];rfl
  ·unfold U2 uD aW aC;have hlen:(flat aO.fl (bL (pI a b) m i)).length=(bL (pI a b) m i).length:=(by rw [bF];show _*1=_;omega);have hle:=qG (pI a b) m i;((conv=>whnf);refine bm (fun m1=>?_) (fun m1=>?_))
   ·have hil:i<m.length:=(by simp [aA,aB] at m1;omega);((conv=>whnf);refine bm (fun m2=>?_) (fun m2=>?_))
    ·(conv=>whnf);refine mR (A4 m (i:=i) hil ?_) ?_
     ·show _+Int.toNat j*5=_;omega
     cases hp:pI a b (cN m i) with
     |true =>
      have hf:bL (pI a b) m (i+1)=bL (pI a b) m i++[j]:=(by rw [AO hp,hj]);generalize bL (pI a b) m i=L at *
      repeat' (((conv=>whnf);refine bm (fun g=>?_) (fun g=>?_)))
      all_goals (conv=>whnf)
      all_goals first
       |(refine⟨m.length - (i+1),by omega,?_⟩
         refine gC (e0:=U2 a b (.slice (some ⟨3,0,none⟩) (L.length+1) (L.length+1)) (j+1)) (h0:=(3,.cells true false 1 (flat aO.fl (L++[j])))::uD l m c1 c2 n) (n0:=4) 3 6 (by decide) (by decide) ⟨i+1,j+1,by omega,by omega,rfl,.inr ⟨by rw [hf,List.length_append];exact Nat.succ_pos _,by rw [hf,List.length_append];rfl,by rw [hf];rfl,rfl⟩⟩ ?_ ?_ ?_
         ·unfold U2;((repeat' refine iE rfl rfl ?_);exact iN)
         ·unfold uD aW aC;((repeat'(first|refine iW rfl rfl (bD (aI aO _) (fA aO L j rfl)) ?_|refine iF rfl rfl ?_|refine iC rfl rfl rfl ?_|refine iJ rfl rfl rfl rfl ?_));exact iN)
         ·unfold uD;((repeat' refine iK rfl ?_);exact iN))
       |exact oZ (s:=1) (by omega) (by omega) (by assumption)
       |(exfalso;rename_i g;have:=Nat.le_of_ble_eq_true g;omega)
       |(exfalso;clear hf;unfold pI at hp;simp [aA,aB,aH] at *;first|omega|(simp_all;done)|(simp_all;omega))
     |false =>
      have hf:bL (pI a b) m (i+1)=bL (pI a b) m i:=AQ hp;generalize bL (pI a b) m i=L at *
      repeat' (((conv=>whnf);refine bm (fun g=>?_) (fun g=>?_)))
      all_goals (conv=>whnf)
      all_goals first
       |(refine⟨m.length - (i+1),by omega,?_⟩
         refine aL (e0:=U2 a b (.slice (some ⟨3,0,none⟩) L.length L.length) (j+1)) (h0:=(3,.cells true false 1 (flat aO.fl L))::uD l m c1 c2 n) (n0:=4) ⟨i+1,j+1,by omega,by omega,rfl,.inr ⟨by rw [hf];exact hpos,by rw [hf];rfl,by rw [hf];rfl,rfl⟩⟩ ?_ ?_ (by decide)
         ·unfold U2;((repeat' refine iE rfl rfl ?_);exact iN)
         ·unfold uD aW aC;((repeat'(first|refine iF rfl rfl ?_|refine iC rfl rfl rfl ?_|refine iJ rfl rfl rfl rfl ?_));exact iN))
       |(exfalso;clear hf;unfold pI at hp;simp [aA,aB,aH] at *;first|omega|(simp_all;done)|(simp_all;omega))
    ·exfalso;simp [aA,aB] at m2;omega
   ·have hil:i=m.length:=(by simp [aA,aB] at m1;omega);(conv=>whnf);rw [show bL (pI a b) m m.length=bL (pI a b) m i by rw [← hil]];have:=j0 aO (l:=bL (pI a b) m i) (e:=none) (h:=(3,.cells true false 1 (flat aO.fl (bL (pI a b) m i)))::uD l m c1 c2 n) (q:=3) (nx:=4) hpos rfl;exact this
def aGQ:Nat × XF:=(29,mRX srP)
theorem aLd:cJ Go.Proofs.Tryz.prog aGQ.1 aGQ.2:=E3 (aK (xl:=[aB8,X85,aGo]) (.cons aHi (.cons x85 (.cons aLl .nil)))) fun l m n r out e hs=>by
 obtain⟨a,b,rfl,hlm,rfl,rfl⟩:=T3 hs;clear hs;have hfb:shB l m n a b=(dE l m n&&(zX n a&&zX n b)):=rfl;refine⟨rfl,fun c1 c2=>?_⟩;generalize hQ:Yields aO (if shB l m n a b=true then bL (pI a b) m m.length else []) (some (if shB l m n a b=true then 0 else 1))=Q;(conv=>whnf);refine⟨l,m,aD aP rfl,aD aR rfl,?_⟩;refine aJ (smB hlm) ?_;cases ho:dE l m n with
 |false =>
  rw [ho,Bool.false_and] at hfb;(conv=>whnf);rw [← hQ,hfb];rfl
 |true =>
  rw [ho,Bool.true_and] at hfb;(conv=>whnf);refine⟨l,m,aD aP rfl,aD aR rfl,?_⟩;(conv=>whnf);cases hb:zX n a with
  |false =>
   rw [hb,Bool.false_and] at hfb;(conv=>whnf);rw [← hQ,hfb];rfl
  |true =>
   rw [hb,Bool.true_and] at hfb;(conv=>whnf);refine⟨l,m,aD aP rfl,aD aR rfl,?_⟩;(conv=>whnf);cases hb2:zX n b with
   |false =>
    rw [hb2] at hfb;(conv=>whnf);rw [← hQ,hfb];rfl
   |true =>
    rw [hb2] at hfb;rw [hfb,if_pos rfl,if_pos rfl] at hQ;generalize hO:bL (pI a b) m m.length=O at *;(conv=>whnf);refine⟨_,_,_,[iv a,iv b],l,m,rfl,aD aP rfl,aD aR rfl,?_⟩;rw [show s94 l m n [iv a,iv b]=some (decide (m.length≤1000),O,none) from by rw [← hO];rfl];refine aJ (decide_eq_true hlm.2) ?_;cases O with
    |nil=>(conv=>whnf);rw [← hQ];rfl
    |cons x t =>
     (conv=>whnf);rw [← hQ];exact j0 aO (l:=x::t) (e:=some 0) (nx:=0) (Nat.succ_pos _) rfl
def UW (v:Value)(j:Int):List (Nat × Value):=[(1,.pointer (some ⟨2,0,none⟩)),(5,v),(6,iv j)]
def aFO:Nat × XF:=(31,mRX deP)
theorem aKB:cJ Go.Proofs.Tryz.prog aFO.1 aFO.2:=E3 (aK (xl:=[aB8]) (.cons aHi .nil)) fun l m n r out e hs=>by
 obtain⟨rfl,hlm,rfl,rfl⟩:=TU hs;clear hs;refine⟨rfl,fun c1 c2=>?_⟩;generalize hQ:Yields aO (if dE l m n=true then bL rM m m.length else []) (some (if dE l m n=true then 0 else 1))=Q;(conv=>whnf);refine⟨l,m,aD aP rfl,aD aR rfl,?_⟩;refine aJ (smB hlm) ?_;cases ho:dE l m n with
 |false =>
  (conv=>whnf);rw [← hQ,ho];rfl
 |true =>
  rw [ho,if_pos rfl,if_pos rfl] at hQ;have hm:=hlm.2;(conv=>whnf)
  refine⟨fun q e h nx=>∃ (i:Nat) (j:Int),j=i∧i≤m.length∧q=m.length - i ∧
   ((bL rM m i=[]∧e=UW (.slice none 0 0) j∧h=uD l m c1 c2 n∧nx=3) ∨
    (0<(bL rM m i).length∧e=UW (.slice (some ⟨3,0,none⟩) (bL rM m i).length (bL rM m i).length) j∧h=(3,.cells true false 1 (flat aO.fl (bL rM m i)))::uD l m c1 c2 n∧nx=4)),⟨m.length,?_⟩,?_⟩
  ·refine aL (e0:=UW (.slice none 0 0) 0) (h0:=uD l m c1 c2 n) (n0:=3) ⟨0,0,rfl,Nat.zero_le _,rfl,.inl ⟨rfl,rfl,rfl,rfl⟩⟩ ?_ ?_ (by decide)
   ·unfold UW;((repeat' refine iE rfl rfl ?_);exact iN)
   ·unfold uD aW aC;((repeat'(first|refine iF rfl rfl ?_|refine iC rfl rfl rfl ?_|refine iJ rfl rfl rfl rfl ?_));exact iN)
  ·rintro q e h nx ⟨i,j,hj,hi,rfl,hx⟩;rcases hx with ⟨hnil,rfl,rfl,rfl⟩|⟨hpos,rfl,rfl,rfl⟩
   ·unfold UW uD aW aC;((conv=>whnf);refine bm (fun m1=>?_) (fun m1=>?_))
    ·have hil:i<m.length:=(by simp [aA,aB] at m1;omega);((conv=>whnf);refine bm (fun m2=>?_) (fun m2=>?_))
     ·(conv=>whnf);refine fY (B8 m 2 (i:=i) hil rfl (by decide) ?_) ?_
      ·show _+Int.toNat j*5+2=_;omega
      ((conv=>whnf);refine bm (fun m2'=>?_) (fun m2'=>?_))
      ·(conv=>whnf);refine fY (B8 m 3 (i:=i) hil rfl (by decide) ?_) ?_
       ·show _+Int.toNat j*5+3=_;omega
       cases hp:rM (cN m i) with
       |true =>
        have hf:bL rM m (i+1)=[j]:=by rw [AO hp,hnil,hj];rfl
        repeat' (((conv=>whnf);refine bm (fun g=>?_) (fun g=>?_)))
        all_goals (conv=>whnf)
        all_goals first
         |(refine⟨m.length - (i+1),by omega,?_⟩
           refine gC (e0:=UW (.slice (some ⟨3,0,none⟩) 1 1) (j+1)) (h0:=(3,.cells true false 1 (flat aO.fl [j]))::uD l m c1 c2 n) (n0:=4) 3 4 (by decide) (by decide) ⟨i+1,j+1,by omega,by omega,rfl,.inr ⟨by rw [hf];exact Nat.one_pos,by rw [hf];rfl,by rw [hf];rfl,rfl⟩⟩ ?_ ?_ ?_
           ·unfold UW;((repeat' refine iE rfl rfl ?_);exact iN)
           ·unfold uD aW aC;((repeat'(first|refine iF rfl rfl ?_|refine iC rfl rfl rfl ?_|refine iJ rfl rfl rfl rfl ?_));exact iN)
           ·unfold uD;((repeat' refine iK rfl ?_);exact iN))
         |(exfalso;clear hf;unfold rM at hp;simp [aA,aB,aH] at *;first|omega|(simp_all;done)|(simp_all;omega))
       |false =>
        have hf:bL rM m (i+1)=[]:=(AQ hp).trans hnil
        repeat' (((conv=>whnf);refine bm (fun g=>?_) (fun g=>?_)))
        all_goals (conv=>whnf)
        all_goals first
         |(refine⟨m.length - (i+1),by omega,?_⟩
           refine aL (e0:=UW (.slice none 0 0) (j+1)) (h0:=uD l m c1 c2 n) (n0:=3) ⟨i+1,j+1,by omega,by omega,rfl,.inl ⟨hf,rfl,rfl,rfl⟩⟩ ?_ ?_ (by decide)
           ·unfold UW;((repeat' refine iE rfl rfl ?_);exact iN)
           ·unfold uD aW aC;((repeat'(first|refine iF rfl rfl ?_|refine iC rfl rfl rfl ?_|refine iJ rfl rfl rfl rfl ?_));exact iN))
         |(exfalso;clear hf;unfold rM at hp;simp [aA,aB,aH] at *;first|omega|(simp_all;done)|(simp_all;omega))
      ·exfalso;simp [aA,aB] at m2';omega
     ·exfalso;simp [aA,aB] at m2;omega
    ·have hil:i=m.length:=(by simp [aA,aB] at m1;omega);(conv=>whnf);rw [← hQ,← hil,hnil];rfl
   ·unfold UW uD aW aC;have hlen:(flat aO.fl (bL rM m i)).length=(bL rM m i).length:=(by rw [bF];show _*1=_;omega);have hle:=qG rM m i;((conv=>whnf);refine bm (fun m1=>?_) (fun m1=>?_))
    ·have hil:i<m.length:=(by simp [aA,aB] at m1;omega);((conv=>whnf);refine bm (fun m2=>?_) (fun m2=>?_))
     ·(conv=>whnf);refine fY (B8 m 2 (i:=i) hil rfl (by decide) ?_) ?_
      ·show _+Int.toNat j*5+2=_;omega
      ((conv=>whnf);refine bm (fun m2'=>?_) (fun m2'=>?_))
      ·(conv=>whnf);refine fY (B8 m 3 (i:=i) hil rfl (by decide) ?_) ?_
       ·show _+Int.toNat j*5+3=_;omega
       cases hp:rM (cN m i) with
       |true =>
        have hf:bL rM m (i+1)=bL rM m i++[j]:=(by rw [AO hp,hj]);generalize bL rM m i=L at *
        repeat' (((conv=>whnf);refine bm (fun g=>?_) (fun g=>?_)))
        all_goals (conv=>whnf)
        all_goals first
         |(refine⟨m.length - (i+1),by omega,?_⟩
           refine gC (e0:=UW (.slice (some ⟨3,0,none⟩) (L.length+1) (L.length+1)) (j+1)) (h0:=(3,.cells true false 1 (flat aO.fl (L++[j])))::uD l m c1 c2 n) (n0:=4) 3 5 (by decide) (by decide) ⟨i+1,j+1,by omega,by omega,rfl,.inr ⟨by rw [hf,List.length_append];exact Nat.succ_pos _,by rw [hf,List.length_append];rfl,by rw [hf];rfl,rfl⟩⟩ ?_ ?_ ?_
           ·unfold UW;((repeat' refine iE rfl rfl ?_);exact iN)
           ·unfold uD aW aC;((repeat'(first|refine iW rfl rfl (bD (aI aO _) (fA aO L j rfl)) ?_|refine iF rfl rfl ?_|refine iC rfl rfl rfl ?_|refine iJ rfl rfl rfl rfl ?_));exact iN)
           ·unfold uD;((repeat' refine iK rfl ?_);exact iN))
         |exact oZ (s:=1) (by omega) (by omega) (by assumption)
         |(exfalso;rename_i g;have:=Nat.le_of_ble_eq_true g;omega)
         |(exfalso;clear hf;unfold rM at hp;simp [aA,aB,aH] at *;first|omega|(simp_all;done)|(simp_all;omega))
       |false =>
        have hf:bL rM m (i+1)=bL rM m i:=AQ hp;generalize bL rM m i=L at *
        repeat' (((conv=>whnf);refine bm (fun g=>?_) (fun g=>?_)))
        all_goals (conv=>whnf)
        all_goals first
         |(refine⟨m.length - (i+1),by omega,?_⟩
           refine aL (e0:=UW (.slice (some ⟨3,0,none⟩) L.length L.length) (j+1)) (h0:=(3,.cells true false 1 (flat aO.fl L))::uD l m c1 c2 n) (n0:=4) ⟨i+1,j+1,by omega,by omega,rfl,.inr ⟨by rw [hf];exact hpos,by rw [hf];rfl,by rw [hf];rfl,rfl⟩⟩ ?_ ?_ (by decide)
           ·unfold UW;((repeat' refine iE rfl rfl ?_);exact iN)
           ·unfold uD aW aC;((repeat'(first|refine iF rfl rfl ?_|refine iC rfl rfl rfl ?_|refine iJ rfl rfl rfl rfl ?_));exact iN))
         |(exfalso;clear hf;unfold rM at hp;simp [aA,aB,aH] at *;first|omega|(simp_all;done)|(simp_all;omega))
      ·exfalso;simp [aA,aB] at m2';omega
     ·exfalso;simp [aA,aB] at m2;omega
    ·have hil:i=m.length:=(by simp [aA,aB] at m1;omega);(conv=>whnf);rw [← hQ,show bL rM m m.length=bL rM m i by rw [← hil]];have:=j0 aO (l:=bL rM m i) (e:=some 0) (h:=(3,.cells true false 1 (flat aO.fl (bL rM m i)))::uD l m c1 c2 n) (q:=3) (nx:=4) hpos rfl;exact this
end Go.Aw
end
