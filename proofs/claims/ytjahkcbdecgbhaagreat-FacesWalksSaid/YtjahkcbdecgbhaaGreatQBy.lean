/-
  Parts of the proof, put together. No condition.
-/
import Derived.Test.YtjahkcbdecgbhaaGreatQBx
set_option linter.unusedSimpArgs false
set_option linter.unusedVariables false
noncomputable section
namespace Go.Aw
set_option maxRecDepth 100000
set_option maxHeartbeats 2000000
def YC:Nat × XF:=(83,aHH (ofW wkS))
theorem aHn:cE Go.Proofs.Tryz.prog YC.1 YC.2:=aDz aHS
def aFS:Nat × XF:=(89,aBL (ofW arS))
theorem aJr:cE Go.Proofs.Tryz.prog aFS.1 aFS.2:=aBG (s:=arS) aI8
def zE (l:List Pt)(m:List Ed)(f:Int):List Int:=uJ (aW l m m.length) (outs l m) (oX f (c9 l m).face 0)
def j8 (l:List Pt)(m:List Ed)(n f:Int):Bool:=cX l m n&&(decide (0≤f)&&decide (f≤n))
def a2P (l:List Pt)(m:List Ed)(n:Int):List Value→Option (Bool × Value)
 |[.int .i64 f]=>some (decide (l.length≤1000)&&decide (m.length≤1000),.tuple #[iv (if j8 l m n f=true then F5 l (aW l m m.length) (zE l m f) (zE l m f).length else 0),iv (if j8 l m n f=true then 0 else 1)])
 |_=>none
theorem UQ {l:List Pt}{m:List Ed}{n f:Int}(ho:cX l m n=true)(h0:0≤f)(h1:f≤n):∃ d:Int,oX f (c9 l m).face 0=d∧0≤d∧d<2*m.length∧rL l (aW l m m.length) (outs l m)=true∧oA (aW l m m.length) (outs l m) d (mZ (aW l m m.length) (outs l m) d)=d∧eM (aW l m m.length) (uJ (aW l m m.length) (outs l m) d)=true∧1≤(uJ (aW l m m.length) (outs l m) d).length∧(uJ (aW l m m.length) (outs l m) d).length≤2*m.length+1:=by
 obtain⟨k,b1,b2,b3,b4⟩:=N7 ho h0 h1;have hok:=jS ho;have hw:=List.all_eq_true.1 (J3 hok) k (List.mem_range.2 (by rw [bI];exact b1));have w:=PE (l:=l) (EZ hok) (d:=k) (by rw [bI];exact b1);have p:=m7 (aW l m m.length) (outs l m) k (aW l m m.length).length 1;refine⟨k,b4,by omega,by omega,EZ hok,of_decide_eq_true hw,w.1,?_,?_⟩
 ·exact w.2.2
 ·have:=w.2.1;rw [bI] at this;exact this
def aFd:Nat × XF:=(26,mX aR aU a2P)
theorem aKo:cE Go.Proofs.Tryz.prog aFd.1 aFd.2:=l7 aR aU (jR (y6 (xl:=[X2,aAI,Y8,YC,aFS]) (.cons aFX (.cons aHM (.cons aHL (.cons aHn (.cons aJr .nil))))) 4) 6).1 fun l m n r v hs=>by
 have:∃ f,r=[iv f]∧(l.length≤1000∧m.length≤1000)∧v=.tuple #[iv (if j8 l m n f=true then F5 l (aW l m m.length) (zE l m f) (zE l m f).length else 0),iv (if j8 l m n f=true then 0 else 1)]:=by
  unfold a2P at hs;split at hs
  ·injection hs with hs;injection hs with h1 h2;simp only [Bool.and_eq_true,decide_eq_true_eq] at h1;exact⟨_,rfl,h1,h2.symm⟩
  ·cases hs
 obtain⟨f,rfl,hlm,rfl⟩:=this;clear hs;refine⟨rfl,rfl,fun c1 c2=>?_⟩;(conv=>whnf);refine⟨l,m,n,.slice (some ⟨0,0,none⟩) l.length c1,.slice (some ⟨1,0,none⟩) m.length c2,rfl,aG aR rfl,aG aU rfl,hlm,?_⟩;have hd:=bI l m m.length;have hfb:j8 l m n f=(cX l m n&&(decide (0≤f)&&decide (f≤n))):=rfl;cases ho:cX l m n with
 |false =>
  rw [ho,Bool.false_and] at hfb;refine .inr ⟨rfl,?_⟩;(conv=>whnf);rw [hfb];rfl
 |true =>
  rw [ho,Bool.true_and] at hfb;refine .inl ⟨rfl,?_⟩;have hW:WA _ (2+1+1+1+7) l m n:=aAk (nx:=2+1+1+1) (c1:=c1) (c2:=c2) ho hlm;have hno:∀ k,k<2+1+1+1∨_→_:=fun k hk=>S1 (nx:=2+1+1+1) (m:=m) (c1:=c1) (c2:=c2) (n:=n) hlm.1 hk;generalize wT _ l m=W at hW hno ⊢;generalize wTb _ l m=TB at hW hno ⊢;(conv=>whnf);refine⟨_,_,l,m,n,[f],1,rfl,sM (AM hW (fun k hk=>hno k (.inl hk)) rfl) (tO (nx:=2+1+1+1) rfl (by decide) (hno _ (.inr (by decide)))),⟨_,_,_,_,rfl,rfl⟩,?_⟩;((conv=>whnf);refine bm (fun g1=>?_) (fun g1=>?_))
  ·have g1:qG n f=false:=by
    have g1:(!qG n f)=true:=g1;simpa using g1
   (conv=>whnf);rw [hfb,show (decide (0≤f)&&decide (f≤n))=false from g1];rfl
  ·have g1:qG n f=true:=by
    have g1:(!qG n f)=false:=g1;simpa using g1
   have g2:=g1;simp only [qG,Bool.and_eq_true,decide_eq_true_eq] at g2;rw [show (decide (0≤f)&&decide (f≤n))=true from g1] at hfb;rw [hfb,if_pos rfl,if_pos rfl];unfold zE;obtain⟨d,e1,e2,e3,e4,e5,e6,e7,e8⟩:=UQ ho g2.1 g2.2;(conv=>whnf);refine⟨_,_,l,m,n,rfl,sM (AM hW (fun k hk=>hno k (.inl hk)) rfl) (tO (nx:=2+1+1+1) rfl (by decide) (hno _ (.inr (by decide)))),?_⟩;(conv=>whnf);rw [e1];refine⟨_,_,l,m,n,rfl,sM (AM hW (fun k hk=>hno k (.inl hk)) rfl) (tO (nx:=2+1+1+1) rfl (by decide) (hno _ (.inr (by decide)))),?_⟩;refine aJ (show (rL l (aW l m m.length) (outs l m)&&decide (0≤d)&&decide (d<(aW l m m.length).length)&&decide (oA (aW l m m.length) (outs l m) d (mZ (aW l m m.length) (outs l m) d)=d))=true from ?_) ?_
   ·rw [e4,decide_eq_true e2,decide_eq_true (show d<((aW l m m.length).length:Int) by rw [hd];omega),decide_eq_true e5];rfl
   generalize uJ (aW l m m.length) (outs l m) d=L at *;(conv=>whnf);refine⟨_,_,l,m,n,L,L.length,rfl,sM (sM (AM hW (fun k hk=>hno k (.inl hk)) rfl) (tO (nx:=2+1+1+1) rfl (by decide) (hno _ (.inr (by decide))))) (aDe (by decide) (tO (nx:=2+1+1+1) rfl (by decide) (hno _ (.inr (by decide))))),⟨_,_,_,_,rfl,List.take_length⟩,?_⟩;refine aJ (show (ED l (aW l m m.length) (outs l m)&&eM (aW l m m.length) L&&decide (L.length≤100000))=true from ?_) ?_
   ·rw [xJ e4,e6,decide_eq_true (by omega)];rfl
   (conv=>whnf);rfl
def mRX (s:List Pt→List Ed→Int→List Value→Option (Bool × List Int × Option Int)):XF:=fun args h nx K=>∃ p q n r l m,args=mapA p q n::r∧gP aR h p l∧gP aU h q m ∧
 (match s l m n r with|some pr=>dE pr.1 (aBM aP pr.2.1 pr.2.2 h nx K)|none=>False)
theorem Z5 {P:Program}{C:VC}{f:Nat}{s:List Pt→List Ed→Int→List Value→Option (Bool × List Int × Option Int)}(hC:bE P C)
  (hs:∀ l m n r out e,s l m n r=some (true,out,e)→dU r=true∧∀ c1 c2,C f (aE l.length m.length c1 c2 n::r) (aB aR aU l m) 2 (Yields aP out e)):cE P f (mRX s):=by
 refine (aFa aP (T:=fun args0 h0 n0 out e=>C f args0 h0 n0 (Yields aP out e)) hC ?_).mono ?_ ?_
 ·rintro args0 h0 n0 out e hc;exact hc
 ·rintro args h nx K ⟨p,q,n,r,l,m,rfl,hl,hm,hx⟩;split at hx
  case h_2=>exact hx.elim
  rename_i pr e1;obtain⟨bb,out,e⟩:=pr;obtain⟨rfl,hx⟩:=aF.1 hx;obtain⟨a1,a3⟩:=hs l m n r out e e1;obtain⟨c1,c2,i⟩:=JX (n:=n) (nx:=nx) aR aU a1 hl hm;exact aCL aP (a3 c1 c2) i hx
 ·rintro args h nx K ⟨p,q,n,r,l,m,rfl,hl,hm,hx⟩;split at hx
  case h_2=>exact hx.elim
  rename_i pr e1;obtain⟨bb,out,e⟩:=pr;obtain⟨hb,hx⟩:=aF.1 hx;cases out with
  |nil=>exact⟨_,_,_,hx,fun K' hk'=>⟨p,q,n,r,l,m,rfl,hl,hm,by rw [e1];exact aJ hb hk'⟩⟩
  |cons a t=>exact⟨_,_,_,hx,fun K' hk'=>⟨p,q,n,r,l,m,rfl,hl,hm,by rw [e1];exact aJ hb hk'⟩⟩
theorem VJ {l:List Pt}{m:List Ed}{c1 c2 b:Nat}{n:Int}{cs:List Value}(hc:c7 cs=true):AR (dW (bM (bM (bM (aB aR aU l m) 2 (.cells true false 1 [.slice (some ⟨0,0,none⟩) l.length c1,.slice (some ⟨1,0,none⟩) m.length c2,iv n])) 3 (.cells true false 1 cs)) 4 (.cells true false 1 [.slice (some ⟨0,0,none⟩) l.length c1,.slice (some ⟨1,0,none⟩) m.length c2,iv n]))) (b+5):=by
 have hb:∀ {b},5≤b→bU id b (.cells true false 1 [.slice (some ⟨0,0,none⟩) l.length c1,.slice (some ⟨1,0,none⟩) m.length c2,iv n]) (.cells true false 1 [.slice (some ⟨0,0,none⟩) l.length c1,.slice (some ⟨1,0,none⟩) m.length c2,iv n]):=fun {b} h =>
  ⟨rfl,rfl,rfl,rfl,List.forall_mem_cons.2 ⟨⟨Nat.lt_of_lt_of_le (by decide:0<5) h,fun h=>by cases h⟩,List.forall_mem_cons.2 ⟨⟨Nat.lt_of_lt_of_le (by decide:1<5) h,fun h=>by cases h⟩,List.forall_mem_cons.2 ⟨cM rfl,fun _ h=>(by cases h)⟩⟩⟩⟩
 refine MZ ?_ rfl;exact cO (cO (cO (cO (cO (fun k o hk=>by cases hk) (by omega) (aM (aI _ _))) (by omega) (aM (aI _ _))) (by omega) (hb (by omega))) (by omega) (aM hc)) (by omega) (hb (by omega))
theorem aGS {nx:Nat}{l:List Pt}{m:List Ed}{c1 c2:Nat}{n:Int}(hl:l.length≤1000):AR (wN nx l m c1 c2 n (wTb nx l m) (wT nx l m)) (nx+2004):=by
 rw [← TH];exact PI (n:=nx) (W:=WU l m c1 c2 n) (b:=2004) (fun k o hk=>KX hl k o (K3 k o hk)) (zZ 3 qT)
def H5 (l:List Pt)(m:List Ed)(n:Int)(c1 c2:Nat)(cs:List Value):Heap :=
 app (dW (bM (bM (bM (aB aR aU l m) 2 (.cells true false 1 [.slice (some ⟨0,0,none⟩) l.length c1,.slice (some ⟨1,0,none⟩) m.length c2,iv n])) 3 (.cells true false 1 cs)) 4 (.cells true false 1 [.slice (some ⟨0,0,none⟩) l.length c1,.slice (some ⟨1,0,none⟩) m.length c2,iv n]))) (wN 5 l m c1 c2 n (wTb 5 l m) (wT 5 l m))
theorem aFR {l:List Pt}{m:List Ed}{n:Int}{c1 c2:Nat}{cs:List Value}(hl:l.length≤1000)(hc:c7 cs=true):AR (H5 l m n c1 c2 cs) 2009:=SK (VJ (b:=2004) hc) (aGS (nx:=5) hl)
theorem aIw {l:List Pt}{m:List Ed}{n:Int}{c1 c2:Nat}{cs:List Value}(ho:cX l m n=true)(hs:l.length≤1000∧m.length≤1000):WA (H5 l m n c1 c2 cs) 12 l m n :=
 AM (nx:=5) (aAk (nx:=5) ho hs) (fun k hk=>S1 hs.1 (.inl hk)) rfl
theorem aHG {l:List Pt}{m:List Ed}{n:Int}{c1 c2:Nat}{cs:List Value}(hl:l.length≤1000){k:Nat}(hk:2009≤k):look (H5 l m n c1 c2 cs) k=none:=tO (nx:=5) rfl (by omega) (S1 hl (.inr hk))
theorem NH {v:Value}{H' h:Heap}{b n0 nx:Nat}(hv:jH id v=v)(hn:BM n0 v)(hh:∀ k o,look H' k=some o→look h k=some o)(hok:AR H' n0)(hb:b≤n0):∃ ρ,pC b ρ [(0,v)] H' n0 [(0,v)] h nx:=by
 refine⟨id,fun t u hu=>?_,fun k o hk=>⟨(hok k o hk).1,o,hh k o hk,(hok k o hk).2⟩,fun _ _ _ _ _ _ e=>e,fun _ _=>rfl,hb⟩;have hm:=a8 hu;simp only [List.mem_cons,List.not_mem_nil,or_false] at hm;injection hm with e1 e2;subst e1 e2;rw [hv];exact⟨rfl,hn⟩
structure A81 where
 l:List Pt
 m:List Ed
 n:Int
 c1:Nat
 c2:Nat
 f:Int
 b:Bool
def JE (D:List Dt)(L:List Int):Nat→List Int
 |0=>L
 |i+1=>(JE D L i).set i (bR D (aN L i).toNat).fr
theorem wZ (D:List Dt)(L:List Int):∀ i,(JE D L i).length=L.length
 |0=>rfl
 |i+1=>by unfold JE;rw [List.length_set];exact wZ D L i
theorem YH (D:List Dt)(L:List Int):∀ (i k:Nat),i≤k→aN (JE D L i) k=aN L k
 |0,k,_=>rfl
 |i+1,k,h=>by
  unfold JE;rw [← YH D L i k (by omega)];unfold aN;rw [List.getD_eq_getElem?_getD,List.getD_eq_getElem?_getD,List.getElem?_set,if_neg (by omega)];rfl
def aKj (a:A81):Prop:=cX a.l a.m a.n=true∧(a.l.length≤1000∧a.m.length≤1000)∧qG a.n a.f=a.b
def GW (l:List Pt)(m:List Ed)(f:Int):List Int:=JE (aW l m m.length) (zE l m f) (zE l m f).length
def v81 (a:A81):Value:=match a.b with|true=>.tuple #[.slice (some ⟨2010,0,none⟩) (GW a.l a.m a.f).length (GW a.l a.m a.f).length,iv 0]|false=>.tuple #[aO,iv 1]
def h81 (a:A81):Heap:=match a.b with|true=>(2010,.cells true false 1 (flat aP.fl (GW a.l a.m a.f)))::(2009,.cells true false 1 (flat aP.fl [a.f]))::H5 a.l a.m a.n a.c1 a.c2 [iv a.f]|false=>H5 a.l a.m a.n a.c1 a.c2 [iv a.f]
def n81 (a:A81):Nat:=match a.b with|true=>2011|false=>2009
def X81:XF:=dX aKj (fun a=>[.pointer (some ⟨12,0,none⟩),.pointer (some ⟨3,0,none⟩)]) (fun a=>H5 a.l a.m a.n a.c1 a.c2 [iv a.f]) (fun _=>2009) v81 h81 n81
def e81 (N:Nat)(j:Int):List (Nat × Value):=[(0,.pointer (some ⟨12,0,none⟩)),(5,.slice (some ⟨2010,0,none⟩) N N),(18,.slice (some ⟨2010,0,none⟩) N N),(19,iv N),(20,iv j)]
theorem w81 (l:List Pt)(m:List Ed)(n:Int)(c1 c2:Nat)(f:Int)(b:Bool)(ho:cX l m n=true)(hlm:l.length≤1000∧m.length≤1000)(hb:qG n f=b) :
  body [aAI,Y8,YC] 81 [.pointer (some ⟨12,0,none⟩),.pointer (some ⟨3,0,none⟩)] (H5 l m n c1 c2 [iv f]) 2009 (fun v h nx=>∃ ρ,pC 2009 ρ [(0,v81 ⟨l,m,n,c1,c2,f,b⟩)] (h81 ⟨l,m,n,c1,c2,f,b⟩) (n81 ⟨l,m,n,c1,c2,f,b⟩) [(0,v)] h nx):=by
 have hW:=aIw (c1:=c1) (c2:=c2) (cs:=[iv f]) ho hlm;have hK:=aFR (l:=l) (m:=m) (n:=n) (c1:=c1) (c2:=c2) (cs:=[iv f]) hlm.1 rfl;have hN:∀ k,2009≤k→look (H5 l m n c1 c2 [iv f]) k=none:=fun k hk=>aHG hlm.1 hk;have hd:=bI l m m.length;(conv=>whnf);refine⟨_,_,l,m,n,[f],1,rfl,sM hW (hN _ (by decide)),⟨_,_,_,_,rfl,rfl⟩,?_⟩;((conv=>whnf);refine bm (fun g1=>?_) (fun g1=>?_))
 ·have g1:qG n f=false:=by
   have g1:(!qG n f)=true:=g1;simpa using g1
  rw [g1] at hb;subst hb;(conv=>whnf);exact NH (v:=v81 ⟨l,m,n,c1,c2,f,false⟩) (pQ rfl) (dL rfl) (eT (fun _ _ h=>h) (hN _ (by decide))) hK (Nat.le_refl _)
 ·have g1:qG n f=true:=by
   have g1:(!qG n f)=false:=g1;simpa using g1
  rw [g1] at hb;subst hb;have g2:=g1;simp only [qG,Bool.and_eq_true,decide_eq_true_eq] at g2;obtain⟨d,e1,e2,e3,e4,e5,e6,e7,e8⟩:=UQ ho g2.1 g2.2;have hwl:GW l m f=JE (aW l m m.length) (uJ (aW l m m.length) (outs l m) d) (uJ (aW l m m.length) (outs l m) d).length:=(by unfold GW zE;rw [e1]);(conv=>whnf);refine⟨_,_,l,m,n,rfl,sM hW (hN _ (by decide)),?_⟩;(conv=>whnf);rw [e1];refine⟨_,_,l,m,n,rfl,sM hW (hN _ (by decide)),?_⟩;refine aJ (show (rL l (aW l m m.length) (outs l m)&&decide (0≤d)&&decide (d<(aW l m m.length).length)&&decide (oA (aW l m m.length) (outs l m) d (mZ (aW l m m.length) (outs l m) d)=d))=true from ?_) ?_
  ·rw [e4,decide_eq_true e2,decide_eq_true (show d<((aW l m m.length).length:Int) by rw [hd];omega),decide_eq_true e5];rfl
  generalize uJ (aW l m m.length) (outs l m) d=L at *;(conv=>whnf);refine⟨fun q e h nx=>∃ (i:Nat) (j:Int),j=i∧i≤L.length∧q=L.length - i∧e=e81 L.length j∧h=[(2010,.cells true false 1 (flat aP.fl (JE (aW l m m.length) L i))),(2009,.cells true false 1 (flat aP.fl [f]))]++H5 l m n c1 c2 [iv f]∧nx=2011,⟨L.length,?_⟩,?_⟩
  ·refine iZ (P:=[(2010,.cells true false 1 (flat aP.fl (JE (aW l m m.length) L 0))),(2009,.cells true false 1 (flat aP.fl [f]))]) (W:=H5 l m n c1 c2 [iv f]) (e0:=e81 L.length 0) (n0:=2011) [] ⟨0,0,rfl,Nat.zero_le _,rfl,rfl,rfl,rfl⟩ ?_ hK ?_ ?_ ?_ (fun _ h=>(by cases h)) (by omega)
   ·unfold e81;((repeat' refine iE rfl rfl ?_);exact iN)
   ·exact eT (eT (fun _ _ h=>h) (hN _ (by decide))) (hN _ (by decide))
   ·exact List.forall_mem_cons.2 ⟨⟨.inl ⟨Nat.le_of_ble_eq_true rfl,Nat.le_of_ble_eq_true rfl,Nat.le_of_ble_eq_true rfl⟩,_,rfl,aM (aI _ _)⟩,List.forall_mem_cons.2 ⟨⟨.inl ⟨Nat.le_of_ble_eq_true rfl,Nat.le_of_ble_eq_true rfl,Nat.le_of_ble_eq_true rfl⟩,_,rfl,aM (aI _ _)⟩,fun _ h=>(by cases h)⟩⟩
   ·show ∀ k∈[2010,2009],∀ k'∈[2010,2009],_;decide
  ·rintro q e h nx ⟨i,j,hj,hi,rfl,rfl,rfl,rfl⟩;have hfl:=wZ (aW l m m.length) L i;have hfa:=YH (aW l m m.length) L i i (Nat.le_refl _);unfold e81 H5;((conv=>whnf);refine bm (fun m1=>?_) (fun m1=>?_))
   ·have hil:i<L.length:=(by simp [aA,aC] at m1;omega);((conv=>whnf);refine bm (fun m2=>?_) (fun m2=>?_))
    ·(conv=>whnf);refine iL (fP (JE (aW l m m.length) L i) (i:=i) (by omega) ?_) ?_
     ·show _+Int.toNat j*1=_;omega
     rw [hfa];have hin:=iH e6 hil;rw [hd] at hin;((conv=>whnf);refine bm (fun m3=>?_) (fun m3=>?_))
     ·(conv=>whnf);refine iL (aDL (aW l m m.length) (i:=(aN L i).toNat) (by omega) ?_) ?_
      ·show _+Int.toNat (aN L i)*5+3=_;omega
      ((conv=>whnf);refine bm (fun m4=>?_) (fun m4=>?_))
      ·((conv=>whnf);refine bm (fun m5=>?_) (fun m5=>?_))
       ·((conv=>whnf);refine bm (fun m6=>?_) (fun m6=>?_))
        ·(conv=>whnf);refine⟨L.length - (i+1),by omega,?_⟩;refine iZ (P:=[(2010,.cells true false 1 (flat aP.fl (JE (aW l m m.length) L (i+1)))),(2009,.cells true false 1 (flat aP.fl [f]))]) (W:=H5 l m n c1 c2 [iv f]) (e0:=e81 L.length (j+1)) (n0:=2011) [] ⟨i+1,j+1,by omega,by omega,rfl,rfl,rfl,rfl⟩ ?_ hK ?_ ?_ ?_ (fun _ h=>(by cases h)) (by omega)
         ·unfold e81;((repeat' refine iE rfl rfl ?_);exact iN)
         ·exact mK (ext_cons (ext_cons (fun _ _ h=>h) (hN _ (by decide))) (hN _ (by decide))) (hN _ (by decide))
         ·refine List.forall_mem_cons.2 ⟨⟨.inl ⟨Nat.le_of_ble_eq_true rfl,Nat.le_of_ble_eq_true rfl,Nat.le_of_ble_eq_true rfl⟩,.cells true false 1 (flat aP.fl (JE (aW l m m.length) L (i+1))),?_,aM (aI _ _)⟩,List.forall_mem_cons.2 ⟨⟨.inl ⟨Nat.le_of_ble_eq_true rfl,Nat.le_of_ble_eq_true rfl,Nat.le_of_ble_eq_true rfl⟩,_,rfl,aM (aI _ _)⟩,fun _ h=>(by cases h)⟩⟩;have hp:=CR (JE (aW l m m.length) L i) i (bR (aW l m m.length) (aN L i).toNat).fr (by omega);show some (aV.cells true false 1 (dJ (flat aP.fl (JE (aW l m m.length) L i)) (0+Int.toNat j*1) [iv (bR (aW l m m.length) (aN L i).toNat).fr]))=_;rw [show 0+Int.toNat j*1=i*1 by omega,hp];rfl
         ·show ∀ k∈[2010,2009],∀ k'∈[2010,2009],_;decide
        ·exfalso;simp [aA,aC,aH] at m6;omega
       ·exfalso;have hb:Nat.ble (0+Int.toNat j*1+1) (flat aP.fl (JE (aW l m m.length) L i)).length=true:=Nat.ble_eq_true_of_le (by rw [bD];show _≤(JE (aW l m m.length) L i).length*1;omega);exact Bool.false_ne_true (m5.symm.trans hb)
      ·exfalso;simp [aA,aC] at m4;omega
     ·exfalso;simp [aA,aC,hd] at m3;omega
    ·exfalso;simp [aA,aC] at m2;omega
   ·have hil:i=L.length:=(by simp [aA,aC] at m1;omega);(conv=>whnf);have hv:v81 ⟨l,m,n,c1,c2,f,true⟩=.tuple #[.slice (some ⟨2010,0,none⟩) L.length L.length,iv 0]:=by
     show Value.tuple #[.slice _ (GW l m f).length (GW l m f).length,_]=_;rw [hwl,wZ]
    have hh:h81 ⟨l,m,n,c1,c2,f,true⟩=(2010,.cells true false 1 (flat aP.fl (JE (aW l m m.length) L i)))::(2009,.cells true false 1 (flat aP.fl [f]))::H5 l m n c1 c2 [iv f]:=by
     rw [hil];show (2010,aV.cells true false 1 (flat aP.fl (GW l m f)))::_=_;rw [hwl]
    rw [hv,hh];refine NH (v:=.tuple #[.slice (some ⟨2010,0,none⟩) L.length L.length,iv 0]) (by simp [jH,tr,dO,bS,dS,lH];rfl) ?_ (fun _ _ h=>h) ?_ (Nat.le_of_ble_eq_true rfl)
    ·intro x hx;simp only [List.mem_cons,List.not_mem_nil,or_false] at hx;rcases hx with rfl|rfl
     ·exact⟨Nat.le_of_ble_eq_true rfl,fun h=>by cases h⟩
     ·exact fZ (cM rfl)
    ·exact cO (cO (xB hK (Nat.le_of_ble_eq_true rfl)) (Nat.le_of_ble_eq_true rfl) (aM (aI _ _))) (Nat.le_of_ble_eq_true rfl) (aM (aI _ _))
theorem aKx:cE Go.Proofs.Tryz.prog 81 X81:=SR (aK (xl:=[aAI,Y8,YC]) (.cons aHM (.cons aHL (.cons aHn .nil)))) fun a ⟨ho,hlm,hb⟩=>w81 a.l a.m a.n a.c1 a.c2 a.f a.b ho hlm hb
def wlP (l:List Pt)(m:List Ed)(n:Int):List Value→Option (Bool × List Int × Option Int)
 |[.int .i64 f]=>some (decide (l.length≤1000)&&decide (m.length≤1000),if j8 l m n f=true then GW l m f else [],some (if j8 l m n f=true then 0 else 1))
 |_=>none
def aGO:Nat × XF:=(24,mRX wlP)
theorem aJL:cE Go.Proofs.Tryz.prog aGO.1 aGO.2:=Z5 (jR (y6 (xl:=[X2,(81,X81)]) (.cons aFX (.cons aKx .nil)) 4) 6).1 fun l m n r out e hs=>by
 have:∃ f,r=[iv f]∧(l.length≤1000∧m.length≤1000)∧out=(if j8 l m n f=true then GW l m f else [])∧e=some (if j8 l m n f=true then 0 else 1):=by
  unfold wlP at hs;split at hs
  ·injection hs with hs;injection hs with h1 h2;injection h2 with h2 h3;simp only [Bool.and_eq_true,decide_eq_true_eq] at h1;exact⟨_,rfl,h1,h2.symm,h3.symm⟩
  ·cases hs
 obtain⟨f,rfl,hlm,rfl,rfl⟩:=this;clear hs;refine⟨rfl,fun c1 c2=>?_⟩;(conv=>whnf);refine⟨l,m,n,.slice (some ⟨0,0,none⟩) l.length c1,.slice (some ⟨1,0,none⟩) m.length c2,rfl,aG aR rfl,aG aU rfl,hlm,?_⟩;have hfb:j8 l m n f=(cX l m n&&qG n f):=rfl;cases ho:cX l m n with
 |false =>
  rw [ho,Bool.false_and] at hfb;refine .inr ⟨rfl,?_⟩;rw [hfb];(conv=>whnf);rfl
 |true =>
  rw [ho,Bool.true_and] at hfb;refine .inl ⟨rfl,?_⟩;rw [hfb];cases hb:qG n f with
  |false =>
   (conv=>whnf);refine⟨⟨l,m,n,c1,c2,f,false⟩,⟨ho,hlm,hb⟩,rfl,rfl,rfl,?_⟩;(conv=>whnf);rfl
  |true =>
   rw [if_pos rfl,if_pos rfl];have hb2:=hb;simp only [qG,Bool.and_eq_true,decide_eq_true_eq] at hb2;obtain⟨d,e1,e2,e3,e4,e5,e6,e7,e8⟩:=UQ ho hb2.1 hb2.2;have hpos:0<(GW l m f).length:=by
    unfold GW zE;rw [wZ,e1];exact e7
   (conv=>whnf);refine⟨⟨l,m,n,c1,c2,f,true⟩,⟨ho,hlm,hb⟩,rfl,rfl,rfl,?_⟩;(conv=>whnf);show Yields aP (GW l m f) (some 0) (j5 (some 0) (.slice (some ⟨2010,0,none⟩) (GW l m f).length (GW l m f).length)) (h81 ⟨l,m,n,c1,c2,f,true⟩) 2011;exact v7 aP hpos rfl
def voS (l:List Pt)(m:List Ed)(n:Int):List Value→Option (Bool × Value)
 |[]=>some (decide (l.length≤1000)&&decide (m.length≤1000),.bool (cX l m n))
 |_=>none
def ZK:Nat × XF:=(70,mX aR aU voS)
theorem aGK:cE Go.Proofs.Tryz.prog ZK.1 ZK.2:=by
 have e:voS=vaS:=by
  funext l m n r;cases r with
  |nil=>show some (_,Value.bool (cX l m n))=some (_,Value.bool (GU l m n));rw [X5]
  |cons a r=>rfl
 show cE _ 70 (mX aR aU voS);rw [e];exact aJ6
def X85:Nat × XF:=(85,mX aR aU (sMD fun l m n f=>(true,.bool (qG n f))))
theorem x85:cE Go.Proofs.Tryz.prog X85.1 X85.2:=l7 aR aU (aK (xl:=[]) .nil) fun l m n r v hs=>by
 obtain⟨f,rfl,_,rfl⟩:=uL hs;refine⟨rfl,rfl,fun c1 c2=>?_⟩;unfold qG;((conv=>whnf);refine bm (fun h1=>?_) (fun h1=>?_))
 ·have h1:decide (0≤f)=true:=by
   have h1:(decide (0≤f) == true)=true:=h1;simpa using h1
  (conv=>whnf);rw [h1,Bool.true_and];rfl
 ·have h1:decide (0≤f)=false:=by
   have h1:(decide (0≤f) == true)=false:=h1;simpa using h1
  (conv=>whnf);rw [h1,Bool.false_and]
def fcI (m:List Ed)(d:Int):Int:=if d % 2=0 then (cW m (d / 2).toNat).l else (cW m (d / 2).toNat).r
def aEZ:Nat × XF:=(143,mX aR aU (sMD fun l m n d=>(kM m d,iv (fcI m d))))
theorem aJF:cE Go.Proofs.Tryz.prog aEZ.1 aEZ.2:=l7 aR aU (aK (xl:=[]) .nil) fun l m n r v hs=>by
 obtain⟨d,rfl,hd,rfl⟩:=uL hs;simp only [kM,Bool.and_eq_true,decide_eq_true_eq] at hd;have q1:d.tdiv 2=d / 2:=Int.tdiv_eq_ediv_of_nonneg hd.1.1;have q2:d.tmod 2=d % 2:=Int.tmod_eq_emod_of_nonneg hd.1.1;refine⟨rfl,rfl,fun c1 c2=>?_⟩;((conv=>whnf);refine bm (fun h4=>?_) (fun h4=>?_))
 ·have h4:decide (d.tmod 2=0)=true:=h4;simp only [q2,decide_eq_true_eq] at h4;((conv=>whnf);refine bm (fun h1=>?_) (fun h1=>?_))
  ·((conv=>whnf);refine bm (fun h2=>?_) (fun h2=>?_))
   ·(conv=>whnf);refine iL (GV m 2 (i:=(d / 2).toNat) (by omega) rfl (by decide) ?_) ?_
    ·show _+Int.toNat (d.tdiv 2)*5+2=_;rw [q1];omega
    (conv=>whnf);simp only [fcI,if_pos h4]
   ·exfalso;simp only [aA,aC,q1] at h2;simp at h2;omega
  ·exfalso;simp only [aA,aC,q1,aH] at h1;simp at h1;omega
 ·have h4:decide (d.tmod 2=0)=false:=h4;simp only [q2,decide_eq_false_iff_not] at h4;((conv=>whnf);refine bm (fun h1=>?_) (fun h1=>?_))
  ·((conv=>whnf);refine bm (fun h2=>?_) (fun h2=>?_))
   ·(conv=>whnf);refine iL (GV m 3 (i:=(d / 2).toNat) (by omega) rfl (by decide) ?_) ?_
    ·show _+Int.toNat (d.tdiv 2)*5+3=_;rw [q1];omega
    (conv=>whnf);simp only [fcI,if_neg h4]
   ·exfalso;simp only [aA,aC,q1] at h2;simp at h2;omega
  ·exfalso;simp only [aA,aC,q1,aH] at h1;simp at h1;omega
theorem aBt {l:List Pt}{m:List Ed}{n:Int}(ho:cX l m n=true){k:Nat}(hk:k<2*m.length):fcI m k=aN (c9 l m).face k:=by
 simp only [cX,fS,Bool.and_eq_true,decide_eq_true_eq] at ho;have h:=fI ho.2.2.2.2 (i:=k / 2) (by omega);simp only [C9,Bool.and_eq_true,decide_eq_true_eq] at h;unfold fcI;by_cases e:(k:Int) % 2=0
 ·rw [if_pos e,show ((k:Int) / 2).toNat=k / 2 by omega,h.1,show 2*(k / 2)=k by omega]
 ·rw [if_neg e,show ((k:Int) / 2).toNat=k / 2 by omega,h.2,show 2*(k / 2)+1=k by omega]
theorem QL {PL PL':Nat→Option eR}(h:∀ r,PL' r=none∨PL' r=PL r)(b:Code):cF PL b=true→cF PL' b=true:=by
 induction b with
 |region id ops draw =>
  intro hp;cases draw with
  |false=>rfl
  |true =>
   unfold cF at hp ⊢;rcases h id with e|e
   ·rw [e]
   ·rw [e];exact hp
 |seq a b iha ihb =>
  intro hp;simp only [cF,Bool.and_eq_true] at hp ⊢;exact⟨iha hp.1,ihb hp.2⟩
 |cond c a b iha ihb =>
  intro hp;simp only [cF,Bool.and_eq_true] at hp ⊢;exact⟨iha hp.1,ihb hp.2⟩
 |block id b ih=>intro hp;simp only [cF] at hp ⊢;exact ih hp
 |loop b ih=>intro hp;simp only [cF] at hp ⊢;exact ih hp
 |scope b ih=>intro hp;simp only [cF] at hp ⊢;exact ih hp
 |_=>intro _;rfl
def SE (f r:Nat):Bool:=(Nat.beq f 86&&Nat.beq r 5) || (Nat.beq f 23&&Nat.beq r 4) || (Nat.beq f 27&&Nat.beq r 4)
def BW:CC:={ aA with PL:=fun f r=>match SE f r with|true=>none|false=>aA.PL f r }
theorem aCB:pF Go.Proofs.Tryz.prog BW where
 ar:=fV.ar
 tab:=fV.tab
 mixed:=fV.mixed
 funcs:=fun f fn h=>by
  obtain⟨a,b,c⟩:=fV.funcs f fn h;refine⟨a,b,fun bd hb=>QL (PL:=aA.PL f) (fun r=>?_) bd (c bd hb)⟩;show (match SE f r with|true=>none|false=>aA.PL f r)=none∨(match SE f r with|true=>none|false=>aA.PL f r)=aA.PL f r;cases SE f r
  ·exact .inr rfl
  ·exact .inl rfl
 xs:=fV.xs
def aHh (xl:List (Nat × XF)):VC:=sY BW none (CX (look xl)) noY
theorem tB {xl:List (Nat × XF)}(h:nU xl):bE Go.Proofs.Tryz.prog (aHh xl):=xE aCB (ZQ h.look) QA (I9 h.look) C2 none
def wkR (l:List Pt)(m:List Ed)(n:Int):List Value→YS Int
 |[.int .i64 f]=>some (cX l m n&&qG n f,zE l m f,[])
 |_=>none
def e86 (f j:Int):List (Nat × Value):=[(1,iv f),(2,.pointer (some ⟨2,0,none⟩)),(5,iv j)]
def aCN:Nat × XF:=(86,mYX aR aU aP wkR)
theorem aIe:cE Go.Proofs.Tryz.prog aCN.1 aCN.2:=QF aR aU aP (tB (xl:=[ZP,SH,aEZ]) (.cons aGE (.cons aDR (.cons aJF .nil)))) fun l m n r out rest hs=>by
 have:∃ f,r=[iv f]∧cX l m n=true∧qG n f=true∧out=zE l m f∧rest=[]:=by
  unfold wkR at hs;split at hs
  ·injection hs with hs;injection hs with h1 h2;injection h2 with h2 h3;simp only [Bool.and_eq_true] at h1;exact⟨_,rfl,h1.1,h1.2,h2.symm,h3.symm⟩
  ·cases hs
 obtain⟨f,rfl,ho,hb,rfl,rfl⟩:=this;clear hs;have hb2:=hb;simp only [qG,Bool.and_eq_true,decide_eq_true_eq] at hb2;have hlst:=jS ho;obtain⟨hM,h3,h1l,h400,m400,_,_⟩:=gY hlst;have hp:fS l m n=true:=(by simp only [cX,Bool.and_eq_true] at ho;exact ho.1);obtain⟨k,b1,b2,b3,b4⟩:=N7 ho hb2.1 hb2.2;have hfw:zE l m f=jI l m (List.replicate (2*m.length) true) k:=by
  unfold zE;rw [b4,LQ hp b1]
 refine⟨rfl,rfl,fun c1 c2=>?_⟩;rw [hfw];(conv=>whnf);refine⟨fun q e h nx=>∃ (i:Nat) (j:Int),j=i∧i≤k∧q=k - i∧e=e86 f j∧h=h80 l m c1 c2 n∧nx=3,⟨k,?_⟩,?_⟩
 ·refine aL (e0:=e86 f 0) (h0:=h80 l m c1 c2 n) (n0:=3) ⟨0,0,rfl,Nat.zero_le _,rfl,rfl,rfl,rfl⟩ ?_ ?_ (by decide)
  ·unfold e86;((repeat' refine iE rfl rfl ?_);exact iN)
  ·unfold h80 aX aB;((repeat'(first|refine iF rfl rfl ?_|refine iC rfl rfl rfl ?_|refine iJ rfl rfl rfl rfl ?_));exact iN)
 ·rintro q e h nx ⟨i,j,hj,hi,rfl,rfl,rfl,rfl⟩;unfold e86 h80 aX aB;((conv=>whnf);refine bm (fun h2=>?_) (fun h2=>?_))
  ·((conv=>whnf);refine bm (fun h3=>?_) (fun h3=>?_))
   ·have hij:kM m j=true:=(by simp only [kM,Bool.and_eq_true,decide_eq_true_eq];omega);(conv=>whnf);refine⟨l,m,aG aR rfl,aG aU rfl,?_⟩;((conv=>whnf);refine bm (fun h4=>?_) (fun h4=>?_))
    ·have hfi:=aBt ho (k:=i) (by omega);((conv=>whnf);refine bm (fun h5=>?_) (fun h5=>?_))
     ·have h5:fcI m j=f:=(by simpa [BW,aA,aC] using h5);rw [hj,hfi] at h5;have hik:i=k:=by
       rcases Nat.lt_or_ge i k with h|h
       ·exact absurd h5 (b3 i h)
       ·omega
      (conv=>whnf);have h6t:(decide (1≤m.length)&&decide (m.length≤1000))=true:=by
       rw [decide_eq_true (show 1≤m.length by omega),decide_eq_true (show m.length≤1000 by omega)];rfl
      have h7t:(mF l m&&kM m j&&decide ((List.replicate (2*m.length) true).length=2*m.length))=true:=by
       rw [hM,hij,List.length_replicate,decide_eq_true rfl];rfl
      have hkj:(k:Int)=j:=(by omega);rw [hkj];generalize hL:jI l m (List.replicate (2*m.length) true) j=L;refine⟨fun e h nx=>e=[(4,.slice (some ⟨4,0,none⟩) L.length L.length)]∧h=[(4,.cells true false 1 (flat aP.fl L))]∧nx=5,?_,?_⟩
      ·(conv=>whnf)
       repeat' first
        |(refine And.intro ?_ ?_ <;> (conv=>whnf))
        |(refine⟨_,_,_,[],l,m,rfl,aG aR rfl,aG aU rfl,?_⟩
          (conv=>whnf);refine bm (fun g6=>?_) (fun g6=>?_) <;> (conv=>whnf))
        |(refine⟨_,_,_,[iv j],_,l,m,List.replicate (2*m.length) true,rfl,aG aR rfl,aG aU rfl,aG fO rfl,?_⟩
          rw [show rnS l m n (List.replicate (2*m.length) true) [iv j]=some (mF l m&&kM m j&&decide ((List.replicate (2*m.length) true).length=2*m.length),L,[]) from by rw [← hL];rfl];(conv=>whnf);refine bm (fun g7=>?_) (fun g7=>?_) <;> (conv=>whnf))
        |(exact Bool.false_ne_true (g6.symm.trans h6t))
        |(exact Bool.false_ne_true (g7.symm.trans h7t))
        |(refine aL (e0:=[(4,.slice (some ⟨4,0,none⟩) L.length L.length)]) (h0:=[(4,.cells true false 1 (flat aP.fl L))]) (n0:=5) ⟨rfl,rfl,rfl⟩ (by ((repeat' refine iE rfl rfl ?_);exact iN)) (by ((repeat'(first|refine iF rfl rfl ?_|refine iJ rfl rfl rfl rfl ?_));exact iN)) (by decide))
      ·rintro e h nx ⟨rfl,rfl,rfl⟩;(conv=>whnf);exact⟨4,rfl,rfl⟩
     ·have h5:¬ fcI m j=f:=(by simpa [BW,aA,aC] using h5);have hik:i≠k:=fun e=>h5 (by rw [hj,hfi,e,b2]);((conv=>whnf);refine bm (fun h6=>?_) (fun h6=>?_))
      ·(conv=>whnf);refine⟨k - (i+1),by omega,?_⟩;refine aL (e0:=e86 f (j+1)) (h0:=h80 l m c1 c2 n) (n0:=3) ⟨i+1,j+1,by omega,by omega,rfl,rfl,rfl,rfl⟩ ?_ ?_ (by decide)
       ·unfold e86;((repeat' refine iE rfl rfl ?_);exact iN)
       ·unfold h80 aX aB;((repeat'(first|refine iF rfl rfl ?_|refine iC rfl rfl rfl ?_|refine iJ rfl rfl rfl rfl ?_));exact iN)
      ·exfalso;simp [BW,aA,aC,aH] at h6;omega
    ·exfalso;have h4:kM m j=false:=h4;rw [hij] at h4;cases h4
   ·exfalso;simp [BW,aA,aC] at h3;omega
  ·exfalso;simp [BW,aA,aC,aH] at h2;omega
theorem smB {l:List Pt}{m:List Ed}(h:l.length≤1000∧m.length≤1000):(decide (l.length≤1000)&&decide (m.length≤1000))=true:=by
 rw [decide_eq_true h.1,decide_eq_true h.2];rfl
def aFN:Nat × XF:=(23,mX aR aU nxP)
theorem aKf:cE Go.Proofs.Tryz.prog aFN.1 aFN.2:=l7 aR aU (tB (xl:=[ZK,ZP,X79]) (.cons aGK (.cons aGE (.cons x79 .nil)))) fun l m n r v hs=>by
 have:∃ d,r=[iv d]∧(l.length≤1000∧m.length≤1000)∧v=.tuple #[iv (if AX l m n d=true then yL (aW l m m.length) (outs l m) d else 0),iv (if AX l m n d=true then 0 else 1)]:=by
  unfold nxP at hs;split at hs
  ·injection hs with hs;injection hs with h1 h2;simp only [Bool.and_eq_true,decide_eq_true_eq] at h1;exact⟨_,rfl,h1,h2.symm⟩
  ·cases hs
 obtain⟨d,rfl,hlm,rfl⟩:=this;clear hs;have hnb:AX l m n d=(cX l m n&&(decide (0≤d)&&decide (d<2*m.length))):=rfl;refine⟨rfl,rfl,fun c1 c2=>?_⟩;(conv=>whnf);refine⟨l,m,aG aR rfl,aG aU rfl,?_⟩;refine aJ (smB hlm) ?_;cases ho:cX l m n with
 |false =>
  rw [ho,Bool.false_and] at hnb;rw [hnb];(conv=>whnf);rfl
 |true =>
  rw [ho,Bool.true_and] at hnb;obtain⟨hM,h3,h1l,h400,m400,_,_⟩:=gY (jS ho);have hp:fS l m n=true:=(by simp only [cX,Bool.and_eq_true] at ho;exact ho.1);((conv=>whnf);refine bm (fun g1=>?_) (fun g1=>?_))
  ·have g1:0≤d:=(by simp [BW,aA,aC] at g1;omega);((conv=>whnf);refine bm (fun g2=>?_) (fun g2=>?_))
   ·((conv=>whnf);refine bm (fun g3=>?_) (fun g3=>?_))
    ·have g3:2*(m.length:Int)≤d:=(by simp [BW,aA,aC] at g3;omega);(conv=>whnf);rw [hnb,decide_eq_false (show ¬ d<2*(m.length:Int) by omega),Bool.and_false];rfl
    ·have g3:d<2*(m.length:Int):=(by simp [BW,aA,aC] at g3;omega);have hij:kM m d=true:=(by simp only [kM,Bool.and_eq_true,decide_eq_true_eq];omega);have h6t:(decide (1≤m.length)&&decide (m.length≤1000))=true:=by
      rw [decide_eq_true (show 1≤m.length by omega),decide_eq_true (show m.length≤1000 by omega)];rfl
     have h7t:(mF l m&&kM m d&&decide ((List.replicate (2*m.length) true).length=2*m.length))=true:=by
      rw [hM,hij,List.length_replicate,decide_eq_true rfl];rfl
     have hfo:fF l m (List.replicate (2*m.length) true) d (2*m.length)=yL (aW l m m.length) (outs l m) d:=OT hp g1 (by omega) (fun i hi=>Q2 hi);rw [hnb,decide_eq_true g1,decide_eq_true g3,← hfo];generalize hL:fF l m (List.replicate (2*m.length) true) d (2*m.length)=L;(conv=>whnf);refine⟨fun e h nx=>e=[(4,iv L),(5,iv 0)]∧h=[]∧nx=2,?_,?_⟩
     ·(conv=>whnf)
      repeat' first
       |(refine And.intro ?_ ?_ <;> (conv=>whnf))
       |(refine⟨_,_,_,[],l,m,rfl,aG aR rfl,aG aU rfl,?_⟩
         (conv=>whnf);refine bm (fun g6=>?_) (fun g6=>?_) <;> (conv=>whnf))
       |(refine⟨_,_,_,[iv d],_,l,m,List.replicate (2*m.length) true,rfl,aG aR rfl,aG aU rfl,aG fO rfl,?_⟩
         rw [show aDk l m n (List.replicate (2*m.length) true) [iv d]=some (mF l m&&kM m d&&decide ((List.replicate (2*m.length) true).length=2*m.length),iv L) from by rw [← hL];rfl];(conv=>whnf);refine bm (fun g7=>?_) (fun g7=>?_) <;> (conv=>whnf))
       |(exact Bool.false_ne_true (g6.symm.trans h6t))
       |(exact Bool.false_ne_true (g7.symm.trans h7t))
       |(refine aL (e0:=[(4,iv L),(5,iv 0)]) (h0:=[]) (n0:=2) ⟨rfl,rfl,rfl⟩ (by ((repeat' refine iE rfl rfl ?_);exact iN)) (fun _ h=>by cases h) (by decide))
     ·rintro e h nx ⟨rfl,rfl,rfl⟩;(conv=>whnf);rfl
   ·exfalso;simp [BW,aA,aC,aH] at g2;omega
  ·have g1:d<0:=(by simp [BW,aA,aC] at g1;omega);(conv=>whnf);rw [hnb,decide_eq_false (show ¬ 0≤d by omega),Bool.false_and];rfl
def aGh:Nat × XF:=(27,mX aR aU a2P)
theorem TO {l:List Pt}{m:List Ed}{n f:Int}(ho:cX l m n=true)(hb:qG n f=true):J5 m (zE l m f)=true∧1≤(zE l m f).length∧(zE l m f).length≤10000∧lK l m (zE l m f) (zE l m f).length=F5 l (aW l m m.length) (zE l m f) (zE l m f).length:=by
 have hb2:=hb;simp only [qG,Bool.and_eq_true,decide_eq_true_eq] at hb2;obtain⟨d,e1,e2,e3,e4,e5,e6,e7,e8⟩:=UQ ho hb2.1 hb2.2;obtain⟨hM,h3,h1l,h400,m400,_,_⟩:=gY (jS ho);have e:zE l m f=uJ (aW l m m.length) (outs l m) d:=(by unfold zE;rw [e1]);rw [e];refine⟨List.all_eq_true.2 fun x hx=>?_,e7,by omega,KJ l m e6 _ (Nat.le_refl _)⟩;obtain⟨i,hi,rfl⟩:=List.getElem_of_mem hx;have:=iH e6 hi;rw [gK hi,bI] at this;simp only [kM,Bool.and_eq_true,decide_eq_true_eq];omega
theorem aJP:cE Go.Proofs.Tryz.prog aGh.1 aGh.2:=l7 aR aU (tB (xl:=[ZK,X85,aCN,X90]) (.cons aGK (.cons x85 (.cons aIe (.cons x90 .nil))))) fun l m n r v hs=>by
 have:∃ f,r=[iv f]∧(l.length≤1000∧m.length≤1000)∧v=.tuple #[iv (if j8 l m n f=true then F5 l (aW l m m.length) (zE l m f) (zE l m f).length else 0),iv (if j8 l m n f=true then 0 else 1)]:=by
  unfold a2P at hs;split at hs
  ·injection hs with hs;injection hs with h1 h2;simp only [Bool.and_eq_true,decide_eq_true_eq] at h1;exact⟨_,rfl,h1,h2.symm⟩
  ·cases hs
 obtain⟨f,rfl,hlm,rfl⟩:=this;clear hs;have hfb:j8 l m n f=(cX l m n&&qG n f):=rfl;refine⟨rfl,rfl,fun c1 c2=>?_⟩;(conv=>whnf);refine⟨l,m,aG aR rfl,aG aU rfl,?_⟩;refine aJ (smB hlm) ?_;cases ho:cX l m n with
 |false =>
  rw [ho,Bool.false_and] at hfb;rw [hfb];(conv=>whnf);rfl
 |true =>
  rw [ho,Bool.true_and] at hfb;obtain⟨hM,h3,h1l,h400,m400,_,_⟩:=gY (jS ho);(conv=>whnf);refine⟨l,m,aG aR rfl,aG aU rfl,?_⟩;(conv=>whnf);cases hb:qG n f with
  |false =>
   rw [hb] at hfb;rw [hfb];(conv=>whnf);rfl
  |true =>
   rw [hb] at hfb;obtain⟨q1,q2,q3,q4⟩:=TO ho hb;rw [hfb,← q4];have h6t:(cX l m n&&qG n f)=true:=(by rw [ho,hb];rfl);generalize hL:zE l m f=L at *;have h7t:(mF l m&&J5 m L&&decide (L.length≤10000))=true:=by
    rw [hM,q1,decide_eq_true q3];rfl
   generalize hA:lK l m L L.length=A;(conv=>whnf);refine⟨fun e h nx=>e=[(4,iv A),(5,iv 0)]∧h=[]∧nx=2,?_,?_⟩
   ·(conv=>whnf)
    repeat' first
     |(refine And.intro ?_ ?_ <;> (conv=>whnf))
     |(refine⟨_,_,_,[iv f],l,m,rfl,aG aR rfl,aG aU rfl,?_⟩
       rw [show wkR l m n [iv f]=some (cX l m n&&qG n f,L,[]) from by rw [← hL];rfl];(conv=>whnf);refine bm (fun g6=>?_) (fun g6=>?_) <;> (conv=>whnf))
     |(refine⟨_,_,_,[],_,l,m,L,rfl,aG aR rfl,aG aU rfl,aG aP rfl,?_⟩
       rw [show aCS l m n L []=some (mF l m&&J5 m L&&decide (L.length≤10000),iv A) from by rw [← hA];rfl];(conv=>whnf);refine bm (fun g7=>?_) (fun g7=>?_) <;> (conv=>whnf))
     |(exact Bool.false_ne_true (g6.symm.trans h6t))
     |(exact Bool.false_ne_true (g7.symm.trans h7t))
     |(refine aL (e0:=[(4,iv A),(5,iv 0)]) (h0:=[]) (n0:=2) ⟨rfl,rfl,rfl⟩ (by ((repeat' refine iE rfl rfl ?_);exact iN)) (fun _ h=>by cases h) (by decide))
   ·rintro e h nx ⟨rfl,rfl,rfl⟩;(conv=>whnf);rfl
end Go.Aw
end
