/-
  Parts of the proof, put together. No condition.
-/
import Derived.Test.YtjahkcbdecgbhaaGreatQBi
set_option linter.unusedSimpArgs false
set_option linter.unusedVariables false
noncomputable section
namespace Go.Aw
set_option maxRecDepth 100000
set_option maxHeartbeats 2000000
def dX {α:Type}(ok:α→Prop)(A:α→List Value)(H:α→Heap)(N:α→Nat)(V:α→Value)(H':α→Heap)(N':α→Nat):XF:=fun args h nx K=>∃ a,ok a∧args=A a∧h=H a∧nx=N a∧K (V a) (H' a) (N' a)
theorem SR {α:Type}{ok:α→Prop}{A:α→List Value}{H:α→Heap}{N:α→Nat}{V:α→Value}{H':α→Heap}{N':α→Nat}{P:Program}{C:VC}{f:Nat}(hC:bE P C)
  (hs:∀ a,ok a→C f (A a) (H a) (N a) (fun v h nx=>∃ ρ,pC (N a) ρ [(0,V a)] (H' a) (N' a) [(0,v)] h nx)):cE P f (dX ok A H N V H' N'):=by
 refine⟨fun args h nx K hx ι B w HH hsc=>?_,fun args h nx K hx=>?_⟩
 ·obtain⟨a,h1,rfl,rfl,rfl,hk⟩:=hx;obtain⟨c1,c2⟩:=hC f _ _ _ _ (hs a h1) ι B w HH hsc;refine⟨c1,CallsIn.mono c2 fun e w' hr=>?_⟩;cases e with
  |returned u =>
   obtain⟨v,h',nx',ι1,⟨ρ,hρ⟩,q2,q3,q4,q5,q6,rfl⟩:=hr;obtain⟨e1,e2⟩:=hρ.env 0 (V a) rfl;have ev:v=jH ρ (V a):=by
    have:some v=some (jH ρ (V a)):=e1;injection this
   subst ev;refine⟨V a,H' a,N' a,fun k=>ι1 (ρ k),hk,CB q2 e2,hρ.aED q3,q4,fun k hk=>?_,hρ.le,DQ q2⟩;show ι1 (ρ k)=ι k;rw [hρ.fix k hk];exact q5 k hk
  |_=>exact hr.elim
 ·obtain⟨a,h1,h2,h3,h4,hk⟩:=hx;exact⟨_,_,_,hk,fun K' hk'=>⟨a,h1,h2,h3,h4,hk'⟩⟩
def mE (D:List Dt)(x:Int):Nat:=(bR D x.toNat).tt.toNat
def CP (D:List Dt)(ls:List (List Int)):Nat→List Bool→Nat→List Bool
 |0,S,_=>S
 |n+1,S,p=>(bK ls p).foldl (fun S x=>if cQ S (mE D x)=true then S else CP D ls n S (mE D x)) (S.set p true)
def qL (D:List Dt)(ls:List (List Int))(n:Nat)(S:List Bool)(p i:Nat):List Bool:=((bK ls p).take i).foldl (fun S x=>if cQ S (mE D x)=true then S else CP D ls n S (mE D x)) (S.set p true)
theorem YO {D:List Dt}{ls:List (List Int)}{n:Nat}{S:List Bool}{p i:Nat}(hi:i<(bK ls p).length):qL D ls n S p (i+1)=if cQ (qL D ls n S p i) (mE D (aN (bK ls p) i))=true then qL D ls n S p i else CP D ls n (qL D ls n S p i) (mE D (aN (bK ls p) i)):=by
 unfold qL;rw [List.take_succ_eq_append_getElem hi,List.foldl_append,gK hi];rfl
theorem aAy {D:List Dt}{ls:List (List Int)}{n:Nat}{S:List Bool}{p:Nat}:qL D ls n S p (bK ls p).length=CP D ls (n+1) S p:=by
 unfold qL;rw [List.take_length];rfl
def fW (S:List Bool):Nat:=S.countP fun b=>!b
theorem KA {S:List Bool}{p:Nat}(hp:p<S.length)(h:cQ S p=false):fW (S.set p true)+1=fW S:=by
 unfold fW;rw [qW hp] at h
 induction S generalizing p with
 |nil=>simp at hp
 |cons b r ih =>
  cases p with
  |zero =>
   simp only [List.getElem_cons_zero] at h;subst h;simp
  |succ p =>
   simp only [List.getElem_cons_succ] at h;have:=ih (by simpa using hp) h;simp only [List.set_cons_succ,List.countP_cons];omega
theorem PO (S:List Bool)(p:Nat):fW (S.set p true)≤fW S:=by
 unfold fW
 induction S generalizing p with
 |nil=>simp
 |cons b r ih =>
  cases p with
  |zero=>simp [List.countP_cons]
  |succ p =>
   have:=ih p;simp only [List.set_cons_succ,List.countP_cons];omega
theorem FP (D:List Dt)(ls:List (List Int)):∀ (n:Nat) (S:List Bool) (p:Nat),fW (CP D ls n S p)≤fW S∧(CP D ls n S p).length=S.length
 |0,S,p=>⟨Nat.le_refl _,rfl⟩
 |n+1,S,p=>by
  unfold CP;have key:∀ (L:List Int) (M:List Bool),fW (L.foldl (fun S x=>if cQ S (mE D x)=true then S else CP D ls n S (mE D x)) M)≤fW M∧(L.foldl (fun S x=>if cQ S (mE D x)=true then S else CP D ls n S (mE D x)) M).length=M.length:=by
   intro L
   induction L with
   |nil=>exact fun M=>⟨Nat.le_refl _,rfl⟩
   |cons x r ih =>
    intro M;rw [List.foldl_cons];split
    ·exact ih M
    ·obtain⟨a1,a2⟩:=ih (CP D ls n M (mE D x));obtain⟨b1,b2⟩:=FP D ls n M (mE D x);exact⟨by omega,by omega⟩
  obtain⟨a1,a2⟩:=key (bK ls p) (S.set p true);have:=PO S p;rw [List.length_set] at a2;exact⟨by omega,a2⟩
theorem SD {D:List Dt}{ls:List (List Int)}{n:Nat}{S:List Bool}{p:Nat}:∀ i,i≤(bK ls p).length→fW (qL D ls n S p i)≤fW (S.set p true)∧(qL D ls n S p i).length=S.length
 |0,_=>by unfold qL;simp
 |i+1,h=>by
  obtain⟨a1,a2⟩:=SD (D:=D) (ls:=ls) (n:=n) (S:=S) (p:=p) i (by omega);rw [YO (by omega)];split
  ·exact⟨a1,a2⟩
  ·obtain⟨b1,b2⟩:=FP D ls n (qL D ls n S p i) (mE D (aN (bK ls p) i));exact⟨by omega,by omega⟩
structure aAF where
 p:Int
 l:List Pt
 D:List Dt
 ls:List (List Int)
 nE:Nat
 c1:Nat
 c2:Nat
 n:Int
 fo:Option (Nat × Nat)
 S:List Bool
def aEG:Value:=.func (.func 211) #[] #[.pointer (some ⟨2002,0,none⟩),.pointer (some ⟨2000,0,none⟩),.pointer (some ⟨2003,0,none⟩)]
def rM (a:aAF)(S:List Bool):Heap:=(2003,.cells true false 1 [aEG])::(2002,.cells true false 1 [.slice (some ⟨2001,0,none⟩) a.ls.length a.ls.length])::(2001,.cells true false 1 (flat fO.fl S))::(2000,.cells true false 1 [.pointer (some ⟨0,0,none⟩)])::eZ a.l a.D a.ls a.nE a.c1 a.c2 a.n a.fo a.ls.length
def WC (D:List Dt)(ls:List (List Int)):Bool:=ls.all fun L=>decide (L.length≠0)&&decide (L.length≤1000)&&eM D L
theorem aC4 {D:List Dt}{ls:List (List Int)}(h:WC D ls=true){i:Nat}(hi:i<ls.length):(bK ls i).length≠0∧(bK ls i).length≤1000∧eM D (bK ls i)=true:=by
 have:=List.all_eq_true.1 h _ (List.getElem_mem hi);unfold bK;rw [List.getD_eq_getElem?_getD,List.getElem?_eq_getElem hi];simp only [Bool.and_eq_true,decide_eq_true_eq] at this;exact⟨this.1.1,this.1.2,this.2⟩
def aI4 (n:Nat)(a:aAF):Prop:=ED a.l a.D a.ls=true∧WC a.D a.ls=true∧0≤a.p∧a.p<a.ls.length∧a.S.length=a.ls.length∧cQ a.S a.p.toNat=false∧fW a.S≤n
def B4 (p:Int)(s q:Nat)(j:Int):List (Nat × Value):=[(0,iv p),(1,.pointer (some ⟨2002,0,none⟩)),(2,.pointer (some ⟨2000,0,none⟩)),(3,.pointer (some ⟨2003,0,none⟩)),(16,.slice (some ⟨s+1000,0,none⟩) q q),(17,iv q),(18,iv j)]
def aFY (n:Nat):XF:=dX (aI4 n) (fun a=>[iv a.p,.pointer (some ⟨2002,0,none⟩),.pointer (some ⟨2000,0,none⟩),.pointer (some ⟨2003,0,none⟩)]) (fun a=>rM a a.S) (fun _=>2004) (fun _=>.tuple #[]) (fun a=>rM a (CP a.D a.ls n a.S a.p.toNat)) (fun _=>2004)
theorem xB {W:Heap}{b c:Nat}(h:AR W b)(hb:b≤c):AR W c:=fun k o hk=>by
 obtain⟨h1,h2⟩:=h k o hk;exact⟨by omega,qV (fun _ _=>rfl) hb h2⟩
theorem yQ {a:aAF}{M:List Bool}(hn:a.ls.length≤1000):AR (rM a M) 2004:=by
 unfold rM;refine cO (cO (cO (cO (xB (rO hn) (by omega)) (by omega) ?_) (by omega) (aM (aI _ _))) (by omega) ?_) (by omega) ?_
 ·exact⟨rfl,rfl,rfl,rfl,List.forall_mem_cons.2 ⟨⟨Nat.le_of_ble_eq_true rfl,rfl⟩,fun _ h=>(by cases h)⟩⟩
 ·exact⟨rfl,rfl,rfl,rfl,List.forall_mem_cons.2 ⟨⟨Nat.le_of_ble_eq_true rfl,fun h=>by cases h⟩,fun _ h=>(by cases h)⟩⟩
 ·refine⟨rfl,rfl,rfl,by simp [aEG,bO,bS,nW,dS,lH],List.forall_mem_cons.2 ⟨⟨trivial,?_⟩,fun _ h=>(by cases h)⟩⟩;intro v hv;simp only [List.mem_cons,List.not_mem_nil,or_false] at hv;rcases hv with rfl|rfl|rfl
  ·exact⟨Nat.le_of_ble_eq_true rfl,rfl⟩
  ·exact⟨Nat.le_of_ble_eq_true rfl,rfl⟩
  ·exact⟨Nat.le_of_ble_eq_true rfl,rfl⟩
theorem aCG {a:aAF}{M:List Bool}{s:Nat}(hn:a.ls.length≤1000)(hs:s<a.ls.length)(h0:(bK a.ls s).length≠0):look (rM a M) (s+1000)=some (.cells false false 1 (flat aP.fl (bK a.ls s))):=by
 unfold rM;rw [a9 (by omega),a9 (by omega),a9 (by omega),a9 (by omega)];have:=H6 (l:=a.l) (D:=a.D) (nE:=a.nE) (c1:=a.c1) (c2:=a.c2) (n:=a.n) (fo:=a.fo) (s:=a.ls.length) hs h0
 rwa [show tN a.ls.length s=s+1000 by unfold tN;rw [if_neg (by omega)]] at this
theorem K2 {p j:Int}{s q:Nat}{e:List (Nat × Value)}(hs:s<1000)(he:∀ x∈B4 p s q j,look e x.1=some x.2):∀ x∈B4 p s q j,look e x.1=some (jH (rn []) x.2)∧BM 2004 x.2:=by
 have key:∀ x∈B4 p s q j,jH (rn []) x.2=x.2∧BM 2004 x.2:=by
  unfold B4;refine List.forall_mem_cons.2 ⟨⟨rfl,dL rfl⟩,List.forall_mem_cons.2 ⟨⟨rfl,Nat.le_of_ble_eq_true rfl,rfl⟩,List.forall_mem_cons.2 ⟨⟨rfl,Nat.le_of_ble_eq_true rfl,rfl⟩,List.forall_mem_cons.2 ⟨⟨rfl,Nat.le_of_ble_eq_true rfl,rfl⟩,List.forall_mem_cons.2 ⟨⟨rfl,show s+1000<2004 by omega,fun h=>by cases h⟩,List.forall_mem_cons.2 ⟨⟨rfl,dL rfl⟩,List.forall_mem_cons.2 ⟨⟨rfl,dL rfl⟩,fun _ h=>(by cases h)⟩⟩⟩⟩⟩⟩⟩
 exact fun x hx=>⟨by rw [(key x hx).1];exact he x hx,(key x hx).2⟩
theorem aBC {W:Heap}{b:Nat}(h:AR W b){v:Value}(hv:gT v=true):∃ ρ,pC b ρ [(0,v)] W b [(0,v)] W b :=
 ⟨id,fun t u hu=>by
  have hm:=a8 hu;simp only [List.mem_cons,List.not_mem_nil,or_false] at hm;injection hm with e1 e2;subst e1 e2;exact⟨by rw [jH,gJ hv];rfl,dL hv⟩,fun k o hk=>⟨(h k o hk).1,o,hk,(h k o hk).2⟩,fun _ _ _ _ _ _ e=>e,fun _ _=>rfl,Nat.le_refl _⟩
theorem R5 {S:List Bool}{p:Nat}(hp:p<S.length)(h:cQ S p=false):0<fW S:=by
 have:=KA hp h;omega
theorem aEe:∀ n,cE Go.Proofs.Tryz.prog 211 (aFY n)
 |0=>SR (aK (xl:=[]) .nil) fun a ⟨h1,h2,h3,h4,h5,h6,h7⟩=>by
  have:=R5 (by omega) h6;omega
 |n+1=>SR (aK (xl:=[(211,aFY n)]) (.cons (aEe n) .nil)) fun a ⟨h1,h2,h3,h4,h5,h6,h7⟩=>by
  obtain⟨p,l,D,ls,nE,c1,c2,nI,fo,S⟩:=a;simp only at h1 h2 h3 h4 h5 h6 h7;have hn:=HZ h1;obtain⟨q1,q2,q3⟩:=aC4 h2 (i:=p.toNat) (by omega);generalize ha:(⟨p,l,D,ls,nE,c1,c2,nI,fo,S⟩:aAF)=a;have hvH:∀ M:List Bool,rM a M=(2003,.cells true false 1 [aEG])::(2002,.cells true false 1 [.slice (some ⟨2001,0,none⟩) ls.length ls.length])::(2001,.cells true false 1 (flat fO.fl M))::(2000,.cells true false 1 [.pointer (some ⟨0,0,none⟩)])::eZ l D ls nE c1 c2 nI fo ls.length:=fun M=>(by rw [← ha];rfl);have hpa:a.p=p:=(by rw [← ha]);have hSa:a.S=S:=(by rw [← ha]);have hDa:a.D=D:=(by rw [← ha]);have hla:a.ls=ls:=(by rw [← ha]);simp only [hpa,hSa,hDa,hla];clear ha hpa hSa hDa;rw [hvH S];generalize hpp:p.toNat=s at *;generalize hq:(bK ls s).length=q at *;have hvv:tV (tN ls.length s) (bK ls s)=.slice (some ⟨s+1000,0,none⟩) q q:=(by rw [tV,if_neg (by omega),tN,if_neg (by omega),hq]);have key:∀ o,o=s*1→nth (tC ls.length ls) o=some (.slice (some ⟨s+1000,0,none⟩) q q):=fun o ho=>(by rw [FW (by omega) ho,hvv]);unfold eZ F6;rw [kX (Nat.le_refl _)]
  repeat' first
   |(((conv=>whnf);refine bm (fun g=>?_) (fun g=>?_)))
   |((conv=>whnf)
     refine iL (key _ ?_) ?_
     ·show _+Int.toNat p*1=_;omega)
  all_goals first
   |(exfalso;simp [aA,aC,aH] at g;omega)
   |(exfalso
     have hb:Nat.ble (0+Int.toNat p*1+1) (flat fO.fl S).length=true:=Nat.ble_eq_true_of_le (by rw [bD];show _≤S.length*1;omega);exact Bool.false_ne_true (g.symm.trans hb))
   |skip
  (conv=>whnf);refine⟨fun q' e h nx=>∃ (i:Nat) (j:Int),j=i∧i≤q∧q'=q - i∧e=B4 p s q j∧h=rM a (qL D ls n S s i)∧nx=2004,⟨q,?_⟩,?_⟩
  ·refine qU (P:=[]) (W:=rM a (qL D ls n S s 0)) (e0:=B4 p s q 0) (n0:=2004) [] ⟨0,0,rfl,Nat.zero_le _,rfl,rfl,rfl,rfl⟩ ?_ ?_ ?_ (fun _ h=>(by cases h)) (fun _ h=>(by cases h)) (fun _ h=>(by cases h)) (Nat.le_refl _)
   ·refine K2 (by omega) ?_;unfold B4;exact List.forall_mem_cons.2 ⟨rfl,List.forall_mem_cons.2 ⟨rfl,List.forall_mem_cons.2 ⟨rfl,List.forall_mem_cons.2 ⟨rfl,List.forall_mem_cons.2 ⟨rfl,List.forall_mem_cons.2 ⟨rfl,List.forall_mem_cons.2 ⟨rfl,fun _ h=>(by cases h)⟩⟩⟩⟩⟩⟩⟩
   ·exact yQ (by rw [hla];omega)
   ·intro k o hk;have bM:dJ (flat fO.fl S) (0+Int.toNat p*1) [.bool true]=flat fO.fl (qL D ls n S s 0):=by
     rw [hpp,Nat.zero_add,xC _ _ _ (by omega)];rfl
    rw [hvH,← bM] at hk;unfold eZ F6 at hk;rw [kX (Nat.le_refl _)] at hk;exact hk
  ·rintro q' e h nx ⟨i,j,hj,hi,rfl,rfl,rfl,rfl⟩;unfold B4;((conv=>whnf);refine bm (fun h8=>?_) (fun h8=>?_))
   ·have hlt:i<q:=(by simp [aA,aC] at h8;omega);have hli:look (rM a (qL D ls n S s i)) (s+1000)=some (.cells false false 1 (flat aP.fl (bK ls s))):=by
     have:=aCG (a:=a) (M:=qL D ls n S s i) (s:=s) (by rw [hla];omega) (by rw [hla];omega) (by rw [hla,hq];exact q1)
     rwa [hla] at this
    have hd:=iH q3 (i:=i) (by omega);have ht:=PW h1 (i:=(aN (bK ls s) i).toNat) (by omega);((conv=>whnf);refine bm (fun h9=>?_) (fun h9=>?_))
    ·(conv=>whnf);rw [hli];(conv=>whnf);refine iL (fP (bK ls s) (i:=i) (by omega) ?_) ?_
     ·show _+Int.toNat j*1=_;omega
     have hvs:=YO (D:=D) (n:=n) (S:=S) (show i<(bK ls s).length by omega);have hvl:=(SD (D:=D) (ls:=ls) (n:=n) (S:=S) (p:=s) i (by omega));generalize qL D ls n S s i=M at hvs hvl ⊢;generalize aN (bK ls s) i=x at hd ht hvs ⊢;rw [hvH M];unfold eZ F6;rw [kX (Nat.le_refl _)];have hE:∀ p' S' X,rM ⟨p',l,D,ls,nE,c1,c2,nI,fo,S'⟩ X=rM a X:=fun p' S' X=>(by rw [hvH];rfl);have hcs:=KA (S:=S) (p:=s) (by omega) h6;((conv=>whnf);refine bm (fun b1=>?_) (fun b1=>?_))
     ·(conv=>whnf);refine iL (TK D (i:=x.toNat) (by omega) ?_) ?_
      ·show _+Int.toNat x*5+4=_;omega
      ((conv=>whnf);refine bm (fun b2=>?_) (fun b2=>?_))
      ·(conv=>whnf);refine iL (MD M (i:=mE D x) (by show Int.toNat _<_;omega) ?_) ?_
       ·show _+Int.toNat (bR D x.toNat).tt*1=_;rw [Nat.zero_add];rfl
       ((conv=>whnf);refine bm (fun b3=>?_) (fun b3=>?_))
       ·have hM:cQ M (mE D x)=false:=(by simpa [aA,aC] using b3);((conv=>whnf);refine bm (fun b4=>?_) (fun b4=>?_))
        ·(conv=>whnf);refine iL (TK D (i:=x.toNat) (by omega) ?_) ?_
         ·show _+Int.toNat x*5+4=_;omega
         (conv=>whnf);refine⟨⟨(bR D x.toNat).tt,l,D,ls,nE,c1,c2,nI,fo,M⟩,⟨h1,h2,ht.2.2.1,?_,?_,hM,?_⟩,rfl,?_,rfl,?_⟩
         ·show (bR D x.toNat).tt<(ls.length:Int);omega
         ·show M.length=ls.length;omega
         ·show fW M≤n;omega
         ·show _=rM _ M;unfold rM eZ F6;simp only;rw [kX (Nat.le_refl _)]
         ·((conv=>whnf);refine bm (fun b5=>?_) (fun b5=>?_))
          ·(conv=>whnf);refine⟨q - (i+1),by omega,?_⟩;refine qU (P:=[]) (W:=rM a (qL D ls n S s (i+1))) (e0:=B4 p s q (j+1)) (n0:=2004) [] ⟨i+1,j+1,by omega,by omega,rfl,rfl,rfl,rfl⟩ ?_ (yQ (by rw [hla];omega)) ?_ (fun _ h=>(by cases h)) (fun _ h=>(by cases h)) (fun _ h=>(by cases h)) (Nat.le_refl _)
           ·refine K2 (by omega) ?_;unfold B4;exact List.forall_mem_cons.2 ⟨rfl,List.forall_mem_cons.2 ⟨rfl,List.forall_mem_cons.2 ⟨rfl,List.forall_mem_cons.2 ⟨rfl,List.forall_mem_cons.2 ⟨rfl,List.forall_mem_cons.2 ⟨rfl,List.forall_mem_cons.2 ⟨rfl,fun _ h=>(by cases h)⟩⟩⟩⟩⟩⟩⟩
           ·intro k o hk;rw [hvs,if_neg (by rw [hM];decide),← hE (bR D x.toNat).tt M] at hk;exact hk
          ·exfalso;simp [aA,aC,aH] at b5;omega
        ·exfalso;simp [aA,aC] at b4;omega
       ·have hM:cQ M (mE D x)=true:=(by simpa [aA,aC] using b3);((conv=>whnf);refine bm (fun b4=>?_) (fun b4=>?_))
        ·(conv=>whnf);refine⟨q - (i+1),by omega,?_⟩;refine qU (P:=[]) (W:=rM a (qL D ls n S s (i+1))) (e0:=B4 p s q (j+1)) (n0:=2004) [] ⟨i+1,j+1,by omega,by omega,rfl,rfl,rfl,rfl⟩ ?_ (yQ (by rw [hla];omega)) ?_ (fun _ h=>(by cases h)) (fun _ h=>(by cases h)) (fun _ h=>(by cases h)) (Nat.le_refl _)
         ·refine K2 (by omega) ?_;unfold B4;exact List.forall_mem_cons.2 ⟨rfl,List.forall_mem_cons.2 ⟨rfl,List.forall_mem_cons.2 ⟨rfl,List.forall_mem_cons.2 ⟨rfl,List.forall_mem_cons.2 ⟨rfl,List.forall_mem_cons.2 ⟨rfl,List.forall_mem_cons.2 ⟨rfl,fun _ h=>(by cases h)⟩⟩⟩⟩⟩⟩⟩
         ·intro k o hk;rw [hvs,if_pos hM,hvH M] at hk;unfold eZ F6 at hk;rw [kX (Nat.le_refl _)] at hk;exact hk
        ·exfalso;simp [aA,aC,aH] at b4;omega
      ·exfalso;simp [aA,aC] at b2;omega
     ·exfalso;simp [aA,aC] at b1;omega
    ·exfalso;simp [aA,aC] at h9;omega
   ·have hge:i=q:=(by simp [aA,aC] at h8;omega);(conv=>whnf);rw [hge,← hq,aAy];exact aBC (yQ (by rw [hla];omega)) rfl
def eJ (D:List Dt)(ls:List (List Int)):List Bool:=CP D ls 1000 (List.replicate ls.length false) 0
def cnS (l:List Pt)(D:List Dt)(ls:List (List Int)):List Value→Option (Bool × Value)
 |[]=>some (ED l D ls&&WC D ls&&decide (1≤ls.length),.bool ((eJ D ls).all id))
 |_=>none
def TX:Nat × XF:=(154,wbX cnS)
theorem aHw:cE Go.Proofs.Tryz.prog TX.1 TX.2:=Q7 (f:=154) (s:=cnS) (aK (xl:=[(211,aFY 1000),SM]) (.cons (aEe 1000) (.cons aEo .nil))) fun l D ls r v hs=>by
 have:r=[]∧ED l D ls=true∧WC D ls=true∧1≤ls.length∧v=.bool ((eJ D ls).all id):=by
  unfold cnS at hs;split at hs
  ·injection hs with hs;injection hs with h1 h2;simp only [Bool.and_eq_true,decide_eq_true_eq] at h1;exact⟨rfl,h1.1.1,h1.1.2,h1.2,h2.symm⟩
  ·cases hs
 obtain⟨rfl,h1,h2,h3,rfl⟩:=this;clear hs;have hn:=HZ h1;refine⟨rfl,rfl,by omega,ls.length,fun nE c1 c2 n fo=>?_⟩;unfold eZ F6;rw [kX (Nat.le_refl _)];((conv=>whnf);refine bm (fun g1=>?_) (fun g1=>?_))
 ·((conv=>whnf);refine bm (fun g=>?_) (fun g=>?_))
  ·(conv=>whnf);refine⟨⟨0,l,D,ls,nE,c1,c2,n,fo,List.replicate ls.length false⟩,⟨h1,h2,Int.le_refl 0,?_,List.length_replicate,?_,?_⟩,rfl,?_,rfl,?_⟩
   ·show (0:Int)<(ls.length:Int);omega
   ·show cQ (List.replicate ls.length false) 0=false;unfold cQ;rw [List.getD_eq_getElem?_getD,List.getElem?_replicate];split <;> rfl
   ·have:fW (List.replicate ls.length false)≤(List.replicate ls.length false).length:=List.countP_le_length;rw [List.length_replicate] at this;show fW (List.replicate ls.length false)≤1000;omega
   ·show _=rM _ (List.replicate ls.length false);unfold rM eZ F6;simp only;rw [kX (Nat.le_refl _),← PF];rfl
   ·(conv=>whnf);have hrl:(eJ D ls).length=ls.length:=by
     unfold eJ;rw [(FP D ls 1000 _ 0).2,List.length_replicate]
    refine⟨eJ D ls,⟨hrl.symm,_,_,_,_,rfl,by rw [List.drop_zero];exact List.take_length⟩,?_⟩;rw [show ctS (eJ D ls) ([Value.bool false].append #[].toList)=some (true,.bool (!((eJ D ls).all id))) from by
     show some (decide ((eJ D ls).length≤1000000),Value.bool (!((eJ D ls).all id)))=_;rw [decide_eq_true (by omega)]]
    refine aJ rfl ?_;(conv=>whnf);show Value.bool (!(!((eJ D ls).all id)))=_;rw [Bool.not_not]
  ·exfalso;have g:decide ((0:Int)<(ls.length:Int))=false:=g;simp only [decide_eq_false_iff_not] at g;omega
 ·exfalso;simp [aA,aC,aH] at g1;omega
end Go.Aw
end
