/-
  Parts of the proof, put together. No condition.
-/
import Derived.Test.YtjahkcbdecgbhaaGreatQBi
set_option linter.unusedSimpArgs false
set_option linter.unusedVariables false
noncomputable section
namespace Go.Aw
set_option maxRecDepth 100000
set_option maxHeartbeats 2000000
def dX {α:Type}(ok:α→Prop)(A:α→List Value)(H:α→Heap)(N:α→Nat)(V:α→Value)(H':α→Heap)(N':α→Nat):XF:=fun args h nx K=>∃ a,ok a∧args=A a∧h=H a∧nx=N a∧K (V a) (H' a) (N' a)
theorem U6 {α:Type}{ok:α→Prop}{A:α→List Value}{H:α→Heap}{N:α→Nat}{V:α→Value}{H':α→Heap}{N':α→Nat}{P:Program}{C:VC}{f:Nat}(hC:bI P C)
  (hs:∀ a,ok a→C f (A a) (H a) (N a) (fun v h nx=>∃ ρ,qE (N a) ρ [(0,V a)] (H' a) (N' a) [(0,v)] h nx)):cJ P f (dX ok A H N V H' N'):=by
 refine⟨fun args h nx K hx ι B w HH hsc=>?_,fun args h nx K hx=>?_⟩
 ·obtain⟨a,h1,rfl,rfl,rfl,hk⟩:=hx;obtain⟨c1,c2⟩:=hC f _ _ _ _ (hs a h1) ι B w HH hsc;refine⟨c1,CallsIn.mono c2 fun e w' hr=>?_⟩;cases e with
  |returned u =>
   obtain⟨v,h',nx',ι1,⟨ρ,hρ⟩,q2,q3,q4,q5,q6,rfl⟩:=hr;obtain⟨e1,e2⟩:=hρ.env 0 (V a) rfl;have ev:v=fV ρ (V a):=by
    have:some v=some (fV ρ (V a)):=e1;injection this
   subst ev;refine⟨V a,H' a,N' a,fun k=>ι1 (ρ k),hk,CY q2 e2,hρ.aFx q3,q4,fun k hk=>?_,hρ.le,D8 q2⟩;show ι1 (ρ k)=ι k;rw [hρ.fix k hk];exact q5 k hk
  |_=>exact hr.elim
 ·obtain⟨a,h1,h2,h3,h4,hk⟩:=hx;exact⟨_,_,_,hk,fun K' hk'=>⟨a,h1,h2,h3,h4,hk'⟩⟩
def mT (D:List Dt)(x:Int):Nat:=(bX D x.toNat).tt.toNat
def C8 (D:List Dt)(ls:List (List Int)):Nat→List Bool→Nat→List Bool
 |0,S,_=>S
 |n+1,S,p=>(bK ls p).foldl (fun S x=>if cV S (mT D x)=true then S else C8 D ls n S (mT D x)) (S.set p true)
def qX (D:List Dt)(ls:List (List Int))(n:Nat)(S:List Bool)(p i:Nat):List Bool:=((bK ls p).take i).foldl (fun S x=>if cV S (mT D x)=true then S else C8 D ls n S (mT D x)) (S.set p true)
theorem YV {D:List Dt}{ls:List (List Int)}{n:Nat}{S:List Bool}{p i:Nat}(hi:i<(bK ls p).length):qX D ls n S p (i+1)=if cV (qX D ls n S p i) (mT D (aN (bK ls p) i))=true then qX D ls n S p i else C8 D ls n (qX D ls n S p i) (mT D (aN (bK ls p) i)):=by
 unfold qX;rw [List.take_succ_eq_append_getElem hi,List.foldl_append,gP hi];rfl
theorem aA1 {D:List Dt}{ls:List (List Int)}{n:Nat}{S:List Bool}{p:Nat}:qX D ls n S p (bK ls p).length=C8 D ls (n+1) S p:=by
 unfold qX;rw [List.take_length];rfl
def gD (S:List Bool):Nat:=S.countP fun b=>!b
theorem LW {S:List Bool}{p:Nat}(hp:p<S.length)(h:cV S p=false):gD (S.set p true)+1=gD S:=by
 unfold gD;rw [rC hp] at h
 induction S generalizing p with
 |nil=>simp at hp
 |cons b r ih =>
  cases p with
  |zero =>
   simp only [List.getElem_cons_zero] at h;subst h;simp
  |succ p =>
   simp only [List.getElem_cons_succ] at h;have:=ih (by simpa using hp) h;simp only [List.set_cons_succ,List.countP_cons];omega
theorem PN (S:List Bool)(p:Nat):gD (S.set p true)≤gD S:=by
 unfold gD
 induction S generalizing p with
 |nil=>simp
 |cons b r ih =>
  cases p with
  |zero=>simp [List.countP_cons]
  |succ p =>
   have:=ih p;simp only [List.set_cons_succ,List.countP_cons];omega
theorem D0 (D:List Dt)(ls:List (List Int)):∀ (n:Nat) (S:List Bool) (p:Nat),gD (C8 D ls n S p)≤gD S∧(C8 D ls n S p).length=S.length
 |0,S,p=>⟨Nat.le_refl _,rfl⟩
 |n+1,S,p=>by
  unfold C8;have key:∀ (L:List Int) (M:List Bool),gD (L.foldl (fun S x=>if cV S (mT D x)=true then S else C8 D ls n S (mT D x)) M)≤gD M∧(L.foldl (fun S x=>if cV S (mT D x)=true then S else C8 D ls n S (mT D x)) M).length=M.length:=by
   intro L
   induction L with
   |nil=>exact fun M=>⟨Nat.le_refl _,rfl⟩
   |cons x r ih =>
    intro M;rw [List.foldl_cons];split
    ·exact ih M
    ·obtain⟨a1,a2⟩:=ih (C8 D ls n M (mT D x));obtain⟨b1,b2⟩:=D0 D ls n M (mT D x);exact⟨by omega,by omega⟩
  obtain⟨a1,a2⟩:=key (bK ls p) (S.set p true);have:=PN S p;rw [List.length_set] at a2;exact⟨by omega,a2⟩
theorem SG {D:List Dt}{ls:List (List Int)}{n:Nat}{S:List Bool}{p:Nat}:∀ i,i≤(bK ls p).length→gD (qX D ls n S p i)≤gD (S.set p true)∧(qX D ls n S p i).length=S.length
 |0,_=>by unfold qX;simp
 |i+1,h=>by
  obtain⟨a1,a2⟩:=SG (D:=D) (ls:=ls) (n:=n) (S:=S) (p:=p) i (by omega);rw [YV (by omega)];split
  ·exact⟨a1,a2⟩
  ·obtain⟨b1,b2⟩:=D0 D ls n (qX D ls n S p i) (mT D (aN (bK ls p) i));exact⟨by omega,by omega⟩
structure aAE where
 p:Int
 l:List Pt
 D:List Dt
 ls:List (List Int)
 nE:Nat
 c1:Nat
 c2:Nat
 n:Int
 fo:Option (Nat × Nat)
 S:List Bool
def aGk:Value:=.func (.func 211) #[] #[.pointer (some ⟨2002,0,none⟩),.pointer (some ⟨2000,0,none⟩),.pointer (some ⟨2003,0,none⟩)]
def rX (a:aAE)(S:List Bool):Heap:=(2003,.cells true false 1 [aGk])::(2002,.cells true false 1 [.slice (some ⟨2001,0,none⟩) a.ls.length a.ls.length])::(2001,.cells true false 1 (flat fT.fl S))::(2000,.cells true false 1 [.pointer (some ⟨0,0,none⟩)])::fK a.l a.D a.ls a.nE a.c1 a.c2 a.n a.fo a.ls.length
def XH (D:List Dt)(ls:List (List Int)):Bool:=ls.all fun L=>decide (L.length≠0)&&decide (L.length≤1000)&&eT D L
theorem aC5 {D:List Dt}{ls:List (List Int)}(h:XH D ls=true){i:Nat}(hi:i<ls.length):(bK ls i).length≠0∧(bK ls i).length≤1000∧eT D (bK ls i)=true:=by
 have:=List.all_eq_true.1 h _ (List.getElem_mem hi);unfold bK;rw [List.getD_eq_getElem?_getD,List.getElem?_eq_getElem hi];simp only [Bool.and_eq_true,decide_eq_true_eq] at this;exact⟨this.1.1,this.1.2,this.2⟩
def aI7 (n:Nat)(a:aAE):Prop:=GO a.l a.D a.ls=true∧XH a.D a.ls=true∧0≤a.p∧a.p<a.ls.length∧a.S.length=a.ls.length∧cV a.S a.p.toNat=false∧gD a.S≤n
def CF (p:Int)(s q:Nat)(j:Int):List (Nat × Value):=[(0,iv p),(1,.pointer (some ⟨2002,0,none⟩)),(2,.pointer (some ⟨2000,0,none⟩)),(3,.pointer (some ⟨2003,0,none⟩)),(16,.slice (some ⟨s+1000,0,none⟩) q q),(17,iv q),(18,iv j)]
def aFt (n:Nat):XF:=dX (aI7 n) (fun a=>[iv a.p,.pointer (some ⟨2002,0,none⟩),.pointer (some ⟨2000,0,none⟩),.pointer (some ⟨2003,0,none⟩)]) (fun a=>rX a a.S) (fun _=>2004) (fun _=>.tuple #[]) (fun a=>rX a (C8 a.D a.ls n a.S a.p.toNat)) (fun _=>2004)
theorem EG {W:Heap}{b c:Nat}(h:xO W b)(hb:b≤c):xO W c:=fun k o hk=>by
 obtain⟨h1,h2⟩:=h k o hk;exact⟨by omega,qT (fun _ _=>rfl) hb h2⟩
theorem yH {a:aAE}{M:List Bool}(hn:a.ls.length≤1000):xO (rX a M) 2004:=by
 unfold rX;refine cA (cA (cA (cA (EG (tF hn) (by omega)) (by omega) ?_) (by omega) (aM (aI _ _))) (by omega) ?_) (by omega) ?_
 ·exact⟨rfl,rfl,rfl,rfl,List.forall_mem_cons.2 ⟨⟨Nat.le_of_ble_eq_true rfl,rfl⟩,fun _ h=>(by cases h)⟩⟩
 ·exact⟨rfl,rfl,rfl,rfl,List.forall_mem_cons.2 ⟨⟨Nat.le_of_ble_eq_true rfl,fun h=>by cases h⟩,fun _ h=>(by cases h)⟩⟩
 ·refine⟨rfl,rfl,rfl,by simp [aGk,bN,bR,lN,dR,kA],List.forall_mem_cons.2 ⟨⟨trivial,?_⟩,fun _ h=>(by cases h)⟩⟩;intro v hv;simp only [List.mem_cons,List.not_mem_nil,or_false] at hv;rcases hv with rfl|rfl|rfl
  ·exact⟨Nat.le_of_ble_eq_true rfl,rfl⟩
  ·exact⟨Nat.le_of_ble_eq_true rfl,rfl⟩
  ·exact⟨Nat.le_of_ble_eq_true rfl,rfl⟩
theorem aE3 {a:aAE}{M:List Bool}{s:Nat}(hn:a.ls.length≤1000)(hs:s<a.ls.length)(h0:(bK a.ls s).length≠0):look (rX a M) (s+1000)=some (.cells false false 1 (flat aO.fl (bK a.ls s))):=by
 unfold rX;rw [bB (by omega),bB (by omega),bB (by omega),bB (by omega)];have:=H8 (l:=a.l) (D:=a.D) (nE:=a.nE) (c1:=a.c1) (c2:=a.c2) (n:=a.n) (fo:=a.fo) (s:=a.ls.length) hs h0
 rwa [show tN a.ls.length s=s+1000 by unfold tN;rw [if_neg (by omega)]] at this
theorem LL {p j:Int}{s q:Nat}{e:List (Nat × Value)}(hs:s<1000)(he:∀ x∈CF p s q j,look e x.1=some x.2):∀ x∈CF p s q j,look e x.1=some (fV (rn []) x.2)∧wJ 2004 x.2:=by
 have key:∀ x∈CF p s q j,fV (rn []) x.2=x.2∧wJ 2004 x.2:=by
  unfold CF;refine List.forall_mem_cons.2 ⟨⟨rfl,bU rfl⟩,List.forall_mem_cons.2 ⟨⟨rfl,Nat.le_of_ble_eq_true rfl,rfl⟩,List.forall_mem_cons.2 ⟨⟨rfl,Nat.le_of_ble_eq_true rfl,rfl⟩,List.forall_mem_cons.2 ⟨⟨rfl,Nat.le_of_ble_eq_true rfl,rfl⟩,List.forall_mem_cons.2 ⟨⟨rfl,show s+1000<2004 by omega,fun h=>by cases h⟩,List.forall_mem_cons.2 ⟨⟨rfl,bU rfl⟩,List.forall_mem_cons.2 ⟨⟨rfl,bU rfl⟩,fun _ h=>(by cases h)⟩⟩⟩⟩⟩⟩⟩
 exact fun x hx=>⟨by rw [(key x hx).1];exact he x hx,(key x hx).2⟩
theorem aCZ {W:Heap}{b:Nat}(h:xO W b){v:Value}(hv:gT v=true):∃ ρ,qE b ρ [(0,v)] W b [(0,v)] W b :=
 ⟨id,fun t u hu=>by
  have hm:=aZ hu;simp only [List.mem_cons,List.not_mem_nil,or_false] at hm;injection hm with e1 e2;subst e1 e2;exact⟨by rw [fV,iB hv];rfl,bU hv⟩,fun k o hk=>⟨(h k o hk).1,o,hk,(h k o hk).2⟩,fun _ _ _ _ _ _ e=>e,fun _ _=>rfl,Nat.le_refl _⟩
theorem SQ {S:List Bool}{p:Nat}(hp:p<S.length)(h:cV S p=false):0<gD S:=by
 have:=LW hp h;omega
theorem aF1:∀ n,cJ Go.Proofs.Tryz.prog 211 (aFt n)
 |0=>U6 (aK (xl:=[]) .nil) fun a ⟨h1,h2,h3,h4,h5,h6,h7⟩=>by
  have:=SQ (by omega) h6;omega
 |n+1=>U6 (aK (xl:=[(211,aFt n)]) (.cons (aF1 n) .nil)) fun a ⟨h1,h2,h3,h4,h5,h6,h7⟩=>by
  obtain⟨p,l,D,ls,nE,c1,c2,nI,fo,S⟩:=a;simp only at h1 h2 h3 h4 h5 h6 h7;have hn:=JB h1;obtain⟨q1,q2,q3⟩:=aC5 h2 (i:=p.toNat) (by omega);generalize ha:(⟨p,l,D,ls,nE,c1,c2,nI,fo,S⟩:aAE)=a;have hvH:∀ M:List Bool,rX a M=(2003,.cells true false 1 [aGk])::(2002,.cells true false 1 [.slice (some ⟨2001,0,none⟩) ls.length ls.length])::(2001,.cells true false 1 (flat fT.fl M))::(2000,.cells true false 1 [.pointer (some ⟨0,0,none⟩)])::fK l D ls nE c1 c2 nI fo ls.length:=fun M=>(by rw [← ha];rfl);have hpa:a.p=p:=(by rw [← ha]);have hSa:a.S=S:=(by rw [← ha]);have hDa:a.D=D:=(by rw [← ha]);have hla:a.ls=ls:=(by rw [← ha]);simp only [hpa,hSa,hDa,hla];clear ha hpa hSa hDa;rw [hvH S];generalize hpp:p.toNat=s at *;generalize hq:(bK ls s).length=q at *;have hvv:tV (tN ls.length s) (bK ls s)=.slice (some ⟨s+1000,0,none⟩) q q:=(by rw [tV,if_neg (by omega),tN,if_neg (by omega),hq]);have key:∀ o,o=s*1→nth (tC ls.length ls) o=some (.slice (some ⟨s+1000,0,none⟩) q q):=fun o ho=>(by rw [E9 (by omega) ho,hvv]);unfold fK GN;rw [lG (Nat.le_refl _)]
  repeat' first
   |(((conv=>whnf);refine bm (fun g=>?_) (fun g=>?_)))
   |((conv=>whnf)
     refine fY (key _ ?_) ?_
     ·show _+Int.toNat p*1=_;omega)
  all_goals first
   |(exfalso;simp [aA,aB,aH] at g;omega)
   |(exfalso
     have hb:Nat.ble (0+Int.toNat p*1+1) (flat fT.fl S).length=true:=Nat.ble_eq_true_of_le (by rw [bF];show _≤S.length*1;omega);exact Bool.false_ne_true (g.symm.trans hb))
   |skip
  (conv=>whnf);refine⟨fun q' e h nx=>∃ (i:Nat) (j:Int),j=i∧i≤q∧q'=q - i∧e=CF p s q j∧h=rX a (qX D ls n S s i)∧nx=2004,⟨q,?_⟩,?_⟩
  ·refine qS (P:=[]) (W:=rX a (qX D ls n S s 0)) (e0:=CF p s q 0) (n0:=2004) [] ⟨0,0,rfl,Nat.zero_le _,rfl,rfl,rfl,rfl⟩ ?_ ?_ ?_ (fun _ h=>(by cases h)) (fun _ h=>(by cases h)) (fun _ h=>(by cases h)) (Nat.le_refl _)
   ·refine LL (by omega) ?_;unfold CF;exact List.forall_mem_cons.2 ⟨rfl,List.forall_mem_cons.2 ⟨rfl,List.forall_mem_cons.2 ⟨rfl,List.forall_mem_cons.2 ⟨rfl,List.forall_mem_cons.2 ⟨rfl,List.forall_mem_cons.2 ⟨rfl,List.forall_mem_cons.2 ⟨rfl,fun _ h=>(by cases h)⟩⟩⟩⟩⟩⟩⟩
   ·exact yH (by rw [hla];omega)
   ·intro k o hk;have bV:dM (flat fT.fl S) (0+Int.toNat p*1) [.bool true]=flat fT.fl (qX D ls n S s 0):=by
     rw [hpp,Nat.zero_add,yB _ _ _ (by omega)];rfl
    rw [hvH,← bV] at hk;unfold fK GN at hk;rw [lG (Nat.le_refl _)] at hk;exact hk
  ·rintro q' e h nx ⟨i,j,hj,hi,rfl,rfl,rfl,rfl⟩;unfold CF;((conv=>whnf);refine bm (fun h8=>?_) (fun h8=>?_))
   ·have hlt:i<q:=(by simp [aA,aB] at h8;omega);have hli:look (rX a (qX D ls n S s i)) (s+1000)=some (.cells false false 1 (flat aO.fl (bK ls s))):=by
     have:=aE3 (a:=a) (M:=qX D ls n S s i) (s:=s) (by rw [hla];omega) (by rw [hla];omega) (by rw [hla,hq];exact q1)
     rwa [hla] at this
    have hd:=jJ q3 (i:=i) (by omega);have ht:=PF h1 (i:=(aN (bK ls s) i).toNat) (by omega);((conv=>whnf);refine bm (fun h9=>?_) (fun h9=>?_))
    ·(conv=>whnf);rw [hli];(conv=>whnf);refine fY (fR (bK ls s) (i:=i) (by omega) ?_) ?_
     ·show _+Int.toNat j*1=_;omega
     have hvs:=YV (D:=D) (n:=n) (S:=S) (show i<(bK ls s).length by omega);have hvl:=(SG (D:=D) (ls:=ls) (n:=n) (S:=S) (p:=s) i (by omega));generalize qX D ls n S s i=M at hvs hvl ⊢;generalize aN (bK ls s) i=x at hd ht hvs ⊢;rw [hvH M];unfold fK GN;rw [lG (Nat.le_refl _)];have hE:∀ p' S' X,rX ⟨p',l,D,ls,nE,c1,c2,nI,fo,S'⟩ X=rX a X:=fun p' S' X=>(by rw [hvH];rfl);have hcs:=LW (S:=S) (p:=s) (by omega) h6;((conv=>whnf);refine bm (fun b1=>?_) (fun b1=>?_))
     ·(conv=>whnf);refine fY (TK D (i:=x.toNat) (by omega) ?_) ?_
      ·show _+Int.toNat x*5+4=_;omega
      ((conv=>whnf);refine bm (fun b2=>?_) (fun b2=>?_))
      ·(conv=>whnf);refine fY (M7 M (i:=mT D x) (by show Int.toNat _<_;omega) ?_) ?_
       ·show _+Int.toNat (bX D x.toNat).tt*1=_;rw [Nat.zero_add];rfl
       ((conv=>whnf);refine bm (fun b3=>?_) (fun b3=>?_))
       ·have hM:cV M (mT D x)=false:=(by simpa [aA,aB] using b3);((conv=>whnf);refine bm (fun b4=>?_) (fun b4=>?_))
        ·(conv=>whnf);refine fY (TK D (i:=x.toNat) (by omega) ?_) ?_
         ·show _+Int.toNat x*5+4=_;omega
         (conv=>whnf);refine⟨⟨(bX D x.toNat).tt,l,D,ls,nE,c1,c2,nI,fo,M⟩,⟨h1,h2,ht.2.2.1,?_,?_,hM,?_⟩,rfl,?_,rfl,?_⟩
         ·show (bX D x.toNat).tt<(ls.length:Int);omega
         ·show M.length=ls.length;omega
         ·show gD M≤n;omega
         ·show _=rX _ M;unfold rX fK GN;simp only;rw [lG (Nat.le_refl _)]
         ·((conv=>whnf);refine bm (fun b5=>?_) (fun b5=>?_))
          ·(conv=>whnf);refine⟨q - (i+1),by omega,?_⟩;refine qS (P:=[]) (W:=rX a (qX D ls n S s (i+1))) (e0:=CF p s q (j+1)) (n0:=2004) [] ⟨i+1,j+1,by omega,by omega,rfl,rfl,rfl,rfl⟩ ?_ (yH (by rw [hla];omega)) ?_ (fun _ h=>(by cases h)) (fun _ h=>(by cases h)) (fun _ h=>(by cases h)) (Nat.le_refl _)
           ·refine LL (by omega) ?_;unfold CF;exact List.forall_mem_cons.2 ⟨rfl,List.forall_mem_cons.2 ⟨rfl,List.forall_mem_cons.2 ⟨rfl,List.forall_mem_cons.2 ⟨rfl,List.forall_mem_cons.2 ⟨rfl,List.forall_mem_cons.2 ⟨rfl,List.forall_mem_cons.2 ⟨rfl,fun _ h=>(by cases h)⟩⟩⟩⟩⟩⟩⟩
           ·intro k o hk;rw [hvs,if_neg (by rw [hM];decide),← hE (bX D x.toNat).tt M] at hk;exact hk
          ·exfalso;simp [aA,aB,aH] at b5;omega
        ·exfalso;simp [aA,aB] at b4;omega
       ·have hM:cV M (mT D x)=true:=(by simpa [aA,aB] using b3);((conv=>whnf);refine bm (fun b4=>?_) (fun b4=>?_))
        ·(conv=>whnf);refine⟨q - (i+1),by omega,?_⟩;refine qS (P:=[]) (W:=rX a (qX D ls n S s (i+1))) (e0:=CF p s q (j+1)) (n0:=2004) [] ⟨i+1,j+1,by omega,by omega,rfl,rfl,rfl,rfl⟩ ?_ (yH (by rw [hla];omega)) ?_ (fun _ h=>(by cases h)) (fun _ h=>(by cases h)) (fun _ h=>(by cases h)) (Nat.le_refl _)
         ·refine LL (by omega) ?_;unfold CF;exact List.forall_mem_cons.2 ⟨rfl,List.forall_mem_cons.2 ⟨rfl,List.forall_mem_cons.2 ⟨rfl,List.forall_mem_cons.2 ⟨rfl,List.forall_mem_cons.2 ⟨rfl,List.forall_mem_cons.2 ⟨rfl,List.forall_mem_cons.2 ⟨rfl,fun _ h=>(by cases h)⟩⟩⟩⟩⟩⟩⟩
         ·intro k o hk;rw [hvs,if_pos hM,hvH M] at hk;unfold fK GN at hk;rw [lG (Nat.le_refl _)] at hk;exact hk
        ·exfalso;simp [aA,aB,aH] at b4;omega
      ·exfalso;simp [aA,aB] at b2;omega
     ·exfalso;simp [aA,aB] at b1;omega
    ·exfalso;simp [aA,aB] at h9;omega
   ·have hge:i=q:=(by simp [aA,aB] at h8;omega);(conv=>whnf);rw [hge,← hq,aA1];exact aCZ (yH (by rw [hla];omega)) rfl
def eO (D:List Dt)(ls:List (List Int)):List Bool:=C8 D ls 1000 (List.replicate ls.length false) 0
def cnS (l:List Pt)(D:List Dt)(ls:List (List Int)):List Value→Option (Bool × Value)
 |[]=>some (GO l D ls&&XH D ls&&decide (1≤ls.length),.bool ((eO D ls).all id))
 |_=>none
def VD:Nat × XF:=(154,wbX cnS)
theorem aJ9:cJ Go.Proofs.Tryz.prog VD.1 VD.2:=P7 (f:=154) (s:=cnS) (aK (xl:=[(211,aFt 1000),U4]) (.cons (aF1 1000) (.cons aES .nil))) fun l D ls r v hs=>by
 have:r=[]∧GO l D ls=true∧XH D ls=true∧1≤ls.length∧v=.bool ((eO D ls).all id):=by
  unfold cnS at hs;split at hs
  ·injection hs with hs;injection hs with h1 h2;simp only [Bool.and_eq_true,decide_eq_true_eq] at h1;exact⟨rfl,h1.1.1,h1.1.2,h1.2,h2.symm⟩
  ·cases hs
 obtain⟨rfl,h1,h2,h3,rfl⟩:=this;clear hs;have hn:=JB h1;refine⟨rfl,rfl,by omega,ls.length,fun nE c1 c2 n fo=>?_⟩;unfold fK GN;rw [lG (Nat.le_refl _)];((conv=>whnf);refine bm (fun g1=>?_) (fun g1=>?_))
 ·((conv=>whnf);refine bm (fun g=>?_) (fun g=>?_))
  ·(conv=>whnf);refine⟨⟨0,l,D,ls,nE,c1,c2,n,fo,List.replicate ls.length false⟩,⟨h1,h2,Int.le_refl 0,?_,List.length_replicate,?_,?_⟩,rfl,?_,rfl,?_⟩
   ·show (0:Int)<(ls.length:Int);omega
   ·show cV (List.replicate ls.length false) 0=false;unfold cV;rw [List.getD_eq_getElem?_getD,List.getElem?_replicate];split <;> rfl
   ·have:gD (List.replicate ls.length false)≤(List.replicate ls.length false).length:=List.countP_le_length;rw [List.length_replicate] at this;show gD (List.replicate ls.length false)≤1000;omega
   ·show _=rX _ (List.replicate ls.length false);unfold rX fK GN;simp only;rw [lG (Nat.le_refl _),← RM];rfl
   ·(conv=>whnf);have hrl:(eO D ls).length=ls.length:=by
     unfold eO;rw [(D0 D ls 1000 _ 0).2,List.length_replicate]
    refine⟨eO D ls,⟨hrl.symm,_,_,_,_,rfl,by rw [List.drop_zero];exact List.take_length⟩,?_⟩;rw [show ctS (eO D ls) ([Value.bool false].append #[].toList)=some (true,.bool (!((eO D ls).all id))) from by
     show some (decide ((eO D ls).length≤1000000),Value.bool (!((eO D ls).all id)))=_;rw [decide_eq_true (by omega)]]
    refine aJ rfl ?_;(conv=>whnf);show Value.bool (!(!((eO D ls).all id)))=_;rw [Bool.not_not]
  ·exfalso;have g:decide ((0:Int)<(ls.length:Int))=false:=g;simp only [decide_eq_false_iff_not] at g;omega
 ·exfalso;simp [aA,aB,aH] at g1;omega
end Go.Aw
end
