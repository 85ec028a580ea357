/-
  Parts of the proof, put together. No condition.
-/
import Derived.Test.YtjahkcbdecgbhaaGreatQBg
set_option linter.unusedSimpArgs false
set_option linter.unusedVariables false
noncomputable section
namespace Go.Aw
set_option maxRecDepth 100000
set_option maxHeartbeats 2000000
def dX {α:Type}(ok:α→Prop)(A:α→List Value)(H:α→Heap)(N:α→Nat)(V:α→Value)(H':α→Heap)(N':α→Nat):XF:=fun args h nx K=>∃ a,ok a∧args=A a∧h=H a∧nx=N a∧K (V a) (H' a) (N' a)
theorem dX_ok {α:Type}{ok:α→Prop}{A:α→List Value}{H:α→Heap}{N:α→Nat}{V:α→Value}{H':α→Heap}{N':α→Nat}{P:Program}{C:VC}{f:Nat}(hC:CallsOK P C)
  (hs:∀ a,ok a→C f (A a) (H a) (N a) (fun v h nx=>∃ ρ,RenOK (N a) ρ [(0,V a)] (H' a) (N' a) [(0,v)] h nx)):XOK P f (dX ok A H N V H' N'):=by
 refine⟨fun args h nx K hx ι B w HH hsc=>?_,fun args h nx K hx=>?_⟩
 ·obtain⟨a,h1,rfl,rfl,rfl,hk⟩:=hx
  obtain⟨c1,c2⟩:=hC f _ _ _ _ (hs a h1) ι B w HH hsc
  refine⟨c1,CallsIn.mono c2 fun e w' hr=>?_⟩
  cases e with
  |returned u =>
   obtain⟨v,h',nx',ι1,⟨ρ,hρ⟩,q2,q3,q4,q5,q6,rfl⟩:=hr
   obtain⟨e1,e2⟩:=hρ.env 0 (V a) rfl
   have ev:v=ren ρ (V a):=by
    have:some v=some (ren ρ (V a)):=e1
    injection this
   subst ev
   refine⟨V a,H' a,N' a,fun k=>ι1 (ρ k),hk,scT_ren q2 e2,hρ.relH q3,q4,fun k hk=>?_,hρ.le,tr_ren q2⟩
   show ι1 (ρ k)=ι k
   rw [hρ.fix k hk]
   exact q5 k hk
  |_=>exact hr.elim
 ·obtain⟨a,h1,h2,h3,h4,hk⟩:=hx
  exact⟨_,_,_,hk,fun K' hk'=>⟨a,h1,h2,h3,h4,hk'⟩⟩
def ttI (D:List Dt)(x:Int):Nat:=(atD D x.toNat).tt.toNat
def vis (D:List Dt)(ls:List (List Int)):Nat→List Bool→Nat→List Bool
 |0,S,_=>S
 |n+1,S,p=>(atL ls p).foldl (fun S x=>if atB S (ttI D x)=true then S else vis D ls n S (ttI D x)) (S.set p true)
def visK (D:List Dt)(ls:List (List Int))(n:Nat)(S:List Bool)(p i:Nat):List Bool:=((atL ls p).take i).foldl (fun S x=>if atB S (ttI D x)=true then S else vis D ls n S (ttI D x)) (S.set p true)
theorem visK_s {D:List Dt}{ls:List (List Int)}{n:Nat}{S:List Bool}{p i:Nat}(hi:i<(atL ls p).length):visK D ls n S p (i+1)=if atB (visK D ls n S p i) (ttI D (atI (atL ls p) i))=true then visK D ls n S p i else vis D ls n (visK D ls n S p i) (ttI D (atI (atL ls p) i)):=by
 unfold visK
 rw [List.take_succ_eq_append_getElem hi,List.foldl_append,atI_eq hi]
 rfl
theorem visK_all {D:List Dt}{ls:List (List Int)}{n:Nat}{S:List Bool}{p:Nat}:visK D ls n S p (atL ls p).length=vis D ls (n+1) S p:=by
 unfold visK
 rw [List.take_length]
 rfl
def cntF (S:List Bool):Nat:=S.countP fun b=>!b
theorem cnt_set {S:List Bool}{p:Nat}(hp:p<S.length)(h:atB S p=false):cntF (S.set p true)+1=cntF S:=by
 unfold cntF
 rw [atB_eq hp] at h
 induction S generalizing p with
 |nil=>simp at hp
 |cons b r ih =>
  cases p with
  |zero =>
   simp only [List.getElem_cons_zero] at h
   subst h
   simp
  |succ p =>
   simp only [List.getElem_cons_succ] at h
   have:=ih (by simpa using hp) h
   simp only [List.set_cons_succ,List.countP_cons]
   omega
theorem cnt_set_le (S:List Bool)(p:Nat):cntF (S.set p true)≤cntF S:=by
 unfold cntF
 induction S generalizing p with
 |nil=>simp
 |cons b r ih =>
  cases p with
  |zero=>simp [List.countP_cons]
  |succ p =>
   have:=ih p
   simp only [List.set_cons_succ,List.countP_cons]
   omega
theorem vis_le (D:List Dt)(ls:List (List Int)):∀ (n:Nat) (S:List Bool) (p:Nat),cntF (vis D ls n S p)≤cntF S∧(vis D ls n S p).length=S.length
 |0,S,p=>⟨Nat.le_refl _,rfl⟩
 |n+1,S,p=>by
  unfold vis
  have key:∀ (L:List Int) (M:List Bool),cntF (L.foldl (fun S x=>if atB S (ttI D x)=true then S else vis D ls n S (ttI D x)) M)≤cntF M∧(L.foldl (fun S x=>if atB S (ttI D x)=true then S else vis D ls n S (ttI D x)) M).length=M.length:=by
   intro L
   induction L with
   |nil=>exact fun M=>⟨Nat.le_refl _,rfl⟩
   |cons x r ih =>
    intro M
    rw [List.foldl_cons]
    split
    ·exact ih M
    ·obtain⟨a1,a2⟩:=ih (vis D ls n M (ttI D x))
     obtain⟨b1,b2⟩:=vis_le D ls n M (ttI D x)
     exact⟨by omega,by omega⟩
  obtain⟨a1,a2⟩:=key (atL ls p) (S.set p true)
  have:=cnt_set_le S p
  rw [List.length_set] at a2
  exact⟨by omega,a2⟩
theorem visK_le {D:List Dt}{ls:List (List Int)}{n:Nat}{S:List Bool}{p:Nat}:∀ i,i≤(atL ls p).length→cntF (visK D ls n S p i)≤cntF (S.set p true)∧(visK D ls n S p i).length=S.length
 |0,_=>by unfold visK;simp
 |i+1,h=>by
  obtain⟨a1,a2⟩:=visK_le (D:=D) (ls:=ls) (n:=n) (S:=S) (p:=p) i (by omega)
  rw [visK_s (by omega)]
  split
  ·exact⟨a1,a2⟩
  ·obtain⟨b1,b2⟩:=vis_le D ls n (visK D ls n S p i) (ttI D (atI (atL ls p) i))
   exact⟨by omega,by omega⟩
structure A211 where
 p:Int
 l:List Pt
 D:List Dt
 ls:List (List Int)
 nE:Nat
 c1:Nat
 c2:Nat
 n:Int
 fo:Option (Nat × Nat)
 S:List Bool
def visV:Value:=.func (.func 211) #[] #[.pointer (some ⟨2002,0,none⟩),.pointer (some ⟨2000,0,none⟩),.pointer (some ⟨2003,0,none⟩)]
def visH (a:A211)(S:List Bool):Heap:=(2003,.cells true false 1 [visV])::(2002,.cells true false 1 [.slice (some ⟨2001,0,none⟩) a.ls.length a.ls.length])::(2001,.cells true false 1 (flat elB.fl S))::(2000,.cells true false 1 [.pointer (some ⟨0,0,none⟩)])::webR a.l a.D a.ls a.nE a.c1 a.c2 a.n a.fo a.ls.length
def lisB (D:List Dt)(ls:List (List Int)):Bool:=ls.all fun L=>decide (L.length≠0)&&decide (L.length≤1000)&&inR D L
theorem lisB_at {D:List Dt}{ls:List (List Int)}(h:lisB D ls=true){i:Nat}(hi:i<ls.length):(atL ls i).length≠0∧(atL ls i).length≤1000∧inR D (atL ls i)=true:=by
 have:=List.all_eq_true.1 h _ (List.getElem_mem hi)
 unfold atL
 rw [List.getD_eq_getElem?_getD,List.getElem?_eq_getElem hi]
 simp only [Bool.and_eq_true,decide_eq_true_eq] at this
 exact⟨this.1.1,this.1.2,this.2⟩
def ok211 (n:Nat)(a:A211):Prop:=wbB a.l a.D a.ls=true∧lisB a.D a.ls=true∧0≤a.p∧a.p<a.ls.length∧a.S.length=a.ls.length∧atB a.S a.p.toNat=false∧cntF a.S≤n
def e211 (p:Int)(s q:Nat)(j:Int):List (Nat × Value):=[(0,iv p),(1,.pointer (some ⟨2002,0,none⟩)),(2,.pointer (some ⟨2000,0,none⟩)),(3,.pointer (some ⟨2003,0,none⟩)),(16,.slice (some ⟨s+1000,0,none⟩) q q),(17,iv q),(18,iv j)]
def X211 (n:Nat):XF:=dX (ok211 n) (fun a=>[iv a.p,.pointer (some ⟨2002,0,none⟩),.pointer (some ⟨2000,0,none⟩),.pointer (some ⟨2003,0,none⟩)]) (fun a=>visH a a.S) (fun _=>2004) (fun _=>.tuple #[]) (fun a=>visH a (vis a.D a.ls n a.S a.p.toNat)) (fun _=>2004)
theorem HOK_mono {W:Heap}{b c:Nat}(h:HOK W b)(hb:b≤c):HOK W c:=fun k o hk=>by
 obtain⟨h1,h2⟩:=h k o hk
 exact⟨by omega,ObjRen_low (fun _ _=>rfl) hb h2⟩
theorem visH_hok {a:A211}{M:List Bool}(hn:a.ls.length≤1000):HOK (visH a M) 2004:=by
 unfold visH
 refine HOK_cons (HOK_cons (HOK_cons (HOK_cons (HOK_mono (webR_hok hn) (by omega)) (by omega) ?_) (by omega) (ObjRen_g (flat_g _ _))) (by omega) ?_) (by omega) ?_
 ·exact⟨rfl,rfl,rfl,rfl,List.forall_mem_cons.2 ⟨⟨Nat.le_of_ble_eq_true rfl,rfl⟩,fun _ h=>(by cases h)⟩⟩
 ·exact⟨rfl,rfl,rfl,rfl,List.forall_mem_cons.2 ⟨⟨Nat.le_of_ble_eq_true rfl,fun h=>by cases h⟩,fun _ h=>(by cases h)⟩⟩
 ·refine⟨rfl,rfl,rfl,by simp [visV,ren1,trS,trFn,trP,at0],List.forall_mem_cons.2 ⟨⟨trivial,?_⟩,fun _ h=>(by cases h)⟩⟩
  intro v hv
  simp only [List.mem_cons,List.not_mem_nil,or_false] at hv
  rcases hv with rfl|rfl|rfl
  ·exact⟨Nat.le_of_ble_eq_true rfl,rfl⟩
  ·exact⟨Nat.le_of_ble_eq_true rfl,rfl⟩
  ·exact⟨Nat.le_of_ble_eq_true rfl,rfl⟩
theorem visH_li {a:A211}{M:List Bool}{s:Nat}(hn:a.ls.length≤1000)(hs:s<a.ls.length)(h0:(atL a.ls s).length≠0):look (visH a M) (s+1000)=some (.cells false false 1 (flat elI.fl (atL a.ls s))):=by
 unfold visH
 rw [look_ne (by omega),look_ne (by omega),look_ne (by omega),look_ne (by omega)]
 have:=webR_look (l:=a.l) (D:=a.D) (nE:=a.nE) (c1:=a.c1) (c2:=a.c2) (n:=a.n) (fo:=a.fo) (s:=a.ls.length) hs h0
 rwa [show tN a.ls.length s=s+1000 by unfold tN;rw [if_neg (by omega)]] at this
theorem e211_ok {p j:Int}{s q:Nat}{e:List (Nat × Value)}(hs:s<1000)(he:∀ x∈e211 p s q j,look e x.1=some x.2):∀ x∈e211 p s q j,look e x.1=some (ren (rn []) x.2)∧nmT 2004 x.2:=by
 have key:∀ x∈e211 p s q j,ren (rn []) x.2=x.2∧nmT 2004 x.2:=by
  unfold e211
  refine List.forall_mem_cons.2 ⟨⟨rfl,scT_g rfl⟩,List.forall_mem_cons.2 ⟨⟨rfl,Nat.le_of_ble_eq_true rfl,rfl⟩,List.forall_mem_cons.2 ⟨⟨rfl,Nat.le_of_ble_eq_true rfl,rfl⟩,List.forall_mem_cons.2 ⟨⟨rfl,Nat.le_of_ble_eq_true rfl,rfl⟩,List.forall_mem_cons.2 ⟨⟨rfl,show s+1000<2004 by omega,fun h=>by cases h⟩,List.forall_mem_cons.2 ⟨⟨rfl,scT_g rfl⟩,List.forall_mem_cons.2 ⟨⟨rfl,scT_g rfl⟩,fun _ h=>(by cases h)⟩⟩⟩⟩⟩⟩⟩
 exact fun x hx=>⟨by rw [(key x hx).1];exact he x hx,(key x hx).2⟩
theorem HOK_out {W:Heap}{b:Nat}(h:HOK W b){v:Value}(hv:gT v=true):∃ ρ,RenOK b ρ [(0,v)] W b [(0,v)] W b :=
 ⟨id,fun t u hu=>by
  have hm:=look_mem hu
  simp only [List.mem_cons,List.not_mem_nil,or_false] at hm
  injection hm with e1 e2
  subst e1 e2
  exact⟨by rw [ren,tr_g hv];rfl,scT_g hv⟩,fun k o hk=>⟨(h k o hk).1,o,hk,(h k o hk).2⟩,fun _ _ _ _ _ _ e=>e,fun _ _=>rfl,Nat.le_refl _⟩
theorem cnt_pos {S:List Bool}{p:Nat}(hp:p<S.length)(h:atB S p=false):0<cntF S:=by
 have:=cnt_set hp h
 omega
theorem xf211:∀ n,XOK Go.Proofs.Tryz.prog 211 (X211 n)
 |0=>dX_ok (body_calls (xl:=[]) .nil) fun a ⟨h1,h2,h3,h4,h5,h6,h7⟩=>by
  have:=cnt_pos (by omega) h6
  omega
 |n+1=>dX_ok (body_calls (xl:=[(211,X211 n)]) (.cons (xf211 n) .nil)) fun a ⟨h1,h2,h3,h4,h5,h6,h7⟩=>by
  obtain⟨p,l,D,ls,nE,c1,c2,nI,fo,S⟩:=a
  simp only at h1 h2 h3 h4 h5 h6 h7
  have hn:=wbB_n h1
  obtain⟨q1,q2,q3⟩:=lisB_at h2 (i:=p.toNat) (by omega)
  generalize ha:(⟨p,l,D,ls,nE,c1,c2,nI,fo,S⟩:A211)=a
  have hvH:∀ M:List Bool,visH a M=(2003,.cells true false 1 [visV])::(2002,.cells true false 1 [.slice (some ⟨2001,0,none⟩) ls.length ls.length])::(2001,.cells true false 1 (flat elB.fl M))::(2000,.cells true false 1 [.pointer (some ⟨0,0,none⟩)])::webR l D ls nE c1 c2 nI fo ls.length:=fun M=>by rw [← ha];rfl
  have hpa:a.p=p:=by rw [← ha]
  have hSa:a.S=S:=by rw [← ha]
  have hDa:a.D=D:=by rw [← ha]
  have hla:a.ls=ls:=by rw [← ha]
  simp only [hpa,hSa,hDa,hla]
  clear ha hpa hSa hDa
  rw [hvH S]
  generalize hpp:p.toNat=s at *
  generalize hq:(atL ls s).length=q at *
  have hvv:tV (tN ls.length s) (atL ls s)=.slice (some ⟨s+1000,0,none⟩) q q:=by rw [tV,if_neg (by omega),tN,if_neg (by omega),hq]
  have key:∀ o,o=s*1→nth (tC ls.length ls) o=some (.slice (some ⟨s+1000,0,none⟩) q q):=fun o ho=>by rw [tC_nth (by omega) ho,hvv]
  unfold webR wcC
  rw [op7_out (Nat.le_refl _)]
  repeat' first
   |(((conv=>whnf);refine bm (fun g=>?_) (fun g=>?_)))
   |((conv=>whnf)
     refine boV (key _ ?_) ?_
     ·show _+Int.toNat p*1=_;omega)
  all_goals first
   |(exfalso;simp [cfgS,std,fitsK] at g;omega)
   |(exfalso
     have hb:Nat.ble (0+Int.toNat p*1+1) (flat elB.fl S).length=true:=Nat.ble_eq_true_of_le (by rw [flat_len];show _≤S.length*1;omega)
     exact Bool.false_ne_true (g.symm.trans hb))
   |skip
  (conv=>whnf)
  refine⟨fun q' e h nx=>∃ (i:Nat) (j:Int),j=i∧i≤q∧q'=q - i∧e=e211 p s q j∧h=visH a (visK D ls n S s i)∧nx=2004,⟨q,?_⟩,?_⟩
  ·refine Into_kp (P:=[]) (W:=visH a (visK D ls n S s 0)) (e0:=e211 p s q 0) (n0:=2004) [] ⟨0,0,rfl,Nat.zero_le _,rfl,rfl,rfl,rfl⟩ ?_ ?_ ?_ (fun _ h=>(by cases h)) (fun _ h=>(by cases h)) (fun _ h=>(by cases h)) (Nat.le_refl _)
   ·refine e211_ok (by omega) ?_
    unfold e211
    exact List.forall_mem_cons.2 ⟨rfl,List.forall_mem_cons.2 ⟨rfl,List.forall_mem_cons.2 ⟨rfl,List.forall_mem_cons.2 ⟨rfl,List.forall_mem_cons.2 ⟨rfl,List.forall_mem_cons.2 ⟨rfl,List.forall_mem_cons.2 ⟨rfl,fun _ h=>(by cases h)⟩⟩⟩⟩⟩⟩⟩
   ·exact visH_hok (by rw [hla];omega)
   ·intro k o hk
    have hput:putN (flat elB.fl S) (0+Int.toNat p*1) [.bool true]=flat elB.fl (visK D ls n S s 0):=by
     rw [hpp,Nat.zero_add,put_bool _ _ _ (by omega)]
     rfl
    rw [hvH,← hput] at hk
    unfold webR wcC at hk
    rw [op7_out (Nat.le_refl _)] at hk
    exact hk
  ·rintro q' e h nx ⟨i,j,hj,hi,rfl,rfl,rfl,rfl⟩
   unfold e211
   ((conv=>whnf);refine bm (fun h8=>?_) (fun h8=>?_))
   ·have hlt:i<q:=by simp [cfgS,std] at h8;omega
    have hli:look (visH a (visK D ls n S s i)) (s+1000)=some (.cells false false 1 (flat elI.fl (atL ls s))):=by
     have:=visH_li (a:=a) (M:=visK D ls n S s i) (s:=s) (by rw [hla];omega) (by rw [hla];omega) (by rw [hla,hq];exact q1)
     rwa [hla] at this
    have hd:=inR_at q3 (i:=i) (by omega)
    have ht:=wbB_at h1 (i:=(atI (atL ls s) i).toNat) (by omega)
    ((conv=>whnf);refine bm (fun h9=>?_) (fun h9=>?_))
    ·(conv=>whnf)
     rw [hli]
     (conv=>whnf)
     refine boV (getI (atL ls s) (i:=i) (by omega) ?_) ?_
     ·show _+Int.toNat j*1=_;omega
     have hvs:=visK_s (D:=D) (n:=n) (S:=S) (show i<(atL ls s).length by omega)
     have hvl:=(visK_le (D:=D) (ls:=ls) (n:=n) (S:=S) (p:=s) i (by omega))
     generalize visK D ls n S s i=M at hvs hvl ⊢
     generalize atI (atL ls s) i=x at hd ht hvs ⊢
     rw [hvH M]
     unfold webR wcC
     rw [op7_out (Nat.le_refl _)]
     have hE:∀ p' S' X,visH ⟨p',l,D,ls,nE,c1,c2,nI,fo,S'⟩ X=visH a X:=fun p' S' X=>by rw [hvH];rfl
     have hcs:=cnt_set (S:=S) (p:=s) (by omega) h6
     ((conv=>whnf);refine bm (fun b1=>?_) (fun b1=>?_))
     ·(conv=>whnf)
      refine boV (getTt D (i:=x.toNat) (by omega) ?_) ?_
      ·show _+Int.toNat x*5+4=_;omega
      ((conv=>whnf);refine bm (fun b2=>?_) (fun b2=>?_))
      ·(conv=>whnf)
       refine boV (getB M (i:=ttI D x) (by show Int.toNat _<_;omega) ?_) ?_
       ·show _+Int.toNat (atD D x.toNat).tt*1=_;rw [Nat.zero_add];rfl
       ((conv=>whnf);refine bm (fun b3=>?_) (fun b3=>?_))
       ·have hM:atB M (ttI D x)=false:=by simpa [cfgS,std] using b3
        ((conv=>whnf);refine bm (fun b4=>?_) (fun b4=>?_))
        ·(conv=>whnf)
         refine boV (getTt D (i:=x.toNat) (by omega) ?_) ?_
         ·show _+Int.toNat x*5+4=_;omega
         (conv=>whnf)
         refine⟨⟨(atD D x.toNat).tt,l,D,ls,nE,c1,c2,nI,fo,M⟩,⟨h1,h2,ht.2.2.1,?_,?_,hM,?_⟩,rfl,?_,rfl,?_⟩
         ·show (atD D x.toNat).tt<(ls.length:Int);omega
         ·show M.length=ls.length;omega
         ·show cntF M≤n;omega
         ·show _=visH _ M
          unfold visH webR wcC
          simp only
          rw [op7_out (Nat.le_refl _)]
         ·((conv=>whnf);refine bm (fun b5=>?_) (fun b5=>?_))
          ·(conv=>whnf)
           refine⟨q - (i+1),by omega,?_⟩
           refine Into_kp (P:=[]) (W:=visH a (visK D ls n S s (i+1))) (e0:=e211 p s q (j+1)) (n0:=2004) [] ⟨i+1,j+1,by omega,by omega,rfl,rfl,rfl,rfl⟩ ?_ (visH_hok (by rw [hla];omega)) ?_ (fun _ h=>(by cases h)) (fun _ h=>(by cases h)) (fun _ h=>(by cases h)) (Nat.le_refl _)
           ·refine e211_ok (by omega) ?_
            unfold e211
            exact List.forall_mem_cons.2 ⟨rfl,List.forall_mem_cons.2 ⟨rfl,List.forall_mem_cons.2 ⟨rfl,List.forall_mem_cons.2 ⟨rfl,List.forall_mem_cons.2 ⟨rfl,List.forall_mem_cons.2 ⟨rfl,List.forall_mem_cons.2 ⟨rfl,fun _ h=>(by cases h)⟩⟩⟩⟩⟩⟩⟩
           ·intro k o hk
            rw [hvs,if_neg (by rw [hM];decide),← hE (atD D x.toNat).tt M] at hk
            exact hk
          ·exfalso;simp [cfgS,std,fitsK] at b5;omega
        ·exfalso;simp [cfgS,std] at b4;omega
       ·have hM:atB M (ttI D x)=true:=by simpa [cfgS,std] using b3
        ((conv=>whnf);refine bm (fun b4=>?_) (fun b4=>?_))
        ·(conv=>whnf)
         refine⟨q - (i+1),by omega,?_⟩
         refine Into_kp (P:=[]) (W:=visH a (visK D ls n S s (i+1))) (e0:=e211 p s q (j+1)) (n0:=2004) [] ⟨i+1,j+1,by omega,by omega,rfl,rfl,rfl,rfl⟩ ?_ (visH_hok (by rw [hla];omega)) ?_ (fun _ h=>(by cases h)) (fun _ h=>(by cases h)) (fun _ h=>(by cases h)) (Nat.le_refl _)
         ·refine e211_ok (by omega) ?_
          unfold e211
          exact List.forall_mem_cons.2 ⟨rfl,List.forall_mem_cons.2 ⟨rfl,List.forall_mem_cons.2 ⟨rfl,List.forall_mem_cons.2 ⟨rfl,List.forall_mem_cons.2 ⟨rfl,List.forall_mem_cons.2 ⟨rfl,List.forall_mem_cons.2 ⟨rfl,fun _ h=>(by cases h)⟩⟩⟩⟩⟩⟩⟩
         ·intro k o hk
          rw [hvs,if_pos hM,hvH M] at hk
          unfold webR wcC at hk
          rw [op7_out (Nat.le_refl _)] at hk
          exact hk
        ·exfalso;simp [cfgS,std,fitsK] at b4;omega
      ·exfalso;simp [cfgS,std] at b2;omega
     ·exfalso;simp [cfgS,std] at b1;omega
    ·exfalso;simp [cfgS,std] at h9;omega
   ·have hge:i=q:=by simp [cfgS,std] at h8;omega
    (conv=>whnf)
    rw [hge,← hq,visK_all]
    exact HOK_out (visH_hok (by rw [hla];omega)) rfl
end Go.Aw
end

noncomputable section
namespace Go.Aw
set_option maxRecDepth 100000
set_option maxHeartbeats 2000000
def reachI (D:List Dt)(ls:List (List Int)):List Bool:=vis D ls 1000 (List.replicate ls.length false) 0
def cnS (l:List Pt)(D:List Dt)(ls:List (List Int)):List Value→Option (Bool × Value)
 |[]=>some (wbB l D ls&&lisB D ls&&decide (1≤ls.length),.bool ((reachI D ls).all id))
 |_=>none
def Xf154:Nat × XF:=(154,wbX cnS)
theorem xf154:XOK Go.Proofs.Tryz.prog Xf154.1 Xf154.2:=wbX_ok (f:=154) (s:=cnS) (body_calls (xl:=[(211,X211 1000),Xf208]) (.cons (xf211 1000) (.cons xf208 .nil))) fun l D ls r v hs=>by
 have:r=[]∧wbB l D ls=true∧lisB D ls=true∧1≤ls.length∧v=.bool ((reachI D ls).all id):=by
  unfold cnS at hs
  split at hs
  ·injection hs with hs;injection hs with h1 h2
   simp only [Bool.and_eq_true,decide_eq_true_eq] at h1
   exact⟨rfl,h1.1.1,h1.1.2,h1.2,h2.symm⟩
  ·cases hs
 obtain⟨rfl,h1,h2,h3,rfl⟩:=this
 clear hs
 have hn:=wbB_n h1
 refine⟨rfl,rfl,by omega,ls.length,fun nE c1 c2 n fo=>?_⟩
 unfold webR wcC
 rw [op7_out (Nat.le_refl _)]
 ((conv=>whnf);refine bm (fun g1=>?_) (fun g1=>?_))
 ·((conv=>whnf);refine bm (fun g=>?_) (fun g=>?_))
  ·(conv=>whnf)
   refine⟨⟨0,l,D,ls,nE,c1,c2,n,fo,List.replicate ls.length false⟩,⟨h1,h2,Int.le_refl 0,?_,List.length_replicate,?_,?_⟩,rfl,?_,rfl,?_⟩
   ·show (0:Int)<(ls.length:Int);omega
   ·show atB (List.replicate ls.length false) 0=false
    unfold atB
    rw [List.getD_eq_getElem?_getD,List.getElem?_replicate]
    split <;> rfl
   ·have:cntF (List.replicate ls.length false)≤(List.replicate ls.length false).length:=List.countP_le_length
    rw [List.length_replicate] at this
    show cntF (List.replicate ls.length false)≤1000
    omega
   ·show _=visH _ (List.replicate ls.length false)
    unfold visH webR wcC
    simp only
    rw [op7_out (Nat.le_refl _),← rep_fB]
    rfl
   ·(conv=>whnf)
    have hrl:(reachI D ls).length=ls.length:=by
     unfold reachI
     rw [(vis_le D ls 1000 _ 0).2,List.length_replicate]
    refine⟨reachI D ls,⟨hrl.symm,_,_,_,_,rfl,by rw [List.drop_zero];exact List.take_length⟩,?_⟩
    rw [show ctS (reachI D ls) ([Value.bool false].append #[].toList)=some (true,.bool (!((reachI D ls).all id))) from by
     show some (decide ((reachI D ls).length≤1000000),Value.bool (!((reachI D ls).all id)))=_
     rw [decide_eq_true (by omega)]]
    refine must_of rfl ?_
    (conv=>whnf)
    show Value.bool (!(!((reachI D ls).all id)))=_
    rw [Bool.not_not]
  ·exfalso
   have g:decide ((0:Int)<(ls.length:Int))=false:=g
   simp only [decide_eq_false_iff_not] at g
   omega
 ·exfalso
  simp [cfgS,std,fitsK] at g1
  omega
end Go.Aw
end
