/-
  Parts of a proof. No condition.
-/
import Derived.Test.YtjahkcbdecgbhaaGreatQBd
set_option linter.unusedSimpArgs false
set_option linter.unusedVariables false
noncomputable section
namespace Go.Aw
set_option maxRecDepth 100000
set_option maxHeartbeats 2000000
def eX (D:List Dt)(ls:List (List Int)):List Bool:=EB D ls 1000 (List.replicate ls.length false) 0
def cnS (l:List Pt)(D:List Dt)(ls:List (List Int)):List Value→Option (Bool × Value)
 |[]=>some (HT l D ls&&ZB D ls&&decide (1≤ls.length),.bool ((eX D ls).all id))
 |_=>none
def NO:Nat × XF:=(154,wbX cnS)
theorem aGH:cH Go.Proofs.Tryz.prog NO.1 NO.2:=SS (f:=154) (s:=cnS) (aL (xl:=[(211,aHg 1000),VH]) (.cons (aGe 1000) (.cons aFO .nil))) fun l D ls r v hs=>by
 have:r=[]∧HT l D ls=true∧ZB D ls=true∧1≤ls.length∧v=.bool ((eX D ls).all id):=by
  unfold cnS at hs;split at hs
  ·injection hs with hs;injection hs with h1 h2;simp only [Bool.and_eq_true,decide_eq_true_eq] at h1;exact⟨rfl,h1.1.1,h1.1.2,h1.2,h2.symm⟩
  ·cases hs
 obtain⟨rfl,h1,h2,h3,rfl⟩:=this;clear hs;have hn:=J1 h1;refine⟨rfl,rfl,by omega,ls.length,fun nE c1 c2 n fo=>?_⟩;unfold fZ xO;rw [lT (Nat.le_refl _)];((conv=>whnf);refine bm (fun g1=>?_) (fun g1=>?_))
 ·((conv=>whnf);refine bm (fun g=>?_) (fun g=>?_))
  ·(conv=>whnf);refine⟨⟨0,l,D,ls,nE,c1,c2,n,fo,List.replicate ls.length false⟩,⟨h1,h2,Int.le_refl 0,?_,List.length_replicate,?_,?_⟩,rfl,?_,rfl,?_⟩
   ·show (0:Int)<(ls.length:Int);omega
   ·show cG (List.replicate ls.length false) 0=false;unfold cG;rw [List.getD_eq_getElem?_getD,List.getElem?_replicate];split <;> rfl
   ·have:gQ (List.replicate ls.length false)≤(List.replicate ls.length false).length:=List.countP_le_length;rw [List.length_replicate] at this;show gQ (List.replicate ls.length false)≤1000;omega
   ·show _=sJ _ (List.replicate ls.length false);unfold sJ fZ xO;simp only;rw [lT (Nat.le_refl _),← KU];rfl
   ·(conv=>whnf);have hrl:(eX D ls).length=ls.length:=by
     unfold eX;rw [(E0 D ls 1000 _ 0).2,List.length_replicate]
    refine⟨eX D ls,⟨hrl.symm,_,_,_,_,rfl,by rw [List.drop_zero];exact List.take_length⟩,?_⟩;rw [show ctS (eX D ls) ([Value.bool false].append #[].toList)=some (true,.bool (!((eX D ls).all id))) from by
     show some (decide ((eX D ls).length≤1000000),Value.bool (!((eX D ls).all id)))=_;rw [decide_eq_true (by omega)]]
    refine aJ rfl ?_;(conv=>whnf);show Value.bool (!(!((eX D ls).all id)))=_;rw [Bool.not_not]
  ·exfalso;have g:decide ((0:Int)<(ls.length:Int))=false:=g;simp only [decide_eq_false_iff_not] at g;omega
 ·exfalso;simp [aA,aB,aI] at g1;omega
theorem dI {b n0 nx:Nat}{I:KS}{e0 e:List (Nat × Value)}{P W h:Heap}(L:List (Nat × Nat))(hI:I e0 (P++W) n0)(he:∀ p∈e0,look e p.1=some (iQ (rn L) p.2)∧BB n0 p.2)(hW:∀ k o,look W k=some o→k<b∧bT id b o o)(hk:∀ k o,look W k=some o→look h k=some o)
  (hP:∀ p∈P,((b≤p.1∧p.1<n0∧b≤rn L p.1)∨p.1<b)∧∃ o',look h (rn L p.1)=some o'∧bT (rn L) n0 p.2 o') (hi:∀ k∈P.map Prod.fst,∀ k'∈P.map Prod.fst,rn L k=rn L k'→k=k') (hL:∀ p∈L,b≤p.1) (hb:b≤n0):qU b I e h nx:=by
 have hfix:∀ k,k<b→rn L k=k:=fun k hk=>by
  unfold rn;split
  ·rename_i q hq;have:=hL _ (bA hq);simp only at this;omega
  ·rfl
 refine⟨e0,P++W,n0,rn L,hI,fun t v hv=>he (t,v) (bA hv),fun k o hk'=>?_,fun k k' o o' h1 h2 e=>?_,hfix,hb⟩
 ·rcases qM hk' with hm|hm
  ·obtain⟨a1,a2⟩:=hP _ hm;simp only at a1;exact⟨by omega,a2⟩
  ·obtain⟨a1,a2⟩:=hW k o hm;exact⟨by omega,o,by rw [hfix k a1];exact hk k o hm,qY hfix hb a2⟩
 ·rcases qM h1 with m1|m1 <;> rcases qM h2 with m2|m2
  ·exact hi k (List.mem_map.2 ⟨_,m1,rfl⟩) k' (List.mem_map.2 ⟨_,m2,rfl⟩) e
  ·have:=(hP _ m1).1;have b2:=(hW _ _ m2).1;simp only at this;rw [hfix k' b2] at e;rcases this with this|this
   ·omega
   ·rw [hfix k this] at e;exact e
  ·have:=(hP _ m2).1;have b2:=(hW _ _ m1).1;simp only at this;rw [hfix k b2] at e;rcases this with this|this
   ·omega
   ·rw [hfix k' this] at e;exact e
  ·rwa [hfix k (hW _ _ m1).1,hfix k' (hW _ _ m2).1] at e
structure NB where
 face:List Int
 seen:List Bool
 many:Int
 out:Int
 flat:Bool
def fS (s:List Bool)(w:List Int):Nat→List Bool
 |0=>s
 |i+1=>(fS s w i).set (aK w i).toNat true
theorem lA (s:List Bool)(w:List Int):∀ i,(fS s w i).length=s.length
 |0=>rfl
 |i+1=>by unfold fS;rw [List.length_set];exact lA s w i
def kG (l:List Pt)(D:List Dt)(ls:List (List Int))(s:NB)(d:Nat):NB :=
 if cG s.seen d=true then s else
  let w:=qT D ls d;let a:=HR l D w w.length;let fc:=if 0<a then s.many+1 else 0
  ⟨dN s.face w fc w.length,fS s.seen w w.length,if 0<a then s.many+1 else s.many,if 0<a then s.out else if a<0 then s.out+1 else s.out,if 0<a then s.flat else if a<0 then s.flat else true⟩
def cC (l:List Pt)(D:List Dt)(ls:List (List Int)):Nat→NB
 |0=>⟨List.replicate D.length 0,List.replicate D.length false,0,0,false⟩
 |d+1=>kG l D ls (cC l D ls d) d
def nmD (l:List Pt)(D:List Dt)(ls:List (List Int)):NB:=cC l D ls D.length
def y0 (s:NB):Bool:=decide (s.out=1)&&!s.flat
theorem nK (l:List Pt)(D:List Dt)(ls:List (List Int)):∀ d,(cC l D ls d).face.length=D.length∧(cC l D ls d).seen.length=D.length∧0≤(cC l D ls d).many∧(cC l D ls d).many≤d∧0≤(cC l D ls d).out∧(cC l D ls d).out≤d
 |0=>by unfold cC;simp
 |d+1=>by
  obtain⟨h1,h2,h3,h4,h5,h6⟩:=nK l D ls d;unfold cC kG;split
  ·refine⟨h1,h2,h3,?_,h5,?_⟩ <;> omega
  ·simp only [fE,lA];refine⟨h1,h2,?_,?_,?_,?_⟩
   ·split <;> omega
   ·split <;> omega
   ·split
    ·omega
    ·split <;> omega
   ·split
    ·omega
    ·split <;> omega
def aBj (D:List Dt)(ls:List (List Int)):Bool:=(List.range D.length).all fun d=>decide (kP D ls d (kB D ls d)=d)
structure WbR (R:Heap) (k0 kd kt:Nat) (nm:Nat→Nat) (l:List Pt) (D:List Dt) (ls:List (List Int)):Prop where
 pt:∃ wr g sz cs,look R k0=some (.cells wr g sz cs)∧cs.take (flat aP.fl l).length=flat aP.fl l
 da:∃ wr g sz cs,look R kd=some (.cells wr g sz cs)∧cs.take (flat pS.fl D).length=flat pS.fl D
 tb:∃ wr g sz,look R kt=some (.cells wr g sz ((List.range ls.length).map fun i=>tV (nm i) (bO ls i)))
 li:∀ i,i<ls.length→(bO ls i).length≠0→∃ wr g sz cs,look R (nm i)=some (.cells wr g sz cs)∧cs.take (flat aN.fl (bO ls i)).length=flat aN.fl (bO ls i)
theorem WbR.at {R h:Heap}{p k0 k1 kd kt kf:Nat}{nm:Nat→Nat}{l:List Pt}{D:List Dt}{ls:List (List Int)}{nE c1 c2:Nat}{n:Int}{fo:Option (Nat × Nat)}(hw:WbR R k0 kd kt nm l D ls)(hx:∀ k o,look R k=some o→look h k=some o){wr g:Bool}{sz:Nat}
  (hs:look h p=some (.cells wr g sz (xO k0 k1 kd kt kf l.length nE D.length ls.length c1 c2 n fo))):wP h p k0 k1 kd kt kf nm l D ls nE c1 c2 n fo:=by
 obtain⟨⟨w1,g1,s1,x1,a1,b1⟩,⟨w2,g2,s2,x2,a2,b2⟩,⟨w3,g3,s3,a3⟩,h4⟩:=hw;refine⟨⟨_,_,_,hs⟩,⟨_,_,_,_,hx _ _ a1,b1⟩,⟨_,_,_,_,hx _ _ a2,b2⟩,⟨_,_,_,hx _ _ a3⟩,fun i hi h0=>?_⟩;obtain⟨w5,g5,s5,x5,a5,b5⟩:=h4 i hi h0;exact⟨_,_,_,_,hx _ _ a5,b5⟩
structure NP where
 R:Heap
 k0:Nat
 k1:Nat
 kd:Nat
 kt:Nat
 nm:Nat→Nat
 l:List Pt
 D:List Dt
 ls:List (List Int)
 nE:Nat
 c1:Nat
 c2:Nat
 n:Int
def aGm (a:NP):Prop:=vW a.l a.D a.ls=true∧aBj a.D a.ls=true∧xC a.R 2003∧look a.R 7=none∧WbR a.R a.k0 a.kd a.kt a.nm a.l a.D a.ls∧(a.k0<2003∧a.k1<2003∧a.kd<2003∧a.kt<2003)
def NF (a:NP)(fv:Value):aX:=.cells true false 1 [.slice (some ⟨a.k0,0,none⟩) a.l.length a.c1,.slice (some ⟨a.k1,0,none⟩) a.nE a.c2,iv a.n,.slice (some ⟨a.kd,0,none⟩) a.D.length a.D.length,.slice (some ⟨a.kt,0,none⟩) a.ls.length a.ls.length,fv]
def N4 (a:NP):Heap:=(7,NF a (.slice (some ⟨2003,0,none⟩) a.D.length a.D.length))::(2003,.cells true false 1 (flat aN.fl (nmD a.l a.D a.ls).face))::a.R
def aE1:XF:=dX aGm (fun _=>[.pointer (some ⟨7,0,none⟩)]) (fun a=>(7,NF a aQ)::a.R) (fun _=>2003) (fun a=>.tuple #[iv (nmD a.l a.D a.ls).many,.bool (y0 (nmD a.l a.D a.ls))])
 N4 (fun _=>2004)
def oJ (N:Nat)(s:NB)(j:Int):List (Nat × Value):=[(0,.pointer (some ⟨7,0,none⟩)),(4,.slice (some ⟨2004,0,none⟩) N N),(5,iv s.many),(6,iv s.out),(7,.bool s.flat),(33,iv N),(34,iv j)]
def oH (a:NP)(s:NB):Heap:=[(7,NF a (.slice (some ⟨2003,0,none⟩) a.D.length a.D.length)),(2003,.cells true false 1 (flat aN.fl s.face)),(2004,.cells true false 1 (flat eH.fl s.seen))]
def lG (N:Nat)(s:NB)(j fc:Int)(n:Nat)(x:Int):List (Nat × Value):=(11,iv fc)::(58,.slice (some ⟨2005,0,none⟩) n n)::(59,iv n)::(60,iv x)::oJ N s j
theorem HJ {s:List Bool}{w:List Int}{t o:Nat}(ho:o=(aK w t).toNat*1)(hi:(aK w t).toNat<s.length):c8 (flat eH.fl (fS s w t)) o [.bool true]=flat eH.fl (fS s w (t+1)):=by
 rw [ho,uN _ _ _ (by rw [lA];exact hi)];rfl
theorem AW {a:NP}(h6:a.k0<2003∧a.k1<2003∧a.kd<2003∧a.kt<2003){h:Heap}{s:NB}{n0:Nat}(hn:2005≤n0)(x1:look h 7=some (NF a (.slice (some ⟨2003,0,none⟩) a.D.length a.D.length)))(x2:look h 2003=some (.cells true false 1 (flat aN.fl s.face)))(x3:look h 2004=some (.cells true false 1 (flat eH.fl s.seen))) :
  ∀ p∈oH a s,((2003≤p.1∧p.1<n0∧2003≤rn [] p.1)∨p.1<2003)∧∃ o',look h (rn [] p.1)=some o'∧bT (rn []) n0 p.2 o':=by
 have hsl:∀ {q a b:Nat},q<2004→B3 n0 (.slice (some ⟨q,0,none⟩) a b):=fun {q a b} hq=>⟨show q<n0 by omega,fun h=>by cases h⟩;unfold oH;refine List.forall_mem_cons.2 ⟨⟨.inr (by omega),_,x1,rfl,rfl,rfl,rfl,?_⟩,List.forall_mem_cons.2 ⟨⟨.inl ⟨Nat.le_refl _,by show 2003<n0;omega,Nat.le_refl _⟩,_,x2,aO (aG _ _)⟩,List.forall_mem_cons.2 ⟨⟨.inl ⟨by omega,by show 2004<n0;omega,by show 2003≤2004;omega⟩,_,x3,aO (aG _ _)⟩,fun _ h=>(by cases h)⟩⟩⟩;exact List.forall_mem_cons.2 ⟨hsl (by omega),List.forall_mem_cons.2 ⟨hsl (by omega),List.forall_mem_cons.2 ⟨cL rfl,List.forall_mem_cons.2 ⟨hsl (by omega),List.forall_mem_cons.2 ⟨hsl (by omega),List.forall_mem_cons.2 ⟨hsl (by omega),fun _ h=>(by cases h)⟩⟩⟩⟩⟩⟩
theorem BA {a:NP}(h6:a.k0<2003∧a.k1<2003∧a.kd<2003∧a.kt<2003){h:Heap}{s:NB}{w:List Int}(x1:look h 7=some (NF a (.slice (some ⟨2003,0,none⟩) a.D.length a.D.length)))(x2:look h 2003=some (.cells true false 1 (flat aN.fl s.face)))(x3:look h 2004=some (.cells true false 1 (flat eH.fl s.seen)))
  (x4:look h 2005=some (.cells true false 1 (flat aN.fl w))):∀ p∈oH a s++[(2005,.cells true false 1 (flat aN.fl w))],((2003≤p.1∧p.1<2006∧2003≤rn [] p.1)∨p.1<2003)∧∃ o',look h (rn [] p.1)=some o'∧bT (rn []) 2006 p.2 o':=by
 intro p hp;rcases List.mem_append.1 hp with hp|hp
 ·exact AW h6 (by omega) x1 x2 x3 p hp
 ·simp only [List.mem_cons,List.not_mem_nil,or_false] at hp;subst hp;exact⟨.inl ⟨by omega,by omega,by show 2003≤2005;omega⟩,_,x4,aO (aG _ _)⟩
theorem bN {W:Heap}{b q:Nat}(h:xC W b)(hq:b≤q):look W q=none:=by
 cases hl:look W q with
 |none=>rfl
 |some o=>have:=(h q o hl).1;omega
theorem aHr {l:List Pt}{D:List Dt}{ls:List (List Int)}{d:Nat}(h:vW l D ls=true)(h2:aBj D ls=true)(hd:d<D.length):wkS l D ls [iv d]=some (true,qT D ls d,[]):=by
 have:=List.all_eq_true.1 h2 d (List.mem_range.2 hd);show some (vW l D ls&&decide ((0:Int)≤d)&&decide ((d:Int)<D.length)&&decide (kP D ls d (kB D ls d)=d),qT D ls d,[])=_;rw [h,decide_eq_true (by omega:(0:Int)≤d),decide_eq_true (by omega:(d:Int)<D.length),this];rfl
theorem RL {l:List Pt}{D:List Dt}{ls:List (List Int)}{d:Nat}(h:vW l D ls=true)(hd:d<D.length):fH D (qT D ls d)=true∧(qT D ls d).length≤D.length+1∧1≤(qT D ls d).length:=by
 have hp:=kZ D ls d D.length 1;refine⟨List.all_eq_true.2 fun x hx=>?_,?_,?_⟩
 ·obtain⟨i,_,rfl⟩:=List.mem_map.1 hx;have:=S1 h (d:=d) (by omega) (by omega) i;simpa using this
 ·unfold qT kB;rw [List.length_map,List.length_range];omega
 ·unfold qT kB;rw [List.length_map,List.length_range];omega
theorem aI3 {l:List Pt}{D:List Dt}{ls:List (List Int)}{L:List Int}(h:HT l D ls=true)(h1:fH D L=true)(h2:L.length≤100000):arS l D ls L=some (true,iv (HR l D L L.length)):=by
 unfold arS;rw [h,h1,decide_eq_true h2];rfl
theorem aAm {a:NP}(h3:xC a.R 2003)(h4:look a.R 7=none)(h6:a.k0<2003∧a.k1<2003∧a.kd<2003∧a.kt<2003){h:Heap}{s:NB}{nx:Nat}{b:Bool}(hb:b=y0 s)(x1:look h 7=some (NF a (.slice (some ⟨2003,0,none⟩) a.D.length a.D.length)))
  (x2:look h 2003=some (.cells true false 1 (flat aN.fl s.face))) (hx:∀ k o,look a.R k=some o→look h k=some o) :
  ∃ ρ,qH 2003 ρ [(0,.tuple #[iv s.many,.bool (y0 s)])] ((7,NF a (.slice (some ⟨2003,0,none⟩) a.D.length a.D.length))::(2003,.cells true false 1 (flat aN.fl s.face))::a.R) 2004 [(0,.tuple #[iv s.many,.bool b])] h nx:=by
 subst hb;have hsl:∀ {q a b:Nat},q<2004→B3 2004 (.slice (some ⟨q,0,none⟩) a b):=fun {q a b} hq=>⟨hq,fun h=>by cases h⟩;refine⟨id,fun t u hu=>?_,fun k o hk=>?_,fun _ _ _ _ _ _ e=>e,fun _ _=>rfl,by omega⟩
 ·have hm:=bA hu;simp only [List.mem_cons,List.not_mem_nil,or_false] at hm;injection hm with e1 e2;subst e1 e2;exact⟨by rw [iQ,gY rfl];rfl,cY rfl⟩
 ·rw [aE] at hk;split at hk
  ·rename_i hb;injection hk with hk;subst hk;rw [← beq_true hb];refine⟨by omega,_,x1,rfl,rfl,rfl,rfl,?_⟩;exact List.forall_mem_cons.2 ⟨hsl (by omega),List.forall_mem_cons.2 ⟨hsl (by omega),List.forall_mem_cons.2 ⟨cL rfl,List.forall_mem_cons.2 ⟨hsl (by omega),List.forall_mem_cons.2 ⟨hsl (by omega),List.forall_mem_cons.2 ⟨hsl (by omega),fun _ h=>(by cases h)⟩⟩⟩⟩⟩⟩
  ·rw [aE] at hk;split at hk
   ·rename_i hb;injection hk with hk;subst hk;rw [← beq_true hb];exact⟨by omega,_,x2,aO (aG _ _)⟩
   ·obtain⟨a1,a2⟩:=h3 k o hk;exact⟨by omega,o,hx k o hk,qY (fun _ _=>rfl) (by omega) a2⟩
theorem aFK:cH Go.Proofs.Tryz.prog 155 aE1:=UF (aL (xl:=[aHJ,aIC]) (.cons aMT (.cons aN0 .nil))) fun a ⟨h1,h2,h3,h4,h5,h6⟩=>by
 have hn:=J1 (DO h1);unfold NF;((conv=>whnf);refine bm (fun g1=>?_) (fun g1=>?_))
 ·((conv=>whnf);refine bm (fun g1'=>?_) (fun g1'=>?_))
  ·(conv=>whnf);refine⟨fun q e h nx=>∃ (i:Nat) (j:Int),j=i∧i≤a.D.length∧q=a.D.length - i∧e=oJ a.D.length (cC a.l a.D a.ls i) j∧h=oH a (cC a.l a.D a.ls i)++a.R∧nx=2005,⟨a.D.length,?_⟩,?_⟩
   ·refine dI (P:=oH a (cC a.l a.D a.ls 0)) (W:=a.R) (e0:=oJ a.D.length (cC a.l a.D a.ls 0) 0) (n0:=2005) [] ⟨0,0,rfl,Nat.zero_le _,rfl,rfl,rfl,rfl⟩ ?_ h3 ?_ ?_ ?_ (fun _ h=>(by cases h)) (by omega)
    ·unfold oJ;((repeat' refine iE rfl rfl ?_);exact iN)
    ·exact bJ (dT (bJ (ext_cons (fun _ _ h=>h) h4) (bN h3 (by omega))) h4) (bN h3 (by omega))
    ·refine AW h6 (by omega) rfl ?_ ?_
     ·show some (aX.cells true false 1 (rep a.D.length [iv 0]))=some (.cells true false 1 (flat aN.fl (List.replicate a.D.length 0)));rw [aId]
     ·show some (aX.cells true false 1 (rep a.D.length [.bool false]))=some (.cells true false 1 (flat eH.fl (List.replicate a.D.length false)));rw [KU]
    ·show ∀ k∈[7,2003,2004],∀ k'∈[7,2003,2004],_;decide
   ·rintro q e h nx ⟨i,j,hj,hi,rfl,rfl,rfl,rfl⟩;obtain⟨s1,s2,s3,s4,s5,s6⟩:=nK a.l a.D a.ls i;have hst:cC a.l a.D a.ls (i+1)=kG a.l a.D a.ls (cC a.l a.D a.ls i) i:=rfl;generalize hss:cC a.l a.D a.ls i=s at s1 s2 s3 s4 s5 s6 hst ⊢;unfold oJ oH NF;((conv=>whnf);refine bm (fun g2=>?_) (fun g2=>?_))
    ·have hlt:i<a.D.length:=(by simp [aA,aB] at g2;omega);((conv=>whnf);refine bm (fun g3=>?_) (fun g3=>?_))
     ·(conv=>whnf);refine gI (H8 s.seen (i:=i) (by omega) ?_) ?_
      ·show _+Int.toNat j*1=_;omega
      ((conv=>whnf);refine bm (fun g4=>?_) (fun g4=>?_))
      ·have g4:cG s.seen i=true:=g4;unfold kG at hst;rw [if_pos g4] at hst;((conv=>whnf);refine bm (fun g5=>?_) (fun g5=>?_))
       ·(conv=>whnf);refine⟨a.D.length - (i+1),by omega,?_⟩;refine dI (P:=oH a (cC a.l a.D a.ls (i+1))) (W:=a.R) (e0:=oJ a.D.length (cC a.l a.D a.ls (i+1)) (j+1)) (n0:=2005) [] ⟨i+1,j+1,by omega,by omega,rfl,rfl,rfl,rfl⟩ ?_ h3 ?_ ?_ ?_ (fun _ h=>(by cases h)) (by omega)
        ·rw [hst];unfold oJ;((repeat' refine iE rfl rfl ?_);exact iN)
        ·exact ext_cons (ext_cons (ext_cons (fun _ _ h=>h) (bN h3 (by omega))) (bN h3 (by omega))) h4
        ·rw [hst];exact AW h6 (by omega) rfl rfl rfl
        ·show ∀ k∈[7,2003,2004],∀ k'∈[7,2003,2004],_;decide
       ·exfalso;simp [aA,aB,aI] at g5;omega
      ·have g4:cG s.seen i=false:=g4;(conv=>whnf);have hx0:∀ k o,look a.R k=some o→look ([(7,aX.cells true false 1 [.slice (some ⟨a.k0,0,none⟩) a.l.length a.c1,.slice (some ⟨a.k1,0,none⟩) a.nE a.c2,iv a.n,.slice (some ⟨a.kd,0,none⟩) a.D.length a.D.length,.slice (some ⟨a.kt,0,none⟩) a.ls.length a.ls.length,.slice (some ⟨2003,0,none⟩) a.D.length a.D.length]),(2003,.cells true false 1 (flat aN.fl s.face)),(2004,.cells true false 1 (flat eH.fl s.seen))]++a.R) k=some o :=
        ext_cons (ext_cons (ext_cons (fun _ _ h=>h) (bN h3 (by omega))) (bN h3 (by omega))) h4
       have hwk:wkS a.l a.D a.ls [iv j]=some (true,qT a.D a.ls i,[]):=(by rw [hj];exact aHr h1 h2 hlt);obtain⟨w1,w2,w3⟩:=RL h1 hlt;refine⟨7,[iv j],a.k0,a.k1,a.kd,a.kt,2003,a.nm,a.l,a.D,a.ls,a.nE,a.c1,a.c2,a.n,some (a.D.length,a.D.length),rfl,h5.at hx0 rfl,?_⟩;rw [hwk];unfold kG at hst;rw [if_neg (by rw [g4];decide)] at hst;simp only at hst;generalize qT a.D a.ls i=w at w1 w2 w3 hst hwk ⊢;refine aJ rfl ?_;(conv=>whnf);refine⟨7,2005,a.k0,a.k1,a.kd,a.kt,2003,a.nm,a.l,a.D,a.ls,a.nE,a.c1,a.c2,a.n,some (a.D.length,a.D.length),w,w.length,rfl,h5.at (bJ hx0 (bN h3 (by omega))) rfl,⟨_,_,_,_,rfl,List.take_length⟩,?_⟩;rw [aI3 (DO h1) w1 (by omega)];generalize HR a.l a.D w w.length=A at hst ⊢;refine aJ rfl ?_;((conv=>whnf);refine bm (fun g6=>?_) (fun g6=>?_))
       ·have hA:0<A:=(by simpa [aA,aB] using g6);simp only [if_pos hA] at hst;((conv=>whnf);refine bm (fun g7=>?_) (fun g7=>?_))
        ·skip
         have hst1:cC a.l a.D a.ls (i+1)=⟨dN s.face w (s.many+1) w.length,fS s.seen w w.length,s.many+1,s.out,s.flat⟩:=(by rw [hst]);(conv=>whnf);refine⟨fun q e h nx=>∃ (t:Nat) (x:Int),x=t∧t≤w.length∧q=w.length - t∧e=lG a.D.length ⟨dN s.face w (s.many+1) t,fS s.seen w t,s.many+1,s.out,s.flat⟩ j (s.many+1) w.length x∧h=(oH a ⟨dN s.face w (s.many+1) t,fS s.seen w t,s.many+1,s.out,s.flat⟩++[(2005,.cells true false 1 (flat aN.fl w))])++a.R∧nx=2006,⟨w.length,?_⟩,?_⟩
         ·refine dI (P:=oH a ⟨s.face,s.seen,s.many+1,s.out,s.flat⟩++[(2005,.cells true false 1 (flat aN.fl w))]) (W:=a.R) (e0:=lG a.D.length ⟨s.face,s.seen,s.many+1,s.out,s.flat⟩ j (s.many+1) w.length 0) (n0:=2006) [] ⟨0,0,rfl,Nat.zero_le _,rfl,rfl,rfl,rfl⟩ ?_ h3 ?_ ?_ ?_ (fun _ h=>(by cases h)) (by omega)
          ·unfold lG oJ;((repeat' refine iE rfl rfl ?_);exact iN)
          ·exact bJ hx0 (bN h3 (by omega))
          ·exact BA h6 rfl rfl rfl rfl
          ·show ∀ k∈[7,2003,2004,2005],∀ k'∈[7,2003,2004,2005],_;decide
         ·rintro q e h nx ⟨t,x,hx,ht,rfl,rfl,rfl,rfl⟩;unfold lG oJ oH NF;((conv=>whnf);refine bm (fun m1=>?_) (fun m1=>?_))
          ·have htl:t<w.length:=(by simp [aA,aB] at m1;omega);have hwd:=jV w1 (i:=t) htl;((conv=>whnf);refine bm (fun m2=>?_) (fun m2=>?_))
           ·(conv=>whnf);refine gI (eK w (i:=t) htl ?_) ?_
            ·show _+Int.toNat x*1=_;omega
            have hsf:=fE s.face w (s.many+1) t;have hss:=lA s.seen w t
            repeat' first
             |(((conv=>whnf);refine bm (fun m=>?_) (fun m=>?_)))
            all_goals first
             |(exfalso;simp [aA,aB,aI] at m;omega)
             |(exfalso
               have hb:Nat.ble (0+Int.toNat (aK w t)*1+1) (flat eH.fl (fS s.seen w t)).length=true:=Nat.ble_eq_true_of_le (by rw [bD];show _≤(fS s.seen w t).length*1;omega);exact Bool.false_ne_true (m.symm.trans hb))
             |(exfalso
               have hb:Nat.ble (0+Int.toNat (aK w t)*1+1) (flat aN.fl (dN s.face w (s.many+1) t)).length=true:=Nat.ble_eq_true_of_le (by rw [bD];show _≤(dN s.face w (s.many+1) t).length*1;omega);exact Bool.false_ne_true (m.symm.trans hb))
             |skip
            (conv=>whnf);refine⟨w.length - (t+1),by omega,?_⟩;refine dI (P:=oH a ⟨dN s.face w (s.many+1) (t+1),fS s.seen w (t+1),s.many+1,s.out,s.flat⟩++[(2005,.cells true false 1 (flat aN.fl w))]) (W:=a.R) (e0:=lG a.D.length ⟨dN s.face w (s.many+1) (t+1),fS s.seen w (t+1),s.many+1,s.out,s.flat⟩ j (s.many+1) w.length (x+1)) (n0:=2006) [] ⟨t+1,x+1,by omega,by omega,rfl,rfl,rfl,rfl⟩ ?_ h3 ?_ ?_ ?_ (fun _ h=>(by cases h)) (by omega)
            ·unfold lG oJ;((repeat' refine iE rfl rfl ?_);exact iN)
            ·exact dT (dT (ext_cons (ext_cons (ext_cons (ext_cons (fun _ _ h=>h) (bN h3 (by omega))) (bN h3 (by omega))) (bN h3 (by omega))) h4) (bN h3 (by omega))) (bN h3 (by omega))
            ·refine BA h6 rfl ?_ ?_ rfl
             ·show some (aX.cells true false 1 (c8 (flat aN.fl (dN s.face w (s.many+1) t)) (0+Int.toNat (aK w t)*1) [iv (s.many+1)]))=_;rw [qN (by omega) (by omega)]
             ·show some (aX.cells true false 1 (c8 (flat eH.fl (fS s.seen w t)) (0+Int.toNat (aK w t)*1) [.bool true]))=_;rw [HJ (by omega) (by omega)]
            ·show ∀ k∈[7,2003,2004,2005],∀ k'∈[7,2003,2004,2005],_;decide
           ·exfalso;simp [aA,aB] at m2;omega
          ·have htl:t=w.length:=(by simp [aA,aB] at m1;omega);((conv=>whnf);refine bm (fun m2=>?_) (fun m2=>?_))
           ·(conv=>whnf);refine⟨a.D.length - (i+1),by omega,?_⟩;refine dI (P:=oH a (cC a.l a.D a.ls (i+1))) (W:=a.R) (e0:=oJ a.D.length (cC a.l a.D a.ls (i+1)) (j+1)) (n0:=2005) [] ⟨i+1,j+1,by omega,by omega,rfl,rfl,rfl,rfl⟩ ?_ h3 ?_ ?_ ?_ (fun _ h=>(by cases h)) (by omega)
            ·rw [hst1];unfold oJ;((repeat' refine iE rfl rfl ?_);exact iN)
            ·exact (ext_cons (ext_cons (ext_cons (ext_cons (fun _ _ h=>h) (bN h3 (by omega))) (bN h3 (by omega))) (bN h3 (by omega))) h4)
            ·rw [hst1,← htl];exact AW h6 (by omega) rfl rfl rfl
            ·show ∀ k∈[7,2003,2004],∀ k'∈[7,2003,2004],_;decide
           ·exfalso;simp [aA,aB,aI] at m2;omega
        ·exfalso;simp [aA,aB,aI] at g7;omega
       ·have hA:¬ 0<A:=(by simpa [aA,aB] using g6);simp only [if_neg hA] at hst;((conv=>whnf);refine bm (fun g7=>?_) (fun g7=>?_))
        ·have hA2:A<0:=(by simpa [aA,aB] using g7);simp only [if_pos hA2] at hst;((conv=>whnf);refine bm (fun g8=>?_) (fun g8=>?_))
         ·skip
          have hst1:cC a.l a.D a.ls (i+1)=⟨dN s.face w (0) w.length,fS s.seen w w.length,s.many,s.out+1,s.flat⟩:=(by rw [hst]);(conv=>whnf);refine⟨fun q e h nx=>∃ (t:Nat) (x:Int),x=t∧t≤w.length∧q=w.length - t∧e=lG a.D.length ⟨dN s.face w (0) t,fS s.seen w t,s.many,s.out+1,s.flat⟩ j (0) w.length x∧h=(oH a ⟨dN s.face w (0) t,fS s.seen w t,s.many,s.out+1,s.flat⟩++[(2005,.cells true false 1 (flat aN.fl w))])++a.R∧nx=2006,⟨w.length,?_⟩,?_⟩
          ·refine dI (P:=oH a ⟨s.face,s.seen,s.many,s.out+1,s.flat⟩++[(2005,.cells true false 1 (flat aN.fl w))]) (W:=a.R) (e0:=lG a.D.length ⟨s.face,s.seen,s.many,s.out+1,s.flat⟩ j (0) w.length 0) (n0:=2006) [] ⟨0,0,rfl,Nat.zero_le _,rfl,rfl,rfl,rfl⟩ ?_ h3 ?_ ?_ ?_ (fun _ h=>(by cases h)) (by omega)
           ·unfold lG oJ;((repeat' refine iE rfl rfl ?_);exact iN)
           ·exact bJ hx0 (bN h3 (by omega))
           ·exact BA h6 rfl rfl rfl rfl
           ·show ∀ k∈[7,2003,2004,2005],∀ k'∈[7,2003,2004,2005],_;decide
          ·rintro q e h nx ⟨t,x,hx,ht,rfl,rfl,rfl,rfl⟩;unfold lG oJ oH NF;((conv=>whnf);refine bm (fun m1=>?_) (fun m1=>?_))
           ·have htl:t<w.length:=(by simp [aA,aB] at m1;omega);have hwd:=jV w1 (i:=t) htl;((conv=>whnf);refine bm (fun m2=>?_) (fun m2=>?_))
            ·(conv=>whnf);refine gI (eK w (i:=t) htl ?_) ?_
             ·show _+Int.toNat x*1=_;omega
             have hsf:=fE s.face w (0) t;have hss:=lA s.seen w t
             repeat' first
              |(((conv=>whnf);refine bm (fun m=>?_) (fun m=>?_)))
             all_goals first
              |(exfalso;simp [aA,aB,aI] at m;omega)
              |(exfalso
                have hb:Nat.ble (0+Int.toNat (aK w t)*1+1) (flat eH.fl (fS s.seen w t)).length=true:=Nat.ble_eq_true_of_le (by rw [bD];show _≤(fS s.seen w t).length*1;omega);exact Bool.false_ne_true (m.symm.trans hb))
              |(exfalso
                have hb:Nat.ble (0+Int.toNat (aK w t)*1+1) (flat aN.fl (dN s.face w (0) t)).length=true:=Nat.ble_eq_true_of_le (by rw [bD];show _≤(dN s.face w (0) t).length*1;omega);exact Bool.false_ne_true (m.symm.trans hb))
              |skip
             (conv=>whnf);refine⟨w.length - (t+1),by omega,?_⟩;refine dI (P:=oH a ⟨dN s.face w (0) (t+1),fS s.seen w (t+1),s.many,s.out+1,s.flat⟩++[(2005,.cells true false 1 (flat aN.fl w))]) (W:=a.R) (e0:=lG a.D.length ⟨dN s.face w (0) (t+1),fS s.seen w (t+1),s.many,s.out+1,s.flat⟩ j (0) w.length (x+1)) (n0:=2006) [] ⟨t+1,x+1,by omega,by omega,rfl,rfl,rfl,rfl⟩ ?_ h3 ?_ ?_ ?_ (fun _ h=>(by cases h)) (by omega)
             ·unfold lG oJ;((repeat' refine iE rfl rfl ?_);exact iN)
             ·exact dT (dT (ext_cons (ext_cons (ext_cons (ext_cons (fun _ _ h=>h) (bN h3 (by omega))) (bN h3 (by omega))) (bN h3 (by omega))) h4) (bN h3 (by omega))) (bN h3 (by omega))
             ·refine BA h6 rfl ?_ ?_ rfl
              ·show some (aX.cells true false 1 (c8 (flat aN.fl (dN s.face w (0) t)) (0+Int.toNat (aK w t)*1) [iv (0)]))=_;rw [qN (by omega) (by omega)]
              ·show some (aX.cells true false 1 (c8 (flat eH.fl (fS s.seen w t)) (0+Int.toNat (aK w t)*1) [.bool true]))=_;rw [HJ (by omega) (by omega)]
             ·show ∀ k∈[7,2003,2004,2005],∀ k'∈[7,2003,2004,2005],_;decide
            ·exfalso;simp [aA,aB] at m2;omega
           ·have htl:t=w.length:=(by simp [aA,aB] at m1;omega);((conv=>whnf);refine bm (fun m2=>?_) (fun m2=>?_))
            ·(conv=>whnf);refine⟨a.D.length - (i+1),by omega,?_⟩;refine dI (P:=oH a (cC a.l a.D a.ls (i+1))) (W:=a.R) (e0:=oJ a.D.length (cC a.l a.D a.ls (i+1)) (j+1)) (n0:=2005) [] ⟨i+1,j+1,by omega,by omega,rfl,rfl,rfl,rfl⟩ ?_ h3 ?_ ?_ ?_ (fun _ h=>(by cases h)) (by omega)
             ·rw [hst1];unfold oJ;((repeat' refine iE rfl rfl ?_);exact iN)
             ·exact (ext_cons (ext_cons (ext_cons (ext_cons (fun _ _ h=>h) (bN h3 (by omega))) (bN h3 (by omega))) (bN h3 (by omega))) h4)
             ·rw [hst1,← htl];exact AW h6 (by omega) rfl rfl rfl
             ·show ∀ k∈[7,2003,2004],∀ k'∈[7,2003,2004],_;decide
            ·exfalso;simp [aA,aB,aI] at m2;omega
         ·exfalso;simp [aA,aB,aI] at g8;omega
        ·have hA2:¬ A<0:=(by simpa [aA,aB] using g7);simp only [if_neg hA2] at hst;have hst1:cC a.l a.D a.ls (i+1)=⟨dN s.face w (0) w.length,fS s.seen w w.length,s.many,s.out,true⟩:=(by rw [hst]);(conv=>whnf);refine⟨fun q e h nx=>∃ (t:Nat) (x:Int),x=t∧t≤w.length∧q=w.length - t∧e=lG a.D.length ⟨dN s.face w (0) t,fS s.seen w t,s.many,s.out,true⟩ j (0) w.length x∧h=(oH a ⟨dN s.face w (0) t,fS s.seen w t,s.many,s.out,true⟩++[(2005,.cells true false 1 (flat aN.fl w))])++a.R∧nx=2006,⟨w.length,?_⟩,?_⟩
         ·refine dI (P:=oH a ⟨s.face,s.seen,s.many,s.out,true⟩++[(2005,.cells true false 1 (flat aN.fl w))]) (W:=a.R) (e0:=lG a.D.length ⟨s.face,s.seen,s.many,s.out,true⟩ j (0) w.length 0) (n0:=2006) [] ⟨0,0,rfl,Nat.zero_le _,rfl,rfl,rfl,rfl⟩ ?_ h3 ?_ ?_ ?_ (fun _ h=>(by cases h)) (by omega)
          ·unfold lG oJ;((repeat' refine iE rfl rfl ?_);exact iN)
          ·exact bJ hx0 (bN h3 (by omega))
          ·exact BA h6 rfl rfl rfl rfl
          ·show ∀ k∈[7,2003,2004,2005],∀ k'∈[7,2003,2004,2005],_;decide
         ·rintro q e h nx ⟨t,x,hx,ht,rfl,rfl,rfl,rfl⟩;unfold lG oJ oH NF;((conv=>whnf);refine bm (fun m1=>?_) (fun m1=>?_))
          ·have htl:t<w.length:=(by simp [aA,aB] at m1;omega);have hwd:=jV w1 (i:=t) htl;((conv=>whnf);refine bm (fun m2=>?_) (fun m2=>?_))
           ·(conv=>whnf);refine gI (eK w (i:=t) htl ?_) ?_
            ·show _+Int.toNat x*1=_;omega
            have hsf:=fE s.face w (0) t;have hss:=lA s.seen w t
            repeat' first
             |(((conv=>whnf);refine bm (fun m=>?_) (fun m=>?_)))
            all_goals first
             |(exfalso;simp [aA,aB,aI] at m;omega)
             |(exfalso
               have hb:Nat.ble (0+Int.toNat (aK w t)*1+1) (flat eH.fl (fS s.seen w t)).length=true:=Nat.ble_eq_true_of_le (by rw [bD];show _≤(fS s.seen w t).length*1;omega);exact Bool.false_ne_true (m.symm.trans hb))
             |(exfalso
               have hb:Nat.ble (0+Int.toNat (aK w t)*1+1) (flat aN.fl (dN s.face w (0) t)).length=true:=Nat.ble_eq_true_of_le (by rw [bD];show _≤(dN s.face w (0) t).length*1;omega);exact Bool.false_ne_true (m.symm.trans hb))
             |skip
            (conv=>whnf);refine⟨w.length - (t+1),by omega,?_⟩;refine dI (P:=oH a ⟨dN s.face w (0) (t+1),fS s.seen w (t+1),s.many,s.out,true⟩++[(2005,.cells true false 1 (flat aN.fl w))]) (W:=a.R) (e0:=lG a.D.length ⟨dN s.face w (0) (t+1),fS s.seen w (t+1),s.many,s.out,true⟩ j (0) w.length (x+1)) (n0:=2006) [] ⟨t+1,x+1,by omega,by omega,rfl,rfl,rfl,rfl⟩ ?_ h3 ?_ ?_ ?_ (fun _ h=>(by cases h)) (by omega)
            ·unfold lG oJ;((repeat' refine iE rfl rfl ?_);exact iN)
            ·exact dT (dT (ext_cons (ext_cons (ext_cons (ext_cons (fun _ _ h=>h) (bN h3 (by omega))) (bN h3 (by omega))) (bN h3 (by omega))) h4) (bN h3 (by omega))) (bN h3 (by omega))
            ·refine BA h6 rfl ?_ ?_ rfl
             ·show some (aX.cells true false 1 (c8 (flat aN.fl (dN s.face w (0) t)) (0+Int.toNat (aK w t)*1) [iv (0)]))=_;rw [qN (by omega) (by omega)]
             ·show some (aX.cells true false 1 (c8 (flat eH.fl (fS s.seen w t)) (0+Int.toNat (aK w t)*1) [.bool true]))=_;rw [HJ (by omega) (by omega)]
            ·show ∀ k∈[7,2003,2004,2005],∀ k'∈[7,2003,2004,2005],_;decide
           ·exfalso;simp [aA,aB] at m2;omega
          ·have htl:t=w.length:=(by simp [aA,aB] at m1;omega);((conv=>whnf);refine bm (fun m2=>?_) (fun m2=>?_))
           ·(conv=>whnf);refine⟨a.D.length - (i+1),by omega,?_⟩;refine dI (P:=oH a (cC a.l a.D a.ls (i+1))) (W:=a.R) (e0:=oJ a.D.length (cC a.l a.D a.ls (i+1)) (j+1)) (n0:=2005) [] ⟨i+1,j+1,by omega,by omega,rfl,rfl,rfl,rfl⟩ ?_ h3 ?_ ?_ ?_ (fun _ h=>(by cases h)) (by omega)
            ·rw [hst1];unfold oJ;((repeat' refine iE rfl rfl ?_);exact iN)
            ·exact (ext_cons (ext_cons (ext_cons (ext_cons (fun _ _ h=>h) (bN h3 (by omega))) (bN h3 (by omega))) (bN h3 (by omega))) h4)
            ·rw [hst1,← htl];exact AW h6 (by omega) rfl rfl rfl
            ·show ∀ k∈[7,2003,2004],∀ k'∈[7,2003,2004],_;decide
           ·exfalso;simp [aA,aB,aI] at m2;omega
     ·exfalso;simp [aA,aB] at g3;omega
    ·have hge:i=a.D.length:=(by simp [aA,aB] at g2;omega);subst hge;unfold N4 nmD;rw [hss];((conv=>whnf);refine bm (fun g3=>?_) (fun g3=>?_))
     ·have g3:s.out=1:=(by simpa [aA,aB] using g3);(conv=>whnf);refine aAm h3 h4 h6 (b:=!s.flat) (by unfold y0;rw [decide_eq_true g3];rfl) rfl rfl (ext_cons (ext_cons (ext_cons (fun _ _ h=>h) (bN h3 (by omega))) (bN h3 (by omega))) h4)
     ·have g3:¬ s.out=1:=(by simpa [aA,aB] using g3);(conv=>whnf);refine aAm h3 h4 h6 (b:=false) (by unfold y0;rw [decide_eq_false g3];rfl) rfl rfl (ext_cons (ext_cons (ext_cons (fun _ _ h=>h) (bN h3 (by omega))) (bN h3 (by omega))) h4)
  ·exfalso;simp [aA,aB,aI] at g1';omega
 ·exfalso;simp [aA,aB,aI] at g1;omega
theorem ZK {b n:Nat}{o:aX}(h:bT id b o o)(hc:D6 o=true):bT id (n+b) (LY n o) (LY n o):=by
 cases o with
 |cells wr g sz cs =>
  obtain⟨_,_,_,h4,h5⟩:=h;have key:∀ v∈cs,bP id (bP (fun k=>n+k) v)=bP (fun k=>n+k) v∧B3 (n+b) (bP (fun k=>n+k) v):=fun v hv=>by
   have hn:B3 (n+b) (bP (fun k=>n+k) v):=j4 (m:=b) (aCu (h5 v hv)) (fun k hk=>by omega);refine⟨?_,hn⟩;unfold bP;rw [jI (n:=n+b) hn];rfl
  refine⟨rfl,rfl,rfl,?_,fun v hv=>?_⟩
  ·rw [List.map_map];exact List.map_congr_left fun v hv=>(key v hv).1.symm
  ·obtain⟨u,hu,rfl⟩:=List.mem_map.1 hv;exact (key u hu).2
 |_=>cases hc
theorem T5 {W:Heap}{b n:Nat}(h:xC W b)(hc:fN W=true):xC (kQ n W) (n+b):=fun k o hk=>by
 obtain⟨j,o',rfl,h1,rfl⟩:=iU W hk;obtain⟨a1,a2⟩:=h j o' h1;obtain⟨wr,g,sz,cs,rfl⟩:=oU hc h1;exact⟨by omega,ZK a2 rfl⟩
theorem aCJ {W:Heap}{b:Nat}(h:xC W b)(hc:fN W=true):xC (eU W) b:=fun k o hk=>by
 rw [gO] at hk;cases hq:look W k with
 |none=>rw [hq] at hk;cases hk
 |some q =>
  rw [hq] at hk;injection hk with hk;subst hk;obtain⟨a1,a2⟩:=h k q hq;obtain⟨wr,g,sz,cs,rfl⟩:=oU hc hq;exact⟨a1,rfl,rfl,rfl,a2.2.2.2.1,a2.2.2.2.2⟩
theorem VJ {A B:Heap}{b:Nat}(hA:xC A b)(hB:xC B b):xC (app A B) b:=fun k o hk=>by
 rw [fD] at hk;split at hk
 ·rename_i o' ho;injection hk with hk;subst hk;exact hA k o' ho
 ·exact hB k o hk
def tX (l:List Pt)(m:List Ed):Heap :=
 (6,.cells true false 5 (flat pS.fl (aR l m m.length)))::(5,.cells true false 1 (tC (outs l m).length (outs l m)))::(0,.cells false true aP.sz (flat aP.fl l))::(1,.cells false true aS.sz (flat aS.fl m))::tH (outs l m).length (outs l m) (outs l m).length
theorem N3 {l:List Pt}{m:List Ed}{p:Nat × aX}(h:p∈tX l m):p=(6,.cells true false 5 (flat pS.fl (aR l m m.length)))∨p=(5,.cells true false 1 (tC (outs l m).length (outs l m)))∨p=(0,.cells false true aP.sz (flat aP.fl l))∨p=(1,.cells false true aS.sz (flat aS.fl m)) ∨
  ∃ i,i<(outs l m).length∧(bO (outs l m) i).length≠0∧p=(i+1000,ob (bO (outs l m) i)):=by
 unfold tX at h;simp only [List.mem_cons] at h;rcases h with h|h|h|h|h
 ·exact .inl h
 ·exact .inr (.inl h)
 ·exact .inr (.inr (.inl h))
 ·exact .inr (.inr (.inr (.inl h)))
 ·obtain⟨i,h1,h2,h3,h4⟩:=yA h;exact .inr (.inr (.inr (.inr ⟨i,h1,h3,h4⟩)))
theorem QE {l:List Pt}{m:List Ed}(hl:l.length≤1000):xC (tX l m) 2000:=fun k o hk=>by
 have hol:=fF l m;rcases N3 (bA hk) with h|h|h|h|⟨i,h1,h2,h⟩
 ·injection h with e1 e2;subst e1 e2;exact⟨by omega,aO (aG _ _)⟩
 ·injection h with e1 e2;subst e1 e2;exact⟨by omega,rfl,rfl,rfl,HK (ρ:=id) (lK _ _) fun i hi=>CM hi,JQ (by omega) (by omega)⟩
 ·injection h with e1 e2;subst e1 e2;exact⟨by omega,aO (aG _ _)⟩
 ·injection h with e1 e2;subst e1 e2;exact⟨by omega,aO (aG _ _)⟩
 ·injection h with e1 e2;subst e1 e2;exact⟨by omega,aO (aG _ _)⟩
theorem rV {l:List Pt}{m:List Ed}:fN (tX l m)=true:=AD _ _ _
def KR (l:List Pt)(m:List Ed)(c1 c2:Nat)(n:Int):Heap:=(2,aY l.length m.length c1 c2 n)::aD aP aS l m
theorem aFH {l:List Pt}{m:List Ed}{c1 c2:Nat}{n:Int}:xC (KR l m c1 c2 n) 3:=by
 refine cA (cA (cA (fun k o hk=>by cases hk) (by omega) (aO (aG _ _))) (by omega) (aO (aG _ _))) (by omega) ⟨rfl,rfl,rfl,rfl,?_⟩;exact List.forall_mem_cons.2 ⟨⟨Nat.le_of_ble_eq_true rfl,fun h=>by cases h⟩,List.forall_mem_cons.2 ⟨⟨Nat.le_of_ble_eq_true rfl,fun h=>by cases h⟩,List.forall_mem_cons.2 ⟨cL rfl,fun _ h=>(by cases h)⟩⟩⟩
def pL (l:List Pt)(m:List Ed)(c1 c2:Nat)(n:Int):Heap:=app (kQ 3 (tX l m)) (eU (KR l m c1 c2 n))
def WJ (l:List Pt)(m:List Ed)(c1 c2:Nat)(n:Int):NP:=⟨pL l m c1 c2 n,3,4,9,8,fun i=>3+(i+1000),l,aR l m m.length,outs l m,m.length,c1,c2,n⟩
theorem aBJ {l:List Pt}{m:List Ed}{c1 c2:Nat}{n:Int}:app (kQ 3 (aDX l m c1 c2 n)) (eU (KR l m c1 c2 n))=(7,NF (WJ l m c1 c2 n) aQ)::pL l m c1 c2 n:=by
 unfold NF WJ;simp only [bI,fF];rfl
theorem MC {l:List Pt}{m:List Ed}{c1 c2:Nat}{n:Int}{j:Nat}{o:aX}(h:look (tX l m) j=some o):look (pL l m c1 c2 n) (3+j)=some (LY 3 o):=by
 unfold pL;rw [fD,fC _ h]
theorem XG {l:List Pt}{m:List Ed}{c1 c2:Nat}{n:Int}:WbR (pL l m c1 c2 n) 3 9 8 (fun i=>3+(i+1000)) l (aR l m m.length) (outs l m):=by
 have hfl:∀ {α:Type} (E:El α) (x:List α),(flat E.fl x).map (bP fun k=>3+k)=flat E.fl x:=fun E x=>bW (aG E x);refine⟨⟨_,_,_,_,MC (j:=0) rfl,?_⟩,⟨_,_,_,_,MC (j:=6) rfl,?_⟩,⟨true,false,1,?_⟩,fun i hi h0=>⟨true,false,1,flat aN.fl (bO (outs l m) i),?_,List.take_length⟩⟩
 ·rw [hfl];exact List.take_length
 ·rw [hfl];exact List.take_length
 ·rw [MC (j:=5) (o:=.cells true false 1 (tC (outs l m).length (outs l m))) rfl];show some (aX.cells true false 1 ((tC (outs l m).length (outs l m)).map (bP fun k=>3+k)))=_;unfold tC;rw [List.map_map];congr 2;refine List.map_congr_left fun i hi=>?_;show bP _ (tV (tN (outs l m).length i) (bO (outs l m) i))=_;rw [F9];unfold tN;rw [if_neg (by have:=List.mem_range.1 hi;omega)]
 ·have:look (tX l m) (i+1000)=some (ob (bO (outs l m) i)):=by
   unfold tX;rw [bC (by omega),bC (by omega),bC (by omega),bC (by omega)];exact lB (by omega) h0 hi
  rw [MC this];show some (aX.cells true false 1 ((flat aN.fl (bO (outs l m) i)).map (bP fun k=>3+k)))=_;rw [hfl]
theorem aGa {l:List Pt}{m:List Ed}{c1 c2:Nat}{n:Int}:look (pL l m c1 c2 n) 7=none:=by
 cases hl:look (pL l m c1 c2 n) 7 with
 |none=>rfl
 |some o =>
  exfalso;unfold pL at hl;rw [fD] at hl;split at hl
  ·rename_i o' ho;obtain⟨j,q,e1,e2,_⟩:=iU _ ho;rcases N3 (bA e2) with h|h|h|h|⟨i,h1,h2,h⟩ <;> (injection h with e3 e4;omega)
  ·cases hl
theorem aFm {l:List Pt}{m:List Ed}{c1 c2:Nat}{n:Int}(hl:l.length≤1000):xC (pL l m c1 c2 n) 2003 :=
 VJ (T5 (n:=3) (QE hl) rV) (uE (aCJ aFH rfl) (by omega))
theorem aHy {l:List Pt}{m:List Ed}{c1 c2:Nat}{n:Int}(hl:l.length≤1000)(h1:vW l (aR l m m.length) (outs l m)=true)(h2:aBj (aR l m m.length) (outs l m)=true):aGm (WJ l m c1 c2 n) :=
 ⟨h1,h2,aFm hl,aGa,XG,Nat.le_of_ble_eq_true rfl,Nat.le_of_ble_eq_true rfl,Nat.le_of_ble_eq_true rfl,Nat.le_of_ble_eq_true rfl⟩
end Go.Aw
end
