/-
  Parts of the proof, put together. No condition.
-/
import Derived.Test.YtjahkcbdecgbhaaGreatQBj
set_option linter.unusedSimpArgs false
set_option linter.unusedVariables false
noncomputable section
namespace Go.Aw
set_option maxRecDepth 100000
set_option maxHeartbeats 2000000
theorem eK {b n0 nx:Nat}{I:KS}{e0 e:List (Nat × Value)}{P W h:Heap}(L:List (Nat × Nat))(hI:I e0 (P++W) n0)(he:∀ p∈e0,look e p.1=some (fV (rn L) p.2)∧wJ n0 p.2)(hW:∀ k o,look W k=some o→k<b∧bO id b o o)(hk:∀ k o,look W k=some o→look h k=some o)
  (hP:∀ p∈P,((b≤p.1∧p.1<n0∧b≤rn L p.1)∨p.1<b)∧∃ o',look h (rn L p.1)=some o'∧bO (rn L) n0 p.2 o') (hi:∀ k∈P.map Prod.fst,∀ k'∈P.map Prod.fst,rn L k=rn L k'→k=k') (hL:∀ p∈L,b≤p.1) (hb:b≤n0):qV b I e h nx:=by
 have hfix:∀ k,k<b→rn L k=k:=fun k hk=>by
  unfold rn;split
  ·rename_i q hq;have:=hL _ (aZ hq);simp only at this;omega
  ·rfl
 refine⟨e0,P++W,n0,rn L,hI,fun t v hv=>he (t,v) (aZ hv),fun k o hk'=>?_,fun k k' o o' h1 h2 e=>?_,hfix,hb⟩
 ·rcases qC hk' with hm|hm
  ·obtain⟨a1,a2⟩:=hP _ hm;simp only at a1;exact⟨by omega,a2⟩
  ·obtain⟨a1,a2⟩:=hW k o hm;exact⟨by omega,o,by rw [hfix k a1];exact hk k o hm,qT hfix hb a2⟩
 ·rcases qC h1 with m1|m1 <;> rcases qC h2 with m2|m2
  ·exact hi k (List.mem_map.2 ⟨_,m1,rfl⟩) k' (List.mem_map.2 ⟨_,m2,rfl⟩) e
  ·have:=(hP _ m1).1;have b2:=(hW _ _ m2).1;simp only at this;rw [hfix k' b2] at e;rcases this with this|this
   ·omega
   ·rw [hfix k this] at e;exact e
  ·have:=(hP _ m2).1;have b2:=(hW _ _ m1).1;simp only at this;rw [hfix k b2] at e;rcases this with this|this
   ·omega
   ·rw [hfix k' this] at e;exact e
  ·rwa [hfix k (hW _ _ m1).1,hfix k' (hW _ _ m2).1] at e
structure PA where
 face:List Int
 seen:List Bool
 many:Int
 out:Int
 flat:Bool
def fL (s:List Bool)(w:List Int):Nat→List Bool
 |0=>s
 |i+1=>(fL s w i).set (aN w i).toNat true
theorem kN (s:List Bool)(w:List Int):∀ i,(fL s w i).length=s.length
 |0=>rfl
 |i+1=>by unfold fL;rw [List.length_set];exact kN s w i
def nF (l:List Pt)(D:List Dt)(ls:List (List Int))(s:PA)(d:Nat):PA :=
 if cV s.seen d=true then s else
  let w:=xB D ls d;let a:=I6 l D w w.length;let fc:=if 0<a then s.many+1 else 0
  ⟨dN s.face w fc w.length,fL s.seen w w.length,if 0<a then s.many+1 else s.many,if 0<a then s.out else if a<0 then s.out+1 else s.out,if 0<a then s.flat else if a<0 then s.flat else true⟩
def c8 (l:List Pt)(D:List Dt)(ls:List (List Int)):Nat→PA
 |0=>⟨List.replicate D.length 0,List.replicate D.length false,0,0,false⟩
 |d+1=>nF l D ls (c8 l D ls d) d
def nmD (l:List Pt)(D:List Dt)(ls:List (List Int)):PA:=c8 l D ls D.length
def A0 (s:PA):Bool:=decide (s.out=1)&&!s.flat
theorem AV (l:List Pt)(D:List Dt)(ls:List (List Int)):∀ d,(c8 l D ls d).face.length=D.length∧(c8 l D ls d).seen.length=D.length∧0≤(c8 l D ls d).many∧(c8 l D ls d).many≤d∧0≤(c8 l D ls d).out∧(c8 l D ls d).out≤d
 |0=>by unfold c8;simp
 |d+1=>by
  obtain⟨h1,h2,h3,h4,h5,h6⟩:=AV l D ls d;unfold c8 nF;split
  ·refine⟨h1,h2,h3,?_,h5,?_⟩ <;> omega
  ·simp only [eX,kN];refine⟨h1,h2,?_,?_,?_,?_⟩
   ·split <;> omega
   ·split <;> omega
   ·split
    ·omega
    ·split <;> omega
   ·split
    ·omega
    ·split <;> omega
def ZP (D:List Dt)(ls:List (List Int)):Bool:=(List.range D.length).all fun d=>decide (pH D ls d (o6 D ls d)=d)
structure WbR (R:Heap) (k0 kd kt:Nat) (nm:Nat→Nat) (l:List Pt) (D:List Dt) (ls:List (List Int)):Prop where
 pt:∃ wr g sz cs,look R k0=some (.cells wr g sz cs)∧cs.take (flat aP.fl l).length=flat aP.fl l
 da:∃ wr g sz cs,look R kd=some (.cells wr g sz cs)∧cs.take (flat rN.fl D).length=flat rN.fl D
 tb:∃ wr g sz,look R kt=some (.cells wr g sz ((List.range ls.length).map fun i=>tV (nm i) (bK ls i)))
 li:∀ i,i<ls.length→(bK ls i).length≠0→∃ wr g sz cs,look R (nm i)=some (.cells wr g sz cs)∧cs.take (flat aO.fl (bK ls i)).length=flat aO.fl (bK ls i)
theorem WbR.at {R h:Heap}{p k0 k1 kd kt kf:Nat}{nm:Nat→Nat}{l:List Pt}{D:List Dt}{ls:List (List Int)}{nE c1 c2:Nat}{n:Int}{fo:Option (Nat × Nat)}(hw:WbR R k0 kd kt nm l D ls)(hx:∀ k o,look R k=some o→look h k=some o){wr g:Bool}{sz:Nat}
  (hs:look h p=some (.cells wr g sz (GN k0 k1 kd kt kf l.length nE D.length ls.length c1 c2 n fo))):vL h p k0 k1 kd kt kf nm l D ls nE c1 c2 n fo:=by
 obtain⟨⟨w1,g1,s1,x1,a1,b1⟩,⟨w2,g2,s2,x2,a2,b2⟩,⟨w3,g3,s3,a3⟩,h4⟩:=hw;refine⟨⟨_,_,_,hs⟩,⟨_,_,_,_,hx _ _ a1,b1⟩,⟨_,_,_,_,hx _ _ a2,b2⟩,⟨_,_,_,hx _ _ a3⟩,fun i hi h0=>?_⟩;obtain⟨w5,g5,s5,x5,a5,b5⟩:=h4 i hi h0;exact⟨_,_,_,_,hx _ _ a5,b5⟩
structure OJ where
 R:Heap
 k0:Nat
 k1:Nat
 kd:Nat
 kt:Nat
 nm:Nat→Nat
 l:List Pt
 D:List Dt
 ls:List (List Int)
 nE:Nat
 c1:Nat
 c2:Nat
 n:Int
def aEt (a:OJ):Prop:=vB a.l a.D a.ls=true∧ZP a.D a.ls=true∧xO a.R 2003∧look a.R 7=none∧WbR a.R a.k0 a.kd a.kt a.nm a.l a.D a.ls∧(a.k0<2003∧a.k1<2003∧a.kd<2003∧a.kt<2003)
def OW (a:OJ)(fv:Value):aV:=.cells true false 1 [.slice (some ⟨a.k0,0,none⟩) a.l.length a.c1,.slice (some ⟨a.k1,0,none⟩) a.nE a.c2,iv a.n,.slice (some ⟨a.kd,0,none⟩) a.D.length a.D.length,.slice (some ⟨a.kt,0,none⟩) a.ls.length a.ls.length,fv]
def OB (a:OJ):Heap:=(7,OW a (.slice (some ⟨2003,0,none⟩) a.D.length a.D.length))::(2003,.cells true false 1 (flat aO.fl (nmD a.l a.D a.ls).face))::a.R
def aGO:XF:=dX aEt (fun _=>[.pointer (some ⟨7,0,none⟩)]) (fun a=>(7,OW a aQ)::a.R) (fun _=>2003) (fun a=>.tuple #[iv (nmD a.l a.D a.ls).many,.bool (A0 (nmD a.l a.D a.ls))])
 OB (fun _=>2004)
def oC (N:Nat)(s:PA)(j:Int):List (Nat × Value):=[(0,.pointer (some ⟨7,0,none⟩)),(4,.slice (some ⟨2004,0,none⟩) N N),(5,iv s.many),(6,iv s.out),(7,.bool s.flat),(33,iv N),(34,iv j)]
def oD (a:OJ)(s:PA):Heap:=[(7,OW a (.slice (some ⟨2003,0,none⟩) a.D.length a.D.length)),(2003,.cells true false 1 (flat aO.fl s.face)),(2004,.cells true false 1 (flat fT.fl s.seen))]
def kU (N:Nat)(s:PA)(j fc:Int)(n:Nat)(x:Int):List (Nat × Value):=(11,iv fc)::(58,.slice (some ⟨2005,0,none⟩) n n)::(59,iv n)::(60,iv x)::oC N s j
theorem GJ {s:List Bool}{w:List Int}{t o:Nat}(ho:o=(aN w t).toNat*1)(hi:(aN w t).toNat<s.length):dM (flat fT.fl (fL s w t)) o [.bool true]=flat fT.fl (fL s w (t+1)):=by
 rw [ho,yB _ _ _ (by rw [kN];exact hi)];rfl
theorem AR {a:OJ}(h6:a.k0<2003∧a.k1<2003∧a.kd<2003∧a.kt<2003){h:Heap}{s:PA}{n0:Nat}(hn:2005≤n0)(x1:look h 7=some (OW a (.slice (some ⟨2003,0,none⟩) a.D.length a.D.length)))(x2:look h 2003=some (.cells true false 1 (flat aO.fl s.face)))(x3:look h 2004=some (.cells true false 1 (flat fT.fl s.seen))) :
  ∀ p∈oD a s,((2003≤p.1∧p.1<n0∧2003≤rn [] p.1)∨p.1<2003)∧∃ o',look h (rn [] p.1)=some o'∧bO (rn []) n0 p.2 o':=by
 have hsl:∀ {q a b:Nat},q<2004→A8 n0 (.slice (some ⟨q,0,none⟩) a b):=fun {q a b} hq=>⟨show q<n0 by omega,fun h=>by cases h⟩;unfold oD;refine List.forall_mem_cons.2 ⟨⟨.inr (by omega),_,x1,rfl,rfl,rfl,rfl,?_⟩,List.forall_mem_cons.2 ⟨⟨.inl ⟨Nat.le_refl _,by show 2003<n0;omega,Nat.le_refl _⟩,_,x2,aM (aI _ _)⟩,List.forall_mem_cons.2 ⟨⟨.inl ⟨by omega,by show 2004<n0;omega,by show 2003≤2004;omega⟩,_,x3,aM (aI _ _)⟩,fun _ h=>(by cases h)⟩⟩⟩;exact List.forall_mem_cons.2 ⟨hsl (by omega),List.forall_mem_cons.2 ⟨hsl (by omega),List.forall_mem_cons.2 ⟨cR rfl,List.forall_mem_cons.2 ⟨hsl (by omega),List.forall_mem_cons.2 ⟨hsl (by omega),List.forall_mem_cons.2 ⟨hsl (by omega),fun _ h=>(by cases h)⟩⟩⟩⟩⟩⟩
theorem AY {a:OJ}(h6:a.k0<2003∧a.k1<2003∧a.kd<2003∧a.kt<2003){h:Heap}{s:PA}{w:List Int}(x1:look h 7=some (OW a (.slice (some ⟨2003,0,none⟩) a.D.length a.D.length)))(x2:look h 2003=some (.cells true false 1 (flat aO.fl s.face)))(x3:look h 2004=some (.cells true false 1 (flat fT.fl s.seen)))
  (x4:look h 2005=some (.cells true false 1 (flat aO.fl w))):∀ p∈oD a s++[(2005,.cells true false 1 (flat aO.fl w))],((2003≤p.1∧p.1<2006∧2003≤rn [] p.1)∨p.1<2003)∧∃ o',look h (rn [] p.1)=some o'∧bO (rn []) 2006 p.2 o':=by
 intro p hp;rcases List.mem_append.1 hp with hp|hp
 ·exact AR h6 (by omega) x1 x2 x3 p hp
 ·simp only [List.mem_cons,List.not_mem_nil,or_false] at hp;subst hp;exact⟨.inl ⟨by omega,by omega,by show 2003≤2005;omega⟩,_,x4,aM (aI _ _)⟩
theorem bM {W:Heap}{b q:Nat}(h:xO W b)(hq:b≤q):look W q=none:=by
 cases hl:look W q with
 |none=>rfl
 |some o=>have:=(h q o hl).1;omega
theorem aFN {l:List Pt}{D:List Dt}{ls:List (List Int)}{d:Nat}(h:vB l D ls=true)(h2:ZP D ls=true)(hd:d<D.length):wkS l D ls [iv d]=some (true,xB D ls d,[]):=by
 have:=List.all_eq_true.1 h2 d (List.mem_range.2 hd);show some (vB l D ls&&decide ((0:Int)≤d)&&decide ((d:Int)<D.length)&&decide (pH D ls d (o6 D ls d)=d),xB D ls d,[])=_;rw [h,decide_eq_true (by omega:(0:Int)≤d),decide_eq_true (by omega:(d:Int)<D.length),this];rfl
theorem RG {l:List Pt}{D:List Dt}{ls:List (List Int)}{d:Nat}(h:vB l D ls=true)(hd:d<D.length):eT D (xB D ls d)=true∧(xB D ls d).length≤D.length+1∧1≤(xB D ls d).length:=by
 have hp:=oA D ls d D.length 1;refine⟨List.all_eq_true.2 fun x hx=>?_,?_,?_⟩
 ·obtain⟨i,_,rfl⟩:=List.mem_map.1 hx;have:=Q1 h (d:=d) (by omega) (by omega) i;simpa using this
 ·unfold xB o6;rw [List.length_map,List.length_range];omega
 ·unfold xB o6;rw [List.length_map,List.length_range];omega
theorem aGs {l:List Pt}{D:List Dt}{ls:List (List Int)}{L:List Int}(h:GO l D ls=true)(h1:eT D L=true)(h2:L.length≤100000):arS l D ls L=some (true,iv (I6 l D L L.length)):=by
 unfold arS;rw [h,h1,decide_eq_true h2];rfl
theorem aAR {a:OJ}(h3:xO a.R 2003)(h4:look a.R 7=none)(h6:a.k0<2003∧a.k1<2003∧a.kd<2003∧a.kt<2003){h:Heap}{s:PA}{nx:Nat}{b:Bool}(hb:b=A0 s)(x1:look h 7=some (OW a (.slice (some ⟨2003,0,none⟩) a.D.length a.D.length)))
  (x2:look h 2003=some (.cells true false 1 (flat aO.fl s.face))) (hx:∀ k o,look a.R k=some o→look h k=some o) :
  ∃ ρ,qE 2003 ρ [(0,.tuple #[iv s.many,.bool (A0 s)])] ((7,OW a (.slice (some ⟨2003,0,none⟩) a.D.length a.D.length))::(2003,.cells true false 1 (flat aO.fl s.face))::a.R) 2004 [(0,.tuple #[iv s.many,.bool b])] h nx:=by
 subst hb;have hsl:∀ {q a b:Nat},q<2004→A8 2004 (.slice (some ⟨q,0,none⟩) a b):=fun {q a b} hq=>⟨hq,fun h=>by cases h⟩;refine⟨id,fun t u hu=>?_,fun k o hk=>?_,fun _ _ _ _ _ _ e=>e,fun _ _=>rfl,by omega⟩
 ·have hm:=aZ hu;simp only [List.mem_cons,List.not_mem_nil,or_false] at hm;injection hm with e1 e2;subst e1 e2;exact⟨by rw [fV,iB rfl];rfl,bU rfl⟩
 ·rw [aE] at hk;split at hk
  ·rename_i hb;injection hk with hk;subst hk;rw [← beq_true hb];refine⟨by omega,_,x1,rfl,rfl,rfl,rfl,?_⟩;exact List.forall_mem_cons.2 ⟨hsl (by omega),List.forall_mem_cons.2 ⟨hsl (by omega),List.forall_mem_cons.2 ⟨cR rfl,List.forall_mem_cons.2 ⟨hsl (by omega),List.forall_mem_cons.2 ⟨hsl (by omega),List.forall_mem_cons.2 ⟨hsl (by omega),fun _ h=>(by cases h)⟩⟩⟩⟩⟩⟩
  ·rw [aE] at hk;split at hk
   ·rename_i hb;injection hk with hk;subst hk;rw [← beq_true hb];exact⟨by omega,_,x2,aM (aI _ _)⟩
   ·obtain⟨a1,a2⟩:=h3 k o hk;exact⟨by omega,o,hx k o hk,qT (fun _ _=>rfl) (by omega) a2⟩
theorem aIJ:cJ Go.Proofs.Tryz.prog 155 aGO:=U6 (aK (xl:=[aFX,aHo]) (.cons aLn (.cons aJJ .nil))) fun a ⟨h1,h2,h3,h4,h5,h6⟩=>by
 have hn:=JB (CV h1);unfold OW;((conv=>whnf);refine bm (fun g1=>?_) (fun g1=>?_))
 ·((conv=>whnf);refine bm (fun g1'=>?_) (fun g1'=>?_))
  ·(conv=>whnf);refine⟨fun q e h nx=>∃ (i:Nat) (j:Int),j=i∧i≤a.D.length∧q=a.D.length - i∧e=oC a.D.length (c8 a.l a.D a.ls i) j∧h=oD a (c8 a.l a.D a.ls i)++a.R∧nx=2005,⟨a.D.length,?_⟩,?_⟩
   ·refine eK (P:=oD a (c8 a.l a.D a.ls 0)) (W:=a.R) (e0:=oC a.D.length (c8 a.l a.D a.ls 0) 0) (n0:=2005) [] ⟨0,0,rfl,Nat.zero_le _,rfl,rfl,rfl,rfl⟩ ?_ h3 ?_ ?_ ?_ (fun _ h=>(by cases h)) (by omega)
    ·unfold oC;((repeat' refine iE rfl rfl ?_);exact iN)
    ·exact cU (fZ (cU (ext_cons (fun _ _ h=>h) h4) (bM h3 (by omega))) h4) (bM h3 (by omega))
    ·refine AR h6 (by omega) rfl ?_ ?_
     ·show some (aV.cells true false 1 (rep a.D.length [iv 0]))=some (.cells true false 1 (flat aO.fl (List.replicate a.D.length 0)));rw [aGi]
     ·show some (aV.cells true false 1 (rep a.D.length [.bool false]))=some (.cells true false 1 (flat fT.fl (List.replicate a.D.length false)));rw [RM]
    ·show ∀ k∈[7,2003,2004],∀ k'∈[7,2003,2004],_;decide
   ·rintro q e h nx ⟨i,j,hj,hi,rfl,rfl,rfl,rfl⟩;obtain⟨s1,s2,s3,s4,s5,s6⟩:=AV a.l a.D a.ls i;have hst:c8 a.l a.D a.ls (i+1)=nF a.l a.D a.ls (c8 a.l a.D a.ls i) i:=rfl;generalize hss:c8 a.l a.D a.ls i=s at s1 s2 s3 s4 s5 s6 hst ⊢;unfold oC oD OW;((conv=>whnf);refine bm (fun g2=>?_) (fun g2=>?_))
    ·have hlt:i<a.D.length:=(by simp [aA,aB] at g2;omega);((conv=>whnf);refine bm (fun g3=>?_) (fun g3=>?_))
     ·(conv=>whnf);refine fY (M7 s.seen (i:=i) (by omega) ?_) ?_
      ·show _+Int.toNat j*1=_;omega
      ((conv=>whnf);refine bm (fun g4=>?_) (fun g4=>?_))
      ·have g4:cV s.seen i=true:=g4;unfold nF at hst;rw [if_pos g4] at hst;((conv=>whnf);refine bm (fun g5=>?_) (fun g5=>?_))
       ·(conv=>whnf);refine⟨a.D.length - (i+1),by omega,?_⟩;refine eK (P:=oD a (c8 a.l a.D a.ls (i+1))) (W:=a.R) (e0:=oC a.D.length (c8 a.l a.D a.ls (i+1)) (j+1)) (n0:=2005) [] ⟨i+1,j+1,by omega,by omega,rfl,rfl,rfl,rfl⟩ ?_ h3 ?_ ?_ ?_ (fun _ h=>(by cases h)) (by omega)
        ·rw [hst];unfold oC;((repeat' refine iE rfl rfl ?_);exact iN)
        ·exact ext_cons (ext_cons (ext_cons (fun _ _ h=>h) (bM h3 (by omega))) (bM h3 (by omega))) h4
        ·rw [hst];exact AR h6 (by omega) rfl rfl rfl
        ·show ∀ k∈[7,2003,2004],∀ k'∈[7,2003,2004],_;decide
       ·exfalso;simp [aA,aB,aH] at g5;omega
      ·have g4:cV s.seen i=false:=g4;(conv=>whnf);have hx0:∀ k o,look a.R k=some o→look ([(7,aV.cells true false 1 [.slice (some ⟨a.k0,0,none⟩) a.l.length a.c1,.slice (some ⟨a.k1,0,none⟩) a.nE a.c2,iv a.n,.slice (some ⟨a.kd,0,none⟩) a.D.length a.D.length,.slice (some ⟨a.kt,0,none⟩) a.ls.length a.ls.length,.slice (some ⟨2003,0,none⟩) a.D.length a.D.length]),(2003,.cells true false 1 (flat aO.fl s.face)),(2004,.cells true false 1 (flat fT.fl s.seen))]++a.R) k=some o :=
        ext_cons (ext_cons (ext_cons (fun _ _ h=>h) (bM h3 (by omega))) (bM h3 (by omega))) h4
       have hwk:wkS a.l a.D a.ls [iv j]=some (true,xB a.D a.ls i,[]):=(by rw [hj];exact aFN h1 h2 hlt);obtain⟨w1,w2,w3⟩:=RG h1 hlt;refine⟨7,[iv j],a.k0,a.k1,a.kd,a.kt,2003,a.nm,a.l,a.D,a.ls,a.nE,a.c1,a.c2,a.n,some (a.D.length,a.D.length),rfl,h5.at hx0 rfl,?_⟩;rw [hwk];unfold nF at hst;rw [if_neg (by rw [g4];decide)] at hst;simp only at hst;generalize xB a.D a.ls i=w at w1 w2 w3 hst hwk ⊢;refine aJ rfl ?_;(conv=>whnf);refine⟨7,2005,a.k0,a.k1,a.kd,a.kt,2003,a.nm,a.l,a.D,a.ls,a.nE,a.c1,a.c2,a.n,some (a.D.length,a.D.length),w,w.length,rfl,h5.at (cU hx0 (bM h3 (by omega))) rfl,⟨_,_,_,_,rfl,List.take_length⟩,?_⟩;rw [aGs (CV h1) w1 (by omega)];generalize I6 a.l a.D w w.length=A at hst ⊢;refine aJ rfl ?_;((conv=>whnf);refine bm (fun g6=>?_) (fun g6=>?_))
       ·have hA:0<A:=(by simpa [aA,aB] using g6);simp only [if_pos hA] at hst;((conv=>whnf);refine bm (fun g7=>?_) (fun g7=>?_))
        ·skip
         have hst1:c8 a.l a.D a.ls (i+1)=⟨dN s.face w (s.many+1) w.length,fL s.seen w w.length,s.many+1,s.out,s.flat⟩:=(by rw [hst]);(conv=>whnf);refine⟨fun q e h nx=>∃ (t:Nat) (x:Int),x=t∧t≤w.length∧q=w.length - t∧e=kU a.D.length ⟨dN s.face w (s.many+1) t,fL s.seen w t,s.many+1,s.out,s.flat⟩ j (s.many+1) w.length x∧h=(oD a ⟨dN s.face w (s.many+1) t,fL s.seen w t,s.many+1,s.out,s.flat⟩++[(2005,.cells true false 1 (flat aO.fl w))])++a.R∧nx=2006,⟨w.length,?_⟩,?_⟩
         ·refine eK (P:=oD a ⟨s.face,s.seen,s.many+1,s.out,s.flat⟩++[(2005,.cells true false 1 (flat aO.fl w))]) (W:=a.R) (e0:=kU a.D.length ⟨s.face,s.seen,s.many+1,s.out,s.flat⟩ j (s.many+1) w.length 0) (n0:=2006) [] ⟨0,0,rfl,Nat.zero_le _,rfl,rfl,rfl,rfl⟩ ?_ h3 ?_ ?_ ?_ (fun _ h=>(by cases h)) (by omega)
          ·unfold kU oC;((repeat' refine iE rfl rfl ?_);exact iN)
          ·exact cU hx0 (bM h3 (by omega))
          ·exact AY h6 rfl rfl rfl rfl
          ·show ∀ k∈[7,2003,2004,2005],∀ k'∈[7,2003,2004,2005],_;decide
         ·rintro q e h nx ⟨t,x,hx,ht,rfl,rfl,rfl,rfl⟩;unfold kU oC oD OW;((conv=>whnf);refine bm (fun m1=>?_) (fun m1=>?_))
          ·have htl:t<w.length:=(by simp [aA,aB] at m1;omega);have hwd:=jJ w1 (i:=t) htl;((conv=>whnf);refine bm (fun m2=>?_) (fun m2=>?_))
           ·(conv=>whnf);refine fY (fR w (i:=t) htl ?_) ?_
            ·show _+Int.toNat x*1=_;omega
            have hsf:=eX s.face w (s.many+1) t;have hss:=kN s.seen w t
            repeat' first
             |(((conv=>whnf);refine bm (fun m=>?_) (fun m=>?_)))
            all_goals first
             |(exfalso;simp [aA,aB,aH] at m;omega)
             |(exfalso
               have hb:Nat.ble (0+Int.toNat (aN w t)*1+1) (flat fT.fl (fL s.seen w t)).length=true:=Nat.ble_eq_true_of_le (by rw [bF];show _≤(fL s.seen w t).length*1;omega);exact Bool.false_ne_true (m.symm.trans hb))
             |(exfalso
               have hb:Nat.ble (0+Int.toNat (aN w t)*1+1) (flat aO.fl (dN s.face w (s.many+1) t)).length=true:=Nat.ble_eq_true_of_le (by rw [bF];show _≤(dN s.face w (s.many+1) t).length*1;omega);exact Bool.false_ne_true (m.symm.trans hb))
             |skip
            (conv=>whnf);refine⟨w.length - (t+1),by omega,?_⟩;refine eK (P:=oD a ⟨dN s.face w (s.many+1) (t+1),fL s.seen w (t+1),s.many+1,s.out,s.flat⟩++[(2005,.cells true false 1 (flat aO.fl w))]) (W:=a.R) (e0:=kU a.D.length ⟨dN s.face w (s.many+1) (t+1),fL s.seen w (t+1),s.many+1,s.out,s.flat⟩ j (s.many+1) w.length (x+1)) (n0:=2006) [] ⟨t+1,x+1,by omega,by omega,rfl,rfl,rfl,rfl⟩ ?_ h3 ?_ ?_ ?_ (fun _ h=>(by cases h)) (by omega)
            ·unfold kU oC;((repeat' refine iE rfl rfl ?_);exact iN)
            ·exact fZ (fZ (ext_cons (ext_cons (ext_cons (ext_cons (fun _ _ h=>h) (bM h3 (by omega))) (bM h3 (by omega))) (bM h3 (by omega))) h4) (bM h3 (by omega))) (bM h3 (by omega))
            ·refine AY h6 rfl ?_ ?_ rfl
             ·show some (aV.cells true false 1 (dM (flat aO.fl (dN s.face w (s.many+1) t)) (0+Int.toNat (aN w t)*1) [iv (s.many+1)]))=_;rw [pR (by omega) (by omega)]
             ·show some (aV.cells true false 1 (dM (flat fT.fl (fL s.seen w t)) (0+Int.toNat (aN w t)*1) [.bool true]))=_;rw [GJ (by omega) (by omega)]
            ·show ∀ k∈[7,2003,2004,2005],∀ k'∈[7,2003,2004,2005],_;decide
           ·exfalso;simp [aA,aB] at m2;omega
          ·have htl:t=w.length:=(by simp [aA,aB] at m1;omega);((conv=>whnf);refine bm (fun m2=>?_) (fun m2=>?_))
           ·(conv=>whnf);refine⟨a.D.length - (i+1),by omega,?_⟩;refine eK (P:=oD a (c8 a.l a.D a.ls (i+1))) (W:=a.R) (e0:=oC a.D.length (c8 a.l a.D a.ls (i+1)) (j+1)) (n0:=2005) [] ⟨i+1,j+1,by omega,by omega,rfl,rfl,rfl,rfl⟩ ?_ h3 ?_ ?_ ?_ (fun _ h=>(by cases h)) (by omega)
            ·rw [hst1];unfold oC;((repeat' refine iE rfl rfl ?_);exact iN)
            ·exact (ext_cons (ext_cons (ext_cons (ext_cons (fun _ _ h=>h) (bM h3 (by omega))) (bM h3 (by omega))) (bM h3 (by omega))) h4)
            ·rw [hst1,← htl];exact AR h6 (by omega) rfl rfl rfl
            ·show ∀ k∈[7,2003,2004],∀ k'∈[7,2003,2004],_;decide
           ·exfalso;simp [aA,aB,aH] at m2;omega
        ·exfalso;simp [aA,aB,aH] at g7;omega
       ·have hA:¬ 0<A:=(by simpa [aA,aB] using g6);simp only [if_neg hA] at hst;((conv=>whnf);refine bm (fun g7=>?_) (fun g7=>?_))
        ·have hA2:A<0:=(by simpa [aA,aB] using g7);simp only [if_pos hA2] at hst;((conv=>whnf);refine bm (fun g8=>?_) (fun g8=>?_))
         ·skip
          have hst1:c8 a.l a.D a.ls (i+1)=⟨dN s.face w (0) w.length,fL s.seen w w.length,s.many,s.out+1,s.flat⟩:=(by rw [hst]);(conv=>whnf);refine⟨fun q e h nx=>∃ (t:Nat) (x:Int),x=t∧t≤w.length∧q=w.length - t∧e=kU a.D.length ⟨dN s.face w (0) t,fL s.seen w t,s.many,s.out+1,s.flat⟩ j (0) w.length x∧h=(oD a ⟨dN s.face w (0) t,fL s.seen w t,s.many,s.out+1,s.flat⟩++[(2005,.cells true false 1 (flat aO.fl w))])++a.R∧nx=2006,⟨w.length,?_⟩,?_⟩
          ·refine eK (P:=oD a ⟨s.face,s.seen,s.many,s.out+1,s.flat⟩++[(2005,.cells true false 1 (flat aO.fl w))]) (W:=a.R) (e0:=kU a.D.length ⟨s.face,s.seen,s.many,s.out+1,s.flat⟩ j (0) w.length 0) (n0:=2006) [] ⟨0,0,rfl,Nat.zero_le _,rfl,rfl,rfl,rfl⟩ ?_ h3 ?_ ?_ ?_ (fun _ h=>(by cases h)) (by omega)
           ·unfold kU oC;((repeat' refine iE rfl rfl ?_);exact iN)
           ·exact cU hx0 (bM h3 (by omega))
           ·exact AY h6 rfl rfl rfl rfl
           ·show ∀ k∈[7,2003,2004,2005],∀ k'∈[7,2003,2004,2005],_;decide
          ·rintro q e h nx ⟨t,x,hx,ht,rfl,rfl,rfl,rfl⟩;unfold kU oC oD OW;((conv=>whnf);refine bm (fun m1=>?_) (fun m1=>?_))
           ·have htl:t<w.length:=(by simp [aA,aB] at m1;omega);have hwd:=jJ w1 (i:=t) htl;((conv=>whnf);refine bm (fun m2=>?_) (fun m2=>?_))
            ·(conv=>whnf);refine fY (fR w (i:=t) htl ?_) ?_
             ·show _+Int.toNat x*1=_;omega
             have hsf:=eX s.face w (0) t;have hss:=kN s.seen w t
             repeat' first
              |(((conv=>whnf);refine bm (fun m=>?_) (fun m=>?_)))
             all_goals first
              |(exfalso;simp [aA,aB,aH] at m;omega)
              |(exfalso
                have hb:Nat.ble (0+Int.toNat (aN w t)*1+1) (flat fT.fl (fL s.seen w t)).length=true:=Nat.ble_eq_true_of_le (by rw [bF];show _≤(fL s.seen w t).length*1;omega);exact Bool.false_ne_true (m.symm.trans hb))
              |(exfalso
                have hb:Nat.ble (0+Int.toNat (aN w t)*1+1) (flat aO.fl (dN s.face w (0) t)).length=true:=Nat.ble_eq_true_of_le (by rw [bF];show _≤(dN s.face w (0) t).length*1;omega);exact Bool.false_ne_true (m.symm.trans hb))
              |skip
             (conv=>whnf);refine⟨w.length - (t+1),by omega,?_⟩;refine eK (P:=oD a ⟨dN s.face w (0) (t+1),fL s.seen w (t+1),s.many,s.out+1,s.flat⟩++[(2005,.cells true false 1 (flat aO.fl w))]) (W:=a.R) (e0:=kU a.D.length ⟨dN s.face w (0) (t+1),fL s.seen w (t+1),s.many,s.out+1,s.flat⟩ j (0) w.length (x+1)) (n0:=2006) [] ⟨t+1,x+1,by omega,by omega,rfl,rfl,rfl,rfl⟩ ?_ h3 ?_ ?_ ?_ (fun _ h=>(by cases h)) (by omega)
             ·unfold kU oC;((repeat' refine iE rfl rfl ?_);exact iN)
             ·exact fZ (fZ (ext_cons (ext_cons (ext_cons (ext_cons (fun _ _ h=>h) (bM h3 (by omega))) (bM h3 (by omega))) (bM h3 (by omega))) h4) (bM h3 (by omega))) (bM h3 (by omega))
             ·refine AY h6 rfl ?_ ?_ rfl
              ·show some (aV.cells true false 1 (dM (flat aO.fl (dN s.face w (0) t)) (0+Int.toNat (aN w t)*1) [iv (0)]))=_;rw [pR (by omega) (by omega)]
              ·show some (aV.cells true false 1 (dM (flat fT.fl (fL s.seen w t)) (0+Int.toNat (aN w t)*1) [.bool true]))=_;rw [GJ (by omega) (by omega)]
             ·show ∀ k∈[7,2003,2004,2005],∀ k'∈[7,2003,2004,2005],_;decide
            ·exfalso;simp [aA,aB] at m2;omega
           ·have htl:t=w.length:=(by simp [aA,aB] at m1;omega);((conv=>whnf);refine bm (fun m2=>?_) (fun m2=>?_))
            ·(conv=>whnf);refine⟨a.D.length - (i+1),by omega,?_⟩;refine eK (P:=oD a (c8 a.l a.D a.ls (i+1))) (W:=a.R) (e0:=oC a.D.length (c8 a.l a.D a.ls (i+1)) (j+1)) (n0:=2005) [] ⟨i+1,j+1,by omega,by omega,rfl,rfl,rfl,rfl⟩ ?_ h3 ?_ ?_ ?_ (fun _ h=>(by cases h)) (by omega)
             ·rw [hst1];unfold oC;((repeat' refine iE rfl rfl ?_);exact iN)
             ·exact (ext_cons (ext_cons (ext_cons (ext_cons (fun _ _ h=>h) (bM h3 (by omega))) (bM h3 (by omega))) (bM h3 (by omega))) h4)
             ·rw [hst1,← htl];exact AR h6 (by omega) rfl rfl rfl
             ·show ∀ k∈[7,2003,2004],∀ k'∈[7,2003,2004],_;decide
            ·exfalso;simp [aA,aB,aH] at m2;omega
         ·exfalso;simp [aA,aB,aH] at g8;omega
        ·have hA2:¬ A<0:=(by simpa [aA,aB] using g7);simp only [if_neg hA2] at hst;have hst1:c8 a.l a.D a.ls (i+1)=⟨dN s.face w (0) w.length,fL s.seen w w.length,s.many,s.out,true⟩:=(by rw [hst]);(conv=>whnf);refine⟨fun q e h nx=>∃ (t:Nat) (x:Int),x=t∧t≤w.length∧q=w.length - t∧e=kU a.D.length ⟨dN s.face w (0) t,fL s.seen w t,s.many,s.out,true⟩ j (0) w.length x∧h=(oD a ⟨dN s.face w (0) t,fL s.seen w t,s.many,s.out,true⟩++[(2005,.cells true false 1 (flat aO.fl w))])++a.R∧nx=2006,⟨w.length,?_⟩,?_⟩
         ·refine eK (P:=oD a ⟨s.face,s.seen,s.many,s.out,true⟩++[(2005,.cells true false 1 (flat aO.fl w))]) (W:=a.R) (e0:=kU a.D.length ⟨s.face,s.seen,s.many,s.out,true⟩ j (0) w.length 0) (n0:=2006) [] ⟨0,0,rfl,Nat.zero_le _,rfl,rfl,rfl,rfl⟩ ?_ h3 ?_ ?_ ?_ (fun _ h=>(by cases h)) (by omega)
          ·unfold kU oC;((repeat' refine iE rfl rfl ?_);exact iN)
          ·exact cU hx0 (bM h3 (by omega))
          ·exact AY h6 rfl rfl rfl rfl
          ·show ∀ k∈[7,2003,2004,2005],∀ k'∈[7,2003,2004,2005],_;decide
         ·rintro q e h nx ⟨t,x,hx,ht,rfl,rfl,rfl,rfl⟩;unfold kU oC oD OW;((conv=>whnf);refine bm (fun m1=>?_) (fun m1=>?_))
          ·have htl:t<w.length:=(by simp [aA,aB] at m1;omega);have hwd:=jJ w1 (i:=t) htl;((conv=>whnf);refine bm (fun m2=>?_) (fun m2=>?_))
           ·(conv=>whnf);refine fY (fR w (i:=t) htl ?_) ?_
            ·show _+Int.toNat x*1=_;omega
            have hsf:=eX s.face w (0) t;have hss:=kN s.seen w t
            repeat' first
             |(((conv=>whnf);refine bm (fun m=>?_) (fun m=>?_)))
            all_goals first
             |(exfalso;simp [aA,aB,aH] at m;omega)
             |(exfalso
               have hb:Nat.ble (0+Int.toNat (aN w t)*1+1) (flat fT.fl (fL s.seen w t)).length=true:=Nat.ble_eq_true_of_le (by rw [bF];show _≤(fL s.seen w t).length*1;omega);exact Bool.false_ne_true (m.symm.trans hb))
             |(exfalso
               have hb:Nat.ble (0+Int.toNat (aN w t)*1+1) (flat aO.fl (dN s.face w (0) t)).length=true:=Nat.ble_eq_true_of_le (by rw [bF];show _≤(dN s.face w (0) t).length*1;omega);exact Bool.false_ne_true (m.symm.trans hb))
             |skip
            (conv=>whnf);refine⟨w.length - (t+1),by omega,?_⟩;refine eK (P:=oD a ⟨dN s.face w (0) (t+1),fL s.seen w (t+1),s.many,s.out,true⟩++[(2005,.cells true false 1 (flat aO.fl w))]) (W:=a.R) (e0:=kU a.D.length ⟨dN s.face w (0) (t+1),fL s.seen w (t+1),s.many,s.out,true⟩ j (0) w.length (x+1)) (n0:=2006) [] ⟨t+1,x+1,by omega,by omega,rfl,rfl,rfl,rfl⟩ ?_ h3 ?_ ?_ ?_ (fun _ h=>(by cases h)) (by omega)
            ·unfold kU oC;((repeat' refine iE rfl rfl ?_);exact iN)
            ·exact fZ (fZ (ext_cons (ext_cons (ext_cons (ext_cons (fun _ _ h=>h) (bM h3 (by omega))) (bM h3 (by omega))) (bM h3 (by omega))) h4) (bM h3 (by omega))) (bM h3 (by omega))
            ·refine AY h6 rfl ?_ ?_ rfl
             ·show some (aV.cells true false 1 (dM (flat aO.fl (dN s.face w (0) t)) (0+Int.toNat (aN w t)*1) [iv (0)]))=_;rw [pR (by omega) (by omega)]
             ·show some (aV.cells true false 1 (dM (flat fT.fl (fL s.seen w t)) (0+Int.toNat (aN w t)*1) [.bool true]))=_;rw [GJ (by omega) (by omega)]
            ·show ∀ k∈[7,2003,2004,2005],∀ k'∈[7,2003,2004,2005],_;decide
           ·exfalso;simp [aA,aB] at m2;omega
          ·have htl:t=w.length:=(by simp [aA,aB] at m1;omega);((conv=>whnf);refine bm (fun m2=>?_) (fun m2=>?_))
           ·(conv=>whnf);refine⟨a.D.length - (i+1),by omega,?_⟩;refine eK (P:=oD a (c8 a.l a.D a.ls (i+1))) (W:=a.R) (e0:=oC a.D.length (c8 a.l a.D a.ls (i+1)) (j+1)) (n0:=2005) [] ⟨i+1,j+1,by omega,by omega,rfl,rfl,rfl,rfl⟩ ?_ h3 ?_ ?_ ?_ (fun _ h=>(by cases h)) (by omega)
            ·rw [hst1];unfold oC;((repeat' refine iE rfl rfl ?_);exact iN)
            ·exact (ext_cons (ext_cons (ext_cons (ext_cons (fun _ _ h=>h) (bM h3 (by omega))) (bM h3 (by omega))) (bM h3 (by omega))) h4)
            ·rw [hst1,← htl];exact AR h6 (by omega) rfl rfl rfl
            ·show ∀ k∈[7,2003,2004],∀ k'∈[7,2003,2004],_;decide
           ·exfalso;simp [aA,aB,aH] at m2;omega
     ·exfalso;simp [aA,aB] at g3;omega
    ·have hge:i=a.D.length:=(by simp [aA,aB] at g2;omega);subst hge;unfold OB nmD;rw [hss];((conv=>whnf);refine bm (fun g3=>?_) (fun g3=>?_))
     ·have g3:s.out=1:=(by simpa [aA,aB] using g3);(conv=>whnf);refine aAR h3 h4 h6 (b:=!s.flat) (by unfold A0;rw [decide_eq_true g3];rfl) rfl rfl (ext_cons (ext_cons (ext_cons (fun _ _ h=>h) (bM h3 (by omega))) (bM h3 (by omega))) h4)
     ·have g3:¬ s.out=1:=(by simpa [aA,aB] using g3);(conv=>whnf);refine aAR h3 h4 h6 (b:=false) (by unfold A0;rw [decide_eq_false g3];rfl) rfl rfl (ext_cons (ext_cons (ext_cons (fun _ _ h=>h) (bM h3 (by omega))) (bM h3 (by omega))) h4)
  ·exfalso;simp [aA,aB,aH] at g1';omega
 ·exfalso;simp [aA,aB,aH] at g1;omega
theorem VO {b n:Nat}{o:aV}(h:bO id b o o)(hc:JX o=true):bO id (n+b) (U5 n o) (U5 n o):=by
 cases o with
 |cells wr g sz cs =>
  obtain⟨_,_,_,h4,h5⟩:=h;have key:∀ v∈cs,bN id (bN (fun k=>n+k) v)=bN (fun k=>n+k) v∧A8 (n+b) (bN (fun k=>n+k) v):=fun v hv=>by
   have hn:A8 (n+b) (bN (fun k=>n+k) v):=jN (m:=b) (aAn (h5 v hv)) (fun k hk=>by omega);refine⟨?_,hn⟩;unfold bN;rw [iS (n:=n+b) hn];rfl
  refine⟨rfl,rfl,rfl,?_,fun v hv=>?_⟩
  ·rw [List.map_map];exact List.map_congr_left fun v hv=>(key v hv).1.symm
  ·obtain⟨u,hu,rfl⟩:=List.mem_map.1 hv;exact (key u hu).2
 |_=>cases hc
theorem QP {W:Heap}{b n:Nat}(h:xO W b)(hc:iI W=true):xO (mZ n W) (n+b):=fun k o hk=>by
 obtain⟨j,o',rfl,h1,rfl⟩:=lQ W hk;obtain⟨a1,a2⟩:=h j o' h1;obtain⟨wr,g,sz,cs,rfl⟩:=sC hc h1;exact⟨by omega,VO a2 rfl⟩
theorem MJ {W:Heap}{b:Nat}(h:xO W b)(hc:iI W=true):xO (eJ W) b:=fun k o hk=>by
 rw [gB] at hk;cases hq:look W k with
 |none=>rw [hq] at hk;cases hk
 |some q =>
  rw [hq] at hk;injection hk with hk;subst hk;obtain⟨a1,a2⟩:=h k q hq;obtain⟨wr,g,sz,cs,rfl⟩:=sC hc hq;exact⟨a1,rfl,rfl,rfl,a2.2.2.2.1,a2.2.2.2.2⟩
theorem TZ {A B:Heap}{b:Nat}(hA:xO A b)(hB:xO B b):xO (app A B) b:=fun k o hk=>by
 rw [gK] at hk;split at hk
 ·rename_i o' ho;injection hk with hk;subst hk;exact hA k o' ho
 ·exact hB k o hk
def vA (l:List Pt)(m:List Ed):Heap :=
 (6,.cells true false 5 (flat rN.fl (a9 l m m.length)))::(5,.cells true false 1 (tC (outs l m).length (outs l m)))::(0,.cells false true aP.sz (flat aP.fl l))::(1,.cells false true aR.sz (flat aR.fl m))::tH (outs l m).length (outs l m) (outs l m).length
theorem N3 {l:List Pt}{m:List Ed}{p:Nat × aV}(h:p∈vA l m):p=(6,.cells true false 5 (flat rN.fl (a9 l m m.length)))∨p=(5,.cells true false 1 (tC (outs l m).length (outs l m)))∨p=(0,.cells false true aP.sz (flat aP.fl l))∨p=(1,.cells false true aR.sz (flat aR.fl m)) ∨
  ∃ i,i<(outs l m).length∧(bK (outs l m) i).length≠0∧p=(i+1000,ob (bK (outs l m) i)):=by
 unfold vA at h;simp only [List.mem_cons] at h;rcases h with h|h|h|h|h
 ·exact .inl h
 ·exact .inr (.inl h)
 ·exact .inr (.inr (.inl h))
 ·exact .inr (.inr (.inr (.inl h)))
 ·obtain⟨i,h1,h2,h3,h4⟩:=A5 h;exact .inr (.inr (.inr (.inr ⟨i,h1,h3,h4⟩)))
theorem N7 {l:List Pt}{m:List Ed}(hl:l.length≤1000):xO (vA l m) 2000:=fun k o hk=>by
 have hol:=eY l m;rcases N3 (aZ hk) with h|h|h|h|⟨i,h1,h2,h⟩
 ·injection h with e1 e2;subst e1 e2;exact⟨by omega,aM (aI _ _)⟩
 ·injection h with e1 e2;subst e1 e2;exact⟨by omega,rfl,rfl,rfl,F5 (ρ:=id) (lA _ _) fun i hi=>BG hi,HY (by omega) (by omega)⟩
 ·injection h with e1 e2;subst e1 e2;exact⟨by omega,aM (aI _ _)⟩
 ·injection h with e1 e2;subst e1 e2;exact⟨by omega,aM (aI _ _)⟩
 ·injection h with e1 e2;subst e1 e2;exact⟨by omega,aM (aI _ _)⟩
theorem qI {l:List Pt}{m:List Ed}:iI (vA l m)=true:=x8 _ _ _
def LG (l:List Pt)(m:List Ed)(c1 c2:Nat)(n:Int):Heap:=(2,aW l.length m.length c1 c2 n)::aC aP aR l m
theorem aDi {l:List Pt}{m:List Ed}{c1 c2:Nat}{n:Int}:xO (LG l m c1 c2 n) 3:=by
 refine cA (cA (cA (fun k o hk=>by cases hk) (by omega) (aM (aI _ _))) (by omega) (aM (aI _ _))) (by omega) ⟨rfl,rfl,rfl,rfl,?_⟩;exact List.forall_mem_cons.2 ⟨⟨Nat.le_of_ble_eq_true rfl,fun h=>by cases h⟩,List.forall_mem_cons.2 ⟨⟨Nat.le_of_ble_eq_true rfl,fun h=>by cases h⟩,List.forall_mem_cons.2 ⟨cR rfl,fun _ h=>(by cases h)⟩⟩⟩
def o8 (l:List Pt)(m:List Ed)(c1 c2:Nat)(n:Int):Heap:=app (mZ 3 (vA l m)) (eJ (LG l m c1 c2 n))
def VM (l:List Pt)(m:List Ed)(c1 c2:Nat)(n:Int):OJ:=⟨o8 l m c1 c2 n,3,4,9,8,fun i=>3+(i+1000),l,a9 l m m.length,outs l m,m.length,c1,c2,n⟩
theorem aAS {l:List Pt}{m:List Ed}{c1 c2:Nat}{n:Int}:app (mZ 3 (aC8 l m c1 c2 n)) (eJ (LG l m c1 c2 n))=(7,OW (VM l m c1 c2 n) aQ)::o8 l m c1 c2 n:=by
 unfold OW VM;simp only [bP,eY];rfl
theorem KX {l:List Pt}{m:List Ed}{c1 c2:Nat}{n:Int}{j:Nat}{o:aV}(h:look (vA l m) j=some o):look (o8 l m c1 c2 n) (3+j)=some (U5 3 o):=by
 unfold o8;rw [gK,gM _ h]
theorem UZ {l:List Pt}{m:List Ed}{c1 c2:Nat}{n:Int}:WbR (o8 l m c1 c2 n) 3 9 8 (fun i=>3+(i+1000)) l (a9 l m m.length) (outs l m):=by
 have hfl:∀ {α:Type} (E:El α) (x:List α),(flat E.fl x).map (bN fun k=>3+k)=flat E.fl x:=fun E x=>bZ (aI E x);refine⟨⟨_,_,_,_,KX (j:=0) rfl,?_⟩,⟨_,_,_,_,KX (j:=6) rfl,?_⟩,⟨true,false,1,?_⟩,fun i hi h0=>⟨true,false,1,flat aO.fl (bK (outs l m) i),?_,List.take_length⟩⟩
 ·rw [hfl];exact List.take_length
 ·rw [hfl];exact List.take_length
 ·rw [KX (j:=5) (o:=.cells true false 1 (tC (outs l m).length (outs l m))) rfl];show some (aV.cells true false 1 ((tC (outs l m).length (outs l m)).map (bN fun k=>3+k)))=_;unfold tC;rw [List.map_map];congr 2;refine List.map_congr_left fun i hi=>?_;show bN _ (tV (tN (outs l m).length i) (bK (outs l m) i))=_;rw [FF];unfold tN;rw [if_neg (by have:=List.mem_range.1 hi;omega)]
 ·have:look (vA l m) (i+1000)=some (ob (bK (outs l m) i)):=by
   unfold vA;rw [bB (by omega),bB (by omega),bB (by omega),bB (by omega)];exact kD (by omega) h0 hi
  rw [KX this];show some (aV.cells true false 1 ((flat aO.fl (bK (outs l m) i)).map (bN fun k=>3+k)))=_;rw [hfl]
theorem aEW {l:List Pt}{m:List Ed}{c1 c2:Nat}{n:Int}:look (o8 l m c1 c2 n) 7=none:=by
 cases hl:look (o8 l m c1 c2 n) 7 with
 |none=>rfl
 |some o =>
  exfalso;unfold o8 at hl;rw [gK] at hl;split at hl
  ·rename_i o' ho;obtain⟨j,q,e1,e2,_⟩:=lQ _ ho;rcases N3 (aZ e2) with h|h|h|h|⟨i,h1,h2,h⟩ <;> (injection h with e3 e4;omega)
  ·cases hl
theorem aCq {l:List Pt}{m:List Ed}{c1 c2:Nat}{n:Int}(hl:l.length≤1000):xO (o8 l m c1 c2 n) 2003 :=
 TZ (QP (n:=3) (N7 hl) qI) (EG (MJ aDi rfl) (by omega))
theorem aFE {l:List Pt}{m:List Ed}{c1 c2:Nat}{n:Int}(hl:l.length≤1000)(h1:vB l (a9 l m m.length) (outs l m)=true)(h2:ZP (a9 l m m.length) (outs l m)=true):aEt (VM l m c1 c2 n) :=
 ⟨h1,h2,aCq hl,aEW,UZ,Nat.le_of_ble_eq_true rfl,Nat.le_of_ble_eq_true rfl,Nat.le_of_ble_eq_true rfl,Nat.le_of_ble_eq_true rfl⟩
end Go.Aw
end
