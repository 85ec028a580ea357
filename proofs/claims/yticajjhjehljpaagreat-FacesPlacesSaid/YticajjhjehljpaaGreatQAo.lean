/-
  Parts of a proof. No condition.
-/
import Derived.Test.YticajjhjehljpaaGreatQAk
import Derived.Test.YticajjhjehljpaaGreatQAl
import Derived.Test.YticajjhjehljpaaGreatQAn
set_option linter.unusedSimpArgs false
set_option linter.unusedVariables false
noncomputable section
namespace Go.Aw
set_option maxRecDepth 100000
set_option maxHeartbeats 2000000
theorem cL {b n0 nx:Nat}{I:KS}{e0 e:List (Nat × Value)}{P W h:Heap}(L:List (Nat × Nat))(hI:I e0 (P++W) n0)(he:∀ p∈e0,look e p.1=some (iM (rn L) p.2)∧zR n0 p.2)(hW:∀ k o,look W k=some o→k<b∧bZ id b o o)(hk:∀ k o,look W k=some o→look h k=some o)
  (hP:∀ p∈P,((b≤p.1∧p.1<n0∧b≤rn L p.1)∨p.1<b)∧∃ o',look h (rn L p.1)=some o'∧bZ (rn L) n0 p.2 o') (hi:∀ k∈P.map Prod.fst,∀ k'∈P.map Prod.fst,rn L k=rn L k'→k=k') (hL:∀ p∈L,b≤p.1) (hb:b≤n0):sT b I e h nx:=by
 have hfix:∀ k,k<b→rn L k=k:=fun k hk=>by
  unfold rn;split
  ·rename_i q hq;have:=hL _ (aY hq);simp only at this;omega
  rfl
 refine⟨e0,P++W,n0,rn L,hI,fun t v hv=>he (t,v) (aY hv),fun k o hk'=>?_,fun k k' o o' h1 h2 e=>?_,hfix,hb⟩
 ·rcases sC hk' with hm|hm
  ·obtain⟨a1,a2⟩:=hP _ hm;simp only at a1;exact⟨by omega,a2⟩
  obtain⟨a1,a2⟩:=hW k o hm;exact⟨by omega,o,by rw [hfix k a1];exact hk k o hm,sM hfix hb a2⟩
 ·rcases sC h1 with m1|m1 <;> rcases sC h2 with m2|m2
  ·exact hi k (List.mem_map.2 ⟨_,m1,rfl⟩) k' (List.mem_map.2 ⟨_,m2,rfl⟩) e
  ·have:=(hP _ m1).1;have b2:=(hW _ _ m2).1;simp only at this;rw [hfix k' b2] at e;rcases this with this|this
   ·omega
   rw [hfix k this] at e;exact e
  ·have:=(hP _ m2).1;have b2:=(hW _ _ m1).1;simp only at this;rw [hfix k b2] at e;rcases this with this|this
   ·omega
   rw [hfix k' this] at e;exact e
  rwa [hfix k (hW _ _ m1).1,hfix k' (hW _ _ m2).1] at e
structure OP where
 face:List Int
 seen:List Bool
 many:Int
 out:Int
 flat:Bool
def fW (s:List Bool)(w:List Int):Nat→List Bool
 |0=>s
 |i+1=>(fW s w i).set (aK w i).toNat true
theorem lW (s:List Bool)(w:List Int):∀ i,(fW s w i).length=s.length
 |0=>rfl
 |i+1=>by unfold fW;rw [List.length_set];exact lW s w i
def iY (l:List Pt)(D:List Dt)(ls:List (List Int))(s:OP)(d:Nat):OP :=
 if cV s.seen d=true then s else
  let w:=j8 D ls d;let a:=B8 l D w w.length;let fc:=if 0<a then s.many+1 else 0
  ⟨dV s.face w fc w.length,fW s.seen w w.length,if 0<a then s.many+1 else s.many,if 0<a then s.out else if a<0 then s.out+1 else s.out,if 0<a then s.flat else if a<0 then s.flat else true⟩
def bW (l:List Pt)(D:List Dt)(ls:List (List Int)):Nat→OP
 |0=>⟨List.replicate D.length 0,List.replicate D.length false,0,0,false⟩
 |d+1=>iY l D ls (bW l D ls d) d
def nmD (l:List Pt)(D:List Dt)(ls:List (List Int)):OP:=bW l D ls D.length
def yX (s:OP):Bool:=decide (s.out=1)&&!s.flat
theorem oR (l:List Pt)(D:List Dt)(ls:List (List Int)):∀ d,(bW l D ls d).face.length=D.length∧(bW l D ls d).seen.length=D.length∧0≤(bW l D ls d).many∧(bW l D ls d).many≤d∧0≤(bW l D ls d).out∧(bW l D ls d).out≤d
 |0=>by unfold bW;simp
 |d+1=>by
  obtain⟨h1,h2,h3,h4,h5,h6⟩:=oR l D ls d;unfold bW iY;split
  ·refine⟨h1,h2,h3,?_,h5,?_⟩ <;> omega
  simp only [fR,lW];refine⟨h1,h2,?_,?_,?_,?_⟩
  ·split <;> omega
  ·split <;> omega
  ·split
   ·omega
   split <;> omega
  split
  ·omega
  split <;> omega
def aCg (D:List Dt)(ls:List (List Int)):Bool:=(List.range D.length).all fun d=>decide (jI D ls d (gU D ls d)=d)
structure WbR (R:Heap) (k0 kd kt:Nat) (nm:Nat→Nat) (l:List Pt) (D:List Dt) (ls:List (List Int)):Prop where
 pt:∃ wr g sz cs,look R k0=some (.cells wr g sz cs)∧cs.take (flat bC.fl l).length=flat bC.fl l
 da:∃ wr g sz cs,look R kd=some (.cells wr g sz cs)∧cs.take (flat tW.fl D).length=flat tW.fl D
 tb:∃ wr g sz,look R kt=some (.cells wr g sz ((List.range ls.length).map fun i=>tV (nm i) (bQ ls i)))
 li:∀ i,i<ls.length→(bQ ls i).length≠0→∃ wr g sz cs,look R (nm i)=some (.cells wr g sz cs)∧cs.take (flat aT.fl (bQ ls i)).length=flat aT.fl (bQ ls i)
theorem WbR.at {R h:Heap}{p k0 k1 kd kt kf:Nat}{nm:Nat→Nat}{l:List Pt}{D:List Dt}{ls:List (List Int)}{nE c1 c2:Nat}{n:Int}{fo:Option (Nat × Nat)}(hw:WbR R k0 kd kt nm l D ls)(hx:∀ k o,look R k=some o→look h k=some o){wr g:Bool}{sz:Nat}
  (hs:look h p=some (.cells wr g sz (J3 k0 k1 kd kt kf l.length nE D.length ls.length c1 c2 n fo))):xX h p k0 k1 kd kt kf nm l D ls nE c1 c2 n fo:=by
 obtain⟨⟨w1,g1,s1,x1,a1,b1⟩,⟨w2,g2,s2,x2,a2,b2⟩,⟨w3,g3,s3,a3⟩,h4⟩:=hw;refine⟨⟨_,_,_,hs⟩,⟨_,_,_,_,hx _ _ a1,b1⟩,⟨_,_,_,_,hx _ _ a2,b2⟩,⟨_,_,_,hx _ _ a3⟩,fun i hi h0=>?_⟩;obtain⟨w5,g5,s5,x5,a5,b5⟩:=h4 i hi h0;exact⟨_,_,_,_,hx _ _ a5,b5⟩
structure RI where
 R:Heap
 k0:Nat
 k1:Nat
 kd:Nat
 kt:Nat
 nm:Nat→Nat
 l:List Pt
 D:List Dt
 ls:List (List Int)
 nE:Nat
 c1:Nat
 c2:Nat
 n:Int
def aJj (a:RI):Prop:=xO a.l a.D a.ls=true∧aCg a.D a.ls=true∧yG a.R 2003∧look a.R 7=none∧WbR a.R a.k0 a.kd a.kt a.nm a.l a.D a.ls∧(a.k0<2003∧a.k1<2003∧a.kd<2003∧a.kt<2003)
def PT (a:RI)(fv:Value):bV:=.cells true false 1 [.slice (some ⟨a.k0,0,none⟩) a.l.length a.c1,.slice (some ⟨a.k1,0,none⟩) a.nE a.c2,iv a.n,.slice (some ⟨a.kd,0,none⟩) a.D.length a.D.length,.slice (some ⟨a.kt,0,none⟩) a.ls.length a.ls.length,fv]
def SL (a:RI):Heap:=(7,PT a (.slice (some ⟨2003,0,none⟩) a.D.length a.D.length))::(2003,.cells true false 1 (flat aT.fl (nmD a.l a.D a.ls).face))::a.R
def aLT:XF:=dX aJj (fun _=>[.pointer (some ⟨7,0,none⟩)]) (fun a=>(7,PT a aR)::a.R) (fun _=>2003) (fun a=>.tuple #[iv (nmD a.l a.D a.ls).many,.bool (yX (nmD a.l a.D a.ls))])
 SL (fun _=>2004)
def pS (N:Nat)(s:OP)(j:Int):List (Nat × Value):=[(0,.pointer (some ⟨7,0,none⟩)),(4,.slice (some ⟨2004,0,none⟩) N N),(5,iv s.many),(6,iv s.out),(7,.bool s.flat),(33,iv N),(34,iv j)]
def pR (a:RI)(s:OP):Heap:=[(7,PT a (.slice (some ⟨2003,0,none⟩) a.D.length a.D.length)),(2003,.cells true false 1 (flat aT.fl s.face)),(2004,.cells true false 1 (flat gP.fl s.seen))]
def l8 (N:Nat)(s:OP)(j fc:Int)(n:Nat)(x:Int):List (Nat × Value):=(11,iv fc)::(58,.slice (some ⟨2005,0,none⟩) n n)::(59,iv n)::(60,iv x)::pS N s j
theorem HB {s:List Bool}{w:List Int}{t o:Nat}(ho:o=(aK w t).toNat*1)(hi:(aK w t).toNat<s.length):eJ (flat gP.fl (fW s w t)) o [.bool true]=flat gP.fl (fW s w (t+1)):=by
 rw [ho,AM _ _ _ (by rw [lW];exact hi)];rfl
theorem C7 {a:RI}(h6:a.k0<2003∧a.k1<2003∧a.kd<2003∧a.kt<2003){h:Heap}{s:OP}{n0:Nat}(hn:2005≤n0)(x1:look h 7=some (PT a (.slice (some ⟨2003,0,none⟩) a.D.length a.D.length)))(x2:look h 2003=some (.cells true false 1 (flat aT.fl s.face)))(x3:look h 2004=some (.cells true false 1 (flat gP.fl s.seen))) :
  ∀ p∈pR a s,((2003≤p.1∧p.1<n0∧2003≤rn [] p.1)∨p.1<2003)∧∃ o',look h (rn [] p.1)=some o'∧bZ (rn []) n0 p.2 o':=by
 have hsl:∀ {q a b:Nat},q<2004→E4 n0 (.slice (some ⟨q,0,none⟩) a b):=fun {q a b} hq=>⟨show q<n0 by omega,fun h=>by cases h⟩;unfold pR;refine List.forall_mem_cons.2 ⟨⟨.inr (by omega),_,x1,rfl,rfl,rfl,rfl,?_⟩,List.forall_mem_cons.2 ⟨⟨.inl ⟨Nat.le_refl _,by show 2003<n0;omega,Nat.le_refl _⟩,_,x2,aO (aD _ _)⟩,List.forall_mem_cons.2 ⟨⟨.inl ⟨by omega,by show 2004<n0;omega,by show 2003≤2004;omega⟩,_,x3,aO (aD _ _)⟩,fun _ h=>(by cases h)⟩⟩⟩;exact List.forall_mem_cons.2 ⟨hsl (by omega),List.forall_mem_cons.2 ⟨hsl (by omega),List.forall_mem_cons.2 ⟨cN rfl,List.forall_mem_cons.2 ⟨hsl (by omega),List.forall_mem_cons.2 ⟨hsl (by omega),List.forall_mem_cons.2 ⟨hsl (by omega),fun _ h=>(by cases h)⟩⟩⟩⟩⟩⟩
theorem CV {a:RI}(h6:a.k0<2003∧a.k1<2003∧a.kd<2003∧a.kt<2003){h:Heap}{s:OP}{w:List Int}(x1:look h 7=some (PT a (.slice (some ⟨2003,0,none⟩) a.D.length a.D.length)))(x2:look h 2003=some (.cells true false 1 (flat aT.fl s.face)))(x3:look h 2004=some (.cells true false 1 (flat gP.fl s.seen)))
  (x4:look h 2005=some (.cells true false 1 (flat aT.fl w))):∀ p∈pR a s++[(2005,.cells true false 1 (flat aT.fl w))],((2003≤p.1∧p.1<2006∧2003≤rn [] p.1)∨p.1<2003)∧∃ o',look h (rn [] p.1)=some o'∧bZ (rn []) 2006 p.2 o':=by
 intro p hp;rcases List.mem_append.1 hp with hp|hp
 ·exact C7 h6 (by omega) x1 x2 x3 p hp
 simp only [List.mem_cons,List.not_mem_nil,or_false] at hp;subst hp;exact⟨.inl ⟨by omega,by omega,by show 2003≤2005;omega⟩,_,x4,aO (aD _ _)⟩
theorem cH {W:Heap}{b q:Nat}(h:yG W b)(hq:b≤q):look W q=none:=by
 cases hl:look W q with
 |none=>rfl
 |some o=>have:=(h q o hl).1;omega
theorem aLz {l:List Pt}{D:List Dt}{ls:List (List Int)}{d:Nat}(h:xO l D ls=true)(h2:aCg D ls=true)(hd:d<D.length):wkS l D ls [iv d]=some (true,j8 D ls d,[]):=by
 have:=List.all_eq_true.1 h2 d (List.mem_range.2 hd);show some (xO l D ls&&decide ((0:Int)≤d)&&decide ((d:Int)<D.length)&&decide (jI D ls d (gU D ls d)=d),j8 D ls d,[])=_;rw [h,decide_eq_true (by omega:(0:Int)≤d),decide_eq_true (by omega:(d:Int)<D.length),this];rfl
theorem TZ {l:List Pt}{D:List Dt}{ls:List (List Int)}{d:Nat}(h:xO l D ls=true)(hd:d<D.length):inR D (j8 D ls d)=true∧(j8 D ls d).length≤D.length+1∧1≤(j8 D ls d).length:=by
 have hp:=gI D ls d D.length 1;refine⟨List.all_eq_true.2 fun x hx=>?_,?_,?_⟩
 ·obtain⟨i,_,rfl⟩:=List.mem_map.1 hx;have:=UZ h (d:=d) (by omega) (by omega) i;simpa using this
 ·unfold j8 gU;rw [List.length_map,List.length_range];omega
 unfold j8 gU;rw [List.length_map,List.length_range];omega
theorem aKK {l:List Pt}{D:List Dt}{ls:List (List Int)}{L:List Int}(h:J2 l D ls=true)(h1:inR D L=true)(h2:L.length≤100000):arS l D ls L=some (true,iv (B8 l D L L.length)):=by
 unfold arS;rw [h,h1,decide_eq_true h2];rfl
theorem aCC {a:RI}(h3:yG a.R 2003)(h4:look a.R 7=none)(h6:a.k0<2003∧a.k1<2003∧a.kd<2003∧a.kt<2003){h:Heap}{s:OP}{nx:Nat}{b:Bool}(hb:b=yX s)(x1:look h 7=some (PT a (.slice (some ⟨2003,0,none⟩) a.D.length a.D.length)))
  (x2:look h 2003=some (.cells true false 1 (flat aT.fl s.face))) (hx:∀ k o,look a.R k=some o→look h k=some o) :
  ∃ ρ,lQ 2003 ρ [(0,.tuple #[iv s.many,.bool (yX s)])] ((7,PT a (.slice (some ⟨2003,0,none⟩) a.D.length a.D.length))::(2003,.cells true false 1 (flat aT.fl s.face))::a.R) 2004 [(0,.tuple #[iv s.many,.bool b])] h nx:=by
 subst hb;have hsl:∀ {q a b:Nat},q<2004→E4 2004 (.slice (some ⟨q,0,none⟩) a b):=fun {q a b} hq=>⟨hq,fun h=>by cases h⟩;refine⟨id,fun t u hu=>?_,fun k o hk=>?_,fun _ _ _ _ _ _ e=>e,fun _ _=>rfl,by omega⟩
 ·have hm:=aY hu;simp only [List.mem_cons,List.not_mem_nil,or_false] at hm;injection hm with e1 e2;subst e1 e2;exact⟨by rw [iM,jH rfl];rfl,cG rfl⟩
 rw [aB] at hk;split at hk
 ·rename_i hb;injection hk with hk;subst hk;rw [← beq_true hb];refine⟨by omega,_,x1,rfl,rfl,rfl,rfl,?_⟩;exact List.forall_mem_cons.2 ⟨hsl (by omega),List.forall_mem_cons.2 ⟨hsl (by omega),List.forall_mem_cons.2 ⟨cN rfl,List.forall_mem_cons.2 ⟨hsl (by omega),List.forall_mem_cons.2 ⟨hsl (by omega),List.forall_mem_cons.2 ⟨hsl (by omega),fun _ h=>(by cases h)⟩⟩⟩⟩⟩⟩
 rw [aB] at hk;split at hk
 ·rename_i hb;injection hk with hk;subst hk;rw [← beq_true hb];exact⟨by omega,_,x2,aO (aD _ _)⟩
 obtain⟨a1,a2⟩:=h3 k o hk;exact⟨by omega,o,hx k o hk,sM (fun _ _=>rfl) (by omega) a2⟩
theorem aMX:cO Go.Proofs.Tryz.prog 83 aLT:=ED (aH (xl:=[aJC,aK9]) (.cons aQ1 (.cons aPT .nil))) fun a ⟨h1,h2,h3,h4,h5,h6⟩=>by
 have hn:=L9 (F6 h1);unfold PT;((conv=>whnf);apply bm<;>intro g1);rotate_left
 ·exfalso;simp [aA,aC,aF] at g1;omega
 ((conv=>whnf);apply bm<;>intro g1');rotate_left
 ·exfalso;simp [aA,aC,aF] at g1';omega
 (conv=>whnf);refine⟨fun q e h nx=>∃ (i:Nat) (j:Int),j=i∧i≤a.D.length∧q=a.D.length - i∧e=pS a.D.length (bW a.l a.D a.ls i) j∧h=pR a (bW a.l a.D a.ls i)++a.R∧nx=2005,⟨a.D.length,?_⟩,?_⟩
 ·refine cL (P:=pR a (bW a.l a.D a.ls 0)) (W:=a.R) (e0:=pS a.D.length (bW a.l a.D a.ls 0) 0) (n0:=2005) [] ⟨0,0,rfl,Nat.zero_le _,rfl,rfl,rfl,rfl⟩ ?_ h3 ?_ ?_ ?_ (fun _ h=>(by cases h)) (by omega)
  ·unfold pS;((repeat' refine iE rfl rfl ?_);exact iN)
  ·exact aX (cK (aX (ext_cons (fun _ _ h=>h) h4) (cH h3 (by omega))) h4) (cH h3 (by omega))
  ·refine C7 h6 (by omega) rfl ?_ ?_
   ·show some (bV.cells true false 1 (rep a.D.length [iv 0]))=some (.cells true false 1 (flat aT.fl (List.replicate a.D.length 0)));rw [aKB]
   show some (bV.cells true false 1 (rep a.D.length [.bool false]))=some (.cells true false 1 (flat gP.fl (List.replicate a.D.length false)));rw [WH]
  show ∀ k∈[7,2003,2004],∀ k'∈[7,2003,2004],_;decide
 rintro q e h nx ⟨i,j,hj,hi,rfl,rfl,rfl,rfl⟩;obtain⟨s1,s2,s3,s4,s5,s6⟩:=oR a.l a.D a.ls i;have hst:bW a.l a.D a.ls (i+1)=iY a.l a.D a.ls (bW a.l a.D a.ls i) i:=rfl;generalize hss:bW a.l a.D a.ls i=s at s1 s2 s3 s4 s5 s6 hst ⊢;unfold pS pR PT;((conv=>whnf);apply bm<;>intro g2);rotate_left
 ·have hge:i=a.D.length:=(by simp [aA,aC] at g2;omega);subst hge;unfold SL nmD;rw [hss];((conv=>whnf);apply bm<;>intro g3)
  ·have g3:s.out=1:=(by simpa [aA,aC] using g3);(conv=>whnf);refine aCC h3 h4 h6 (b:=!s.flat) (by unfold yX;rw [decide_eq_true g3];rfl) rfl rfl (ext_cons (ext_cons (ext_cons (fun _ _ h=>h) (cH h3 (by omega))) (cH h3 (by omega))) h4)
  have g3:¬ s.out=1:=(by simpa [aA,aC] using g3);(conv=>whnf);refine aCC h3 h4 h6 (b:=false) (by unfold yX;rw [decide_eq_false g3];rfl) rfl rfl (ext_cons (ext_cons (ext_cons (fun _ _ h=>h) (cH h3 (by omega))) (cH h3 (by omega))) h4)
 have hlt:i<a.D.length:=(by simp [aA,aC] at g2;omega);((conv=>whnf);apply bm<;>intro g3);rotate_left
 ·exfalso;simp [aA,aC] at g3;omega
 (conv=>whnf);refine iU (Q4 s.seen (i:=i) (by omega) ?_) ?_
 ·show _+Int.toNat j*1=_;omega
 ((conv=>whnf);apply bm<;>intro g4)
 ·have g4:cV s.seen i=true:=g4;unfold iY at hst;rw [if_pos g4] at hst;((conv=>whnf);apply bm<;>intro g5)
  ·(conv=>whnf);refine⟨a.D.length - (i+1),by omega,?_⟩;refine cL (P:=pR a (bW a.l a.D a.ls (i+1))) (W:=a.R) (e0:=pS a.D.length (bW a.l a.D a.ls (i+1)) (j+1)) (n0:=2005) [] ⟨i+1,j+1,by omega,by omega,rfl,rfl,rfl,rfl⟩ ?_ h3 ?_ ?_ ?_ (fun _ h=>(by cases h)) (by omega)
   ·rw [hst];unfold pS;((repeat' refine iE rfl rfl ?_);exact iN)
   ·exact ext_cons (ext_cons (ext_cons (fun _ _ h=>h) (cH h3 (by omega))) (cH h3 (by omega))) h4
   ·rw [hst];exact C7 h6 (by omega) rfl rfl rfl
   show ∀ k∈[7,2003,2004],∀ k'∈[7,2003,2004],_;decide
  exfalso;simp [aA,aC,aF] at g5;omega
 have g4:cV s.seen i=false:=g4;(conv=>whnf);have hx0:∀ k o,look a.R k=some o→look ([(7,bV.cells true false 1 [.slice (some ⟨a.k0,0,none⟩) a.l.length a.c1,.slice (some ⟨a.k1,0,none⟩) a.nE a.c2,iv a.n,.slice (some ⟨a.kd,0,none⟩) a.D.length a.D.length,.slice (some ⟨a.kt,0,none⟩) a.ls.length a.ls.length,.slice (some ⟨2003,0,none⟩) a.D.length a.D.length]),(2003,.cells true false 1 (flat aT.fl s.face)),(2004,.cells true false 1 (flat gP.fl s.seen))]++a.R) k=some o :=
  ext_cons (ext_cons (ext_cons (fun _ _ h=>h) (cH h3 (by omega))) (cH h3 (by omega))) h4
 have hwk:wkS a.l a.D a.ls [iv j]=some (true,j8 a.D a.ls i,[]):=(by rw [hj];exact aLz h1 h2 hlt);obtain⟨w1,w2,w3⟩:=TZ h1 hlt;refine⟨7,[iv j],a.k0,a.k1,a.kd,a.kt,2003,a.nm,a.l,a.D,a.ls,a.nE,a.c1,a.c2,a.n,some (a.D.length,a.D.length),rfl,h5.at hx0 rfl,?_⟩;rw [hwk];unfold iY at hst;rw [if_neg (by rw [g4];decide)] at hst;simp only at hst;generalize j8 a.D a.ls i=w at w1 w2 w3 hst hwk ⊢;refine aI rfl ?_;(conv=>whnf);refine⟨7,2005,a.k0,a.k1,a.kd,a.kt,2003,a.nm,a.l,a.D,a.ls,a.nE,a.c1,a.c2,a.n,some (a.D.length,a.D.length),w,w.length,rfl,h5.at (aX hx0 (cH h3 (by omega))) rfl,⟨_,_,_,_,rfl,List.take_length⟩,?_⟩;rw [aKK (F6 h1) w1 (by omega)];generalize B8 a.l a.D w w.length=A at hst ⊢;refine aI rfl ?_;((conv=>whnf);apply bm<;>intro g6)
 ·have hA:0<A:=(by simpa [aA,aC] using g6);simp only [if_pos hA] at hst;((conv=>whnf);apply bm<;>intro g7);rotate_left
  ·exfalso;simp [aA,aC,aF] at g7;omega
  skip
  have hst1:bW a.l a.D a.ls (i+1)=⟨dV s.face w (s.many+1) w.length,fW s.seen w w.length,s.many+1,s.out,s.flat⟩:=(by rw [hst]);(conv=>whnf);refine⟨fun q e h nx=>∃ (t:Nat) (x:Int),x=t∧t≤w.length∧q=w.length - t∧e=l8 a.D.length ⟨dV s.face w (s.many+1) t,fW s.seen w t,s.many+1,s.out,s.flat⟩ j (s.many+1) w.length x∧h=(pR a ⟨dV s.face w (s.many+1) t,fW s.seen w t,s.many+1,s.out,s.flat⟩++[(2005,.cells true false 1 (flat aT.fl w))])++a.R∧nx=2006,⟨w.length,?_⟩,?_⟩
  ·refine cL (P:=pR a ⟨s.face,s.seen,s.many+1,s.out,s.flat⟩++[(2005,.cells true false 1 (flat aT.fl w))]) (W:=a.R) (e0:=l8 a.D.length ⟨s.face,s.seen,s.many+1,s.out,s.flat⟩ j (s.many+1) w.length 0) (n0:=2006) [] ⟨0,0,rfl,Nat.zero_le _,rfl,rfl,rfl,rfl⟩ ?_ h3 ?_ ?_ ?_ (fun _ h=>(by cases h)) (by omega)
   ·unfold l8 pS;((repeat' refine iE rfl rfl ?_);exact iN)
   ·exact aX hx0 (cH h3 (by omega))
   ·exact CV h6 rfl rfl rfl rfl
   show ∀ k∈[7,2003,2004,2005],∀ k'∈[7,2003,2004,2005],_;decide
  rintro q e h nx ⟨t,x,hx,ht,rfl,rfl,rfl,rfl⟩;unfold l8 pS pR PT;((conv=>whnf);apply bm<;>intro m1);rotate_left
  ·have htl:t=w.length:=(by simp [aA,aC] at m1;omega);((conv=>whnf);apply bm<;>intro m2)
   ·(conv=>whnf);refine⟨a.D.length - (i+1),by omega,?_⟩;refine cL (P:=pR a (bW a.l a.D a.ls (i+1))) (W:=a.R) (e0:=pS a.D.length (bW a.l a.D a.ls (i+1)) (j+1)) (n0:=2005) [] ⟨i+1,j+1,by omega,by omega,rfl,rfl,rfl,rfl⟩ ?_ h3 ?_ ?_ ?_ (fun _ h=>(by cases h)) (by omega)
    ·rw [hst1];unfold pS;((repeat' refine iE rfl rfl ?_);exact iN)
    ·exact (ext_cons (ext_cons (ext_cons (ext_cons (fun _ _ h=>h) (cH h3 (by omega))) (cH h3 (by omega))) (cH h3 (by omega))) h4)
    ·rw [hst1,← htl];exact C7 h6 (by omega) rfl rfl rfl
    show ∀ k∈[7,2003,2004],∀ k'∈[7,2003,2004],_;decide
   exfalso;simp [aA,aC,aF] at m2;omega
  have htl:t<w.length:=(by simp [aA,aC] at m1;omega);have hwd:=s9 w1 (i:=t) htl;((conv=>whnf);apply bm<;>intro m2);rotate_left
  ·exfalso;simp [aA,aC] at m2;omega
  (conv=>whnf);refine iU (iA w (i:=t) htl ?_) ?_
  ·show _+Int.toNat x*1=_;omega
  have hsf:=fR s.face w (s.many+1) t;have hss:=lW s.seen w t
  repeat' first
   |(((conv=>whnf);apply bm<;>intro m))
  all_goals first
   |(exfalso;simp [aA,aC,aF] at m;omega)
   |(exfalso
     have hb:Nat.ble (0+Int.toNat (aK w t)*1+1) (flat gP.fl (fW s.seen w t)).length=true:=Nat.ble_eq_true_of_le (by rw [bE];show _≤(fW s.seen w t).length*1;omega);exact Bool.false_ne_true (m.symm.trans hb))
   |(exfalso
     have hb:Nat.ble (0+Int.toNat (aK w t)*1+1) (flat aT.fl (dV s.face w (s.many+1) t)).length=true:=Nat.ble_eq_true_of_le (by rw [bE];show _≤(dV s.face w (s.many+1) t).length*1;omega);exact Bool.false_ne_true (m.symm.trans hb))
   |skip
  (conv=>whnf);refine⟨w.length - (t+1),by omega,?_⟩;refine cL (P:=pR a ⟨dV s.face w (s.many+1) (t+1),fW s.seen w (t+1),s.many+1,s.out,s.flat⟩++[(2005,.cells true false 1 (flat aT.fl w))]) (W:=a.R) (e0:=l8 a.D.length ⟨dV s.face w (s.many+1) (t+1),fW s.seen w (t+1),s.many+1,s.out,s.flat⟩ j (s.many+1) w.length (x+1)) (n0:=2006) [] ⟨t+1,x+1,by omega,by omega,rfl,rfl,rfl,rfl⟩ ?_ h3 ?_ ?_ ?_ (fun _ h=>(by cases h)) (by omega)
  ·unfold l8 pS;((repeat' refine iE rfl rfl ?_);exact iN)
  ·exact cK (cK (ext_cons (ext_cons (ext_cons (ext_cons (fun _ _ h=>h) (cH h3 (by omega))) (cH h3 (by omega))) (cH h3 (by omega))) h4) (cH h3 (by omega))) (cH h3 (by omega))
  ·refine CV h6 rfl ?_ ?_ rfl
   ·show some (bV.cells true false 1 (eJ (flat aT.fl (dV s.face w (s.many+1) t)) (0+Int.toNat (aK w t)*1) [iv (s.many+1)]))=_;rw [r6 (by omega) (by omega)]
   show some (bV.cells true false 1 (eJ (flat gP.fl (fW s.seen w t)) (0+Int.toNat (aK w t)*1) [.bool true]))=_;rw [HB (by omega) (by omega)]
  show ∀ k∈[7,2003,2004,2005],∀ k'∈[7,2003,2004,2005],_;decide
 have hA:¬ 0<A:=(by simpa [aA,aC] using g6);simp only [if_neg hA] at hst;((conv=>whnf);apply bm<;>intro g7);rotate_left
 ·have hA2:¬ A<0:=(by simpa [aA,aC] using g7);simp only [if_neg hA2] at hst;have hst1:bW a.l a.D a.ls (i+1)=⟨dV s.face w (0) w.length,fW s.seen w w.length,s.many,s.out,true⟩:=(by rw [hst]);(conv=>whnf);refine⟨fun q e h nx=>∃ (t:Nat) (x:Int),x=t∧t≤w.length∧q=w.length - t∧e=l8 a.D.length ⟨dV s.face w (0) t,fW s.seen w t,s.many,s.out,true⟩ j (0) w.length x∧h=(pR a ⟨dV s.face w (0) t,fW s.seen w t,s.many,s.out,true⟩++[(2005,.cells true false 1 (flat aT.fl w))])++a.R∧nx=2006,⟨w.length,?_⟩,?_⟩
  ·refine cL (P:=pR a ⟨s.face,s.seen,s.many,s.out,true⟩++[(2005,.cells true false 1 (flat aT.fl w))]) (W:=a.R) (e0:=l8 a.D.length ⟨s.face,s.seen,s.many,s.out,true⟩ j (0) w.length 0) (n0:=2006) [] ⟨0,0,rfl,Nat.zero_le _,rfl,rfl,rfl,rfl⟩ ?_ h3 ?_ ?_ ?_ (fun _ h=>(by cases h)) (by omega)
   ·unfold l8 pS;((repeat' refine iE rfl rfl ?_);exact iN)
   ·exact aX hx0 (cH h3 (by omega))
   ·exact CV h6 rfl rfl rfl rfl
   show ∀ k∈[7,2003,2004,2005],∀ k'∈[7,2003,2004,2005],_;decide
  rintro q e h nx ⟨t,x,hx,ht,rfl,rfl,rfl,rfl⟩;unfold l8 pS pR PT;((conv=>whnf);apply bm<;>intro m1)
  ·have htl:t<w.length:=(by simp [aA,aC] at m1;omega);have hwd:=s9 w1 (i:=t) htl;((conv=>whnf);apply bm<;>intro m2)
   ·(conv=>whnf);refine iU (iA w (i:=t) htl ?_) ?_
    ·show _+Int.toNat x*1=_;omega
    have hsf:=fR s.face w (0) t;have hss:=lW s.seen w t
    repeat' first
     |(((conv=>whnf);apply bm<;>intro m))
    all_goals first
     |(exfalso;simp [aA,aC,aF] at m;omega)
     |(exfalso
       have hb:Nat.ble (0+Int.toNat (aK w t)*1+1) (flat gP.fl (fW s.seen w t)).length=true:=Nat.ble_eq_true_of_le (by rw [bE];show _≤(fW s.seen w t).length*1;omega);exact Bool.false_ne_true (m.symm.trans hb))
     |(exfalso
       have hb:Nat.ble (0+Int.toNat (aK w t)*1+1) (flat aT.fl (dV s.face w (0) t)).length=true:=Nat.ble_eq_true_of_le (by rw [bE];show _≤(dV s.face w (0) t).length*1;omega);exact Bool.false_ne_true (m.symm.trans hb))
     |skip
    (conv=>whnf);refine⟨w.length - (t+1),by omega,?_⟩;refine cL (P:=pR a ⟨dV s.face w (0) (t+1),fW s.seen w (t+1),s.many,s.out,true⟩++[(2005,.cells true false 1 (flat aT.fl w))]) (W:=a.R) (e0:=l8 a.D.length ⟨dV s.face w (0) (t+1),fW s.seen w (t+1),s.many,s.out,true⟩ j (0) w.length (x+1)) (n0:=2006) [] ⟨t+1,x+1,by omega,by omega,rfl,rfl,rfl,rfl⟩ ?_ h3 ?_ ?_ ?_ (fun _ h=>(by cases h)) (by omega)
    ·unfold l8 pS;((repeat' refine iE rfl rfl ?_);exact iN)
    ·exact cK (cK (ext_cons (ext_cons (ext_cons (ext_cons (fun _ _ h=>h) (cH h3 (by omega))) (cH h3 (by omega))) (cH h3 (by omega))) h4) (cH h3 (by omega))) (cH h3 (by omega))
    ·refine CV h6 rfl ?_ ?_ rfl
     ·show some (bV.cells true false 1 (eJ (flat aT.fl (dV s.face w (0) t)) (0+Int.toNat (aK w t)*1) [iv (0)]))=_;rw [r6 (by omega) (by omega)]
     show some (bV.cells true false 1 (eJ (flat gP.fl (fW s.seen w t)) (0+Int.toNat (aK w t)*1) [.bool true]))=_;rw [HB (by omega) (by omega)]
    show ∀ k∈[7,2003,2004,2005],∀ k'∈[7,2003,2004,2005],_;decide
   exfalso;simp [aA,aC] at m2;omega
  have htl:t=w.length:=(by simp [aA,aC] at m1;omega);((conv=>whnf);apply bm<;>intro m2)
  ·(conv=>whnf);refine⟨a.D.length - (i+1),by omega,?_⟩;refine cL (P:=pR a (bW a.l a.D a.ls (i+1))) (W:=a.R) (e0:=pS a.D.length (bW a.l a.D a.ls (i+1)) (j+1)) (n0:=2005) [] ⟨i+1,j+1,by omega,by omega,rfl,rfl,rfl,rfl⟩ ?_ h3 ?_ ?_ ?_ (fun _ h=>(by cases h)) (by omega)
   ·rw [hst1];unfold pS;((repeat' refine iE rfl rfl ?_);exact iN)
   ·exact (ext_cons (ext_cons (ext_cons (ext_cons (fun _ _ h=>h) (cH h3 (by omega))) (cH h3 (by omega))) (cH h3 (by omega))) h4)
   ·rw [hst1,← htl];exact C7 h6 (by omega) rfl rfl rfl
   show ∀ k∈[7,2003,2004],∀ k'∈[7,2003,2004],_;decide
  exfalso;simp [aA,aC,aF] at m2;omega
 have hA2:A<0:=(by simpa [aA,aC] using g7);simp only [if_pos hA2] at hst;((conv=>whnf);apply bm<;>intro g8);rotate_left
 ·exfalso;simp [aA,aC,aF] at g8;omega
 skip
 have hst1:bW a.l a.D a.ls (i+1)=⟨dV s.face w (0) w.length,fW s.seen w w.length,s.many,s.out+1,s.flat⟩:=(by rw [hst]);(conv=>whnf);refine⟨fun q e h nx=>∃ (t:Nat) (x:Int),x=t∧t≤w.length∧q=w.length - t∧e=l8 a.D.length ⟨dV s.face w (0) t,fW s.seen w t,s.many,s.out+1,s.flat⟩ j (0) w.length x∧h=(pR a ⟨dV s.face w (0) t,fW s.seen w t,s.many,s.out+1,s.flat⟩++[(2005,.cells true false 1 (flat aT.fl w))])++a.R∧nx=2006,⟨w.length,?_⟩,?_⟩
 ·refine cL (P:=pR a ⟨s.face,s.seen,s.many,s.out+1,s.flat⟩++[(2005,.cells true false 1 (flat aT.fl w))]) (W:=a.R) (e0:=l8 a.D.length ⟨s.face,s.seen,s.many,s.out+1,s.flat⟩ j (0) w.length 0) (n0:=2006) [] ⟨0,0,rfl,Nat.zero_le _,rfl,rfl,rfl,rfl⟩ ?_ h3 ?_ ?_ ?_ (fun _ h=>(by cases h)) (by omega)
  ·unfold l8 pS;((repeat' refine iE rfl rfl ?_);exact iN)
  ·exact aX hx0 (cH h3 (by omega))
  ·exact CV h6 rfl rfl rfl rfl
  show ∀ k∈[7,2003,2004,2005],∀ k'∈[7,2003,2004,2005],_;decide
 rintro q e h nx ⟨t,x,hx,ht,rfl,rfl,rfl,rfl⟩;unfold l8 pS pR PT;((conv=>whnf);apply bm<;>intro m1);rotate_left
 ·have htl:t=w.length:=(by simp [aA,aC] at m1;omega);((conv=>whnf);apply bm<;>intro m2)
  ·(conv=>whnf);refine⟨a.D.length - (i+1),by omega,?_⟩;refine cL (P:=pR a (bW a.l a.D a.ls (i+1))) (W:=a.R) (e0:=pS a.D.length (bW a.l a.D a.ls (i+1)) (j+1)) (n0:=2005) [] ⟨i+1,j+1,by omega,by omega,rfl,rfl,rfl,rfl⟩ ?_ h3 ?_ ?_ ?_ (fun _ h=>(by cases h)) (by omega)
   ·rw [hst1];unfold pS;((repeat' refine iE rfl rfl ?_);exact iN)
   ·exact (ext_cons (ext_cons (ext_cons (ext_cons (fun _ _ h=>h) (cH h3 (by omega))) (cH h3 (by omega))) (cH h3 (by omega))) h4)
   ·rw [hst1,← htl];exact C7 h6 (by omega) rfl rfl rfl
   show ∀ k∈[7,2003,2004],∀ k'∈[7,2003,2004],_;decide
  exfalso;simp [aA,aC,aF] at m2;omega
 have htl:t<w.length:=(by simp [aA,aC] at m1;omega);have hwd:=s9 w1 (i:=t) htl;((conv=>whnf);apply bm<;>intro m2);rotate_left
 ·exfalso;simp [aA,aC] at m2;omega
 (conv=>whnf);refine iU (iA w (i:=t) htl ?_) ?_
 ·show _+Int.toNat x*1=_;omega
 have hsf:=fR s.face w (0) t;have hss:=lW s.seen w t
 repeat' first
  |(((conv=>whnf);apply bm<;>intro m))
 all_goals first
  |(exfalso;simp [aA,aC,aF] at m;omega)
  |(exfalso
    have hb:Nat.ble (0+Int.toNat (aK w t)*1+1) (flat gP.fl (fW s.seen w t)).length=true:=Nat.ble_eq_true_of_le (by rw [bE];show _≤(fW s.seen w t).length*1;omega);exact Bool.false_ne_true (m.symm.trans hb))
  |(exfalso
    have hb:Nat.ble (0+Int.toNat (aK w t)*1+1) (flat aT.fl (dV s.face w (0) t)).length=true:=Nat.ble_eq_true_of_le (by rw [bE];show _≤(dV s.face w (0) t).length*1;omega);exact Bool.false_ne_true (m.symm.trans hb))
  |skip
 (conv=>whnf);refine⟨w.length - (t+1),by omega,?_⟩;refine cL (P:=pR a ⟨dV s.face w (0) (t+1),fW s.seen w (t+1),s.many,s.out+1,s.flat⟩++[(2005,.cells true false 1 (flat aT.fl w))]) (W:=a.R) (e0:=l8 a.D.length ⟨dV s.face w (0) (t+1),fW s.seen w (t+1),s.many,s.out+1,s.flat⟩ j (0) w.length (x+1)) (n0:=2006) [] ⟨t+1,x+1,by omega,by omega,rfl,rfl,rfl,rfl⟩ ?_ h3 ?_ ?_ ?_ (fun _ h=>(by cases h)) (by omega)
 ·unfold l8 pS;((repeat' refine iE rfl rfl ?_);exact iN)
 ·exact cK (cK (ext_cons (ext_cons (ext_cons (ext_cons (fun _ _ h=>h) (cH h3 (by omega))) (cH h3 (by omega))) (cH h3 (by omega))) h4) (cH h3 (by omega))) (cH h3 (by omega))
 ·refine CV h6 rfl ?_ ?_ rfl
  ·show some (bV.cells true false 1 (eJ (flat aT.fl (dV s.face w (0) t)) (0+Int.toNat (aK w t)*1) [iv (0)]))=_;rw [r6 (by omega) (by omega)]
  show some (bV.cells true false 1 (eJ (flat gP.fl (fW s.seen w t)) (0+Int.toNat (aK w t)*1) [.bool true]))=_;rw [HB (by omega) (by omega)]
 show ∀ k∈[7,2003,2004,2005],∀ k'∈[7,2003,2004,2005],_;decide
theorem aAL {b n:Nat}{o:bV}(h:bZ id b o o)(hc:O9 o=true):bZ id (n+b) (shO n o) (shO n o):=by
 cases o with
 |cells wr g sz cs =>
  obtain⟨_,_,_,h4,h5⟩:=h;have key:∀ v∈cs,bY id (bY (fun k=>n+k) v)=bY (fun k=>n+k) v∧E4 (n+b) (bY (fun k=>n+k) v):=fun v hv=>by
   have hn:E4 (n+b) (bY (fun k=>n+k) v):=kH (m:=b) (aCw (h5 v hv)) (fun k hk=>by omega);refine⟨?_,hn⟩;unfold bY;rw [jZ (n:=n+b) hn];rfl
  refine⟨rfl,rfl,rfl,?_,fun v hv=>?_⟩
  ·rw [List.map_map];exact List.map_congr_left fun v hv=>(key v hv).1.symm
  obtain⟨u,hu,rfl⟩:=List.mem_map.1 hv;exact (key u hu).2
 |_=>cases hc
theorem UJ {W:Heap}{b n:Nat}(h:yG W b)(hc:iX W=true):yG (oD n W) (n+b):=fun k o hk=>by
 obtain⟨j,o',rfl,h1,rfl⟩:=mW W hk;obtain⟨a1,a2⟩:=h j o' h1;obtain⟨wr,g,sz,cs,rfl⟩:=qG hc h1;exact⟨by omega,aAL a2 rfl⟩
theorem I8 {W:Heap}{b:Nat}(h:yG W b)(hc:iX W=true):yG (eP W) b:=fun k o hk=>by
 rw [kX] at hk;cases hq:look W k with
 |none=>rw [hq] at hk;cases hk
 |some q =>
  rw [hq] at hk;injection hk with hk;subst hk;obtain⟨a1,a2⟩:=h k q hq;obtain⟨wr,g,sz,cs,rfl⟩:=qG hc hq;exact⟨a1,rfl,rfl,rfl,a2.2.2.2.1,a2.2.2.2.2⟩
theorem O7 {A B:Heap}{b:Nat}(hA:yG A b)(hB:yG B b):yG (app A B) b:=fun k o hk=>by
 rw [iQ] at hk;split at hk
 ·rename_i o' ho;injection hk with hk;subst hk;exact hA k o' ho
 exact hB k o hk
def xR (l:List Pt)(m:List Ed):Heap :=
 (6,.cells true false 5 (flat tW.fl (aQ l m m.length)))::(5,.cells true false 1 (tC (outs l m).length (outs l m)))::(0,.cells false true bC.sz (flat bC.fl l))::(1,.cells false true bL.sz (flat bL.fl m))::tH (outs l m).length (outs l m) (outs l m).length
theorem P9 {l:List Pt}{m:List Ed}{p:Nat × bV}(h:p∈xR l m):p=(6,.cells true false 5 (flat tW.fl (aQ l m m.length)))∨p=(5,.cells true false 1 (tC (outs l m).length (outs l m)))∨p=(0,.cells false true bC.sz (flat bC.fl l))∨p=(1,.cells false true bL.sz (flat bL.fl m)) ∨
  ∃ i,i<(outs l m).length∧(bQ (outs l m) i).length≠0∧p=(i+1000,ob (bQ (outs l m) i)):=by
 unfold xR at h;simp only [List.mem_cons] at h;rcases h with h|h|h|h|h
 ·exact .inl h
 ·exact .inr (.inl h)
 ·exact .inr (.inr (.inl h))
 ·exact .inr (.inr (.inr (.inl h)))
 obtain⟨i,h1,h2,h3,h4⟩:=C8 h;exact .inr (.inr (.inr (.inr ⟨i,h1,h3,h4⟩)))
theorem RP {l:List Pt}{m:List Ed}(hl:l.length≤1000):yG (xR l m) 2000:=fun k o hk=>by
 have hol:=fP l m;rcases P9 (aY hk) with h|h|h|h|⟨i,h1,h2,h⟩
 ·injection h with e1 e2;subst e1 e2;exact⟨by omega,aO (aD _ _)⟩
 ·injection h with e1 e2;subst e1 e2;exact⟨by omega,rfl,rfl,rfl,G0 (ρ:=id) (mJ _ _) fun i hi=>D9 hi,L6 (by omega) (by omega)⟩
 ·injection h with e1 e2;subst e1 e2;exact⟨by omega,aO (aD _ _)⟩
 ·injection h with e1 e2;subst e1 e2;exact⟨by omega,aO (aD _ _)⟩
 injection h with e1 e2;subst e1 e2;exact⟨by omega,aO (aD _ _)⟩
theorem tL {l:List Pt}{m:List Ed}:iX (xR l m)=true:=AE _ _ _
def NZ (l:List Pt)(m:List Ed)(c1 c2:Nat)(n:Int):Heap:=(2,cR l.length m.length c1 c2 n)::aL bC bL l m
theorem aId {l:List Pt}{m:List Ed}{c1 c2:Nat}{n:Int}:yG (NZ l m c1 c2 n) 3:=by
 refine bG (bG (bG (fun k o hk=>by cases hk) (by omega) (aO (aD _ _))) (by omega) (aO (aD _ _))) (by omega) ⟨rfl,rfl,rfl,rfl,?_⟩;exact List.forall_mem_cons.2 ⟨⟨Nat.le_of_ble_eq_true rfl,fun h=>by cases h⟩,List.forall_mem_cons.2 ⟨⟨Nat.le_of_ble_eq_true rfl,fun h=>by cases h⟩,List.forall_mem_cons.2 ⟨cN rfl,fun _ h=>(by cases h)⟩⟩⟩
def qO (l:List Pt)(m:List Ed)(c1 c2:Nat)(n:Int):Heap:=app (oD 3 (xR l m)) (eP (NZ l m c1 c2 n))
def a69 (l:List Pt)(m:List Ed)(c1 c2:Nat)(n:Int):RI:=⟨qO l m c1 c2 n,3,4,9,8,fun i=>3+(i+1000),l,aQ l m m.length,outs l m,m.length,c1,c2,n⟩
theorem aFt {l:List Pt}{m:List Ed}{c1 c2:Nat}{n:Int}:app (oD 3 (aGO l m c1 c2 n)) (eP (NZ l m c1 c2 n))=(7,PT (a69 l m c1 c2 n) aR)::qO l m c1 c2 n:=by
 unfold PT a69;simp only [a9,fP];rfl
theorem OC {l:List Pt}{m:List Ed}{c1 c2:Nat}{n:Int}{j:Nat}{o:bV}(h:look (xR l m) j=some o):look (qO l m c1 c2 n) (3+j)=some (shO 3 o):=by
 unfold qO;rw [iQ,lD _ h]
theorem XH {l:List Pt}{m:List Ed}{c1 c2:Nat}{n:Int}:WbR (qO l m c1 c2 n) 3 9 8 (fun i=>3+(i+1000)) l (aQ l m m.length) (outs l m):=by
 have hfl:∀ {α:Type} (E:El α) (x:List α),(flat E.fl x).map (bY fun k=>3+k)=flat E.fl x:=fun E x=>bJ (aD E x);refine⟨⟨_,_,_,_,OC (j:=0) rfl,?_⟩,⟨_,_,_,_,OC (j:=6) rfl,?_⟩,⟨true,false,1,?_⟩,fun i hi h0=>⟨true,false,1,flat aT.fl (bQ (outs l m) i),?_,List.take_length⟩⟩
 ·rw [hfl];exact List.take_length
 ·rw [hfl];exact List.take_length
 ·rw [OC (j:=5) (o:=.cells true false 1 (tC (outs l m).length (outs l m))) rfl];show some (bV.cells true false 1 ((tC (outs l m).length (outs l m)).map (bY fun k=>3+k)))=_;unfold tC;rw [List.map_map];congr 2;refine List.map_congr_left fun i hi=>?_;show bY _ (tV (tN (outs l m).length i) (bQ (outs l m) i))=_;rw [IH];unfold tN;rw [if_neg (by have:=List.mem_range.1 hi;omega)]
 have:look (xR l m) (i+1000)=some (ob (bQ (outs l m) i)):=by
  unfold xR;rw [bA (by omega),bA (by omega),bA (by omega),bA (by omega)];exact lM (by omega) h0 hi
 rw [OC this];show some (bV.cells true false 1 ((flat aT.fl (bQ (outs l m) i)).map (bY fun k=>3+k)))=_;rw [hfl]
theorem aIz {l:List Pt}{m:List Ed}{c1 c2:Nat}{n:Int}:look (qO l m c1 c2 n) 7=none:=by
 cases hl:look (qO l m c1 c2 n) 7 with
 |none=>rfl
 |some o =>
  exfalso;unfold qO at hl;rw [iQ] at hl;split at hl
  ·rename_i o' ho;obtain⟨j,q,e1,e2,_⟩:=mW _ ho;rcases P9 (aY e2) with h|h|h|h|⟨i,h1,h2,h⟩ <;> (injection h with e3 e4;omega)
  ·cases hl
theorem aIa {l:List Pt}{m:List Ed}{c1 c2:Nat}{n:Int}(hl:l.length≤1000):yG (qO l m c1 c2 n) 2003 :=
 O7 (UJ (n:=3) (RP hl) tL) (vJ (I8 aId rfl) (by omega))
theorem aJz {l:List Pt}{m:List Ed}{c1 c2:Nat}{n:Int}(hl:l.length≤1000)(h1:xO l (aQ l m m.length) (outs l m)=true)(h2:aCg (aQ l m m.length) (outs l m)=true):aJj (a69 l m c1 c2 n) :=
 ⟨h1,h2,aIa hl,aIz,XH,Nat.le_of_ble_eq_true rfl,Nat.le_of_ble_eq_true rfl,Nat.le_of_ble_eq_true rfl,Nat.le_of_ble_eq_true rfl⟩
set_option maxHeartbeats 4000000
def TE (l:List Pt)(m:List Ed):Bool:=(fM (aQ l m m.length) (outs l m)).all id
def c8 (l:List Pt)(m:List Ed):OP:=nmD l (aQ l m m.length) (outs l m)
def E3 (l:List Pt)(m:List Ed)(i:Nat):Bool:=decide ((bO m i).l=aK (c8 l m).face (2*i))&&decide ((bO m i).r=aK (c8 l m).face (2*i+1))
def a8 (l:List Pt)(m:List Ed)(n:Int):Bool:=eK l m n&&(TE l m&&(yX (c8 l m)&&(decide ((c8 l m).many=n)&&nM (E3 l m) m.length)))
def hF0 (l:List Pt)(m:List Ed)(c1 c2:Nat)(n:Int):Heap:=(7,PT (a69 l m c1 c2 n) (.slice (some ⟨2003,0,none⟩) (aQ l m m.length).length (aQ l m m.length).length))::(2003,.cells true false 1 (flat aT.fl (c8 l m).face))::oD 3 (xR l m)
def aNr (l:List Pt)(m:List Ed)(c1 c2:Nat)(n:Int):KE:=fun v h nx =>
 (a8 l m n=true∧PE (.tuple #[.pointer (some ⟨7,0,none⟩),iv 0]) (hF0 l m c1 c2 n) 2004 v h nx)∨(a8 l m n=false∧v=.tuple #[.pointer none,iv 1])
def e69 (N:Nat)(j:Int):List (Nat × Value):=[(1,.pointer (some ⟨2,0,none⟩)),(17,iv N),(18,iv j)]
def Q9 (N:Nat)(j z:Int):List (Nat × Value):=(4,iv j)::(21,iv j)::(22,iv z)::e69 N j
theorem aDs {l:List Pt}{m:List Ed}{c1 c2:Nat}{n:Int}:look (SL (a69 l m c1 c2 n)) 2=some (.cells false false 1 [.slice (some ⟨0,0,none⟩) l.length c1,.slice (some ⟨1,0,none⟩) m.length c2,iv n]):=by
 unfold SL a69;rw [bA (by omega),bA (by omega)];unfold qO;rw [iQ];split
 ·rename_i o' ho;exfalso;obtain⟨j,q,e1,_,_⟩:=mW _ ho;omega
 rfl
theorem K3 {b n0 nx:Nat}{I:KS}{e0 e:List (Nat × Value)}{h0 h:Heap}(hI:I e0 h0 n0)(he:∀ p∈e0,look e p.1=some (iM id p.2)∧zR n0 p.2)(hh:∀ k o,look h0 k=some o→look h k=some o)(hok:yG h0 n0)(hb:b≤n0):sT b I e h nx :=
 ⟨e0,h0,n0,id,hI,fun t v hv=>he (t,v) (aY hv),fun k o hk=>⟨(hok k o hk).1,o,hh k o hk,(hok k o hk).2⟩,fun _ _ _ _ _ _ e=>e,fun _ _=>rfl,hb⟩
def hF (l:List Pt)(m:List Ed)(c1 c2:Nat)(n:Int):Heap :=
 (7,PT (a69 l m c1 c2 n) (.slice (some ⟨2003,0,none⟩) (a69 l m c1 c2 n).D.length (a69 l m c1 c2 n).D.length))::(2003,.cells true false 1 (flat aT.fl (c8 l m).face))::(2,.cells false false 1 [.slice (some ⟨0,0,none⟩) l.length c1,.slice (some ⟨1,0,none⟩) m.length c2,iv n]) ::
 (0,.cells false true bC.sz (flat bC.fl l))::(1,.cells false true bL.sz (flat bL.fl m))::oD 3 (xR l m)
theorem PD {l:List Pt}{m:List Ed}{c1 c2:Nat}{n:Int}:∀ k o,look (hF0 l m c1 c2 n) k=some o→look (hF l m c1 c2 n) k=some o:=by
 intro k o hk;unfold hF0 at hk;rw [aB] at hk;split at hk
 ·rename_i hb;rw [← beq_true hb,← hk];rfl
 rename_i hb7;rw [aB] at hk;split at hk
 ·rename_i hb;rw [← beq_true hb,← hk];rfl
 rename_i hb3;have h7:(7:Nat)≠k:=beq_false hb7;have h3:(2003:Nat)≠k:=beq_false hb3;obtain⟨j,q,e1,_,_⟩:=mW _ hk;unfold hF;rw [bA h7,bA h3,bA (by omega),bA (by omega),bA (by omega)];exact hk
def aAY (N c2:Nat)(j:Int):List (Nat × Value):=[(7,.pointer (some ⟨7,0,none⟩)),(59,.slice (some ⟨1,0,none⟩) N c2),(60,iv N),(61,iv j)]
theorem NI {l:List Pt}{m:List Ed}{c1 c2:Nat}{n:Int}(hl:l.length≤1000):yG (hF l m c1 c2 n) 2004:=by
 have hsl:∀ {q a b:Nat},q<2004→E4 2004 (.slice (some ⟨q,0,none⟩) a b):=fun {q a b} hq=>⟨hq,fun h=>by cases h⟩;refine bG (bG (bG (bG (bG (vJ (UJ (n:=3) (RP hl) tL) (by omega)) (by omega) (aO (aD _ _))) (by omega) (aO (aD _ _))) (by omega) ⟨rfl,rfl,rfl,rfl,?_⟩) (by omega) (aO (aD _ _))) (by omega) ⟨rfl,rfl,rfl,rfl,?_⟩
 ·exact List.forall_mem_cons.2 ⟨hsl (by omega),List.forall_mem_cons.2 ⟨hsl (by omega),List.forall_mem_cons.2 ⟨cN rfl,fun _ h=>(by cases h)⟩⟩⟩
 exact List.forall_mem_cons.2 ⟨hsl (show 3<2004 by omega),List.forall_mem_cons.2 ⟨hsl (show 4<2004 by omega),List.forall_mem_cons.2 ⟨cN rfl,List.forall_mem_cons.2 ⟨hsl (show 9<2004 by omega),List.forall_mem_cons.2 ⟨hsl (show 8<2004 by omega),List.forall_mem_cons.2 ⟨hsl (by omega),fun _ h=>(by cases h)⟩⟩⟩⟩⟩⟩
theorem aK1 {l:List Pt}{m:List Ed}{c1 c2:Nat}{n:Int}(hl:l.length≤1000):PE (.tuple #[.pointer (some ⟨7,0,none⟩),iv 0]) (hF0 l m c1 c2 n) 2004 (.tuple #[.pointer (some ⟨7,0,none⟩),iv 0]) (hF l m c1 c2 n) 2004:=by
 refine⟨id,fun t u hu=>?_,fun k o hk=>?_,fun _ _ _ _ _ _ e=>e,fun _ _=>rfl,by omega⟩
 ·have hm:=aY hu;simp only [List.mem_cons,List.not_mem_nil,or_false] at hm;injection hm with e1 e2;subst e1 e2;refine⟨by simp [iM,tr,eM,cC,eN,kV];rfl,?_⟩;intro v hv;simp only [List.mem_cons,List.not_mem_nil,or_false] at hv;rcases hv with rfl|rfl
  ·exact⟨Nat.le_of_ble_eq_true rfl,rfl⟩
  exact iL (cN rfl)
 have h:=PD k o hk;obtain⟨a1,a2⟩:=NI hl k o h;exact⟨a1,o,h,a2⟩
theorem aJb {l:List Pt}{m:List Ed}{k:Nat}(h:k<3):look (oD 3 (xR l m)) k=none:=by
 cases hl:look (oD 3 (xR l m)) k with
 |none=>rfl
 |some o =>
  obtain⟨j,q,e1,_,_⟩:=mW _ hl;omega
theorem aKz {l:List Pt}{m:List Ed}{c1 c2:Nat}{n:Int}:∀ k o,look (hF l m c1 c2 n) k=some o→look (SL (a69 l m c1 c2 n)) k=some o:=by
 intro k o hk;unfold hF at hk;rw [aB] at hk;split at hk
 ·rename_i hb;rw [← beq_true hb,← hk];rfl
 rename_i hb7;rw [aB] at hk;split at hk
 ·rename_i hb;rw [← beq_true hb,← hk];rfl
 rename_i hb3;rw [aB] at hk;split at hk
 ·rename_i hb;rw [← beq_true hb,aDs,← hk]
 have h7:(7:Nat)≠k:=beq_false hb7;have h3:(2003:Nat)≠k:=beq_false hb3;show look ((7,_)::(2003,_)::app (oD 3 (xR l m)) (eP (NZ l m c1 c2 n))) k=some o;rw [bA h7,bA h3,iQ];rw [aB] at hk;split at hk
 ·rename_i hb;rw [← beq_true hb,aJb (by omega),← hk];rfl
 rw [aB] at hk;split at hk
 ·rename_i hb;rw [← beq_true hb,aJb (by omega),← hk];rfl
 rw [hk]
theorem w69 (l:List Pt)(m:List Ed)(n:Int)(c1 c2:Nat)(hl:l.length≤1000)(hm:m.length≤1000)
  (hP:cQ l m n=true→xO l (aQ l m m.length) (outs l m)=true∧aCg (aQ l m m.length) (outs l m)=true∧aBb (aQ l m m.length) (outs l m)=true∧1≤l.length) :
  body [X8,OR,XJ,X6,YB,(83,aLT)] 35 [kI l.length m.length c1 c2 n] (aL bC bL l m) 2 (aNr l m c1 c2 n):=by
 (conv=>whnf);refine⟨l,m,aG bC rfl,aG bL rfl,?_⟩;((conv=>whnf);apply bm<;>intro a0);rotate_left
 ·exfalso;have a0:(decide (l.length≤1000)&&decide (m.length≤1000))=false:=a0;rw [decide_eq_true hl,decide_eq_true hm] at a0;cases a0
 ((conv=>whnf);apply bm<;>intro a1)
 ·have hno:cQ l m n=false:=by
   have a1:(!cQ l m n)=true:=a1;simpa using a1
  (conv=>whnf);exact .inr ⟨by rw [a8,eK,hno];rfl,rfl⟩
 have hlst:cQ l m n=true:=by
  have a1:(!cQ l m n)=false:=a1;simpa using a1
 have hM:kS l m=true:=by
  have hh:=hlst;simp only [cQ,Bool.and_eq_true] at hh;exact PB hl hm (fun i hi=>eG hh.2.1 hi) (fun i hi=>eG hh.2.2.1 hi)
 (conv=>whnf);refine⟨fun q e h nx=>∃ (i:Nat) (j:Int),j=i∧i≤m.length∧q=m.length - i∧(∀ t,t<i→∀ k,k<t→zP l m t k=true)∧e=e69 m.length j∧h=NZ l m c1 c2 n∧nx=3,⟨m.length,?_⟩,?_⟩
 ·refine aJ (e0:=e69 m.length 0) (h0:=NZ l m c1 c2 n) (n0:=3) ⟨0,0,rfl,Nat.zero_le _,rfl,fun t ht=>absurd ht (Nat.not_lt_zero t),rfl,rfl,rfl⟩ ?_ ?_ (by decide)
  ·unfold e69;((repeat' refine iE rfl rfl ?_);exact iN)
  unfold NZ cR aL;((repeat'(first|refine iF rfl rfl ?_|refine iC rfl rfl rfl ?_|refine iJ rfl rfl rfl rfl ?_));exact iN)
 rintro q e h nx ⟨i,j,hj,hi,rfl,hme,rfl,rfl,rfl⟩;unfold e69 NZ cR aL;((conv=>whnf);apply bm<;>intro h3)
 ·have hlt:i<m.length:=(by simp [aA,aC] at h3;omega);(conv=>whnf);refine⟨fun q e h nx=>∃ (k:Nat) (z:Int),z=k∧k≤i∧q=i - k∧(∀ t,t<k→zP l m i t=true)∧e=Q9 m.length j z∧h=NZ l m c1 c2 n∧nx=3,⟨i,?_⟩,?_⟩
  ·refine aJ (e0:=Q9 m.length j 0) (h0:=NZ l m c1 c2 n) (n0:=3) ⟨0,0,rfl,Nat.zero_le _,rfl,fun t ht=>absurd ht (Nat.not_lt_zero t),rfl,rfl,rfl⟩ ?_ ?_ (by decide)
   ·unfold Q9 e69;((repeat' refine iE rfl rfl ?_);exact iN)
   unfold NZ cR aL;((repeat'(first|refine iF rfl rfl ?_|refine iC rfl rfl rfl ?_|refine iJ rfl rfl rfl rfl ?_));exact iN)
  rintro q e h nx ⟨k,z,hz,hk,rfl,hmk,rfl,rfl,rfl⟩;unfold Q9 e69 NZ cR aL;((conv=>whnf);apply bm<;>intro h4);rotate_left
  ·have hge:k=i:=(by simp [aA,aC] at h4;omega);((conv=>whnf);apply bm<;>intro h5)
   ·(conv=>whnf);refine⟨m.length - (i+1),by omega,?_⟩;refine aJ (e0:=e69 m.length (j+1)) (h0:=NZ l m c1 c2 n) (n0:=3) ⟨i+1,j+1,by omega,by omega,rfl,fun t ht=>?_,rfl,rfl,rfl⟩ ?_ ?_ (by decide)
    ·by_cases hti:t=i
     ·rw [hti];exact fun k' hk'=>hmk k' (by omega)
     exact hme t (by omega)
    ·unfold e69;((repeat' refine iE rfl rfl ?_);exact iN)
    unfold NZ cR aL;((repeat'(first|refine iF rfl rfl ?_|refine iC rfl rfl rfl ?_|refine iJ rfl rfl rfl rfl ?_));exact iN)
   exfalso;simp [aA,aC,aF] at h5;omega
  have hkl:k<i:=(by simp [aA,aC] at h4;omega);have ej:j.toNat=i:=(by omega);have ez:z.toNat=k:=(by omega);(conv=>whnf);refine⟨l,m,aG bC rfl,aG bL rfl,?_⟩;((conv=>whnf);apply bm<;>intro h5);rotate_left
  ·exfalso;have h5:(kS l m&&(decide (0≤j)&&decide (j<m.length)))=false:=h5;rw [hM,decide_eq_true (show 0≤j by omega),decide_eq_true (show j<m.length by omega)] at h5;cases h5
  (conv=>whnf);refine⟨l,m,aG bC rfl,aG bL rfl,?_⟩;((conv=>whnf);apply bm<;>intro h6);rotate_left
  ·exfalso;have h6:(kS l m&&(decide (0≤z)&&decide (z<m.length)))=false:=h6;rw [hM,decide_eq_true (show 0≤z by omega),decide_eq_true (show z<m.length by omega)] at h6;cases h6
  (conv=>whnf);have em:JE (aS l m j.toNat) (aS l m z.toNat)=fF (aS l m i) (aS l m k):=(by rw [ej,ez,aEd]);((conv=>whnf);apply bm<;>intro h7);rotate_left
  ·have h7:fF (aS l m i) (aS l m k)=0:=(by rw [← em];simpa [aA,aC] using h7);have hyes:zP l m i k=true:=(by rw [zP,decide_eq_true h7,Bool.true_or]);((conv=>whnf);apply bm<;>intro h9)
   ·(conv=>whnf);refine⟨i - (k+1),by omega,?_⟩;refine aJ (e0:=Q9 m.length j (z+1)) (h0:=NZ l m c1 c2 n) (n0:=3) ⟨k+1,z+1,by omega,by omega,rfl,fun t ht=>?_,rfl,rfl,rfl⟩ ?_ ?_ (by decide)
    ·by_cases htk:t=k
     ·rw [htk];exact hyes
     exact hmk t (by omega)
    ·unfold Q9 e69;((repeat' refine iE rfl rfl ?_);exact iN)
    unfold NZ cR aL;((repeat'(first|refine iF rfl rfl ?_|refine iC rfl rfl rfl ?_|refine iJ rfl rfl rfl rfl ?_));exact iN)
   exfalso;simp [aA,aC,aF] at h9;omega
  have h7:¬ fF (aS l m i) (aS l m k)=0:=(by rw [← em];simpa [aA,aC] using h7);((conv=>whnf);apply bm<;>intro h8)
  ·have h8:¬ fF (aS l m i) (aS l m k)=1:=(by rw [← em];simpa [aA,aC] using h8);(conv=>whnf);exact .inr ⟨by rw [a8,aDJ hlt hkl (by rw [zP,decide_eq_false h7,decide_eq_false h8];rfl)];rfl,rfl⟩
  have h8:fF (aS l m i) (aS l m k)=1:=(by rw [← em];simpa [aA,aC] using h8);have hyes:zP l m i k=true:=(by rw [zP,decide_eq_true h8,Bool.or_true]);((conv=>whnf);apply bm<;>intro h9)
  ·(conv=>whnf);refine⟨i - (k+1),by omega,?_⟩;refine aJ (e0:=Q9 m.length j (z+1)) (h0:=NZ l m c1 c2 n) (n0:=3) ⟨k+1,z+1,by omega,by omega,rfl,fun t ht=>?_,rfl,rfl,rfl⟩ ?_ ?_ (by decide)
   ·by_cases htk:t=k
    ·rw [htk];exact hyes
    exact hmk t (by omega)
   ·unfold Q9 e69;((repeat' refine iE rfl rfl ?_);exact iN)
   unfold NZ cR aL;((repeat'(first|refine iF rfl rfl ?_|refine iC rfl rfl rfl ?_|refine iJ rfl rfl rfl rfl ?_));exact iN)
  exfalso;simp [aA,aC,aF] at h9;omega
 have hge:i=m.length:=(by simp [aA,aC] at h3;omega);have hpln:eK l m n=true:=by
  rw [eK,hlst,fO (fun i hi=>fO (hme i (by omega)))];rfl
 obtain⟨p1,p2,p3,p4⟩:=hP hlst;(conv=>whnf);refine⟨l,m,n,.slice (some ⟨0,0,none⟩) l.length c1,.slice (some ⟨1,0,none⟩) m.length c2,rfl,aG bC rfl,aG bL rfl,hlst,?_⟩;(conv=>whnf);have hW:xX (app (oD 3 (aGO l m c1 c2 n)) (eP (NZ l m c1 c2 n))) 7 3 4 9 8 0 (fun i=>3+(i+1000)) l (aQ l m m.length) (outs l m) m.length c1 c2 n none:=by
  rw [aFt];exact XH.at (ext_cons (fun _ _ h=>h) aIz) rfl
 refine⟨7,[],3,4,9,8,0,(fun i=>3+(i+1000)),l,aQ l m m.length,outs l m,m.length,c1,c2,n,none,rfl,hW,?_⟩;rw [show cnS l (aQ l m m.length) (outs l m) []=some (true,.bool (TE l m)) from by
  unfold cnS;rw [F6 p1,p3,fP,decide_eq_true p4];rfl]
 refine aI rfl ?_;((conv=>whnf);apply bm<;>intro b1)
 ·have hc:TE l m=false:=by
   have b1:(!TE l m)=true:=b1;simpa using b1
  (conv=>whnf);exact .inr ⟨by rw [a8,hc,Bool.false_and,Bool.and_false],rfl⟩
 have hc:TE l m=true:=by
  have b1:(!TE l m)=false:=b1;simpa using b1
 (conv=>whnf);refine⟨a69 l m c1 c2 n,aJz hl p1 p2,rfl,aFt,rfl,?_⟩;((conv=>whnf);apply bm<;>intro b2);rotate_left
 ·have hok:yX (c8 l m)=false:=by
   have b2:((!yX (c8 l m)) == false)=false:=b2;simpa using b2
  (conv=>whnf);exact .inr ⟨by rw [a8,hok,Bool.false_and,Bool.and_false,Bool.and_false],rfl⟩
 have hok:yX (c8 l m)=true:=by
  have b2:((!yX (c8 l m)) == false)=true:=b2;simpa using b2
 (conv=>whnf);rw [aDs];((conv=>whnf);apply bm<;>intro b3)
 ·have hne:¬ (c8 l m).many=n:=by
   have b3:(!decide ((c8 l m).many=n))=true:=b3;simpa using b3
  (conv=>whnf);exact .inr ⟨by rw [a8,decide_eq_false hne,Bool.false_and,Bool.and_false,Bool.and_false,Bool.and_false],rfl⟩
 have hmn:(c8 l m).many=n:=by
  have b3:(!decide ((c8 l m).many=n))=false:=b3;simpa using b3
 (conv=>whnf);rw [aDs];(conv=>whnf);have hfl:(c8 l m).face.length=2*m.length:=by
  have:=(oR l (aQ l m m.length) (outs l m) (aQ l m m.length).length).1;exact this.trans (a9 l m m.length)
 have hDl:(a69 l m c1 c2 n).D.length=2*m.length:=a9 l m m.length;have hhok:=NI (m:=m) (c1:=c1) (c2:=c2) (n:=n) hl;refine⟨fun q e h nx=>∃ (i:Nat) (j:Int),j=i∧i≤m.length∧q=m.length - i∧(∀ t,t<i→E3 l m t=true)∧e=aAY m.length c2 j∧h=hF l m c1 c2 n∧nx=2004,⟨m.length,?_⟩,?_⟩
 ·refine K3 (e0:=aAY m.length c2 0) (h0:=hF l m c1 c2 n) (n0:=2004) ⟨0,0,rfl,Nat.zero_le _,rfl,fun t ht=>absurd ht (Nat.not_lt_zero t),rfl,rfl,rfl⟩ ?_ aKz hhok (by omega);unfold aAY;((repeat' refine iE rfl rfl ?_);exact iN)
 clear hj hi hge h3 hme;rintro q e h nx ⟨i,j,hj,hi,rfl,hfa,rfl,rfl,rfl⟩;unfold aAY;((conv=>whnf);apply bm<;>intro h3);rotate_left
 ·have hge:i=m.length:=(by simp [aA,aC] at h3;omega);(conv=>whnf);refine .inl ⟨?_,aK1 hl⟩;rw [a8,hpln,hc,hok,decide_eq_true hmn,fO (fun t ht=>hfa t (by omega))];rfl
 have hlt:i<m.length:=(by simp [aA,aC] at h3;omega);((conv=>whnf);apply bm<;>intro g1);rotate_left
 ·exfalso;simp [aA,aC] at g1;omega
 (conv=>whnf);refine n8 (C5 m (i:=i) (by omega) ?_) ?_
 ·show _+Int.toNat j*5=_;omega
 ((conv=>whnf);apply bm<;>intro g2);rotate_left
 ·exfalso;simp [aA,aC,aF] at g2;omega
 ((conv=>whnf);apply bm<;>intro g3);rotate_left
 ·exfalso;simp [aA,aC,hDl] at g3;omega
 (conv=>whnf);refine iU (iA (c8 l m).face (i:=2*i) (by omega) ?_) ?_
 ·show _+Int.toNat (2*j)*1=_;omega
 ((conv=>whnf);apply bm<;>intro g4);rotate_left
 ·have hL:¬ (bO m i).l=aK (c8 l m).face (2*i):=by
   have g4:((!decide ((bO m i).l=aK (c8 l m).face (2*i))) == false)=false:=g4;simpa using g4
  (conv=>whnf);exact .inr ⟨by rw [a8,gB hlt (show E3 l m i=false by rw [E3,decide_eq_false hL,Bool.false_and]),Bool.and_false,Bool.and_false,Bool.and_false,Bool.and_false],rfl⟩
 have hL:(bO m i).l=aK (c8 l m).face (2*i):=by
  have g4:((!decide ((bO m i).l=aK (c8 l m).face (2*i))) == false)=true:=g4;simpa using g4
 ((conv=>whnf);apply bm<;>intro g5);rotate_left
 ·exfalso;simp [aA,aC,aF] at g5;omega
 ((conv=>whnf);apply bm<;>intro g6);rotate_left
 ·exfalso;simp [aA,aC,aF] at g6;omega
 ((conv=>whnf);apply bm<;>intro g7);rotate_left
 ·exfalso;simp [aA,aC,hDl] at g7;omega
 (conv=>whnf);refine iU (iA (c8 l m).face (i:=2*i+1) (by omega) ?_) ?_
 ·show _+Int.toNat (2*j+1)*1=_;omega
 ((conv=>whnf);apply bm<;>intro g8)
 ·have hR:¬ (bO m i).r=aK (c8 l m).face (2*i+1):=by
   have g8:(!decide ((bO m i).r=aK (c8 l m).face (2*i+1)))=true:=g8;simpa using g8
  (conv=>whnf);exact .inr ⟨by rw [a8,gB hlt (show E3 l m i=false by rw [E3,decide_eq_false hR,Bool.and_false]),Bool.and_false,Bool.and_false,Bool.and_false,Bool.and_false],rfl⟩
 have hR:(bO m i).r=aK (c8 l m).face (2*i+1):=by
  have g8:(!decide ((bO m i).r=aK (c8 l m).face (2*i+1)))=false:=g8;simpa using g8
 ((conv=>whnf);apply bm<;>intro g9)
 ·(conv=>whnf);refine⟨m.length - (i+1),by omega,?_⟩;refine K3 (e0:=aAY m.length c2 (j+1)) (h0:=hF l m c1 c2 n) (n0:=2004) ⟨i+1,j+1,by omega,by omega,rfl,fun t ht=>?_,rfl,rfl,rfl⟩ ?_ (cK (aX (fun _ _ h=>h) (cH hhok (Nat.le_refl _))) (cH hhok (Nat.le_refl _))) hhok (by omega)
  ·by_cases hti:t=i
   ·rw [hti,E3,decide_eq_true hL,decide_eq_true hR];rfl
   exact hfa t (by omega)
  unfold aAY;((repeat' refine iE rfl rfl ?_);exact iN)
 exfalso;simp [aA,aC,aF] at g9;omega
theorem UU (L:List Int)(x:Nat)(v:Int)(i:Nat)(hx:x<L.length):aK (L.set x v) i=if i=x then v else aK L i:=by
 unfold aK;rw [List.getD_eq_getElem?_getD,List.getD_eq_getElem?_getD,List.getElem?_set];by_cases h:x=i
 ·subst h;simp [hx]
 rw [if_neg h,if_neg (fun e=>h e.symm)]
theorem JW {L:List Int}{x y:Nat}(hx:x<L.length)(hy:y<L.length)(i:Nat):aK (oN L x y) i=if i=y then aK L x else if i=x then aK L y else aK L i:=by
 unfold oN;rw [UU _ _ _ _ (by rw [List.length_set];exact hy),UU _ _ _ _ hx]
theorem O6 {L:List Int}{a b:Nat}:∀ (n:Nat),a+n≤b→b+n≤L.length→∀ i,aK (qQ L a b n) i=if a≤i∧i<a+n then aK L (i - a+b) else if b≤i∧i<b+n then aK L (i - b+a) else aK L i
 |0,_,_,i=>by
  rw [if_neg (by omega),if_neg (by omega)];rfl
 |n+1,h1,h2,i=>by
  have hl:=jM L a b n;have ih:=O6 (L:=L) (a:=a) (b:=b) n (by omega) (by omega);unfold qQ;rw [JW (by omega) (by omega),ih,ih,ih];by_cases h3:i=b+n
  ·subst h3;rw [if_pos rfl,if_neg (by omega),if_neg (by omega),if_neg (by omega),if_pos (by omega)];congr 1;omega
  rw [if_neg h3];by_cases h4:i=a+n
  ·subst h4;rw [if_pos rfl,if_neg (by omega),if_neg (by omega),if_pos (by omega)];congr 1;omega
  rw [if_neg h4];by_cases h5:a≤i∧i<a+n
  ·rw [if_pos h5,if_pos (by omega)]
  rw [if_neg h5,if_neg (c:=a≤i∧i<a+(n+1)) (by omega)];by_cases h6:b≤i∧i<b+n
  ·rw [if_pos h6,if_pos (by omega)]
  rw [if_neg h6,if_neg (by omega)]
theorem OD (m:Nat):∀ (k:Nat) (L:List Int) (i j:Nat),1≤i→1≤j→i≤m→m+j≤L.length→i+j≤k→∀ t,aK (j9 m k L i j) t=if t<m - i then aK L t else if t<m - i+j then aK L (t - (m - i)+m) else if t<m+j then aK L (t - j) else aK L t
 |0,L,i,j,h1,h2,h3,h4,h5,t=>by omega
 |k+1,L,i,j,h1,h2,h3,h4,h5,t=>by
  unfold j9;by_cases e1:i=j
  ·rw [if_pos e1,O6 i (by omega) (by omega)];by_cases q1:t<m - i
   ·rw [if_pos q1,if_neg (by omega),if_neg (by omega)]
   rw [if_neg q1];by_cases q2:t<m - i+j
   ·rw [if_pos q2,if_pos (by omega)]
   rw [if_neg q2,if_neg (by omega)];by_cases q3:t<m+j
   ·rw [if_pos q3,if_pos (by omega)];congr 1;omega
   rw [if_neg q3,if_neg (by omega)]
  rw [if_neg e1];by_cases e2:j<i
  ·rw [if_pos e2,OD m k _ (i - j) j (by omega) h2 (by omega) (by rw [jM];exact h4) (by omega) t];simp only [O6 (L:=L) (a:=m - i) (b:=m) j (by omega) (by omega)];by_cases q1:t<m - i
   ·rw [if_pos (by omega),if_neg (by omega),if_neg (by omega),if_pos q1]
   rw [if_neg q1];by_cases q2:t<m - i+j
   ·rw [if_pos (by omega),if_pos (by omega),if_pos q2]
   rw [if_neg q2];by_cases q3:t<m+j
   ·rw [if_pos q3,if_neg (by omega)];by_cases q4:t<m - (i - j)+j
    ·rw [if_pos q4,if_neg (by omega),if_pos (by omega)];rw [if_pos q3];exact congrArg (aK L) (by omega)
    rw [if_neg q4,if_pos q3,if_neg (by omega),if_neg (by omega)]
   rw [if_neg q3,if_neg (by omega),if_neg (by omega),if_neg q3,if_neg (by omega),if_neg (by omega)]
  rw [if_neg e2,OD m k _ i (j - i) h1 (by omega) h3 (by rw [jM];omega) (by omega) t];simp only [O6 (L:=L) (a:=m - i) (b:=m+j - i) i (by omega) (by omega)];by_cases q1:t<m - i
  ·rw [if_pos q1,if_neg (by omega),if_neg (by omega),if_pos q1]
  rw [if_neg q1,if_neg q1];by_cases q2:t<m - i+j
  ·rw [if_pos q2];by_cases q5:t<m - i+(j - i)
   ·rw [if_pos q5,if_neg (by omega),if_neg (by omega)]
   rw [if_neg q5,if_pos (by omega),if_pos (by omega)];congr 1;omega
  rw [if_neg q2,if_neg (by omega),if_neg (by omega)];by_cases q3:t<m+j
  ·rw [if_pos q3,if_neg (by omega),if_pos (by omega)];congr 1;omega
  rw [if_neg q3,if_neg (by omega),if_neg (by omega)]
theorem U0 {L:List Int}{a:Nat}:∀ (n:Nat),a+n<L.length→∀ s,aK (swU L a n) s=if s<a then aK L s else if s<a+n then aK L (s+1) else if s=a+n then aK L a else aK L s
 |0,h,s=>by
  by_cases q1:s<a
  ·rw [if_pos q1];rfl
  rw [if_neg q1,if_neg (by omega)];by_cases q2:s=a
  ·rw [if_pos (by omega),q2];rfl
  rw [if_neg (by omega)];rfl
 |n+1,h,s=>by
  have hl:=(aE0 L a n (by omega)).len;have ih:=U0 (L:=L) (a:=a) n (by omega);unfold swU;rw [JW (by omega) (by omega),ih,ih,ih];by_cases q1:s<a
  ·rw [if_neg (by omega),if_neg (by omega),if_pos q1,if_pos q1]
  rw [if_neg q1,if_neg q1];by_cases q2:s=a+n+1
  ·rw [if_pos q2,if_neg (by omega),if_neg (by omega),if_pos rfl,if_neg (by omega),if_pos (by omega)]
  rw [if_neg q2];by_cases q3:s=a+n
  ·rw [if_pos q3,if_neg (by omega),if_neg (by omega),if_neg (by omega),if_pos (by omega),q3]
  rw [if_neg q3];by_cases q4:s<a+n
  ·rw [if_pos q4,if_pos (by omega)]
  rw [if_neg q4,if_neg q3,if_neg (by omega),if_neg (by omega)]
theorem UB {L:List Int}{m:Nat}(hm:m<L.length):∀ (n:Nat),n≤m→∀ s,aK (swD L m n) s=if s<m - n then aK L s else if s=m - n then aK L m else if s≤m then aK L (s - 1) else aK L s
 |0,h,s=>by
  by_cases q1:s<m
  ·rw [if_pos (by omega)];rfl
  rw [if_neg (by omega)];by_cases q2:s=m
  ·rw [if_pos (by omega),q2];rfl
  rw [if_neg (by omega),if_neg (by omega)];rfl
 |n+1,h,s=>by
  have hl:=(aDc L m hm n).len;have ih:=UB (L:=L) (m:=m) hm n (by omega);unfold swD;rw [JW (by omega) (by omega),ih,ih,ih];by_cases q1:s=m - n - 1
  ·rw [if_pos q1,if_neg (by omega),if_pos rfl,if_neg (by omega),if_pos (by omega)]
  rw [if_neg q1];by_cases q2:s=m - n
  ·rw [if_pos q2,if_pos (by omega),if_neg (by omega),if_neg (by omega),if_pos (by omega)];congr 1;omega
  rw [if_neg q2];by_cases q3:s<m - n
  ·rw [if_pos q3,if_pos (by omega)]
  rw [if_neg q3,if_neg q2];by_cases q4:s≤m
  ·rw [if_pos q4,if_neg (by omega),if_neg (by omega)]
  rw [if_neg q4,if_neg (by omega),if_neg (by omega)]
theorem S8 {f:Nat→Bool}:∀ {k i j:Nat},j - i≤k→(∀ s t,i≤s→s≤t→t<j→f s=true→f t=true)→(∀ t,i≤t→t<yK f k i j→f t=false)∧(∀ t,yK f k i j≤t→t<j→f t=true)
 |0,i,j,hk,hm=>by
  unfold yK;exact⟨fun t h1 h2=>by omega,fun t h1 h2=>by omega⟩
 |k+1,i,j,hk,hm=>by
  unfold yK;by_cases h1:i<j
  ·rw [if_pos h1];cases hf:f ((i+j) / 2) with
   |true =>
    rw [if_pos rfl];have ih:=S8 (f:=f) (k:=k) (i:=i) (j:=(i+j) / 2) (by omega) fun s t a b c=>hm s t a b (by omega);refine⟨ih.1,fun t h2 h3=>?_⟩;by_cases h4:t<(i+j) / 2
    ·exact ih.2 t h2 h4
    exact hm _ _ (by omega) (by omega) h3 hf
   |false =>
    rw [if_neg (by decide)];have ih:=S8 (f:=f) (k:=k) (i:=(i+j) / 2+1) (j:=j) (by omega) fun s t a b c=>hm s t (by omega) b c;refine⟨fun t h2 h3=>?_,ih.2⟩;by_cases h4:t≤(i+j) / 2
    ·cases hq:f t with
     |false=>rfl
     |true=>have:=hm t _ h2 h4 (by omega) hq;rw [hf] at this;cases this
    exact ih.1 t (by omega) h3
  rw [if_neg h1];exact⟨fun t h2 h3=>by omega,fun t h2 h3=>by omega⟩
structure wP (a b:Nat) (L M:List Int):Prop where
 len:M.length=L.length
 out:∀ t,t<a∨b≤t→aK M t=aK L t
 inn:∀ t,a≤t→t<b→∃ s,a≤s∧s<b∧aK M t=aK L s
theorem wP.refl (a b:Nat)(L:List Int):wP a b L L:=⟨rfl,fun _ _=>rfl,fun t h1 h2=>⟨t,h1,h2,rfl⟩⟩
theorem wP.trans {a b:Nat}{L M N:List Int}(h1:wP a b L M)(h2:wP a b M N):wP a b L N :=
 ⟨h2.len.trans h1.len,fun t h=>(h2.out t h).trans (h1.out t h),fun t q1 q2=>by
  obtain⟨s,s1,s2,s3⟩:=h2.inn t q1 q2;obtain⟨u,u1,u2,u3⟩:=h1.inn s s1 s2;exact⟨u,u1,u2,s3.trans u3⟩⟩
theorem wP.wide {a b c d:Nat}{L M:List Int}(h:wP c d L M)(h1:a≤c)(h2:d≤b):wP a b L M :=
 ⟨h.len,fun t q=>h.out t (by omega),fun t q1 q2=>by
  by_cases hc:c≤t∧t<d
  ·obtain⟨s,s1,s2,s3⟩:=h.inn t hc.1 hc.2;exact⟨s,by omega,by omega,s3⟩
  exact⟨t,q1,q2,h.out t (by omega)⟩⟩
theorem aGW {L:List Int}{a b x y:Nat}(h1:a≤x)(h2:x<b)(h3:a≤y)(h4:y<b)(h5:b≤L.length):wP a b L (oN L x y):=by
 have hx:=JW (L:=L) (x:=x) (y:=y) (by omega) (by omega);refine⟨jP _ _ _,fun t h=>?_,fun t q1 q2=>?_⟩
 ·rw [hx,if_neg (by omega),if_neg (by omega)]
 rw [hx];by_cases e1:t=y
 ·rw [if_pos e1];exact⟨x,h1,h2,rfl⟩
 rw [if_neg e1];by_cases e2:t=x
 ·rw [if_pos e2];exact⟨y,h3,h4,rfl⟩
 rw [if_neg e2];exact⟨t,q1,q2,rfl⟩
theorem Z3 {m k:Nat}{L:List Int}{i j a b:Nat}(h1:1≤i)(h2:1≤j)(h3:i≤m)(h4:m+j≤L.length)(h5:i+j≤k)(h6:a≤m - i)(h7:m+j≤b)(hl:(j9 m k L i j).length=L.length):wP a b L (j9 m k L i j):=by
 have hx:=OD m k L i j h1 h2 h3 h4 h5;refine⟨hl,fun t h=>?_,fun t q1 q2=>?_⟩
 ·rw [hx];by_cases e1:t<m - i
  ·rw [if_pos e1]
  rw [if_neg e1,if_neg (by omega),if_neg (by omega)]
 rw [hx];by_cases e1:t<m - i
 ·rw [if_pos e1];exact⟨t,q1,q2,rfl⟩
 rw [if_neg e1];by_cases e2:t<m - i+j
 ·rw [if_pos e2];exact⟨_,by omega,by omega,rfl⟩
 rw [if_neg e2];by_cases e3:t<m+j
 ·rw [if_pos e3];exact⟨_,by omega,by omega,rfl⟩
 rw [if_neg e3];exact⟨t,q1,q2,rfl⟩
theorem aOq {L:List Int}{a b n:Nat}(h1:a+n<b)(h2:b≤L.length):wP a b L (swU L a n):=by
 have hx:=U0 (L:=L) (a:=a) n (by omega);refine⟨(aE0 L a n (by omega)).len,fun t h=>?_,fun t q1 q2=>?_⟩
 ·rw [hx];by_cases e1:t<a
  ·rw [if_pos e1]
  rw [if_neg e1,if_neg (by omega),if_neg (by omega)]
 rw [hx,if_neg (by omega)];by_cases e2:t<a+n
 ·rw [if_pos e2];exact⟨_,by omega,by omega,rfl⟩
 rw [if_neg e2];by_cases e3:t=a+n
 ·rw [if_pos e3];exact⟨a,by omega,by omega,rfl⟩
 rw [if_neg e3];exact⟨t,q1,q2,rfl⟩
theorem aOk {L:List Int}{a b m n:Nat}(h1:a+n≤m)(h3:m<b)(h2:b≤L.length):wP a b L (swD L m n):=by
 have hx:=UB (L:=L) (m:=m) (by omega) n (by omega);refine⟨(aDc L m (by omega) n).len,fun t h=>?_,fun t q1 q2=>?_⟩
 ·rw [hx];by_cases e1:t<m - n
  ·rw [if_pos e1]
  rw [if_neg e1,if_neg (by omega),if_neg (by omega)]
 rw [hx];by_cases e1:t<m - n
 ·rw [if_pos e1];exact⟨t,q1,q2,rfl⟩
 rw [if_neg e1];by_cases e2:t=m - n
 ·rw [if_pos e2];exact⟨m,by omega,by omega,rfl⟩
 rw [if_neg e2];by_cases e3:t≤m
 ·rw [if_pos e3];exact⟨_,by omega,by omega,rfl⟩
 rw [if_neg e3];exact⟨t,q1,q2,rfl⟩
theorem wU (D:CW):∀ (k:Nat) (L:List Int) (a m b:Nat),a<m→m<b→b≤L.length→wP a b L (fJ D k L a m b)
 |0,L,a,_,b,_,_,_=>.refl a b L
 |k+1,L,a,m,b,h1,h2,h3=>by
  unfold fJ;split
  ·have:=mU (f:=fun h=>!(kE D (aK L h) (aK L a))) (k:=b - m) (i:=m) (j:=b) (by omega);exact aOq (by omega) h3
  split
  ·have:=mU (f:=fun h=>kE D (aK L m) (aK L h)) (k:=m - a) (i:=a) (j:=m) (by omega);exact aOk (by omega) (by omega) h3
  have lo:=zU (D:=D) (L:=L) h1 h2;simp only;generalize stM D L a m b=st at lo;generalize he:(a+b) / 2+m - st=en at *;obtain⟨l1,l2,l3,l4,l5,l6⟩:=lo;have s1:wP a b L (if st<m∧m<en then j9 m (m - st+(en - m)) L (m - st) (en - m) else L):=by
   split
   ·exact Z3 (by omega) (by omega) (by omega) (by omega) (by omega) (by omega) (by omega) (vE _ _ _ _ _ (by omega) (by omega)).len
   exact .refl a b L
  generalize (if st<m∧m<en then j9 m (m - st+(en - m)) L (m - st) (en - m) else L)=L1 at s1;have s2:wP a b L (if a<st∧st<(a+b) / 2 then fJ D k L1 a st ((a+b) / 2) else L1):=by
   split
   ·exact s1.trans ((wU D k L1 _ _ _ (by omega) (by omega) (by have:=s1.len;omega)).wide (by omega) (by omega))
   exact s1
  generalize (if a<st∧st<(a+b) / 2 then fJ D k L1 a st ((a+b) / 2) else L1)=L2 at s2;split
  ·exact s2.trans ((wU D k L2 _ _ _ (by omega) (by omega) (by have:=s2.len;omega)).wide (by omega) (by omega))
  exact s2
def zS (D:CW)(x y:Int):Prop:=kE D y x=false
def So (D:CW)(L:List Int)(a b:Nat):Prop:=∀ i j,a≤i→i<j→j<b→zS D (aK L i) (aK L j)
structure Ord (D:CW) (U:Int→Prop):Prop where
 trans:∀ x y z,U x→U y→U z→zS D x y→zS D y z→zS D x z
 asym:∀ x y,U x→U y→kE D x y=true→zS D x y
def KO (U:Int→Prop)(L:List Int)(a b:Nat):Prop:=∀ i,a≤i→i<b→U (aK L i)
theorem wP.GD {U:Int→Prop}{L M:List Int}{a b:Nat}(h:wP a b L M)(hU:KO U L a b):KO U M a b:=fun i h1 h2=>by
 obtain⟨s,s1,s2,s3⟩:=h.inn i h1 h2;rw [s3];exact hU s s1 s2
theorem So.nar {D:CW}{L:List Int}{a b c d:Nat}(h:So D L a b)(h1:a≤c)(h2:d≤b):So D L c d:=fun i j q1 q2 q3=>h i j (by omega) q2 (by omega)
theorem So.congr {D:CW}{L M:List Int}{a b:Nat}(h:So D L a b)(he:∀ i,a≤i→i<b→aK M i=aK L i):So D M a b:=fun i j q1 q2 q3=>by
 rw [he i q1 (by omega),he j (by omega) q3];exact h i j q1 q2 q3
theorem Ord.aJm {D:CW}{U:Int→Prop}(hO:Ord D U){x y z:Int}(hx:U x)(hy:U y)(hz:U z)(h1:kE D x y=true)(h2:zS D y z):kE D x z=true:=by
 cases h:kE D x z with
 |true=>rfl
 |false =>
  have:zS D y x:=hO.trans y z x hy hz hx h2 h;unfold zS at this;rw [h1] at this;cases this
theorem Ord.aNh {D:CW}{U:Int→Prop}(hO:Ord D U){x y z:Int}(hx:U x)(hy:U y)(hz:U z)(h1:zS D x y)(h2:kE D y z=true):kE D x z=true:=by
 cases h:kE D x z with
 |true=>rfl
 |false =>
  have:zS D z y:=hO.trans z x y hz hx hy h h1;unfold zS at this;rw [h2] at this;cases this
section
variable {D:CW}{U:Int→Prop}
theorem ZC (hO:Ord D U)(a J:Nat):∀ (j:Nat) (L:List Int),a≤j→j≤J→J<L.length→KO U L a (J+1) →
  (∀ p q,a≤p→p<q→q≤J→p≠j→q≠j→zS D (aK L p) (aK L q))→(∀ q,j<q→q≤J→zS D (aK L j) (aK L q))→So D (xQ D a L j) a (J+1)∧wP a (J+1) L (xQ D a L j)
 |0,L,h1,h2,h3,hU,hA,hB=>by
  unfold xQ;refine⟨fun i j q1 q2 q3=>?_,.refl _ _ _⟩;by_cases e:i=0
  ·subst e;exact hB j q2 (by omega)
  exact hA i j q1 q2 (by omega) e (by omega)
 |j+1,L,h1,h2,h3,hU,hA,hB=>by
  unfold xQ;split
  ·rename_i hc;have hs:=JW (L:=L) (x:=j+1) (y:=j) (by omega) (by omega);have hg:wP a (J+1) L (oN L (j+1) j):=aGW (by omega) (by omega) (by omega) (by omega) (by omega);have ih:=ZC hO a J j (oN L (j+1) j) (by omega) (by omega) (by rw [jP];exact h3) (hg.GD hU) ?_ ?_
   ·exact⟨ih.1,hg.trans ih.2⟩
   ·intro p q q1 q2 q3 q4 q5;rw [hs,hs,if_neg q4,if_neg q5];by_cases e1:q=j+1
    ·rw [if_pos e1,if_neg (by omega)];exact hA p j q1 (by omega) (by omega) (by omega) (by omega)
    rw [if_neg e1];by_cases e2:p=j+1
    ·rw [if_pos e2];exact hA j q (by omega) (by omega) q3 (by omega) e1
    rw [if_neg e2];exact hA p q q1 q2 q3 e2 e1
   intro q q1 q2;rw [hs,hs,if_pos rfl,if_neg (by omega)];by_cases e1:q=j+1
   ·rw [if_pos e1];exact hO.asym _ _ (hU _ (by omega) (by omega)) (hU _ (by omega) (by omega)) hc.2
   rw [if_neg e1];exact hB q (by omega) q2
  rename_i hc;refine⟨fun p q q1 q2 q3=>?_,.refl _ _ _⟩;by_cases e1:p=j+1
  ·subst e1;exact hB q q2 (by omega)
  by_cases e2:q=j+1
  ·subst e2;have hle:zS D (aK L j) (aK L (j+1)):=by
    cases hq:kE D (aK L (j+1)) (aK L j) with
    |false=>exact hq
    |true=>exact absurd ⟨by omega,hq⟩ hc
   by_cases e3:p=j
   ·subst e3;exact hle
   exact hO.trans _ _ _ (hU _ q1 (by omega)) (hU _ (by omega) (by omega)) (hU _ (by omega) (by omega)) (hA p j q1 (by omega) (by omega) e1 (by omega)) hle
  exact hA p q q1 q2 (by omega) e1 e2
theorem NX (hO:Ord D U)(a:Nat)(L:List Int):∀ t,a+t<L.length→KO U L a (a+t+1)→So D (kM D a L t) a (a+t+1)∧wP a (a+t+1) L (kM D a L t)
 |0,h,hU=>⟨fun i j q1 q2 q3=>by omega,.refl _ _ _⟩
 |t+1,h,hU=>by
  obtain⟨i1,i2⟩:=NX hO a L t (by omega) fun i q1 q2=>hU i q1 (by omega);unfold kM;have g2:wP a (a+(t+1)+1) L (kM D a L t):=i2.wide (Nat.le_refl _) (by omega);have:=ZC hO a (a+1+t) (a+1+t) (kM D a L t) (by omega) (Nat.le_refl _) (by rw [i2.len];omega) (fun i q1 q2=>g2.GD hU i q1 (by omega)) (fun p q q1 q2 q3 q4 q5=>i1 p q q1 q2 (by omega)) (fun q q1 q2=>by omega);rw [show a+(t+1)+1=a+1+t+1 by omega] at *;exact⟨this.1,g2.trans this.2⟩
theorem NT (hO:Ord D U):∀ (k:Nat) (L:List Int) (a m b:Nat),a<m→m<b→b≤L.length→b - a≤k→KO U L a b→So D L a m→So D L m b→So D (fJ D k L a m b) a b
 |0,L,a,m,b,h1,h2,h3,h4,_,_,_=>by omega
 |k+1,L,a,m,b,h1,h2,h3,h4,hU,sA,sB=>by
  unfold fJ;split
  ·rename_i c1;have lo:=mU (f:=fun h=>!(kE D (aK L h) (aK L a))) (k:=b - m) (i:=m) (j:=b) (by omega);have sp:=S8 (f:=fun h=>!(kE D (aK L h) (aK L a))) (k:=b - m) (i:=m) (j:=b) (Nat.le_refl _) (by
    intro s t q1 q2 q3 q4;have q4:kE D (aK L s) (aK L a)=false:=(by simpa using q4);show (!(kE D (aK L t) (aK L a)))=true;rw [show kE D (aK L t) (aK L a)=false from ?_]
    ·rfl
    by_cases e:s=t
    ·rw [← e];exact q4
    exact hO.trans (aK L a) (aK L s) (aK L t) (hU _ (by omega) (by omega)) (hU _ (by omega) (by omega)) (hU _ (by omega) (by omega)) q4 (sB s t q1 (by omega) q3))
   generalize yK (fun h=>!(kE D (aK L h) (aK L a))) (b - m) m b=r at lo sp ⊢;have hx:=U0 (L:=L) (a:=a) (r - 1 - a) (by omega);have hlow:∀ t,m≤t→t<r→zS D (aK L t) (aK L a):=fun t q1 q2=>by
    have:=sp.1 t q1 q2;simp only [Bool.not_eq_false'] at this;exact hO.asym _ _ (hU _ (by omega) (by omega)) (hU _ (by omega) (by omega)) this
   have hhi:∀ t,r≤t→t<b→zS D (aK L a) (aK L t):=fun t q1 q2=>by
    have:=sp.2 t q1 q2;simp only [Bool.not_eq_true'] at this;exact this
   intro i j q1 q2 q3;rw [hx,hx,if_neg (c:=i<a) (by omega),if_neg (c:=j<a) (by omega)];by_cases e1:i<a+(r - 1 - a)
   ·rw [if_pos e1];by_cases e2:j<a+(r - 1 - a)
    ·rw [if_pos e2];exact sB _ _ (by omega) (by omega) (by omega)
    rw [if_neg e2];by_cases e3:j=a+(r - 1 - a)
    ·rw [if_pos e3];exact hlow _ (by omega) (by omega)
    rw [if_neg e3];exact sB _ _ (by omega) (by omega) (by omega)
   rw [if_neg e1,if_neg (c:=j<a+(r - 1 - a)) (by omega),if_neg (c:=j=a+(r - 1 - a)) (by omega)];by_cases e3:i=a+(r - 1 - a)
   ·rw [if_pos e3];exact hhi _ (by omega) (by omega)
   rw [if_neg e3];exact sB _ _ (by omega) (by omega) (by omega)
  rename_i c1;split
  ·rename_i c2;have lo:=mU (f:=fun h=>kE D (aK L m) (aK L h)) (k:=m - a) (i:=a) (j:=m) (by omega);have sp:=S8 (f:=fun h=>kE D (aK L m) (aK L h)) (k:=m - a) (i:=a) (j:=m) (Nat.le_refl _) (by
    intro s t q1 q2 q3 q4;by_cases e:s=t
    ·rw [← e];exact q4
    exact hO.aJm (hU _ (by omega) (by omega)) (hU _ (by omega) (by omega)) (hU _ (by omega) (by omega)) q4 (sA s t q1 (by omega) q3))
   generalize yK (fun h=>kE D (aK L m) (aK L h)) (m - a) a m=r at lo sp ⊢;have hx:=UB (L:=L) (m:=m) (by omega) (m - r) (by omega);have hlow:∀ t,a≤t→t<r→zS D (aK L t) (aK L m):=fun t q1 q2=>sp.1 t q1 q2;have hhi:∀ t,r≤t→t<m→zS D (aK L m) (aK L t):=fun t q1 q2=>hO.asym _ _ (hU _ (by omega) (by omega)) (hU _ (by omega) (by omega)) (sp.2 t q1 q2);intro i j q1 q2 q3;rw [hx,hx];by_cases e1:i<m - (m - r)
   ·rw [if_pos e1];by_cases e2:j<m - (m - r)
    ·rw [if_pos e2];exact sA _ _ (by omega) (by omega) (by omega)
    rw [if_neg e2];by_cases e3:j=m - (m - r)
    ·rw [if_pos e3];exact hlow _ (by omega) (by omega)
    rw [if_neg e3,if_pos (by omega)];exact sA _ _ (by omega) (by omega) (by omega)
   rw [if_neg e1,if_neg (c:=j<m - (m - r)) (by omega),if_neg (c:=j=m - (m - r)) (by omega),if_pos (c:=j≤m) (by omega)];by_cases e3:i=m - (m - r)
   ·rw [if_pos e3];exact hhi _ (by omega) (by omega)
   rw [if_neg e3,if_pos (by omega)];exact sA _ _ (by omega) (by omega) (by omega)
  rename_i c2;have lo:=zU (D:=D) (L:=L) h1 h2
  -- what the search warrants
  have sp:(∀ c,a≤c→c<stM D L a m b→(a+b) / 2+m - stM D L a m b<b→zS D (aK L c) (aK L ((a+b) / 2+m - stM D L a m b)))∧(stM D L a m b<m→m<(a+b) / 2+m - stM D L a m b→kE D (aK L ((a+b) / 2+m - stM D L a m b - 1)) (aK L (stM D L a m b))=true):=by
   have hmono:∀ lo hi:Nat,a≤lo→(a+b) / 2+m - b≤lo→hi≤m→hi≤(a+b) / 2→∀ s t,lo≤s→s≤t→t<hi→kE D (aK L ((a+b) / 2+m - 1 - s)) (aK L s)=true→kE D (aK L ((a+b) / 2+m - 1 - t)) (aK L t)=true:=by
    intro lo hi g1 g2 g3 g4 s t q1 q2 q3 q4;by_cases e:s=t
    ·rw [← e];exact q4
    have u1:=hO.aJm (hU _ (by omega) (by omega)) (hU _ (by omega) (by omega)) (hU _ (by omega) (by omega)) q4 (sA s t (by omega) (by omega) (by omega));exact hO.aNh (hU _ (by omega) (by omega)) (hU _ (by omega) (by omega)) (hU _ (by omega) (by omega)) (sB ((a+b) / 2+m - 1 - t) ((a+b) / 2+m - 1 - s) (by omega) (by omega) (by omega)) u1
   have key:∀ lo hi st:Nat,a≤lo→(a+b) / 2+m - b≤lo→lo≤hi→hi≤m→hi≤(a+b) / 2→(lo=a∨lo=(a+b) / 2+m - b)→(hi=m∨hi=(a+b) / 2)→st=yK (fun c=>kE D (aK L ((a+b) / 2+m - 1 - c)) (aK L c)) (hi - lo) lo hi →
     (∀ c,a≤c→c<st→(a+b) / 2+m - st<b→zS D (aK L c) (aK L ((a+b) / 2+m - st)))∧(st<m→m<(a+b) / 2+m - st→kE D (aK L ((a+b) / 2+m - st - 1)) (aK L st)=true):=by
    intro lo hi st g1 g2 g3 g4 g5 g6 g7 g8;have l0:=mU (f:=fun c=>kE D (aK L ((a+b) / 2+m - 1 - c)) (aK L c)) (k:=hi - lo) (i:=lo) (j:=hi) g3;have b0:=S8 (f:=fun c=>kE D (aK L ((a+b) / 2+m - 1 - c)) (aK L c)) (k:=hi - lo) (i:=lo) (j:=hi) (Nat.le_refl _) (hmono lo hi g1 g2 g4 g5);rw [← g8] at l0 b0;refine⟨fun c q1 q2 q3=>?_,fun q1 q2=>?_⟩
    ·have u:=b0.1 (st - 1) (by omega) (by omega);have u:kE D (aK L ((a+b) / 2+m - 1 - (st - 1))) (aK L (st - 1))=false:=u;rw [show (a+b) / 2+m - 1 - (st - 1)=(a+b) / 2+m - st by omega] at u;by_cases e:c=st - 1
     ·rw [e];exact u
     exact hO.trans _ (aK L (st - 1)) _ (hU _ (by omega) (by omega)) (hU _ (by omega) (by omega)) (hU _ (by omega) (by omega)) (sA c (st - 1) q1 (by omega) (by omega)) u
    have u:=b0.2 st (Nat.le_refl _) (by omega);have u:kE D (aK L ((a+b) / 2+m - 1 - st)) (aK L st)=true:=u;rw [show (a+b) / 2+m - 1 - st=(a+b) / 2+m - st - 1 by omega] at u;exact u
   by_cases hc:(a+b) / 2<m
   ·exact key ((a+b) / 2+m - b) ((a+b) / 2) _ (by omega) (Nat.le_refl _) (by omega) (by omega) (Nat.le_refl _) (.inr rfl) (.inr rfl) (by unfold stM;simp only [if_pos hc])
   exact key a m _ (Nat.le_refl _) (by omega) (by omega) (Nat.le_refl _) (by omega) (.inl rfl) (.inl rfl) (by unfold stM;simp only [if_neg hc])
  simp only;generalize stM D L a m b=st at lo sp;generalize he:(a+b) / 2+m - st=en at *;obtain⟨l1,l2,l3,l4,l5,l6⟩:=lo;generalize hmid:(a+b) / 2=mid at *;have hlen1:(if st<m∧m<en then j9 m (m - st+(en - m)) L (m - st) (en - m) else L).length=L.length:=by
   split
   ·exact (vE _ _ _ _ _ (by omega) (by omega)).len
   rfl
  have v1:∀ t,aK (if st<m∧m<en then j9 m (m - st+(en - m)) L (m - st) (en - m) else L) t=if t<st then aK L t else if t<mid then aK L (t - st+m) else if t<en then aK L (t - (mid - st)) else aK L t:=by
   intro t;split
   ·rename_i hc;rw [OD m _ L (m - st) (en - m) (by omega) (by omega) (by omega) (by omega) (Nat.le_refl _) t];rw [show m - (m - st)=st by omega,show st+(en - m)=mid by omega,show m+(en - m)=en by omega,show en - m=mid - st by omega]
   rename_i hc;by_cases e1:t<st
   ·rw [if_pos e1]
   rw [if_neg e1];by_cases e2:t<mid
   ·rw [if_pos e2,show t - st+m=t by omega]
   rw [if_neg e2];by_cases e3:t<en
   ·rw [if_pos e3,show t - (mid - st)=t by omega]
   rw [if_neg e3]
  have s1:wP a b L (if st<m∧m<en then j9 m (m - st+(en - m)) L (m - st) (en - m) else L):=by
   split
   ·exact Z3 (by omega) (by omega) (by omega) (by omega) (by omega) (by omega) (by omega) (vE _ _ _ _ _ (by omega) (by omega)).len
   exact .refl a b L
  generalize (if st<m∧m<en then j9 m (m - st+(en - m)) L (m - st) (en - m) else L)=L1 at s1 hlen1 v1;have U1:=s1.GD hU
  -- both halves,and what lies between them
  have cross:∀ i j,a≤i→i<mid→mid≤j→j<b→zS D (aK L1 i) (aK L1 j):=by
   intro i j q1 q2 q3 q4;have hij:∀ x y,a≤x→x<m→m≤y→y<b→x<st→en≤y→zS D (aK L x) (aK L y):=by
    intro x y z1 z2 z3 z4 z5 z6;by_cases e:y=en
    ·rw [e];exact sp.1 x z1 z5 (by omega)
    exact hO.trans _ (aK L en) _ (hU _ z1 (by omega)) (hU _ (by omega) (by omega)) (hU _ (by omega) z4) (sp.1 x z1 z5 (by omega)) (sB en y (by omega) (by omega) z4)
   have hji:∀ y x,m≤y→y<en→st≤x→x<m→zS D (aK L y) (aK L x):=by
    intro y x z1 z2 z3 z4;have u:=hO.asym _ _ (hU _ (by omega) (by omega)) (hU _ (by omega) (by omega)) (sp.2 (by omega) (by omega));have u1:zS D (aK L y) (aK L st):=by
     by_cases e:y=en - 1
     ·rw [e];exact u
     exact hO.trans _ (aK L (en - 1)) _ (hU _ (by omega) (by omega)) (hU _ (by omega) (by omega)) (hU _ (by omega) (by omega)) (sB y (en - 1) z1 (by omega) (by omega)) u
    by_cases e:x=st
    ·rw [e];exact u1
    exact hO.trans _ (aK L st) _ (hU _ (by omega) (by omega)) (hU _ (by omega) (by omega)) (hU _ (by omega) (by omega)) u1 (sA st x (by omega) (by omega) z4)
   rw [v1,v1,if_neg (c:=j<st) (by omega),if_neg (c:=j<mid) (by omega)];by_cases e1:i<st
   ·rw [if_pos e1];by_cases e2:j<en
    ·rw [if_pos e2];exact sA _ _ q1 (by omega) (by omega)
    rw [if_neg e2];exact hij i j q1 (by omega) (by omega) q4 e1 (by omega)
   rw [if_neg e1,if_pos q2];by_cases e2:j<en
   ·rw [if_pos e2];exact hji _ _ (by omega) (by omega) (by omega) (by omega)
   rw [if_neg e2];exact sB _ _ (by omega) (by omega) q4
  have p1:So D L1 a st:=sA.nar (Nat.le_refl _) l2 |>.congr fun i q1 q2=>by rw [v1,if_pos q2]
  have p2:So D L1 st mid:=fun i j q1 q2 q3=>by
   rw [v1,v1,if_neg (c:=i<st) (by omega),if_neg (c:=j<st) (by omega),if_pos (c:=i<mid) (by omega),if_pos (c:=j<mid) q3];exact sB _ _ (by omega) (by omega) (by omega)
  have p3:So D L1 mid en:=fun i j q1 q2 q3=>by
   rw [v1,v1,if_neg (c:=i<st) (by omega),if_neg (c:=i<mid) (by omega),if_neg (c:=j<st) (by omega),if_neg (c:=j<mid) (by omega),if_pos (c:=i<en) (by omega),if_pos (c:=j<en) q3];exact sA _ _ (by omega) (by omega) (by omega)
  have p4:So D L1 en b:=sB.nar l4 (Nat.le_refl _) |>.congr fun i q1 q2=>by rw [v1,if_neg (by omega),if_neg (by omega),if_neg (by omega)]
  have w2:wP a mid L1 (if a<st∧st<mid then fJ D k L1 a st mid else L1)∧So D (if a<st∧st<mid then fJ D k L1 a st mid else L1) a mid:=by
   split
   ·exact⟨wU D k L1 _ _ _ (by omega) (by omega) (by omega),NT hO k L1 a st mid (by omega) (by omega) (by omega) (by omega) (fun i q1 q2=>U1 i q1 (by omega)) p1 p2⟩
   refine⟨.refl _ _ _,?_⟩;by_cases e:a<st
   ·rw [show mid=st by omega];exact p1
   rw [show a=st by omega];exact p2
  generalize (if a<st∧st<mid then fJ D k L1 a st mid else L1)=L2 at w2;obtain⟨g2,o2⟩:=w2;have w3:wP mid b L2 (if mid<en∧en<b then fJ D k L2 mid en b else L2)∧So D (if mid<en∧en<b then fJ D k L2 mid en b else L2) mid b:=by
   have p3':So D L2 mid en:=p3.congr fun i q1 q2=>g2.out i (by omega);have p4':So D L2 en b:=p4.congr fun i q1 q2=>g2.out i (by omega);have hl2:=g2.len;split
   ·exact⟨wU D k L2 _ _ _ (by omega) (by omega) (by omega),NT hO k L2 mid en b (by omega) (by omega) (by omega) (by omega) (fun i q1 q2=>by rw [g2.out i (by omega)];exact U1 i (by omega) q2) p3' p4'⟩
   refine⟨.refl _ _ _,?_⟩;by_cases e:mid<en
   ·rw [show b=en by omega];exact p3'
   rw [show mid=en by omega];exact p4'
  generalize (if mid<en∧en<b then fJ D k L2 mid en b else L2)=L3 at w3;obtain⟨g3,o3⟩:=w3;intro i j q1 q2 q3;by_cases e1:j<mid
  ·rw [g3.out i (by omega),g3.out j (by omega)];exact o2 i j q1 q2 e1
  by_cases e2:mid≤i
  ·exact o3 i j e2 q2 q3
  rw [g3.out i (by omega)];obtain⟨s,z1,z2,z3⟩:=g2.inn i q1 (by omega);obtain⟨u,y1,y2,y3⟩:=g3.inn j (by omega) q3;rw [z3,y3,g2.out u (by omega)];exact cross s u z1 z2 y1 y2
end
theorem aFw {L:List Int}{x y:Nat}(hx:x<L.length)(hy:y<L.length):(oN L x y).Perm L:=by
 unfold oN;rw [cX hx,cX hy];exact List.set_set_perm hx hy
theorem Sw.perm {L M:List Int}(h:Sw L M):M.Perm L:=by
 induction h with
 |refl=>exact .refl _
 |step x y _ hx hy ih=>exact (aFw hx hy).trans ih
inductive Bl (D:CW) (L:List Int) (bs n:Nat):Nat→Prop where
 |fin (a:Nat):n≤a→Bl D L bs n a
 |step (a:Nat):So D L a (min (a+bs) n)→Bl D L bs n (a+bs)→Bl D L bs n a
inductive Bp (D:CW) (L:List Int) (bs:Nat):Nat→Prop where
 |zero:Bp D L bs 0
 |step (a:Nat):Bp D L bs a→So D L a (a+bs)→Bp D L bs (a+bs)
section
variable {D:CW}{U:Int→Prop}{L M:List Int}{bs n a:Nat}
theorem Bl.congr (h:Bl D L bs n a)(he:∀ i,a≤i→aK M i=aK L i):Bl D M bs n a:=by
 induction h with
 |fin a h=>exact .fin a h
 |step a h1 h2 ih=>exact .step a (h1.congr fun i q1 q2=>he i q1) (ih fun i q=>he i (by omega))
theorem Bp.congr (h:Bp D L bs a)(he:∀ i,i<a→aK M i=aK L i):Bp D M bs a:=by
 induction h with
 |zero=>exact .zero
 |step a h1 h2 ih=>exact .step a (ih fun i q=>he i (by omega)) (h2.congr fun i q1 q2=>he i q2)
theorem Bp.join (h:Bp D L bs a):Bl D L bs n a→Bl D L bs n 0:=by
 induction h with
 |zero=>exact id
 |step a h1 h2 ih=>exact fun h=>ih (.step a (h2.nar (Nat.le_refl _) (Nat.min_le_left _ _)) h)
theorem Bl.head (h:Bl D L bs n a):So D L a (min (a+bs) n):=by
 cases h with
 |fin _ h=>exact fun i j q1 q2 q3=>by omega
 |step _ h1 h2=>exact h1
theorem Bl.tail (h:Bl D L bs n a):Bl D L bs n (a+bs):=by
 cases h with
 |fin _ h=>exact .fin _ (by omega)
 |step _ h1 h2=>exact h2
theorem wP.low {b:Nat}(h:wP a b L M)(i:Nat)(hi:i<a):aK M i=aK L i:=h.out i (.inl hi)
theorem wP.high {b:Nat}(h:wP a b L M)(i:Nat)(hi:b≤i):aK M i=aK L i:=h.out i (.inr hi)
theorem aAi (hO:Ord D U):∀ (k:Nat) (L:List Int) (a:Nat),n=L.length→KO U L 0 n→a≤n→n+1 - a≤k→Bp D L 20 a →
  (qK D n k L a).2≤n∧n<(qK D n k L a).2+20∧Bp D (qK D n k L a).1 20 (qK D n k L a).2∧wP 0 n L (qK D n k L a).1∧Sw L (qK D n k L a).1
 |0,L,a,hn,hU,ha,hk,hB=>by omega
 |k+1,L,a,hn,hU,ha,hk,hB=>by
  unfold qK;split
  ·rename_i hc;have h1:=NX hO a L 19 (by omega) (fun i q1 q2=>hU i (by omega) (by omega));have e:a+20 - 1 - a=19:=(by omega);rw [e];have g:=h1.2.wide (a:=0) (b:=n) (by omega) (by omega);have ih:=aAi hO k (kM D a L 19) (a+20) (by rw [h1.2.len];exact hn) (g.GD hU) hc (by omega) (.step a (hB.congr fun i q=>h1.2.low i q) h1.1);exact⟨ih.1,ih.2.1,ih.2.2.1,g.trans ih.2.2.2.1,(NL D a L 19 (by omega)).trans ih.2.2.2.2⟩
  exact⟨ha,by omega,hB,.refl _ _ _,.refl _⟩
theorem YG (hO:Ord D U){f:Nat}(hf:n≤f)(hb:1≤bs):∀ (k:Nat) (L:List Int) (a:Nat),n=L.length→KO U L 0 n→a≤n→n+1 - a≤k→Bp D L (2*bs) a→Bl D L bs n a →
  (uF D f n bs k L a).2≤n∧n<(uF D f n bs k L a).2+2*bs∧Bp D (uF D f n bs k L a).1 (2*bs) (uF D f n bs k L a).2∧Bl D (uF D f n bs k L a).1 bs n (uF D f n bs k L a).2∧wP 0 n L (uF D f n bs k L a).1∧Sw L (uF D f n bs k L a).1
 |0,L,a,hn,hU,ha,hk,hB,hC=>by omega
 |k+1,L,a,hn,hU,ha,hk,hB,hC=>by
  unfold uF;split
  ·rename_i hc;have s1:=hC.head;have s2:=hC.tail.head;have g1:=wU D f L a (a+bs) (a+2*bs) (by omega) (by omega) (by omega);have o1:=NT hO f L a (a+bs) (a+2*bs) (by omega) (by omega) (by omega) (by omega) (fun i q1 q2=>hU i (by omega) (by omega)) (s1.nar (Nat.le_refl _) (by omega)) (s2.nar (Nat.le_refl _) (by omega));have w1:=wC D f L a (a+bs) (a+2*bs) (by omega) (by omega) (by omega);generalize fJ D f L a (a+bs) (a+2*bs)=L1 at g1 o1 w1;have g:=g1.wide (a:=0) (b:=n) (by omega) (by omega);have ht:=hC.tail.tail;rw [show a+bs+bs=a+2*bs by omega] at ht;have ih:=YG hO hf hb k L1 (a+2*bs) (by rw [g1.len];exact hn) (g.GD hU) hc (by omega) (.step a (hB.congr fun i q=>g1.low i q) o1) (ht.congr fun i q=>g1.high i q);exact⟨ih.1,ih.2.1,ih.2.2.1,ih.2.2.2.1,g.trans ih.2.2.2.2.1,w1.trans ih.2.2.2.2.2⟩
  exact⟨ha,by omega,hB,hC,.refl _ _ _,.refl _⟩
theorem aHT (hO:Ord D U){f:Nat}(hf:n≤f)(hb:1≤bs){L:List Int}{a:Nat}(hn:n=L.length)(hU:KO U L 0 n)(ha:a≤n)(hn2:n<a+2*bs)(hB:Bp D L (2*bs) a)(hC:Bl D L bs n a) :
  Bl D (yL D f n bs (L,a)) (2*bs) n 0∧wP 0 n L (yL D f n bs (L,a))∧Sw L (yL D f n bs (L,a)):=by
 unfold yL;split
 ·rename_i hc;simp only at hc;have s1:=hC.head;have s2:=hC.tail.head;have g1:=wU D f L a (a+bs) n (by omega) (by omega) (by omega);have o1:=NT hO f L a (a+bs) n (by omega) (by omega) (by omega) (by omega) (fun i q1 q2=>hU i (by omega) (by omega)) (s1.nar (Nat.le_refl _) (by omega)) (s2.nar (Nat.le_refl _) (by omega));have w1:=wC D f L a (a+bs) n (by omega) (by omega) (by omega);generalize fJ D f L a (a+bs) n=L1 at g1 o1 w1;exact⟨(hB.congr fun i q=>g1.low i q).join (.step a (o1.nar (Nat.le_refl _) (Nat.min_le_right _ _)) (.fin _ (by omega))),g1.wide (by omega) (Nat.le_refl _),w1⟩
 rename_i hc;simp only at hc;exact⟨hB.join (.step a (hC.head.nar (Nat.le_refl _) (by omega)) (.fin _ (by omega))),.refl _ _ _,.refl _⟩
theorem ZX (hO:Ord D U){f:Nat}(hf:n≤f):∀ (k:Nat) (L:List Int) (bs:Nat),1≤bs→n≤bs+k→n=L.length→KO U L 0 n→Bl D L bs n 0→So D (JA D f n k L bs) 0 n∧wP 0 n L (JA D f n k L bs)∧Sw L (JA D f n k L bs)
 |0,L,bs,hb,hk,hn,hU,hB=>⟨hB.head.nar (Nat.le_refl _) (by omega),.refl _ _ _,.refl _⟩
 |k+1,L,bs,hb,hk,hn,hU,hB=>by
  unfold JA;split
  ·have h1:=YG hO hf hb (n+1) L 0 hn hU (Nat.zero_le _) (by omega) .zero hB;generalize uF D f n bs (n+1) L 0=r at h1;obtain⟨L1,a⟩:=r;obtain⟨p1,p2,p3,p4,p5,p6⟩:=h1;have h2:=aHT hO hf hb (by rw [p5.len];exact hn) (p5.GD hU) p1 p2 p3 p4;obtain⟨r1,r2,r3⟩:=h2;rw [show bs*2=2*bs by omega];have ih:=ZX hO hf k (yL D f n bs (L1,a)) (2*bs) (by omega) (by omega) (by rw [r2.len,p5.len];exact hn) (r2.GD (p5.GD hU)) r1;exact⟨ih.1,(p5.trans r2).trans ih.2.1,(p6.trans r3).trans ih.2.2⟩
  exact⟨hB.head.nar (Nat.le_refl _) (by omega),.refl _ _ _,.refl _⟩
theorem aA0 (hO:Ord D U){f:Nat}{L:List Int}(hf:L.length≤f)(hU:KO U L 0 L.length):So D (pP D f L) 0 L.length∧(pP D f L).Perm L:=by
 unfold pP;have h1:=aAi hO (L.length+1) L 0 rfl hU (Nat.zero_le _) (by omega) .zero;generalize qK D L.length (L.length+1) L 0=r at h1;obtain⟨L1,a⟩:=r;obtain⟨p1,p2,p3,p4,p5⟩:=h1;simp only at *;have h2:So D (kM D a L1 (L.length - 1 - a)) a L.length∧wP a L.length L1 (kM D a L1 (L.length - 1 - a))∧Sw L1 (kM D a L1 (L.length - 1 - a)):=by
  by_cases e:a=L.length
  ·rw [show L.length - 1 - a=0 by omega];exact⟨fun i j q1 q2 q3=>by omega,.refl _ _ _,.refl _⟩
  have:=NX hO a L1 (L.length - 1 - a) (by rw [p4.len];omega) (fun i q1 q2=>p4.GD hU i (by omega) (by omega));rw [show a+(L.length - 1 - a)+1=L.length by omega] at this;exact⟨this.1,this.2,NL D a L1 _ (by rw [p4.len];omega)⟩
 generalize kM D a L1 (L.length - 1 - a)=L2 at h2;obtain⟨o2,g2,w2⟩:=h2
 have h3:=ZX hO hf (L.length+1) L2 20 (by omega) (by omega) (by rw [g2.len,p4.len]) ((g2.wide (Nat.zero_le _) (Nat.le_refl _)).GD (p4.GD hU))
  ((p3.congr fun i q=>g2.low i q).join (.step a (o2.nar (Nat.le_refl _) (Nat.min_le_right _ _)) (.fin _ (by omega))))
 exact⟨h3.1,((p5.trans w2).trans h3.2.2).perm⟩
end
end Go.Aw
end
