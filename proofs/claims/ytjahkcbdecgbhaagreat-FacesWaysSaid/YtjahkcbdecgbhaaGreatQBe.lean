/-
  Parts of a proof. No condition.
-/
import Derived.Test.YtjahkcbdecgbhaaGreatQBd
set_option linter.unusedSimpArgs false
set_option linter.unusedVariables false
noncomputable section
namespace Go.Aw
set_option maxRecDepth 100000
set_option maxHeartbeats 2000000
def fB (D:List Dt)(ls:List (List Int)):List Bool:=DW D ls 1000 (List.replicate ls.length false) 0
def cnS (l:List Pt)(D:List Dt)(ls:List (List Int)):List Value→Option (Bool × Value)
 |[]=>some (IB l D ls&&Z1 D ls&&decide (1≤ls.length),.bool ((fB D ls).all id))
 |_=>none
def U4:Nat × XF:=(154,wbX cnS)
theorem aKo:cT Go.Proofs.Tryz.prog U4.1 U4.2:=S5 (f:=154) (s:=cnS) (aL (xl:=[(211,aHR 1000),VD]) (.cons (aGu 1000) (.cons aG4 .nil))) fun l D ls r v hs=>by
 have:r=[]∧IB l D ls=true∧Z1 D ls=true∧1≤ls.length∧v=.bool ((fB D ls).all id):=by
  unfold cnS at hs;split at hs
  ·injection hs with hs;injection hs with h1 h2;simp only [Bool.and_eq_true,decide_eq_true_eq] at h1;exact⟨rfl,h1.1.1,h1.1.2,h1.2,h2.symm⟩
  ·cases hs
 obtain⟨rfl,h1,h2,h3,rfl⟩:=this;clear hs;have hn:=JT h1;refine⟨rfl,rfl,by omega,ls.length,fun nE c1 c2 n fo=>?_⟩;unfold gP EC;rw [lS (Nat.le_refl _)];((conv=>whnf);apply bm<;>intro g1);rotate_left
 ·exfalso;simp [aA,aC,aF] at g1;omega
 ((conv=>whnf);apply bm<;>intro g);rotate_left
 ·exfalso;have g:decide ((0:Int)<(ls.length:Int))=false:=g;simp only [decide_eq_false_iff_not] at g;omega
 (conv=>whnf);refine⟨⟨0,l,D,ls,nE,c1,c2,n,fo,List.replicate ls.length false⟩,⟨h1,h2,Int.le_refl 0,?_,List.length_replicate,?_,?_⟩,rfl,?_,rfl,?_⟩
 ·show (0:Int)<(ls.length:Int);omega
 ·show dD (List.replicate ls.length false) 0=false;unfold dD;rw [List.getD_eq_getElem?_getD,List.getElem?_replicate];split <;> rfl
 ·have:gO (List.replicate ls.length false)≤(List.replicate ls.length false).length:=List.countP_le_length;rw [List.length_replicate] at this;show gO (List.replicate ls.length false)≤1000;omega
 ·show _=sO _ (List.replicate ls.length false);unfold sO gP EC;simp only;rw [lS (Nat.le_refl _),← TT];rfl
 (conv=>whnf);have hrl:(fB D ls).length=ls.length:=by
  unfold fB;rw [(H7 D ls 1000 _ 0).2,List.length_replicate]
 refine⟨fB D ls,⟨hrl.symm,_,_,_,_,rfl,by rw [List.drop_zero];exact List.take_length⟩,?_⟩;rw [show ctS (fB D ls) ([Value.bool false].append #[].toList)=some (true,.bool (!((fB D ls).all id))) from by
  show some (decide ((fB D ls).length≤1000000),Value.bool (!((fB D ls).all id)))=_;rw [decide_eq_true (by omega)]]
 refine aM rfl ?_;(conv=>whnf);show Value.bool (!(!((fB D ls).all id)))=_;rw [Bool.not_not]
theorem aQ {b n0 nx:Nat}{I:KS}{e0 e:List (Nat × Value)}{P W h:Heap}(L:List (Nat × Nat))(hI:I e0 (P++W) n0)(he:∀ p∈e0,look e p.1=some (jX (rn L) p.2)∧C3 n0 p.2)(hW:∀ k o,look W k=some o→k<b∧bQ id b o o)(hk:∀ k o,look W k=some o→look h k=some o)
  (hP:∀ p∈P,((b≤p.1∧p.1<n0∧b≤rn L p.1)∨p.1<b)∧∃ o',look h (rn L p.1)=some o'∧bQ (rn L) n0 p.2 o') (hi:∀ k∈P.map Prod.fst,∀ k'∈P.map Prod.fst,rn L k=rn L k'→k=k') (hL:∀ p∈L,b≤p.1) (hb:b≤n0):rM b I e h nx:=by
 have hfix:∀ k,k<b→rn L k=k:=fun k hk=>by
  unfold rn;split
  ·rename_i q hq;have:=hL _ (bF hq);simp only at this;omega
  rfl
 refine⟨e0,P++W,n0,rn L,hI,fun t v hv=>he (t,v) (bF hv),fun k o hk'=>?_,fun k k' o o' h1 h2 e=>?_,hfix,hb⟩
 ·rcases qC hk' with hm|hm
  ·obtain⟨a1,a2⟩:=hP _ hm;simp only at a1;exact⟨by omega,a2⟩
  obtain⟨a1,a2⟩:=hW k o hm;exact⟨by omega,o,by rw [hfix k a1];exact hk k o hm,rW hfix hb a2⟩
 ·rcases qC h1 with m1|m1 <;> rcases qC h2 with m2|m2
  ·exact hi k (List.mem_map.2 ⟨_,m1,rfl⟩) k' (List.mem_map.2 ⟨_,m2,rfl⟩) e
  ·have:=(hP _ m1).1;have b2:=(hW _ _ m2).1;simp only at this;rw [hfix k' b2] at e;rcases this with this|this
   ·omega
   rw [hfix k this] at e;exact e
  ·have:=(hP _ m2).1;have b2:=(hW _ _ m1).1;simp only at this;rw [hfix k b2] at e;rcases this with this|this
   ·omega
   rw [hfix k' this] at e;exact e
  rwa [hfix k (hW _ _ m1).1,hfix k' (hW _ _ m2).1] at e
structure RL where
 face:List Int
 seen:List Bool
 many:Int
 out:Int
 flat:Bool
def fW (s:List Bool)(w:List Int):Nat→List Bool
 |0=>s
 |i+1=>(fW s w i).set (aD w i).toNat true
theorem kO (s:List Bool)(w:List Int):∀ i,(fW s w i).length=s.length
 |0=>rfl
 |i+1=>by unfold fW;rw [List.length_set];exact kO s w i
def lG (l:List Pt)(D:List Dt)(ls:List (List Int))(s:RL)(d:Nat):RL :=
 if dD s.seen d=true then s else
  let w:=wO D ls d;let a:=IN l D w w.length;let fc:=if 0<a then s.many+1 else 0
  ⟨dW s.face w fc w.length,fW s.seen w w.length,if 0<a then s.many+1 else s.many,if 0<a then s.out else if a<0 then s.out+1 else s.out,if 0<a then s.flat else if a<0 then s.flat else true⟩
def cK (l:List Pt)(D:List Dt)(ls:List (List Int)):Nat→RL
 |0=>⟨List.replicate D.length 0,List.replicate D.length false,0,0,false⟩
 |d+1=>lG l D ls (cK l D ls d) d
def nmD (l:List Pt)(D:List Dt)(ls:List (List Int)):RL:=cK l D ls D.length
def BY (s:RL):Bool:=decide (s.out=1)&&!s.flat
theorem vO (l:List Pt)(D:List Dt)(ls:List (List Int)):∀ d,(cK l D ls d).face.length=D.length∧(cK l D ls d).seen.length=D.length∧0≤(cK l D ls d).many∧(cK l D ls d).many≤d∧0≤(cK l D ls d).out∧(cK l D ls d).out≤d
 |0=>by unfold cK;simp
 |d+1=>by
  obtain⟨h1,h2,h3,h4,h5,h6⟩:=vO l D ls d;unfold cK lG;split
  ·refine⟨h1,h2,h3,?_,h5,?_⟩ <;> omega
  simp only [fE,kO];refine⟨h1,h2,?_,?_,?_,?_⟩
  ·split <;> omega
  ·split <;> omega
  ·split
   ·omega
   split <;> omega
  split
  ·omega
  split <;> omega
def aBR (D:List Dt)(ls:List (List Int)):Bool:=(List.range D.length).all fun d=>decide (pX D ls d (pG D ls d)=d)
structure WbR (R:Heap) (k0 kd kt:Nat) (nm:Nat→Nat) (l:List Pt) (D:List Dt) (ls:List (List Int)):Prop where
 pt:∃ wr g sz cs,look R k0=some (.cells wr g sz cs)∧cs.take (flat aT.fl l).length=flat aT.fl l
 da:∃ wr g sz cs,look R kd=some (.cells wr g sz cs)∧cs.take (flat sH.fl D).length=flat sH.fl D
 tb:∃ wr g sz,look R kt=some (.cells wr g sz ((List.range ls.length).map fun i=>tV (nm i) (bR ls i)))
 li:∀ i,i<ls.length→(bR ls i).length≠0→∃ wr g sz cs,look R (nm i)=some (.cells wr g sz cs)∧cs.take (flat aP.fl (bR ls i)).length=flat aP.fl (bR ls i)
theorem WbR.at {R h:Heap}{p k0 k1 kd kt kf:Nat}{nm:Nat→Nat}{l:List Pt}{D:List Dt}{ls:List (List Int)}{nE c1 c2:Nat}{n:Int}{fo:Option (Nat × Nat)}(hw:WbR R k0 kd kt nm l D ls)(hx:∀ k o,look R k=some o→look h k=some o){wr g:Bool}{sz:Nat}
  (hs:look h p=some (.cells wr g sz (EC k0 k1 kd kt kf l.length nE D.length ls.length c1 c2 n fo))):zH h p k0 k1 kd kt kf nm l D ls nE c1 c2 n fo:=by
 obtain⟨⟨w1,g1,s1,x1,a1,b1⟩,⟨w2,g2,s2,x2,a2,b2⟩,⟨w3,g3,s3,a3⟩,h4⟩:=hw;refine⟨⟨_,_,_,hs⟩,⟨_,_,_,_,hx _ _ a1,b1⟩,⟨_,_,_,_,hx _ _ a2,b2⟩,⟨_,_,_,hx _ _ a3⟩,fun i hi h0=>?_⟩;obtain⟨w5,g5,s5,x5,a5,b5⟩:=h4 i hi h0;exact⟨_,_,_,_,hx _ _ a5,b5⟩
structure OC where
 R:Heap
 k0:Nat
 k1:Nat
 kd:Nat
 kt:Nat
 nm:Nat→Nat
 l:List Pt
 D:List Dt
 ls:List (List Int)
 nE:Nat
 c1:Nat
 c2:Nat
 n:Int
def aGp (a:OC):Prop:=wJ a.l a.D a.ls=true∧aBR a.D a.ls=true∧zT a.R 2003∧look a.R 7=none∧WbR a.R a.k0 a.kd a.kt a.nm a.l a.D a.ls∧(a.k0<2003∧a.k1<2003∧a.kd<2003∧a.kt<2003)
def RM (a:OC)(fv:Value):a8:=.cells true false 1 [.slice (some ⟨a.k0,0,none⟩) a.l.length a.c1,.slice (some ⟨a.k1,0,none⟩) a.nE a.c2,iv a.n,.slice (some ⟨a.kd,0,none⟩) a.D.length a.D.length,.slice (some ⟨a.kt,0,none⟩) a.ls.length a.ls.length,fv]
def QT (a:OC):Heap:=(7,RM a (.slice (some ⟨2003,0,none⟩) a.D.length a.D.length))::(2003,.cells true false 1 (flat aP.fl (nmD a.l a.D a.ls).face))::a.R
def aIf:XF:=dX aGp (fun _=>[.pointer (some ⟨7,0,none⟩)]) (fun a=>(7,RM a aR)::a.R) (fun _=>2003) (fun a=>.tuple #[iv (nmD a.l a.D a.ls).many,.bool (BY (nmD a.l a.D a.ls))])
 QT (fun _=>2004)
def oM (N:Nat)(s:RL)(j:Int):List (Nat × Value):=[(0,.pointer (some ⟨7,0,none⟩)),(4,.slice (some ⟨2004,0,none⟩) N N),(5,iv s.many),(6,iv s.out),(7,.bool s.flat),(33,iv N),(34,iv j)]
def oL (a:OC)(s:RL):Heap:=[(7,RM a (.slice (some ⟨2003,0,none⟩) a.D.length a.D.length)),(2003,.cells true false 1 (flat aP.fl s.face)),(2004,.cells true false 1 (flat gI.fl s.seen))]
def lD (N:Nat)(s:RL)(j fc:Int)(n:Nat)(x:Int):List (Nat × Value):=(11,iv fc)::(58,.slice (some ⟨2005,0,none⟩) n n)::(59,iv n)::(60,iv x)::oM N s j
theorem HE {s:List Bool}{w:List Int}{t o:Nat}(ho:o=(aD w t).toNat*1)(hi:(aD w t).toNat<s.length):cN (flat gI.fl (fW s w t)) o [.bool true]=flat gI.fl (fW s w (t+1)):=by
 rw [ho,AR _ _ _ (by rw [kO];exact hi)];rfl
theorem BV {a:OC}(h6:a.k0<2003∧a.k1<2003∧a.kd<2003∧a.kt<2003){h:Heap}{s:RL}{n0:Nat}(hn:2005≤n0)(x1:look h 7=some (RM a (.slice (some ⟨2003,0,none⟩) a.D.length a.D.length)))(x2:look h 2003=some (.cells true false 1 (flat aP.fl s.face)))(x3:look h 2004=some (.cells true false 1 (flat gI.fl s.seen))) :
  ∀ p∈oL a s,((2003≤p.1∧p.1<n0∧2003≤rn [] p.1)∨p.1<2003)∧∃ o',look h (rn [] p.1)=some o'∧bQ (rn []) n0 p.2 o':=by
 have hsl:∀ {q a b:Nat},q<2004→DN n0 (.slice (some ⟨q,0,none⟩) a b):=fun {q a b} hq=>⟨show q<n0 by omega,fun h=>by cases h⟩;unfold oL;refine List.forall_mem_cons.2 ⟨⟨.inr (by omega),_,x1,rfl,rfl,rfl,rfl,?_⟩,List.forall_mem_cons.2 ⟨⟨.inl ⟨Nat.le_refl _,by show 2003<n0;omega,Nat.le_refl _⟩,_,x2,aN (aH _ _)⟩,List.forall_mem_cons.2 ⟨⟨.inl ⟨by omega,by show 2004<n0;omega,by show 2003≤2004;omega⟩,_,x3,aN (aH _ _)⟩,fun _ h=>(by cases h)⟩⟩⟩;exact List.forall_mem_cons.2 ⟨hsl (by omega),List.forall_mem_cons.2 ⟨hsl (by omega),List.forall_mem_cons.2 ⟨cX rfl,List.forall_mem_cons.2 ⟨hsl (by omega),List.forall_mem_cons.2 ⟨hsl (by omega),List.forall_mem_cons.2 ⟨hsl (by omega),fun _ h=>(by cases h)⟩⟩⟩⟩⟩⟩
theorem BD {a:OC}(h6:a.k0<2003∧a.k1<2003∧a.kd<2003∧a.kt<2003){h:Heap}{s:RL}{w:List Int}(x1:look h 7=some (RM a (.slice (some ⟨2003,0,none⟩) a.D.length a.D.length)))(x2:look h 2003=some (.cells true false 1 (flat aP.fl s.face)))(x3:look h 2004=some (.cells true false 1 (flat gI.fl s.seen)))
  (x4:look h 2005=some (.cells true false 1 (flat aP.fl w))):∀ p∈oL a s++[(2005,.cells true false 1 (flat aP.fl w))],((2003≤p.1∧p.1<2006∧2003≤rn [] p.1)∨p.1<2003)∧∃ o',look h (rn [] p.1)=some o'∧bQ (rn []) 2006 p.2 o':=by
 intro p hp;rcases List.mem_append.1 hp with hp|hp
 ·exact BV h6 (by omega) x1 x2 x3 p hp
 simp only [List.mem_cons,List.not_mem_nil,or_false] at hp;subst hp;exact⟨.inl ⟨by omega,by omega,by show 2003≤2005;omega⟩,_,x4,aN (aH _ _)⟩
theorem bS {W:Heap}{b q:Nat}(h:zT W b)(hq:b≤q):look W q=none:=by
 cases hl:look W q with
 |none=>rfl
 |some o=>have:=(h q o hl).1;omega
theorem aGG {l:List Pt}{D:List Dt}{ls:List (List Int)}{d:Nat}(h:wJ l D ls=true)(h2:aBR D ls=true)(hd:d<D.length):wkS l D ls [iv d]=some (true,wO D ls d,[]):=by
 have:=List.all_eq_true.1 h2 d (List.mem_range.2 hd);show some (wJ l D ls&&decide ((0:Int)≤d)&&decide ((d:Int)<D.length)&&decide (pX D ls d (pG D ls d)=d),wO D ls d,[])=_;rw [h,decide_eq_true (by omega:(0:Int)≤d),decide_eq_true (by omega:(d:Int)<D.length),this];rfl
theorem TV {l:List Pt}{D:List Dt}{ls:List (List Int)}{d:Nat}(h:wJ l D ls=true)(hd:d<D.length):fI D (wO D ls d)=true∧(wO D ls d).length≤D.length+1∧1≤(wO D ls d).length:=by
 have hp:=nT D ls d D.length 1;refine⟨List.all_eq_true.2 fun x hx=>?_,?_,?_⟩
 ·obtain⟨i,_,rfl⟩:=List.mem_map.1 hx;have:=T2 h (d:=d) (by omega) (by omega) i;simpa using this
 ·unfold wO pG;rw [List.length_map,List.length_range];omega
 unfold wO pG;rw [List.length_map,List.length_range];omega
theorem aI8 {l:List Pt}{D:List Dt}{ls:List (List Int)}{L:List Int}(h:IB l D ls=true)(h1:fI D L=true)(h2:L.length≤100000):arS l D ls L=some (true,iv (IN l D L L.length)):=by
 unfold arS;rw [h,h1,decide_eq_true h2];rfl
theorem aAI {a:OC}(h3:zT a.R 2003)(h4:look a.R 7=none)(h6:a.k0<2003∧a.k1<2003∧a.kd<2003∧a.kt<2003){h:Heap}{s:RL}{nx:Nat}{b:Bool}(hb:b=BY s)(x1:look h 7=some (RM a (.slice (some ⟨2003,0,none⟩) a.D.length a.D.length)))
  (x2:look h 2003=some (.cells true false 1 (flat aP.fl s.face))) (hx:∀ k o,look a.R k=some o→look h k=some o) :
  ∃ ρ,u7 2003 ρ [(0,.tuple #[iv s.many,.bool (BY s)])] ((7,RM a (.slice (some ⟨2003,0,none⟩) a.D.length a.D.length))::(2003,.cells true false 1 (flat aP.fl s.face))::a.R) 2004 [(0,.tuple #[iv s.many,.bool b])] h nx:=by
 subst hb;have hsl:∀ {q a b:Nat},q<2004→DN 2004 (.slice (some ⟨q,0,none⟩) a b):=fun {q a b} hq=>⟨hq,fun h=>by cases h⟩;refine⟨id,fun t u hu=>?_,fun k o hk=>?_,fun _ _ _ _ _ _ e=>e,fun _ _=>rfl,by omega⟩
 ·have hm:=bF hu;simp only [List.mem_cons,List.not_mem_nil,or_false] at hm;injection hm with e1 e2;subst e1 e2;exact⟨by rw [jX,gZ rfl];rfl,dI rfl⟩
 rw [aE] at hk;split at hk
 ·rename_i hb;injection hk with hk;subst hk;rw [← beq_true hb];refine⟨by omega,_,x1,rfl,rfl,rfl,rfl,?_⟩;exact List.forall_mem_cons.2 ⟨hsl (by omega),List.forall_mem_cons.2 ⟨hsl (by omega),List.forall_mem_cons.2 ⟨cX rfl,List.forall_mem_cons.2 ⟨hsl (by omega),List.forall_mem_cons.2 ⟨hsl (by omega),List.forall_mem_cons.2 ⟨hsl (by omega),fun _ h=>(by cases h)⟩⟩⟩⟩⟩⟩
 rw [aE] at hk;split at hk
 ·rename_i hb;injection hk with hk;subst hk;rw [← beq_true hb];exact⟨by omega,_,x2,aN (aH _ _)⟩
 obtain⟨a1,a2⟩:=h3 k o hk;exact⟨by omega,o,hx k o hk,rW (fun _ _=>rfl) (by omega) a2⟩
theorem aKe:cT Go.Proofs.Tryz.prog 155 aIf:=aAO (aL (xl:=[aId,aHl]) (.cons aM0 (.cons aLu .nil))) fun a ⟨h1,h2,h3,h4,h5,h6⟩=>by
 have hn:=JT (ES h1);unfold RM;((conv=>whnf);apply bm<;>intro g1);rotate_left
 ·exfalso;simp [aA,aC,aF] at g1;omega
 ((conv=>whnf);apply bm<;>intro g1');rotate_left
 ·exfalso;simp [aA,aC,aF] at g1';omega
 (conv=>whnf);refine⟨fun q e h nx=>∃ (i:Nat) (j:Int),j=i∧i≤a.D.length∧q=a.D.length - i∧e=oM a.D.length (cK a.l a.D a.ls i) j∧h=oL a (cK a.l a.D a.ls i)++a.R∧nx=2005,⟨a.D.length,?_⟩,?_⟩
 ·refine aQ (P:=oL a (cK a.l a.D a.ls 0)) (W:=a.R) (e0:=oM a.D.length (cK a.l a.D a.ls 0) 0) (n0:=2005) [] ⟨0,0,rfl,Nat.zero_le _,rfl,rfl,rfl,rfl⟩ ?_ h3 ?_ ?_ ?_ (fun _ h=>(by cases h)) (by omega)
  ·unfold oM;((repeat' refine iE rfl rfl ?_);exact iN)
  ·exact aK (aS (aK (ext_cons (fun _ _ h=>h) h4) (bS h3 (by omega))) h4) (bS h3 (by omega))
  ·refine BV h6 (by omega) rfl ?_ ?_
   ·show some (a8.cells true false 1 (rep a.D.length [iv 0]))=some (.cells true false 1 (flat aP.fl (List.replicate a.D.length 0)));rw [S9]
   show some (a8.cells true false 1 (rep a.D.length [.bool false]))=some (.cells true false 1 (flat gI.fl (List.replicate a.D.length false)));rw [TT]
  show ∀ k∈[7,2003,2004],∀ k'∈[7,2003,2004],_;decide
 rintro q e h nx ⟨i,j,hj,hi,rfl,rfl,rfl,rfl⟩;obtain⟨s1,s2,s3,s4,s5,s6⟩:=vO a.l a.D a.ls i;have hst:cK a.l a.D a.ls (i+1)=lG a.l a.D a.ls (cK a.l a.D a.ls i) i:=rfl;generalize hss:cK a.l a.D a.ls i=s at s1 s2 s3 s4 s5 s6 hst ⊢;unfold oM oL RM;((conv=>whnf);apply bm<;>intro g2);rotate_left
 ·have hge:i=a.D.length:=(by simp [aA,aC] at g2;omega);subst hge;unfold QT nmD;rw [hss];((conv=>whnf);apply bm<;>intro g3)
  ·have g3:s.out=1:=(by simpa [aA,aC] using g3);(conv=>whnf);refine aAI h3 h4 h6 (b:=!s.flat) (by unfold BY;rw [decide_eq_true g3];rfl) rfl rfl (ext_cons (ext_cons (ext_cons (fun _ _ h=>h) (bS h3 (by omega))) (bS h3 (by omega))) h4)
  have g3:¬ s.out=1:=(by simpa [aA,aC] using g3);(conv=>whnf);refine aAI h3 h4 h6 (b:=false) (by unfold BY;rw [decide_eq_false g3];rfl) rfl rfl (ext_cons (ext_cons (ext_cons (fun _ _ h=>h) (bS h3 (by omega))) (bS h3 (by omega))) h4)
 have hlt:i<a.D.length:=(by simp [aA,aC] at g2;omega);((conv=>whnf);apply bm<;>intro g3);rotate_left
 ·exfalso;simp [aA,aC] at g3;omega
 (conv=>whnf);refine eC (PJ s.seen (i:=i) (by omega) ?_) ?_
 ·show _+Int.toNat j*1=_;omega
 ((conv=>whnf);apply bm<;>intro g4)
 ·have g4:dD s.seen i=true:=g4;unfold lG at hst;rw [if_pos g4] at hst;((conv=>whnf);apply bm<;>intro g5)
  ·(conv=>whnf);refine⟨a.D.length - (i+1),by omega,?_⟩;refine aQ (P:=oL a (cK a.l a.D a.ls (i+1))) (W:=a.R) (e0:=oM a.D.length (cK a.l a.D a.ls (i+1)) (j+1)) (n0:=2005) [] ⟨i+1,j+1,by omega,by omega,rfl,rfl,rfl,rfl⟩ ?_ h3 ?_ ?_ ?_ (fun _ h=>(by cases h)) (by omega)
   ·rw [hst];unfold oM;((repeat' refine iE rfl rfl ?_);exact iN)
   ·exact ext_cons (ext_cons (ext_cons (fun _ _ h=>h) (bS h3 (by omega))) (bS h3 (by omega))) h4
   ·rw [hst];exact BV h6 (by omega) rfl rfl rfl
   show ∀ k∈[7,2003,2004],∀ k'∈[7,2003,2004],_;decide
  exfalso;simp [aA,aC,aF] at g5;omega
 have g4:dD s.seen i=false:=g4;(conv=>whnf);have hx0:∀ k o,look a.R k=some o→look ([(7,a8.cells true false 1 [.slice (some ⟨a.k0,0,none⟩) a.l.length a.c1,.slice (some ⟨a.k1,0,none⟩) a.nE a.c2,iv a.n,.slice (some ⟨a.kd,0,none⟩) a.D.length a.D.length,.slice (some ⟨a.kt,0,none⟩) a.ls.length a.ls.length,.slice (some ⟨2003,0,none⟩) a.D.length a.D.length]),(2003,.cells true false 1 (flat aP.fl s.face)),(2004,.cells true false 1 (flat gI.fl s.seen))]++a.R) k=some o :=
  ext_cons (ext_cons (ext_cons (fun _ _ h=>h) (bS h3 (by omega))) (bS h3 (by omega))) h4
 have hwk:wkS a.l a.D a.ls [iv j]=some (true,wO a.D a.ls i,[]):=(by rw [hj];exact aGG h1 h2 hlt);obtain⟨w1,w2,w3⟩:=TV h1 hlt;refine⟨7,[iv j],a.k0,a.k1,a.kd,a.kt,2003,a.nm,a.l,a.D,a.ls,a.nE,a.c1,a.c2,a.n,some (a.D.length,a.D.length),rfl,h5.at hx0 rfl,?_⟩;rw [hwk];unfold lG at hst;rw [if_neg (by rw [g4];decide)] at hst;simp only at hst;generalize wO a.D a.ls i=w at w1 w2 w3 hst hwk ⊢;refine aM rfl ?_;(conv=>whnf);refine⟨7,2005,a.k0,a.k1,a.kd,a.kt,2003,a.nm,a.l,a.D,a.ls,a.nE,a.c1,a.c2,a.n,some (a.D.length,a.D.length),w,w.length,rfl,h5.at (aK hx0 (bS h3 (by omega))) rfl,⟨_,_,_,_,rfl,List.take_length⟩,?_⟩;rw [aI8 (ES h1) w1 (by omega)];generalize IN a.l a.D w w.length=A at hst ⊢;refine aM rfl ?_;((conv=>whnf);apply bm<;>intro g6)
 ·have hA:0<A:=(by simpa [aA,aC] using g6);simp only [if_pos hA] at hst;((conv=>whnf);apply bm<;>intro g7);rotate_left
  ·exfalso;simp [aA,aC,aF] at g7;omega
  skip
  have hst1:cK a.l a.D a.ls (i+1)=⟨dW s.face w (s.many+1) w.length,fW s.seen w w.length,s.many+1,s.out,s.flat⟩:=(by rw [hst]);(conv=>whnf);refine⟨fun q e h nx=>∃ (t:Nat) (x:Int),x=t∧t≤w.length∧q=w.length - t∧e=lD a.D.length ⟨dW s.face w (s.many+1) t,fW s.seen w t,s.many+1,s.out,s.flat⟩ j (s.many+1) w.length x∧h=(oL a ⟨dW s.face w (s.many+1) t,fW s.seen w t,s.many+1,s.out,s.flat⟩++[(2005,.cells true false 1 (flat aP.fl w))])++a.R∧nx=2006,⟨w.length,?_⟩,?_⟩
  ·refine aQ (P:=oL a ⟨s.face,s.seen,s.many+1,s.out,s.flat⟩++[(2005,.cells true false 1 (flat aP.fl w))]) (W:=a.R) (e0:=lD a.D.length ⟨s.face,s.seen,s.many+1,s.out,s.flat⟩ j (s.many+1) w.length 0) (n0:=2006) [] ⟨0,0,rfl,Nat.zero_le _,rfl,rfl,rfl,rfl⟩ ?_ h3 ?_ ?_ ?_ (fun _ h=>(by cases h)) (by omega)
   ·unfold lD oM;((repeat' refine iE rfl rfl ?_);exact iN)
   ·exact aK hx0 (bS h3 (by omega))
   ·exact BD h6 rfl rfl rfl rfl
   show ∀ k∈[7,2003,2004,2005],∀ k'∈[7,2003,2004,2005],_;decide
  rintro q e h nx ⟨t,x,hx,ht,rfl,rfl,rfl,rfl⟩;unfold lD oM oL RM;((conv=>whnf);apply bm<;>intro m1);rotate_left
  ·have htl:t=w.length:=(by simp [aA,aC] at m1;omega);((conv=>whnf);apply bm<;>intro m2)
   ·(conv=>whnf);refine⟨a.D.length - (i+1),by omega,?_⟩;refine aQ (P:=oL a (cK a.l a.D a.ls (i+1))) (W:=a.R) (e0:=oM a.D.length (cK a.l a.D a.ls (i+1)) (j+1)) (n0:=2005) [] ⟨i+1,j+1,by omega,by omega,rfl,rfl,rfl,rfl⟩ ?_ h3 ?_ ?_ ?_ (fun _ h=>(by cases h)) (by omega)
    ·rw [hst1];unfold oM;((repeat' refine iE rfl rfl ?_);exact iN)
    ·exact (ext_cons (ext_cons (ext_cons (ext_cons (fun _ _ h=>h) (bS h3 (by omega))) (bS h3 (by omega))) (bS h3 (by omega))) h4)
    ·rw [hst1,← htl];exact BV h6 (by omega) rfl rfl rfl
    show ∀ k∈[7,2003,2004],∀ k'∈[7,2003,2004],_;decide
   exfalso;simp [aA,aC,aF] at m2;omega
  have htl:t<w.length:=(by simp [aA,aC] at m1;omega);have hwd:=jY w1 (i:=t) htl;((conv=>whnf);apply bm<;>intro m2);rotate_left
  ·exfalso;simp [aA,aC] at m2;omega
  (conv=>whnf);refine eC (bY w (i:=t) htl ?_) ?_
  ·show _+Int.toNat x*1=_;omega
  have hsf:=fE s.face w (s.many+1) t;have hss:=kO s.seen w t
  repeat' first
   |(((conv=>whnf);apply bm<;>intro m))
  all_goals first
   |(exfalso;simp [aA,aC,aF] at m;omega)
   |(exfalso
     have hb:Nat.ble (0+Int.toNat (aD w t)*1+1) (flat gI.fl (fW s.seen w t)).length=true:=Nat.ble_eq_true_of_le (by rw [a7];show _≤(fW s.seen w t).length*1;omega);exact Bool.false_ne_true (m.symm.trans hb))
   |(exfalso
     have hb:Nat.ble (0+Int.toNat (aD w t)*1+1) (flat aP.fl (dW s.face w (s.many+1) t)).length=true:=Nat.ble_eq_true_of_le (by rw [a7];show _≤(dW s.face w (s.many+1) t).length*1;omega);exact Bool.false_ne_true (m.symm.trans hb))
   |skip
  (conv=>whnf);refine⟨w.length - (t+1),by omega,?_⟩;refine aQ (P:=oL a ⟨dW s.face w (s.many+1) (t+1),fW s.seen w (t+1),s.many+1,s.out,s.flat⟩++[(2005,.cells true false 1 (flat aP.fl w))]) (W:=a.R) (e0:=lD a.D.length ⟨dW s.face w (s.many+1) (t+1),fW s.seen w (t+1),s.many+1,s.out,s.flat⟩ j (s.many+1) w.length (x+1)) (n0:=2006) [] ⟨t+1,x+1,by omega,by omega,rfl,rfl,rfl,rfl⟩ ?_ h3 ?_ ?_ ?_ (fun _ h=>(by cases h)) (by omega)
  ·unfold lD oM;((repeat' refine iE rfl rfl ?_);exact iN)
  ·exact aS (aS (ext_cons (ext_cons (ext_cons (ext_cons (fun _ _ h=>h) (bS h3 (by omega))) (bS h3 (by omega))) (bS h3 (by omega))) h4) (bS h3 (by omega))) (bS h3 (by omega))
  ·refine BD h6 rfl ?_ ?_ rfl
   ·show some (a8.cells true false 1 (cN (flat aP.fl (dW s.face w (s.many+1) t)) (0+Int.toNat (aD w t)*1) [iv (s.many+1)]))=_;rw [qW (by omega) (by omega)]
   show some (a8.cells true false 1 (cN (flat gI.fl (fW s.seen w t)) (0+Int.toNat (aD w t)*1) [.bool true]))=_;rw [HE (by omega) (by omega)]
  show ∀ k∈[7,2003,2004,2005],∀ k'∈[7,2003,2004,2005],_;decide
 have hA:¬ 0<A:=(by simpa [aA,aC] using g6);simp only [if_neg hA] at hst;((conv=>whnf);apply bm<;>intro g7);rotate_left
 ·have hA2:¬ A<0:=(by simpa [aA,aC] using g7);simp only [if_neg hA2] at hst;have hst1:cK a.l a.D a.ls (i+1)=⟨dW s.face w (0) w.length,fW s.seen w w.length,s.many,s.out,true⟩:=(by rw [hst]);(conv=>whnf);refine⟨fun q e h nx=>∃ (t:Nat) (x:Int),x=t∧t≤w.length∧q=w.length - t∧e=lD a.D.length ⟨dW s.face w (0) t,fW s.seen w t,s.many,s.out,true⟩ j (0) w.length x∧h=(oL a ⟨dW s.face w (0) t,fW s.seen w t,s.many,s.out,true⟩++[(2005,.cells true false 1 (flat aP.fl w))])++a.R∧nx=2006,⟨w.length,?_⟩,?_⟩
  ·refine aQ (P:=oL a ⟨s.face,s.seen,s.many,s.out,true⟩++[(2005,.cells true false 1 (flat aP.fl w))]) (W:=a.R) (e0:=lD a.D.length ⟨s.face,s.seen,s.many,s.out,true⟩ j (0) w.length 0) (n0:=2006) [] ⟨0,0,rfl,Nat.zero_le _,rfl,rfl,rfl,rfl⟩ ?_ h3 ?_ ?_ ?_ (fun _ h=>(by cases h)) (by omega)
   ·unfold lD oM;((repeat' refine iE rfl rfl ?_);exact iN)
   ·exact aK hx0 (bS h3 (by omega))
   ·exact BD h6 rfl rfl rfl rfl
   show ∀ k∈[7,2003,2004,2005],∀ k'∈[7,2003,2004,2005],_;decide
  rintro q e h nx ⟨t,x,hx,ht,rfl,rfl,rfl,rfl⟩;unfold lD oM oL RM;((conv=>whnf);apply bm<;>intro m1)
  ·have htl:t<w.length:=(by simp [aA,aC] at m1;omega);have hwd:=jY w1 (i:=t) htl;((conv=>whnf);apply bm<;>intro m2)
   ·(conv=>whnf);refine eC (bY w (i:=t) htl ?_) ?_
    ·show _+Int.toNat x*1=_;omega
    have hsf:=fE s.face w (0) t;have hss:=kO s.seen w t
    repeat' first
     |(((conv=>whnf);apply bm<;>intro m))
    all_goals first
     |(exfalso;simp [aA,aC,aF] at m;omega)
     |(exfalso
       have hb:Nat.ble (0+Int.toNat (aD w t)*1+1) (flat gI.fl (fW s.seen w t)).length=true:=Nat.ble_eq_true_of_le (by rw [a7];show _≤(fW s.seen w t).length*1;omega);exact Bool.false_ne_true (m.symm.trans hb))
     |(exfalso
       have hb:Nat.ble (0+Int.toNat (aD w t)*1+1) (flat aP.fl (dW s.face w (0) t)).length=true:=Nat.ble_eq_true_of_le (by rw [a7];show _≤(dW s.face w (0) t).length*1;omega);exact Bool.false_ne_true (m.symm.trans hb))
     |skip
    (conv=>whnf);refine⟨w.length - (t+1),by omega,?_⟩;refine aQ (P:=oL a ⟨dW s.face w (0) (t+1),fW s.seen w (t+1),s.many,s.out,true⟩++[(2005,.cells true false 1 (flat aP.fl w))]) (W:=a.R) (e0:=lD a.D.length ⟨dW s.face w (0) (t+1),fW s.seen w (t+1),s.many,s.out,true⟩ j (0) w.length (x+1)) (n0:=2006) [] ⟨t+1,x+1,by omega,by omega,rfl,rfl,rfl,rfl⟩ ?_ h3 ?_ ?_ ?_ (fun _ h=>(by cases h)) (by omega)
    ·unfold lD oM;((repeat' refine iE rfl rfl ?_);exact iN)
    ·exact aS (aS (ext_cons (ext_cons (ext_cons (ext_cons (fun _ _ h=>h) (bS h3 (by omega))) (bS h3 (by omega))) (bS h3 (by omega))) h4) (bS h3 (by omega))) (bS h3 (by omega))
    ·refine BD h6 rfl ?_ ?_ rfl
     ·show some (a8.cells true false 1 (cN (flat aP.fl (dW s.face w (0) t)) (0+Int.toNat (aD w t)*1) [iv (0)]))=_;rw [qW (by omega) (by omega)]
     show some (a8.cells true false 1 (cN (flat gI.fl (fW s.seen w t)) (0+Int.toNat (aD w t)*1) [.bool true]))=_;rw [HE (by omega) (by omega)]
    show ∀ k∈[7,2003,2004,2005],∀ k'∈[7,2003,2004,2005],_;decide
   exfalso;simp [aA,aC] at m2;omega
  have htl:t=w.length:=(by simp [aA,aC] at m1;omega);((conv=>whnf);apply bm<;>intro m2)
  ·(conv=>whnf);refine⟨a.D.length - (i+1),by omega,?_⟩;refine aQ (P:=oL a (cK a.l a.D a.ls (i+1))) (W:=a.R) (e0:=oM a.D.length (cK a.l a.D a.ls (i+1)) (j+1)) (n0:=2005) [] ⟨i+1,j+1,by omega,by omega,rfl,rfl,rfl,rfl⟩ ?_ h3 ?_ ?_ ?_ (fun _ h=>(by cases h)) (by omega)
   ·rw [hst1];unfold oM;((repeat' refine iE rfl rfl ?_);exact iN)
   ·exact (ext_cons (ext_cons (ext_cons (ext_cons (fun _ _ h=>h) (bS h3 (by omega))) (bS h3 (by omega))) (bS h3 (by omega))) h4)
   ·rw [hst1,← htl];exact BV h6 (by omega) rfl rfl rfl
   show ∀ k∈[7,2003,2004],∀ k'∈[7,2003,2004],_;decide
  exfalso;simp [aA,aC,aF] at m2;omega
 have hA2:A<0:=(by simpa [aA,aC] using g7);simp only [if_pos hA2] at hst;((conv=>whnf);apply bm<;>intro g8);rotate_left
 ·exfalso;simp [aA,aC,aF] at g8;omega
 skip
 have hst1:cK a.l a.D a.ls (i+1)=⟨dW s.face w (0) w.length,fW s.seen w w.length,s.many,s.out+1,s.flat⟩:=(by rw [hst]);(conv=>whnf);refine⟨fun q e h nx=>∃ (t:Nat) (x:Int),x=t∧t≤w.length∧q=w.length - t∧e=lD a.D.length ⟨dW s.face w (0) t,fW s.seen w t,s.many,s.out+1,s.flat⟩ j (0) w.length x∧h=(oL a ⟨dW s.face w (0) t,fW s.seen w t,s.many,s.out+1,s.flat⟩++[(2005,.cells true false 1 (flat aP.fl w))])++a.R∧nx=2006,⟨w.length,?_⟩,?_⟩
 ·refine aQ (P:=oL a ⟨s.face,s.seen,s.many,s.out+1,s.flat⟩++[(2005,.cells true false 1 (flat aP.fl w))]) (W:=a.R) (e0:=lD a.D.length ⟨s.face,s.seen,s.many,s.out+1,s.flat⟩ j (0) w.length 0) (n0:=2006) [] ⟨0,0,rfl,Nat.zero_le _,rfl,rfl,rfl,rfl⟩ ?_ h3 ?_ ?_ ?_ (fun _ h=>(by cases h)) (by omega)
  ·unfold lD oM;((repeat' refine iE rfl rfl ?_);exact iN)
  ·exact aK hx0 (bS h3 (by omega))
  ·exact BD h6 rfl rfl rfl rfl
  show ∀ k∈[7,2003,2004,2005],∀ k'∈[7,2003,2004,2005],_;decide
 rintro q e h nx ⟨t,x,hx,ht,rfl,rfl,rfl,rfl⟩;unfold lD oM oL RM;((conv=>whnf);apply bm<;>intro m1);rotate_left
 ·have htl:t=w.length:=(by simp [aA,aC] at m1;omega);((conv=>whnf);apply bm<;>intro m2)
  ·(conv=>whnf);refine⟨a.D.length - (i+1),by omega,?_⟩;refine aQ (P:=oL a (cK a.l a.D a.ls (i+1))) (W:=a.R) (e0:=oM a.D.length (cK a.l a.D a.ls (i+1)) (j+1)) (n0:=2005) [] ⟨i+1,j+1,by omega,by omega,rfl,rfl,rfl,rfl⟩ ?_ h3 ?_ ?_ ?_ (fun _ h=>(by cases h)) (by omega)
   ·rw [hst1];unfold oM;((repeat' refine iE rfl rfl ?_);exact iN)
   ·exact (ext_cons (ext_cons (ext_cons (ext_cons (fun _ _ h=>h) (bS h3 (by omega))) (bS h3 (by omega))) (bS h3 (by omega))) h4)
   ·rw [hst1,← htl];exact BV h6 (by omega) rfl rfl rfl
   show ∀ k∈[7,2003,2004],∀ k'∈[7,2003,2004],_;decide
  exfalso;simp [aA,aC,aF] at m2;omega
 have htl:t<w.length:=(by simp [aA,aC] at m1;omega);have hwd:=jY w1 (i:=t) htl;((conv=>whnf);apply bm<;>intro m2);rotate_left
 ·exfalso;simp [aA,aC] at m2;omega
 (conv=>whnf);refine eC (bY w (i:=t) htl ?_) ?_
 ·show _+Int.toNat x*1=_;omega
 have hsf:=fE s.face w (0) t;have hss:=kO s.seen w t
 repeat' first
  |(((conv=>whnf);apply bm<;>intro m))
 all_goals first
  |(exfalso;simp [aA,aC,aF] at m;omega)
  |(exfalso
    have hb:Nat.ble (0+Int.toNat (aD w t)*1+1) (flat gI.fl (fW s.seen w t)).length=true:=Nat.ble_eq_true_of_le (by rw [a7];show _≤(fW s.seen w t).length*1;omega);exact Bool.false_ne_true (m.symm.trans hb))
  |(exfalso
    have hb:Nat.ble (0+Int.toNat (aD w t)*1+1) (flat aP.fl (dW s.face w (0) t)).length=true:=Nat.ble_eq_true_of_le (by rw [a7];show _≤(dW s.face w (0) t).length*1;omega);exact Bool.false_ne_true (m.symm.trans hb))
  |skip
 (conv=>whnf);refine⟨w.length - (t+1),by omega,?_⟩;refine aQ (P:=oL a ⟨dW s.face w (0) (t+1),fW s.seen w (t+1),s.many,s.out+1,s.flat⟩++[(2005,.cells true false 1 (flat aP.fl w))]) (W:=a.R) (e0:=lD a.D.length ⟨dW s.face w (0) (t+1),fW s.seen w (t+1),s.many,s.out+1,s.flat⟩ j (0) w.length (x+1)) (n0:=2006) [] ⟨t+1,x+1,by omega,by omega,rfl,rfl,rfl,rfl⟩ ?_ h3 ?_ ?_ ?_ (fun _ h=>(by cases h)) (by omega)
 ·unfold lD oM;((repeat' refine iE rfl rfl ?_);exact iN)
 ·exact aS (aS (ext_cons (ext_cons (ext_cons (ext_cons (fun _ _ h=>h) (bS h3 (by omega))) (bS h3 (by omega))) (bS h3 (by omega))) h4) (bS h3 (by omega))) (bS h3 (by omega))
 ·refine BD h6 rfl ?_ ?_ rfl
  ·show some (a8.cells true false 1 (cN (flat aP.fl (dW s.face w (0) t)) (0+Int.toNat (aD w t)*1) [iv (0)]))=_;rw [qW (by omega) (by omega)]
  show some (a8.cells true false 1 (cN (flat gI.fl (fW s.seen w t)) (0+Int.toNat (aD w t)*1) [.bool true]))=_;rw [HE (by omega) (by omega)]
 show ∀ k∈[7,2003,2004,2005],∀ k'∈[7,2003,2004,2005],_;decide
theorem Y1 {b n:Nat}{o:a8}(h:bQ id b o o)(hc:M3 o=true):bQ id (n+b) (W8 n o) (W8 n o):=by
 cases o with
 |cells wr g sz cs =>
  obtain⟨_,_,_,h4,h5⟩:=h;have key:∀ v∈cs,cD id (cD (fun k=>n+k) v)=cD (fun k=>n+k) v∧DN (n+b) (cD (fun k=>n+k) v):=fun v hv=>by
   have hn:DN (n+b) (cD (fun k=>n+k) v):=j5 (m:=b) (aCw (h5 v hv)) (fun k hk=>by omega);refine⟨?_,hn⟩;unfold cD;rw [jO (n:=n+b) hn];rfl
  refine⟨rfl,rfl,rfl,?_,fun v hv=>?_⟩
  ·rw [List.map_map];exact List.map_congr_left fun v hv=>(key v hv).1.symm
  obtain⟨u,hu,rfl⟩:=List.mem_map.1 hv;exact (key u hu).2
 |_=>cases hc
theorem aAU {W:Heap}{b n:Nat}(h:zT W b)(hc:gM W=true):zT (mR n W) (n+b):=fun k o hk=>by
 obtain⟨j,o',rfl,h1,rfl⟩:=kY W hk;obtain⟨a1,a2⟩:=h j o' h1;obtain⟨wr,g,sz,cs,rfl⟩:=oO hc h1;exact⟨by omega,Y1 a2 rfl⟩
theorem aBK {W:Heap}{b:Nat}(h:zT W b)(hc:gM W=true):zT (eY W) b:=fun k o hk=>by
 rw [gV] at hk;cases hq:look W k with
 |none=>rw [hq] at hk;cases hk
 |some q =>
  rw [hq] at hk;injection hk with hk;subst hk;obtain⟨a1,a2⟩:=h k q hq;obtain⟨wr,g,sz,cs,rfl⟩:=oO hc hq;exact⟨a1,rfl,rfl,rfl,a2.2.2.2.1,a2.2.2.2.2⟩
theorem aFa {A B:Heap}{b:Nat}(hA:zT A b)(hB:zT B b):zT (app A B) b:=fun k o hk=>by
 rw [j1] at hk;split at hk
 ·rename_i o' ho;injection hk with hk;subst hk;exact hA k o' ho
 exact hB k o hk
def B2 (l:List Pt)(m:List Ed):Heap :=
 (6,.cells true false 5 (flat sH.fl (bD l m m.length)))::(5,.cells true false 1 (tC (outs l m).length (outs l m)))::(0,.cells false true aT.sz (flat aT.fl l))::(1,.cells false true aW.sz (flat aW.fl m))::tH (outs l m).length (outs l m) (outs l m).length
theorem QD {l:List Pt}{m:List Ed}{p:Nat × a8}(h:p∈B2 l m):p=(6,.cells true false 5 (flat sH.fl (bD l m m.length)))∨p=(5,.cells true false 1 (tC (outs l m).length (outs l m)))∨p=(0,.cells false true aT.sz (flat aT.fl l))∨p=(1,.cells false true aW.sz (flat aW.fl m)) ∨
  ∃ i,i<(outs l m).length∧(bR (outs l m) i).length≠0∧p=(i+1000,ob (bR (outs l m) i)):=by
 unfold B2 at h;simp only [List.mem_cons] at h;rcases h with h|h|h|h|h
 ·exact .inl h
 ·exact .inr (.inl h)
 ·exact .inr (.inr (.inl h))
 ·exact .inr (.inr (.inr (.inl h)))
 obtain⟨i,h1,h2,h3,h4⟩:=B7 h;exact .inr (.inr (.inr (.inr ⟨i,h1,h3,h4⟩)))
theorem Q1 {l:List Pt}{m:List Ed}(hl:l.length≤1000):zT (B2 l m) 2000:=fun k o hk=>by
 have hol:=gY l m;rcases QD (bF hk) with h|h|h|h|⟨i,h1,h2,h⟩
 ·injection h with e1 e2;subst e1 e2;exact⟨by omega,aN (aH _ _)⟩
 ·injection h with e1 e2;subst e1 e2;exact⟨by omega,rfl,rfl,rfl,EV (ρ:=id) (lL _ _) fun i hi=>CG hi,KW (by omega) (by omega)⟩
 ·injection h with e1 e2;subst e1 e2;exact⟨by omega,aN (aH _ _)⟩
 ·injection h with e1 e2;subst e1 e2;exact⟨by omega,aN (aH _ _)⟩
 injection h with e1 e2;subst e1 e2;exact⟨by omega,aN (aH _ _)⟩
theorem yD {l:List Pt}{m:List Ed}:gM (B2 l m)=true:=AM _ _ _
def L5 (l:List Pt)(m:List Ed)(c1 c2:Nat)(n:Int):Heap:=(2,aX l.length m.length c1 c2 n)::aB aT aW l m
theorem aFh {l:List Pt}{m:List Ed}{c1 c2:Nat}{n:Int}:zT (L5 l m c1 c2 n) 3:=by
 refine c8 (c8 (c8 (fun k o hk=>by cases hk) (by omega) (aN (aH _ _))) (by omega) (aN (aH _ _))) (by omega) ⟨rfl,rfl,rfl,rfl,?_⟩;exact List.forall_mem_cons.2 ⟨⟨Nat.le_of_ble_eq_true rfl,fun h=>by cases h⟩,List.forall_mem_cons.2 ⟨⟨Nat.le_of_ble_eq_true rfl,fun h=>by cases h⟩,List.forall_mem_cons.2 ⟨cX rfl,fun _ h=>(by cases h)⟩⟩⟩
def pO (l:List Pt)(m:List Ed)(c1 c2:Nat)(n:Int):Heap:=app (mR 3 (B2 l m)) (eY (L5 l m c1 c2 n))
def a69 (l:List Pt)(m:List Ed)(c1 c2:Nat)(n:Int):OC:=⟨pO l m c1 c2 n,3,4,9,8,fun i=>3+(i+1000),l,bD l m m.length,outs l m,m.length,c1,c2,n⟩
theorem aCK {l:List Pt}{m:List Ed}{c1 c2:Nat}{n:Int}:app (mR 3 (aF2 l m c1 c2 n)) (eY (L5 l m c1 c2 n))=(7,RM (a69 l m c1 c2 n) aR)::pO l m c1 c2 n:=by
 unfold RM a69;simp only [bP,gY];rfl
theorem MZ {l:List Pt}{m:List Ed}{c1 c2:Nat}{n:Int}{j:Nat}{o:a8}(h:look (B2 l m) j=some o):look (pO l m c1 c2 n) (3+j)=some (W8 3 o):=by
 unfold pO;rw [j1,lI _ h]
theorem UQ {l:List Pt}{m:List Ed}{c1 c2:Nat}{n:Int}:WbR (pO l m c1 c2 n) 3 9 8 (fun i=>3+(i+1000)) l (bD l m m.length) (outs l m):=by
 have hfl:∀ {α:Type} (E:El α) (x:List α),(flat E.fl x).map (cD fun k=>3+k)=flat E.fl x:=fun E x=>cZ (aH E x);refine⟨⟨_,_,_,_,MZ (j:=0) rfl,?_⟩,⟨_,_,_,_,MZ (j:=6) rfl,?_⟩,⟨true,false,1,?_⟩,fun i hi h0=>⟨true,false,1,flat aP.fl (bR (outs l m) i),?_,List.take_length⟩⟩
 ·rw [hfl];exact List.take_length
 ·rw [hfl];exact List.take_length
 ·rw [MZ (j:=5) (o:=.cells true false 1 (tC (outs l m).length (outs l m))) rfl];show some (a8.cells true false 1 ((tC (outs l m).length (outs l m)).map (cD fun k=>3+k)))=_;unfold tC;rw [List.map_map];congr 2;refine List.map_congr_left fun i hi=>?_;show cD _ (tV (tN (outs l m).length i) (bR (outs l m) i))=_;rw [T8];unfold tN;rw [if_neg (by have:=List.mem_range.1 hi;omega)]
 have:look (B2 l m) (i+1000)=some (ob (bR (outs l m) i)):=by
  unfold B2;rw [bK (by omega),bK (by omega),bK (by omega),bK (by omega)];exact lP (by omega) h0 hi
 rw [MZ this];show some (a8.cells true false 1 ((flat aP.fl (bR (outs l m) i)).map (cD fun k=>3+k)))=_;rw [hfl]
theorem aFT {l:List Pt}{m:List Ed}{c1 c2:Nat}{n:Int}:look (pO l m c1 c2 n) 7=none:=by
 cases hl:look (pO l m c1 c2 n) 7 with
 |none=>rfl
 |some o =>
  exfalso;unfold pO at hl;rw [j1] at hl;split at hl
  ·rename_i o' ho;obtain⟨j,q,e1,e2,_⟩:=kY _ ho;rcases QD (bF e2) with h|h|h|h|⟨i,h1,h2,h⟩ <;> (injection h with e3 e4;omega)
  ·cases hl
theorem aEz {l:List Pt}{m:List Ed}{c1 c2:Nat}{n:Int}(hl:l.length≤1000):zT (pO l m c1 c2 n) 2003 :=
 aFa (aAU (n:=3) (Q1 hl) yD) (E1 (aBK aFh rfl) (by omega))
theorem aIc {l:List Pt}{m:List Ed}{c1 c2:Nat}{n:Int}(hl:l.length≤1000)(h1:wJ l (bD l m m.length) (outs l m)=true)(h2:aBR (bD l m m.length) (outs l m)=true):aGp (a69 l m c1 c2 n) :=
 ⟨h1,h2,aEz hl,aFT,UQ,Nat.le_of_ble_eq_true rfl,Nat.le_of_ble_eq_true rfl,Nat.le_of_ble_eq_true rfl,Nat.le_of_ble_eq_true rfl⟩
end Go.Aw
end
