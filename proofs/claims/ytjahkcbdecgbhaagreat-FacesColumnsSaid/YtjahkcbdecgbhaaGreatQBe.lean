/-
  Parts of a proof. No condition.
-/
import Derived.Test.YtjahkcbdecgbhaaGreatQBd
set_option linter.unusedSimpArgs false
set_option linter.unusedVariables false
noncomputable section
namespace Go.Aw
set_option maxRecDepth 100000
set_option maxHeartbeats 2000000
def eR (D:List Dt)(ls:List (List Int)):List Bool:=C9 D ls 1000 (List.replicate ls.length false) 0
def cnS (l:List Pt)(D:List Dt)(ls:List (List Int)):List Value→Option (Bool × Value)
 |[]=>some (GW l D ls&&YH D ls&&decide (1≤ls.length),.bool ((eR D ls).all id))
 |_=>none
def T5:Nat × XF:=(154,wbX cnS)
theorem aIK:cO Go.Proofs.Tryz.prog T5.1 T5.2:=Q7 (f:=154) (s:=cnS) (aL (xl:=[(211,aFY 1000),VI]) (.cons (aFd 1000) (.cons aF8 .nil))) fun l D ls r v hs=>by
 have:r=[]∧GW l D ls=true∧YH D ls=true∧1≤ls.length∧v=.bool ((eR D ls).all id):=by
  unfold cnS at hs;split at hs
  ·injection hs with hs;injection hs with h1 h2;simp only [Bool.and_eq_true,decide_eq_true_eq] at h1;exact⟨rfl,h1.1.1,h1.1.2,h1.2,h2.symm⟩
  ·cases hs
 obtain⟨rfl,h1,h2,h3,rfl⟩:=this;clear hs;have hn:=JM h1;refine⟨rfl,rfl,by omega,ls.length,fun nE c1 c2 n fo=>?_⟩;unfold fZ IA;rw [lB (Nat.le_refl _)];((conv=>whnf);refine bm (fun g1=>?_) (fun g1=>?_))
 ·((conv=>whnf);refine bm (fun g=>?_) (fun g=>?_))
  ·(conv=>whnf);refine⟨⟨0,l,D,ls,nE,c1,c2,n,fo,List.replicate ls.length false⟩,⟨h1,h2,Int.le_refl 0,?_,List.length_replicate,?_,?_⟩,rfl,?_,rfl,?_⟩
   ·show (0:Int)<(ls.length:Int);omega
   ·show cU (List.replicate ls.length false) 0=false;unfold cU;rw [List.getD_eq_getElem?_getD,List.getElem?_replicate];split <;> rfl
   ·have:gB (List.replicate ls.length false)≤(List.replicate ls.length false).length:=List.countP_le_length;rw [List.length_replicate] at this;show gB (List.replicate ls.length false)≤1000;omega
   ·show _=rS _ (List.replicate ls.length false);unfold rS fZ IA;simp only;rw [lB (Nat.le_refl _),← R9];rfl
   ·(conv=>whnf);have hrl:(eR D ls).length=ls.length:=by
     unfold eR;rw [(DP D ls 1000 _ 0).2,List.length_replicate]
    refine⟨eR D ls,⟨hrl.symm,_,_,_,_,rfl,by rw [List.drop_zero];exact List.take_length⟩,?_⟩;rw [show ctS (eR D ls) ([Value.bool false].append #[].toList)=some (true,.bool (!((eR D ls).all id))) from by
     show some (decide ((eR D ls).length≤1000000),Value.bool (!((eR D ls).all id)))=_;rw [decide_eq_true (by omega)]]
    refine aJ rfl ?_;(conv=>whnf);show Value.bool (!(!((eR D ls).all id)))=_;rw [Bool.not_not]
  ·exfalso;have g:decide ((0:Int)<(ls.length:Int))=false:=g;simp only [decide_eq_false_iff_not] at g;omega
 ·exfalso;simp [aA,aC,aH] at g1;omega
theorem c8 {b n0 nx:Nat}{I:KS}{e0 e:List (Nat × Value)}{P W h:Heap}(L:List (Nat × Nat))(hI:I e0 (P++W) n0)(he:∀ p∈e0,look e p.1=some (gP (rn L) p.2)∧xD n0 p.2)(hW:∀ k o,look W k=some o→k<b∧bX id b o o)(hk:∀ k o,look W k=some o→look h k=some o)
  (hP:∀ p∈P,((b≤p.1∧p.1<n0∧b≤rn L p.1)∨p.1<b)∧∃ o',look h (rn L p.1)=some o'∧bX (rn L) n0 p.2 o') (hi:∀ k∈P.map Prod.fst,∀ k'∈P.map Prod.fst,rn L k=rn L k'→k=k') (hL:∀ p∈L,b≤p.1) (hb:b≤n0):qU b I e h nx:=by
 have hfix:∀ k,k<b→rn L k=k:=fun k hk=>by
  unfold rn;split
  ·rename_i q hq;have:=hL _ (a8 hq);simp only at this;omega
  ·rfl
 refine⟨e0,P++W,n0,rn L,hI,fun t v hv=>he (t,v) (a8 hv),fun k o hk'=>?_,fun k k' o o' h1 h2 e=>?_,hfix,hb⟩
 ·rcases pP hk' with hm|hm
  ·obtain⟨a1,a2⟩:=hP _ hm;simp only at a1;exact⟨by omega,a2⟩
  ·obtain⟨a1,a2⟩:=hW k o hm;exact⟨by omega,o,by rw [hfix k a1];exact hk k o hm,qO hfix hb a2⟩
 ·rcases pP h1 with m1|m1 <;> rcases pP h2 with m2|m2
  ·exact hi k (List.mem_map.2 ⟨_,m1,rfl⟩) k' (List.mem_map.2 ⟨_,m2,rfl⟩) e
  ·have:=(hP _ m1).1;have b2:=(hW _ _ m2).1;simp only at this;rw [hfix k' b2] at e;rcases this with this|this
   ·omega
   ·rw [hfix k this] at e;exact e
  ·have:=(hP _ m2).1;have b2:=(hW _ _ m1).1;simp only at this;rw [hfix k b2] at e;rcases this with this|this
   ·omega
   ·rw [hfix k' this] at e;exact e
  ·rwa [hfix k (hW _ _ m1).1,hfix k' (hW _ _ m2).1] at e
structure PO where
 face:List Int
 seen:List Bool
 many:Int
 out:Int
 flat:Bool
def fJ (s:List Bool)(w:List Int):Nat→List Bool
 |0=>s
 |i+1=>(fJ s w i).set (aM w i).toNat true
theorem kC (s:List Bool)(w:List Int):∀ i,(fJ s w i).length=s.length
 |0=>rfl
 |i+1=>by unfold fJ;rw [List.length_set];exact kC s w i
def m9 (l:List Pt)(D:List Dt)(ls:List (List Int))(s:PO)(d:Nat):PO :=
 if cU s.seen d=true then s else
  let w:=xA D ls d;let a:=JB l D w w.length;let fc:=if 0<a then s.many+1 else 0
  ⟨dQ s.face w fc w.length,fJ s.seen w w.length,if 0<a then s.many+1 else s.many,if 0<a then s.out else if a<0 then s.out+1 else s.out,if 0<a then s.flat else if a<0 then s.flat else true⟩
def dC (l:List Pt)(D:List Dt)(ls:List (List Int)):Nat→PO
 |0=>⟨List.replicate D.length 0,List.replicate D.length false,0,0,false⟩
 |d+1=>m9 l D ls (dC l D ls d) d
def nmD (l:List Pt)(D:List Dt)(ls:List (List Int)):PO:=dC l D ls D.length
def zU (s:PO):Bool:=decide (s.out=1)&&!s.flat
theorem AN (l:List Pt)(D:List Dt)(ls:List (List Int)):∀ d,(dC l D ls d).face.length=D.length∧(dC l D ls d).seen.length=D.length∧0≤(dC l D ls d).many∧(dC l D ls d).many≤d∧0≤(dC l D ls d).out∧(dC l D ls d).out≤d
 |0=>by unfold dC;simp
 |d+1=>by
  obtain⟨h1,h2,h3,h4,h5,h6⟩:=AN l D ls d;unfold dC m9;split
  ·refine⟨h1,h2,h3,?_,h5,?_⟩ <;> omega
  ·simp only [eX,kC];refine⟨h1,h2,?_,?_,?_,?_⟩
   ·split <;> omega
   ·split <;> omega
   ·split
    ·omega
    ·split <;> omega
   ·split
    ·omega
    ·split <;> omega
def YX (D:List Dt)(ls:List (List Int)):Bool:=(List.range D.length).all fun d=>decide (pI D ls d (o9 D ls d)=d)
structure WbR (R:Heap) (k0 kd kt:Nat) (nm:Nat→Nat) (l:List Pt) (D:List Dt) (ls:List (List Int)):Prop where
 pt:∃ wr g sz cs,look R k0=some (.cells wr g sz cs)∧cs.take (flat aQ.fl l).length=flat aQ.fl l
 da:∃ wr g sz cs,look R kd=some (.cells wr g sz cs)∧cs.take (flat rK.fl D).length=flat rK.fl D
 tb:∃ wr g sz,look R kt=some (.cells wr g sz ((List.range ls.length).map fun i=>tV (nm i) (bK ls i)))
 li:∀ i,i<ls.length→(bK ls i).length≠0→∃ wr g sz cs,look R (nm i)=some (.cells wr g sz cs)∧cs.take (flat aO.fl (bK ls i)).length=flat aO.fl (bK ls i)
theorem WbR.at {R h:Heap}{p k0 k1 kd kt kf:Nat}{nm:Nat→Nat}{l:List Pt}{D:List Dt}{ls:List (List Int)}{nE c1 c2:Nat}{n:Int}{fo:Option (Nat × Nat)}(hw:WbR R k0 kd kt nm l D ls)(hx:∀ k o,look R k=some o→look h k=some o){wr g:Bool}{sz:Nat}
  (hs:look h p=some (.cells wr g sz (IA k0 k1 kd kt kf l.length nE D.length ls.length c1 c2 n fo))):vR h p k0 k1 kd kt kf nm l D ls nE c1 c2 n fo:=by
 obtain⟨⟨w1,g1,s1,x1,a1,b1⟩,⟨w2,g2,s2,x2,a2,b2⟩,⟨w3,g3,s3,a3⟩,h4⟩:=hw;refine⟨⟨_,_,_,hs⟩,⟨_,_,_,_,hx _ _ a1,b1⟩,⟨_,_,_,_,hx _ _ a2,b2⟩,⟨_,_,_,hx _ _ a3⟩,fun i hi h0=>?_⟩;obtain⟨w5,g5,s5,x5,a5,b5⟩:=h4 i hi h0;exact⟨_,_,_,_,hx _ _ a5,b5⟩
structure NM where
 R:Heap
 k0:Nat
 k1:Nat
 kd:Nat
 kt:Nat
 nm:Nat→Nat
 l:List Pt
 D:List Dt
 ls:List (List Int)
 nE:Nat
 c1:Nat
 c2:Nat
 n:Int
def aEI (a:NM):Prop:=vC a.l a.D a.ls=true∧YX a.D a.ls=true∧vB a.R 2003∧look a.R 7=none∧WbR a.R a.k0 a.kd a.kt a.nm a.l a.D a.ls∧(a.k0<2003∧a.k1<2003∧a.kd<2003∧a.kt<2003)
def OM (a:NM)(fv:Value):aV:=.cells true false 1 [.slice (some ⟨a.k0,0,none⟩) a.l.length a.c1,.slice (some ⟨a.k1,0,none⟩) a.nE a.c2,iv a.n,.slice (some ⟨a.kd,0,none⟩) a.D.length a.D.length,.slice (some ⟨a.kt,0,none⟩) a.ls.length a.ls.length,fv]
def M8 (a:NM):Heap:=(7,OM a (.slice (some ⟨2003,0,none⟩) a.D.length a.D.length))::(2003,.cells true false 1 (flat aO.fl (nmD a.l a.D a.ls).face))::a.R
def aGc:XF:=dX aEI (fun _=>[.pointer (some ⟨7,0,none⟩)]) (fun a=>(7,OM a aP)::a.R) (fun _=>2003) (fun a=>.tuple #[iv (nmD a.l a.D a.ls).many,.bool (zU (nmD a.l a.D a.ls))])
 M8 (fun _=>2004)
def n9 (N:Nat)(s:PO)(j:Int):List (Nat × Value):=[(0,.pointer (some ⟨7,0,none⟩)),(4,.slice (some ⟨2004,0,none⟩) N N),(5,iv s.many),(6,iv s.out),(7,.bool s.flat),(33,iv N),(34,iv j)]
def oD (a:NM)(s:PO):Heap:=[(7,OM a (.slice (some ⟨2003,0,none⟩) a.D.length a.D.length)),(2003,.cells true false 1 (flat aO.fl s.face)),(2004,.cells true false 1 (flat fU.fl s.seen))]
def kP (N:Nat)(s:PO)(j fc:Int)(n:Nat)(x:Int):List (Nat × Value):=(11,iv fc)::(58,.slice (some ⟨2005,0,none⟩) n n)::(59,iv n)::(60,iv x)::n9 N s j
theorem EW {s:List Bool}{w:List Int}{t o:Nat}(ho:o=(aM w t).toNat*1)(hi:(aM w t).toNat<s.length):dJ (flat fU.fl (fJ s w t)) o [.bool true]=flat fU.fl (fJ s w (t+1)):=by
 rw [ho,xS _ _ _ (by rw [kC];exact hi)];rfl
theorem zX {a:NM}(h6:a.k0<2003∧a.k1<2003∧a.kd<2003∧a.kt<2003){h:Heap}{s:PO}{n0:Nat}(hn:2005≤n0)(x1:look h 7=some (OM a (.slice (some ⟨2003,0,none⟩) a.D.length a.D.length)))(x2:look h 2003=some (.cells true false 1 (flat aO.fl s.face)))(x3:look h 2004=some (.cells true false 1 (flat fU.fl s.seen))) :
  ∀ p∈oD a s,((2003≤p.1∧p.1<n0∧2003≤rn [] p.1)∨p.1<2003)∧∃ o',look h (rn [] p.1)=some o'∧bX (rn []) n0 p.2 o':=by
 have hsl:∀ {q a b:Nat},q<2004→CR n0 (.slice (some ⟨q,0,none⟩) a b):=fun {q a b} hq=>⟨show q<n0 by omega,fun h=>by cases h⟩;unfold oD;refine List.forall_mem_cons.2 ⟨⟨.inr (by omega),_,x1,rfl,rfl,rfl,rfl,?_⟩,List.forall_mem_cons.2 ⟨⟨.inl ⟨Nat.le_refl _,by show 2003<n0;omega,Nat.le_refl _⟩,_,x2,aN (aF _ _)⟩,List.forall_mem_cons.2 ⟨⟨.inl ⟨by omega,by show 2004<n0;omega,by show 2003≤2004;omega⟩,_,x3,aN (aF _ _)⟩,fun _ h=>(by cases h)⟩⟩⟩;exact List.forall_mem_cons.2 ⟨hsl (by omega),List.forall_mem_cons.2 ⟨hsl (by omega),List.forall_mem_cons.2 ⟨cG rfl,List.forall_mem_cons.2 ⟨hsl (by omega),List.forall_mem_cons.2 ⟨hsl (by omega),List.forall_mem_cons.2 ⟨hsl (by omega),fun _ h=>(by cases h)⟩⟩⟩⟩⟩⟩
theorem zV {a:NM}(h6:a.k0<2003∧a.k1<2003∧a.kd<2003∧a.kt<2003){h:Heap}{s:PO}{w:List Int}(x1:look h 7=some (OM a (.slice (some ⟨2003,0,none⟩) a.D.length a.D.length)))(x2:look h 2003=some (.cells true false 1 (flat aO.fl s.face)))(x3:look h 2004=some (.cells true false 1 (flat fU.fl s.seen)))
  (x4:look h 2005=some (.cells true false 1 (flat aO.fl w))):∀ p∈oD a s++[(2005,.cells true false 1 (flat aO.fl w))],((2003≤p.1∧p.1<2006∧2003≤rn [] p.1)∨p.1<2003)∧∃ o',look h (rn [] p.1)=some o'∧bX (rn []) 2006 p.2 o':=by
 intro p hp;rcases List.mem_append.1 hp with hp|hp
 ·exact zX h6 (by omega) x1 x2 x3 p hp
 ·simp only [List.mem_cons,List.not_mem_nil,or_false] at hp;subst hp;exact⟨.inl ⟨by omega,by omega,by show 2003≤2005;omega⟩,_,x4,aN (aF _ _)⟩
theorem bW {W:Heap}{b q:Nat}(h:vB W b)(hq:b≤q):look W q=none:=by
 cases hl:look W q with
 |none=>rfl
 |some o=>have:=(h q o hl).1;omega
theorem aHf {l:List Pt}{D:List Dt}{ls:List (List Int)}{d:Nat}(h:vC l D ls=true)(h2:YX D ls=true)(hd:d<D.length):wkS l D ls [iv d]=some (true,xA D ls d,[]):=by
 have:=List.all_eq_true.1 h2 d (List.mem_range.2 hd);show some (vC l D ls&&decide ((0:Int)≤d)&&decide ((d:Int)<D.length)&&decide (pI D ls d (o9 D ls d)=d),xA D ls d,[])=_;rw [h,decide_eq_true (by omega:(0:Int)≤d),decide_eq_true (by omega:(d:Int)<D.length),this];rfl
theorem QM {l:List Pt}{D:List Dt}{ls:List (List Int)}{d:Nat}(h:vC l D ls=true)(hd:d<D.length):YL D (xA D ls d)=true∧(xA D ls d).length≤D.length+1∧1≤(xA D ls d).length:=by
 have hp:=nY D ls d D.length 1;refine⟨List.all_eq_true.2 fun x hx=>?_,?_,?_⟩
 ·obtain⟨i,_,rfl⟩:=List.mem_map.1 hx;have:=QE h (d:=d) (by omega) (by omega) i;simpa using this
 ·unfold xA o9;rw [List.length_map,List.length_range];omega
 ·unfold xA o9;rw [List.length_map,List.length_range];omega
theorem aHh {l:List Pt}{D:List Dt}{ls:List (List Int)}{L:List Int}(h:GW l D ls=true)(h1:YL D L=true)(h2:L.length≤100000):arS l D ls L=some (true,iv (JB l D L L.length)):=by
 unfold arS;rw [h,h1,decide_eq_true h2];rfl
theorem aAM {a:NM}(h3:vB a.R 2003)(h4:look a.R 7=none)(h6:a.k0<2003∧a.k1<2003∧a.kd<2003∧a.kt<2003){h:Heap}{s:PO}{nx:Nat}{b:Bool}(hb:b=zU s)(x1:look h 7=some (OM a (.slice (some ⟨2003,0,none⟩) a.D.length a.D.length)))
  (x2:look h 2003=some (.cells true false 1 (flat aO.fl s.face))) (hx:∀ k o,look a.R k=some o→look h k=some o) :
  ∃ ρ,oM 2003 ρ [(0,.tuple #[iv s.many,.bool (zU s)])] ((7,OM a (.slice (some ⟨2003,0,none⟩) a.D.length a.D.length))::(2003,.cells true false 1 (flat aO.fl s.face))::a.R) 2004 [(0,.tuple #[iv s.many,.bool b])] h nx:=by
 subst hb;have hsl:∀ {q a b:Nat},q<2004→CR 2004 (.slice (some ⟨q,0,none⟩) a b):=fun {q a b} hq=>⟨hq,fun h=>by cases h⟩;refine⟨id,fun t u hu=>?_,fun k o hk=>?_,fun _ _ _ _ _ _ e=>e,fun _ _=>rfl,by omega⟩
 ·have hm:=a8 hu;simp only [List.mem_cons,List.not_mem_nil,or_false] at hm;injection hm with e1 e2;subst e1 e2;exact⟨by rw [gP,iA rfl];rfl,dE rfl⟩
 ·rw [aD] at hk;split at hk
  ·rename_i hb;injection hk with hk;subst hk;rw [← beq_true hb];refine⟨by omega,_,x1,rfl,rfl,rfl,rfl,?_⟩;exact List.forall_mem_cons.2 ⟨hsl (by omega),List.forall_mem_cons.2 ⟨hsl (by omega),List.forall_mem_cons.2 ⟨cG rfl,List.forall_mem_cons.2 ⟨hsl (by omega),List.forall_mem_cons.2 ⟨hsl (by omega),List.forall_mem_cons.2 ⟨hsl (by omega),fun _ h=>(by cases h)⟩⟩⟩⟩⟩⟩
  ·rw [aD] at hk;split at hk
   ·rename_i hb;injection hk with hk;subst hk;rw [← beq_true hb];exact⟨by omega,_,x2,aN (aF _ _)⟩
   ·obtain⟨a1,a2⟩:=h3 k o hk;exact⟨by omega,o,hx k o hk,qO (fun _ _=>rfl) (by omega) a2⟩
theorem aIp:cO Go.Proofs.Tryz.prog 155 aGc:=UQ (aL (xl:=[aH4,aHq]) (.cons aLK (.cons aLx .nil))) fun a ⟨h1,h2,h3,h4,h5,h6⟩=>by
 have hn:=JM (CJ h1);unfold OM;((conv=>whnf);refine bm (fun g1=>?_) (fun g1=>?_))
 ·((conv=>whnf);refine bm (fun g1'=>?_) (fun g1'=>?_))
  ·(conv=>whnf);refine⟨fun q e h nx=>∃ (i:Nat) (j:Int),j=i∧i≤a.D.length∧q=a.D.length - i∧e=n9 a.D.length (dC a.l a.D a.ls i) j∧h=oD a (dC a.l a.D a.ls i)++a.R∧nx=2005,⟨a.D.length,?_⟩,?_⟩
   ·refine c8 (P:=oD a (dC a.l a.D a.ls 0)) (W:=a.R) (e0:=n9 a.D.length (dC a.l a.D a.ls 0) 0) (n0:=2005) [] ⟨0,0,rfl,Nat.zero_le _,rfl,rfl,rfl,rfl⟩ ?_ h3 ?_ ?_ ?_ (fun _ h=>(by cases h)) (by omega)
    ·unfold n9;((repeat' refine iE rfl rfl ?_);exact iN)
    ·exact cJ (fY (cJ (ext_cons (fun _ _ h=>h) h4) (bW h3 (by omega))) h4) (bW h3 (by omega))
    ·refine zX h6 (by omega) rfl ?_ ?_
     ·show some (aV.cells true false 1 (rep a.D.length [iv 0]))=some (.cells true false 1 (flat aO.fl (List.replicate a.D.length 0)));rw [aFI]
     ·show some (aV.cells true false 1 (rep a.D.length [.bool false]))=some (.cells true false 1 (flat fU.fl (List.replicate a.D.length false)));rw [R9]
    ·show ∀ k∈[7,2003,2004],∀ k'∈[7,2003,2004],_;decide
   ·rintro q e h nx ⟨i,j,hj,hi,rfl,rfl,rfl,rfl⟩;obtain⟨s1,s2,s3,s4,s5,s6⟩:=AN a.l a.D a.ls i;have hst:dC a.l a.D a.ls (i+1)=m9 a.l a.D a.ls (dC a.l a.D a.ls i) i:=rfl;generalize hss:dC a.l a.D a.ls i=s at s1 s2 s3 s4 s5 s6 hst ⊢;unfold n9 oD OM;((conv=>whnf);refine bm (fun g2=>?_) (fun g2=>?_))
    ·have hlt:i<a.D.length:=(by simp [aA,aC] at g2;omega);((conv=>whnf);refine bm (fun g3=>?_) (fun g3=>?_))
     ·(conv=>whnf);refine iB (M9 s.seen (i:=i) (by omega) ?_) ?_
      ·show _+Int.toNat j*1=_;omega
      ((conv=>whnf);refine bm (fun g4=>?_) (fun g4=>?_))
      ·have g4:cU s.seen i=true:=g4;unfold m9 at hst;rw [if_pos g4] at hst;((conv=>whnf);refine bm (fun g5=>?_) (fun g5=>?_))
       ·(conv=>whnf);refine⟨a.D.length - (i+1),by omega,?_⟩;refine c8 (P:=oD a (dC a.l a.D a.ls (i+1))) (W:=a.R) (e0:=n9 a.D.length (dC a.l a.D a.ls (i+1)) (j+1)) (n0:=2005) [] ⟨i+1,j+1,by omega,by omega,rfl,rfl,rfl,rfl⟩ ?_ h3 ?_ ?_ ?_ (fun _ h=>(by cases h)) (by omega)
        ·rw [hst];unfold n9;((repeat' refine iE rfl rfl ?_);exact iN)
        ·exact ext_cons (ext_cons (ext_cons (fun _ _ h=>h) (bW h3 (by omega))) (bW h3 (by omega))) h4
        ·rw [hst];exact zX h6 (by omega) rfl rfl rfl
        ·show ∀ k∈[7,2003,2004],∀ k'∈[7,2003,2004],_;decide
       ·exfalso;simp [aA,aC,aH] at g5;omega
      ·have g4:cU s.seen i=false:=g4;(conv=>whnf);have hx0:∀ k o,look a.R k=some o→look ([(7,aV.cells true false 1 [.slice (some ⟨a.k0,0,none⟩) a.l.length a.c1,.slice (some ⟨a.k1,0,none⟩) a.nE a.c2,iv a.n,.slice (some ⟨a.kd,0,none⟩) a.D.length a.D.length,.slice (some ⟨a.kt,0,none⟩) a.ls.length a.ls.length,.slice (some ⟨2003,0,none⟩) a.D.length a.D.length]),(2003,.cells true false 1 (flat aO.fl s.face)),(2004,.cells true false 1 (flat fU.fl s.seen))]++a.R) k=some o :=
        ext_cons (ext_cons (ext_cons (fun _ _ h=>h) (bW h3 (by omega))) (bW h3 (by omega))) h4
       have hwk:wkS a.l a.D a.ls [iv j]=some (true,xA a.D a.ls i,[]):=(by rw [hj];exact aHf h1 h2 hlt);obtain⟨w1,w2,w3⟩:=QM h1 hlt;refine⟨7,[iv j],a.k0,a.k1,a.kd,a.kt,2003,a.nm,a.l,a.D,a.ls,a.nE,a.c1,a.c2,a.n,some (a.D.length,a.D.length),rfl,h5.at hx0 rfl,?_⟩;rw [hwk];unfold m9 at hst;rw [if_neg (by rw [g4];decide)] at hst;simp only at hst;generalize xA a.D a.ls i=w at w1 w2 w3 hst hwk ⊢;refine aJ rfl ?_;(conv=>whnf);refine⟨7,2005,a.k0,a.k1,a.kd,a.kt,2003,a.nm,a.l,a.D,a.ls,a.nE,a.c1,a.c2,a.n,some (a.D.length,a.D.length),w,w.length,rfl,h5.at (cJ hx0 (bW h3 (by omega))) rfl,⟨_,_,_,_,rfl,List.take_length⟩,?_⟩;rw [aHh (CJ h1) w1 (by omega)];generalize JB a.l a.D w w.length=A at hst ⊢;refine aJ rfl ?_;((conv=>whnf);refine bm (fun g6=>?_) (fun g6=>?_))
       ·have hA:0<A:=(by simpa [aA,aC] using g6);simp only [if_pos hA] at hst;((conv=>whnf);refine bm (fun g7=>?_) (fun g7=>?_))
        ·skip
         have hst1:dC a.l a.D a.ls (i+1)=⟨dQ s.face w (s.many+1) w.length,fJ s.seen w w.length,s.many+1,s.out,s.flat⟩:=(by rw [hst]);(conv=>whnf);refine⟨fun q e h nx=>∃ (t:Nat) (x:Int),x=t∧t≤w.length∧q=w.length - t∧e=kP a.D.length ⟨dQ s.face w (s.many+1) t,fJ s.seen w t,s.many+1,s.out,s.flat⟩ j (s.many+1) w.length x∧h=(oD a ⟨dQ s.face w (s.many+1) t,fJ s.seen w t,s.many+1,s.out,s.flat⟩++[(2005,.cells true false 1 (flat aO.fl w))])++a.R∧nx=2006,⟨w.length,?_⟩,?_⟩
         ·refine c8 (P:=oD a ⟨s.face,s.seen,s.many+1,s.out,s.flat⟩++[(2005,.cells true false 1 (flat aO.fl w))]) (W:=a.R) (e0:=kP a.D.length ⟨s.face,s.seen,s.many+1,s.out,s.flat⟩ j (s.many+1) w.length 0) (n0:=2006) [] ⟨0,0,rfl,Nat.zero_le _,rfl,rfl,rfl,rfl⟩ ?_ h3 ?_ ?_ ?_ (fun _ h=>(by cases h)) (by omega)
          ·unfold kP n9;((repeat' refine iE rfl rfl ?_);exact iN)
          ·exact cJ hx0 (bW h3 (by omega))
          ·exact zV h6 rfl rfl rfl rfl
          ·show ∀ k∈[7,2003,2004,2005],∀ k'∈[7,2003,2004,2005],_;decide
         ·rintro q e h nx ⟨t,x,hx,ht,rfl,rfl,rfl,rfl⟩;unfold kP n9 oD OM;((conv=>whnf);refine bm (fun m1=>?_) (fun m1=>?_))
          ·have htl:t<w.length:=(by simp [aA,aC] at m1;omega);have hwd:=rE w1 (i:=t) htl;((conv=>whnf);refine bm (fun m2=>?_) (fun m2=>?_))
           ·(conv=>whnf);refine iB (fN w (i:=t) htl ?_) ?_
            ·show _+Int.toNat x*1=_;omega
            have hsf:=eX s.face w (s.many+1) t;have hss:=kC s.seen w t
            repeat' first
             |(((conv=>whnf);refine bm (fun m=>?_) (fun m=>?_)))
            all_goals first
             |(exfalso;simp [aA,aC,aH] at m;omega)
             |(exfalso
               have hb:Nat.ble (0+Int.toNat (aM w t)*1+1) (flat fU.fl (fJ s.seen w t)).length=true:=Nat.ble_eq_true_of_le (by rw [bE];show _≤(fJ s.seen w t).length*1;omega);exact Bool.false_ne_true (m.symm.trans hb))
             |(exfalso
               have hb:Nat.ble (0+Int.toNat (aM w t)*1+1) (flat aO.fl (dQ s.face w (s.many+1) t)).length=true:=Nat.ble_eq_true_of_le (by rw [bE];show _≤(dQ s.face w (s.many+1) t).length*1;omega);exact Bool.false_ne_true (m.symm.trans hb))
             |skip
            (conv=>whnf);refine⟨w.length - (t+1),by omega,?_⟩;refine c8 (P:=oD a ⟨dQ s.face w (s.many+1) (t+1),fJ s.seen w (t+1),s.many+1,s.out,s.flat⟩++[(2005,.cells true false 1 (flat aO.fl w))]) (W:=a.R) (e0:=kP a.D.length ⟨dQ s.face w (s.many+1) (t+1),fJ s.seen w (t+1),s.many+1,s.out,s.flat⟩ j (s.many+1) w.length (x+1)) (n0:=2006) [] ⟨t+1,x+1,by omega,by omega,rfl,rfl,rfl,rfl⟩ ?_ h3 ?_ ?_ ?_ (fun _ h=>(by cases h)) (by omega)
            ·unfold kP n9;((repeat' refine iE rfl rfl ?_);exact iN)
            ·exact fY (fY (ext_cons (ext_cons (ext_cons (ext_cons (fun _ _ h=>h) (bW h3 (by omega))) (bW h3 (by omega))) (bW h3 (by omega))) h4) (bW h3 (by omega))) (bW h3 (by omega))
            ·refine zV h6 rfl ?_ ?_ rfl
             ·show some (aV.cells true false 1 (dJ (flat aO.fl (dQ s.face w (s.many+1) t)) (0+Int.toNat (aM w t)*1) [iv (s.many+1)]))=_;rw [qG (by omega) (by omega)]
             ·show some (aV.cells true false 1 (dJ (flat fU.fl (fJ s.seen w t)) (0+Int.toNat (aM w t)*1) [.bool true]))=_;rw [EW (by omega) (by omega)]
            ·show ∀ k∈[7,2003,2004,2005],∀ k'∈[7,2003,2004,2005],_;decide
           ·exfalso;simp [aA,aC] at m2;omega
          ·have htl:t=w.length:=(by simp [aA,aC] at m1;omega);((conv=>whnf);refine bm (fun m2=>?_) (fun m2=>?_))
           ·(conv=>whnf);refine⟨a.D.length - (i+1),by omega,?_⟩;refine c8 (P:=oD a (dC a.l a.D a.ls (i+1))) (W:=a.R) (e0:=n9 a.D.length (dC a.l a.D a.ls (i+1)) (j+1)) (n0:=2005) [] ⟨i+1,j+1,by omega,by omega,rfl,rfl,rfl,rfl⟩ ?_ h3 ?_ ?_ ?_ (fun _ h=>(by cases h)) (by omega)
            ·rw [hst1];unfold n9;((repeat' refine iE rfl rfl ?_);exact iN)
            ·exact (ext_cons (ext_cons (ext_cons (ext_cons (fun _ _ h=>h) (bW h3 (by omega))) (bW h3 (by omega))) (bW h3 (by omega))) h4)
            ·rw [hst1,← htl];exact zX h6 (by omega) rfl rfl rfl
            ·show ∀ k∈[7,2003,2004],∀ k'∈[7,2003,2004],_;decide
           ·exfalso;simp [aA,aC,aH] at m2;omega
        ·exfalso;simp [aA,aC,aH] at g7;omega
       ·have hA:¬ 0<A:=(by simpa [aA,aC] using g6);simp only [if_neg hA] at hst;((conv=>whnf);refine bm (fun g7=>?_) (fun g7=>?_))
        ·have hA2:A<0:=(by simpa [aA,aC] using g7);simp only [if_pos hA2] at hst;((conv=>whnf);refine bm (fun g8=>?_) (fun g8=>?_))
         ·skip
          have hst1:dC a.l a.D a.ls (i+1)=⟨dQ s.face w (0) w.length,fJ s.seen w w.length,s.many,s.out+1,s.flat⟩:=(by rw [hst]);(conv=>whnf);refine⟨fun q e h nx=>∃ (t:Nat) (x:Int),x=t∧t≤w.length∧q=w.length - t∧e=kP a.D.length ⟨dQ s.face w (0) t,fJ s.seen w t,s.many,s.out+1,s.flat⟩ j (0) w.length x∧h=(oD a ⟨dQ s.face w (0) t,fJ s.seen w t,s.many,s.out+1,s.flat⟩++[(2005,.cells true false 1 (flat aO.fl w))])++a.R∧nx=2006,⟨w.length,?_⟩,?_⟩
          ·refine c8 (P:=oD a ⟨s.face,s.seen,s.many,s.out+1,s.flat⟩++[(2005,.cells true false 1 (flat aO.fl w))]) (W:=a.R) (e0:=kP a.D.length ⟨s.face,s.seen,s.many,s.out+1,s.flat⟩ j (0) w.length 0) (n0:=2006) [] ⟨0,0,rfl,Nat.zero_le _,rfl,rfl,rfl,rfl⟩ ?_ h3 ?_ ?_ ?_ (fun _ h=>(by cases h)) (by omega)
           ·unfold kP n9;((repeat' refine iE rfl rfl ?_);exact iN)
           ·exact cJ hx0 (bW h3 (by omega))
           ·exact zV h6 rfl rfl rfl rfl
           ·show ∀ k∈[7,2003,2004,2005],∀ k'∈[7,2003,2004,2005],_;decide
          ·rintro q e h nx ⟨t,x,hx,ht,rfl,rfl,rfl,rfl⟩;unfold kP n9 oD OM;((conv=>whnf);refine bm (fun m1=>?_) (fun m1=>?_))
           ·have htl:t<w.length:=(by simp [aA,aC] at m1;omega);have hwd:=rE w1 (i:=t) htl;((conv=>whnf);refine bm (fun m2=>?_) (fun m2=>?_))
            ·(conv=>whnf);refine iB (fN w (i:=t) htl ?_) ?_
             ·show _+Int.toNat x*1=_;omega
             have hsf:=eX s.face w (0) t;have hss:=kC s.seen w t
             repeat' first
              |(((conv=>whnf);refine bm (fun m=>?_) (fun m=>?_)))
             all_goals first
              |(exfalso;simp [aA,aC,aH] at m;omega)
              |(exfalso
                have hb:Nat.ble (0+Int.toNat (aM w t)*1+1) (flat fU.fl (fJ s.seen w t)).length=true:=Nat.ble_eq_true_of_le (by rw [bE];show _≤(fJ s.seen w t).length*1;omega);exact Bool.false_ne_true (m.symm.trans hb))
              |(exfalso
                have hb:Nat.ble (0+Int.toNat (aM w t)*1+1) (flat aO.fl (dQ s.face w (0) t)).length=true:=Nat.ble_eq_true_of_le (by rw [bE];show _≤(dQ s.face w (0) t).length*1;omega);exact Bool.false_ne_true (m.symm.trans hb))
              |skip
             (conv=>whnf);refine⟨w.length - (t+1),by omega,?_⟩;refine c8 (P:=oD a ⟨dQ s.face w (0) (t+1),fJ s.seen w (t+1),s.many,s.out+1,s.flat⟩++[(2005,.cells true false 1 (flat aO.fl w))]) (W:=a.R) (e0:=kP a.D.length ⟨dQ s.face w (0) (t+1),fJ s.seen w (t+1),s.many,s.out+1,s.flat⟩ j (0) w.length (x+1)) (n0:=2006) [] ⟨t+1,x+1,by omega,by omega,rfl,rfl,rfl,rfl⟩ ?_ h3 ?_ ?_ ?_ (fun _ h=>(by cases h)) (by omega)
             ·unfold kP n9;((repeat' refine iE rfl rfl ?_);exact iN)
             ·exact fY (fY (ext_cons (ext_cons (ext_cons (ext_cons (fun _ _ h=>h) (bW h3 (by omega))) (bW h3 (by omega))) (bW h3 (by omega))) h4) (bW h3 (by omega))) (bW h3 (by omega))
             ·refine zV h6 rfl ?_ ?_ rfl
              ·show some (aV.cells true false 1 (dJ (flat aO.fl (dQ s.face w (0) t)) (0+Int.toNat (aM w t)*1) [iv (0)]))=_;rw [qG (by omega) (by omega)]
              ·show some (aV.cells true false 1 (dJ (flat fU.fl (fJ s.seen w t)) (0+Int.toNat (aM w t)*1) [.bool true]))=_;rw [EW (by omega) (by omega)]
             ·show ∀ k∈[7,2003,2004,2005],∀ k'∈[7,2003,2004,2005],_;decide
            ·exfalso;simp [aA,aC] at m2;omega
           ·have htl:t=w.length:=(by simp [aA,aC] at m1;omega);((conv=>whnf);refine bm (fun m2=>?_) (fun m2=>?_))
            ·(conv=>whnf);refine⟨a.D.length - (i+1),by omega,?_⟩;refine c8 (P:=oD a (dC a.l a.D a.ls (i+1))) (W:=a.R) (e0:=n9 a.D.length (dC a.l a.D a.ls (i+1)) (j+1)) (n0:=2005) [] ⟨i+1,j+1,by omega,by omega,rfl,rfl,rfl,rfl⟩ ?_ h3 ?_ ?_ ?_ (fun _ h=>(by cases h)) (by omega)
             ·rw [hst1];unfold n9;((repeat' refine iE rfl rfl ?_);exact iN)
             ·exact (ext_cons (ext_cons (ext_cons (ext_cons (fun _ _ h=>h) (bW h3 (by omega))) (bW h3 (by omega))) (bW h3 (by omega))) h4)
             ·rw [hst1,← htl];exact zX h6 (by omega) rfl rfl rfl
             ·show ∀ k∈[7,2003,2004],∀ k'∈[7,2003,2004],_;decide
            ·exfalso;simp [aA,aC,aH] at m2;omega
         ·exfalso;simp [aA,aC,aH] at g8;omega
        ·have hA2:¬ A<0:=(by simpa [aA,aC] using g7);simp only [if_neg hA2] at hst;have hst1:dC a.l a.D a.ls (i+1)=⟨dQ s.face w (0) w.length,fJ s.seen w w.length,s.many,s.out,true⟩:=(by rw [hst]);(conv=>whnf);refine⟨fun q e h nx=>∃ (t:Nat) (x:Int),x=t∧t≤w.length∧q=w.length - t∧e=kP a.D.length ⟨dQ s.face w (0) t,fJ s.seen w t,s.many,s.out,true⟩ j (0) w.length x∧h=(oD a ⟨dQ s.face w (0) t,fJ s.seen w t,s.many,s.out,true⟩++[(2005,.cells true false 1 (flat aO.fl w))])++a.R∧nx=2006,⟨w.length,?_⟩,?_⟩
         ·refine c8 (P:=oD a ⟨s.face,s.seen,s.many,s.out,true⟩++[(2005,.cells true false 1 (flat aO.fl w))]) (W:=a.R) (e0:=kP a.D.length ⟨s.face,s.seen,s.many,s.out,true⟩ j (0) w.length 0) (n0:=2006) [] ⟨0,0,rfl,Nat.zero_le _,rfl,rfl,rfl,rfl⟩ ?_ h3 ?_ ?_ ?_ (fun _ h=>(by cases h)) (by omega)
          ·unfold kP n9;((repeat' refine iE rfl rfl ?_);exact iN)
          ·exact cJ hx0 (bW h3 (by omega))
          ·exact zV h6 rfl rfl rfl rfl
          ·show ∀ k∈[7,2003,2004,2005],∀ k'∈[7,2003,2004,2005],_;decide
         ·rintro q e h nx ⟨t,x,hx,ht,rfl,rfl,rfl,rfl⟩;unfold kP n9 oD OM;((conv=>whnf);refine bm (fun m1=>?_) (fun m1=>?_))
          ·have htl:t<w.length:=(by simp [aA,aC] at m1;omega);have hwd:=rE w1 (i:=t) htl;((conv=>whnf);refine bm (fun m2=>?_) (fun m2=>?_))
           ·(conv=>whnf);refine iB (fN w (i:=t) htl ?_) ?_
            ·show _+Int.toNat x*1=_;omega
            have hsf:=eX s.face w (0) t;have hss:=kC s.seen w t
            repeat' first
             |(((conv=>whnf);refine bm (fun m=>?_) (fun m=>?_)))
            all_goals first
             |(exfalso;simp [aA,aC,aH] at m;omega)
             |(exfalso
               have hb:Nat.ble (0+Int.toNat (aM w t)*1+1) (flat fU.fl (fJ s.seen w t)).length=true:=Nat.ble_eq_true_of_le (by rw [bE];show _≤(fJ s.seen w t).length*1;omega);exact Bool.false_ne_true (m.symm.trans hb))
             |(exfalso
               have hb:Nat.ble (0+Int.toNat (aM w t)*1+1) (flat aO.fl (dQ s.face w (0) t)).length=true:=Nat.ble_eq_true_of_le (by rw [bE];show _≤(dQ s.face w (0) t).length*1;omega);exact Bool.false_ne_true (m.symm.trans hb))
             |skip
            (conv=>whnf);refine⟨w.length - (t+1),by omega,?_⟩;refine c8 (P:=oD a ⟨dQ s.face w (0) (t+1),fJ s.seen w (t+1),s.many,s.out,true⟩++[(2005,.cells true false 1 (flat aO.fl w))]) (W:=a.R) (e0:=kP a.D.length ⟨dQ s.face w (0) (t+1),fJ s.seen w (t+1),s.many,s.out,true⟩ j (0) w.length (x+1)) (n0:=2006) [] ⟨t+1,x+1,by omega,by omega,rfl,rfl,rfl,rfl⟩ ?_ h3 ?_ ?_ ?_ (fun _ h=>(by cases h)) (by omega)
            ·unfold kP n9;((repeat' refine iE rfl rfl ?_);exact iN)
            ·exact fY (fY (ext_cons (ext_cons (ext_cons (ext_cons (fun _ _ h=>h) (bW h3 (by omega))) (bW h3 (by omega))) (bW h3 (by omega))) h4) (bW h3 (by omega))) (bW h3 (by omega))
            ·refine zV h6 rfl ?_ ?_ rfl
             ·show some (aV.cells true false 1 (dJ (flat aO.fl (dQ s.face w (0) t)) (0+Int.toNat (aM w t)*1) [iv (0)]))=_;rw [qG (by omega) (by omega)]
             ·show some (aV.cells true false 1 (dJ (flat fU.fl (fJ s.seen w t)) (0+Int.toNat (aM w t)*1) [.bool true]))=_;rw [EW (by omega) (by omega)]
            ·show ∀ k∈[7,2003,2004,2005],∀ k'∈[7,2003,2004,2005],_;decide
           ·exfalso;simp [aA,aC] at m2;omega
          ·have htl:t=w.length:=(by simp [aA,aC] at m1;omega);((conv=>whnf);refine bm (fun m2=>?_) (fun m2=>?_))
           ·(conv=>whnf);refine⟨a.D.length - (i+1),by omega,?_⟩;refine c8 (P:=oD a (dC a.l a.D a.ls (i+1))) (W:=a.R) (e0:=n9 a.D.length (dC a.l a.D a.ls (i+1)) (j+1)) (n0:=2005) [] ⟨i+1,j+1,by omega,by omega,rfl,rfl,rfl,rfl⟩ ?_ h3 ?_ ?_ ?_ (fun _ h=>(by cases h)) (by omega)
            ·rw [hst1];unfold n9;((repeat' refine iE rfl rfl ?_);exact iN)
            ·exact (ext_cons (ext_cons (ext_cons (ext_cons (fun _ _ h=>h) (bW h3 (by omega))) (bW h3 (by omega))) (bW h3 (by omega))) h4)
            ·rw [hst1,← htl];exact zX h6 (by omega) rfl rfl rfl
            ·show ∀ k∈[7,2003,2004],∀ k'∈[7,2003,2004],_;decide
           ·exfalso;simp [aA,aC,aH] at m2;omega
     ·exfalso;simp [aA,aC] at g3;omega
    ·have hge:i=a.D.length:=(by simp [aA,aC] at g2;omega);subst hge;unfold M8 nmD;rw [hss];((conv=>whnf);refine bm (fun g3=>?_) (fun g3=>?_))
     ·have g3:s.out=1:=(by simpa [aA,aC] using g3);(conv=>whnf);refine aAM h3 h4 h6 (b:=!s.flat) (by unfold zU;rw [decide_eq_true g3];rfl) rfl rfl (ext_cons (ext_cons (ext_cons (fun _ _ h=>h) (bW h3 (by omega))) (bW h3 (by omega))) h4)
     ·have g3:¬ s.out=1:=(by simpa [aA,aC] using g3);(conv=>whnf);refine aAM h3 h4 h6 (b:=false) (by unfold zU;rw [decide_eq_false g3];rfl) rfl rfl (ext_cons (ext_cons (ext_cons (fun _ _ h=>h) (bW h3 (by omega))) (bW h3 (by omega))) h4)
  ·exfalso;simp [aA,aC,aH] at g1';omega
 ·exfalso;simp [aA,aC,aH] at g1;omega
theorem YD {b n:Nat}{o:aV}(h:bX id b o o)(hc:KZ o=true):bX id (n+b) (TR n o) (TR n o):=by
 cases o with
 |cells wr g sz cs =>
  obtain⟨_,_,_,h4,h5⟩:=h;have key:∀ v∈cs,bS id (bS (fun k=>n+k) v)=bS (fun k=>n+k) v∧CR (n+b) (bS (fun k=>n+k) v):=fun v hv=>by
   have hn:CR (n+b) (bS (fun k=>n+k) v):=jT (m:=b) (aAB (h5 v hv)) (fun k hk=>by omega);refine⟨?_,hn⟩;unfold bS;rw [iU (n:=n+b) hn];rfl
  refine⟨rfl,rfl,rfl,?_,fun v hv=>?_⟩
  ·rw [List.map_map];exact List.map_congr_left fun v hv=>(key v hv).1.symm
  ·obtain⟨u,hu,rfl⟩:=List.mem_map.1 hv;exact (key u hu).2
 |_=>cases hc
theorem QR {W:Heap}{b n:Nat}(h:vB W b)(hc:gM W=true):vB (mU n W) (n+b):=fun k o hk=>by
 obtain⟨j,o',rfl,h1,rfl⟩:=lK W hk;obtain⟨a1,a2⟩:=h j o' h1;obtain⟨wr,g,sz,cs,rfl⟩:=oQ hc h1;exact⟨by omega,YD a2 rfl⟩
theorem MP {W:Heap}{b:Nat}(h:vB W b)(hc:gM W=true):vB (eD W) b:=fun k o hk=>by
 rw [jV] at hk;cases hq:look W k with
 |none=>rw [hq] at hk;cases hk
 |some q =>
  rw [hq] at hk;injection hk with hk;subst hk;obtain⟨a1,a2⟩:=h k q hq;obtain⟨wr,g,sz,cs,rfl⟩:=oQ hc hq;exact⟨a1,rfl,rfl,rfl,a2.2.2.2.1,a2.2.2.2.2⟩
theorem S4 {A B:Heap}{b:Nat}(hA:vB A b)(hB:vB B b):vB (app A B) b:=fun k o hk=>by
 rw [gF] at hk;split at hk
 ·rename_i o' ho;injection hk with hk;subst hk;exact hA k o' ho
 ·exact hB k o hk
def u6 (l:List Pt)(m:List Ed):Heap :=
 (6,.cells true false 5 (flat rK.fl (bC l m m.length)))::(5,.cells true false 1 (tC (outs l m).length (outs l m)))::(0,.cells false true aQ.sz (flat aQ.fl l))::(1,.cells false true aU.sz (flat aU.fl m))::tH (outs l m).length (outs l m) (outs l m).length
theorem OR {l:List Pt}{m:List Ed}{p:Nat × aV}(h:p∈u6 l m):p=(6,.cells true false 5 (flat rK.fl (bC l m m.length)))∨p=(5,.cells true false 1 (tC (outs l m).length (outs l m)))∨p=(0,.cells false true aQ.sz (flat aQ.fl l))∨p=(1,.cells false true aU.sz (flat aU.fl m)) ∨
  ∃ i,i<(outs l m).length∧(bK (outs l m) i).length≠0∧p=(i+1000,ob (bK (outs l m) i)):=by
 unfold u6 at h;simp only [List.mem_cons] at h;rcases h with h|h|h|h|h
 ·exact .inl h
 ·exact .inr (.inl h)
 ·exact .inr (.inr (.inl h))
 ·exact .inr (.inr (.inr (.inl h)))
 ·obtain⟨i,h1,h2,h3,h4⟩:=AO h;exact .inr (.inr (.inr (.inr ⟨i,h1,h3,h4⟩)))
theorem OD {l:List Pt}{m:List Ed}(hl:l.length≤1000):vB (u6 l m) 2000:=fun k o hk=>by
 have hol:=fK l m;rcases OR (a8 hk) with h|h|h|h|⟨i,h1,h2,h⟩
 ·injection h with e1 e2;subst e1 e2;exact⟨by omega,aN (aF _ _)⟩
 ·injection h with e1 e2;subst e1 e2;exact⟨by omega,rfl,rfl,rfl,GG (ρ:=id) (kW _ _) fun i hi=>BJ hi,IJ (by omega) (by omega)⟩
 ·injection h with e1 e2;subst e1 e2;exact⟨by omega,aN (aF _ _)⟩
 ·injection h with e1 e2;subst e1 e2;exact⟨by omega,aN (aF _ _)⟩
 ·injection h with e1 e2;subst e1 e2;exact⟨by omega,aN (aF _ _)⟩
theorem rD {l:List Pt}{m:List Ed}:gM (u6 l m)=true:=zJ _ _ _
def KH (l:List Pt)(m:List Ed)(c1 c2:Nat)(n:Int):Heap:=(2,aX l.length m.length c1 c2 n)::aB aQ aU l m
theorem aEs {l:List Pt}{m:List Ed}{c1 c2:Nat}{n:Int}:vB (KH l m c1 c2 n) 3:=by
 refine bY (bY (bY (fun k o hk=>by cases hk) (by omega) (aN (aF _ _))) (by omega) (aN (aF _ _))) (by omega) ⟨rfl,rfl,rfl,rfl,?_⟩;exact List.forall_mem_cons.2 ⟨⟨Nat.le_of_ble_eq_true rfl,fun h=>by cases h⟩,List.forall_mem_cons.2 ⟨⟨Nat.le_of_ble_eq_true rfl,fun h=>by cases h⟩,List.forall_mem_cons.2 ⟨cG rfl,fun _ h=>(by cases h)⟩⟩⟩
def oX (l:List Pt)(m:List Ed)(c1 c2:Nat)(n:Int):Heap:=app (mU 3 (u6 l m)) (eD (KH l m c1 c2 n))
def XU (l:List Pt)(m:List Ed)(c1 c2:Nat)(n:Int):NM:=⟨oX l m c1 c2 n,3,4,9,8,fun i=>3+(i+1000),l,bC l m m.length,outs l m,m.length,c1,c2,n⟩
theorem ZG {l:List Pt}{m:List Ed}{c1 c2:Nat}{n:Int}:app (mU 3 (aD6 l m c1 c2 n)) (eD (KH l m c1 c2 n))=(7,OM (XU l m c1 c2 n) aP)::oX l m c1 c2 n:=by
 unfold OM XU;simp only [bR,fK];rfl
theorem LZ {l:List Pt}{m:List Ed}{c1 c2:Nat}{n:Int}{j:Nat}{o:aV}(h:look (u6 l m) j=some o):look (oX l m c1 c2 n) (3+j)=some (TR 3 o):=by
 unfold oX;rw [gF,j3 _ h]
theorem U7 {l:List Pt}{m:List Ed}{c1 c2:Nat}{n:Int}:WbR (oX l m c1 c2 n) 3 9 8 (fun i=>3+(i+1000)) l (bC l m m.length) (outs l m):=by
 have hfl:∀ {α:Type} (E:El α) (x:List α),(flat E.fl x).map (bS fun k=>3+k)=flat E.fl x:=fun E x=>bL (aF E x);refine⟨⟨_,_,_,_,LZ (j:=0) rfl,?_⟩,⟨_,_,_,_,LZ (j:=6) rfl,?_⟩,⟨true,false,1,?_⟩,fun i hi h0=>⟨true,false,1,flat aO.fl (bK (outs l m) i),?_,List.take_length⟩⟩
 ·rw [hfl];exact List.take_length
 ·rw [hfl];exact List.take_length
 ·rw [LZ (j:=5) (o:=.cells true false 1 (tC (outs l m).length (outs l m))) rfl];show some (aV.cells true false 1 ((tC (outs l m).length (outs l m)).map (bS fun k=>3+k)))=_;unfold tC;rw [List.map_map];congr 2;refine List.map_congr_left fun i hi=>?_;show bS _ (tV (tN (outs l m).length i) (bK (outs l m) i))=_;rw [D6];unfold tN;rw [if_neg (by have:=List.mem_range.1 hi;omega)]
 ·have:look (u6 l m) (i+1000)=some (ob (bK (outs l m) i)):=by
   unfold u6;rw [bD (by omega),bD (by omega),bD (by omega),bD (by omega)];exact kB (by omega) h0 hi
  rw [LZ this];show some (aV.cells true false 1 ((flat aO.fl (bK (outs l m) i)).map (bS fun k=>3+k)))=_;rw [hfl]
theorem aFh {l:List Pt}{m:List Ed}{c1 c2:Nat}{n:Int}:look (oX l m c1 c2 n) 7=none:=by
 cases hl:look (oX l m c1 c2 n) 7 with
 |none=>rfl
 |some o =>
  exfalso;unfold oX at hl;rw [gF] at hl;split at hl
  ·rename_i o' ho;obtain⟨j,q,e1,e2,_⟩:=lK _ ho;rcases OR (a8 e2) with h|h|h|h|⟨i,h1,h2,h⟩ <;> (injection h with e3 e4;omega)
  ·cases hl
theorem aDY {l:List Pt}{m:List Ed}{c1 c2:Nat}{n:Int}(hl:l.length≤1000):vB (oX l m c1 c2 n) 2003 :=
 S4 (QR (n:=3) (OD hl) rD) (xP (MP aEs rfl) (by omega))
theorem aG2 {l:List Pt}{m:List Ed}{c1 c2:Nat}{n:Int}(hl:l.length≤1000)(h1:vC l (bC l m m.length) (outs l m)=true)(h2:YX (bC l m m.length) (outs l m)=true):aEI (XU l m c1 c2 n) :=
 ⟨h1,h2,aDY hl,aFh,U7,Nat.le_of_ble_eq_true rfl,Nat.le_of_ble_eq_true rfl,Nat.le_of_ble_eq_true rfl,Nat.le_of_ble_eq_true rfl⟩
end Go.Aw
end
