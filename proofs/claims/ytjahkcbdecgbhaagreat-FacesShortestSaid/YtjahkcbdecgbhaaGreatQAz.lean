/-
  Parts of a proof. No condition.
-/
import Derived.Test.YtjahkcbdecgbhaaGreatQAy
set_option linter.unusedSimpArgs false
set_option linter.unusedVariables false
noncomputable section
namespace Go.Aw
set_option maxRecDepth 100000
set_option maxHeartbeats 2000000
def eH (D:List Dt)(ls:List (List Int)):List Bool:=CL D ls 1000 (List.replicate ls.length false) 0
def cnS (l:List Pt)(D:List Dt)(ls:List (List Int)):List Value→Option (Bool × Value)
 |[]=>some (GV l D ls&&XI D ls&&decide (1≤ls.length),.bool ((eH D ls).all id))
 |_=>none
def VI:Nat × XF:=(154,wbX cnS)
theorem aIm:dM Go.Proofs.Tryz.prog VI.1 VI.2:=P8 (f:=154) (s:=cnS) (aO (xl:=[(211,aGp 1000),V8]) (.cons (aEV 1000) (.cons aEv .nil))) fun l D ls r v hs=>by
 have:r=[]∧GV l D ls=true∧XI D ls=true∧1≤ls.length∧v=.bool ((eH D ls).all id):=by
  unfold cnS at hs;split at hs
  ·injection hs with hs;injection hs with h1 h2;simp only [Bool.and_eq_true,decide_eq_true_eq] at h1;exact⟨rfl,h1.1.1,h1.1.2,h1.2,h2.symm⟩
  ·cases hs
 obtain⟨rfl,h1,h2,h3,rfl⟩:=this;clear hs;have hn:=IU h1;refine⟨rfl,rfl,by omega,ls.length,fun nE c1 c2 n fo=>?_⟩;unfold fG AJ;rw [kP (Nat.le_refl _)];((conv=>whnf);refine bm (fun g1=>?_) (fun g1=>?_))
 ·((conv=>whnf);refine bm (fun g=>?_) (fun g=>?_))
  ·(conv=>whnf);refine⟨⟨0,l,D,ls,nE,c1,c2,n,fo,List.replicate ls.length false⟩,⟨h1,h2,Int.le_refl 0,?_,List.length_replicate,?_,?_⟩,rfl,?_,rfl,?_⟩
   ·show (0:Int)<(ls.length:Int);omega
   ·show dF (List.replicate ls.length false) 0=false;unfold dF;rw [List.getD_eq_getElem?_getD,List.getElem?_replicate];split <;> rfl
   ·have:fU (List.replicate ls.length false)≤(List.replicate ls.length false).length:=List.countP_le_length;rw [List.length_replicate] at this;show fU (List.replicate ls.length false)≤1000;omega
   ·show _=qZ _ (List.replicate ls.length false);unfold qZ fG AJ;simp only;rw [kP (Nat.le_refl _),← Q6];rfl
   ·(conv=>whnf);have hrl:(eH D ls).length=ls.length:=by
     unfold eH;rw [(FV D ls 1000 _ 0).2,List.length_replicate]
    refine⟨eH D ls,⟨hrl.symm,_,_,_,_,rfl,by rw [List.drop_zero];exact List.take_length⟩,?_⟩;rw [show ctS (eH D ls) ([Value.bool false].append #[].toList)=some (true,.bool (!((eH D ls).all id))) from by
     show some (decide ((eH D ls).length≤1000000),Value.bool (!((eH D ls).all id)))=_;rw [decide_eq_true (by omega)]]
    refine aJ rfl ?_;(conv=>whnf);show Value.bool (!(!((eH D ls).all id)))=_;rw [Bool.not_not]
  ·exfalso;have g:decide ((0:Int)<(ls.length:Int))=false:=g;simp only [decide_eq_false_iff_not] at g;omega
 ·exfalso;simp [aA,aF,aI] at g1;omega
theorem aW {b n0 nx:Nat}{I:KS}{e0 e:List (Nat × Value)}{P W h:Heap}(L:List (Nat × Nat))(hI:I e0 (P++W) n0)(he:∀ p∈e0,look e p.1=some (iB (rn L) p.2)∧A0 n0 p.2)(hW:∀ k o,look W k=some o→k<b∧bO id b o o)(hk:∀ k o,look W k=some o→look h k=some o)
  (hP:∀ p∈P,((b≤p.1∧p.1<n0∧b≤rn L p.1)∨p.1<b)∧∃ o',look h (rn L p.1)=some o'∧bO (rn L) n0 p.2 o') (hi:∀ k∈P.map Prod.fst,∀ k'∈P.map Prod.fst,rn L k=rn L k'→k=k') (hL:∀ p∈L,b≤p.1) (hb:b≤n0):qU b I e h nx:=by
 have hfix:∀ k,k<b→rn L k=k:=fun k hk=>by
  unfold rn;split
  ·rename_i q hq;have:=hL _ (bF hq);simp only at this;omega
  ·rfl
 refine⟨e0,P++W,n0,rn L,hI,fun t v hv=>he (t,v) (bF hv),fun k o hk'=>?_,fun k k' o o' h1 h2 e=>?_,hfix,hb⟩
 ·rcases oU hk' with hm|hm
  ·obtain⟨a1,a2⟩:=hP _ hm;simp only at a1;exact⟨by omega,a2⟩
  ·obtain⟨a1,a2⟩:=hW k o hm;exact⟨by omega,o,by rw [hfix k a1];exact hk k o hm,qG hfix hb a2⟩
 ·rcases oU h1 with m1|m1 <;> rcases oU h2 with m2|m2
  ·exact hi k (List.mem_map.2 ⟨_,m1,rfl⟩) k' (List.mem_map.2 ⟨_,m2,rfl⟩) e
  ·have:=(hP _ m1).1;have b2:=(hW _ _ m2).1;simp only at this;rw [hfix k' b2] at e;rcases this with this|this
   ·omega
   ·rw [hfix k this] at e;exact e
  ·have:=(hP _ m2).1;have b2:=(hW _ _ m1).1;simp only at this;rw [hfix k b2] at e;rcases this with this|this
   ·omega
   ·rw [hfix k' this] at e;exact e
  ·rwa [hfix k (hW _ _ m1).1,hfix k' (hW _ _ m2).1] at e
structure P7 where
 face:List Int
 seen:List Bool
 many:Int
 out:Int
 flat:Bool
def fD (s:List Bool)(w:List Int):Nat→List Bool
 |0=>s
 |i+1=>(fD s w i).set (aB w i).toNat true
theorem j4 (s:List Bool)(w:List Int):∀ i,(fD s w i).length=s.length
 |0=>rfl
 |i+1=>by unfold fD;rw [List.length_set];exact j4 s w i
def kK (l:List Pt)(D:List Dt)(ls:List (List Int))(s:P7)(d:Nat):P7 :=
 if dF s.seen d=true then s else
  let w:=uJ D ls d;let a:=G0 l D w w.length;let fc:=if 0<a then s.many+1 else 0
  ⟨fO s.face w fc w.length,fD s.seen w w.length,if 0<a then s.many+1 else s.many,if 0<a then s.out else if a<0 then s.out+1 else s.out,if 0<a then s.flat else if a<0 then s.flat else true⟩
def cE (l:List Pt)(D:List Dt)(ls:List (List Int)):Nat→P7
 |0=>⟨List.replicate D.length 0,List.replicate D.length false,0,0,false⟩
 |d+1=>kK l D ls (cE l D ls d) d
def nmD (l:List Pt)(D:List Dt)(ls:List (List Int)):P7:=cE l D ls D.length
def AO (s:P7):Bool:=decide (s.out=1)&&!s.flat
theorem tR (l:List Pt)(D:List Dt)(ls:List (List Int)):∀ d,(cE l D ls d).face.length=D.length∧(cE l D ls d).seen.length=D.length∧0≤(cE l D ls d).many∧(cE l D ls d).many≤d∧0≤(cE l D ls d).out∧(cE l D ls d).out≤d
 |0=>by unfold cE;simp
 |d+1=>by
  obtain⟨h1,h2,h3,h4,h5,h6⟩:=tR l D ls d;unfold cE kK;split
  ·refine⟨h1,h2,h3,?_,h5,?_⟩ <;> omega
  ·simp only [jA,j4];refine⟨h1,h2,?_,?_,?_,?_⟩
   ·split <;> omega
   ·split <;> omega
   ·split
    ·omega
    ·split <;> omega
   ·split
    ·omega
    ·split <;> omega
def aAA (D:List Dt)(ls:List (List Int)):Bool:=(List.range D.length).all fun d=>decide (oN D ls d (n9 D ls d)=d)
structure WbR (R:Heap) (k0 kd kt:Nat) (nm:Nat→Nat) (l:List Pt) (D:List Dt) (ls:List (List Int)):Prop where
 pt:∃ wr g sz cs,look R k0=some (.cells wr g sz cs)∧cs.take (flat aZ.fl l).length=flat aZ.fl l
 da:∃ wr g sz cs,look R kd=some (.cells wr g sz cs)∧cs.take (flat qQ.fl D).length=flat qQ.fl D
 tb:∃ wr g sz,look R kt=some (.cells wr g sz ((List.range ls.length).map fun i=>tV (nm i) (bK ls i)))
 li:∀ i,i<ls.length→(bK ls i).length≠0→∃ wr g sz cs,look R (nm i)=some (.cells wr g sz cs)∧cs.take (flat aL.fl (bK ls i)).length=flat aL.fl (bK ls i)
theorem WbR.at {R h:Heap}{p k0 k1 kd kt kf:Nat}{nm:Nat→Nat}{l:List Pt}{D:List Dt}{ls:List (List Int)}{nE c1 c2:Nat}{n:Int}{fo:Option (Nat × Nat)}(hw:WbR R k0 kd kt nm l D ls)(hx:∀ k o,look R k=some o→look h k=some o){wr g:Bool}{sz:Nat}
  (hs:look h p=some (.cells wr g sz (AJ k0 k1 kd kt kf l.length nE D.length ls.length c1 c2 n fo))):uP h p k0 k1 kd kt kf nm l D ls nE c1 c2 n fo:=by
 obtain⟨⟨w1,g1,s1,x1,a1,b1⟩,⟨w2,g2,s2,x2,a2,b2⟩,⟨w3,g3,s3,a3⟩,h4⟩:=hw;refine⟨⟨_,_,_,hs⟩,⟨_,_,_,_,hx _ _ a1,b1⟩,⟨_,_,_,_,hx _ _ a2,b2⟩,⟨_,_,_,hx _ _ a3⟩,fun i hi h0=>?_⟩;obtain⟨w5,g5,s5,x5,a5,b5⟩:=h4 i hi h0;exact⟨_,_,_,_,hx _ _ a5,b5⟩
structure O6 where
 R:Heap
 k0:Nat
 k1:Nat
 kd:Nat
 kt:Nat
 nm:Nat→Nat
 l:List Pt
 D:List Dt
 ls:List (List Int)
 nE:Nat
 c1:Nat
 c2:Nat
 n:Int
def aF6 (a:O6):Prop:=uL a.l a.D a.ls=true∧aAA a.D a.ls=true∧y6 a.R 2003∧look a.R 7=none∧WbR a.R a.k0 a.kd a.kt a.nm a.l a.D a.ls∧(a.k0<2003∧a.k1<2003∧a.kd<2003∧a.kt<2003)
def N5 (a:O6)(fv:Value):aT:=.cells true false 1 [.slice (some ⟨a.k0,0,none⟩) a.l.length a.c1,.slice (some ⟨a.k1,0,none⟩) a.nE a.c2,iv a.n,.slice (some ⟨a.kd,0,none⟩) a.D.length a.D.length,.slice (some ⟨a.kt,0,none⟩) a.ls.length a.ls.length,fv]
def PA (a:O6):Heap:=(7,N5 a (.slice (some ⟨2003,0,none⟩) a.D.length a.D.length))::(2003,.cells true false 1 (flat aL.fl (nmD a.l a.D a.ls).face))::a.R
def aFW:XF:=dX aF6 (fun _=>[.pointer (some ⟨7,0,none⟩)]) (fun a=>(7,N5 a aP)::a.R) (fun _=>2003) (fun a=>.tuple #[iv (nmD a.l a.D a.ls).many,.bool (AO (nmD a.l a.D a.ls))])
 PA (fun _=>2004)
def m6 (N:Nat)(s:P7)(j:Int):List (Nat × Value):=[(0,.pointer (some ⟨7,0,none⟩)),(4,.slice (some ⟨2004,0,none⟩) N N),(5,iv s.many),(6,iv s.out),(7,.bool s.flat),(33,iv N),(34,iv j)]
def m9 (a:O6)(s:P7):Heap:=[(7,N5 a (.slice (some ⟨2003,0,none⟩) a.D.length a.D.length)),(2003,.cells true false 1 (flat aL.fl s.face)),(2004,.cells true false 1 (flat oO.fl s.seen))]
def kC (N:Nat)(s:P7)(j fc:Int)(n:Nat)(x:Int):List (Nat × Value):=(11,iv fc)::(58,.slice (some ⟨2005,0,none⟩) n n)::(59,iv n)::(60,iv x)::m6 N s j
theorem FH {s:List Bool}{w:List Int}{t o:Nat}(ho:o=(aB w t).toNat*1)(hi:(aB w t).toNat<s.length):dE (flat oO.fl (fD s w t)) o [.bool true]=flat oO.fl (fD s w (t+1)):=by
 rw [ho,yX _ _ _ (by rw [j4];exact hi)];rfl
theorem y9 {a:O6}(h6:a.k0<2003∧a.k1<2003∧a.kd<2003∧a.kt<2003){h:Heap}{s:P7}{n0:Nat}(hn:2005≤n0)(x1:look h 7=some (N5 a (.slice (some ⟨2003,0,none⟩) a.D.length a.D.length)))(x2:look h 2003=some (.cells true false 1 (flat aL.fl s.face)))(x3:look h 2004=some (.cells true false 1 (flat oO.fl s.seen))) :
  ∀ p∈m9 a s,((2003≤p.1∧p.1<n0∧2003≤rn [] p.1)∨p.1<2003)∧∃ o',look h (rn [] p.1)=some o'∧bO (rn []) n0 p.2 o':=by
 have hsl:∀ {q a b:Nat},q<2004→AB n0 (.slice (some ⟨q,0,none⟩) a b):=fun {q a b} hq=>⟨show q<n0 by omega,fun h=>by cases h⟩;unfold m9;refine List.forall_mem_cons.2 ⟨⟨.inr (by omega),_,x1,rfl,rfl,rfl,rfl,?_⟩,List.forall_mem_cons.2 ⟨⟨.inl ⟨Nat.le_refl _,by show 2003<n0;omega,Nat.le_refl _⟩,_,x2,aK (aE _ _)⟩,List.forall_mem_cons.2 ⟨⟨.inl ⟨by omega,by show 2004<n0;omega,by show 2003≤2004;omega⟩,_,x3,aK (aE _ _)⟩,fun _ h=>(by cases h)⟩⟩⟩;exact List.forall_mem_cons.2 ⟨hsl (by omega),List.forall_mem_cons.2 ⟨hsl (by omega),List.forall_mem_cons.2 ⟨cA rfl,List.forall_mem_cons.2 ⟨hsl (by omega),List.forall_mem_cons.2 ⟨hsl (by omega),List.forall_mem_cons.2 ⟨hsl (by omega),fun _ h=>(by cases h)⟩⟩⟩⟩⟩⟩
theorem AP {a:O6}(h6:a.k0<2003∧a.k1<2003∧a.kd<2003∧a.kt<2003){h:Heap}{s:P7}{w:List Int}(x1:look h 7=some (N5 a (.slice (some ⟨2003,0,none⟩) a.D.length a.D.length)))(x2:look h 2003=some (.cells true false 1 (flat aL.fl s.face)))(x3:look h 2004=some (.cells true false 1 (flat oO.fl s.seen)))
  (x4:look h 2005=some (.cells true false 1 (flat aL.fl w))):∀ p∈m9 a s++[(2005,.cells true false 1 (flat aL.fl w))],((2003≤p.1∧p.1<2006∧2003≤rn [] p.1)∨p.1<2003)∧∃ o',look h (rn [] p.1)=some o'∧bO (rn []) 2006 p.2 o':=by
 intro p hp;rcases List.mem_append.1 hp with hp|hp
 ·exact y9 h6 (by omega) x1 x2 x3 p hp
 ·simp only [List.mem_cons,List.not_mem_nil,or_false] at hp;subst hp;exact⟨.inl ⟨by omega,by omega,by show 2003≤2005;omega⟩,_,x4,aK (aE _ _)⟩
theorem bQ {W:Heap}{b q:Nat}(h:y6 W b)(hq:b≤q):look W q=none:=by
 cases hl:look W q with
 |none=>rfl
 |some o=>have:=(h q o hl).1;omega
theorem aFA {l:List Pt}{D:List Dt}{ls:List (List Int)}{d:Nat}(h:uL l D ls=true)(h2:aAA D ls=true)(hd:d<D.length):wkS l D ls [iv d]=some (true,uJ D ls d,[]):=by
 have:=List.all_eq_true.1 h2 d (List.mem_range.2 hd);show some (uL l D ls&&decide ((0:Int)≤d)&&decide ((d:Int)<D.length)&&decide (oN D ls d (n9 D ls d)=d),uJ D ls d,[])=_;rw [h,decide_eq_true (by omega:(0:Int)≤d),decide_eq_true (by omega:(d:Int)<D.length),this];rfl
theorem SN {l:List Pt}{D:List Dt}{ls:List (List Int)}{d:Nat}(h:uL l D ls=true)(hd:d<D.length):eO D (uJ D ls d)=true∧(uJ D ls d).length≤D.length+1∧1≤(uJ D ls d).length:=by
 have hp:=mF D ls d D.length 1;refine⟨List.all_eq_true.2 fun x hx=>?_,?_,?_⟩
 ·obtain⟨i,_,rfl⟩:=List.mem_map.1 hx;have:=SM h (d:=d) (by omega) (by omega) i;simpa using this
 ·unfold uJ n9;rw [List.length_map,List.length_range];omega
 ·unfold uJ n9;rw [List.length_map,List.length_range];omega
theorem aFU {l:List Pt}{D:List Dt}{ls:List (List Int)}{L:List Int}(h:GV l D ls=true)(h1:eO D L=true)(h2:L.length≤100000):arS l D ls L=some (true,iv (G0 l D L L.length)):=by
 unfold arS;rw [h,h1,decide_eq_true h2];rfl
theorem aAW {a:O6}(h3:y6 a.R 2003)(h4:look a.R 7=none)(h6:a.k0<2003∧a.k1<2003∧a.kd<2003∧a.kt<2003){h:Heap}{s:P7}{nx:Nat}{b:Bool}(hb:b=AO s)(x1:look h 7=some (N5 a (.slice (some ⟨2003,0,none⟩) a.D.length a.D.length)))
  (x2:look h 2003=some (.cells true false 1 (flat aL.fl s.face))) (hx:∀ k o,look a.R k=some o→look h k=some o) :
  ∃ ρ,rB 2003 ρ [(0,.tuple #[iv s.many,.bool (AO s)])] ((7,N5 a (.slice (some ⟨2003,0,none⟩) a.D.length a.D.length))::(2003,.cells true false 1 (flat aL.fl s.face))::a.R) 2004 [(0,.tuple #[iv s.many,.bool b])] h nx:=by
 subst hb;have hsl:∀ {q a b:Nat},q<2004→AB 2004 (.slice (some ⟨q,0,none⟩) a b):=fun {q a b} hq=>⟨hq,fun h=>by cases h⟩;refine⟨id,fun t u hu=>?_,fun k o hk=>?_,fun _ _ _ _ _ _ e=>e,fun _ _=>rfl,by omega⟩
 ·have hm:=bF hu;simp only [List.mem_cons,List.not_mem_nil,or_false] at hm;injection hm with e1 e2;subst e1 e2;exact⟨by rw [iB,fZ rfl];rfl,cY rfl⟩
 ·rw [aC] at hk;split at hk
  ·rename_i hb;injection hk with hk;subst hk;rw [← beq_true hb];refine⟨by omega,_,x1,rfl,rfl,rfl,rfl,?_⟩;exact List.forall_mem_cons.2 ⟨hsl (by omega),List.forall_mem_cons.2 ⟨hsl (by omega),List.forall_mem_cons.2 ⟨cA rfl,List.forall_mem_cons.2 ⟨hsl (by omega),List.forall_mem_cons.2 ⟨hsl (by omega),List.forall_mem_cons.2 ⟨hsl (by omega),fun _ h=>(by cases h)⟩⟩⟩⟩⟩⟩
  ·rw [aC] at hk;split at hk
   ·rename_i hb;injection hk with hk;subst hk;rw [← beq_true hb];exact⟨by omega,_,x2,aK (aE _ _)⟩
   ·obtain⟨a1,a2⟩:=h3 k o hk;exact⟨by omega,o,hx k o hk,qG (fun _ _=>rfl) (by omega) a2⟩
theorem aIp:dM Go.Proofs.Tryz.prog 155 aFW:=aBf (aO (xl:=[aGb,aH2]) (.cons aK7 (.cons aKu .nil))) fun a ⟨h1,h2,h3,h4,h5,h6⟩=>by
 have hn:=IU (C0 h1);unfold N5;((conv=>whnf);refine bm (fun g1=>?_) (fun g1=>?_))
 ·((conv=>whnf);refine bm (fun g1'=>?_) (fun g1'=>?_))
  ·(conv=>whnf);refine⟨fun q e h nx=>∃ (i:Nat) (j:Int),j=i∧i≤a.D.length∧q=a.D.length - i∧e=m6 a.D.length (cE a.l a.D a.ls i) j∧h=m9 a (cE a.l a.D a.ls i)++a.R∧nx=2005,⟨a.D.length,?_⟩,?_⟩
   ·refine aW (P:=m9 a (cE a.l a.D a.ls 0)) (W:=a.R) (e0:=m6 a.D.length (cE a.l a.D a.ls 0) 0) (n0:=2005) [] ⟨0,0,rfl,Nat.zero_le _,rfl,rfl,rfl,rfl⟩ ?_ h3 ?_ ?_ ?_ (fun _ h=>(by cases h)) (by omega)
    ·unfold m6;((repeat' refine iE rfl rfl ?_);exact iN)
    ·exact aN (a8 (aN (ext_cons (fun _ _ h=>h) h4) (bQ h3 (by omega))) h4) (bQ h3 (by omega))
    ·refine y9 h6 (by omega) rfl ?_ ?_
     ·show some (aT.cells true false 1 (rep a.D.length [iv 0]))=some (.cells true false 1 (flat aL.fl (List.replicate a.D.length 0)));rw [R3]
     ·show some (aT.cells true false 1 (rep a.D.length [.bool false]))=some (.cells true false 1 (flat oO.fl (List.replicate a.D.length false)));rw [Q6]
    ·show ∀ k∈[7,2003,2004],∀ k'∈[7,2003,2004],_;decide
   ·rintro q e h nx ⟨i,j,hj,hi,rfl,rfl,rfl,rfl⟩;obtain⟨s1,s2,s3,s4,s5,s6⟩:=tR a.l a.D a.ls i;have hst:cE a.l a.D a.ls (i+1)=kK a.l a.D a.ls (cE a.l a.D a.ls i) i:=rfl;generalize hss:cE a.l a.D a.ls i=s at s1 s2 s3 s4 s5 s6 hst ⊢;unfold m6 m9 N5;((conv=>whnf);refine bm (fun g2=>?_) (fun g2=>?_))
    ·have hlt:i<a.D.length:=(by simp [aA,aF] at g2;omega);((conv=>whnf);refine bm (fun g3=>?_) (fun g3=>?_))
     ·(conv=>whnf);refine eP (aGO s.seen (i:=i) (by omega) ?_) ?_
      ·show _+Int.toNat j*1=_;omega
      ((conv=>whnf);refine bm (fun g4=>?_) (fun g4=>?_))
      ·have g4:dF s.seen i=true:=g4;unfold kK at hst;rw [if_pos g4] at hst;((conv=>whnf);refine bm (fun g5=>?_) (fun g5=>?_))
       ·(conv=>whnf);refine⟨a.D.length - (i+1),by omega,?_⟩;refine aW (P:=m9 a (cE a.l a.D a.ls (i+1))) (W:=a.R) (e0:=m6 a.D.length (cE a.l a.D a.ls (i+1)) (j+1)) (n0:=2005) [] ⟨i+1,j+1,by omega,by omega,rfl,rfl,rfl,rfl⟩ ?_ h3 ?_ ?_ ?_ (fun _ h=>(by cases h)) (by omega)
        ·rw [hst];unfold m6;((repeat' refine iE rfl rfl ?_);exact iN)
        ·exact ext_cons (ext_cons (ext_cons (fun _ _ h=>h) (bQ h3 (by omega))) (bQ h3 (by omega))) h4
        ·rw [hst];exact y9 h6 (by omega) rfl rfl rfl
        ·show ∀ k∈[7,2003,2004],∀ k'∈[7,2003,2004],_;decide
       ·exfalso;simp [aA,aF,aI] at g5;omega
      ·have g4:dF s.seen i=false:=g4;(conv=>whnf);have hx0:∀ k o,look a.R k=some o→look ([(7,aT.cells true false 1 [.slice (some ⟨a.k0,0,none⟩) a.l.length a.c1,.slice (some ⟨a.k1,0,none⟩) a.nE a.c2,iv a.n,.slice (some ⟨a.kd,0,none⟩) a.D.length a.D.length,.slice (some ⟨a.kt,0,none⟩) a.ls.length a.ls.length,.slice (some ⟨2003,0,none⟩) a.D.length a.D.length]),(2003,.cells true false 1 (flat aL.fl s.face)),(2004,.cells true false 1 (flat oO.fl s.seen))]++a.R) k=some o :=
        ext_cons (ext_cons (ext_cons (fun _ _ h=>h) (bQ h3 (by omega))) (bQ h3 (by omega))) h4
       have hwk:wkS a.l a.D a.ls [iv j]=some (true,uJ a.D a.ls i,[]):=(by rw [hj];exact aFA h1 h2 hlt);obtain⟨w1,w2,w3⟩:=SN h1 hlt;refine⟨7,[iv j],a.k0,a.k1,a.kd,a.kt,2003,a.nm,a.l,a.D,a.ls,a.nE,a.c1,a.c2,a.n,some (a.D.length,a.D.length),rfl,h5.at hx0 rfl,?_⟩;rw [hwk];unfold kK at hst;rw [if_neg (by rw [g4];decide)] at hst;simp only at hst;generalize uJ a.D a.ls i=w at w1 w2 w3 hst hwk ⊢;refine aJ rfl ?_;(conv=>whnf);refine⟨7,2005,a.k0,a.k1,a.kd,a.kt,2003,a.nm,a.l,a.D,a.ls,a.nE,a.c1,a.c2,a.n,some (a.D.length,a.D.length),w,w.length,rfl,h5.at (aN hx0 (bQ h3 (by omega))) rfl,⟨_,_,_,_,rfl,List.take_length⟩,?_⟩;rw [aFU (C0 h1) w1 (by omega)];generalize G0 a.l a.D w w.length=A at hst ⊢;refine aJ rfl ?_;((conv=>whnf);refine bm (fun g6=>?_) (fun g6=>?_))
       ·have hA:0<A:=(by simpa [aA,aF] using g6);simp only [if_pos hA] at hst;((conv=>whnf);refine bm (fun g7=>?_) (fun g7=>?_))
        ·skip
         have hst1:cE a.l a.D a.ls (i+1)=⟨fO s.face w (s.many+1) w.length,fD s.seen w w.length,s.many+1,s.out,s.flat⟩:=(by rw [hst]);(conv=>whnf);refine⟨fun q e h nx=>∃ (t:Nat) (x:Int),x=t∧t≤w.length∧q=w.length - t∧e=kC a.D.length ⟨fO s.face w (s.many+1) t,fD s.seen w t,s.many+1,s.out,s.flat⟩ j (s.many+1) w.length x∧h=(m9 a ⟨fO s.face w (s.many+1) t,fD s.seen w t,s.many+1,s.out,s.flat⟩++[(2005,.cells true false 1 (flat aL.fl w))])++a.R∧nx=2006,⟨w.length,?_⟩,?_⟩
         ·refine aW (P:=m9 a ⟨s.face,s.seen,s.many+1,s.out,s.flat⟩++[(2005,.cells true false 1 (flat aL.fl w))]) (W:=a.R) (e0:=kC a.D.length ⟨s.face,s.seen,s.many+1,s.out,s.flat⟩ j (s.many+1) w.length 0) (n0:=2006) [] ⟨0,0,rfl,Nat.zero_le _,rfl,rfl,rfl,rfl⟩ ?_ h3 ?_ ?_ ?_ (fun _ h=>(by cases h)) (by omega)
          ·unfold kC m6;((repeat' refine iE rfl rfl ?_);exact iN)
          ·exact aN hx0 (bQ h3 (by omega))
          ·exact AP h6 rfl rfl rfl rfl
          ·show ∀ k∈[7,2003,2004,2005],∀ k'∈[7,2003,2004,2005],_;decide
         ·rintro q e h nx ⟨t,x,hx,ht,rfl,rfl,rfl,rfl⟩;unfold kC m6 m9 N5;((conv=>whnf);refine bm (fun m1=>?_) (fun m1=>?_))
          ·have htl:t<w.length:=(by simp [aA,aF] at m1;omega);have hwd:=iS w1 (i:=t) htl;((conv=>whnf);refine bm (fun m2=>?_) (fun m2=>?_))
           ·(conv=>whnf);refine eP (cF w (i:=t) htl ?_) ?_
            ·show _+Int.toNat x*1=_;omega
            have hsf:=jA s.face w (s.many+1) t;have hss:=j4 s.seen w t
            repeat' first
             |(((conv=>whnf);refine bm (fun m=>?_) (fun m=>?_)))
            all_goals first
             |(exfalso;simp [aA,aF,aI] at m;omega)
             |(exfalso
               have hb:Nat.ble (0+Int.toNat (aB w t)*1+1) (flat oO.fl (fD s.seen w t)).length=true:=Nat.ble_eq_true_of_le (by rw [bJ];show _≤(fD s.seen w t).length*1;omega);exact Bool.false_ne_true (m.symm.trans hb))
             |(exfalso
               have hb:Nat.ble (0+Int.toNat (aB w t)*1+1) (flat aL.fl (fO s.face w (s.many+1) t)).length=true:=Nat.ble_eq_true_of_le (by rw [bJ];show _≤(fO s.face w (s.many+1) t).length*1;omega);exact Bool.false_ne_true (m.symm.trans hb))
             |skip
            (conv=>whnf);refine⟨w.length - (t+1),by omega,?_⟩;refine aW (P:=m9 a ⟨fO s.face w (s.many+1) (t+1),fD s.seen w (t+1),s.many+1,s.out,s.flat⟩++[(2005,.cells true false 1 (flat aL.fl w))]) (W:=a.R) (e0:=kC a.D.length ⟨fO s.face w (s.many+1) (t+1),fD s.seen w (t+1),s.many+1,s.out,s.flat⟩ j (s.many+1) w.length (x+1)) (n0:=2006) [] ⟨t+1,x+1,by omega,by omega,rfl,rfl,rfl,rfl⟩ ?_ h3 ?_ ?_ ?_ (fun _ h=>(by cases h)) (by omega)
            ·unfold kC m6;((repeat' refine iE rfl rfl ?_);exact iN)
            ·exact a8 (a8 (ext_cons (ext_cons (ext_cons (ext_cons (fun _ _ h=>h) (bQ h3 (by omega))) (bQ h3 (by omega))) (bQ h3 (by omega))) h4) (bQ h3 (by omega))) (bQ h3 (by omega))
            ·refine AP h6 rfl ?_ ?_ rfl
             ·show some (aT.cells true false 1 (dE (flat aL.fl (fO s.face w (s.many+1) t)) (0+Int.toNat (aB w t)*1) [iv (s.many+1)]))=_;rw [FU (by omega) (by omega)]
             ·show some (aT.cells true false 1 (dE (flat oO.fl (fD s.seen w t)) (0+Int.toNat (aB w t)*1) [.bool true]))=_;rw [FH (by omega) (by omega)]
            ·show ∀ k∈[7,2003,2004,2005],∀ k'∈[7,2003,2004,2005],_;decide
           ·exfalso;simp [aA,aF] at m2;omega
          ·have htl:t=w.length:=(by simp [aA,aF] at m1;omega);((conv=>whnf);refine bm (fun m2=>?_) (fun m2=>?_))
           ·(conv=>whnf);refine⟨a.D.length - (i+1),by omega,?_⟩;refine aW (P:=m9 a (cE a.l a.D a.ls (i+1))) (W:=a.R) (e0:=m6 a.D.length (cE a.l a.D a.ls (i+1)) (j+1)) (n0:=2005) [] ⟨i+1,j+1,by omega,by omega,rfl,rfl,rfl,rfl⟩ ?_ h3 ?_ ?_ ?_ (fun _ h=>(by cases h)) (by omega)
            ·rw [hst1];unfold m6;((repeat' refine iE rfl rfl ?_);exact iN)
            ·exact (ext_cons (ext_cons (ext_cons (ext_cons (fun _ _ h=>h) (bQ h3 (by omega))) (bQ h3 (by omega))) (bQ h3 (by omega))) h4)
            ·rw [hst1,← htl];exact y9 h6 (by omega) rfl rfl rfl
            ·show ∀ k∈[7,2003,2004],∀ k'∈[7,2003,2004],_;decide
           ·exfalso;simp [aA,aF,aI] at m2;omega
        ·exfalso;simp [aA,aF,aI] at g7;omega
       ·have hA:¬ 0<A:=(by simpa [aA,aF] using g6);simp only [if_neg hA] at hst;((conv=>whnf);refine bm (fun g7=>?_) (fun g7=>?_))
        ·have hA2:A<0:=(by simpa [aA,aF] using g7);simp only [if_pos hA2] at hst;((conv=>whnf);refine bm (fun g8=>?_) (fun g8=>?_))
         ·skip
          have hst1:cE a.l a.D a.ls (i+1)=⟨fO s.face w (0) w.length,fD s.seen w w.length,s.many,s.out+1,s.flat⟩:=(by rw [hst]);(conv=>whnf);refine⟨fun q e h nx=>∃ (t:Nat) (x:Int),x=t∧t≤w.length∧q=w.length - t∧e=kC a.D.length ⟨fO s.face w (0) t,fD s.seen w t,s.many,s.out+1,s.flat⟩ j (0) w.length x∧h=(m9 a ⟨fO s.face w (0) t,fD s.seen w t,s.many,s.out+1,s.flat⟩++[(2005,.cells true false 1 (flat aL.fl w))])++a.R∧nx=2006,⟨w.length,?_⟩,?_⟩
          ·refine aW (P:=m9 a ⟨s.face,s.seen,s.many,s.out+1,s.flat⟩++[(2005,.cells true false 1 (flat aL.fl w))]) (W:=a.R) (e0:=kC a.D.length ⟨s.face,s.seen,s.many,s.out+1,s.flat⟩ j (0) w.length 0) (n0:=2006) [] ⟨0,0,rfl,Nat.zero_le _,rfl,rfl,rfl,rfl⟩ ?_ h3 ?_ ?_ ?_ (fun _ h=>(by cases h)) (by omega)
           ·unfold kC m6;((repeat' refine iE rfl rfl ?_);exact iN)
           ·exact aN hx0 (bQ h3 (by omega))
           ·exact AP h6 rfl rfl rfl rfl
           ·show ∀ k∈[7,2003,2004,2005],∀ k'∈[7,2003,2004,2005],_;decide
          ·rintro q e h nx ⟨t,x,hx,ht,rfl,rfl,rfl,rfl⟩;unfold kC m6 m9 N5;((conv=>whnf);refine bm (fun m1=>?_) (fun m1=>?_))
           ·have htl:t<w.length:=(by simp [aA,aF] at m1;omega);have hwd:=iS w1 (i:=t) htl;((conv=>whnf);refine bm (fun m2=>?_) (fun m2=>?_))
            ·(conv=>whnf);refine eP (cF w (i:=t) htl ?_) ?_
             ·show _+Int.toNat x*1=_;omega
             have hsf:=jA s.face w (0) t;have hss:=j4 s.seen w t
             repeat' first
              |(((conv=>whnf);refine bm (fun m=>?_) (fun m=>?_)))
             all_goals first
              |(exfalso;simp [aA,aF,aI] at m;omega)
              |(exfalso
                have hb:Nat.ble (0+Int.toNat (aB w t)*1+1) (flat oO.fl (fD s.seen w t)).length=true:=Nat.ble_eq_true_of_le (by rw [bJ];show _≤(fD s.seen w t).length*1;omega);exact Bool.false_ne_true (m.symm.trans hb))
              |(exfalso
                have hb:Nat.ble (0+Int.toNat (aB w t)*1+1) (flat aL.fl (fO s.face w (0) t)).length=true:=Nat.ble_eq_true_of_le (by rw [bJ];show _≤(fO s.face w (0) t).length*1;omega);exact Bool.false_ne_true (m.symm.trans hb))
              |skip
             (conv=>whnf);refine⟨w.length - (t+1),by omega,?_⟩;refine aW (P:=m9 a ⟨fO s.face w (0) (t+1),fD s.seen w (t+1),s.many,s.out+1,s.flat⟩++[(2005,.cells true false 1 (flat aL.fl w))]) (W:=a.R) (e0:=kC a.D.length ⟨fO s.face w (0) (t+1),fD s.seen w (t+1),s.many,s.out+1,s.flat⟩ j (0) w.length (x+1)) (n0:=2006) [] ⟨t+1,x+1,by omega,by omega,rfl,rfl,rfl,rfl⟩ ?_ h3 ?_ ?_ ?_ (fun _ h=>(by cases h)) (by omega)
             ·unfold kC m6;((repeat' refine iE rfl rfl ?_);exact iN)
             ·exact a8 (a8 (ext_cons (ext_cons (ext_cons (ext_cons (fun _ _ h=>h) (bQ h3 (by omega))) (bQ h3 (by omega))) (bQ h3 (by omega))) h4) (bQ h3 (by omega))) (bQ h3 (by omega))
             ·refine AP h6 rfl ?_ ?_ rfl
              ·show some (aT.cells true false 1 (dE (flat aL.fl (fO s.face w (0) t)) (0+Int.toNat (aB w t)*1) [iv (0)]))=_;rw [FU (by omega) (by omega)]
              ·show some (aT.cells true false 1 (dE (flat oO.fl (fD s.seen w t)) (0+Int.toNat (aB w t)*1) [.bool true]))=_;rw [FH (by omega) (by omega)]
             ·show ∀ k∈[7,2003,2004,2005],∀ k'∈[7,2003,2004,2005],_;decide
            ·exfalso;simp [aA,aF] at m2;omega
           ·have htl:t=w.length:=(by simp [aA,aF] at m1;omega);((conv=>whnf);refine bm (fun m2=>?_) (fun m2=>?_))
            ·(conv=>whnf);refine⟨a.D.length - (i+1),by omega,?_⟩;refine aW (P:=m9 a (cE a.l a.D a.ls (i+1))) (W:=a.R) (e0:=m6 a.D.length (cE a.l a.D a.ls (i+1)) (j+1)) (n0:=2005) [] ⟨i+1,j+1,by omega,by omega,rfl,rfl,rfl,rfl⟩ ?_ h3 ?_ ?_ ?_ (fun _ h=>(by cases h)) (by omega)
             ·rw [hst1];unfold m6;((repeat' refine iE rfl rfl ?_);exact iN)
             ·exact (ext_cons (ext_cons (ext_cons (ext_cons (fun _ _ h=>h) (bQ h3 (by omega))) (bQ h3 (by omega))) (bQ h3 (by omega))) h4)
             ·rw [hst1,← htl];exact y9 h6 (by omega) rfl rfl rfl
             ·show ∀ k∈[7,2003,2004],∀ k'∈[7,2003,2004],_;decide
            ·exfalso;simp [aA,aF,aI] at m2;omega
         ·exfalso;simp [aA,aF,aI] at g8;omega
        ·have hA2:¬ A<0:=(by simpa [aA,aF] using g7);simp only [if_neg hA2] at hst;have hst1:cE a.l a.D a.ls (i+1)=⟨fO s.face w (0) w.length,fD s.seen w w.length,s.many,s.out,true⟩:=(by rw [hst]);(conv=>whnf);refine⟨fun q e h nx=>∃ (t:Nat) (x:Int),x=t∧t≤w.length∧q=w.length - t∧e=kC a.D.length ⟨fO s.face w (0) t,fD s.seen w t,s.many,s.out,true⟩ j (0) w.length x∧h=(m9 a ⟨fO s.face w (0) t,fD s.seen w t,s.many,s.out,true⟩++[(2005,.cells true false 1 (flat aL.fl w))])++a.R∧nx=2006,⟨w.length,?_⟩,?_⟩
         ·refine aW (P:=m9 a ⟨s.face,s.seen,s.many,s.out,true⟩++[(2005,.cells true false 1 (flat aL.fl w))]) (W:=a.R) (e0:=kC a.D.length ⟨s.face,s.seen,s.many,s.out,true⟩ j (0) w.length 0) (n0:=2006) [] ⟨0,0,rfl,Nat.zero_le _,rfl,rfl,rfl,rfl⟩ ?_ h3 ?_ ?_ ?_ (fun _ h=>(by cases h)) (by omega)
          ·unfold kC m6;((repeat' refine iE rfl rfl ?_);exact iN)
          ·exact aN hx0 (bQ h3 (by omega))
          ·exact AP h6 rfl rfl rfl rfl
          ·show ∀ k∈[7,2003,2004,2005],∀ k'∈[7,2003,2004,2005],_;decide
         ·rintro q e h nx ⟨t,x,hx,ht,rfl,rfl,rfl,rfl⟩;unfold kC m6 m9 N5;((conv=>whnf);refine bm (fun m1=>?_) (fun m1=>?_))
          ·have htl:t<w.length:=(by simp [aA,aF] at m1;omega);have hwd:=iS w1 (i:=t) htl;((conv=>whnf);refine bm (fun m2=>?_) (fun m2=>?_))
           ·(conv=>whnf);refine eP (cF w (i:=t) htl ?_) ?_
            ·show _+Int.toNat x*1=_;omega
            have hsf:=jA s.face w (0) t;have hss:=j4 s.seen w t
            repeat' first
             |(((conv=>whnf);refine bm (fun m=>?_) (fun m=>?_)))
            all_goals first
             |(exfalso;simp [aA,aF,aI] at m;omega)
             |(exfalso
               have hb:Nat.ble (0+Int.toNat (aB w t)*1+1) (flat oO.fl (fD s.seen w t)).length=true:=Nat.ble_eq_true_of_le (by rw [bJ];show _≤(fD s.seen w t).length*1;omega);exact Bool.false_ne_true (m.symm.trans hb))
             |(exfalso
               have hb:Nat.ble (0+Int.toNat (aB w t)*1+1) (flat aL.fl (fO s.face w (0) t)).length=true:=Nat.ble_eq_true_of_le (by rw [bJ];show _≤(fO s.face w (0) t).length*1;omega);exact Bool.false_ne_true (m.symm.trans hb))
             |skip
            (conv=>whnf);refine⟨w.length - (t+1),by omega,?_⟩;refine aW (P:=m9 a ⟨fO s.face w (0) (t+1),fD s.seen w (t+1),s.many,s.out,true⟩++[(2005,.cells true false 1 (flat aL.fl w))]) (W:=a.R) (e0:=kC a.D.length ⟨fO s.face w (0) (t+1),fD s.seen w (t+1),s.many,s.out,true⟩ j (0) w.length (x+1)) (n0:=2006) [] ⟨t+1,x+1,by omega,by omega,rfl,rfl,rfl,rfl⟩ ?_ h3 ?_ ?_ ?_ (fun _ h=>(by cases h)) (by omega)
            ·unfold kC m6;((repeat' refine iE rfl rfl ?_);exact iN)
            ·exact a8 (a8 (ext_cons (ext_cons (ext_cons (ext_cons (fun _ _ h=>h) (bQ h3 (by omega))) (bQ h3 (by omega))) (bQ h3 (by omega))) h4) (bQ h3 (by omega))) (bQ h3 (by omega))
            ·refine AP h6 rfl ?_ ?_ rfl
             ·show some (aT.cells true false 1 (dE (flat aL.fl (fO s.face w (0) t)) (0+Int.toNat (aB w t)*1) [iv (0)]))=_;rw [FU (by omega) (by omega)]
             ·show some (aT.cells true false 1 (dE (flat oO.fl (fD s.seen w t)) (0+Int.toNat (aB w t)*1) [.bool true]))=_;rw [FH (by omega) (by omega)]
            ·show ∀ k∈[7,2003,2004,2005],∀ k'∈[7,2003,2004,2005],_;decide
           ·exfalso;simp [aA,aF] at m2;omega
          ·have htl:t=w.length:=(by simp [aA,aF] at m1;omega);((conv=>whnf);refine bm (fun m2=>?_) (fun m2=>?_))
           ·(conv=>whnf);refine⟨a.D.length - (i+1),by omega,?_⟩;refine aW (P:=m9 a (cE a.l a.D a.ls (i+1))) (W:=a.R) (e0:=m6 a.D.length (cE a.l a.D a.ls (i+1)) (j+1)) (n0:=2005) [] ⟨i+1,j+1,by omega,by omega,rfl,rfl,rfl,rfl⟩ ?_ h3 ?_ ?_ ?_ (fun _ h=>(by cases h)) (by omega)
            ·rw [hst1];unfold m6;((repeat' refine iE rfl rfl ?_);exact iN)
            ·exact (ext_cons (ext_cons (ext_cons (ext_cons (fun _ _ h=>h) (bQ h3 (by omega))) (bQ h3 (by omega))) (bQ h3 (by omega))) h4)
            ·rw [hst1,← htl];exact y9 h6 (by omega) rfl rfl rfl
            ·show ∀ k∈[7,2003,2004],∀ k'∈[7,2003,2004],_;decide
           ·exfalso;simp [aA,aF,aI] at m2;omega
     ·exfalso;simp [aA,aF] at g3;omega
    ·have hge:i=a.D.length:=(by simp [aA,aF] at g2;omega);subst hge;unfold PA nmD;rw [hss];((conv=>whnf);refine bm (fun g3=>?_) (fun g3=>?_))
     ·have g3:s.out=1:=(by simpa [aA,aF] using g3);(conv=>whnf);refine aAW h3 h4 h6 (b:=!s.flat) (by unfold AO;rw [decide_eq_true g3];rfl) rfl rfl (ext_cons (ext_cons (ext_cons (fun _ _ h=>h) (bQ h3 (by omega))) (bQ h3 (by omega))) h4)
     ·have g3:¬ s.out=1:=(by simpa [aA,aF] using g3);(conv=>whnf);refine aAW h3 h4 h6 (b:=false) (by unfold AO;rw [decide_eq_false g3];rfl) rfl rfl (ext_cons (ext_cons (ext_cons (fun _ _ h=>h) (bQ h3 (by omega))) (bQ h3 (by omega))) h4)
  ·exfalso;simp [aA,aF,aI] at g1';omega
 ·exfalso;simp [aA,aF,aI] at g1;omega
theorem XP {b n:Nat}{o:aT}(h:bO id b o o)(hc:J8 o=true):bO id (n+b) (SI n o) (SI n o):=by
 cases o with
 |cells wr g sz cs =>
  obtain⟨_,_,_,h4,h5⟩:=h;have key:∀ v∈cs,bR id (bR (fun k=>n+k) v)=bR (fun k=>n+k) v∧AB (n+b) (bR (fun k=>n+k) v):=fun v hv=>by
   have hn:AB (n+b) (bR (fun k=>n+k) v):=iY (m:=b) (aBO (h5 v hv)) (fun k hk=>by omega);refine⟨?_,hn⟩;unfold bR;rw [gW (n:=n+b) hn];rfl
  refine⟨rfl,rfl,rfl,?_,fun v hv=>?_⟩
  ·rw [List.map_map];exact List.map_congr_left fun v hv=>(key v hv).1.symm
  ·obtain⟨u,hu,rfl⟩:=List.mem_map.1 hv;exact (key u hu).2
 |_=>cases hc
theorem aAu {W:Heap}{b n:Nat}(h:y6 W b)(hc:fQ W=true):y6 (lT n W) (n+b):=fun k o hk=>by
 obtain⟨j,o',rfl,h1,rfl⟩:=jV W hk;obtain⟨a1,a2⟩:=h j o' h1;obtain⟨wr,g,sz,cs,rfl⟩:=nG hc h1;exact⟨by omega,XP a2 rfl⟩
theorem aAK {W:Heap}{b:Nat}(h:y6 W b)(hc:fQ W=true):y6 (eG W) b:=fun k o hk=>by
 rw [fV] at hk;cases hq:look W k with
 |none=>rw [hq] at hk;cases hk
 |some q =>
  rw [hq] at hk;injection hk with hk;subst hk;obtain⟨a1,a2⟩:=h k q hq;obtain⟨wr,g,sz,cs,rfl⟩:=nG hc hq;exact⟨a1,rfl,rfl,rfl,a2.2.2.2.1,a2.2.2.2.2⟩
theorem aEm {A B:Heap}{b:Nat}(hA:y6 A b)(hB:y6 B b):y6 (app A B) b:=fun k o hk=>by
 rw [fY] at hk;split at hk
 ·rename_i o' ho;injection hk with hk;subst hk;exact hA k o' ho
 ·exact hB k o hk
def uG (l:List Pt)(m:List Ed):Heap :=
 (6,.cells true false 5 (flat qQ.fl (aV l m m.length)))::(5,.cells true false 1 (tC (outs l m).length (outs l m)))::(0,.cells false true aZ.sz (flat aZ.fl l))::(1,.cells false true aY.sz (flat aY.fl m))::tH (outs l m).length (outs l m) (outs l m).length
theorem PI {l:List Pt}{m:List Ed}{p:Nat × aT}(h:p∈uG l m):p=(6,.cells true false 5 (flat qQ.fl (aV l m m.length)))∨p=(5,.cells true false 1 (tC (outs l m).length (outs l m)))∨p=(0,.cells false true aZ.sz (flat aZ.fl l))∨p=(1,.cells false true aY.sz (flat aY.fl m)) ∨
  ∃ i,i<(outs l m).length∧(bK (outs l m) i).length≠0∧p=(i+1000,ob (bK (outs l m) i)):=by
 unfold uG at h;simp only [List.mem_cons] at h;rcases h with h|h|h|h|h
 ·exact .inl h
 ·exact .inr (.inl h)
 ·exact .inr (.inr (.inl h))
 ·exact .inr (.inr (.inr (.inl h)))
 ·obtain⟨i,h1,h2,h3,h4⟩:=AL h;exact .inr (.inr (.inr (.inr ⟨i,h1,h3,h4⟩)))
theorem M9 {l:List Pt}{m:List Ed}(hl:l.length≤1000):y6 (uG l m) 2000:=fun k o hk=>by
 have hol:=eL l m;rcases PI (bF hk) with h|h|h|h|⟨i,h1,h2,h⟩
 ·injection h with e1 e2;subst e1 e2;exact⟨by omega,aK (aE _ _)⟩
 ·injection h with e1 e2;subst e1 e2;exact⟨by omega,rfl,rfl,rfl,EA (ρ:=id) (kD _ _) fun i hi=>BI hi,JB (by omega) (by omega)⟩
 ·injection h with e1 e2;subst e1 e2;exact⟨by omega,aK (aE _ _)⟩
 ·injection h with e1 e2;subst e1 e2;exact⟨by omega,aK (aE _ _)⟩
 ·injection h with e1 e2;subst e1 e2;exact⟨by omega,aK (aE _ _)⟩
theorem vK {l:List Pt}{m:List Ed}:fQ (uG l m)=true:=xT _ _ _
def LR (l:List Pt)(m:List Ed)(c1 c2:Nat)(n:Int):Heap:=(2,bP l.length m.length c1 c2 n)::aH aZ aY l m
theorem aCi {l:List Pt}{m:List Ed}{c1 c2:Nat}{n:Int}:y6 (LR l m c1 c2 n) 3:=by
 refine dC (dC (dC (fun k o hk=>by cases hk) (by omega) (aK (aE _ _))) (by omega) (aK (aE _ _))) (by omega) ⟨rfl,rfl,rfl,rfl,?_⟩;exact List.forall_mem_cons.2 ⟨⟨Nat.le_of_ble_eq_true rfl,fun h=>by cases h⟩,List.forall_mem_cons.2 ⟨⟨Nat.le_of_ble_eq_true rfl,fun h=>by cases h⟩,List.forall_mem_cons.2 ⟨cA rfl,fun _ h=>(by cases h)⟩⟩⟩
def n7 (l:List Pt)(m:List Ed)(c1 c2:Nat)(n:Int):Heap:=app (lT 3 (uG l m)) (eG (LR l m c1 c2 n))
def WD (l:List Pt)(m:List Ed)(c1 c2:Nat)(n:Int):O6:=⟨n7 l m c1 c2 n,3,4,9,8,fun i=>3+(i+1000),l,aV l m m.length,outs l m,m.length,c1,c2,n⟩
theorem aBD {l:List Pt}{m:List Ed}{c1 c2:Nat}{n:Int}:app (lT 3 (aCO l m c1 c2 n)) (eG (LR l m c1 c2 n))=(7,N5 (WD l m c1 c2 n) aP)::n7 l m c1 c2 n:=by
 unfold N5 WD;simp only [bM,eL];rfl
theorem K8 {l:List Pt}{m:List Ed}{c1 c2:Nat}{n:Int}{j:Nat}{o:aT}(h:look (uG l m) j=some o):look (n7 l m c1 c2 n) (3+j)=some (SI 3 o):=by
 unfold n7;rw [fY,fJ _ h]
theorem V3 {l:List Pt}{m:List Ed}{c1 c2:Nat}{n:Int}:WbR (n7 l m c1 c2 n) 3 9 8 (fun i=>3+(i+1000)) l (aV l m m.length) (outs l m):=by
 have hfl:∀ {α:Type} (E:El α) (x:List α),(flat E.fl x).map (bR fun k=>3+k)=flat E.fl x:=fun E x=>bW (aE E x);refine⟨⟨_,_,_,_,K8 (j:=0) rfl,?_⟩,⟨_,_,_,_,K8 (j:=6) rfl,?_⟩,⟨true,false,1,?_⟩,fun i hi h0=>⟨true,false,1,flat aL.fl (bK (outs l m) i),?_,List.take_length⟩⟩
 ·rw [hfl];exact List.take_length
 ·rw [hfl];exact List.take_length
 ·rw [K8 (j:=5) (o:=.cells true false 1 (tC (outs l m).length (outs l m))) rfl];show some (aT.cells true false 1 ((tC (outs l m).length (outs l m)).map (bR fun k=>3+k)))=_;unfold tC;rw [List.map_map];congr 2;refine List.map_congr_left fun i hi=>?_;show bR _ (tV (tN (outs l m).length i) (bK (outs l m) i))=_;rw [DN];unfold tN;rw [if_neg (by have:=List.mem_range.1 hi;omega)]
 ·have:look (uG l m) (i+1000)=some (ob (bK (outs l m) i)):=by
   unfold uG;rw [bA (by omega),bA (by omega),bA (by omega),bA (by omega)];exact jW (by omega) h0 hi
  rw [K8 this];show some (aT.cells true false 1 ((flat aL.fl (bK (outs l m) i)).map (bR fun k=>3+k)))=_;rw [hfl]
theorem aF9 {l:List Pt}{m:List Ed}{c1 c2:Nat}{n:Int}:look (n7 l m c1 c2 n) 7=none:=by
 cases hl:look (n7 l m c1 c2 n) 7 with
 |none=>rfl
 |some o =>
  exfalso;unfold n7 at hl;rw [fY] at hl;split at hl
  ·rename_i o' ho;obtain⟨j,q,e1,e2,_⟩:=jV _ ho;rcases PI (bF e2) with h|h|h|h|⟨i,h1,h2,h⟩ <;> (injection h with e3 e4;omega)
  ·cases hl
theorem aDp {l:List Pt}{m:List Ed}{c1 c2:Nat}{n:Int}(hl:l.length≤1000):y6 (n7 l m c1 c2 n) 2003 :=
 aEm (aAu (n:=3) (M9 hl) vK) (D0 (aAK aCi rfl) (by omega))
theorem aFZ {l:List Pt}{m:List Ed}{c1 c2:Nat}{n:Int}(hl:l.length≤1000)(h1:uL l (aV l m m.length) (outs l m)=true)(h2:aAA (aV l m m.length) (outs l m)=true):aF6 (WD l m c1 c2 n) :=
 ⟨h1,h2,aDp hl,aF9,V3,Nat.le_of_ble_eq_true rfl,Nat.le_of_ble_eq_true rfl,Nat.le_of_ble_eq_true rfl,Nat.le_of_ble_eq_true rfl⟩
end Go.Aw
end
