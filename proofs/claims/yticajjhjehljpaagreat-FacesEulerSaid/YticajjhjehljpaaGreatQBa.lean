/-
  Parts of a proof. No condition.
-/
import Derived.Test.YticajjhjehljpaaGreatQAz
set_option linter.unusedSimpArgs false
set_option linter.unusedVariables false
noncomputable section
namespace Go.Aw
set_option maxRecDepth 100000
set_option maxHeartbeats 2000000
def eF (D:List Dt)(ls:List (List Int)):List Bool:=CB D ls 1000 (List.replicate ls.length false) 0
def cnS (l:List Pt)(D:List Dt)(ls:List (List Int)):List Value→Option (Bool × Value)
 |[]=>some (FX l D ls&&VL D ls&&decide (1≤ls.length),.bool ((eF D ls).all id))
 |_=>none
def SD:Nat × XF:=(82,wbX cnS)
theorem aHV:dK Go.Proofs.Tryz.prog SD.1 SD.2:=O3 (f:=82) (s:=cnS) (aR (xl:=[(145,aEL 1000),RY]) (.cons (aDM 1000) (.cons aED .nil))) fun l D ls r v hs=>by
 have:r=[]∧FX l D ls=true∧VL D ls=true∧1≤ls.length∧v=.bool ((eF D ls).all id):=by
  unfold cnS at hs;split at hs
  ·injection hs with hs;injection hs with h1 h2;simp only [Bool.and_eq_true,decide_eq_true_eq] at h1;exact⟨rfl,h1.1.1,h1.1.2,h1.2,h2.symm⟩
  ·cases hs
 obtain⟨rfl,h1,h2,h3,rfl⟩:=this;clear hs;have hn:=HP h1;refine⟨rfl,rfl,by omega,ls.length,fun nE c1 c2 n fo=>?_⟩;unfold eP FV;rw [kQ (Nat.le_refl _)];((conv=>whnf);refine bm (fun g1=>?_) (fun g1=>?_))
 ·((conv=>whnf);refine bm (fun g=>?_) (fun g=>?_))
  ·(conv=>whnf);refine⟨⟨0,l,D,ls,nE,c1,c2,n,fo,List.replicate ls.length false⟩,⟨h1,h2,Int.le_refl 0,?_,List.length_replicate,?_,?_⟩,rfl,?_,rfl,?_⟩
   ·show (0:Int)<(ls.length:Int);omega
   ·show cM (List.replicate ls.length false) 0=false;unfold cM;rw [List.getD_eq_getElem?_getD,List.getElem?_replicate];split <;> rfl
   ·have:fI (List.replicate ls.length false)≤(List.replicate ls.length false).length:=List.countP_le_length;rw [List.length_replicate] at this;show fI (List.replicate ls.length false)≤1000;omega
   ·show _=qF _ (List.replicate ls.length false);unfold qF eP FV;simp only;rw [kQ (Nat.le_refl _),← KV];rfl
   ·(conv=>whnf);have hrl:(eF D ls).length=ls.length:=by
     unfold eF;rw [(EI D ls 1000 _ 0).2,List.length_replicate]
    refine⟨eF D ls,⟨hrl.symm,_,_,_,_,rfl,by rw [List.drop_zero];exact List.take_length⟩,?_⟩;rw [show ctS (eF D ls) ([Value.bool false].append #[].toList)=some (true,.bool (!((eF D ls).all id))) from by
     show some (decide ((eF D ls).length≤1000000),Value.bool (!((eF D ls).all id)))=_;rw [decide_eq_true (by omega)]]
    refine aJ rfl ?_;(conv=>whnf);show Value.bool (!(!((eF D ls).all id)))=_;rw [Bool.not_not]
  ·exfalso;have g:decide ((0:Int)<(ls.length:Int))=false:=g;simp only [decide_eq_false_iff_not] at g;omega
 ·exfalso;simp [aA,aG,aK] at g1;omega
theorem gU {b n0 nx:Nat}{I:KS}{e0 e:List (Nat × Value)}{P W h:Heap}(L:List (Nat × Nat))(hI:I e0 (P++W) n0)(he:∀ p∈e0,look e p.1=some (iM (rn L) p.2)∧BK n0 p.2)(hW:∀ k o,look W k=some o→k<b∧bT id b o o)(hk:∀ k o,look W k=some o→look h k=some o)
  (hP:∀ p∈P,((b≤p.1∧p.1<n0∧b≤rn L p.1)∨p.1<b)∧∃ o',look h (rn L p.1)=some o'∧bT (rn L) n0 p.2 o') (hi:∀ k∈P.map Prod.fst,∀ k'∈P.map Prod.fst,rn L k=rn L k'→k=k') (hL:∀ p∈L,b≤p.1) (hb:b≤n0):qI b I e h nx:=by
 have hfix:∀ k,k<b→rn L k=k:=fun k hk=>by
  unfold rn;split
  ·rename_i q hq;have:=hL _ (bA hq);simp only at this;omega
  ·rfl
 refine⟨e0,P++W,n0,rn L,hI,fun t v hv=>he (t,v) (bA hv),fun k o hk'=>?_,fun k k' o o' h1 h2 e=>?_,hfix,hb⟩
 ·rcases oO hk' with hm|hm
  ·obtain⟨a1,a2⟩:=hP _ hm;simp only at a1;exact⟨by omega,a2⟩
  ·obtain⟨a1,a2⟩:=hW k o hm;exact⟨by omega,o,by rw [hfix k a1];exact hk k o hm,pD hfix hb a2⟩
 ·rcases oO h1 with m1|m1 <;> rcases oO h2 with m2|m2
  ·exact hi k (List.mem_map.2 ⟨_,m1,rfl⟩) k' (List.mem_map.2 ⟨_,m2,rfl⟩) e
  ·have:=(hP _ m1).1;have b2:=(hW _ _ m2).1;simp only at this;rw [hfix k' b2] at e;rcases this with this|this
   ·omega
   ·rw [hfix k this] at e;exact e
  ·have:=(hP _ m2).1;have b2:=(hW _ _ m1).1;simp only at this;rw [hfix k b2] at e;rcases this with this|this
   ·omega
   ·rw [hfix k' this] at e;exact e
  ·rwa [hfix k (hW _ _ m1).1,hfix k' (hW _ _ m2).1] at e
structure K7 where
 face:List Int
 seen:List Bool
 many:Int
 out:Int
 flat:Bool
def eN (s:List Bool)(w:List Int):Nat→List Bool
 |0=>s
 |i+1=>(eN s w i).set (aH w i).toNat true
theorem jO (s:List Bool)(w:List Int):∀ i,(eN s w i).length=s.length
 |0=>rfl
 |i+1=>by unfold eN;rw [List.length_set];exact jO s w i
def jC (l:List Pt)(D:List Dt)(ls:List (List Int))(s:K7)(d:Nat):K7 :=
 if cM s.seen d=true then s else
  let w:=nS D ls d;let a:=GQ l D w w.length;let fc:=if 0<a then s.many+1 else 0
  ⟨eU s.face w fc w.length,eN s.seen w w.length,if 0<a then s.many+1 else s.many,if 0<a then s.out else if a<0 then s.out+1 else s.out,if 0<a then s.flat else if a<0 then s.flat else true⟩
def bS (l:List Pt)(D:List Dt)(ls:List (List Int)):Nat→K7
 |0=>⟨List.replicate D.length 0,List.replicate D.length false,0,0,false⟩
 |d+1=>jC l D ls (bS l D ls d) d
def nmD (l:List Pt)(D:List Dt)(ls:List (List Int)):K7:=bS l D ls D.length
def vC (s:K7):Bool:=decide (s.out=1)&&!s.flat
theorem lV (l:List Pt)(D:List Dt)(ls:List (List Int)):∀ d,(bS l D ls d).face.length=D.length∧(bS l D ls d).seen.length=D.length∧0≤(bS l D ls d).many∧(bS l D ls d).many≤d∧0≤(bS l D ls d).out∧(bS l D ls d).out≤d
 |0=>by unfold bS;simp
 |d+1=>by
  obtain⟨h1,h2,h3,h4,h5,h6⟩:=lV l D ls d;unfold bS jC;split
  ·refine⟨h1,h2,h3,?_,h5,?_⟩ <;> omega
  ·simp only [iU,jO];refine⟨h1,h2,?_,?_,?_,?_⟩
   ·split <;> omega
   ·split <;> omega
   ·split
    ·omega
    ·split <;> omega
   ·split
    ·omega
    ·split <;> omega
def ZR (D:List Dt)(ls:List (List Int)):Bool:=(List.range D.length).all fun d=>decide (iY D ls d (gB D ls d)=d)
structure WbR (R:Heap) (k0 kd kt:Nat) (nm:Nat→Nat) (l:List Pt) (D:List Dt) (ls:List (List Int)):Prop where
 pt:∃ wr g sz cs,look R k0=some (.cells wr g sz cs)∧cs.take (flat a8.fl l).length=flat a8.fl l
 da:∃ wr g sz cs,look R kd=some (.cells wr g sz cs)∧cs.take (flat p0.fl D).length=flat p0.fl D
 tb:∃ wr g sz,look R kt=some (.cells wr g sz ((List.range ls.length).map fun i=>tV (nm i) (bE ls i)))
 li:∀ i,i<ls.length→(bE ls i).length≠0→∃ wr g sz cs,look R (nm i)=some (.cells wr g sz cs)∧cs.take (flat aU.fl (bE ls i)).length=flat aU.fl (bE ls i)
theorem WbR.at {R h:Heap}{p k0 k1 kd kt kf:Nat}{nm:Nat→Nat}{l:List Pt}{D:List Dt}{ls:List (List Int)}{nE c1 c2:Nat}{n:Int}{fo:Option (Nat × Nat)}(hw:WbR R k0 kd kt nm l D ls)(hx:∀ k o,look R k=some o→look h k=some o){wr g:Bool}{sz:Nat}
  (hs:look h p=some (.cells wr g sz (FV k0 k1 kd kt kf l.length nE D.length ls.length c1 c2 n fo))):uE h p k0 k1 kd kt kf nm l D ls nE c1 c2 n fo:=by
 obtain⟨⟨w1,g1,s1,x1,a1,b1⟩,⟨w2,g2,s2,x2,a2,b2⟩,⟨w3,g3,s3,a3⟩,h4⟩:=hw;refine⟨⟨_,_,_,hs⟩,⟨_,_,_,_,hx _ _ a1,b1⟩,⟨_,_,_,_,hx _ _ a2,b2⟩,⟨_,_,_,hx _ _ a3⟩,fun i hi h0=>?_⟩;obtain⟨w5,g5,s5,x5,a5,b5⟩:=h4 i hi h0;exact⟨_,_,_,_,hx _ _ a5,b5⟩
structure ON where
 R:Heap
 k0:Nat
 k1:Nat
 kd:Nat
 kt:Nat
 nm:Nat→Nat
 l:List Pt
 D:List Dt
 ls:List (List Int)
 nE:Nat
 c1:Nat
 c2:Nat
 n:Int
def aEs (a:ON):Prop:=rE a.l a.D a.ls=true∧ZR a.D a.ls=true∧zS a.R 2003∧look a.R 7=none∧WbR a.R a.k0 a.kd a.kt a.nm a.l a.D a.ls∧(a.k0<2003∧a.k1<2003∧a.kd<2003∧a.kt<2003)
def M5 (a:ON)(fv:Value):aS:=.cells true false 1 [.slice (some ⟨a.k0,0,none⟩) a.l.length a.c1,.slice (some ⟨a.k1,0,none⟩) a.nE a.c2,iv a.n,.slice (some ⟨a.kd,0,none⟩) a.D.length a.D.length,.slice (some ⟨a.kt,0,none⟩) a.ls.length a.ls.length,fv]
def N3 (a:ON):Heap:=(7,M5 a (.slice (some ⟨2003,0,none⟩) a.D.length a.D.length))::(2003,.cells true false 1 (flat aU.fl (nmD a.l a.D a.ls).face))::a.R
def aEW:XF:=dX aEs (fun _=>[.pointer (some ⟨7,0,none⟩)]) (fun a=>(7,M5 a aM)::a.R) (fun _=>2003) (fun a=>.tuple #[iv (nmD a.l a.D a.ls).many,.bool (vC (nmD a.l a.D a.ls))])
 N3 (fun _=>2004)
def mZ (N:Nat)(s:K7)(j:Int):List (Nat × Value):=[(0,.pointer (some ⟨7,0,none⟩)),(4,.slice (some ⟨2004,0,none⟩) N N),(5,iv s.many),(6,iv s.out),(7,.bool s.flat),(33,iv N),(34,iv j)]
def mY (a:ON)(s:K7):Heap:=[(7,M5 a (.slice (some ⟨2003,0,none⟩) a.D.length a.D.length)),(2003,.cells true false 1 (flat aU.fl s.face)),(2004,.cells true false 1 (flat lU.fl s.seen))]
def j6 (N:Nat)(s:K7)(j fc:Int)(n:Nat)(x:Int):List (Nat × Value):=(11,iv fc)::(58,.slice (some ⟨2005,0,none⟩) n n)::(59,iv n)::(60,iv x)::mZ N s j
theorem ED {s:List Bool}{w:List Int}{t o:Nat}(ho:o=(aH w t).toNat*1)(hi:(aH w t).toNat<s.length):eC (flat lU.fl (eN s w t)) o [.bool true]=flat lU.fl (eN s w (t+1)):=by
 rw [ho,rU _ _ _ (by rw [jO];exact hi)];rfl
theorem zU {a:ON}(h6:a.k0<2003∧a.k1<2003∧a.kd<2003∧a.kt<2003){h:Heap}{s:K7}{n0:Nat}(hn:2005≤n0)(x1:look h 7=some (M5 a (.slice (some ⟨2003,0,none⟩) a.D.length a.D.length)))(x2:look h 2003=some (.cells true false 1 (flat aU.fl s.face)))(x3:look h 2004=some (.cells true false 1 (flat lU.fl s.seen))) :
  ∀ p∈mY a s,((2003≤p.1∧p.1<n0∧2003≤rn [] p.1)∨p.1<2003)∧∃ o',look h (rn [] p.1)=some o'∧bT (rn []) n0 p.2 o':=by
 have hsl:∀ {q a b:Nat},q<2004→BR n0 (.slice (some ⟨q,0,none⟩) a b):=fun {q a b} hq=>⟨show q<n0 by omega,fun h=>by cases h⟩;unfold mY;refine List.forall_mem_cons.2 ⟨⟨.inr (by omega),_,x1,rfl,rfl,rfl,rfl,?_⟩,List.forall_mem_cons.2 ⟨⟨.inl ⟨Nat.le_refl _,by show 2003<n0;omega,Nat.le_refl _⟩,_,x2,aI (aF _ _)⟩,List.forall_mem_cons.2 ⟨⟨.inl ⟨by omega,by show 2004<n0;omega,by show 2003≤2004;omega⟩,_,x3,aI (aF _ _)⟩,fun _ h=>(by cases h)⟩⟩⟩;exact List.forall_mem_cons.2 ⟨hsl (by omega),List.forall_mem_cons.2 ⟨hsl (by omega),List.forall_mem_cons.2 ⟨cD rfl,List.forall_mem_cons.2 ⟨hsl (by omega),List.forall_mem_cons.2 ⟨hsl (by omega),List.forall_mem_cons.2 ⟨hsl (by omega),fun _ h=>(by cases h)⟩⟩⟩⟩⟩⟩
theorem zD {a:ON}(h6:a.k0<2003∧a.k1<2003∧a.kd<2003∧a.kt<2003){h:Heap}{s:K7}{w:List Int}(x1:look h 7=some (M5 a (.slice (some ⟨2003,0,none⟩) a.D.length a.D.length)))(x2:look h 2003=some (.cells true false 1 (flat aU.fl s.face)))(x3:look h 2004=some (.cells true false 1 (flat lU.fl s.seen)))
  (x4:look h 2005=some (.cells true false 1 (flat aU.fl w))):∀ p∈mY a s++[(2005,.cells true false 1 (flat aU.fl w))],((2003≤p.1∧p.1<2006∧2003≤rn [] p.1)∨p.1<2003)∧∃ o',look h (rn [] p.1)=some o'∧bT (rn []) 2006 p.2 o':=by
 intro p hp;rcases List.mem_append.1 hp with hp|hp
 ·exact zU h6 (by omega) x1 x2 x3 p hp
 ·simp only [List.mem_cons,List.not_mem_nil,or_false] at hp;subst hp;exact⟨.inl ⟨by omega,by omega,by show 2003≤2005;omega⟩,_,x4,aI (aF _ _)⟩
theorem bR {W:Heap}{b q:Nat}(h:zS W b)(hq:b≤q):look W q=none:=by
 cases hl:look W q with
 |none=>rfl
 |some o=>have:=(h q o hl).1;omega
theorem aG7 {l:List Pt}{D:List Dt}{ls:List (List Int)}{d:Nat}(h:rE l D ls=true)(h2:ZR D ls=true)(hd:d<D.length):wkS l D ls [iv d]=some (true,nS D ls d,[]):=by
 have:=List.all_eq_true.1 h2 d (List.mem_range.2 hd);show some (rE l D ls&&decide ((0:Int)≤d)&&decide ((d:Int)<D.length)&&decide (iY D ls d (gB D ls d)=d),nS D ls d,[])=_;rw [h,decide_eq_true (by omega:(0:Int)≤d),decide_eq_true (by omega:(d:Int)<D.length),this];rfl
theorem QB {l:List Pt}{D:List Dt}{ls:List (List Int)}{d:Nat}(h:rE l D ls=true)(hd:d<D.length):XP D (nS D ls d)=true∧(nS D ls d).length≤D.length+1∧1≤(nS D ls d).length:=by
 have hp:=gP D ls d D.length 1;refine⟨List.all_eq_true.2 fun x hx=>?_,?_,?_⟩
 ·obtain⟨i,_,rfl⟩:=List.mem_map.1 hx;have:=PE h (d:=d) (by omega) (by omega) i;simpa using this
 ·unfold nS gB;rw [List.length_map,List.length_range];omega
 ·unfold nS gB;rw [List.length_map,List.length_range];omega
theorem aG8 {l:List Pt}{D:List Dt}{ls:List (List Int)}{L:List Int}(h:FX l D ls=true)(h1:XP D L=true)(h2:L.length≤100000):arS l D ls L=some (true,iv (GQ l D L L.length)):=by
 unfold arS;rw [h,h1,decide_eq_true h2];rfl
theorem XU {a:ON}(h3:zS a.R 2003)(h4:look a.R 7=none)(h6:a.k0<2003∧a.k1<2003∧a.kd<2003∧a.kt<2003){h:Heap}{s:K7}{nx:Nat}{b:Bool}(hb:b=vC s)(x1:look h 7=some (M5 a (.slice (some ⟨2003,0,none⟩) a.D.length a.D.length)))
  (x2:look h 2003=some (.cells true false 1 (flat aU.fl s.face))) (hx:∀ k o,look a.R k=some o→look h k=some o) :
  ∃ ρ,oU 2003 ρ [(0,.tuple #[iv s.many,.bool (vC s)])] ((7,M5 a (.slice (some ⟨2003,0,none⟩) a.D.length a.D.length))::(2003,.cells true false 1 (flat aU.fl s.face))::a.R) 2004 [(0,.tuple #[iv s.many,.bool b])] h nx:=by
 subst hb;have hsl:∀ {q a b:Nat},q<2004→BR 2004 (.slice (some ⟨q,0,none⟩) a b):=fun {q a b} hq=>⟨hq,fun h=>by cases h⟩;refine⟨id,fun t u hu=>?_,fun k o hk=>?_,fun _ _ _ _ _ _ e=>e,fun _ _=>rfl,by omega⟩
 ·have hm:=bA hu;simp only [List.mem_cons,List.not_mem_nil,or_false] at hm;injection hm with e1 e2;subst e1 e2;exact⟨by rw [iM,fU rfl];rfl,dD rfl⟩
 ·rw [aB] at hk;split at hk
  ·rename_i hb;injection hk with hk;subst hk;rw [← beq_true hb];refine⟨by omega,_,x1,rfl,rfl,rfl,rfl,?_⟩;exact List.forall_mem_cons.2 ⟨hsl (by omega),List.forall_mem_cons.2 ⟨hsl (by omega),List.forall_mem_cons.2 ⟨cD rfl,List.forall_mem_cons.2 ⟨hsl (by omega),List.forall_mem_cons.2 ⟨hsl (by omega),List.forall_mem_cons.2 ⟨hsl (by omega),fun _ h=>(by cases h)⟩⟩⟩⟩⟩⟩
  ·rw [aB] at hk;split at hk
   ·rename_i hb;injection hk with hk;subst hk;rw [← beq_true hb];exact⟨by omega,_,x2,aI (aF _ _)⟩
   ·obtain⟨a1,a2⟩:=h3 k o hk;exact⟨by omega,o,hx k o hk,pD (fun _ _=>rfl) (by omega) a2⟩
theorem aIK:dK Go.Proofs.Tryz.prog 83 aEW:=RW (aR (xl:=[aFA,aGf]) (.cons aIS (.cons aKo .nil))) fun a ⟨h1,h2,h3,h4,h5,h6⟩=>by
 have hn:=HP (CD h1);unfold M5;((conv=>whnf);refine bm (fun g1=>?_) (fun g1=>?_))
 ·((conv=>whnf);refine bm (fun g1'=>?_) (fun g1'=>?_))
  ·(conv=>whnf);refine⟨fun q e h nx=>∃ (i:Nat) (j:Int),j=i∧i≤a.D.length∧q=a.D.length - i∧e=mZ a.D.length (bS a.l a.D a.ls i) j∧h=mY a (bS a.l a.D a.ls i)++a.R∧nx=2005,⟨a.D.length,?_⟩,?_⟩
   ·refine gU (P:=mY a (bS a.l a.D a.ls 0)) (W:=a.R) (e0:=mZ a.D.length (bS a.l a.D a.ls 0) 0) (n0:=2005) [] ⟨0,0,rfl,Nat.zero_le _,rfl,rfl,rfl,rfl⟩ ?_ h3 ?_ ?_ ?_ (fun _ h=>(by cases h)) (by omega)
    ·unfold mZ;((repeat' refine iE rfl rfl ?_);exact iN)
    ·exact eI (lO (eI (ext_cons (fun _ _ h=>h) h4) (bR h3 (by omega))) h4) (bR h3 (by omega))
    ·refine zU h6 (by omega) rfl ?_ ?_
     ·show some (aS.cells true false 1 (rep a.D.length [iv 0]))=some (.cells true false 1 (flat aU.fl (List.replicate a.D.length 0)));rw [aGl]
     ·show some (aS.cells true false 1 (rep a.D.length [.bool false]))=some (.cells true false 1 (flat lU.fl (List.replicate a.D.length false)));rw [KV]
    ·show ∀ k∈[7,2003,2004],∀ k'∈[7,2003,2004],_;decide
   ·rintro q e h nx ⟨i,j,hj,hi,rfl,rfl,rfl,rfl⟩;obtain⟨s1,s2,s3,s4,s5,s6⟩:=lV a.l a.D a.ls i;have hst:bS a.l a.D a.ls (i+1)=jC a.l a.D a.ls (bS a.l a.D a.ls i) i:=rfl;generalize hss:bS a.l a.D a.ls i=s at s1 s2 s3 s4 s5 s6 hst ⊢;unfold mZ mY M5;((conv=>whnf);refine bm (fun g2=>?_) (fun g2=>?_))
    ·have hlt:i<a.D.length:=(by simp [aA,aG] at g2;omega);((conv=>whnf);refine bm (fun g3=>?_) (fun g3=>?_))
     ·(conv=>whnf);refine lD (aC6 s.seen (i:=i) (by omega) ?_) ?_
      ·show _+Int.toNat j*1=_;omega
      ((conv=>whnf);refine bm (fun g4=>?_) (fun g4=>?_))
      ·have g4:cM s.seen i=true:=g4;unfold jC at hst;rw [if_pos g4] at hst;((conv=>whnf);refine bm (fun g5=>?_) (fun g5=>?_))
       ·(conv=>whnf);refine⟨a.D.length - (i+1),by omega,?_⟩;refine gU (P:=mY a (bS a.l a.D a.ls (i+1))) (W:=a.R) (e0:=mZ a.D.length (bS a.l a.D a.ls (i+1)) (j+1)) (n0:=2005) [] ⟨i+1,j+1,by omega,by omega,rfl,rfl,rfl,rfl⟩ ?_ h3 ?_ ?_ ?_ (fun _ h=>(by cases h)) (by omega)
        ·rw [hst];unfold mZ;((repeat' refine iE rfl rfl ?_);exact iN)
        ·exact ext_cons (ext_cons (ext_cons (fun _ _ h=>h) (bR h3 (by omega))) (bR h3 (by omega))) h4
        ·rw [hst];exact zU h6 (by omega) rfl rfl rfl
        ·show ∀ k∈[7,2003,2004],∀ k'∈[7,2003,2004],_;decide
       ·exfalso;simp [aA,aG,aK] at g5;omega
      ·have g4:cM s.seen i=false:=g4;(conv=>whnf);have hx0:∀ k o,look a.R k=some o→look ([(7,aS.cells true false 1 [.slice (some ⟨a.k0,0,none⟩) a.l.length a.c1,.slice (some ⟨a.k1,0,none⟩) a.nE a.c2,iv a.n,.slice (some ⟨a.kd,0,none⟩) a.D.length a.D.length,.slice (some ⟨a.kt,0,none⟩) a.ls.length a.ls.length,.slice (some ⟨2003,0,none⟩) a.D.length a.D.length]),(2003,.cells true false 1 (flat aU.fl s.face)),(2004,.cells true false 1 (flat lU.fl s.seen))]++a.R) k=some o :=
        ext_cons (ext_cons (ext_cons (fun _ _ h=>h) (bR h3 (by omega))) (bR h3 (by omega))) h4
       have hwk:wkS a.l a.D a.ls [iv j]=some (true,nS a.D a.ls i,[]):=(by rw [hj];exact aG7 h1 h2 hlt);obtain⟨w1,w2,w3⟩:=QB h1 hlt;refine⟨7,[iv j],a.k0,a.k1,a.kd,a.kt,2003,a.nm,a.l,a.D,a.ls,a.nE,a.c1,a.c2,a.n,some (a.D.length,a.D.length),rfl,h5.at hx0 rfl,?_⟩;rw [hwk];unfold jC at hst;rw [if_neg (by rw [g4];decide)] at hst;simp only at hst;generalize nS a.D a.ls i=w at w1 w2 w3 hst hwk ⊢;refine aJ rfl ?_;(conv=>whnf);refine⟨7,2005,a.k0,a.k1,a.kd,a.kt,2003,a.nm,a.l,a.D,a.ls,a.nE,a.c1,a.c2,a.n,some (a.D.length,a.D.length),w,w.length,rfl,h5.at (eI hx0 (bR h3 (by omega))) rfl,⟨_,_,_,_,rfl,List.take_length⟩,?_⟩;rw [aG8 (CD h1) w1 (by omega)];generalize GQ a.l a.D w w.length=A at hst ⊢;refine aJ rfl ?_;((conv=>whnf);refine bm (fun g6=>?_) (fun g6=>?_))
       ·have hA:0<A:=(by simpa [aA,aG] using g6);simp only [if_pos hA] at hst;((conv=>whnf);refine bm (fun g7=>?_) (fun g7=>?_))
        ·skip
         have hst1:bS a.l a.D a.ls (i+1)=⟨eU s.face w (s.many+1) w.length,eN s.seen w w.length,s.many+1,s.out,s.flat⟩:=(by rw [hst]);(conv=>whnf);refine⟨fun q e h nx=>∃ (t:Nat) (x:Int),x=t∧t≤w.length∧q=w.length - t∧e=j6 a.D.length ⟨eU s.face w (s.many+1) t,eN s.seen w t,s.many+1,s.out,s.flat⟩ j (s.many+1) w.length x∧h=(mY a ⟨eU s.face w (s.many+1) t,eN s.seen w t,s.many+1,s.out,s.flat⟩++[(2005,.cells true false 1 (flat aU.fl w))])++a.R∧nx=2006,⟨w.length,?_⟩,?_⟩
         ·refine gU (P:=mY a ⟨s.face,s.seen,s.many+1,s.out,s.flat⟩++[(2005,.cells true false 1 (flat aU.fl w))]) (W:=a.R) (e0:=j6 a.D.length ⟨s.face,s.seen,s.many+1,s.out,s.flat⟩ j (s.many+1) w.length 0) (n0:=2006) [] ⟨0,0,rfl,Nat.zero_le _,rfl,rfl,rfl,rfl⟩ ?_ h3 ?_ ?_ ?_ (fun _ h=>(by cases h)) (by omega)
          ·unfold j6 mZ;((repeat' refine iE rfl rfl ?_);exact iN)
          ·exact eI hx0 (bR h3 (by omega))
          ·exact zD h6 rfl rfl rfl rfl
          ·show ∀ k∈[7,2003,2004,2005],∀ k'∈[7,2003,2004,2005],_;decide
         ·rintro q e h nx ⟨t,x,hx,ht,rfl,rfl,rfl,rfl⟩;unfold j6 mZ mY M5;((conv=>whnf);refine bm (fun m1=>?_) (fun m1=>?_))
          ·have htl:t<w.length:=(by simp [aA,aG] at m1;omega);have hwd:=oD w1 (i:=t) htl;((conv=>whnf);refine bm (fun m2=>?_) (fun m2=>?_))
           ·(conv=>whnf);refine lD (j1 w (i:=t) htl ?_) ?_
            ·show _+Int.toNat x*1=_;omega
            have hsf:=iU s.face w (s.many+1) t;have hss:=jO s.seen w t
            repeat' first
             |(((conv=>whnf);refine bm (fun m=>?_) (fun m=>?_)))
            all_goals first
             |(exfalso;simp [aA,aG,aK] at m;omega)
             |(exfalso
               have hb:Nat.ble (0+Int.toNat (aH w t)*1+1) (flat lU.fl (eN s.seen w t)).length=true:=Nat.ble_eq_true_of_le (by rw [cG];show _≤(eN s.seen w t).length*1;omega);exact Bool.false_ne_true (m.symm.trans hb))
             |(exfalso
               have hb:Nat.ble (0+Int.toNat (aH w t)*1+1) (flat aU.fl (eU s.face w (s.many+1) t)).length=true:=Nat.ble_eq_true_of_le (by rw [cG];show _≤(eU s.face w (s.many+1) t).length*1;omega);exact Bool.false_ne_true (m.symm.trans hb))
             |skip
            (conv=>whnf);refine⟨w.length - (t+1),by omega,?_⟩;refine gU (P:=mY a ⟨eU s.face w (s.many+1) (t+1),eN s.seen w (t+1),s.many+1,s.out,s.flat⟩++[(2005,.cells true false 1 (flat aU.fl w))]) (W:=a.R) (e0:=j6 a.D.length ⟨eU s.face w (s.many+1) (t+1),eN s.seen w (t+1),s.many+1,s.out,s.flat⟩ j (s.many+1) w.length (x+1)) (n0:=2006) [] ⟨t+1,x+1,by omega,by omega,rfl,rfl,rfl,rfl⟩ ?_ h3 ?_ ?_ ?_ (fun _ h=>(by cases h)) (by omega)
            ·unfold j6 mZ;((repeat' refine iE rfl rfl ?_);exact iN)
            ·exact lO (lO (ext_cons (ext_cons (ext_cons (ext_cons (fun _ _ h=>h) (bR h3 (by omega))) (bR h3 (by omega))) (bR h3 (by omega))) h4) (bR h3 (by omega))) (bR h3 (by omega))
            ·refine zD h6 rfl ?_ ?_ rfl
             ·show some (aS.cells true false 1 (eC (flat aU.fl (eU s.face w (s.many+1) t)) (0+Int.toNat (aH w t)*1) [iv (s.many+1)]))=_;rw [D3 (by omega) (by omega)]
             ·show some (aS.cells true false 1 (eC (flat lU.fl (eN s.seen w t)) (0+Int.toNat (aH w t)*1) [.bool true]))=_;rw [ED (by omega) (by omega)]
            ·show ∀ k∈[7,2003,2004,2005],∀ k'∈[7,2003,2004,2005],_;decide
           ·exfalso;simp [aA,aG] at m2;omega
          ·have htl:t=w.length:=(by simp [aA,aG] at m1;omega);((conv=>whnf);refine bm (fun m2=>?_) (fun m2=>?_))
           ·(conv=>whnf);refine⟨a.D.length - (i+1),by omega,?_⟩;refine gU (P:=mY a (bS a.l a.D a.ls (i+1))) (W:=a.R) (e0:=mZ a.D.length (bS a.l a.D a.ls (i+1)) (j+1)) (n0:=2005) [] ⟨i+1,j+1,by omega,by omega,rfl,rfl,rfl,rfl⟩ ?_ h3 ?_ ?_ ?_ (fun _ h=>(by cases h)) (by omega)
            ·rw [hst1];unfold mZ;((repeat' refine iE rfl rfl ?_);exact iN)
            ·exact (ext_cons (ext_cons (ext_cons (ext_cons (fun _ _ h=>h) (bR h3 (by omega))) (bR h3 (by omega))) (bR h3 (by omega))) h4)
            ·rw [hst1,← htl];exact zU h6 (by omega) rfl rfl rfl
            ·show ∀ k∈[7,2003,2004],∀ k'∈[7,2003,2004],_;decide
           ·exfalso;simp [aA,aG,aK] at m2;omega
        ·exfalso;simp [aA,aG,aK] at g7;omega
       ·have hA:¬ 0<A:=(by simpa [aA,aG] using g6);simp only [if_neg hA] at hst;((conv=>whnf);refine bm (fun g7=>?_) (fun g7=>?_))
        ·have hA2:A<0:=(by simpa [aA,aG] using g7);simp only [if_pos hA2] at hst;((conv=>whnf);refine bm (fun g8=>?_) (fun g8=>?_))
         ·skip
          have hst1:bS a.l a.D a.ls (i+1)=⟨eU s.face w (0) w.length,eN s.seen w w.length,s.many,s.out+1,s.flat⟩:=(by rw [hst]);(conv=>whnf);refine⟨fun q e h nx=>∃ (t:Nat) (x:Int),x=t∧t≤w.length∧q=w.length - t∧e=j6 a.D.length ⟨eU s.face w (0) t,eN s.seen w t,s.many,s.out+1,s.flat⟩ j (0) w.length x∧h=(mY a ⟨eU s.face w (0) t,eN s.seen w t,s.many,s.out+1,s.flat⟩++[(2005,.cells true false 1 (flat aU.fl w))])++a.R∧nx=2006,⟨w.length,?_⟩,?_⟩
          ·refine gU (P:=mY a ⟨s.face,s.seen,s.many,s.out+1,s.flat⟩++[(2005,.cells true false 1 (flat aU.fl w))]) (W:=a.R) (e0:=j6 a.D.length ⟨s.face,s.seen,s.many,s.out+1,s.flat⟩ j (0) w.length 0) (n0:=2006) [] ⟨0,0,rfl,Nat.zero_le _,rfl,rfl,rfl,rfl⟩ ?_ h3 ?_ ?_ ?_ (fun _ h=>(by cases h)) (by omega)
           ·unfold j6 mZ;((repeat' refine iE rfl rfl ?_);exact iN)
           ·exact eI hx0 (bR h3 (by omega))
           ·exact zD h6 rfl rfl rfl rfl
           ·show ∀ k∈[7,2003,2004,2005],∀ k'∈[7,2003,2004,2005],_;decide
          ·rintro q e h nx ⟨t,x,hx,ht,rfl,rfl,rfl,rfl⟩;unfold j6 mZ mY M5;((conv=>whnf);refine bm (fun m1=>?_) (fun m1=>?_))
           ·have htl:t<w.length:=(by simp [aA,aG] at m1;omega);have hwd:=oD w1 (i:=t) htl;((conv=>whnf);refine bm (fun m2=>?_) (fun m2=>?_))
            ·(conv=>whnf);refine lD (j1 w (i:=t) htl ?_) ?_
             ·show _+Int.toNat x*1=_;omega
             have hsf:=iU s.face w (0) t;have hss:=jO s.seen w t
             repeat' first
              |(((conv=>whnf);refine bm (fun m=>?_) (fun m=>?_)))
             all_goals first
              |(exfalso;simp [aA,aG,aK] at m;omega)
              |(exfalso
                have hb:Nat.ble (0+Int.toNat (aH w t)*1+1) (flat lU.fl (eN s.seen w t)).length=true:=Nat.ble_eq_true_of_le (by rw [cG];show _≤(eN s.seen w t).length*1;omega);exact Bool.false_ne_true (m.symm.trans hb))
              |(exfalso
                have hb:Nat.ble (0+Int.toNat (aH w t)*1+1) (flat aU.fl (eU s.face w (0) t)).length=true:=Nat.ble_eq_true_of_le (by rw [cG];show _≤(eU s.face w (0) t).length*1;omega);exact Bool.false_ne_true (m.symm.trans hb))
              |skip
             (conv=>whnf);refine⟨w.length - (t+1),by omega,?_⟩;refine gU (P:=mY a ⟨eU s.face w (0) (t+1),eN s.seen w (t+1),s.many,s.out+1,s.flat⟩++[(2005,.cells true false 1 (flat aU.fl w))]) (W:=a.R) (e0:=j6 a.D.length ⟨eU s.face w (0) (t+1),eN s.seen w (t+1),s.many,s.out+1,s.flat⟩ j (0) w.length (x+1)) (n0:=2006) [] ⟨t+1,x+1,by omega,by omega,rfl,rfl,rfl,rfl⟩ ?_ h3 ?_ ?_ ?_ (fun _ h=>(by cases h)) (by omega)
             ·unfold j6 mZ;((repeat' refine iE rfl rfl ?_);exact iN)
             ·exact lO (lO (ext_cons (ext_cons (ext_cons (ext_cons (fun _ _ h=>h) (bR h3 (by omega))) (bR h3 (by omega))) (bR h3 (by omega))) h4) (bR h3 (by omega))) (bR h3 (by omega))
             ·refine zD h6 rfl ?_ ?_ rfl
              ·show some (aS.cells true false 1 (eC (flat aU.fl (eU s.face w (0) t)) (0+Int.toNat (aH w t)*1) [iv (0)]))=_;rw [D3 (by omega) (by omega)]
              ·show some (aS.cells true false 1 (eC (flat lU.fl (eN s.seen w t)) (0+Int.toNat (aH w t)*1) [.bool true]))=_;rw [ED (by omega) (by omega)]
             ·show ∀ k∈[7,2003,2004,2005],∀ k'∈[7,2003,2004,2005],_;decide
            ·exfalso;simp [aA,aG] at m2;omega
           ·have htl:t=w.length:=(by simp [aA,aG] at m1;omega);((conv=>whnf);refine bm (fun m2=>?_) (fun m2=>?_))
            ·(conv=>whnf);refine⟨a.D.length - (i+1),by omega,?_⟩;refine gU (P:=mY a (bS a.l a.D a.ls (i+1))) (W:=a.R) (e0:=mZ a.D.length (bS a.l a.D a.ls (i+1)) (j+1)) (n0:=2005) [] ⟨i+1,j+1,by omega,by omega,rfl,rfl,rfl,rfl⟩ ?_ h3 ?_ ?_ ?_ (fun _ h=>(by cases h)) (by omega)
             ·rw [hst1];unfold mZ;((repeat' refine iE rfl rfl ?_);exact iN)
             ·exact (ext_cons (ext_cons (ext_cons (ext_cons (fun _ _ h=>h) (bR h3 (by omega))) (bR h3 (by omega))) (bR h3 (by omega))) h4)
             ·rw [hst1,← htl];exact zU h6 (by omega) rfl rfl rfl
             ·show ∀ k∈[7,2003,2004],∀ k'∈[7,2003,2004],_;decide
            ·exfalso;simp [aA,aG,aK] at m2;omega
         ·exfalso;simp [aA,aG,aK] at g8;omega
        ·have hA2:¬ A<0:=(by simpa [aA,aG] using g7);simp only [if_neg hA2] at hst;have hst1:bS a.l a.D a.ls (i+1)=⟨eU s.face w (0) w.length,eN s.seen w w.length,s.many,s.out,true⟩:=(by rw [hst]);(conv=>whnf);refine⟨fun q e h nx=>∃ (t:Nat) (x:Int),x=t∧t≤w.length∧q=w.length - t∧e=j6 a.D.length ⟨eU s.face w (0) t,eN s.seen w t,s.many,s.out,true⟩ j (0) w.length x∧h=(mY a ⟨eU s.face w (0) t,eN s.seen w t,s.many,s.out,true⟩++[(2005,.cells true false 1 (flat aU.fl w))])++a.R∧nx=2006,⟨w.length,?_⟩,?_⟩
         ·refine gU (P:=mY a ⟨s.face,s.seen,s.many,s.out,true⟩++[(2005,.cells true false 1 (flat aU.fl w))]) (W:=a.R) (e0:=j6 a.D.length ⟨s.face,s.seen,s.many,s.out,true⟩ j (0) w.length 0) (n0:=2006) [] ⟨0,0,rfl,Nat.zero_le _,rfl,rfl,rfl,rfl⟩ ?_ h3 ?_ ?_ ?_ (fun _ h=>(by cases h)) (by omega)
          ·unfold j6 mZ;((repeat' refine iE rfl rfl ?_);exact iN)
          ·exact eI hx0 (bR h3 (by omega))
          ·exact zD h6 rfl rfl rfl rfl
          ·show ∀ k∈[7,2003,2004,2005],∀ k'∈[7,2003,2004,2005],_;decide
         ·rintro q e h nx ⟨t,x,hx,ht,rfl,rfl,rfl,rfl⟩;unfold j6 mZ mY M5;((conv=>whnf);refine bm (fun m1=>?_) (fun m1=>?_))
          ·have htl:t<w.length:=(by simp [aA,aG] at m1;omega);have hwd:=oD w1 (i:=t) htl;((conv=>whnf);refine bm (fun m2=>?_) (fun m2=>?_))
           ·(conv=>whnf);refine lD (j1 w (i:=t) htl ?_) ?_
            ·show _+Int.toNat x*1=_;omega
            have hsf:=iU s.face w (0) t;have hss:=jO s.seen w t
            repeat' first
             |(((conv=>whnf);refine bm (fun m=>?_) (fun m=>?_)))
            all_goals first
             |(exfalso;simp [aA,aG,aK] at m;omega)
             |(exfalso
               have hb:Nat.ble (0+Int.toNat (aH w t)*1+1) (flat lU.fl (eN s.seen w t)).length=true:=Nat.ble_eq_true_of_le (by rw [cG];show _≤(eN s.seen w t).length*1;omega);exact Bool.false_ne_true (m.symm.trans hb))
             |(exfalso
               have hb:Nat.ble (0+Int.toNat (aH w t)*1+1) (flat aU.fl (eU s.face w (0) t)).length=true:=Nat.ble_eq_true_of_le (by rw [cG];show _≤(eU s.face w (0) t).length*1;omega);exact Bool.false_ne_true (m.symm.trans hb))
             |skip
            (conv=>whnf);refine⟨w.length - (t+1),by omega,?_⟩;refine gU (P:=mY a ⟨eU s.face w (0) (t+1),eN s.seen w (t+1),s.many,s.out,true⟩++[(2005,.cells true false 1 (flat aU.fl w))]) (W:=a.R) (e0:=j6 a.D.length ⟨eU s.face w (0) (t+1),eN s.seen w (t+1),s.many,s.out,true⟩ j (0) w.length (x+1)) (n0:=2006) [] ⟨t+1,x+1,by omega,by omega,rfl,rfl,rfl,rfl⟩ ?_ h3 ?_ ?_ ?_ (fun _ h=>(by cases h)) (by omega)
            ·unfold j6 mZ;((repeat' refine iE rfl rfl ?_);exact iN)
            ·exact lO (lO (ext_cons (ext_cons (ext_cons (ext_cons (fun _ _ h=>h) (bR h3 (by omega))) (bR h3 (by omega))) (bR h3 (by omega))) h4) (bR h3 (by omega))) (bR h3 (by omega))
            ·refine zD h6 rfl ?_ ?_ rfl
             ·show some (aS.cells true false 1 (eC (flat aU.fl (eU s.face w (0) t)) (0+Int.toNat (aH w t)*1) [iv (0)]))=_;rw [D3 (by omega) (by omega)]
             ·show some (aS.cells true false 1 (eC (flat lU.fl (eN s.seen w t)) (0+Int.toNat (aH w t)*1) [.bool true]))=_;rw [ED (by omega) (by omega)]
            ·show ∀ k∈[7,2003,2004,2005],∀ k'∈[7,2003,2004,2005],_;decide
           ·exfalso;simp [aA,aG] at m2;omega
          ·have htl:t=w.length:=(by simp [aA,aG] at m1;omega);((conv=>whnf);refine bm (fun m2=>?_) (fun m2=>?_))
           ·(conv=>whnf);refine⟨a.D.length - (i+1),by omega,?_⟩;refine gU (P:=mY a (bS a.l a.D a.ls (i+1))) (W:=a.R) (e0:=mZ a.D.length (bS a.l a.D a.ls (i+1)) (j+1)) (n0:=2005) [] ⟨i+1,j+1,by omega,by omega,rfl,rfl,rfl,rfl⟩ ?_ h3 ?_ ?_ ?_ (fun _ h=>(by cases h)) (by omega)
            ·rw [hst1];unfold mZ;((repeat' refine iE rfl rfl ?_);exact iN)
            ·exact (ext_cons (ext_cons (ext_cons (ext_cons (fun _ _ h=>h) (bR h3 (by omega))) (bR h3 (by omega))) (bR h3 (by omega))) h4)
            ·rw [hst1,← htl];exact zU h6 (by omega) rfl rfl rfl
            ·show ∀ k∈[7,2003,2004],∀ k'∈[7,2003,2004],_;decide
           ·exfalso;simp [aA,aG,aK] at m2;omega
     ·exfalso;simp [aA,aG] at g3;omega
    ·have hge:i=a.D.length:=(by simp [aA,aG] at g2;omega);subst hge;unfold N3 nmD;rw [hss];((conv=>whnf);refine bm (fun g3=>?_) (fun g3=>?_))
     ·have g3:s.out=1:=(by simpa [aA,aG] using g3);(conv=>whnf);refine XU h3 h4 h6 (b:=!s.flat) (by unfold vC;rw [decide_eq_true g3];rfl) rfl rfl (ext_cons (ext_cons (ext_cons (fun _ _ h=>h) (bR h3 (by omega))) (bR h3 (by omega))) h4)
     ·have g3:¬ s.out=1:=(by simpa [aA,aG] using g3);(conv=>whnf);refine XU h3 h4 h6 (b:=false) (by unfold vC;rw [decide_eq_false g3];rfl) rfl rfl (ext_cons (ext_cons (ext_cons (fun _ _ h=>h) (bR h3 (by omega))) (bR h3 (by omega))) h4)
  ·exfalso;simp [aA,aG,aK] at g1';omega
 ·exfalso;simp [aA,aG,aK] at g1;omega
theorem VN {b n:Nat}{o:aS}(h:bT id b o o)(hc:JD o=true):bT id (n+b) (V0 n o) (V0 n o):=by
 cases o with
 |cells wr g sz cs =>
  obtain⟨_,_,_,h4,h5⟩:=h;have key:∀ v∈cs,bM id (bM (fun k=>n+k) v)=bM (fun k=>n+k) v∧BR (n+b) (bM (fun k=>n+k) v):=fun v hv=>by
   have hn:BR (n+b) (bM (fun k=>n+k) v):=iV (m:=b) (ZN (h5 v hv)) (fun k hk=>by omega);refine⟨?_,hn⟩;unfold bM;rw [gV (n:=n+b) hn];rfl
  refine⟨rfl,rfl,rfl,?_,fun v hv=>?_⟩
  ·rw [List.map_map];exact List.map_congr_left fun v hv=>(key v hv).1.symm
  ·obtain⟨u,hu,rfl⟩:=List.mem_map.1 hv;exact (key u hu).2
 |_=>cases hc
theorem QY {W:Heap}{b n:Nat}(h:zS W b)(hc:gM W=true):zS (m8 n W) (n+b):=fun k o hk=>by
 obtain⟨j,o',rfl,h1,rfl⟩:=kW W hk;obtain⟨a1,a2⟩:=h j o' h1;obtain⟨wr,g,sz,cs,rfl⟩:=r9 hc h1;exact⟨by omega,VN a2 rfl⟩
theorem MF {W:Heap}{b:Nat}(h:zS W b)(hc:gM W=true):zS (dT W) b:=fun k o hk=>by
 rw [jD] at hk;cases hq:look W k with
 |none=>rw [hq] at hk;cases hk
 |some q =>
  rw [hq] at hk;injection hk with hk;subst hk;obtain⟨a1,a2⟩:=h k q hq;obtain⟨wr,g,sz,cs,rfl⟩:=r9 hc hq;exact⟨a1,rfl,rfl,rfl,a2.2.2.2.1,a2.2.2.2.2⟩
theorem UI {A B:Heap}{b:Nat}(hA:zS A b)(hB:zS B b):zS (app A B) b:=fun k o hk=>by
 rw [gD] at hk;split at hk
 ·rename_i o' ho;injection hk with hk;subst hk;exact hA k o' ho
 ·exact hB k o hk
def tJ (l:List Pt)(m:List Ed):Heap :=
 (6,.cells true false 5 (flat p0.fl (aL l m m.length)))::(5,.cells true false 1 (tC (outs l m).length (outs l m)))::(0,.cells false true a8.sz (flat a8.fl l))::(1,.cells false true aX.sz (flat aX.fl m))::tH (outs l m).length (outs l m) (outs l m).length
theorem LA {l:List Pt}{m:List Ed}{p:Nat × aS}(h:p∈tJ l m):p=(6,.cells true false 5 (flat p0.fl (aL l m m.length)))∨p=(5,.cells true false 1 (tC (outs l m).length (outs l m)))∨p=(0,.cells false true a8.sz (flat a8.fl l))∨p=(1,.cells false true aX.sz (flat aX.fl m)) ∨
  ∃ i,i<(outs l m).length∧(bE (outs l m) i).length≠0∧p=(i+1000,ob (bE (outs l m) i)):=by
 unfold tJ at h;simp only [List.mem_cons] at h;rcases h with h|h|h|h|h
 ·exact .inl h
 ·exact .inr (.inl h)
 ·exact .inr (.inr (.inl h))
 ·exact .inr (.inr (.inr (.inl h)))
 ·obtain⟨i,h1,h2,h3,h4⟩:=yW h;exact .inr (.inr (.inr (.inr ⟨i,h1,h3,h4⟩)))
theorem OE {l:List Pt}{m:List Ed}(hl:l.length≤1000):zS (tJ l m) 2000:=fun k o hk=>by
 have hol:=eJ l m;rcases LA (bA hk) with h|h|h|h|⟨i,h1,h2,h⟩
 ·injection h with e1 e2;subst e1 e2;exact⟨by omega,aI (aF _ _)⟩
 ·injection h with e1 e2;subst e1 e2;exact⟨by omega,rfl,rfl,rfl,FD (ρ:=id) (kI _ _) fun i hi=>A1 hi,HW (by omega) (by omega)⟩
 ·injection h with e1 e2;subst e1 e2;exact⟨by omega,aI (aF _ _)⟩
 ·injection h with e1 e2;subst e1 e2;exact⟨by omega,aI (aF _ _)⟩
 ·injection h with e1 e2;subst e1 e2;exact⟨by omega,aI (aF _ _)⟩
theorem pJ {l:List Pt}{m:List Ed}:gM (tJ l m)=true:=wO _ _ _
def J9 (l:List Pt)(m:List Ed)(c1 c2:Nat)(n:Int):Heap:=(2,bI l.length m.length c1 c2 n)::aE a8 aX l m
theorem aBF {l:List Pt}{m:List Ed}{c1 c2:Nat}{n:Int}:zS (J9 l m c1 c2 n) 3:=by
 refine cQ (cQ (cQ (fun k o hk=>by cases hk) (by omega) (aI (aF _ _))) (by omega) (aI (aF _ _))) (by omega) ⟨rfl,rfl,rfl,rfl,?_⟩;exact List.forall_mem_cons.2 ⟨⟨Nat.le_of_ble_eq_true rfl,fun h=>by cases h⟩,List.forall_mem_cons.2 ⟨⟨Nat.le_of_ble_eq_true rfl,fun h=>by cases h⟩,List.forall_mem_cons.2 ⟨cD rfl,fun _ h=>(by cases h)⟩⟩⟩
def oC (l:List Pt)(m:List Ed)(c1 c2:Nat)(n:Int):Heap:=app (m8 3 (tJ l m)) (dT (J9 l m c1 c2 n))
def WH (l:List Pt)(m:List Ed)(c1 c2:Nat)(n:Int):ON:=⟨oC l m c1 c2 n,3,4,9,8,fun i=>3+(i+1000),l,aL l m m.length,outs l m,m.length,c1,c2,n⟩
theorem YI {l:List Pt}{m:List Ed}{c1 c2:Nat}{n:Int}:app (m8 3 (aC5 l m c1 c2 n)) (dT (J9 l m c1 c2 n))=(7,M5 (WH l m c1 c2 n) aM)::oC l m c1 c2 n:=by
 unfold M5 WH;simp only [aY,eJ];rfl
theorem IQ {l:List Pt}{m:List Ed}{c1 c2:Nat}{n:Int}{j:Nat}{o:aS}(h:look (tJ l m) j=some o):look (oC l m c1 c2 n) (3+j)=some (V0 3 o):=by
 unfold oC;rw [gD,jM _ h]
theorem RX {l:List Pt}{m:List Ed}{c1 c2:Nat}{n:Int}:WbR (oC l m c1 c2 n) 3 9 8 (fun i=>3+(i+1000)) l (aL l m m.length) (outs l m):=by
 have hfl:∀ {α:Type} (E:El α) (x:List α),(flat E.fl x).map (bM fun k=>3+k)=flat E.fl x:=fun E x=>bP (aF E x);refine⟨⟨_,_,_,_,IQ (j:=0) rfl,?_⟩,⟨_,_,_,_,IQ (j:=6) rfl,?_⟩,⟨true,false,1,?_⟩,fun i hi h0=>⟨true,false,1,flat aU.fl (bE (outs l m) i),?_,List.take_length⟩⟩
 ·rw [hfl];exact List.take_length
 ·rw [hfl];exact List.take_length
 ·rw [IQ (j:=5) (o:=.cells true false 1 (tC (outs l m).length (outs l m))) rfl];show some (aS.cells true false 1 ((tC (outs l m).length (outs l m)).map (bM fun k=>3+k)))=_;unfold tC;rw [List.map_map];congr 2;refine List.map_congr_left fun i hi=>?_;show bM _ (tV (tN (outs l m).length i) (bE (outs l m) i))=_;rw [DF];unfold tN;rw [if_neg (by have:=List.mem_range.1 hi;omega)]
 ·have:look (tJ l m) (i+1000)=some (ob (bE (outs l m) i)):=by
   unfold tJ;rw [aZ (by omega),aZ (by omega),aZ (by omega),aZ (by omega)];exact jR (by omega) h0 hi
  rw [IQ this];show some (aS.cells true false 1 ((flat aU.fl (bE (outs l m) i)).map (bM fun k=>3+k)))=_;rw [hfl]
theorem aDO {l:List Pt}{m:List Ed}{c1 c2:Nat}{n:Int}:look (oC l m c1 c2 n) 7=none:=by
 cases hl:look (oC l m c1 c2 n) 7 with
 |none=>rfl
 |some o =>
  exfalso;unfold oC at hl;rw [gD] at hl;split at hl
  ·rename_i o' ho;obtain⟨j,q,e1,e2,_⟩:=kW _ ho;rcases LA (bA e2) with h|h|h|h|⟨i,h1,h2,h⟩ <;> (injection h with e3 e4;omega)
  ·cases hl
theorem aCJ {l:List Pt}{m:List Ed}{c1 c2:Nat}{n:Int}(hl:l.length≤1000):zS (oC l m c1 c2 n) 2003 :=
 UI (QY (n:=3) (OE hl) pJ) (xI (MF aBF rfl) (by omega))
theorem aG1 {l:List Pt}{m:List Ed}{c1 c2:Nat}{n:Int}(hl:l.length≤1000)(h1:rE l (aL l m m.length) (outs l m)=true)(h2:ZR (aL l m m.length) (outs l m)=true):aEs (WH l m c1 c2 n) :=
 ⟨h1,h2,aCJ hl,aDO,RX,Nat.le_of_ble_eq_true rfl,Nat.le_of_ble_eq_true rfl,Nat.le_of_ble_eq_true rfl,Nat.le_of_ble_eq_true rfl⟩
end Go.Aw
end
