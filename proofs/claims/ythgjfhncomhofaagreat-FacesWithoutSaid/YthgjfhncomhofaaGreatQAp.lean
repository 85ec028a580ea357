/-
  Parts of a proof. No condition.
-/
import Derived.Test.YthgjfhncomhofaaGreatQAl
import Derived.Test.YthgjfhncomhofaaGreatQAm
import Derived.Test.YthgjfhncomhofaaGreatQAo
set_option linter.unusedSimpArgs false
set_option linter.unusedVariables false
noncomputable section
namespace Go.Aw
open Proofs
set_option maxRecDepth 100000
set_option maxHeartbeats 2000000
theorem eS {b n0 nx:Nat}{I:KS}{e0 e:List (Nat × Value)}{P W h:Heap}(L:List (Nat × Nat))(hI:I e0 (P++W) n0)(he:∀ p∈e0,aw e p.1=some (fJ (rn L) p.2)/\BO n0 p.2)(hW:∀ k o,aw W k=some o->k<b/\cK id b o o)(hk:∀ k o,aw W k=some o->aw h k=some o)
  (hP:∀ p∈P,((b<=p.1/\p.1<n0/\b<=rn L p.1)\/p.1<b)/\∃ o',aw h (rn L p.1)=some o'/\cK (rn L) n0 p.2 o') (hi:∀ k∈P.map Prod.fst,∀ k'∈P.map Prod.fst,rn L k=rn L k'->k=k') (hL:∀ p∈L,b<=p.1) (hb:b<=n0):sW b I e h nx:=by
 have hfix:∀ k,k<b->rn L k=k:=fun k hk=>by
  unfold rn;split
  ·rename_i q hq;have:=hL _ (aT hq);simp only at this;omega
  rfl
 refine⟨e0,P++W,n0,rn L,hI,fun t v hv=>he (t,v) (aT hv),fun k o hk'=>?_,fun k k' o o' h1 h2 e=>?_,hfix,hb⟩
 ·rcases tP hk' with hm|hm
  ·obtain⟨a1,a2⟩:=hP _ hm;simp only at a1;exact⟨aa,a2⟩
  obtain⟨a1,a2⟩:=hW k o hm;exact⟨aa,o,by rw[hfix k a1];exact hk k o hm,rB hfix hb a2⟩
 ·rcases tP h1 with m1|m1 <;> rcases tP h2 with m2|m2
  ·exact hi k (List.mem_map.2 ⟨_,m1,rfl⟩) k' (List.mem_map.2 ⟨_,m2,rfl⟩) e
  ·have:=(hP _ m1).1;have b2:=(hW _ _ m2).1;simp only at this;rw[hfix k' b2]at e;rcases this with this|this
   ·omega
   rw[hfix k this]at e;exact e
  ·have:=(hP _ m2).1;have b2:=(hW _ _ m1).1;simp only at this;rw[hfix k b2]at e;rcases this with this|this
   ·omega
   rw[hfix k' this]at e;exact e
  rwa [hfix k (hW _ _ m1).1,hfix k' (hW _ _ m2).1]at e
structure IW where
 face:List Int
 seen:List Bool
 many:Int
 out:Int
 flat:Bool
def dP (s:List Bool)(w:List Int):Nat->List Bool
 |0=>s
 |i+1=>(dP s w i).set (aG w i).toNat true
theorem jL (s:List Bool)(w:List Int):∀ i,(dP s w i).length=s.length
 |0=>rfl
 |i+1=>by unfold dP;rw[List.length_set];exact jL s w i
def jU (l:List Pt)(D:List Dt)(ls:List (List Int))(s:IW)(d:Nat):IW :=
 if dG s.seen d=true then s else
  let w:=zY D ls d;let a:=NC l D w w.length;let fc:=if 0<a then s.many+1 else 0
  ⟨cX s.face w fc w.length,dP s.seen w w.length,if 0<a then s.many+1 else s.many,if 0<a then s.out else if a<0 then s.out+1 else s.out,if 0<a then s.flat else if a<0 then s.flat else true⟩
def bR (l:List Pt)(D:List Dt)(ls:List (List Int)):Nat->IW
 |0=>⟨List.replicate D.length 0,List.replicate D.length false,0,0,false⟩
 |d+1=>jU l D ls (bR l D ls d) d
def ZW (l:List Pt)(D:List Dt)(ls:List (List Int)):IW:=bR l D ls D.length
def nC (s:IW):Bool:=decide (s.out=1)&&!s.flat
theorem mD (l:List Pt)(D:List Dt)(ls:List (List Int)):∀ d,(bR l D ls d).face.length=D.length/\(bR l D ls d).seen.length=D.length/\0<=(bR l D ls d).many/\(bR l D ls d).many<=d/\0<=(bR l D ls d).out/\(bR l D ls d).out<=d
 |0=>by unfold bR;simp
 |d+1=>by
  obtain⟨h1,h2,h3,h4,h5,h6⟩:=mD l D ls d;unfold bR jU;split
  ·refine⟨h1,h2,h3,?_,h5,?_⟩ <;> omega
  simp only[fA,jL];refine⟨h1,h2,?_,?_,?_,?_⟩
  ·split <;> omega
  ·split <;> omega
  ·split
   ·omega
   split <;> omega
  split
  ·omega
  split <;> omega
def RJ (D:List Dt)(ls:List (List Int)):Bool:=(List.range D.length).all fun d=>decide (j3 D ls d (m5 D ls d)=d)
structure WbR (R:Heap) (k0 kd kt:Nat) (nm:Nat->Nat) (l:List Pt) (D:List Dt) (ls:List (List Int)):Prop where
 pt:∃ wr g sz cs,aw R k0=some (.cells wr g sz cs)/\cs.take (flat aX.fl l).length=flat aX.fl l
 da:∃ wr g sz cs,aw R kd=some (.cells wr g sz cs)/\cs.take (flat wQ.fl D).length=flat wQ.fl D
 tb:∃ wr g sz,aw R kt=some (.cells wr g sz ((List.range ls.length).map fun i=>tV (nm i) (cH ls i)))
 li:∀ i,i<ls.length->(cH ls i).length≠0->∃ wr g sz cs,aw R (nm i)=some (.cells wr g sz cs)/\cs.take (flat aW.fl (cH ls i)).length=flat aW.fl (cH ls i)
theorem WbR.at {R h:Heap}{p k0 k1 kd kt kf:Nat}{nm:Nat->Nat}{l:List Pt}{D:List Dt}{ls:List (List Int)}{nE c1 c2:Nat}{n:Int}{fo:Option (Nat × Nat)}(hw:WbR R k0 kd kt nm l D ls)(hx:∀ k o,aw R k=some o->aw h k=some o){wr g:Bool}{sz:Nat}
  (hs:aw h p=some (.cells wr g sz (Y2 k0 k1 kd kt kf l.length nE D.length ls.length c1 c2 n fo))):AM h p k0 k1 kd kt kf nm l D ls nE c1 c2 n fo:=by
 obtain⟨⟨w1,g1,s1,x1,a1,b1⟩,⟨w2,g2,s2,x2,a2,b2⟩,⟨w3,g3,s3,a3⟩,h4⟩:=hw;refine⟨⟨_,_,_,hs⟩,⟨_,_,_,_,hx _ _ a1,b1⟩,⟨_,_,_,_,hx _ _ a2,b2⟩,⟨_,_,_,hx _ _ a3⟩,fun i hi h0=>?_⟩;obtain⟨w5,g5,s5,x5,a5,b5⟩:=h4 i hi h0;exact⟨_,_,_,_,hx _ _ a5,b5⟩
structure BN where
 R:Heap
 k0:Nat
 k1:Nat
 kd:Nat
 kt:Nat
 nm:Nat->Nat
 l:List Pt
 D:List Dt
 ls:List (List Int)
 nE:Nat
 c1:Nat
 c2:Nat
 n:Int
def aKX (a:BN):Prop:=vV a.l a.D a.ls=true/\RJ a.D a.ls=true/\D3 a.R 2003/\aw a.R 7=none/\WbR a.R a.k0 a.kd a.kt a.nm a.l a.D a.ls/\(a.k0<2003/\a.k1<2003/\a.kd<2003/\a.kt<2003)
def AQ (a:BN)(fv:Value):bV:=aq 1 [.slice (some ⟨a.k0,0,none⟩) a.l.length a.c1,.slice (some ⟨a.k1,0,none⟩) a.nE a.c2,iv a.n,.slice (some ⟨a.kd,0,none⟩) a.D.length a.D.length,.slice (some ⟨a.kt,0,none⟩) a.ls.length a.ls.length,fv]
def TP (a:BN):Heap:=(7,AQ a (ak 2003 a.D.length a.D.length))::(2003,aq 1 (flat aW.fl (ZW a.l a.D a.ls).face))::a.R
def aMw:XF:=dX aKX (fun _=>[ao 7]) (fun a=>(7,AQ a aI)::a.R) (fun _=>2003) (fun a=>.tuple #[iv (ZW a.l a.D a.ls).many,.bool (nC (ZW a.l a.D a.ls))])
 TP (fun _=>2004)
def rM (N:Nat)(s:IW)(j:Int):List (Nat × Value):=[(0,ao 7),(4,ak 2004 N N),(5,iv s.many),(6,iv s.out),(7,.bool s.flat),(33,iv N),(34,iv j)]
def rI (a:BN)(s:IW):Heap:=[(7,AQ a (ak 2003 a.D.length a.D.length)),(2003,aq 1 (flat aW.fl s.face)),(2004,aq 1 (flat gJ.fl s.seen))]
def nG (N:Nat)(s:IW)(j fc:Int)(n:Nat)(x:Int):List (Nat × Value):=(11,iv fc)::(58,ak 2005 n n)::(59,iv n)::(60,iv x)::rM N s j
theorem uG {s:List Bool}{w:List Int}{t o:Nat}(ho:o=(aG w t).toNat*1)(hi:(aG w t).toNat<s.length):bU (flat gJ.fl (dP s w t)) o [.bool true]=flat gJ.fl (dP s w (t+1)):=by
 rw[ho,DO _ _ _ (by rw[jL];exact hi)];rfl
theorem FL {a:BN}(h6:a.k0<2003/\a.k1<2003/\a.kd<2003/\a.kt<2003){h:Heap}{s:IW}{n0:Nat}(hn:2005<=n0)(x1:aw h 7=some (AQ a (ak 2003 a.D.length a.D.length)))(x2:aw h 2003=some (aq 1 (flat aW.fl s.face)))(x3:aw h 2004=some (aq 1 (flat gJ.fl s.seen))) :
  ∀ p∈rI a s,((2003<=p.1/\p.1<n0/\2003<=rn [] p.1)\/p.1<2003)/\∃ o',aw h (rn [] p.1)=some o'/\cK (rn []) n0 p.2 o':=by
 have hsl:∀{q a b:Nat},q<2004->wM n0 (.slice (some ⟨q,0,none⟩) a b):=fun{q a b} hq=>⟨(aa:q<n0),fun h=>by cases h⟩;unfold rI;refine ae.2 ⟨⟨.inr aa,_,x1,rfl,rfl,rfl,rfl,?_⟩,ae.2 ⟨⟨.inl ⟨ah _,by show 2003<n0;omega,ah _⟩,_,x2,aE (aC _ _)⟩,ae.2 ⟨⟨.inl ⟨aa,by show 2004<n0;omega,by show 2003<=2004;omega⟩,_,x3,aE (aC _ _)⟩,fun _ h=>(by cases h)⟩⟩⟩;exact ae.2 ⟨hsl aa,ae.2 ⟨hsl aa,ae.2 ⟨bM rfl,ae.2 ⟨hsl aa,ae.2 ⟨hsl aa,ae.2 ⟨hsl aa,fun _ h=>(by cases h)⟩⟩⟩⟩⟩⟩
theorem FQ {a:BN}(h6:a.k0<2003/\a.k1<2003/\a.kd<2003/\a.kt<2003){h:Heap}{s:IW}{w:List Int}(x1:aw h 7=some (AQ a (ak 2003 a.D.length a.D.length)))(x2:aw h 2003=some (aq 1 (flat aW.fl s.face)))(x3:aw h 2004=some (aq 1 (flat gJ.fl s.seen)))
  (x4:aw h 2005=some (aq 1 (flat aW.fl w))):∀ p∈rI a s++[(2005,aq 1 (flat aW.fl w))],((2003<=p.1/\p.1<2006/\2003<=rn [] p.1)\/p.1<2003)/\∃ o',aw h (rn [] p.1)=some o'/\cK (rn []) 2006 p.2 o':=by
 intro p hp;rcases List.mem_append.1 hp with hp|hp
 ·exact FL h6 aa x1 x2 x3 p hp
 simp only[List.mem_cons,List.not_mem_nil,or_false]at hp;subst hp;exact⟨.inl ⟨aa,aa,by show 2003<=2005;omega⟩,_,x4,aE (aC _ _)⟩
theorem aZ {W:Heap}{b q:Nat}(h:D3 W b)(hq:b<=q):aw W q=none:=by
 cases hl:aw W q with
 |none=>rfl
 |some o=>have:=(h q o hl).1;omega
theorem aFD {l:List Pt}{D:List Dt}{ls:List (List Int)}{d:Nat}(h:vV l D ls=true)(h2:RJ D ls=true)(hd:d<D.length):wkS l D ls [iv d]=some (true,zY D ls d,[]):=by
 have:=List.all_eq_true.1 h2 d (List.mem_range.2 hd);show some (vV l D ls&&decide ((0:Int)<=d)&&decide ((d:Int)<D.length)&&decide (j3 D ls d (m5 D ls d)=d),zY D ls d,[])=_;rw[h,ai (by omega:(0:Int)<=d),ai (by omega:(d:Int)<D.length),this];rfl
theorem Y7 {l:List Pt}{D:List Dt}{ls:List (List Int)}{d:Nat}(h:vV l D ls=true)(hd:d<D.length):inR D (zY D ls d)=true/\(zY D ls d).length<=D.length+1/\1<=(zY D ls d).length:=by
 have hp:=oE D ls d D.length 1;refine⟨List.all_eq_true.2 fun x hx=>?_,?_,?_⟩
 ·obtain⟨i,_,rfl⟩:=List.mem_map.1 hx;have:=XC h (d:=d) aa aa i;simpa using this
 ·unfold zY m5;rw[List.length_map,List.length_range];omega
 unfold zY m5;rw[List.length_map,List.length_range];omega
theorem aEo {l:List Pt}{D:List Dt}{ls:List (List Int)}{L:List Int}(h:M9 l D ls=true)(h1:inR D L=true)(h2:L.length<=100000):arS l D ls L=some (true,iv (NC l D L L.length)):=by
 unfold arS;rw[h,h1,ai h2];rfl
theorem aFj {a:BN}(h3:D3 a.R 2003)(h4:aw a.R 7=none)(h6:a.k0<2003/\a.k1<2003/\a.kd<2003/\a.kt<2003){h:Heap}{s:IW}{nx:Nat}{b:Bool}(hb:b=nC s)(x1:aw h 7=some (AQ a (ak 2003 a.D.length a.D.length)))
  (x2:aw h 2003=some (aq 1 (flat aW.fl s.face))) (hx:∀ k o,aw a.R k=some o->aw h k=some o) :
  ∃ ρ,mF 2003 ρ [(0,.tuple #[iv s.many,.bool (nC s)])] ((7,AQ a (ak 2003 a.D.length a.D.length))::(2003,aq 1 (flat aW.fl s.face))::a.R) 2004 [(0,.tuple #[iv s.many,.bool b])] h nx:=by
 subst hb;have hsl:∀{q a b:Nat},q<2004->wM 2004 (.slice (some ⟨q,0,none⟩) a b):=fun{q a b} hq=>⟨hq,fun h=>by cases h⟩;refine⟨id,fun t u hu=>?_,fun k o hk=>?_,fun _ _ _ _ _ _ e=>e,fun _ _=>rfl,aa⟩
 ·have hm:=aT hu;simp only[List.mem_cons,List.not_mem_nil,or_false]at hm;injection hm with e1 e2;subst e1 e2;exact⟨by rw[fJ,iU rfl];rfl,c9 rfl⟩
 rw[aD]at hk;split at hk
 ·rename_i hb;injection hk with hk;subst hk;rw[<- az hb];refine⟨aa,_,x1,rfl,rfl,rfl,rfl,?_⟩;exact ae.2 ⟨hsl aa,ae.2 ⟨hsl aa,ae.2 ⟨bM rfl,ae.2 ⟨hsl aa,ae.2 ⟨hsl aa,ae.2 ⟨hsl aa,fun _ h=>(by cases h)⟩⟩⟩⟩⟩⟩
 rw[aD]at hk;split at hk
 ·rename_i hb;injection hk with hk;subst hk;rw[<- az hb];exact⟨aa,_,x2,aE (aC _ _)⟩
 obtain⟨a1,a2⟩:=h3 k o hk;exact⟨aa,o,hx k o hk,rB (fun _ _=>rfl) aa a2⟩
theorem aPO:c7 Tryz.prog 127 aMw:=aBH (aL (xl:=[aHW,aJE]) (.cons aOE (.cons aPk .nil))) fun a ⟨h1,h2,h3,h4,h5,h6⟩=>by
 have hn:=LR (vQ h1);unfold AQ;(conv=>whnf);refine bt ?_;((conv=>whnf);apply bm<;>intro g1');rotate_left
 ·exfalso;simp[aB,aF,aN]at g1';omega
 (conv=>whnf);refine⟨fun q e h nx=>∃(i:Nat) (j:Int),j=i/\i<=a.D.length/\q=a.D.length - i/\e=rM a.D.length (bR a.l a.D a.ls i) j/\h=rI a (bR a.l a.D a.ls i)++a.R/\nx=2005,⟨a.D.length,?_⟩,?_⟩
 ·refine eS (P:=rI a (bR a.l a.D a.ls 0)) (W:=a.R) (e0:=rM a.D.length (bR a.l a.D a.ls 0) 0) (n0:=2005) [] ⟨0,0,rfl,Nat.zero_le _,rfl,rfl,rfl,rfl⟩ ?_ h3 ?_ ?_ ?_ (fun _ h=>(by cases h)) aa
  ·unfold rM;exact xE
  ·exact fB (jC (fB (bc (fun _ _ h=>h) h4) (aZ h3 aa)) h4) (aZ h3 aa)
  ·refine FL h6 aa rfl ?_ ?_
   ·show some (aq 1 (rep a.D.length [iv 0]))=some (aq 1 (flat aW.fl (List.replicate a.D.length 0)));rw[EY]
   show some (aq 1 (rep a.D.length [.bool false]))=some (aq 1 (flat gJ.fl (List.replicate a.D.length false)));rw[Q3]
  show ∀ k∈[7,2003,2004],∀ k'∈[7,2003,2004],_;decide
 rintro q e h nx ⟨i,j,hj,hi,rfl,rfl,rfl,rfl⟩;obtain⟨s1,s2,s3,s4,s5,s6⟩:=mD a.l a.D a.ls i;have hst:bR a.l a.D a.ls (i+1)=jU a.l a.D a.ls (bR a.l a.D a.ls i) i:=rfl;generalize hss:bR a.l a.D a.ls i=s at s1 s2 s3 s4 s5 s6 hst ⊢;unfold rM rI AQ;((conv=>whnf);apply bm<;>intro g2);rotate_left
 ·have hge:i=a.D.length:=(by simp[aB,aF]at g2;omega);subst hge;unfold TP ZW;rw[hss];((conv=>whnf);apply bm<;>intro g3)
  ·have g3:s.out=1:=(by simpa[aB,aF]using g3);(conv=>whnf);refine aFj h3 h4 h6 (b:=!s.flat) (by unfold nC;rw[ai g3];rfl) rfl rfl (bc (bc (bc (fun _ _ h=>h) (aZ h3 aa)) (aZ h3 aa)) h4)
  have g3:¬ s.out=1:=(by simpa[aB,aF]using g3);(conv=>whnf);refine aFj h3 h4 h6 (b:=false) (by unfold nC;rw[aj g3];rfl) rfl rfl (bc (bc (bc (fun _ _ h=>h) (aZ h3 aa)) (aZ h3 aa)) h4)
 have hlt:i<a.D.length:=(by simp[aB,aF]at g2;omega);(conv=>whnf);refine bt ?_;(conv=>whnf);refine fD (PX s.seen (i:=i) aa ?_) ?_
 ·show _+Int.toNat j*1=_;omega
 ((conv=>whnf);apply bm<;>intro g4)
 ·have g4:dG s.seen i=true:=g4;unfold jU at hst;rw[if_pos g4]at hst;(conv=>whnf);refine bt ?_;(conv=>whnf);refine⟨a.D.length - (i+1),aa,?_⟩;refine eS (P:=rI a (bR a.l a.D a.ls (i+1))) (W:=a.R) (e0:=rM a.D.length (bR a.l a.D a.ls (i+1)) (j+1)) (n0:=2005) [] ⟨i+1,j+1,aa,aa,rfl,rfl,rfl,rfl⟩ ?_ h3 ?_ ?_ ?_ (fun _ h=>(by cases h)) aa
  ·rw[hst];unfold rM;exact xE
  ·exact bc (bc (bc (fun _ _ h=>h) (aZ h3 aa)) (aZ h3 aa)) h4
  ·rw[hst];exact FL h6 aa rfl rfl rfl
  show ∀ k∈[7,2003,2004],∀ k'∈[7,2003,2004],_;decide
 have g4:dG s.seen i=false:=g4;(conv=>whnf);have hx0:∀ k o,aw a.R k=some o->aw ([(7,aq 1 [.slice (some ⟨a.k0,0,none⟩) a.l.length a.c1,.slice (some ⟨a.k1,0,none⟩) a.nE a.c2,iv a.n,.slice (some ⟨a.kd,0,none⟩) a.D.length a.D.length,.slice (some ⟨a.kt,0,none⟩) a.ls.length a.ls.length,ak 2003 a.D.length a.D.length]),(2003,aq 1 (flat aW.fl s.face)),(2004,aq 1 (flat gJ.fl s.seen))]++a.R) k=some o :=
  bc (bc (bc (fun _ _ h=>h) (aZ h3 aa)) (aZ h3 aa)) h4
 have hwk:wkS a.l a.D a.ls [iv j]=some (true,zY a.D a.ls i,[]):=(by rw[hj];exact aFD h1 h2 hlt);obtain⟨w1,w2,w3⟩:=Y7 h1 hlt;refine⟨7,[iv j],a.k0,a.k1,a.kd,a.kt,2003,a.nm,a.l,a.D,a.ls,a.nE,a.c1,a.c2,a.n,some (a.D.length,a.D.length),rfl,h5.at hx0 rfl,?_⟩;rw[hwk];unfold jU at hst;rw[if_neg (by rw[g4];decide)]at hst;simp only at hst;generalize zY a.D a.ls i=w at w1 w2 w3 hst hwk ⊢;refine aM rfl ?_;(conv=>whnf);refine⟨7,2005,a.k0,a.k1,a.kd,a.kt,2003,a.nm,a.l,a.D,a.ls,a.nE,a.c1,a.c2,a.n,some (a.D.length,a.D.length),w,w.length,rfl,h5.at (fB hx0 (aZ h3 aa)) rfl,⟨_,_,_,_,rfl,List.take_length⟩,?_⟩;rw[aEo (vQ h1) w1 aa];generalize NC a.l a.D w w.length=A at hst ⊢;refine aM rfl ?_;((conv=>whnf);apply bm<;>intro g6)
 ·have hA:0<A:=(by simpa[aB,aF]using g6);simp only[if_pos hA]at hst;(conv=>whnf);refine bt ?_
  skip
  have hst1:bR a.l a.D a.ls (i+1)=⟨cX s.face w (s.many+1) w.length,dP s.seen w w.length,s.many+1,s.out,s.flat⟩:=(by rw[hst]);(conv=>whnf);refine⟨fun q e h nx=>∃(t:Nat) (x:Int),x=t/\t<=w.length/\q=w.length - t/\e=nG a.D.length ⟨cX s.face w (s.many+1) t,dP s.seen w t,s.many+1,s.out,s.flat⟩ j (s.many+1) w.length x/\h=(rI a ⟨cX s.face w (s.many+1) t,dP s.seen w t,s.many+1,s.out,s.flat⟩++[(2005,aq 1 (flat aW.fl w))])++a.R/\nx=2006,⟨w.length,?_⟩,?_⟩
  ·refine eS (P:=rI a ⟨s.face,s.seen,s.many+1,s.out,s.flat⟩++[(2005,aq 1 (flat aW.fl w))]) (W:=a.R) (e0:=nG a.D.length ⟨s.face,s.seen,s.many+1,s.out,s.flat⟩ j (s.many+1) w.length 0) (n0:=2006) [] ⟨0,0,rfl,Nat.zero_le _,rfl,rfl,rfl,rfl⟩ ?_ h3 ?_ ?_ ?_ (fun _ h=>(by cases h)) aa
   ·unfold nG rM;exact xE
   ·exact fB hx0 (aZ h3 aa)
   ·exact FQ h6 rfl rfl rfl rfl
   show ∀ k∈[7,2003,2004,2005],∀ k'∈[7,2003,2004,2005],_;decide
  rintro q e h nx ⟨t,x,hx,ht,rfl,rfl,rfl,rfl⟩;unfold nG rM rI AQ;((conv=>whnf);apply bm<;>intro m1);rotate_left
  ·have htl:t=w.length:=(by simp[aB,aF]at m1;omega);(conv=>whnf);refine bt ?_;(conv=>whnf);refine⟨a.D.length - (i+1),aa,?_⟩;refine eS (P:=rI a (bR a.l a.D a.ls (i+1))) (W:=a.R) (e0:=rM a.D.length (bR a.l a.D a.ls (i+1)) (j+1)) (n0:=2005) [] ⟨i+1,j+1,aa,aa,rfl,rfl,rfl,rfl⟩ ?_ h3 ?_ ?_ ?_ (fun _ h=>(by cases h)) aa
   ·rw[hst1];unfold rM;exact xE
   ·exact(bc (bc (bc (bc (fun _ _ h=>h) (aZ h3 aa)) (aZ h3 aa)) (aZ h3 aa)) h4)
   ·rw[hst1,<- htl];exact FL h6 aa rfl rfl rfl
   show ∀ k∈[7,2003,2004],∀ k'∈[7,2003,2004],_;decide
  have htl:t<w.length:=(by simp[aB,aF]at m1;omega);have hwd:=qW w1 (i:=t) htl;(conv=>whnf);refine bt ?_;(conv=>whnf);refine fD (dY w (i:=t) htl ?_) ?_
  ·show _+Int.toNat x*1=_;omega
  have hsf:=fA s.face w (s.many+1) t;have hss:=jL s.seen w t
  repeat' first
   |(((conv=>whnf);apply bm<;>intro m))
  all_goals first
   |(exfalso;simp[aB,aF,aN]at m;omega)
   |(exfalso
     have hb:Nat.ble (0+Int.toNat (aG w t)*1+1) (flat gJ.fl (dP s.seen w t)).length=true:=Nat.ble_eq_true_of_le (by rw[aO];show _<=(dP s.seen w t).length*1;omega);exact Bool.false_ne_true (m.symm.trans hb))
   |(exfalso
     have hb:Nat.ble (0+Int.toNat (aG w t)*1+1) (flat aW.fl (cX s.face w (s.many+1) t)).length=true:=Nat.ble_eq_true_of_le (by rw[aO];show _<=(cX s.face w (s.many+1) t).length*1;omega);exact Bool.false_ne_true (m.symm.trans hb))
   |skip
  (conv=>whnf);refine⟨w.length - (t+1),aa,?_⟩;refine eS (P:=rI a ⟨cX s.face w (s.many+1) (t+1),dP s.seen w (t+1),s.many+1,s.out,s.flat⟩++[(2005,aq 1 (flat aW.fl w))]) (W:=a.R) (e0:=nG a.D.length ⟨cX s.face w (s.many+1) (t+1),dP s.seen w (t+1),s.many+1,s.out,s.flat⟩ j (s.many+1) w.length (x+1)) (n0:=2006) [] ⟨t+1,x+1,aa,aa,rfl,rfl,rfl,rfl⟩ ?_ h3 ?_ ?_ ?_ (fun _ h=>(by cases h)) aa
  ·unfold nG rM;exact xE
  ·exact jC (jC (bc (bc (bc (bc (fun _ _ h=>h) (aZ h3 aa)) (aZ h3 aa)) (aZ h3 aa)) h4) (aZ h3 aa)) (aZ h3 aa)
  ·refine FQ h6 rfl ?_ ?_ rfl
   ·show some (aq 1 (bU (flat aW.fl (cX s.face w (s.many+1) t)) (0+Int.toNat (aG w t)*1) [iv (s.many+1)]))=_;rw[mV aa aa]
   show some (aq 1 (bU (flat gJ.fl (dP s.seen w t)) (0+Int.toNat (aG w t)*1) [.bool true]))=_;rw[uG aa aa]
  show ∀ k∈[7,2003,2004,2005],∀ k'∈[7,2003,2004,2005],_;decide
 have hA:¬ 0<A:=(by simpa[aB,aF]using g6);simp only[if_neg hA]at hst;((conv=>whnf);apply bm<;>intro g7);rotate_left
 ·have hA2:¬ A<0:=(by simpa[aB,aF]using g7);simp only[if_neg hA2]at hst;have hst1:bR a.l a.D a.ls (i+1)=⟨cX s.face w (0) w.length,dP s.seen w w.length,s.many,s.out,true⟩:=(by rw[hst]);(conv=>whnf);refine⟨fun q e h nx=>∃(t:Nat) (x:Int),x=t/\t<=w.length/\q=w.length - t/\e=nG a.D.length ⟨cX s.face w (0) t,dP s.seen w t,s.many,s.out,true⟩ j (0) w.length x/\h=(rI a ⟨cX s.face w (0) t,dP s.seen w t,s.many,s.out,true⟩++[(2005,aq 1 (flat aW.fl w))])++a.R/\nx=2006,⟨w.length,?_⟩,?_⟩
  ·refine eS (P:=rI a ⟨s.face,s.seen,s.many,s.out,true⟩++[(2005,aq 1 (flat aW.fl w))]) (W:=a.R) (e0:=nG a.D.length ⟨s.face,s.seen,s.many,s.out,true⟩ j (0) w.length 0) (n0:=2006) [] ⟨0,0,rfl,Nat.zero_le _,rfl,rfl,rfl,rfl⟩ ?_ h3 ?_ ?_ ?_ (fun _ h=>(by cases h)) aa
   ·unfold nG rM;exact xE
   ·exact fB hx0 (aZ h3 aa)
   ·exact FQ h6 rfl rfl rfl rfl
   show ∀ k∈[7,2003,2004,2005],∀ k'∈[7,2003,2004,2005],_;decide
  rintro q e h nx ⟨t,x,hx,ht,rfl,rfl,rfl,rfl⟩;unfold nG rM rI AQ;((conv=>whnf);apply bm<;>intro m1)
  ·have htl:t<w.length:=(by simp[aB,aF]at m1;omega);have hwd:=qW w1 (i:=t) htl;(conv=>whnf);refine bt ?_;(conv=>whnf);refine fD (dY w (i:=t) htl ?_) ?_
   ·show _+Int.toNat x*1=_;omega
   have hsf:=fA s.face w (0) t;have hss:=jL s.seen w t
   repeat' first
    |(((conv=>whnf);apply bm<;>intro m))
   all_goals first
    |(exfalso;simp[aB,aF,aN]at m;omega)
    |(exfalso
      have hb:Nat.ble (0+Int.toNat (aG w t)*1+1) (flat gJ.fl (dP s.seen w t)).length=true:=Nat.ble_eq_true_of_le (by rw[aO];show _<=(dP s.seen w t).length*1;omega);exact Bool.false_ne_true (m.symm.trans hb))
    |(exfalso
      have hb:Nat.ble (0+Int.toNat (aG w t)*1+1) (flat aW.fl (cX s.face w (0) t)).length=true:=Nat.ble_eq_true_of_le (by rw[aO];show _<=(cX s.face w (0) t).length*1;omega);exact Bool.false_ne_true (m.symm.trans hb))
    |skip
   (conv=>whnf);refine⟨w.length - (t+1),aa,?_⟩;refine eS (P:=rI a ⟨cX s.face w (0) (t+1),dP s.seen w (t+1),s.many,s.out,true⟩++[(2005,aq 1 (flat aW.fl w))]) (W:=a.R) (e0:=nG a.D.length ⟨cX s.face w (0) (t+1),dP s.seen w (t+1),s.many,s.out,true⟩ j (0) w.length (x+1)) (n0:=2006) [] ⟨t+1,x+1,aa,aa,rfl,rfl,rfl,rfl⟩ ?_ h3 ?_ ?_ ?_ (fun _ h=>(by cases h)) aa
   ·unfold nG rM;exact xE
   ·exact jC (jC (bc (bc (bc (bc (fun _ _ h=>h) (aZ h3 aa)) (aZ h3 aa)) (aZ h3 aa)) h4) (aZ h3 aa)) (aZ h3 aa)
   ·refine FQ h6 rfl ?_ ?_ rfl
    ·show some (aq 1 (bU (flat aW.fl (cX s.face w (0) t)) (0+Int.toNat (aG w t)*1) [iv (0)]))=_;rw[mV aa aa]
    show some (aq 1 (bU (flat gJ.fl (dP s.seen w t)) (0+Int.toNat (aG w t)*1) [.bool true]))=_;rw[uG aa aa]
   show ∀ k∈[7,2003,2004,2005],∀ k'∈[7,2003,2004,2005],_;decide
  have htl:t=w.length:=(by simp[aB,aF]at m1;omega);(conv=>whnf);refine bt ?_;(conv=>whnf);refine⟨a.D.length - (i+1),aa,?_⟩;refine eS (P:=rI a (bR a.l a.D a.ls (i+1))) (W:=a.R) (e0:=rM a.D.length (bR a.l a.D a.ls (i+1)) (j+1)) (n0:=2005) [] ⟨i+1,j+1,aa,aa,rfl,rfl,rfl,rfl⟩ ?_ h3 ?_ ?_ ?_ (fun _ h=>(by cases h)) aa
  ·rw[hst1];unfold rM;exact xE
  ·exact(bc (bc (bc (bc (fun _ _ h=>h) (aZ h3 aa)) (aZ h3 aa)) (aZ h3 aa)) h4)
  ·rw[hst1,<- htl];exact FL h6 aa rfl rfl rfl
  show ∀ k∈[7,2003,2004],∀ k'∈[7,2003,2004],_;decide
 have hA2:A<0:=(by simpa[aB,aF]using g7);simp only[if_pos hA2]at hst;(conv=>whnf);refine bt ?_
 skip
 have hst1:bR a.l a.D a.ls (i+1)=⟨cX s.face w (0) w.length,dP s.seen w w.length,s.many,s.out+1,s.flat⟩:=(by rw[hst]);(conv=>whnf);refine⟨fun q e h nx=>∃(t:Nat) (x:Int),x=t/\t<=w.length/\q=w.length - t/\e=nG a.D.length ⟨cX s.face w (0) t,dP s.seen w t,s.many,s.out+1,s.flat⟩ j (0) w.length x/\h=(rI a ⟨cX s.face w (0) t,dP s.seen w t,s.many,s.out+1,s.flat⟩++[(2005,aq 1 (flat aW.fl w))])++a.R/\nx=2006,⟨w.length,?_⟩,?_⟩
 ·refine eS (P:=rI a ⟨s.face,s.seen,s.many,s.out+1,s.flat⟩++[(2005,aq 1 (flat aW.fl w))]) (W:=a.R) (e0:=nG a.D.length ⟨s.face,s.seen,s.many,s.out+1,s.flat⟩ j (0) w.length 0) (n0:=2006) [] ⟨0,0,rfl,Nat.zero_le _,rfl,rfl,rfl,rfl⟩ ?_ h3 ?_ ?_ ?_ (fun _ h=>(by cases h)) aa
  ·unfold nG rM;exact xE
  ·exact fB hx0 (aZ h3 aa)
  ·exact FQ h6 rfl rfl rfl rfl
  show ∀ k∈[7,2003,2004,2005],∀ k'∈[7,2003,2004,2005],_;decide
 rintro q e h nx ⟨t,x,hx,ht,rfl,rfl,rfl,rfl⟩;unfold nG rM rI AQ;((conv=>whnf);apply bm<;>intro m1);rotate_left
 ·have htl:t=w.length:=(by simp[aB,aF]at m1;omega);(conv=>whnf);refine bt ?_;(conv=>whnf);refine⟨a.D.length - (i+1),aa,?_⟩;refine eS (P:=rI a (bR a.l a.D a.ls (i+1))) (W:=a.R) (e0:=rM a.D.length (bR a.l a.D a.ls (i+1)) (j+1)) (n0:=2005) [] ⟨i+1,j+1,aa,aa,rfl,rfl,rfl,rfl⟩ ?_ h3 ?_ ?_ ?_ (fun _ h=>(by cases h)) aa
  ·rw[hst1];unfold rM;exact xE
  ·exact(bc (bc (bc (bc (fun _ _ h=>h) (aZ h3 aa)) (aZ h3 aa)) (aZ h3 aa)) h4)
  ·rw[hst1,<- htl];exact FL h6 aa rfl rfl rfl
  show ∀ k∈[7,2003,2004],∀ k'∈[7,2003,2004],_;decide
 have htl:t<w.length:=(by simp[aB,aF]at m1;omega);have hwd:=qW w1 (i:=t) htl;(conv=>whnf);refine bt ?_;(conv=>whnf);refine fD (dY w (i:=t) htl ?_) ?_
 ·show _+Int.toNat x*1=_;omega
 have hsf:=fA s.face w (0) t;have hss:=jL s.seen w t
 repeat' first
  |(((conv=>whnf);apply bm<;>intro m))
 all_goals first
  |(exfalso;simp[aB,aF,aN]at m;omega)
  |(exfalso
    have hb:Nat.ble (0+Int.toNat (aG w t)*1+1) (flat gJ.fl (dP s.seen w t)).length=true:=Nat.ble_eq_true_of_le (by rw[aO];show _<=(dP s.seen w t).length*1;omega);exact Bool.false_ne_true (m.symm.trans hb))
  |(exfalso
    have hb:Nat.ble (0+Int.toNat (aG w t)*1+1) (flat aW.fl (cX s.face w (0) t)).length=true:=Nat.ble_eq_true_of_le (by rw[aO];show _<=(cX s.face w (0) t).length*1;omega);exact Bool.false_ne_true (m.symm.trans hb))
  |skip
 (conv=>whnf);refine⟨w.length - (t+1),aa,?_⟩;refine eS (P:=rI a ⟨cX s.face w (0) (t+1),dP s.seen w (t+1),s.many,s.out+1,s.flat⟩++[(2005,aq 1 (flat aW.fl w))]) (W:=a.R) (e0:=nG a.D.length ⟨cX s.face w (0) (t+1),dP s.seen w (t+1),s.many,s.out+1,s.flat⟩ j (0) w.length (x+1)) (n0:=2006) [] ⟨t+1,x+1,aa,aa,rfl,rfl,rfl,rfl⟩ ?_ h3 ?_ ?_ ?_ (fun _ h=>(by cases h)) aa
 ·unfold nG rM;exact xE
 ·exact jC (jC (bc (bc (bc (bc (fun _ _ h=>h) (aZ h3 aa)) (aZ h3 aa)) (aZ h3 aa)) h4) (aZ h3 aa)) (aZ h3 aa)
 ·refine FQ h6 rfl ?_ ?_ rfl
  ·show some (aq 1 (bU (flat aW.fl (cX s.face w (0) t)) (0+Int.toNat (aG w t)*1) [iv (0)]))=_;rw[mV aa aa]
  show some (aq 1 (bU (flat gJ.fl (dP s.seen w t)) (0+Int.toNat (aG w t)*1) [.bool true]))=_;rw[uG aa aa]
 show ∀ k∈[7,2003,2004,2005],∀ k'∈[7,2003,2004,2005],_;decide
theorem aCz {b n:Nat}{o:bV}(h:cK id b o o)(hc:H7 o=true):cK id (n+b) (WG n o) (WG n o):=by
 cases o with
 |cells wr g sz cs =>
  obtain⟨_,_,_,h4,h5⟩:=h;have key:∀ v∈cs,cB id (cB (fun k=>n+k) v)=cB (fun k=>n+k) v/\wM (n+b) (cB (fun k=>n+k) v):=fun v hv=>by
   have hn:wM (n+b) (cB (fun k=>n+k) v):=iQ (m:=b) (Y1 (h5 v hv)) (fun k hk=>by omega);refine⟨?_,hn⟩;unfold cB;rw[iL (n:=n+b) hn];rfl
  refine⟨rfl,rfl,rfl,?_,fun v hv=>?_⟩
  ·rw[List.map_map];exact List.map_congr_left fun v hv=>(key v hv).1.symm
  obtain⟨u,hu,rfl⟩:=List.mem_map.1 hv;exact(key u hu).2
 |_=>cases hc
theorem aGa {W:Heap}{b n:Nat}(h:D3 W b)(hc:fL W=true):D3 (nK n W) (n+b):=fun k o hk=>by
 obtain⟨j,o',rfl,h1,rfl⟩:=mM W hk;obtain⟨a1,a2⟩:=h j o' h1;obtain⟨wr,g,sz,cs,rfl⟩:=kD hc h1;exact⟨aa,aCz a2 rfl⟩
theorem aHb {W:Heap}{b:Nat}(h:D3 W b)(hc:fL W=true):D3 (iH W) b:=fun k o hk=>by
 rw[nZ]at hk;cases hq:aw W k with
 |none=>rw[hq]at hk;cases hk
 |some q =>
  rw[hq]at hk;injection hk with hk;subst hk;obtain⟨a1,a2⟩:=h k q hq;obtain⟨wr,g,sz,cs,rfl⟩:=kD hc hq;exact⟨a1,rfl,rfl,rfl,a2.2.2.2.1,a2.2.2.2.2⟩
theorem aB1 {A B:Heap}{b:Nat}(hA:D3 A b)(hB:D3 B b):D3 (app A B) b:=fun k o hk=>by
 rw[jM]at hk;split at hk
 ·rename_i o' ho;injection hk with hk;subst hk;exact hA k o' ho
 exact hB k o hk
def F5 (l:List Pt)(m:List Ed):Heap :=
 (6,aq 5 (flat wQ.fl (bA l m m.length)))::(5,aq 1 (tC (outs l m).length (outs l m)))::(0,.cells false true aX.sz (flat aX.fl l))::(1,.cells false true bS.sz (flat bS.fl m))::tH (outs l m).length (outs l m) (outs l m).length
theorem T4 {l:List Pt}{m:List Ed}{p:Nat × bV}(h:p∈F5 l m):p=(6,aq 5 (flat wQ.fl (bA l m m.length)))\/p=(5,aq 1 (tC (outs l m).length (outs l m)))\/p=(0,.cells false true aX.sz (flat aX.fl l))\/p=(1,.cells false true bS.sz (flat bS.fl m)) \/
  ∃ i,i<(outs l m).length/\(cH (outs l m) i).length≠0/\p=(i+1000,ob (cH (outs l m) i)):=by
 unfold F5 at h;simp only[List.mem_cons]at h;rcases h with h|h|h|h|h
 ·exact .inl h
 ·exact .inr (.inl h)
 ·exact .inr (.inr (.inl h))
 ·exact .inr (.inr (.inr (.inl h)))
 obtain⟨i,h1,h2,h3,h4⟩:=BK h;exact .inr (.inr (.inr (.inr ⟨i,h1,h3,h4⟩)))
theorem S8 {l:List Pt}{m:List Ed}(hl:l.length<=1000):D3 (F5 l m) 2000:=fun k o hk=>by
 have hol:=fV l m;rcases T4 (aT hk)with h|h|h|h|⟨i,h1,h2,h⟩
 ·injection h with e1 e2;subst e1 e2;exact⟨aa,aE (aC _ _)⟩
 ·injection h with e1 e2;subst e1 e2;exact⟨aa,rfl,rfl,rfl,E1 (ρ:=id) (m8 _ _) fun i hi=>CS hi,KA aa aa⟩
 ·injection h with e1 e2;subst e1 e2;exact⟨aa,aE (aC _ _)⟩
 ·injection h with e1 e2;subst e1 e2;exact⟨aa,aE (aC _ _)⟩
 injection h with e1 e2;subst e1 e2;exact⟨aa,aE (aC _ _)⟩
theorem JL {l:List Pt}{m:List Ed}:fL (F5 l m)=true:=w9 _ _ _
def WC (l:List Pt)(m:List Ed)(c1 c2:Nat)(n:Int):Heap:=(2,dU l.length m.length c1 c2 n)::aS aX bS l m
theorem aHI {l:List Pt}{m:List Ed}{c1 c2:Nat}{n:Int}:D3 (WC l m c1 c2 n) 3:=by
 refine cJ (cJ (cJ (fun k o hk=>by cases hk) aa (aE (aC _ _))) aa (aE (aC _ _))) aa ⟨rfl,rfl,rfl,rfl,?_⟩;exact ae.2 ⟨⟨ab,fun h=>by cases h⟩,ae.2 ⟨⟨ab,fun h=>by cases h⟩,ae.2 ⟨bM rfl,fun _ h=>(by cases h)⟩⟩⟩
def sO (l:List Pt)(m:List Ed)(c1 c2:Nat)(n:Int):Heap:=app (nK 3 (F5 l m)) (iH (WC l m c1 c2 n))
def a69 (l:List Pt)(m:List Ed)(c1 c2:Nat)(n:Int):BN:=⟨sO l m c1 c2 n,3,4,9,8,fun i=>3+(i+1000),l,bA l m m.length,outs l m,m.length,c1,c2,n⟩
theorem aFe {l:List Pt}{m:List Ed}{c1 c2:Nat}{n:Int}:app (nK 3 (aI9 l m c1 c2 n)) (iH (WC l m c1 c2 n))=(7,AQ (a69 l m c1 c2 n) aI)::sO l m c1 c2 n:=by
 unfold AQ a69;simp only[bT,fV];rfl
theorem QQ {l:List Pt}{m:List Ed}{c1 c2:Nat}{n:Int}{j:Nat}{o:bV}(h:aw (F5 l m) j=some o):aw (sO l m c1 c2 n) (3+j)=some (WG 3 o):=by
 unfold sO;rw[jM,pW _ h]
theorem aBx {l:List Pt}{m:List Ed}{c1 c2:Nat}{n:Int}:WbR (sO l m c1 c2 n) 3 9 8 (fun i=>3+(i+1000)) l (bA l m m.length) (outs l m):=by
 have hfl:∀{α:Type} (E:El α) (x:List α),(flat E.fl x).map (cB fun k=>3+k)=flat E.fl x:=fun E x=>bK (aC E x);refine⟨⟨_,_,_,_,QQ (j:=0) rfl,?_⟩,⟨_,_,_,_,QQ (j:=6) rfl,?_⟩,⟨true,false,1,?_⟩,fun i hi h0=>⟨true,false,1,flat aW.fl (cH (outs l m) i),?_,List.take_length⟩⟩
 ·rw[hfl];exact List.take_length
 ·rw[hfl];exact List.take_length
 ·rw[QQ (j:=5) (o:=aq 1 (tC (outs l m).length (outs l m))) rfl];show some (aq 1 ((tC (outs l m).length (outs l m)).map (cB fun k=>3+k)))=_;unfold tC;rw[List.map_map];congr 2;refine List.map_congr_left fun i hi=>?_;show cB _ (tV (tN (outs l m).length i) (cH (outs l m) i))=_;rw[SA];unfold tN;rw[if_neg (by have:=List.mem_range.1 hi;omega)]
 have:aw (F5 l m) (i+1000)=some (ob (cH (outs l m) i)):=by
  unfold F5;rw[bJ aa,bJ aa,bJ aa,bJ aa];exact mU aa h0 hi
 rw[QQ this];show some (aq 1 ((flat aW.fl (cH (outs l m) i)).map (cB fun k=>3+k)))=_;rw[hfl]
theorem aLj {l:List Pt}{m:List Ed}{c1 c2:Nat}{n:Int}:aw (sO l m c1 c2 n) 7=none:=by
 cases hl:aw (sO l m c1 c2 n) 7 with
 |none=>rfl
 |some o =>
  exfalso;unfold sO at hl;rw[jM]at hl;split at hl
  ·rename_i o' ho;obtain⟨j,q,e1,e2,_⟩:=mM _ ho;rcases T4 (aT e2)with h|h|h|h|⟨i,h1,h2,h⟩ <;> (injection h with e3 e4;omega)
  ·cases hl
theorem aHR {l:List Pt}{m:List Ed}{c1 c2:Nat}{n:Int}(hl:l.length<=1000):D3 (sO l m c1 c2 n) 2003 :=
 aB1 (aGa (n:=3) (S8 hl) JL) (DS (aHb aHI rfl) aa)
theorem aMo {l:List Pt}{m:List Ed}{c1 c2:Nat}{n:Int}(hl:l.length<=1000)(h1:vV l (bA l m m.length) (outs l m)=true)(h2:RJ (bA l m m.length) (outs l m)=true):aKX (a69 l m c1 c2 n) :=
 ⟨h1,h2,aHR hl,aLj,aBx,ab,ab,ab,ab⟩
set_option maxHeartbeats 4000000
def sU (l:List Pt)(m:List Ed):Bool:=(gL (bA l m m.length) (outs l m)).all id
def bG (l:List Pt)(m:List Ed):IW:=ZW l (bA l m m.length) (outs l m)
def KT (l:List Pt)(m:List Ed)(i:Nat):Bool:=decide ((aU m i).l=aG (bG l m).face (2*i))&&decide ((aU m i).r=aG (bG l m).face (2*i+1))
def iY (l:List Pt)(m:List Ed)(n:Int):Bool:=fE l m n&&(sU l m&&(nC (bG l m)&&(decide ((bG l m).many=n)&&oK (KT l m) m.length)))
def hF0 (l:List Pt)(m:List Ed)(c1 c2:Nat)(n:Int):Heap:=(7,AQ (a69 l m c1 c2 n) (ak 2003 (bA l m m.length).length (bA l m m.length).length))::(2003,aq 1 (flat aW.fl (bG l m).face))::nK 3 (F5 l m)
def aPx (l:List Pt)(m:List Ed)(c1 c2:Nat)(n:Int):KE:=fun v h nx =>
 (iY l m n=true/\BX (.tuple #[ao 7,iv 0]) (hF0 l m c1 c2 n) 2004 v h nx)\/(iY l m n=false/\v=.tuple #[.pointer none,iv 1])
def e69 (N:Nat)(j:Int):List (Nat × Value):=[(1,ao 2),(17,iv N),(18,iv j)]
def aCU (N:Nat)(j z:Int):List (Nat × Value):=(4,iv j)::(21,iv j)::(22,iv z)::e69 N j
theorem aDY {l:List Pt}{m:List Ed}{c1 c2:Nat}{n:Int}:aw (TP (a69 l m c1 c2 n)) 2=some (av 1 [ak 0 l.length c1,ak 1 m.length c2,iv n]):=by
 unfold TP a69;rw[bJ aa,bJ aa];unfold sO;rw[jM];split
 ·rename_i o' ho;exfalso;obtain⟨j,q,e1,_,_⟩:=mM _ ho;omega
 rfl
theorem E6 {b n0 nx:Nat}{I:KS}{e0 e:List (Nat × Value)}{h0 h:Heap}(hI:I e0 h0 n0)(he:∀ p∈e0,aw e p.1=some (fJ id p.2)/\BO n0 p.2)(hh:∀ k o,aw h0 k=some o->aw h k=some o)(hok:D3 h0 n0)(hb:b<=n0):sW b I e h nx :=
 ⟨e0,h0,n0,id,hI,fun t v hv=>he (t,v) (aT hv),fun k o hk=>⟨(hok k o hk).1,o,hh k o hk,(hok k o hk).2⟩,fun _ _ _ _ _ _ e=>e,fun _ _=>rfl,hb⟩
def hF (l:List Pt)(m:List Ed)(c1 c2:Nat)(n:Int):Heap :=
 (7,AQ (a69 l m c1 c2 n) (ak 2003 (a69 l m c1 c2 n).D.length (a69 l m c1 c2 n).D.length))::(2003,aq 1 (flat aW.fl (bG l m).face))::(2,av 1 [ak 0 l.length c1,ak 1 m.length c2,iv n]) ::
 (0,.cells false true aX.sz (flat aX.fl l))::(1,.cells false true bS.sz (flat bS.fl m))::nK 3 (F5 l m)
theorem aI0 {l:List Pt}{m:List Ed}{c1 c2:Nat}{n:Int}:∀ k o,aw (hF0 l m c1 c2 n) k=some o->aw (hF l m c1 c2 n) k=some o:=by
 intro k o hk;unfold hF0 at hk;rw[aD]at hk;split at hk
 ·rename_i hb;rw[<- az hb,<- hk];rfl
 rename_i hb7;rw[aD]at hk;split at hk
 ·rename_i hb;rw[<- az hb,<- hk];rfl
 rename_i hb3;have h7:(7:Nat)≠k:=ba hb7;have h3:(2003:Nat)≠k:=ba hb3;obtain⟨j,q,e1,_,_⟩:=mM _ hk;unfold hF;rw[bJ h7,bJ h3,bJ aa,bJ aa,bJ aa];exact hk
def aCF (N c2:Nat)(j:Int):List (Nat × Value):=[(7,ao 7),(59,ak 1 N c2),(60,iv N),(61,iv j)]
theorem aGA {l:List Pt}{m:List Ed}{c1 c2:Nat}{n:Int}(hl:l.length<=1000):D3 (hF l m c1 c2 n) 2004:=by
 have hsl:∀{q a b:Nat},q<2004->wM 2004 (.slice (some ⟨q,0,none⟩) a b):=fun{q a b} hq=>⟨hq,fun h=>by cases h⟩;refine cJ (cJ (cJ (cJ (cJ (DS (aGa (n:=3) (S8 hl) JL) aa) aa (aE (aC _ _))) aa (aE (aC _ _))) aa ⟨rfl,rfl,rfl,rfl,?_⟩) aa (aE (aC _ _))) aa ⟨rfl,rfl,rfl,rfl,?_⟩
 ·exact ae.2 ⟨hsl aa,ae.2 ⟨hsl aa,ae.2 ⟨bM rfl,fun _ h=>(by cases h)⟩⟩⟩
 exact ae.2 ⟨hsl (aa:3<2004),ae.2 ⟨hsl (aa:4<2004),ae.2 ⟨bM rfl,ae.2 ⟨hsl (aa:9<2004),ae.2 ⟨hsl (aa:8<2004),ae.2 ⟨hsl aa,fun _ h=>(by cases h)⟩⟩⟩⟩⟩⟩
theorem aNv {l:List Pt}{m:List Ed}{c1 c2:Nat}{n:Int}(hl:l.length<=1000):BX (.tuple #[ao 7,iv 0]) (hF0 l m c1 c2 n) 2004 (.tuple #[ao 7,iv 0]) (hF l m c1 c2 n) 2004:=by
 refine⟨id,fun t u hu=>?_,fun k o hk=>?_,fun _ _ _ _ _ _ e=>e,fun _ _=>rfl,aa⟩
 ·have hm:=aT hu;simp only[List.mem_cons,List.not_mem_nil,or_false]at hm;injection hm with e1 e2;subst e1 e2;refine⟨by simp[fJ,tr,eK,cF,eM,j4];rfl,?_⟩;intro v hv;simp only[List.mem_cons,List.not_mem_nil,or_false]at hv;rcases hv with rfl|rfl
  ·exact⟨ab,rfl⟩
  exact dH (bM rfl)
 have h:=aI0 k o hk;obtain⟨a1,a2⟩:=aGA hl k o h;exact⟨a1,o,h,a2⟩
theorem aL5 {l:List Pt}{m:List Ed}{k:Nat}(h:k<3):aw (nK 3 (F5 l m)) k=none:=by
 cases hl:aw (nK 3 (F5 l m)) k with
 |none=>rfl
 |some o =>
  obtain⟨j,q,e1,_,_⟩:=mM _ hl;omega
theorem aLp {l:List Pt}{m:List Ed}{c1 c2:Nat}{n:Int}:∀ k o,aw (hF l m c1 c2 n) k=some o->aw (TP (a69 l m c1 c2 n)) k=some o:=by
 intro k o hk;unfold hF at hk;rw[aD]at hk;split at hk
 ·rename_i hb;rw[<- az hb,<- hk];rfl
 rename_i hb7;rw[aD]at hk;split at hk
 ·rename_i hb;rw[<- az hb,<- hk];rfl
 rename_i hb3;rw[aD]at hk;split at hk
 ·rename_i hb;rw[<- az hb,aDY,<- hk]
 have h7:(7:Nat)≠k:=ba hb7;have h3:(2003:Nat)≠k:=ba hb3;show aw ((7,_)::(2003,_)::app (nK 3 (F5 l m)) (iH (WC l m c1 c2 n))) k=some o;rw[bJ h7,bJ h3,jM];rw[aD]at hk;split at hk
 ·rename_i hb;rw[<- az hb,aL5 aa,<- hk];rfl
 rw[aD]at hk;split at hk
 ·rename_i hb;rw[<- az hb,aL5 aa,<- hk];rfl
 rw[hk]
theorem w69 (l:List Pt)(m:List Ed)(n:Int)(c1 c2:Nat)(hl:l.length<=1000)(hm:m.length<=1000)
  (hP:eO l m n=true->vV l (bA l m m.length) (outs l m)=true/\RJ (bA l m m.length) (outs l m)=true/\S4 (bA l m m.length) (outs l m)=true/\1<=l.length) :
  body [aBy,XE,aA9,aB4,UG,(127,aMw)] 63 [fH l.length m.length c1 c2 n] (aS aX bS l m) 2 (aPx l m c1 c2 n):=by
 (conv=>whnf);refine⟨l,m,aP aX rfl,aP bS rfl,?_⟩;((conv=>whnf);apply bm<;>intro a0);rotate_left
 ·exfalso;have a0:(decide (l.length<=1000)&&decide (m.length<=1000))=false:=a0;rw[ai hl,ai hm]at a0;cases a0
 ((conv=>whnf);apply bm<;>intro a1)
 ·have hno:eO l m n=false:=by
   have a1:(!eO l m n)=true:=a1;simpa using a1
  (conv=>whnf);exact .inr ⟨by rw[iY,fE,hno];rfl,rfl⟩
 have hlst:eO l m n=true:=by
  have a1:(!eO l m n)=false:=a1;simpa using a1
 have hM:jS l m=true:=by
  have hh:=hlst;simp only[eO,af]at hh;exact JT hl hm (fun i hi=>eR hh.2.1 hi) (fun i hi=>eR hh.2.2.1 hi)
 (conv=>whnf);refine⟨fun q e h nx=>∃(i:Nat) (j:Int),j=i/\i<=m.length/\q=m.length - i/\(∀ t,t<i->∀ k,k<t->EH l m t k=true)/\e=e69 m.length j/\h=WC l m c1 c2 n/\nx=3,⟨m.length,?_⟩,?_⟩
 ·exact aJ (h0:=WC l m c1 c2 n) (n0:=3) ⟨0,0,rfl,Nat.zero_le _,rfl,fun t ht=>absurd ht (Nat.not_lt_zero t),rfl,rfl,rfl⟩
 rintro q e h nx ⟨i,j,hj,hi,rfl,hme,rfl,rfl,rfl⟩;unfold e69 WC dU aS;((conv=>whnf);apply bm<;>intro h3)
 ·have hlt:i<m.length:=(by simp[aB,aF]at h3;omega);(conv=>whnf);refine⟨fun q e h nx=>∃(k:Nat) (z:Int),z=k/\k<=i/\q=i - k/\(∀ t,t<k->EH l m i t=true)/\e=aCU m.length j z/\h=WC l m c1 c2 n/\nx=3,⟨i,?_⟩,?_⟩
  ·exact aJ (h0:=WC l m c1 c2 n) (n0:=3) ⟨0,0,rfl,Nat.zero_le _,rfl,fun t ht=>absurd ht (Nat.not_lt_zero t),rfl,rfl,rfl⟩
  rintro q e h nx ⟨k,z,hz,hk,rfl,hmk,rfl,rfl,rfl⟩;unfold aCU e69 WC dU aS;((conv=>whnf);apply bm<;>intro h4);rotate_left
  ·have hge:k=i:=(by simp[aB,aF]at h4;omega);(conv=>whnf);refine bt ?_;(conv=>whnf);refine⟨m.length - (i+1),aa,?_⟩;refine cU (e0:=e69 m.length (j+1)) (h0:=WC l m c1 c2 n) (n0:=3) ⟨i+1,j+1,aa,aa,rfl,fun t ht=>?_,rfl,rfl,rfl⟩ ?_ ?_ (by decide)
   ·by_cases hti:t=i
    ·rw[hti];exact fun k' hk'=>hmk k' aa
    exact hme t aa
   ·unfold e69;exact xE
   unfold WC dU aS;exact xH
  have hkl:k<i:=(by simp[aB,aF]at h4;omega);have ej:j.toNat=i:=aa;have ez:z.toNat=k:=aa;(conv=>whnf);refine⟨l,m,aP aX rfl,aP bS rfl,?_⟩;((conv=>whnf);apply bm<;>intro h5);rotate_left
  ·exfalso;have h5:(jS l m&&(decide (0<=j)&&decide (j<m.length)))=false:=h5;rw[hM,ai (aa:0<=j),ai (aa:j<m.length)]at h5;cases h5
  (conv=>whnf);refine⟨l,m,aP aX rfl,aP bS rfl,?_⟩;((conv=>whnf);apply bm<;>intro h6);rotate_left
  ·exfalso;have h6:(jS l m&&(decide (0<=z)&&decide (z<m.length)))=false:=h6;rw[hM,ai (aa:0<=z),ai (aa:z<m.length)]at h6;cases h6
  (conv=>whnf);have em:J9 (bB l m j.toNat) (bB l m z.toNat)=dW (bB l m i) (bB l m k):=(by rw[ej,ez,aFd]);((conv=>whnf);apply bm<;>intro h7);rotate_left
  ·have h7:dW (bB l m i) (bB l m k)=0:=(by rw[<- em];simpa[aB,aF]using h7);have hyes:EH l m i k=true:=(by rw[EH,ai h7,Bool.true_or]);(conv=>whnf);refine bt ?_;(conv=>whnf);refine⟨i - (k+1),aa,?_⟩;refine cU (e0:=aCU m.length j (z+1)) (h0:=WC l m c1 c2 n) (n0:=3) ⟨k+1,z+1,aa,aa,rfl,fun t ht=>?_,rfl,rfl,rfl⟩ ?_ ?_ (by decide)
   ·by_cases htk:t=k
    ·rw[htk];exact hyes
    exact hmk t aa
   ·unfold aCU e69;exact xE
   unfold WC dU aS;exact xH
  have h7:¬ dW (bB l m i) (bB l m k)=0:=(by rw[<- em];simpa[aB,aF]using h7);((conv=>whnf);apply bm<;>intro h8)
  ·have h8:¬ dW (bB l m i) (bB l m k)=1:=(by rw[<- em];simpa[aB,aF]using h8);(conv=>whnf);exact .inr ⟨by rw[iY,aFv hlt hkl (by rw[EH,aj h7,aj h8];rfl)];rfl,rfl⟩
  have h8:dW (bB l m i) (bB l m k)=1:=(by rw[<- em];simpa[aB,aF]using h8);have hyes:EH l m i k=true:=(by rw[EH,ai h8,Bool.or_true]);(conv=>whnf);refine bt ?_;(conv=>whnf);refine⟨i - (k+1),aa,?_⟩;refine cU (e0:=aCU m.length j (z+1)) (h0:=WC l m c1 c2 n) (n0:=3) ⟨k+1,z+1,aa,aa,rfl,fun t ht=>?_,rfl,rfl,rfl⟩ ?_ ?_ (by decide)
  ·by_cases htk:t=k
   ·rw[htk];exact hyes
   exact hmk t aa
  ·unfold aCU e69;exact xE
  unfold WC dU aS;exact xH
 have hge:i=m.length:=(by simp[aB,aF]at h3;omega);have hpln:fE l m n=true:=by
  rw[fE,hlst,eN (fun i hi=>eN (hme i aa))];rfl
 obtain⟨p1,p2,p3,p4⟩:=hP hlst;(conv=>whnf);refine⟨l,m,n,ak 0 l.length c1,ak 1 m.length c2,rfl,aP aX rfl,aP bS rfl,hlst,?_⟩;(conv=>whnf);have hW:AM (app (nK 3 (aI9 l m c1 c2 n)) (iH (WC l m c1 c2 n))) 7 3 4 9 8 0 (fun i=>3+(i+1000)) l (bA l m m.length) (outs l m) m.length c1 c2 n none:=by
  rw[aFe];exact aBx.at (bc (fun _ _ h=>h) aLj) rfl
 refine⟨7,[],3,4,9,8,0,(fun i=>3+(i+1000)),l,bA l m m.length,outs l m,m.length,c1,c2,n,none,rfl,hW,?_⟩;rw[show cnS l (bA l m m.length) (outs l m) []=some (true,.bool (sU l m))from by
  unfold cnS;rw[vQ p1,p3,fV,ai p4];rfl]
 refine aM rfl ?_;((conv=>whnf);apply bm<;>intro b1)
 ·have hc:sU l m=false:=by
   have b1:(!sU l m)=true:=b1;simpa using b1
  (conv=>whnf);exact .inr ⟨by rw[iY,hc,Bool.false_and,Bool.and_false],rfl⟩
 have hc:sU l m=true:=by
  have b1:(!sU l m)=false:=b1;simpa using b1
 (conv=>whnf);refine⟨a69 l m c1 c2 n,aMo hl p1 p2,rfl,aFe,rfl,?_⟩;((conv=>whnf);apply bm<;>intro b2);rotate_left
 ·have hok:nC (bG l m)=false:=by
   have b2:((!nC (bG l m)) == false)=false:=b2;simpa using b2
  (conv=>whnf);exact .inr ⟨by rw[iY,hok,Bool.false_and,Bool.and_false,Bool.and_false],rfl⟩
 have hok:nC (bG l m)=true:=by
  have b2:((!nC (bG l m)) == false)=true:=b2;simpa using b2
 (conv=>whnf);rw[aDY];((conv=>whnf);apply bm<;>intro b3)
 ·have hne:¬(bG l m).many=n:=by
   have b3:(!decide ((bG l m).many=n))=true:=b3;simpa using b3
  (conv=>whnf);exact .inr ⟨by rw[iY,aj hne,Bool.false_and,Bool.and_false,Bool.and_false,Bool.and_false],rfl⟩
 have hmn:(bG l m).many=n:=by
  have b3:(!decide ((bG l m).many=n))=false:=b3;simpa using b3
 (conv=>whnf);rw[aDY];(conv=>whnf);have hfl:(bG l m).face.length=2*m.length:=by
  have:=(mD l (bA l m m.length) (outs l m) (bA l m m.length).length).1;exact this.trans (bT l m m.length)
 have hDl:(a69 l m c1 c2 n).D.length=2*m.length:=bT l m m.length;have hhok:=aGA (m:=m) (c1:=c1) (c2:=c2) (n:=n) hl;refine⟨fun q e h nx=>∃(i:Nat) (j:Int),j=i/\i<=m.length/\q=m.length - i/\(∀ t,t<i->KT l m t=true)/\e=aCF m.length c2 j/\h=hF l m c1 c2 n/\nx=2004,⟨m.length,?_⟩,?_⟩
 ·refine E6 (e0:=aCF m.length c2 0) (h0:=hF l m c1 c2 n) (n0:=2004) ⟨0,0,rfl,Nat.zero_le _,rfl,fun t ht=>absurd ht (Nat.not_lt_zero t),rfl,rfl,rfl⟩ ?_ aLp hhok aa;unfold aCF;exact xE
 clear hj hi hge h3 hme;rintro q e h nx ⟨i,j,hj,hi,rfl,hfa,rfl,rfl,rfl⟩;unfold aCF;((conv=>whnf);apply bm<;>intro h3);rotate_left
 ·have hge:i=m.length:=(by simp[aB,aF]at h3;omega);(conv=>whnf);refine .inl ⟨?_,aNv hl⟩;rw[iY,hpln,hc,hok,ai hmn,eN (fun t ht=>hfa t aa)];rfl
 have hlt:i<m.length:=(by simp[aB,aF]at h3;omega);(conv=>whnf);refine bt ?_;(conv=>whnf);refine eZ (BE m (i:=i) aa ?_) ?_
 ·show _+Int.toNat j*5=_;omega
 (conv=>whnf);refine bt ?_;((conv=>whnf);apply bm<;>intro g3);rotate_left
 ·exfalso;simp[aB,aF,hDl]at g3;omega
 (conv=>whnf);refine fD (dY (bG l m).face (i:=2*i) aa ?_) ?_
 ·show _+Int.toNat (2*j)*1=_;omega
 ((conv=>whnf);apply bm<;>intro g4);rotate_left
 ·have hL:¬(aU m i).l=aG (bG l m).face (2*i):=by
   have g4:((!decide ((aU m i).l=aG (bG l m).face (2*i))) == false)=false:=g4;simpa using g4
  (conv=>whnf);exact .inr ⟨by rw[iY,gY hlt (show KT l m i=false by rw[KT,aj hL,Bool.false_and]),Bool.and_false,Bool.and_false,Bool.and_false,Bool.and_false],rfl⟩
 have hL:(aU m i).l=aG (bG l m).face (2*i):=by
  have g4:((!decide ((aU m i).l=aG (bG l m).face (2*i))) == false)=true:=g4;simpa using g4
 (conv=>whnf);refine bt ?_;(conv=>whnf);refine bt ?_;((conv=>whnf);apply bm<;>intro g7);rotate_left
 ·exfalso;simp[aB,aF,hDl]at g7;omega
 (conv=>whnf);refine fD (dY (bG l m).face (i:=2*i+1) aa ?_) ?_
 ·show _+Int.toNat (2*j+1)*1=_;omega
 ((conv=>whnf);apply bm<;>intro g8)
 ·have hR:¬(aU m i).r=aG (bG l m).face (2*i+1):=by
   have g8:(!decide ((aU m i).r=aG (bG l m).face (2*i+1)))=true:=g8;simpa using g8
  (conv=>whnf);exact .inr ⟨by rw[iY,gY hlt (show KT l m i=false by rw[KT,aj hR,Bool.and_false]),Bool.and_false,Bool.and_false,Bool.and_false,Bool.and_false],rfl⟩
 have hR:(aU m i).r=aG (bG l m).face (2*i+1):=by
  have g8:(!decide ((aU m i).r=aG (bG l m).face (2*i+1)))=false:=g8;simpa using g8
 (conv=>whnf);refine bt ?_;(conv=>whnf);refine⟨m.length - (i+1),aa,?_⟩;refine E6 (e0:=aCF m.length c2 (j+1)) (h0:=hF l m c1 c2 n) (n0:=2004) ⟨i+1,j+1,aa,aa,rfl,fun t ht=>?_,rfl,rfl,rfl⟩ ?_ (jC (fB (fun _ _ h=>h) (aZ hhok (ah _))) (aZ hhok (ah _))) hhok aa
 ·by_cases hti:t=i
  ·rw[hti,KT,ai hL,ai hR];rfl
  exact hfa t aa
 unfold aCF;exact xE
theorem lR (L:List Int)(x:Nat)(v:Int)(i:Nat)(hx:x<L.length):aG (L.set x v) i=if i=x then v else aG L i:=by
 unfold aG;rw[List.getD_eq_getElem?_getD,List.getD_eq_getElem?_getD,List.getElem?_set];by_cases h:x=i
 ·subst h;simp[hx]
 rw[if_neg h,if_neg (fun e=>h e.symm)]
theorem KZ {L:List Int}{x y:Nat}(hx:x<L.length)(hy:y<L.length)(i:Nat):aG (lH L x y) i=if i=y then aG L x else if i=x then aG L y else aG L i:=by
 unfold lH;rw[lR _ _ _ _ (by rw[List.length_set];exact hy),lR _ _ _ _ hx]
theorem RI {L:List Int}{a b:Nat}:∀(n:Nat),a+n<=b->b+n<=L.length->∀ i,aG (mL L a b n) i=if a<=i/\i<a+n then aG L (i - a+b)else if b<=i/\i<b+n then aG L (i - b+a)else aG L i
 |0,_,_,i=>by
  rw[if_neg aa,if_neg aa];rfl
 |n+1,h1,h2,i=>by
  have hl:=gV L a b n;have ih:=RI (L:=L) (a:=a) (b:=b) n aa aa;unfold mL;rw[KZ aa aa,ih,ih,ih];by_cases h3:i=b+n
  ·subst h3;rw[if_pos rfl,if_neg aa,if_neg aa,if_neg aa,if_pos aa];congr 1;omega
  rw[if_neg h3];by_cases h4:i=a+n
  ·subst h4;rw[if_pos rfl,if_neg aa,if_neg aa,if_pos aa];congr 1;omega
  rw[if_neg h4];by_cases h5:a<=i/\i<a+n
  ·rw[if_pos h5,if_pos aa]
  rw[if_neg h5,if_neg (c:=a<=i/\i<a+(n+1)) aa];by_cases h6:b<=i/\i<b+n
  ·rw[if_pos h6,if_pos aa]
  rw[if_neg h6,if_neg aa]
theorem SJ (m:Nat):∀(k:Nat) (L:List Int) (i j:Nat),1<=i->1<=j->i<=m->m+j<=L.length->i+j<=k->∀ t,aG (iI m k L i j) t=if t<m - i then aG L t else if t<m - i+j then aG L (t - (m - i)+m)else if t<m+j then aG L (t - j)else aG L t
 |0,L,i,j,h1,h2,h3,h4,h5,t=>by omega
 |k+1,L,i,j,h1,h2,h3,h4,h5,t=>by
  unfold iI;by_cases e1:i=j
  ·rw[if_pos e1,RI i aa aa];by_cases q1:t<m - i
   ·rw[if_pos q1,if_neg aa,if_neg aa]
   rw[if_neg q1];by_cases q2:t<m - i+j
   ·rw[if_pos q2,if_pos aa]
   rw[if_neg q2,if_neg aa];by_cases q3:t<m+j
   ·rw[if_pos q3,if_pos aa];congr 1;omega
   rw[if_neg q3,if_neg aa]
  rw[if_neg e1];by_cases e2:j<i
  ·rw[if_pos e2,SJ m k _ (i - j) j aa h2 aa (by rw[gV];exact h4) aa t];simp only[RI (L:=L) (a:=m - i) (b:=m) j aa aa];by_cases q1:t<m - i
   ·rw[if_pos aa,if_neg aa,if_neg aa,if_pos q1]
   rw[if_neg q1];by_cases q2:t<m - i+j
   ·rw[if_pos aa,if_pos aa,if_pos q2]
   rw[if_neg q2];by_cases q3:t<m+j
   ·rw[if_pos q3,if_neg aa];by_cases q4:t<m - (i - j)+j
    ·rw[if_pos q4,if_neg aa,if_pos aa];rw[if_pos q3];exact congrArg (aG L) aa
    rw[if_neg q4,if_pos q3,if_neg aa,if_neg aa]
   rw[if_neg q3,if_neg aa,if_neg aa,if_neg q3,if_neg aa,if_neg aa]
  rw[if_neg e2,SJ m k _ i (j - i) h1 aa h3 (by rw[gV];omega) aa t];simp only[RI (L:=L) (a:=m - i) (b:=m+j - i) i aa aa];by_cases q1:t<m - i
  ·rw[if_pos q1,if_neg aa,if_neg aa,if_pos q1]
  rw[if_neg q1,if_neg q1];by_cases q2:t<m - i+j
  ·rw[if_pos q2];by_cases q5:t<m - i+(j - i)
   ·rw[if_pos q5,if_neg aa,if_neg aa]
   rw[if_neg q5,if_pos aa,if_pos aa];congr 1;omega
  rw[if_neg q2,if_neg aa,if_neg aa];by_cases q3:t<m+j
  ·rw[if_pos q3,if_neg aa,if_pos aa];congr 1;omega
  rw[if_neg q3,if_neg aa,if_neg aa]
theorem W7 {L:List Int}{a:Nat}:∀(n:Nat),a+n<L.length->∀ s,aG (TW L a n) s=if s<a then aG L s else if s<a+n then aG L (s+1)else if s=a+n then aG L a else aG L s
 |0,h,s=>by
  by_cases q1:s<a
  ·rw[if_pos q1];rfl
  rw[if_neg q1,if_neg aa];by_cases q2:s=a
  ·rw[if_pos aa,q2];rfl
  rw[if_neg aa];rfl
 |n+1,h,s=>by
  have hl:=(aCw L a n aa).len;have ih:=W7 (L:=L) (a:=a) n aa;unfold TW;rw[KZ aa aa,ih,ih,ih];by_cases q1:s<a
  ·rw[if_neg aa,if_neg aa,if_pos q1,if_pos q1]
  rw[if_neg q1,if_neg q1];by_cases q2:s=a+n+1
  ·rw[if_pos q2,if_neg aa,if_neg aa,if_pos rfl,if_neg aa,if_pos aa]
  rw[if_neg q2];by_cases q3:s=a+n
  ·rw[if_pos q3,if_neg aa,if_neg aa,if_neg aa,if_pos aa,q3]
  rw[if_neg q3];by_cases q4:s<a+n
  ·rw[if_pos q4,if_pos aa]
  rw[if_neg q4,if_neg q3,if_neg aa,if_neg aa]
theorem WR {L:List Int}{m:Nat}(hm:m<L.length):∀(n:Nat),n<=m->∀ s,aG (U2 L m n) s=if s<m - n then aG L s else if s=m - n then aG L m else if s<=m then aG L (s - 1)else aG L s
 |0,h,s=>by
  by_cases q1:s<m
  ·rw[if_pos aa];rfl
  rw[if_neg aa];by_cases q2:s=m
  ·rw[if_pos aa,q2];rfl
  rw[if_neg aa,if_neg aa];rfl
 |n+1,h,s=>by
  have hl:=(aDu L m hm n).len;have ih:=WR (L:=L) (m:=m) hm n aa;unfold U2;rw[KZ aa aa,ih,ih,ih];by_cases q1:s=m - n - 1
  ·rw[if_pos q1,if_neg aa,if_pos rfl,if_neg aa,if_pos aa]
  rw[if_neg q1];by_cases q2:s=m - n
  ·rw[if_pos q2,if_pos aa,if_neg aa,if_neg aa,if_pos aa];congr 1;omega
  rw[if_neg q2];by_cases q3:s<m - n
  ·rw[if_pos q3,if_pos aa]
  rw[if_neg q3,if_neg q2];by_cases q4:s<=m
  ·rw[if_pos q4,if_neg aa,if_neg aa]
  rw[if_neg q4,if_neg aa,if_neg aa]
theorem O1 {f:Nat->Bool}:∀{k i j:Nat},j - i<=k->(∀ s t,i<=s->s<=t->t<j->f s=true->f t=true)->(∀ t,i<=t->t<sT f k i j->f t=false)/\(∀ t,sT f k i j<=t->t<j->f t=true)
 |0,i,j,hk,hm=>by
  unfold sT;exact⟨fun t h1 h2=>by omega,fun t h1 h2=>by omega⟩
 |k+1,i,j,hk,hm=>by
  unfold sT;by_cases h1:i<j
  ·rw[if_pos h1];cases hf:f ((i+j) / 2)with
   |true =>
    rw[if_pos rfl];have ih:=O1 (f:=f) (k:=k) (i:=i) (j:=(i+j) / 2) aa fun s t a b c=>hm s t a b aa;refine⟨ih.1,fun t h2 h3=>?_⟩;by_cases h4:t<(i+j) / 2
    ·exact ih.2 t h2 h4
    exact hm _ _ aa aa h3 hf
   |false =>
    rw[if_neg (by decide)];have ih:=O1 (f:=f) (k:=k) (i:=(i+j) / 2+1) (j:=j) aa fun s t a b c=>hm s t aa b c;refine⟨fun t h2 h3=>?_,ih.2⟩;by_cases h4:t<=(i+j) / 2
    ·cases hq:f t with
     |false=>rfl
     |true=>have:=hm t _ h2 h4 aa hq;rw[hf]at this;cases this
    exact ih.1 t aa h3
  rw[if_neg h1];exact⟨fun t h2 h3=>by omega,fun t h2 h3=>by omega⟩
structure zN (a b:Nat) (L M:List Int):Prop where
 len:M.length=L.length
 out:∀ t,t<a\/b<=t->aG M t=aG L t
 inn:∀ t,a<=t->t<b->∃ s,a<=s/\s<b/\aG M t=aG L s
theorem zN.refl (a b:Nat)(L:List Int):zN a b L L:=⟨rfl,fun _ _=>rfl,fun t h1 h2=>⟨t,h1,h2,rfl⟩⟩
theorem zN.trans {a b:Nat}{L M N:List Int}(h1:zN a b L M)(h2:zN a b M N):zN a b L N :=
 ⟨h2.len.trans h1.len,fun t h=>(h2.out t h).trans (h1.out t h),fun t q1 q2=>by
  obtain⟨s,s1,s2,s3⟩:=h2.inn t q1 q2;obtain⟨u,u1,u2,u3⟩:=h1.inn s s1 s2;exact⟨u,u1,u2,s3.trans u3⟩⟩
theorem zN.wide {a b c d:Nat}{L M:List Int}(h:zN c d L M)(h1:a<=c)(h2:d<=b):zN a b L M :=
 ⟨h.len,fun t q=>h.out t aa,fun t q1 q2=>by
  by_cases hc:c<=t/\t<d
  ·obtain⟨s,s1,s2,s3⟩:=h.inn t hc.1 hc.2;exact⟨s,aa,aa,s3⟩
  exact⟨t,q1,q2,h.out t aa⟩⟩
theorem aIS {L:List Int}{a b x y:Nat}(h1:a<=x)(h2:x<b)(h3:a<=y)(h4:y<b)(h5:b<=L.length):zN a b L (lH L x y):=by
 have hx:=KZ (L:=L) (x:=x) (y:=y) aa aa;refine⟨jK _ _ _,fun t h=>?_,fun t q1 q2=>?_⟩
 ·rw[hx,if_neg aa,if_neg aa]
 rw[hx];by_cases e1:t=y
 ·rw[if_pos e1];exact⟨x,h1,h2,rfl⟩
 rw[if_neg e1];by_cases e2:t=x
 ·rw[if_pos e2];exact⟨y,h3,h4,rfl⟩
 rw[if_neg e2];exact⟨t,q1,q2,rfl⟩
theorem aAo {m k:Nat}{L:List Int}{i j a b:Nat}(h1:1<=i)(h2:1<=j)(h3:i<=m)(h4:m+j<=L.length)(h5:i+j<=k)(h6:a<=m - i)(h7:m+j<=b)(hl:(iI m k L i j).length=L.length):zN a b L (iI m k L i j):=by
 have hx:=SJ m k L i j h1 h2 h3 h4 h5;refine⟨hl,fun t h=>?_,fun t q1 q2=>?_⟩
 ·rw[hx];by_cases e1:t<m - i
  ·rw[if_pos e1]
  rw[if_neg e1,if_neg aa,if_neg aa]
 rw[hx];by_cases e1:t<m - i
 ·rw[if_pos e1];exact⟨t,q1,q2,rfl⟩
 rw[if_neg e1];by_cases e2:t<m - i+j
 ·rw[if_pos e2];exact⟨_,aa,aa,rfl⟩
 rw[if_neg e2];by_cases e3:t<m+j
 ·rw[if_pos e3];exact⟨_,aa,aa,rfl⟩
 rw[if_neg e3];exact⟨t,q1,q2,rfl⟩
theorem aQ1 {L:List Int}{a b n:Nat}(h1:a+n<b)(h2:b<=L.length):zN a b L (TW L a n):=by
 have hx:=W7 (L:=L) (a:=a) n aa;refine⟨(aCw L a n aa).len,fun t h=>?_,fun t q1 q2=>?_⟩
 ·rw[hx];by_cases e1:t<a
  ·rw[if_pos e1]
  rw[if_neg e1,if_neg aa,if_neg aa]
 rw[hx,if_neg aa];by_cases e2:t<a+n
 ·rw[if_pos e2];exact⟨_,aa,aa,rfl⟩
 rw[if_neg e2];by_cases e3:t=a+n
 ·rw[if_pos e3];exact⟨a,aa,aa,rfl⟩
 rw[if_neg e3];exact⟨t,q1,q2,rfl⟩
theorem aPX {L:List Int}{a b m n:Nat}(h1:a+n<=m)(h3:m<b)(h2:b<=L.length):zN a b L (U2 L m n):=by
 have hx:=WR (L:=L) (m:=m) aa n aa;refine⟨(aDu L m aa n).len,fun t h=>?_,fun t q1 q2=>?_⟩
 ·rw[hx];by_cases e1:t<m - n
  ·rw[if_pos e1]
  rw[if_neg e1,if_neg aa,if_neg aa]
 rw[hx];by_cases e1:t<m - n
 ·rw[if_pos e1];exact⟨t,q1,q2,rfl⟩
 rw[if_neg e1];by_cases e2:t=m - n
 ·rw[if_pos e2];exact⟨m,aa,aa,rfl⟩
 rw[if_neg e2];by_cases e3:t<=m
 ·rw[if_pos e3];exact⟨_,aa,aa,rfl⟩
 rw[if_neg e3];exact⟨t,q1,q2,rfl⟩
theorem zF (D:CW):∀(k:Nat) (L:List Int) (a m b:Nat),a<m->m<b->b<=L.length->zN a b L (dQ D k L a m b)
 |0,L,a,_,b,_,_,_=>.refl a b L
 |k+1,L,a,m,b,h1,h2,h3=>by
  unfold dQ;split
  ·have:=mO (f:=fun h=>!(gI D (aG L h) (aG L a))) (k:=b - m) (i:=m) (j:=b) aa;exact aQ1 aa h3
  split
  ·have:=mO (f:=fun h=>gI D (aG L m) (aG L h)) (k:=m - a) (i:=a) (j:=m) aa;exact aPX aa aa h3
  have lo:=vL (D:=D) (L:=L) h1 h2;simp only;generalize stM D L a m b=st at lo;generalize he:(a+b) / 2+m - st=en at *;obtain⟨l1,l2,l3,l4,l5,l6⟩:=lo;have s1:zN a b L (if st<m/\m<en then iI m (m - st+(en - m)) L (m - st) (en - m)else L):=by
   split
   ·exact aAo aa aa aa aa aa aa aa (sN _ _ _ _ _ aa aa).len
   exact .refl a b L
  generalize(if st<m/\m<en then iI m (m - st+(en - m)) L (m - st) (en - m)else L)=L1 at s1;have s2:zN a b L (if a<st/\st<(a+b) / 2 then dQ D k L1 a st ((a+b) / 2)else L1):=by
   split
   ·exact s1.trans ((zF D k L1 _ _ _ aa aa (by have:=s1.len;omega)).wide aa aa)
   exact s1
  generalize(if a<st/\st<(a+b) / 2 then dQ D k L1 a st ((a+b) / 2)else L1)=L2 at s2;split
  ·exact s2.trans ((zF D k L2 _ _ _ aa aa (by have:=s2.len;omega)).wide aa aa)
  exact s2
def BP (D:CW)(x y:Int):Prop:=gI D y x=false
def So (D:CW)(L:List Int)(a b:Nat):Prop:=∀ i j,a<=i->i<j->j<b->BP D (aG L i) (aG L j)
structure Ord (D:CW) (U:Int->Prop):Prop where
 trans:∀ x y z,U x->U y->U z->BP D x y->BP D y z->BP D x z
 asym:∀ x y,U x->U y->gI D x y=true->BP D x y
def NQ (U:Int->Prop)(L:List Int)(a b:Nat):Prop:=∀ i,a<=i->i<b->U (aG L i)
theorem zN.JE {U:Int->Prop}{L M:List Int}{a b:Nat}(h:zN a b L M)(hU:NQ U L a b):NQ U M a b:=fun i h1 h2=>by
 obtain⟨s,s1,s2,s3⟩:=h.inn i h1 h2;rw[s3];exact hU s s1 s2
theorem So.nar {D:CW}{L:List Int}{a b c d:Nat}(h:So D L a b)(h1:a<=c)(h2:d<=b):So D L c d:=fun i j q1 q2 q3=>h i j aa q2 aa
theorem So.congr {D:CW}{L M:List Int}{a b:Nat}(h:So D L a b)(he:∀ i,a<=i->i<b->aG M i=aG L i):So D M a b:=fun i j q1 q2 q3=>by
 rw[he i q1 aa,he j aa q3];exact h i j q1 q2 q3
theorem Ord.aKs {D:CW}{U:Int->Prop}(hO:Ord D U){x y z:Int}(hx:U x)(hy:U y)(hz:U z)(h1:gI D x y=true)(h2:BP D y z):gI D x z=true:=by
 cases h:gI D x z with
 |true=>rfl
 |false =>
  have:BP D y x:=hO.trans y z x hy hz hx h2 h;unfold BP at this;rw[h1]at this;cases this
theorem Ord.aOZ {D:CW}{U:Int->Prop}(hO:Ord D U){x y z:Int}(hx:U x)(hy:U y)(hz:U z)(h1:BP D x y)(h2:gI D y z=true):gI D x z=true:=by
 cases h:gI D x z with
 |true=>rfl
 |false =>
  have:BP D z y:=hO.trans z x y hz hx hy h h1;unfold BP at this;rw[h2]at this;cases this
section
variable {D:CW}{U:Int->Prop}
theorem aC5 (hO:Ord D U)(a J:Nat):∀(j:Nat) (L:List Int),a<=j->j<=J->J<L.length->NQ U L a (J+1) ->
  (∀ p q,a<=p->p<q->q<=J->p≠j->q≠j->BP D (aG L p) (aG L q))->(∀ q,j<q->q<=J->BP D (aG L j) (aG L q))->So D (tT D a L j) a (J+1)/\zN a (J+1) L (tT D a L j)
 |0,L,h1,h2,h3,hU,hA,hB=>by
  unfold tT;refine⟨fun i j q1 q2 q3=>?_,.refl _ _ _⟩;by_cases e:i=0
  ·subst e;exact hB j q2 aa
  exact hA i j q1 q2 aa e aa
 |j+1,L,h1,h2,h3,hU,hA,hB=>by
  unfold tT;split
  ·rename_i hc;have hs:=KZ (L:=L) (x:=j+1) (y:=j) aa aa;have hg:zN a (J+1) L (lH L (j+1) j):=aIS aa aa aa aa aa;have ih:=aC5 hO a J j (lH L (j+1) j) aa aa (by rw[jK];exact h3) (hg.JE hU) ?_ ?_
   ·exact⟨ih.1,hg.trans ih.2⟩
   ·intro p q q1 q2 q3 q4 q5;rw[hs,hs,if_neg q4,if_neg q5];by_cases e1:q=j+1
    ·rw[if_pos e1,if_neg aa];exact hA p j q1 aa aa aa aa
    rw[if_neg e1];by_cases e2:p=j+1
    ·rw[if_pos e2];exact hA j q aa aa q3 aa e1
    rw[if_neg e2];exact hA p q q1 q2 q3 e2 e1
   intro q q1 q2;rw[hs,hs,if_pos rfl,if_neg aa];by_cases e1:q=j+1
   ·rw[if_pos e1];exact hO.asym _ _ (hU _ aa aa) (hU _ aa aa) hc.2
   rw[if_neg e1];exact hB q aa q2
  rename_i hc;refine⟨fun p q q1 q2 q3=>?_,.refl _ _ _⟩;by_cases e1:p=j+1
  ·subst e1;exact hB q q2 aa
  by_cases e2:q=j+1
  ·subst e2;have hle:BP D (aG L j) (aG L (j+1)):=by
    cases hq:gI D (aG L (j+1)) (aG L j)with
    |false=>exact hq
    |true=>exact absurd ⟨aa,hq⟩ hc
   by_cases e3:p=j
   ·subst e3;exact hle
   exact hO.trans _ _ _ (hU _ q1 aa) (hU _ aa aa) (hU _ aa aa) (hA p j q1 aa aa e1 aa) hle
  exact hA p q q1 q2 aa e1 e2
theorem RC (hO:Ord D U)(a:Nat)(L:List Int):∀ t,a+t<L.length->NQ U L a (a+t+1)->So D (gH D a L t) a (a+t+1)/\zN a (a+t+1) L (gH D a L t)
 |0,h,hU=>⟨fun i j q1 q2 q3=>by omega,.refl _ _ _⟩
 |t+1,h,hU=>by
  obtain⟨i1,i2⟩:=RC hO a L t aa fun i q1 q2=>hU i q1 aa;unfold gH;have g2:zN a (a+(t+1)+1) L (gH D a L t):=i2.wide (ah _) aa;have:=aC5 hO a (a+1+t) (a+1+t) (gH D a L t) aa (ah _) (by rw[i2.len];omega) (fun i q1 q2=>g2.JE hU i q1 aa) (fun p q q1 q2 q3 q4 q5=>i1 p q q1 q2 aa) (fun q q1 q2=>by omega);rw[(aa:a+(t+1)+1=a+1+t+1)]at *;exact⟨this.1,g2.trans this.2⟩
theorem PQ (hO:Ord D U):∀(k:Nat) (L:List Int) (a m b:Nat),a<m->m<b->b<=L.length->b - a<=k->NQ U L a b->So D L a m->So D L m b->So D (dQ D k L a m b) a b
 |0,L,a,m,b,h1,h2,h3,h4,_,_,_=>by omega
 |k+1,L,a,m,b,h1,h2,h3,h4,hU,sA,sB=>by
  unfold dQ;split
  ·rename_i c1;have lo:=mO (f:=fun h=>!(gI D (aG L h) (aG L a))) (k:=b - m) (i:=m) (j:=b) aa;have sp:=O1 (f:=fun h=>!(gI D (aG L h) (aG L a))) (k:=b - m) (i:=m) (j:=b) (ah _) (by
    intro s t q1 q2 q3 q4;have q4:gI D (aG L s) (aG L a)=false:=(by simpa using q4);show(!(gI D (aG L t) (aG L a)))=true;rw[show gI D (aG L t) (aG L a)=false from ?_]
    ·rfl
    by_cases e:s=t
    ·rw[<- e];exact q4
    exact hO.trans (aG L a) (aG L s) (aG L t) (hU _ aa aa) (hU _ aa aa) (hU _ aa aa) q4 (sB s t q1 aa q3))
   generalize sT (fun h=>!(gI D (aG L h) (aG L a))) (b - m) m b=r at lo sp ⊢;have hx:=W7 (L:=L) (a:=a) (r - 1 - a) aa;have hlow:∀ t,m<=t->t<r->BP D (aG L t) (aG L a):=fun t q1 q2=>by
    have:=sp.1 t q1 q2;simp only[Bool.not_eq_false']at this;exact hO.asym _ _ (hU _ aa aa) (hU _ aa aa) this
   have hhi:∀ t,r<=t->t<b->BP D (aG L a) (aG L t):=fun t q1 q2=>by
    have:=sp.2 t q1 q2;simp only[Bool.not_eq_true']at this;exact this
   intro i j q1 q2 q3;rw[hx,hx,if_neg (c:=i<a) aa,if_neg (c:=j<a) aa];by_cases e1:i<a+(r - 1 - a)
   ·rw[if_pos e1];by_cases e2:j<a+(r - 1 - a)
    ·rw[if_pos e2];exact sB _ _ aa aa aa
    rw[if_neg e2];by_cases e3:j=a+(r - 1 - a)
    ·rw[if_pos e3];exact hlow _ aa aa
    rw[if_neg e3];exact sB _ _ aa aa aa
   rw[if_neg e1,if_neg (c:=j<a+(r - 1 - a)) aa,if_neg (c:=j=a+(r - 1 - a)) aa];by_cases e3:i=a+(r - 1 - a)
   ·rw[if_pos e3];exact hhi _ aa aa
   rw[if_neg e3];exact sB _ _ aa aa aa
  rename_i c1;split
  ·rename_i c2;have lo:=mO (f:=fun h=>gI D (aG L m) (aG L h)) (k:=m - a) (i:=a) (j:=m) aa;have sp:=O1 (f:=fun h=>gI D (aG L m) (aG L h)) (k:=m - a) (i:=a) (j:=m) (ah _) (by
    intro s t q1 q2 q3 q4;by_cases e:s=t
    ·rw[<- e];exact q4
    exact hO.aKs (hU _ aa aa) (hU _ aa aa) (hU _ aa aa) q4 (sA s t q1 aa q3))
   generalize sT (fun h=>gI D (aG L m) (aG L h)) (m - a) a m=r at lo sp ⊢;have hx:=WR (L:=L) (m:=m) aa (m - r) aa;have hlow:∀ t,a<=t->t<r->BP D (aG L t) (aG L m):=fun t q1 q2=>sp.1 t q1 q2;have hhi:∀ t,r<=t->t<m->BP D (aG L m) (aG L t):=fun t q1 q2=>hO.asym _ _ (hU _ aa aa) (hU _ aa aa) (sp.2 t q1 q2);intro i j q1 q2 q3;rw[hx,hx];by_cases e1:i<m - (m - r)
   ·rw[if_pos e1];by_cases e2:j<m - (m - r)
    ·rw[if_pos e2];exact sA _ _ aa aa aa
    rw[if_neg e2];by_cases e3:j=m - (m - r)
    ·rw[if_pos e3];exact hlow _ aa aa
    rw[if_neg e3,if_pos aa];exact sA _ _ aa aa aa
   rw[if_neg e1,if_neg (c:=j<m - (m - r)) aa,if_neg (c:=j=m - (m - r)) aa,if_pos (c:=j<=m) aa];by_cases e3:i=m - (m - r)
   ·rw[if_pos e3];exact hhi _ aa aa
   rw[if_neg e3,if_pos aa];exact sA _ _ aa aa aa
  rename_i c2;have lo:=vL (D:=D) (L:=L) h1 h2
  -- what the search warrants
  have sp:(∀ c,a<=c->c<stM D L a m b->(a+b) / 2+m - stM D L a m b<b->BP D (aG L c) (aG L ((a+b) / 2+m - stM D L a m b)))/\(stM D L a m b<m->m<(a+b) / 2+m - stM D L a m b->gI D (aG L ((a+b) / 2+m - stM D L a m b - 1)) (aG L (stM D L a m b))=true):=by
   have hmono:∀ lo hi:Nat,a<=lo->(a+b) / 2+m - b<=lo->hi<=m->hi<=(a+b) / 2->∀ s t,lo<=s->s<=t->t<hi->gI D (aG L ((a+b) / 2+m - 1 - s)) (aG L s)=true->gI D (aG L ((a+b) / 2+m - 1 - t)) (aG L t)=true:=by
    intro lo hi g1 g2 g3 g4 s t q1 q2 q3 q4;by_cases e:s=t
    ·rw[<- e];exact q4
    have u1:=hO.aKs (hU _ aa aa) (hU _ aa aa) (hU _ aa aa) q4 (sA s t aa aa aa);exact hO.aOZ (hU _ aa aa) (hU _ aa aa) (hU _ aa aa) (sB ((a+b) / 2+m - 1 - t) ((a+b) / 2+m - 1 - s) aa aa aa) u1
   have key:∀ lo hi st:Nat,a<=lo->(a+b) / 2+m - b<=lo->lo<=hi->hi<=m->hi<=(a+b) / 2->(lo=a\/lo=(a+b) / 2+m - b)->(hi=m\/hi=(a+b) / 2)->st=sT (fun c=>gI D (aG L ((a+b) / 2+m - 1 - c)) (aG L c)) (hi - lo) lo hi ->
     (∀ c,a<=c->c<st->(a+b) / 2+m - st<b->BP D (aG L c) (aG L ((a+b) / 2+m - st)))/\(st<m->m<(a+b) / 2+m - st->gI D (aG L ((a+b) / 2+m - st - 1)) (aG L st)=true):=by
    intro lo hi st g1 g2 g3 g4 g5 g6 g7 g8;have l0:=mO (f:=fun c=>gI D (aG L ((a+b) / 2+m - 1 - c)) (aG L c)) (k:=hi - lo) (i:=lo) (j:=hi) g3;have b0:=O1 (f:=fun c=>gI D (aG L ((a+b) / 2+m - 1 - c)) (aG L c)) (k:=hi - lo) (i:=lo) (j:=hi) (ah _) (hmono lo hi g1 g2 g4 g5);rw[<- g8]at l0 b0;refine⟨fun c q1 q2 q3=>?_,fun q1 q2=>?_⟩
    ·have u:=b0.1 (st - 1) aa aa;have u:gI D (aG L ((a+b) / 2+m - 1 - (st - 1))) (aG L (st - 1))=false:=u;rw[(aa:(a+b) / 2+m - 1 - (st - 1)=(a+b) / 2+m - st)]at u;by_cases e:c=st - 1
     ·rw[e];exact u
     exact hO.trans _ (aG L (st - 1)) _ (hU _ aa aa) (hU _ aa aa) (hU _ aa aa) (sA c (st - 1) q1 aa aa) u
    have u:=b0.2 st (ah _) aa;have u:gI D (aG L ((a+b) / 2+m - 1 - st)) (aG L st)=true:=u;rw[(aa:(a+b) / 2+m - 1 - st=(a+b) / 2+m - st - 1)]at u;exact u
   by_cases hc:(a+b) / 2<m
   ·exact key ((a+b) / 2+m - b) ((a+b) / 2) _ aa (ah _) aa aa (ah _) (.inr rfl) (.inr rfl) (by unfold stM;simp only[if_pos hc])
   exact key a m _ (ah _) aa aa (ah _) aa (.inl rfl) (.inl rfl) (by unfold stM;simp only[if_neg hc])
  simp only;generalize stM D L a m b=st at lo sp;generalize he:(a+b) / 2+m - st=en at *;obtain⟨l1,l2,l3,l4,l5,l6⟩:=lo;generalize hmid:(a+b) / 2=mid at *;have hlen1:(if st<m/\m<en then iI m (m - st+(en - m)) L (m - st) (en - m)else L).length=L.length:=by
   split
   ·exact(sN _ _ _ _ _ aa aa).len
   rfl
  have v1:∀ t,aG (if st<m/\m<en then iI m (m - st+(en - m)) L (m - st) (en - m)else L) t=if t<st then aG L t else if t<mid then aG L (t - st+m)else if t<en then aG L (t - (mid - st))else aG L t:=by
   intro t;split
   ·rename_i hc;rw[SJ m _ L (m - st) (en - m) aa aa aa aa (ah _) t];rw[(aa:m - (m - st)=st),(aa:st+(en - m)=mid),(aa:m+(en - m)=en),(aa:en - m=mid - st)]
   rename_i hc;by_cases e1:t<st
   ·rw[if_pos e1]
   rw[if_neg e1];by_cases e2:t<mid
   ·rw[if_pos e2,(aa:t - st+m=t)]
   rw[if_neg e2];by_cases e3:t<en
   ·rw[if_pos e3,(aa:t - (mid - st)=t)]
   rw[if_neg e3]
  have s1:zN a b L (if st<m/\m<en then iI m (m - st+(en - m)) L (m - st) (en - m)else L):=by
   split
   ·exact aAo aa aa aa aa aa aa aa (sN _ _ _ _ _ aa aa).len
   exact .refl a b L
  generalize(if st<m/\m<en then iI m (m - st+(en - m)) L (m - st) (en - m)else L)=L1 at s1 hlen1 v1;have U1:=s1.JE hU
  -- both halves,and what lies between them
  have cross:∀ i j,a<=i->i<mid->mid<=j->j<b->BP D (aG L1 i) (aG L1 j):=by
   intro i j q1 q2 q3 q4;have hij:∀ x y,a<=x->x<m->m<=y->y<b->x<st->en<=y->BP D (aG L x) (aG L y):=by
    intro x y z1 z2 z3 z4 z5 z6;by_cases e:y=en
    ·rw[e];exact sp.1 x z1 z5 aa
    exact hO.trans _ (aG L en) _ (hU _ z1 aa) (hU _ aa aa) (hU _ aa z4) (sp.1 x z1 z5 aa) (sB en y aa aa z4)
   have hji:∀ y x,m<=y->y<en->st<=x->x<m->BP D (aG L y) (aG L x):=by
    intro y x z1 z2 z3 z4;have u:=hO.asym _ _ (hU _ aa aa) (hU _ aa aa) (sp.2 aa aa);have u1:BP D (aG L y) (aG L st):=by
     by_cases e:y=en - 1
     ·rw[e];exact u
     exact hO.trans _ (aG L (en - 1)) _ (hU _ aa aa) (hU _ aa aa) (hU _ aa aa) (sB y (en - 1) z1 aa aa) u
    by_cases e:x=st
    ·rw[e];exact u1
    exact hO.trans _ (aG L st) _ (hU _ aa aa) (hU _ aa aa) (hU _ aa aa) u1 (sA st x aa aa z4)
   rw[v1,v1,if_neg (c:=j<st) aa,if_neg (c:=j<mid) aa];by_cases e1:i<st
   ·rw[if_pos e1];by_cases e2:j<en
    ·rw[if_pos e2];exact sA _ _ q1 aa aa
    rw[if_neg e2];exact hij i j q1 aa aa q4 e1 aa
   rw[if_neg e1,if_pos q2];by_cases e2:j<en
   ·rw[if_pos e2];exact hji _ _ aa aa aa aa
   rw[if_neg e2];exact sB _ _ aa aa q4
  have p1:So D L1 a st:=sA.nar (ah _) l2 |>.congr fun i q1 q2=>by rw[v1,if_pos q2]
  have p2:So D L1 st mid:=fun i j q1 q2 q3=>by
   rw[v1,v1,if_neg (c:=i<st) aa,if_neg (c:=j<st) aa,if_pos (c:=i<mid) aa,if_pos (c:=j<mid) q3];exact sB _ _ aa aa aa
  have p3:So D L1 mid en:=fun i j q1 q2 q3=>by
   rw[v1,v1,if_neg (c:=i<st) aa,if_neg (c:=i<mid) aa,if_neg (c:=j<st) aa,if_neg (c:=j<mid) aa,if_pos (c:=i<en) aa,if_pos (c:=j<en) q3];exact sA _ _ aa aa aa
  have p4:So D L1 en b:=sB.nar l4 (ah _) |>.congr fun i q1 q2=>by rw[v1,if_neg aa,if_neg aa,if_neg aa]
  have w2:zN a mid L1 (if a<st/\st<mid then dQ D k L1 a st mid else L1)/\So D (if a<st/\st<mid then dQ D k L1 a st mid else L1) a mid:=by
   split
   ·exact⟨zF D k L1 _ _ _ aa aa aa,PQ hO k L1 a st mid aa aa aa aa (fun i q1 q2=>U1 i q1 aa) p1 p2⟩
   refine⟨.refl _ _ _,?_⟩;by_cases e:a<st
   ·rw[(aa:mid=st)];exact p1
   rw[(aa:a=st)];exact p2
  generalize(if a<st/\st<mid then dQ D k L1 a st mid else L1)=L2 at w2;obtain⟨g2,o2⟩:=w2;have w3:zN mid b L2 (if mid<en/\en<b then dQ D k L2 mid en b else L2)/\So D (if mid<en/\en<b then dQ D k L2 mid en b else L2) mid b:=by
   have p3':So D L2 mid en:=p3.congr fun i q1 q2=>g2.out i aa;have p4':So D L2 en b:=p4.congr fun i q1 q2=>g2.out i aa;have hl2:=g2.len;split
   ·exact⟨zF D k L2 _ _ _ aa aa aa,PQ hO k L2 mid en b aa aa aa aa (fun i q1 q2=>by rw[g2.out i aa];exact U1 i aa q2) p3' p4'⟩
   refine⟨.refl _ _ _,?_⟩;by_cases e:mid<en
   ·rw[(aa:b=en)];exact p3'
   rw[(aa:mid=en)];exact p4'
  generalize(if mid<en/\en<b then dQ D k L2 mid en b else L2)=L3 at w3;obtain⟨g3,o3⟩:=w3;intro i j q1 q2 q3;by_cases e1:j<mid
  ·rw[g3.out i aa,g3.out j aa];exact o2 i j q1 q2 e1
  by_cases e2:mid<=i
  ·exact o3 i j e2 q2 q3
  rw[g3.out i aa];obtain⟨s,z1,z2,z3⟩:=g2.inn i q1 aa;obtain⟨u,y1,y2,y3⟩:=g3.inn j aa q3;rw[z3,y3,g2.out u aa];exact cross s u z1 z2 y1 y2
end
theorem aFZ {L:List Int}{x y:Nat}(hx:x<L.length)(hy:y<L.length):(lH L x y).Perm L:=by
 unfold lH;rw[fK hx,fK hy];exact List.set_set_perm hx hy
theorem Sw.perm {L M:List Int}(h:Sw L M):M.Perm L:=by
 induction h with
 |refl=>exact .refl _
 |step x y _ hx hy ih=>exact(aFZ hx hy).trans ih
inductive Bl (D:CW) (L:List Int) (bs n:Nat):Nat->Prop where
 |fin (a:Nat):n<=a->Bl D L bs n a
 |step (a:Nat):So D L a (min (a+bs) n)->Bl D L bs n (a+bs)->Bl D L bs n a
inductive Bp (D:CW) (L:List Int) (bs:Nat):Nat->Prop where
 |zero:Bp D L bs 0
 |step (a:Nat):Bp D L bs a->So D L a (a+bs)->Bp D L bs (a+bs)
section
variable {D:CW}{U:Int->Prop}{L M:List Int}{bs n a:Nat}
theorem Bl.congr (h:Bl D L bs n a)(he:∀ i,a<=i->aG M i=aG L i):Bl D M bs n a:=by
 induction h with
 |fin a h=>exact .fin a h
 |step a h1 h2 ih=>exact .step a (h1.congr fun i q1 q2=>he i q1) (ih fun i q=>he i aa)
theorem Bp.congr (h:Bp D L bs a)(he:∀ i,i<a->aG M i=aG L i):Bp D M bs a:=by
 induction h with
 |zero=>exact .zero
 |step a h1 h2 ih=>exact .step a (ih fun i q=>he i aa) (h2.congr fun i q1 q2=>he i q2)
theorem Bp.join (h:Bp D L bs a):Bl D L bs n a->Bl D L bs n 0:=by
 induction h with
 |zero=>exact id
 |step a h1 h2 ih=>exact fun h=>ih (.step a (h2.nar (ah _) (Nat.min_le_left _ _)) h)
theorem Bl.head (h:Bl D L bs n a):So D L a (min (a+bs) n):=by
 cases h with
 |fin _ h=>exact fun i j q1 q2 q3=>by omega
 |step _ h1 h2=>exact h1
theorem Bl.tail (h:Bl D L bs n a):Bl D L bs n (a+bs):=by
 cases h with
 |fin _ h=>exact .fin _ aa
 |step _ h1 h2=>exact h2
theorem zN.low {b:Nat}(h:zN a b L M)(i:Nat)(hi:i<a):aG M i=aG L i:=h.out i (.inl hi)
theorem zN.high {b:Nat}(h:zN a b L M)(i:Nat)(hi:b<=i):aG M i=aG L i:=h.out i (.inr hi)
theorem aAV (hO:Ord D U):∀(k:Nat) (L:List Int) (a:Nat),n=L.length->NQ U L 0 n->a<=n->n+1 - a<=k->Bp D L 20 a ->
  (nA D n k L a).2<=n/\n<(nA D n k L a).2+20/\Bp D (nA D n k L a).1 20 (nA D n k L a).2/\zN 0 n L (nA D n k L a).1/\Sw L (nA D n k L a).1
 |0,L,a,hn,hU,ha,hk,hB=>by omega
 |k+1,L,a,hn,hU,ha,hk,hB=>by
  unfold nA;split
  ·rename_i hc;have h1:=RC hO a L 19 aa (fun i q1 q2=>hU i aa aa);have e:a+20 - 1 - a=19:=aa;rw[e];have g:=h1.2.wide (a:=0) (b:=n) aa aa;have ih:=aAV hO k (gH D a L 19) (a+20) (by rw[h1.2.len];exact hn) (g.JE hU) hc aa (.step a (hB.congr fun i q=>h1.2.low i q) h1.1);exact⟨ih.1,ih.2.1,ih.2.2.1,g.trans ih.2.2.2.1,(QH D a L 19 aa).trans ih.2.2.2.2⟩
  exact⟨ha,aa,hB,.refl _ _ _,.refl _⟩
theorem aAK (hO:Ord D U){f:Nat}(hf:n<=f)(hb:1<=bs):∀(k:Nat) (L:List Int) (a:Nat),n=L.length->NQ U L 0 n->a<=n->n+1 - a<=k->Bp D L (2*bs) a->Bl D L bs n a ->
  (rH D f n bs k L a).2<=n/\n<(rH D f n bs k L a).2+2*bs/\Bp D (rH D f n bs k L a).1 (2*bs) (rH D f n bs k L a).2/\Bl D (rH D f n bs k L a).1 bs n (rH D f n bs k L a).2/\zN 0 n L (rH D f n bs k L a).1/\Sw L (rH D f n bs k L a).1
 |0,L,a,hn,hU,ha,hk,hB,hC=>by omega
 |k+1,L,a,hn,hU,ha,hk,hB,hC=>by
  unfold rH;split
  ·rename_i hc;have s1:=hC.head;have s2:=hC.tail.head;have g1:=zF D f L a (a+bs) (a+2*bs) aa aa aa;have o1:=PQ hO f L a (a+bs) (a+2*bs) aa aa aa aa (fun i q1 q2=>hU i aa aa) (s1.nar (ah _) aa) (s2.nar (ah _) aa);have w1:=oX D f L a (a+bs) (a+2*bs) aa aa aa;generalize dQ D f L a (a+bs) (a+2*bs)=L1 at g1 o1 w1;have g:=g1.wide (a:=0) (b:=n) aa aa;have ht:=hC.tail.tail;rw[(aa:a+bs+bs=a+2*bs)]at ht;have ih:=aAK hO hf hb k L1 (a+2*bs) (by rw[g1.len];exact hn) (g.JE hU) hc aa (.step a (hB.congr fun i q=>g1.low i q) o1) (ht.congr fun i q=>g1.high i q);exact⟨ih.1,ih.2.1,ih.2.2.1,ih.2.2.2.1,g.trans ih.2.2.2.2.1,w1.trans ih.2.2.2.2.2⟩
  exact⟨ha,aa,hB,hC,.refl _ _ _,.refl _⟩
theorem aJP (hO:Ord D U){f:Nat}(hf:n<=f)(hb:1<=bs){L:List Int}{a:Nat}(hn:n=L.length)(hU:NQ U L 0 n)(ha:a<=n)(hn2:n<a+2*bs)(hB:Bp D L (2*bs) a)(hC:Bl D L bs n a) :
  Bl D (rL D f n bs (L,a)) (2*bs) n 0/\zN 0 n L (rL D f n bs (L,a))/\Sw L (rL D f n bs (L,a)):=by
 unfold rL;split
 ·rename_i hc;simp only at hc;have s1:=hC.head;have s2:=hC.tail.head;have g1:=zF D f L a (a+bs) n aa aa aa;have o1:=PQ hO f L a (a+bs) n aa aa aa aa (fun i q1 q2=>hU i aa aa) (s1.nar (ah _) aa) (s2.nar (ah _) aa);have w1:=oX D f L a (a+bs) n aa aa aa;generalize dQ D f L a (a+bs) n=L1 at g1 o1 w1;exact⟨(hB.congr fun i q=>g1.low i q).join (.step a (o1.nar (ah _) (Nat.min_le_right _ _)) (.fin _ aa)),g1.wide aa (ah _),w1⟩
 rename_i hc;simp only at hc;exact⟨hB.join (.step a (hC.head.nar (ah _) aa) (.fin _ aa)),.refl _ _ _,.refl _⟩
theorem aBD (hO:Ord D U){f:Nat}(hf:n<=f):∀(k:Nat) (L:List Int) (bs:Nat),1<=bs->n<=bs+k->n=L.length->NQ U L 0 n->Bl D L bs n 0->So D (C3 D f n k L bs) 0 n/\zN 0 n L (C3 D f n k L bs)/\Sw L (C3 D f n k L bs)
 |0,L,bs,hb,hk,hn,hU,hB=>⟨hB.head.nar (ah _) aa,.refl _ _ _,.refl _⟩
 |k+1,L,bs,hb,hk,hn,hU,hB=>by
  unfold C3;split
  ·have h1:=aAK hO hf hb (n+1) L 0 hn hU (Nat.zero_le _) aa .zero hB;generalize rH D f n bs (n+1) L 0=r at h1;obtain⟨L1,a⟩:=r;obtain⟨p1,p2,p3,p4,p5,p6⟩:=h1;have h2:=aJP hO hf hb (by rw[p5.len];exact hn) (p5.JE hU) p1 p2 p3 p4;obtain⟨r1,r2,r3⟩:=h2;rw[(aa:bs*2=2*bs)];have ih:=aBD hO hf k (rL D f n bs (L1,a)) (2*bs) aa aa (by rw[r2.len,p5.len];exact hn) (r2.JE (p5.JE hU)) r1;exact⟨ih.1,(p5.trans r2).trans ih.2.1,(p6.trans r3).trans ih.2.2⟩
  exact⟨hB.head.nar (ah _) aa,.refl _ _ _,.refl _⟩
theorem Q6 (hO:Ord D U){f:Nat}{L:List Int}(hf:L.length<=f)(hU:NQ U L 0 L.length):So D (kO D f L) 0 L.length/\(kO D f L).Perm L:=by
 unfold kO;have h1:=aAV hO (L.length+1) L 0 rfl hU (Nat.zero_le _) aa .zero;generalize nA D L.length (L.length+1) L 0=r at h1;obtain⟨L1,a⟩:=r;obtain⟨p1,p2,p3,p4,p5⟩:=h1;simp only at *;have h2:So D (gH D a L1 (L.length - 1 - a)) a L.length/\zN a L.length L1 (gH D a L1 (L.length - 1 - a))/\Sw L1 (gH D a L1 (L.length - 1 - a)):=by
  by_cases e:a=L.length
  ·rw[(aa:L.length - 1 - a=0)];exact⟨fun i j q1 q2 q3=>by omega,.refl _ _ _,.refl _⟩
  have:=RC hO a L1 (L.length - 1 - a) (by rw[p4.len];omega) (fun i q1 q2=>p4.JE hU i aa aa);rw[(aa:a+(L.length - 1 - a)+1=L.length)]at this;exact⟨this.1,this.2,QH D a L1 _ (by rw[p4.len];omega)⟩
 generalize gH D a L1 (L.length - 1 - a)=L2 at h2;obtain⟨o2,g2,w2⟩:=h2
 have h3:=aBD hO hf (L.length+1) L2 20 aa aa (by rw[g2.len,p4.len]) ((g2.wide (Nat.zero_le _) (ah _)).JE (p4.JE hU))
  ((p3.congr fun i q=>g2.low i q).join (.step a (o2.nar (ah _) (Nat.min_le_right _ _)) (.fin _ aa)))
 exact⟨h3.1,((p5.trans w2).trans h3.2.2).perm⟩
end
end Go.Aw
end
