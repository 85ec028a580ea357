/-
  Parts of a proof. No condition.
-/
import Derived.Test.YtjahkcbdecgbhaaGreatQAp
import Derived.Test.YtjahkcbdecgbhaaGreatQAv
set_option linter.unusedSimpArgs false
set_option linter.unusedVariables false
noncomputable section
namespace Go.Aw
set_option maxRecDepth 100000
set_option maxHeartbeats 2000000
def aJH (xl:List (Nat × XF))(k:Nat):CM:={ aA with X:=look xl,M:=k }
theorem aDN {xl:List (Nat × XF)}(h:kM xl)(k:Nat):pU Go.Proofs.Tryz.prog (aJH xl k) where
 ar:=gE.ar
 tab:=gE.tab
 mixed:=gE.mixed
 funcs:=gE.funcs
 xs:=h.look
def AM (s:Sg)(y:Int):Int:=2*(s.2.1 - s.1.1)*s.1.2+(s.2.2 - s.1.2)*(y - 2*s.1.1)
def yC (s:Sg):Int:=s.2.1 - s.1.1
theorem FC {s:Sg}(hs:aZ s.1=true∧aZ s.2=true){y:Int}(h0:0≤y)(h1:y≤30000):(-200000000≤2*(s.2.1 - s.1.1)*s.1.2∧2*(s.2.1 - s.1.1)*s.1.2≤200000000)∧(-300000000≤(s.2.2 - s.1.2)*(y - 2*s.1.1)∧(s.2.2 - s.1.2)*(y - 2*s.1.1)≤300000000):=by
 obtain⟨h2,h3⟩:=hs;simp only [aZ,Bool.and_eq_true,decide_eq_true_eq] at h2 h3;have m1:=qE (a:=2*(s.2.1 - s.1.1)) (b:=s.1.2) (A:=20000) (B:=10000) (by omega) (by omega) (by omega) (by omega);have m2:=qE (a:=s.2.2 - s.1.2) (b:=y - 2*s.1.1) (A:=10000) (B:=30000) (by omega) (by omega) (by omega) (by omega);omega
theorem JO {s t:Sg}(hs:aZ s.1=true∧aZ s.2=true)(ht:aZ t.1=true∧aZ t.2=true){y:Int}(h0:0≤y)(h1:y≤30000):(-10000000000000≤AM s y*(2*yC t)∧AM s y*(2*yC t)≤10000000000000)∧(-5000000000000≤AM s y*yC t∧AM s y*yC t≤5000000000000):=by
 have b1:=FC hs h0 h1;obtain⟨h2,h3⟩:=ht;simp only [aZ,Bool.and_eq_true,decide_eq_true_eq] at h2 h3;have e:AM s y=2*(s.2.1 - s.1.1)*s.1.2+(s.2.2 - s.1.2)*(y - 2*s.1.1):=rfl;have e2:yC t=t.2.1 - t.1.1:=rfl;have m1:=qE (a:=AM s y) (b:=2*yC t) (A:=500000000) (B:=20000) (by omega) (by omega) (by omega) (by omega);have m2:=qE (a:=AM s y) (b:=yC t) (A:=500000000) (B:=10000) (by omega) (by omega) (by omega) (by omega);omega
def hgV (s t:Sg)(x:Int):Int:=gH (AM s (2*x+1)*(2*yC t)) (AM t (2*x+1)*(2*yC s))
def okX (x:Int):Bool:=decide (0≤x)&&decide (x≤10000)
def rgS (s:Sg):Bool:=aZ s.1&&aZ s.2
def aFT:Nat × XF:=(162,gX (s3 cS cS cI fun s t x=>(rgS s&&rgS t&&okX x,iv (hgV s t x))))
theorem aLq:cO Go.Proofs.Tryz.prog aFT.1 aFT.2:=vM (nW (aDN (xl:=[O8]) (.cons RV .nil) 4) 6).1 fun args v hs=>by
 obtain⟨s,t,x,rfl,e⟩:=ZC cS cS cI hs;injection e with hp e;subst e;clear hs;refine⟨rfl,rfl,?_⟩;simp only [rgS,okX,Bool.and_eq_true,decide_eq_true_eq] at hp;obtain⟨⟨hS,hT⟩,h0,h1⟩:=hp;have b1:=FC hS (y:=2*x+1) (by omega) (by omega);have b2:=FC hT (y:=2*x+1) (by omega) (by omega);have b3:=JO hS hT (y:=2*x+1) (by omega) (by omega);have b4:=JO hT hS (y:=2*x+1) (by omega) (by omega);obtain⟨⟨ax,ay⟩,⟨bx,b_y⟩⟩:=s;obtain⟨⟨cx,cy⟩,⟨dx,dy⟩⟩:=t;obtain⟨hS1,hS2⟩:=hS;obtain⟨hT1,hT2⟩:=hT;simp only [aZ,Bool.and_eq_true,decide_eq_true_eq] at hS1 hS2 hT1 hT2;unfold hgV;unfold AM yC at *;dsimp only at *
 repeat' (((conv=>whnf);refine bm (fun g=>?_) (fun g=>?_)))
 all_goals (conv=>whnf)
 all_goals first
  |rfl
  |(exfalso;simp [aJH,aA,aC,aH] at g;omega)
theorem CL {l:List Pt}{m:List Ed}(hM:kK l m=true)(hr:l.all aZ=true){i:Nat}(hi:i<m.length):aZ (aY l m i).1=true∧aZ (aY l m i).2=true:=by
 have he:=nB hM hi;have key:∀ a:Int,0≤a→a<l.length→aZ (dS l a)=true:=fun a h0 h1=>by
  unfold dS fT;rw [List.getD_eq_getElem?_getD,List.getElem?_eq_getElem (by omega)];exact List.all_eq_true.1 hr _ (List.getElem_mem _)
 exact⟨key _ he.1 he.2.1,key _ he.2.2.1 he.2.2.2⟩
def lwS:MS:=fun l m n r=>match r with
 |[.int .i64 i,.int .i64 k,.int .i64 y]=>some (kK l m&&l.all aZ&&(decide (0≤i)&&decide (i<m.length)&&(decide (0≤k)&&decide (k<m.length))&&(decide (0≤y)&&decide (y≤30000))),.bool (decide (AM (aY l m i.toNat) y*yC (aY l m k.toNat)<AM (aY l m k.toNat) y*yC (aY l m i.toNat))))
 |_=>none
def aGj:Nat × XF:=(75,mX aQ aU lwS)
theorem aKX:cO Go.Proofs.Tryz.prog aGj.1 aGj.2:=sY aQ aU (aL (xl:=[ZX]) (.cons aFA .nil)) fun l m n r v hs=>by
 have:∃ i k y:Int,r=[iv i,iv k,iv y]∧kK l m=true∧l.all aZ=true∧(0≤i∧i<m.length)∧(0≤k∧k<m.length)∧(0≤y∧y≤30000)∧v=.bool (decide (AM (aY l m i.toNat) y*yC (aY l m k.toNat)<AM (aY l m k.toNat) y*yC (aY l m i.toNat))):=by
  unfold lwS at hs;split at hs
  ·injection hs with hs;injection hs with h1 h2;simp only [Bool.and_eq_true,decide_eq_true_eq] at h1;exact⟨_,_,_,rfl,h1.1.1,h1.1.2,h1.2.1.1,h1.2.1.2,h1.2.2,h2.symm⟩
  ·cases hs
 obtain⟨i,k,y,rfl,hM,hR,hi,hk,hy,rfl⟩:=this;clear hs;have hS:=CL hM hR (i:=i.toNat) (by omega);have hT:=CL hM hR (i:=k.toNat) (by omega);refine⟨rfl,rfl,fun c1 c2=>?_⟩;have b1:=FC hS hy.1 hy.2;have b2:=FC hT hy.1 hy.2;have b3:=JO hS hT hy.1 hy.2;have b4:=JO hT hS hy.1 hy.2;(conv=>whnf);refine⟨l,m,aI aQ rfl,aI aU rfl,?_⟩;refine aJ (show (kK l m&&(decide (0≤i)&&decide (i<m.length)))=true by rw [hM,decide_eq_true hi.1,decide_eq_true hi.2];rfl) ?_;(conv=>whnf);refine⟨l,m,aI aQ rfl,aI aU rfl,?_⟩;refine aJ (show (kK l m&&(decide (0≤k)&&decide (k<m.length)))=true by rw [hM,decide_eq_true hk.1,decide_eq_true hk.2];rfl) ?_;obtain⟨hS1,hS2⟩:=hS;obtain⟨hT1,hT2⟩:=hT;simp only [aZ,Bool.and_eq_true,decide_eq_true_eq] at hS1 hS2 hT1 hT2;have e1:∀ p q:Int,2*p*q=2*q*p:=fun p q=>(by rw [Int.mul_assoc,Int.mul_assoc,Int.mul_comm p]);have e3:=e1 ((aY l m i.toNat).2.1 - (aY l m i.toNat).1.1) (aY l m i.toNat).1.2;have e4:=e1 ((aY l m k.toNat).2.1 - (aY l m k.toNat).1.1) (aY l m k.toNat).1.2;unfold AM yC at *;rw [e3] at b1 b3;rw [e4] at b2 b4
 repeat' (((conv=>whnf);refine bm (fun g=>?_) (fun g=>?_)))
 all_goals (conv=>whnf)
 all_goals first
  |(show Value.bool _=Value.bool _;rw [e3,e4];rfl)
  |(exfalso;simp [aA,aC,aH] at g;omega)
end Go.Aw
end

noncomputable section
namespace Go.Aw
open Go.RowKit
section
variable {α:Type}(E:El α)
theorem Y6 {ι ι':Nat→Loc}{B:Nat}{w:World}{sz:Nat}{cs:List Value}{loc:Loc}(hg:dF cs=true)(h:kI ι B w (.cells true false sz cs) loc):kI ι' B w (.cells true false sz cs) loc:=by
 cases loc with
 |nil p=>exact h
 |lay b o e =>
  obtain⟨x1,x2,arr,t,x3,x4,x5⟩:=h;refine⟨x1,x2,arr,t,x3,x4,fun i v hv=>?_⟩;rw [x5 i v hv,lT (a9 hg (List.mem_of_getElem? hv)),lT (a9 hg (List.mem_of_getElem? hv))]
end
def D9 (k:Nat)(ι:Nat→Loc):Nat→Loc:=fun j=>if j=0 then ι k else ι (j - 1)
theorem ED (k:Nat)(ι:Nat→Loc):D9 k ι 0=ι k:=if_pos rfl
theorem rT (k:Nat)(ι:Nat→Loc)(j:Nat):D9 k ι (1+j)=ι j:=by
 unfold D9;rw [if_neg (by omega),Nat.add_sub_cancel_left]
def RI (F:Heap)(nx:Nat):Prop:=1≤nx∧∀ j o,look F j=some o→0<j∧j<nx∧bX id nx o o
theorem bQ {b n0 nx:Nat}{I:KS}{e0 e:List (Nat × Value)}{F:Heap}{o0 o:aV}(hF:RI F n0)(hI:I e0 ((0,o0)::F) n0)(he:∀ p∈e0,look e p.1=some (gP id p.2)∧xD n0 p.2)(ho:bX id n0 o0 o)(hb:b≤n0) :
  qU b I e ((0,o)::F) nx:=by
 refine⟨e0,(0,o0)::F,n0,id,hI,fun t v hv=>he (t,v) (a8 hv),fun k q hk=>?_,fun k k' q q' _ _ e=>e,fun k _=>rfl,hb⟩;rw [aD] at hk;split at hk
 ·rename_i hb1;injection hk with hk;subst hk;have:=beq_true hb1;subst this;exact⟨hF.1,o,rfl,ho⟩
 ·obtain⟨h1,h2,h3⟩:=hF.2 k q hk;refine⟨h2,q,?_,h3⟩;show look ((0,o)::F) k=some q;rw [aD];rename_i hb1;rw [hb1];exact hk
theorem j3 {n:Nat}:∀ (h:Heap) {j:Nat} {o:aV},look h j=some o→look (mU n h) (n+j)=some (TR n o)
 |[],j,o,hl=>(by cases hl)
 |(i,q)::r,j,o,hl=>by
  rw [aD] at hl;simp only [mU];rw [aD];split at hl
  ·rename_i hb;injection hl with hl;subst hl;have:=beq_true hb;subst this;rw [Nat.beq_refl]
  ·rename_i hb;have hne:Nat.beq (n+i) (n+j)=false:=by
    cases hb':Nat.beq (n+i) (n+j) with
    |false=>rfl
    |true =>
     have:=beq_true hb';have:i=j:=(by omega);subst this;rw [Nat.beq_refl] at hb;cases hb
   rw [hne];exact j3 r hl
theorem K5 {ι:Nat→Loc}{σ:Nat→Nat}{n:Nat}{v:Value}(h:oB ι n v):oB (j8 σ) n v:=by
 cases v with
 |pointer a=>cases a with
  |none=>trivial
  |some a=>exact⟨h.1,rfl⟩
 |slice a l c=>cases a with
  |none=>trivial
  |some a=>exact⟨h.1,fun hf=>by cases hf⟩
 |map a=>cases a with
  |none=>trivial
  |some a=>exact⟨h.1,rfl⟩
 |agg c=>exact h.elim
 |tuple c=>exact h.elim
 |_=>trivial
theorem aAB {ι:Nat→Loc}{σ:Nat→Nat}{n:Nat}{v:Value}(h:gY ι n v):gY (j8 σ) n v:=by
 cases v with
 |func f a c =>
  refine⟨?_,fun x hx=>K5 (h.2 x hx)⟩;have h1:=h.1;cases f with
  |yield l=>exact⟨h1.1,rfl⟩
  |_=>trivial
 |pointer a=>have:=K5 (ι:=ι) (σ:=σ) (n:=n) (v:=.pointer a);cases a <;> exact this h
 |slice a l c=>have:=K5 (ι:=ι) (σ:=σ) (n:=n) (v:=.slice a l c);cases a <;> exact this h
 |map a=>have:=K5 (ι:=ι) (σ:=σ) (n:=n) (v:=.map a);cases a <;> exact this h
 |agg c=>exact h.elim
 |tuple c=>exact h.elim
 |_=>trivial
section
variable {ι ι0:Nat→Loc}{B n:Nat}{w:World}
theorem aEW {v:Value}(hs:gY ι n v)(hι:∀ j,j<n→ι0 (1+j)=ι j):gY ι0 (1+n) (bS (fun k=>1+k) v) :=
 jT (m:=n) (iL (ι:=ι) (ι':=fun k=>ι0 (1+k)) (Nat.le_refl _) hι hs) (fun k hk=>by omega)
theorem aEY {v:Value}(hs:gY ι n v)(hι:∀ j,j<n→ι0 (1+j)=ι j):bT ι0 (bS (fun k=>1+k) v)=bT ι v:=by
 unfold bS;rw [iU (n:=1+n) (aEW hs hι)];exact l7 (ι:=ι) (ι':=fun k=>ι0 (1+k)) hι hs
theorem aEN {v:Value}(hs:gY ι n v):CR (1+n) (bS (fun k=>1+k) v) :=
 jT (m:=n) (aAB hs) (fun k hk=>by omega)
theorem aJw {v:Value}(hs:gY ι n v):bS id (bS (fun k=>1+k) v)=bS (fun k=>1+k) v:=by
 unfold bS;rw [iU (n:=1+n) (aEN hs)];rfl
theorem aDM {wr g:Bool}{sz:Nat}{cs:List Value}{l:Loc}(h:kI ι B w (.cells wr g sz cs) l)(hs:∀ v∈cs,gY ι n v)(hι:∀ j,j<n→ι0 (1+j)=ι j):kI ι0 B w (TR 1 (.cells wr g sz cs)) l:=by
 have hg:∀ {q:Prop},(g=true→dF cs=true)→g=true→dF (cs.map (bS fun k=>1+k))=true:=fun hq e=>tW fun v hv=>by
  obtain⟨u,hu,rfl⟩:=List.mem_map.1 hv;exact aEX (a9 (hq e) hu)
 have key:∀ {Φ:Nat→Value→Prop},(∀ (i:Nat) v,cs[i]? = some v→Φ i (bT ι v))→∀ (i:Nat) v,(cs.map (bS fun k=>1+k))[i]? = some v→Φ i (bT ι0 v):=fun hΦ i v hv=>by
  rw [List.getElem?_map] at hv;obtain⟨u,hu,rfl⟩:=Option.map_eq_some_iff.1 hv;rw [aEY (hs u (List.mem_of_getElem? hu)) hι];exact hΦ i u hu
 cases l with
 |nil p =>
  have h1:cs=[]∧(sz=0∨wr=true→p.isSome=true):=(by cases wr <;> exact h);obtain⟨rfl,hz⟩:=h1;cases wr <;> exact⟨rfl,hz⟩
 |lay b o e =>
  cases wr with
  |true =>
   obtain⟨x1,x2,arr,t,x3,x4,x5⟩:=h;exact⟨x1,hg (q:=True) x2,arr,t,x3,by rw [List.length_map];exact x4,key (Φ:=fun i v=>arr[o+i]? = some v) x5⟩
  |false =>
   obtain⟨x1,x2,x3⟩:=h;exact⟨x1,hg (q:=True) x2,key (Φ:=fun i v=>w.cell? ⟨b,o+i,none⟩=some v) x3⟩
theorem WN {wr g:Bool}{sz:Nat}{cs:List Value}{l:Loc}(h:kI ι0 B w (TR 1 (.cells wr g sz cs)) l)(hs:∀ v∈cs,gY ι n v)(hι:∀ j,j<n→ι0 (1+j)=ι j)(hg0:g=true→dF cs=true):kI ι B w (.cells wr g sz cs) l:=by
 have key:∀ {Φ:Nat→Value→Prop},(∀ (i:Nat) v,(cs.map (bS fun k=>1+k))[i]? = some v→Φ i (bT ι0 v))→∀ (i:Nat) v,cs[i]? = some v→Φ i (bT ι v):=fun hΦ i v hv=>by
  rw [← aEY (hs v (List.mem_of_getElem? hv)) hι];exact hΦ i _ (by rw [List.getElem?_map,hv];rfl)
 cases l with
 |nil p =>
  have h1:cs.map (bS fun k=>1+k)=[]∧(sz=0∨wr=true→p.isSome=true):=(by cases wr <;> exact h);have h2:cs=[]:=(by simpa using h1.1);cases wr <;> exact⟨h2,h1.2⟩
 |lay b o e =>
  cases wr with
  |true =>
   obtain⟨x1,x2,arr,t,x3,x4,x5⟩:=h;rw [List.length_map] at x4;exact⟨x1,hg0,arr,t,x3,x4,key (Φ:=fun i v=>arr[o+i]? = some v) x5⟩
  |false =>
   obtain⟨x1,x2,x3⟩:=h;exact⟨x1,hg0,key (Φ:=fun i v=>w.cell? ⟨b,o+i,none⟩=some v) x3⟩
end
theorem WU (n:Nat)(o:aV):(TR n o).alone=o.alone:=by cases o <;> rfl
section
variable {α:Type}(E:El α)
end
end Go.Aw
end

noncomputable section
namespace Go.Aw
set_option maxRecDepth 100000
set_option maxHeartbeats 2000000
inductive CW where
 |dirs (D:List Dt)
 |cols (l:List Pt) (m:List Ed) (x:Int)
instance:Coe (List Dt) CW:=⟨.dirs⟩
def CW.num:CW→Nat
 |.dirs D=>D.length
 |.cols _ m _=>m.length
def fH:CW→Bool
 |.dirs D=>aBQ D
 |.cols l m x=>kK l m&&l.all aZ&&okX x
def cmC:CW→Int→Int→Int
 |.dirs D,a,b=>W8 D a b
 |.cols l m x,a,b=>hgV (aY l m a.toNat) (aY l m b.toNat) x
def X4 (C:CW)(x y:Int):Bool:=decide (0≤x)&&decide (x<C.num)&&(decide (0≤y)&&decide (y<C.num))&&fH C
def fcC:CW→Nat
 |.dirs _=>209
 |.cols _ _ _=>161
def R0:CW→Nat × Nat→List Value
 |.dirs _,p=>[.pointer (some ⟨p.1,0,none⟩)]
 |.cols _ _ _,p=>[.pointer (some ⟨p.1,0,none⟩),.pointer (some ⟨p.2,0,none⟩)]
def kA (C:CW)(p:Nat × Nat):Value:=.func (.func (fcC C)) #[] ⟨R0 C p⟩
def T0 (h:Heap)(p q:Nat)(l:List Pt)(m:List Ed)(x:Int):Prop:=∃ b k0 k1 wr g sz r0 wr1 g1 sz1 r1 wr2 g2 sz2 cs2 wr3 g3 sz3 cs3 wr4 g4 sz4 r4 c0 c1 F,
 look h p=some (.cells wr g sz (.pointer (some ⟨b,0,none⟩)::r0)) ∧
 look h b=some (.cells wr1 g1 sz1 (.slice (some ⟨k0,0,none⟩) l.length c0::.slice (some ⟨k1,0,none⟩) m.length c1::iv F::r1)) ∧
 (look h k0=some (.cells wr2 g2 sz2 cs2)∧cs2.take (flat aQ.fl l).length=flat aQ.fl l) ∧
 (look h k1=some (.cells wr3 g3 sz3 cs3)∧cs3.take (flat aU.fl m).length=flat aU.fl m) ∧
 look h q=some (.cells wr4 g4 sz4 (iv x::r4))
def aCR (l:List Pt)(m:List Ed)(x:Int)(c0 c1:Nat)(F:Int):Heap:=[(0,.cells false false 1 [.pointer (some ⟨1,0,none⟩)]),(1,.cells false false 1 [.slice (some ⟨3,0,none⟩) l.length c0,.slice (some ⟨4,0,none⟩) m.length c1,iv F]),(2,.cells false true 1 [iv x]),
 (3,.cells false true aQ.sz (flat aQ.fl l)),(4,.cells false true aU.sz (flat aU.fl m))]
def aJI (p b q k0 k1:Nat):Nat→Nat
 |0=>p
 |1=>b
 |2=>q
 |3=>k0
 |_=>k1
theorem aAo {h:Heap}{p q nx:Nat}{l:List Pt}{m:List Ed}{x:Int}(hd:T0 h p q l m x){r:List Value}(hr:eH r=true):∃ c0 c1 F,In (r++[.pointer (some ⟨0,0,none⟩),.pointer (some ⟨2,0,none⟩)]) (aCR l m x c0 c1 F) 5 (r++[.pointer (some ⟨p,0,none⟩),.pointer (some ⟨q,0,none⟩)]) h nx:=by
 obtain⟨b0,k0,k1,wr,g,sz,r0,wr1,g1,sz1,r1,wr2,g2,sz2,cs2,wr3,g3,sz3,cs3,wr4,g4,sz4,r4,c0,c1,F,h1,h2,⟨h3,h3t⟩,⟨h4,h4t⟩,h5⟩:=hd;refine⟨c0,c1,F,tK (aJI p b0 q k0 k1) ?_ ?_ ?_⟩
 ·rw [List.map_append,show r.map (gP (aJI p b0 q k0 k1))=r from by
   conv=>rhs;rw [← List.map_id r]
   exact List.map_congr_left fun v hv=>m0 (bU hr hv)]
  rfl
 ·intro v hv;rcases List.mem_append.1 hv with hv|hv
  ·exact dE (bU hr hv)
  ·simp only [List.mem_cons,List.not_mem_nil,or_false] at hv;rcases hv with rfl|rfl <;> exact⟨by decide,rfl⟩
 ·intro k o hk;unfold aCR at hk;rw [aD] at hk;split at hk
  ·rename_i hb;injection hk with hk;subst hk;rw [← beq_true hb]
   refine⟨by decide,false,1,_,rfl,by decide,(fun h=>by cases h),List.forall_mem_cons.2 ⟨⟨by decide,rfl⟩,fun _ h=>by cases h⟩,wr,g,sz,_,h1,rfl⟩
  rw [aD] at hk;split at hk
  ·rename_i hb;injection hk with hk;subst hk;rw [← beq_true hb]
   refine⟨by decide,false,1,_,rfl,by decide,(fun h=>by cases h),?_,wr1,g1,sz1,_,h2,rfl⟩;refine List.forall_mem_cons.2 ⟨⟨by decide,fun h=>by cases h⟩,List.forall_mem_cons.2 ⟨⟨by decide,fun h=>by cases h⟩,List.forall_mem_cons.2 ⟨cG rfl,fun _ h=>by cases h⟩⟩⟩
  rw [aD] at hk;split at hk
  ·rename_i hb;injection hk with hk;subst hk;rw [← beq_true hb]
   exact⟨by decide,true,1,_,rfl,by decide,fun _=>rfl,List.forall_mem_cons.2 ⟨cG rfl,fun _ h=>by cases h⟩,wr4,g4,sz4,_,h5,rfl⟩
  rw [aD] at hk;split at hk
  ·rename_i hb;injection hk with hk;subst hk;rw [← beq_true hb]
   exact⟨by decide,true,_,_,rfl,aQ.pos,fun _=>aF aQ l,fun v hv=>cG (a9 (aF aQ l) hv),wr2,g2,sz2,cs2,h3,by rw [h3t];exact (bL (aF aQ l)).symm⟩
  rw [aD] at hk;split at hk
  ·rename_i hb;injection hk with hk;subst hk;rw [← beq_true hb]
   exact⟨by decide,true,_,_,rfl,aU.pos,fun _=>aF aU m,fun v hv=>cG (a9 (aF aU m) hv),wr3,g3,sz3,cs3,h4,by rw [h4t];exact (bL (aF aU m)).symm⟩
  ·exact bP hk
def UL:Nat × XF:=(161,fun args h nx K=>∃ a b p q l m x,args=[iv a,iv b,.pointer (some ⟨p,0,none⟩),.pointer (some ⟨q,0,none⟩)]∧T0 h p q l m x∧dK (X4 (.cols l m x) a b) (K (iv (cmC (.cols l m x) a b)) h nx))
theorem aJ4:cO Go.Proofs.Tryz.prog UL.1 UL.2:=by
 refine (gC (S:=fun args0 h0 n0 v1 h1 j=>∃ a b l m x c0 c1 F,X4 (.cols l m x) a b=true∧args0=[iv a,iv b,.pointer (some ⟨0,0,none⟩),.pointer (some ⟨2,0,none⟩)]∧h0=aCR l m x c0 c1 F∧n0=5∧v1=iv (cmC (.cols l m x) a b)∧h1=[]∧j=0) (aL (xl:=[ZP,aFT]) (.cons aIA (.cons aLq .nil))) ?_).mono ?_ ?_
 ·rintro args0 h0 n0 v1 h1 j ⟨a,b,l,m,x,c0,c1,F,hok,rfl,rfl,rfl,rfl,rfl,rfl⟩;refine⟨rfl,fun u _ _=>u=iv (cmC (.cols l m x) a b),?_,fun v h nx e=>by rw [e];exact kH rfl⟩;have hok:(decide (0≤a)&&decide (a<(m.length:Int))&&(decide (0≤b)&&decide (b<(m.length:Int)))&&(kK l m&&l.all aZ&&okX x))=true:=hok;simp only [Bool.and_eq_true,decide_eq_true_eq] at hok;obtain⟨⟨⟨h0,h1⟩,h2,h3⟩,⟨hM,hR⟩,hx⟩:=hok;have hS:=CL hM hR (i:=a.toNat) (by omega);have hT:=CL hM hR (i:=b.toNat) (by omega);(conv=>whnf);refine⟨l,m,aI aQ rfl,aI aU rfl,?_⟩;refine aJ (show (kK l m&&(decide (0≤a)&&decide (a<m.length)))=true by rw [hM,decide_eq_true h0,decide_eq_true h1];rfl) ?_;(conv=>whnf);refine⟨l,m,aI aQ rfl,aI aU rfl,?_⟩;refine aJ (show (kK l m&&(decide (0≤b)&&decide (b<m.length)))=true by rw [hM,decide_eq_true h2,decide_eq_true h3];rfl) ?_;(conv=>whnf);refine aJ (show (rgS (aY l m a.toNat)&&rgS (aY l m b.toNat)&&okX x)=true by unfold rgS;rw [hS.1,hS.2,hT.1,hT.2,hx];rfl) ?_;(conv=>whnf);rfl
 ·rintro args h nx K ⟨a,b,p,q,l,m,x,rfl,hd,hx⟩;obtain⟨hb,hx⟩:=aG.1 hx;obtain⟨c0,c1,F,i⟩:=aAo (nx:=nx) hd (r:=[iv a,iv b]) rfl;exact⟨_,_,5,_,[],0,⟨a,b,l,m,x,c0,c1,F,hb,rfl,rfl,rfl,rfl,rfl,rfl⟩,i,hx⟩
 ·rintro args h nx K ⟨a,b,p,q,l,m,x,rfl,hd,hx⟩;obtain⟨hb,hx⟩:=aG.1 hx;exact⟨_,_,_,hx,fun K' hk'=>⟨a,b,p,q,l,m,x,rfl,hd,aJ hb hk'⟩⟩
def LU (h:Heap)(p:Nat × Nat):CW→Prop
 |.dirs D=>ZM h p.1 D
 |.cols l m x=>T0 h p.1 p.2 l m x
def CQ (xl:List (Nat × XF)):VC:=fun f args h nx K=>(∃ (C:CW) (x y:Int) (p:Nat × Nat),f=fcC C∧args=iv x::iv y::R0 C p∧LU h p C∧dK (X4 C x y) (K (iv (cmC C x y)) h nx))∨CX (look xl) f args h nx K
theorem xC (C:CW)(x y:Int)(p:Nat × Nat)(h:Heap)(nx:Nat)(K:KE)(hC:LU h p C)(hk:dK (X4 C x y) (K (iv (cmC C x y)) h nx)):CX (look [aBs,UL]) (fcC C) (iv x::iv y::R0 C p) h nx K:=by
 cases C with
 |dirs D =>
  refine⟨x,y,p.1,D,rfl,hC,?_⟩;have e:X4 (.dirs D) x y=S1 D x y:=rfl;rw [← e];exact hk
 |cols l m z=>exact⟨x,y,p.1,p.2,l,m,z,rfl,hC,hk⟩
theorem aIm {xl:List (Nat × XF)}(h:kM xl):bG Go.Proofs.Tryz.prog (CQ xl):=by
 intro f args hp nx K hx ι B w H hs;rcases hx with ⟨C,x,y,p,rfl,rfl,hC,hk⟩|hx
 ·exact S6 (kM.cons (l:=[UL]) aIM (.cons aJ4 .nil)).look _ _ _ _ _ (xC C x y p hp nx K hC hk) ι B w H hs
 ·exact S6 h.look f args hp nx K hx ι B w H hs
theorem aFZ {xl:List (Nat × XF)}(h:kM xl):dW (CQ xl):=by
 intro f args hp nx K hx;rcases hx with ⟨C,x,y,p,rfl,rfl,hC,hk⟩|hx
 ·obtain⟨hb,hk⟩:=aG.1 hk;exact⟨_,_,_,hk,fun K' hk'=>.inl ⟨C,x,y,p,rfl,rfl,hC,aJ hb hk'⟩⟩
 ·obtain⟨v,h',nx',k1,k2⟩:=KL h.look f args hp nx K hx;exact⟨v,h',nx',k1,fun K' hk'=>.inr (k2 K' hk')⟩
def aIg (xl:List (Nat × XF)):VC:=sN aA none (CQ xl) noY
theorem A6 {xl:List (Nat × XF)}(h:kM xl):bG Go.Proofs.Tryz.prog (aIg xl):=x6 gE (aIm h) QA (aFZ h) DK none
end Go.Aw
end

noncomputable section
namespace Go.Aw
def sh1 (p:Nat × Nat):Nat × Nat:=(1+p.1,1+p.2)
def CLt:CW→Nat × Nat→Nat→Prop
 |.dirs _,p,n=>p.1<n
 |.cols _ _ _,p,n=>p.1<n∧p.2<n
theorem aDS {ι:Nat→Loc}{k:Nat}{C:CW}{p:Nat × Nat}:tr ι (kA C p)=tr (D9 k ι) (kA C (sh1 p)):=by
 cases C <;> simp [kA,R0,sh1,tr,dT,bT,lZ,dU,rT]
theorem aDA {ι:Nat→Loc}{k n:Nat}{C:CW}{p:Nat × Nat}(h:eT ι n (kA C p)):eT (D9 k ι) (1+n) (kA C (sh1 p)):=by
 have key:∀ {q:Nat},oB ι n (.pointer (some ⟨q,0,none⟩))→oB (D9 k ι) (1+n) (.pointer (some ⟨1+q,0,none⟩)):=fun {q} h1 =>
  ⟨by have:=h1.1;show 1+q<1+n;simp only at this;omega,by show (D9 k ι (1+q)).gQ=true;rw [rT];exact h1.2⟩
 cases C with
 |dirs D=>exact⟨trivial,List.forall_mem_cons.2 ⟨key (h.2 _ (.head _)),fun _ h=>by cases h⟩⟩
 |cols l m x=>exact⟨trivial,List.forall_mem_cons.2 ⟨key (h.2 _ (.head _)),List.forall_mem_cons.2 ⟨key (h.2 _ (.tail _ (.head _))),fun _ h=>by cases h⟩⟩⟩
theorem aDv {F F':Heap}{C:CW}{p:Nat × Nat}{g:Nat→Nat}(hF:∀ j wr gg sz cs,look F j=some (.cells wr gg sz cs)→∃ wr',look F' (g j)=some (.cells wr' gg sz (cs.map (bS g))))(h:LU F p C):LU F' (g p.1,g p.2) C:=by
 cases C with
 |dirs D =>
  obtain⟨b,c,k0,k1,wr,gg,sz,r0,wr1,g1,sz1,r1,wr2,g2,sz2,cs,n0,c0,n1,c1,f,cc,h1,h2,h3,h4⟩:=h;obtain⟨w1,e1⟩:=hF _ _ _ _ _ h1;obtain⟨w2,e2⟩:=hF _ _ _ _ _ h2;obtain⟨w3,e3⟩:=hF _ _ _ _ _ h3;refine⟨g b,g c,g k0,g k1,w1,gg,sz,_,w2,g1,sz1,_,w3,g2,sz2,cs.map (bS g),n0,c0,n1,c1,f,cc,e1,e2,e3,?_⟩;rw [← List.map_take,h4];exact bL (aF rK D)
 |cols l m x =>
  obtain⟨b,k0,k1,wr,gg,sz,r0,wr1,g1,sz1,r1,wr2,g2,sz2,cs2,wr3,g3,sz3,cs3,wr4,g4,sz4,r4,c0,c1,f,h1,h2,⟨h3,h3t⟩,⟨h4,h4t⟩,h5⟩:=h;obtain⟨w1,e1⟩:=hF _ _ _ _ _ h1;obtain⟨w2,e2⟩:=hF _ _ _ _ _ h2;obtain⟨w3,e3⟩:=hF _ _ _ _ _ h3;obtain⟨w4,e4⟩:=hF _ _ _ _ _ h4;obtain⟨w5,e5⟩:=hF _ _ _ _ _ h5;refine⟨g b,g k0,g k1,w1,gg,sz,_,w2,g1,sz1,_,w3,g2,sz2,_,w4,g3,sz3,_,w5,g4,sz4,_,c0,c1,f,e1,e2,⟨e3,?_⟩,⟨e4,?_⟩,e5⟩
  ·rw [← List.map_take,h3t];exact bL (aF aQ l)
  ·rw [← List.map_take,h4t];exact bL (aF aU m)
theorem F5 {F F':Heap}{C:CW}{p:Nat × Nat}(hF:∀ j wr gg sz cs,look F j=some (.cells wr gg sz cs)→∃ wr',look F' j=some (.cells wr' gg sz cs))(h:LU F p C):LU F' p C:=by
 cases C with
 |dirs D =>
  obtain⟨b,c,k0,k1,wr,gg,sz,r0,wr1,g1,sz1,r1,wr2,g2,sz2,cs,n0,c0,n1,c1,f,cc,h1,h2,h3,h4⟩:=h;obtain⟨w1,e1⟩:=hF _ _ _ _ _ h1;obtain⟨w2,e2⟩:=hF _ _ _ _ _ h2;obtain⟨w3,e3⟩:=hF _ _ _ _ _ h3;exact⟨b,c,k0,k1,w1,gg,sz,_,w2,g1,sz1,_,w3,g2,sz2,cs,n0,c0,n1,c1,f,cc,e1,e2,e3,h4⟩
 |cols l m x =>
  obtain⟨b,k0,k1,wr,gg,sz,r0,wr1,g1,sz1,r1,wr2,g2,sz2,cs2,wr3,g3,sz3,cs3,wr4,g4,sz4,r4,c0,c1,f,h1,h2,⟨h3,h3t⟩,⟨h4,h4t⟩,h5⟩:=h;obtain⟨w1,e1⟩:=hF _ _ _ _ _ h1;obtain⟨w2,e2⟩:=hF _ _ _ _ _ h2;obtain⟨w3,e3⟩:=hF _ _ _ _ _ h3;obtain⟨w4,e4⟩:=hF _ _ _ _ _ h4;obtain⟨w5,e5⟩:=hF _ _ _ _ _ h5;exact⟨b,k0,k1,w1,gg,sz,_,w2,g1,sz1,_,w3,g2,sz2,_,w4,g3,sz3,_,w5,g4,sz4,_,c0,c1,f,e1,e2,⟨e3,h3t⟩,⟨e4,h4t⟩,e5⟩
theorem aGC {F:Heap}{p:Nat × Nat}{C:CW}(h:LU F p C):LU (mU 1 F) (sh1 p) C:=aDv (g:=fun k=>1+k) (fun j wr gg sz cs hj=>⟨wr,j3 F hj⟩) h
theorem aBL {F:Heap}{p:Nat × Nat}{C:CW}(h:LU F p C):LU (eD F) p C:=F5 (fun j wr gg sz cs hj=>⟨false,by rw [jV,hj];rfl⟩) h
theorem Y4 {F:Heap}{p:Nat × Nat}{nx:Nat}{C:CW}{o:aV}(hF:RI F nx)(h:LU F p C):LU ((0,o)::F) p C:=F5 (fun j wr gg sz cs hj=>⟨wr,by
 have:=(hF.2 j _ hj).1;rw [aD,show Nat.beq 0 j=false by cases hb:Nat.beq 0 j with|false=>rfl|true=>have:=beq_true hb;omega];exact hj⟩) h
theorem LF {F:Heap}{p:Nat × Nat}{nx:Nat}{C:CW}(hF:RI F nx)(h:LU F p C):CLt C p nx:=by
 cases C with
 |dirs D =>
  obtain⟨b,c,k0,k1,wr,g,sz,r0,wr1,g1,sz1,r1,wr2,g2,sz2,cs,n0,c0,n1,c1,f,cc,h1,_⟩:=h;exact (hF.2 _ _ h1).2.1
 |cols l m x =>
  obtain⟨b,k0,k1,wr,gg,sz,r0,wr1,g1,sz1,r1,wr2,g2,sz2,cs2,wr3,g3,sz3,cs3,wr4,g4,sz4,r4,c0,c1,f,h1,_,_,_,h5⟩:=h;exact⟨(hF.2 _ _ h1).2.1,(hF.2 _ _ h5).2.1⟩
theorem PA {F:Heap}{p:Nat × Nat}{nx:Nat}{C:CW}{o:aV}(hF:RI F nx)(h:LU F p C):LU (eD ((0,o)::F)) p C:=aBL (Y4 hF h)
def Q8 (h:Heap):Prop:=∀ j o,look h j=some o→∃ wr g sz cs,o=.cells wr g sz cs
theorem aS {F:Heap}{k:Nat}{wr g:Bool}{sz:Nat}{cs:List Value}(h:Q8 F):Q8 ((k,.cells wr g sz cs)::F):=by
 intro j o hj;rw [aD] at hj;split at hj
 ·injection hj with hj;exact⟨_,_,_,_,hj.symm⟩
 ·exact h j o hj
theorem aCL {h:Heap}(hc:gM h=true):Q8 h:=fun j o hj=>oQ hc hj
theorem aAg {C:CW}{p:Nat × Nat}:gP id (kA C p)=kA C p:=by cases C <;> simp [kA,R0,gP,tr,dT,bT,lZ,dU,j8]
theorem bM {F:Heap}{p:Nat × Nat}{nx:Nat}{C:CW}{o:aV}(hF:RI F nx)(h:LU F p C):LU (rem ((0,o)::F) 0) p C:=F5 (fun j wr gg sz cs hj=>⟨wr,by
 have:=(hF.2 j _ hj).1;rw [dL,if_neg (by omega),aD,show Nat.beq 0 j=false by cases hb:Nat.beq 0 j with|false=>rfl|true=>have:=beq_true hb;omega];exact hj⟩) h
def PQ (s:CW→List Int→List Value→Nat→Option (Bool × List Int)):XF:=fun args h nx K=>∃ k c r p l D,args=.slice (some ⟨k,0,none⟩) l.length c::(r++[kA D p])∧look h k=some (.cells true false 1 (flat aO.fl l))∧Q8 h∧LU (rem h k) p D ∧
 (match s D l r c with|some pr=>dK pr.1 (K (.tuple #[]) (vX h k (.cells true false 1 (flat aO.fl pr.2))) nx)|none=>False)
section
theorem sI {P:Program}{C:VC}{f:Nat}{s:CW→List Int→List Value→Nat→Option (Bool × List Int)}(hC:bG P C)
  (hs:∀ D l r c l',s D l r c=some (true,l')→eH r=true ∧
   ∀ F nx p,RI F nx→Q8 F→LU F p D→C f (.slice (some ⟨0,0,none⟩) l.length c::(r++[kA D p])) ((0,.cells true false 1 (flat aO.fl l))::F) nx (fun v h _=>v=.tuple #[]∧h=(0,.cells true false 1 (flat aO.fl l'))::F)):cO P f (PQ s):=by
 refine⟨fun args h nx K hx ι B w H hsc=>?_,fun args h nx K hx=>?_⟩
 ·obtain⟨k,c,r,p,l,D,rfl,hk,hcH,hdir,hx⟩:=hx;split at hx
  case h_2=>exact hx.elim
  rename_i pr e1;obtain⟨b,l'⟩:=pr;obtain⟨rfl,hx⟩:=aG.1 hx;obtain⟨a1,a4⟩:=hs D l r c l' e1;have a2:dF (flat aO.fl l')=true:=aF aO l';have hcp:=hsc (kA D p) (.tail _ (List.mem_append_right _ (.head _)));have hsl:k<nx∧((ι k).gQ=false→l.length=0∧c=0):=hsc _ (.head _);have hcells:∀ j o,look h j=some o→∃ wr g sz cs,o=.cells wr g sz cs:=hcH;have hι0:∀ j,j<nx→D9 k ι (1+j)=ι j:=fun j _=>rT k ι j;have hF:∀ j q,look (mU 1 (rem h k)) j=some q→∃ i o,j=1+i∧i≠k∧look h i=some o∧q=TR 1 o:=by
   intro j q hq;obtain⟨i,o,e2,e3,e4⟩:=lK _ hq;rw [dL] at e3;split at e3
   ·cases e3
   ·rename_i hne;exact⟨i,o,e2,hne,e3,e4⟩
  have hFr:RI (mU 1 (rem h k)) (1+nx):=by
   refine⟨by omega,fun j q hq=>?_⟩;obtain⟨i,o,rfl,hne,hi,rfl⟩:=hF j q hq;have hlow:=H.low i o hi;obtain⟨wr,g,sz,cs,rfl⟩:=hcells i o hi;refine⟨by omega,by omega,rfl,rfl,rfl,?_,fun v hv=>?_⟩
   ·rw [List.map_map];exact List.map_congr_left fun v hv=>(aJw (H.sc i _ hi v hv)).symm
   ·obtain⟨u,hu,rfl⟩:=List.mem_map.1 hv;exact aEN (H.sc i _ hi u hu)
  have hAll:Q8 (mU 1 (rem h k)):=fun j q hq=>by
   obtain⟨i,o,_,_,hi,rfl⟩:=hF j q hq;obtain⟨wr,g,sz,cs,rfl⟩:=hcells i o hi;exact⟨_,_,_,_,rfl⟩
  have H0:aR (D9 k ι) B ((0,.cells true false 1 (flat aO.fl l))::mU 1 (rem h k)) (1+nx) w:=by
   refine⟨fun j q hq=>?_,fun j j' q q' hq hq' hne ha b hb=>?_,fun j q hq=>?_,H.size,fun j q hq=>?_⟩
   ·rw [aD] at hq;split at hq
    ·rename_i hb;injection hq with hq;subst hq;have:=beq_true hb;subst this;rw [ED];exact Y6 (aF aO l) (H.obj k _ hk)
    ·obtain⟨i,o,rfl,hne,hi,rfl⟩:=hF j q hq;obtain⟨wr,g,sz,cs,rfl⟩:=hcells i o hi;rw [rT];exact aDM (H.obj i _ hi) (H.sc i _ hi) hι0
   ·rw [aD] at hq hq';split at hq
    ·rename_i hb1;have:=beq_true hb1;subst this;split at hq'
     ·rename_i hb2;exact absurd (beq_true hb2) hne
     ·obtain⟨i,o,rfl,hni,hi,rfl⟩:=hF j' q' hq';rw [ED] at hb;rw [rT];exact H.sep k i _ _ hk hi (fun e=>hni e.symm) rfl b hb
    ·obtain⟨i,o,rfl,hni,hi,rfl⟩:=hF j q hq;rw [WU] at ha;rw [rT] at hb;split at hq'
     ·rename_i hb2;have:=beq_true hb2;subst this;rw [ED];exact H.sep i k _ _ hi hk hni ha b hb
     ·obtain⟨i',o',rfl,hni',hi',rfl⟩:=hF j' q' hq';rw [rT];exact H.sep i i' _ _ hi hi' (fun e=>hne (by rw [e])) ha b hb
   ·rw [aD] at hq;split at hq
    ·rename_i hb;rw [← beq_true hb];omega
    ·exact (hFr.2 j q hq).2.1
   ·rw [aD] at hq;split at hq
    ·injection hq with hq;subst hq;exact fun v hv=>cG (a9 (aF aO l) hv)
    ·obtain⟨i,o,rfl,hni,hi,rfl⟩:=hF j q hq;obtain⟨wr,g,sz,cs,rfl⟩:=hcells i o hi;intro v hv;obtain⟨u,hu,rfl⟩:=List.mem_map.1 hv;exact aEW (H.sc i _ hi u hu) hι0
  have hrun:=hC f _ _ (1+nx) _ (a4 _ _ (sh1 p) hFr hAll (aGC hdir)) (D9 k ι) B w H0 (fun v hv=>by
   cases hv with
   |head=>exact⟨show 0<1+nx by omega,fun hf=>hsl.2 (by rw [ED] at hf;exact hf)⟩
   |tail _ hm =>
    rcases List.mem_append.1 hm with hm|hm
    ·exact dE (bU a1 hm)
    ·simp only [List.mem_cons,List.not_mem_nil,or_false] at hm;subst hm;exact aDA hcp)
  refine⟨hrun.1,?_⟩;have he:((.slice (some ⟨k,0,none⟩) l.length c::(r++[kA D p])):List Value).map (tr ι)=((.slice (some ⟨0,0,none⟩) l.length c::(r++[kA D (sh1 p)])):List Value).map (tr (D9 k ι)):=by
   rw [List.map_cons,List.map_cons,List.map_append,List.map_append];congr 1;congr 1
   ·exact List.map_congr_left fun v hv=>by rw [iA (bU a1 hv),iA (bU a1 hv)]
   ·exact congrArg (fun v=>[v]) aDS
  rw [he];refine CallsIn.mono hrun.2 fun e w' hret=>?_;cases e with
  |returned u =>
   obtain⟨v,h',nx',ι1,⟨rfl,rfl⟩,q2,q3,q4,q5,q6,rfl⟩:=hret;have hι1:∀ j,j<nx→ι1 (1+j)=ι j:=fun j hj=>(q5 (1+j) (by omega)).trans (rT k ι j);have hι10:ι1 0=ι k:=(q5 0 (by omega)).trans (ED k ι);have hback:∀ j o,look (vX h k (.cells true false 1 (flat aO.fl l'))) j=some o→(j=k∧o=.cells true false 1 (flat aO.fl l'))∨(j≠k∧look h j=some o):=by
    intro j o hj;rw [nH] at hj;split at hj
    ·rename_i e;injection hj with hj;exact .inl ⟨e,hj.symm⟩
    ·rename_i e;exact .inr ⟨e,hj⟩
   refine⟨.tuple #[],_,nx,ι,hx,?_,⟨fun j o hj=>?_,fun j j' o o' hj hj' hne ha b hb=>?_,fun j o hj=>?_,q3.size,fun j o hj=>?_⟩,q4,fun _ _=>rfl,Nat.le_refl _,?_⟩
   ·exact fun v hv=>(by cases hv)
   ·rcases hback j o hj with ⟨rfl,rfl⟩|⟨hne,hj⟩
    ·have:=q3.obj 0 (.cells true false 1 (flat aO.fl l')) rfl;rw [hι10] at this;exact Y6 a2 this
    ·obtain⟨wr,g,sz,cs,rfl⟩:=hcells j o hj;have hlow:=H.low j _ hj;have h1:look ((0,.cells true false 1 (flat aO.fl l'))::mU 1 (rem h k)) (1+j)=some (TR 1 (.cells wr g sz cs)):=by
      rw [aD,show Nat.beq 0 (1+j)=false by cases hb:Nat.beq 0 (1+j) with|false=>rfl|true=>have:=beq_true hb;omega];exact j3 _ (by rw [dL,if_neg hne];exact hj)
     have h2:=q3.obj _ _ h1;rw [hι1 j hlow] at h2;refine WN h2 (H.sc j _ hj) hι1 ?_;intro hgt;have h3:=H.obj j _ hj;cases hl:ι j with
     |nil p =>
      rw [hl] at h3;have h4:cs=[]∧(sz=0∨wr=true→p.isSome=true):=(by cases wr <;> exact h3);rw [h4.1];rfl
     |lay b off ex =>
      rw [hl] at h3;cases wr with
      |true=>exact h3.2.1 hgt
      |false=>exact h3.2.1 hgt
   ·rcases hback j o hj with ⟨e3,e4⟩|⟨hnk,hj2⟩
    ·rcases hback j' o' hj' with ⟨e5,e6⟩|⟨hnk',hj3⟩
     ·exact absurd (e3.trans e5.symm) hne
     ·exact H.sep j j' _ _ (by rw [e3];exact hk) hj3 hne rfl b hb
    ·rcases hback j' o' hj' with ⟨e5,e6⟩|⟨hnk',hj3⟩
     ·exact H.sep j j' _ _ hj2 (by rw [e5];exact hk) hne ha b hb
     ·exact H.sep j j' _ _ hj2 hj3 hne ha b hb
   ·rcases hback j o hj with ⟨rfl,rfl⟩|⟨hnk,hj⟩
    ·exact hsl.1
    ·exact H.low j o hj
   ·rcases hback j o hj with ⟨rfl,rfl⟩|⟨hnk,hj⟩
    ·exact fun v hv=>cG (a9 a2 hv)
    ·exact H.sc j o hj
   ·simp [tr]
  |_=>exact hret.elim
 ·obtain⟨k,c,r,p,l,D,rfl,hk,hcH,hdir,hx⟩:=hx;split at hx
  case h_2=>exact hx.elim
  rename_i pr e1;obtain⟨hb,hx⟩:=aG.1 hx;exact⟨_,_,_,hx,fun K' hk'=>⟨k,c,r,p,l,D,rfl,hk,hcH,hdir,by rw [e1];exact aJ hb hk'⟩⟩
end
end Go.Aw
end

noncomputable section
namespace Go.Aw
set_option maxRecDepth 100000
def mP (L:List Int)(x y:Nat):List Int:=(L.set x (aM L y)).set y (aM L x)
theorem iH (L:List Int)(x y:Nat):(mP L x y).length=L.length:=by simp [mP]
theorem CT {L:List Int}{x y o1 o2:Nat}(h1:o1=x*1)(h2:o2=y*1)(hx:x<L.length)(hy:y<L.length):dJ (dJ (flat aO.fl L) o1 [iv (aM L y)]) o2 [iv (aM L x)]=flat aO.fl (mP L x y):=by
 rw [h1,h2,LO _ _ _ hx,LO _ _ _ (by rw [List.length_set];exact hy)];rfl
def pD (L:List Int)(a b:Nat):Nat→List Int
 |0=>L
 |i+1=>mP (pD L a b i) (a+i) (b+i)
theorem iI (L:List Int)(a b:Nat):∀ i,(pD L a b i).length=L.length
 |0=>rfl
 |i+1=>by unfold pD;rw [iH];exact iI L a b i
def aHb (D:CW)(l:List Int)(r:List Value)(c:Nat):Option (Bool × List Int):=match r with
 |[.int .i64 a,.int .i64 b,.int .i64 n]=>some (decide (0≤a)&&decide (0≤b)&&decide (0≤n)&&decide (a+n≤l.length)&&decide (b+n≤l.length)&&decide (l.length≤1000000),pD l a.toNat b.toNat n.toNat)
 |_=>none
theorem aA7 {D:CW}{l:List Int}{r:List Value}{c:Nat}{l':List Int}(h:aHb D l r c=some (true,l')):∃ a b n:Int,r=[iv a,iv b,iv n]∧0≤a∧0≤b∧0≤n∧a+n≤l.length∧b+n≤l.length∧l.length≤1000000∧l'=pD l a.toNat b.toNat n.toNat:=by
 unfold aHb at h;split at h
 ·rename_i a b n;injection h with h;injection h with h1 h2;simp only [Bool.and_eq_true,decide_eq_true_eq] at h1;exact⟨a,b,n,rfl,h1.1.1.1.1.1,h1.1.1.1.1.2,h1.1.1.1.2,h1.1.1.2,h1.1.2,h1.2,h2.symm⟩
 ·cases h
def WS (N c:Nat)(a b n j:Int):List (Nat × Value):=[(0,.slice (some ⟨0,0,none⟩) N c),(1,iv a),(2,iv b),(3,iv n),(10,iv j)]
theorem cQ {nx N c k:Nat}{e:List (Nat × Value)}(h:1≤nx)(he:look e k=some (.slice (some ⟨0,0,none⟩) N c)):look e k=some (gP id (.slice (some ⟨0,0,none⟩) N c))∧xD nx (.slice (some ⟨0,0,none⟩) N c):=⟨he,h,fun h=>by cases h⟩
def aC1:Nat × XF:=(276,PQ aHb)
theorem aJN:cO Go.Proofs.Tryz.prog aC1.1 aC1.2:=sI (aL (xl:=[]) .nil) fun D l r c l' hs=>by
 obtain⟨a,b,n,rfl,ha,hb,hn,han,hbn,hl,rfl⟩:=aA7 hs;refine⟨rfl,fun F nx p hF hC hD=>?_⟩;(conv=>whnf);refine⟨fun q e h nx'=>∃ (i:Nat) (j:Int),j=i∧i≤n.toNat∧q=n.toNat - i∧e=WS l.length c a b n j∧h=(0,.cells true false 1 (flat aO.fl (pD l a.toNat b.toNat i)))::F∧nx'=nx,⟨n.toNat,?_⟩,?_⟩
 ·refine bQ (e0:=WS l.length c a b n 0) (o0:=.cells true false 1 (flat aO.fl l)) (n0:=nx) hF ⟨0,0,rfl,Nat.zero_le _,rfl,rfl,rfl,rfl⟩ ?_ (aN (aF _ _)) (Nat.le_refl _);unfold WS;refine List.forall_mem_cons.2 ⟨cQ hF.1 rfl,?_⟩;((repeat' refine iE rfl rfl ?_);exact iN)
 ·rintro q e h nx' ⟨i,j,hj,hi,rfl,rfl,rfl,rfl⟩;have sl:=iI l a.toNat b.toNat i;have nxt:pD l a.toNat b.toNat (i+1)=mP (pD l a.toNat b.toNat i) (a.toNat+i) (b.toNat+i):=rfl;generalize hs0:pD l a.toNat b.toNat i=L at sl nxt;have hl1:(flat aO.fl L).length=L.length:=(by rw [bE];exact Nat.mul_one _);unfold WS;((conv=>whnf);refine bm (fun h1=>?_) (fun h1=>?_))
  ·have hlt:i<n.toNat:=(by simp [aA,aC] at h1;omega);have bO:=CT (L:=L) (x:=a.toNat+i) (y:=b.toNat+i) (o1:=0+(a+j).toNat*1) (o2:=0+(b+j).toNat*1) (by omega) (by omega) (by omega) (by omega)
   repeat' first
    |(((conv=>whnf);refine bm (fun g=>?_) (fun g=>?_)))
    |((conv=>whnf)
      refine iB (fN L (i:=a.toNat+i) (by omega) ?_) ?_
      ·show _+Int.toNat (a+j)*1=_;omega)
    |((conv=>whnf)
      refine iB (fN L (i:=b.toNat+i) (by omega) ?_) ?_
      ·show _+Int.toNat (b+j)*1=_;omega)
   all_goals first
    |(exfalso;simp [aA,aC,aH] at g;omega)
    |(have g:(0+(a+j).toNat*1+1).ble (flat aO.fl L).length=false:=g
      rw [hl1] at g;exact dI g (by omega))
    |(have g:(0+(b+j).toNat*1+1).ble (dJ (flat aO.fl L) (0+(a+j).toNat*1) [iv (aM L (b.toNat+i))]).length=false:=g
      rw [dH (by rw [hl1];show 0+(a+j).toNat*1+1≤L.length;omega),hl1] at g;exact dI g (by omega))
    |skip
   (conv=>whnf);refine⟨n.toNat - (i+1),by omega,?_⟩;refine bQ (e0:=WS l.length c a b n (j+1)) (o0:=.cells true false 1 (flat aO.fl (mP L (a.toNat+i) (b.toNat+i)))) (n0:=nx') hF ⟨i+1,j+1,by omega,by omega,rfl,rfl,by rw [nxt],rfl⟩ ?_ (aW (aF _ _) bO) (Nat.le_refl _);unfold WS;refine List.forall_mem_cons.2 ⟨cQ hF.1 rfl,?_⟩;((repeat' refine iE rfl rfl ?_);exact iN)
  ·have hge:i=n.toNat:=(by simp [aA,aC] at h1;omega);(conv=>whnf);exact⟨rfl,by rw [← hs0,hge]⟩
end Go.Aw
end
