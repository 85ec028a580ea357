/-
  Parts of a proof. No condition.
-/
import Derived.Test.YtjahkcbdecgbhaaGreatQBc
set_option linter.unusedSimpArgs false
set_option linter.unusedVariables false
noncomputable section
namespace Go.Aw
set_option maxRecDepth 100000
set_option maxHeartbeats 2000000
def crI (l:List Pt)(D:List Dt)(d:Int):Int:=(jG l (cB D d.toNat).fr.toNat).1*(jG l (cB D d.toNat).tt.toNat).2 - (jG l (cB D d.toNat).tt.toNat).1*(jG l (cB D d.toNat).fr.toNat).2
def IB (l:List Pt)(D:List Dt)(ls:List (List Int)):Bool:=l.all wide&&(D.all fun e=>decide (0≤e.fr)&&decide (e.fr<l.length)&&(decide (0≤e.tt)&&decide (e.tt<l.length)))&&decide (D.length≤1000)&&decide (ls.length=l.length)&&decide (l.length≤1000)
theorem SB {l:List Pt}{D:List Dt}{ls:List (List Int)}(h:IB l D ls=true){i:Nat}(hi:i<D.length):0≤(cB D i).fr∧(cB D i).fr<l.length∧0≤(cB D i).tt∧(cB D i).tt<l.length:=by
 simp only [IB,Bool.and_eq_true] at h;have:=List.all_eq_true.1 h.1.1.1.2 _ (List.getElem_mem hi);rw [pR hi];simp only [Bool.and_eq_true,decide_eq_true_eq] at this;omega
theorem LW {l:List Pt}{D:List Dt}{ls:List (List Int)}(h:IB l D ls=true){i:Nat}(hi:i<l.length) : -1000000≤(jG l i).1∧(jG l i).1≤1000000∧-1000000≤(jG l i).2∧(jG l i).2≤1000000:=by
 simp only [IB,Bool.and_eq_true] at h;have:=List.all_eq_true.1 h.1.1.1.1 _ (List.getElem_mem hi);rw [n9 hi];unfold wide at this;simp only [Bool.and_eq_true,decide_eq_true_eq] at this;omega
theorem JT {l:List Pt}{D:List Dt}{ls:List (List Int)}(h:IB l D ls=true):D.length≤1000∧ls.length=l.length∧l.length≤1000:=by
 simp only [IB,Bool.and_eq_true,decide_eq_true_eq] at h;exact⟨h.1.1.2,h.1.2,h.2⟩
def crS (l:List Pt)(D:List Dt)(ls:List (List Int)):List Value→Option (Bool × Value)
 |[.int .i64 d]=>some (IB l D ls&&decide (0≤d)&&decide (d<D.length),iv (crI l D d))
 |_=>none
theorem aCd {s:Nat}{ls:List (List Int)}{n k:Nat}(h:k<1000∨1000+n≤k):look (eY (tH s ls n)) k=none:=by
 rw [gV,aE4 h];rfl
def aAL:Nat × XF:=(168,wbX crS)
theorem MU {a b:Int}(h1 : -1000000≤a)(h2:a≤1000000)(h3 : -1000000≤b)(h4:b≤1000000) : -1000000000000≤a*b∧a*b≤1000000000000:=by
 have p1:0≤(1000000 - a)*(1000000+b):=Int.mul_nonneg (by omega) (by omega);have p2:0≤(1000000+a)*(1000000 - b):=Int.mul_nonneg (by omega) (by omega);have p3:0≤(1000000 - a)*(1000000 - b):=Int.mul_nonneg (by omega) (by omega);have p4:0≤(1000000+a)*(1000000+b):=Int.mul_nonneg (by omega) (by omega);simp only [Int.sub_mul,Int.add_mul,Int.mul_sub,Int.mul_add] at p1 p2 p3 p4;omega
theorem aK9:cT Go.Proofs.Tryz.prog aAL.1 aAL.2:=S5 (aL (xl:=[]) .nil) fun l D ls r v hs=>by
 have:∃ d,r=[iv d]∧IB l D ls=true∧0≤d∧d<D.length∧v=iv (crI l D d):=by
  unfold crS at hs;split at hs
  ·rename_i d;injection hs with hs;injection hs with h1 h2;simp only [Bool.and_eq_true,decide_eq_true_eq] at h1;exact⟨d,rfl,h1.1.1,h1.1.2,h1.2,h2.symm⟩
  ·cases hs
 obtain⟨d,rfl,hB,h1,h2,rfl⟩:=this;clear hs;have hn:=JT hB;refine⟨rfl,rfl,by omega,ls.length,fun nE c1 c2 n fo=>?_⟩;have ho7:ZA (bR ls ls.length)=[]:=lS (Nat.le_refl _);obtain⟨b1,b2,b3,b4⟩:=SB hB (i:=d.toNat) (by omega);have hp:=LW hB (i:=(cB D d.toNat).fr.toNat) (by omega);have hq:=LW hB (i:=(cB D d.toNat).tt.toNat) (by omega);unfold gP EC;rw [ho7]
 repeat' first
  |(((conv=>whnf);apply bm<;>intro g))
  |((conv=>whnf)
    refine eC (VW D (i:=d.toNat) (by omega) ?_) ?_
    ·show _+Int.toNat d*5+4=_;omega)
  |((conv=>whnf)
    refine eC (aKx D (i:=d.toNat) (by omega) ?_) ?_
    ·show _+Int.toNat d*5+3=_;omega)
  |((conv=>whnf)
    refine nN (jP l (i:=(cB D d.toNat).fr.toNat) (by omega) ?_) ?_
    ·show _+Int.toNat (cB D d.toNat).fr*2=_;omega)
  |((conv=>whnf)
    refine nN (jP l (i:=(cB D d.toNat).tt.toNat) (by omega) ?_) ?_
    ·show _+Int.toNat (cB D d.toNat).tt*2=_;omega)
 all_goals first
  |(exfalso;simp [aA,aC,aF] at g;omega)
  |(exfalso
    have g:(match look (eY (tH ls.length ls ls.length)) 2000 with|none=>true|some _=>false)=false:=g;rw [aCd (by omega)] at g;cases g)
  |(exfalso
    have m1:=MU hp.1 hp.2.1 hq.2.2.1 hq.2.2.2;have m2:=MU hq.1 hq.2.1 hp.2.2.1 hp.2.2.2;simp [aA,aC,aF] at g;omega)
  |((conv=>whnf)
    first
     |done
     |rfl)
def zT (W:Heap)(b:Nat):Prop:=∀ k o,look W k=some o→k<b∧bQ id b o o
theorem rW {b n0:Nat}{ρ:Nat→Nat}(hρ:∀ k,k<b→ρ k=k)(hb:b≤n0){o:a8}(h:bQ id b o o):bQ ρ n0 o o:=by
 have key:∀ v,DN b v→cD ρ v=cD id v:=fun v hv=>mO (ι:=mB id) (ι':=mB ρ) (n:=b) (fun k hk=>by show Loc.lay _ _ _=Loc.lay _ _ _;rw [hρ k hk];rfl) hv;have mono:∀ v,DN b v→DN n0 v:=fun v hv=>iZ (ι:=mB id) (ι':=mB id) hb (fun _ _=>rfl) hv;cases o with
 |cells wr g sz cs =>
  obtain⟨h1,h2,h3,h4,h5⟩:=h;refine⟨rfl,rfl,rfl,?_,fun v hv=>mono v (h5 v hv)⟩
  conv=>lhs;rw [h4]
  exact List.map_congr_left fun v hv=>(key v (h5 v hv)).symm
 |map es =>
  obtain⟨h1,h2⟩:=h;refine⟨?_,fun v hv=>mono _ (h2 v hv)⟩
  conv=>lhs;rw [h1]
  exact List.map_congr_left fun v hv=>by rw [key _ (h2 v hv)]
 |zero=>trivial
 |loop l=>exact h.elim
 |deferred=>exact h.elim
theorem qC {W:Heap}{k:Nat}{o:a8}:∀ {P:Heap},look (P++W) k=some o→(k,o)∈P∨look W k=some o
 |[],h=>.inr h
 |(j,q)::r,h=>by
  rw [List.cons_append,aE] at h;split at h
  ·rename_i hb;injection h with h;subst h;rw [beq_true hb];exact .inl (.head _)
  ·rcases qC h with h|h
   ·exact .inl (.tail _ h)
   exact .inr h
theorem rK {b n0 nx:Nat}{I:KS}{e0 e:List (Nat × Value)}{P W h:Heap}(L:List (Nat × Nat))(hI:I e0 (P++W) n0)(he:∀ p∈e0,look e p.1=some (jX (rn L) p.2)∧C3 n0 p.2)(hW:zT W b)(hk:∀ k o,look W k=some o→look h k=some o)
  (hP:∀ p∈P,b≤p.1∧p.1<n0∧b≤rn L p.1∧∃ o',look h (rn L p.1)=some o'∧bQ (rn L) n0 p.2 o') (hi:∀ k∈P.map Prod.fst,∀ k'∈P.map Prod.fst,rn L k=rn L k'→k=k') (hL:∀ p∈L,b≤p.1) (hb:b≤n0):rM b I e h nx:=by
 have hfix:∀ k,k<b→rn L k=k:=fun k hk=>by
  unfold rn;split
  ·rename_i q hq;have:=hL _ (bF hq);simp only at this;omega
  rfl
 have hc:∀ k o,look (P++W) k=some o→(k,o)∈P∨look W k=some o:=fun k o h=>qC h;refine⟨e0,P++W,n0,rn L,hI,fun t v hv=>he (t,v) (bF hv),fun k o hk'=>?_,fun k k' o o' h1 h2 e=>?_,hfix,hb⟩
 ·rcases hc k o hk' with hm|hm
  ·exact (hP _ hm).2.1 |> fun x=>⟨x,(hP _ hm).2.2.2⟩
  obtain⟨a1,a2⟩:=hW k o hm;exact⟨by omega,o,by rw [hfix k a1];exact hk k o hm,rW hfix hb a2⟩
 ·rcases hc k o h1 with m1|m1 <;> rcases hc k' o' h2 with m2|m2
  ·exact hi k (List.mem_map.2 ⟨_,m1,rfl⟩) k' (List.mem_map.2 ⟨_,m2,rfl⟩) e
  ·have:=(hP _ m1).2.2.1;have b2:=(hW _ _ m2).1;simp only at this;rw [hfix k' b2] at e;omega
  ·have:=(hP _ m2).2.2.1;have b2:=(hW _ _ m1).1;simp only at this;rw [hfix k b2] at e;omega
  rwa [hfix k (hW _ _ m1).1,hfix k' (hW _ _ m2).1] at e
theorem uZ {l:List Pt}{D:List Dt}{ls:List (List Int)}{nE c1 c2:Nat}{n:Int}{fo:Option (Nat × Nat)}{s:Nat}(hn:ls.length≤1000):zT (gP l D ls nE c1 c2 n fo s) 2000:=by
 intro k o hk;have hsl:∀ {q a b:Nat},q<2000→DN 2000 (.slice (some ⟨q,0,none⟩) a b):=fun hq=>⟨hq,fun h=>by cases h⟩;have hfix:∀ {cs:List Value},(∀ v∈cs,cD id v=v)→cs=cs.map (cD id):=fun {cs} h=>by
  conv=>lhs;rw [← List.map_id cs]
  exact List.map_congr_left fun v hv=>(h v hv).symm
 rcases H6 (bF hk) with ⟨rfl,rfl⟩|⟨rfl,rfl⟩|⟨rfl,rfl⟩|⟨rfl,rfl⟩|⟨i,hi,h0,rfl,rfl⟩
 ·refine⟨by omega,rfl,rfl,rfl,?_,?_⟩
  ·show _=[_,_,_,_,_,cD _ (fcV 6 fo)];rw [VI];rfl
  unfold EC;exact List.forall_mem_cons.2 ⟨hsl (by omega),List.forall_mem_cons.2 ⟨hsl (by omega),List.forall_mem_cons.2 ⟨cX rfl,List.forall_mem_cons.2 ⟨hsl (by omega),List.forall_mem_cons.2 ⟨hsl (by omega),List.forall_mem_cons.2 ⟨aC0 (by omega),fun _ h=>(by cases h)⟩⟩⟩⟩⟩⟩
 ·exact⟨by omega,aN (aH _ _)⟩
 ·exact⟨by omega,rfl,rfl,rfl,EV (ρ:=id) (lL _ _) fun i hi=>CG hi,KW (by omega) (by omega)⟩
 ·exact⟨by omega,aN (aH _ _)⟩
 exact⟨aGo (by omega),aN (aH _ _)⟩
theorem c8 {W:Heap}{b k:Nat}{o:a8}(h:zT W b)(hk:k<b)(ho:bQ id b o o):zT ((k,o)::W) b:=by
 intro j q hj;rw [aE] at hj;split at hj
 ·rename_i hb;injection hj with hj;subst hj;exact⟨by rw [← beq_true hb];exact hk,ho⟩
 exact h j q hj
def aJy (s:List Pt→List Dt→List (List Int)→List Int→Option (Bool × Value)):XF:=fun args h nx K =>
 ∃ p k3 k0 k1 kd kt kf nm l D ls nE c1 c2 n fo L c,args=[.pointer (some ⟨p,0,none⟩),.slice (some ⟨k3,0,none⟩) L.length c]∧zH h p k0 k1 kd kt kf nm l D ls nE c1 c2 n fo ∧
   (∃ wr g sz cs,look h k3=some (.cells wr g sz cs)∧cs.take (flat aP.fl L).length=flat aP.fl L)∧(match s l D ls L with|some pr=>dT pr.1 (K pr.2 h nx)|none=>False)
theorem aEQ {P:Program}{C:VC}{f:Nat}{s:List Pt→List Dt→List (List Int)→List Int→Option (Bool × Value)}(hC:bN P C)
  (hs:∀ l D ls L v,s l D ls L=some (true,v)→gT v=true∧ls.length≤1000∧∃ s0,∀ nE c1 c2 n fo c,C f [.pointer (some ⟨0,0,none⟩),.slice (some ⟨3,0,none⟩) L.length c] ((3,.cells false true 1 (flat aP.fl L))::gP l D ls nE c1 c2 n fo s0) 2000 (fun u _ _=>u=v)):cT P f (aJy s):=by
 refine (jD (S:=fun args0 h0 n0 v1 h1 k=>∃ l D ls L c s0 nE c1 c2 n fo,gT v1=true∧C f [.pointer (some ⟨0,0,none⟩),.slice (some ⟨3,0,none⟩) L.length c] ((3,.cells false true 1 (flat aP.fl L))::gP l D ls nE c1 c2 n fo s0) 2000 (fun u _ _=>u=v1)∧args0=[.pointer (some ⟨0,0,none⟩),.slice (some ⟨3,0,none⟩) L.length c]∧h0=(3,.cells false true 1 (flat aP.fl L))::gP l D ls nE c1 c2 n fo s0∧n0=2000∧h1=[]∧k=0) hC ?_).mono ?_ ?_
 ·rintro args0 h0 n0 v1 h1 k ⟨l,D,ls,L,c,s0,nE,c1,c2,n,fo,e2,e3,rfl,rfl,rfl,rfl,rfl⟩;exact⟨rfl,_,e3,fun v h nx e=>by rw [e];exact mG e2⟩
 ·rintro args h nx K ⟨p,k3,k0,k1,kd,kt,kf,nm,l,D,ls,nE,c1,c2,n,fo,L,c,rfl,hw,hL,hx⟩;split at hx
  case h_2=>exact hx.elim
  rename_i pr e1;obtain⟨bb,u⟩:=pr;obtain⟨rfl,hx⟩:=aI.1 hx;obtain⟨a2,a3,s0,a4⟩:=hs l D ls L u e1;refine⟨_,_,2000,u,[],0,⟨l,D,ls,L,c,s0,nE,c1,c2,n,fo,a2,a4 nE c1 c2 n fo c,rfl,rfl,rfl,rfl,rfl⟩,aFd hw a3 s0 hL,?_⟩;simp only [qK,wR,mR,m8,tP a2,Nat.add_zero];exact hx
 rintro args h nx K ⟨p,k3,k0,k1,kd,kt,kf,nm,l,D,ls,nE,c1,c2,n,fo,L,c,rfl,hw,hL,hx⟩;split at hx
 case h_2=>exact hx.elim
 rename_i pr e1;obtain⟨hb,hx⟩:=aI.1 hx;exact⟨pr.2,h,nx,hx,fun K' hk=>⟨p,k3,k0,k1,kd,kt,kf,nm,l,D,ls,nE,c1,c2,n,fo,L,c,rfl,hw,hL,by rw [e1];exact aM hb hk⟩⟩
theorem ext_cons {W h:Heap}{q:Nat}{v:a8}(hx:∀ k o,look W k=some o→look h k=some o)(hq:look W q=none):∀ k o,look W k=some o→look ((q,v)::h) k=some o:=fun k o hk=>by
 rw [bK (fun e=>by rw [e,hk] at hq;cases hq)];exact hx k o hk
theorem EO {l:List Pt}{D:List Dt}{ls:List (List Int)}{nE c1 c2:Nat}{n:Int}{fo:Option (Nat × Nat)}{s q:Nat}(hn:ls.length≤1000)(hq:q=3∨2000≤q):look (gP l D ls nE c1 c2 n fo s) q=none:=by
 cases hl:look (gP l D ls nE c1 c2 n fo s) q with
 |none=>rfl
 |some o =>
  exfalso;rcases H6 (bF hl) with ⟨h,_⟩|⟨h,_⟩|⟨h,_⟩|⟨h,_⟩|⟨i,h1,_,h,_⟩
  ·omega
  ·omega
  ·omega
  ·omega
  unfold tN at h;split at h <;> omega
theorem JX {l:List Pt}{D:List Dt}{ls:List (List Int)}{nE c1 c2:Nat}{n:Int}{fo:Option (Nat × Nat)}{s i:Nat}(hi:i<ls.length)(h0:(bR ls i).length≠0):look (gP l D ls nE c1 c2 n fo s) (tN s i)=some (.cells false false 1 (flat aP.fl (bR ls i))):=by
 unfold tN;by_cases e:i=s
 ·subst e;rw [if_pos rfl];unfold gP;rw [bK (by omega),bK (by omega),bK (by omega),bK (by omega),show ZA (bR ls i)=[(7,ob (bR ls i))] from if_neg h0];rfl
 rw [if_neg e];unfold gP;rw [bK (by omega),bK (by omega),bK (by omega),bK (by omega)];have key:look (eY (tH s ls ls.length)) (i+1000)=some (.cells false false 1 (flat aP.fl (bR ls i))):=by
  rw [gV,lP e h0 hi];rfl
 unfold ZA;split
 ·exact key
 show look ((7,_)::eY (tH s ls ls.length)) _=_;rw [bK (by omega)];exact key
theorem M5 {h:Heap}{l:List Pt}{D:List Dt}{ls:List (List Int)}{nE c1 c2:Nat}{n:Int}{fo:Option (Nat × Nat)}{s:Nat}(hx:∀ k o,look (gP l D ls nE c1 c2 n fo s) k=some o→look h k=some o):zH h 0 4 5 1 2 6 (tN s) l D ls nE c1 c2 n fo :=
 ⟨⟨_,_,_,hx 0 _ rfl⟩,⟨_,_,_,_,hx 4 _ rfl,List.take_length⟩,⟨_,_,_,_,hx 1 _ rfl,List.take_length⟩,⟨_,_,_,hx 2 _ rfl⟩,fun i hi h0=>⟨_,_,_,_,hx _ _ (JX hi h0),List.take_length⟩⟩
def IN (l:List Pt)(D:List Dt)(L:List Int):Nat→Int
 |0=>0
 |i+1=>IN l D L i+crI l D (aD L i)
theorem aCI {l:List Pt}{D:List Dt}{ls:List (List Int)}(h:IB l D ls=true){d:Int}(h1:0≤d)(h2:d<D.length) : -2000000000000≤crI l D d∧crI l D d≤2000000000000:=by
 obtain⟨b1,b2,b3,b4⟩:=SB h (i:=d.toNat) (by omega);have hp:=LW h (i:=(cB D d.toNat).fr.toNat) (by omega);have hq:=LW h (i:=(cB D d.toNat).tt.toNat) (by omega);have m1:=MU hp.1 hp.2.1 hq.2.2.1 hq.2.2.2;have m2:=MU hq.1 hq.2.1 hp.2.2.1 hp.2.2.2;unfold crI;omega
theorem aDb {l:List Pt}{D:List Dt}{ls:List (List Int)}(h:IB l D ls=true){L:List Int}(hL:fI D L=true):∀ i:Nat,i≤L.length→-2000000000000*(i:Int)≤IN l D L i∧IN l D L i≤2000000000000*(i:Int)
 |0,_=>by unfold IN;omega
 |i+1,hi=>by
  have ih:=aDb h hL i (by omega);have hd:=jY hL (i:=i) (by omega);have:=aCI h hd.1 hd.2;unfold IN;omega
theorem aI9 {l:List Pt}{D:List Dt}{ls:List (List Int)}{d:Int}(h:IB l D ls=true)(h1:0≤d)(h2:d<D.length):crS l D ls [iv d]=some (true,iv (crI l D d)):=by
 show some (IB l D ls&&decide (0≤d)&&decide (d<D.length),iv (crI l D d))=_;rw [h,decide_eq_true h1,decide_eq_true h2];rfl
def arS (l:List Pt)(D:List Dt)(ls:List (List Int))(L:List Int):Option (Bool × Value):=some (IB l D ls&&fI D L&&decide (L.length≤100000),iv (IN l D L L.length))
def e89 (N c:Nat)(a j:Int):List (Nat × Value):=[(0,.pointer (some ⟨0,0,none⟩)),(5,iv a),(8,.slice (some ⟨3,0,none⟩) N c),(9,iv N),(10,iv j)]
def aHl:Nat × XF:=(89,aJy arS)
theorem aLu:cT Go.Proofs.Tryz.prog aHl.1 aHl.2:=aEQ (f:=89) (s:=arS) (aL (xl:=[aAL]) (.cons aK9 .nil)) fun l D ls L v hs=>by
 have:IB l D ls=true∧fI D L=true∧L.length≤100000∧v=iv (IN l D L L.length):=by
  unfold arS at hs;injection hs with hs;injection hs with h1 h2;simp only [Bool.and_eq_true,decide_eq_true_eq] at h1;exact⟨h1.1.1,h1.1.2,h1.2,h2.symm⟩
 obtain⟨hB,hL,hl,rfl⟩:=this;clear hs;have hn:=JT hB;refine⟨rfl,by omega,ls.length,fun nE c1 c2 n fo c=>?_⟩;(conv=>whnf);refine⟨fun q e h nx=>∃ (i:Nat) (j:Int),j=i∧i≤L.length∧q=L.length - i∧e=e89 L.length c (IN l D L i) j∧h=(3,.cells false true 1 (flat aP.fl L))::gP l D ls nE c1 c2 n fo ls.length∧nx=2000,⟨L.length,?_⟩,?_⟩
 ·refine rK (P:=[]) (W:=(3,.cells false true 1 (flat aP.fl L))::gP l D ls nE c1 c2 n fo ls.length) (e0:=e89 L.length c 0 0) (n0:=2000) [] ⟨0,0,rfl,Nat.zero_le _,rfl,rfl,rfl,rfl⟩ ?_ (c8 (uZ (by omega)) (by omega) (aN (aH _ _))) (fun k o hk=>hk) (fun _ h=>(by cases h)) (fun _ h=>(by cases h)) (fun _ h=>(by cases h)) (Nat.le_refl _);unfold e89;((repeat' refine iE rfl rfl ?_);exact iN)
 rintro q e h nx ⟨i,j,hj,hi,rfl,rfl,rfl,rfl⟩;unfold e89;((conv=>whnf);apply bm<;>intro h1);rotate_left
 ·have hge:i=L.length:=(by simp [aA,aC] at h1;omega);subst hge;(conv=>whnf)
 have hlt:i<L.length:=(by simp [aA,aC] at h1;omega);have hd:=jY hL (i:=i) hlt;((conv=>whnf);apply bm<;>intro h2)
 ·(conv=>whnf);refine eC (bY L (i:=i) hlt ?_) ?_
  ·show _+Int.toNat j*1=_;omega
  (conv=>whnf);refine⟨0,[iv (aD L i)],4,5,1,2,6,tN ls.length,l,D,ls,nE,c1,c2,n,fo,rfl,M5 (ext_cons (fun _ _ h=>h) (EO (by omega) (.inl rfl))),?_⟩;rw [aI9 hB hd.1 hd.2];refine aM rfl ?_;have a1:=aDb hB hL i (by omega);have a2:=aCI hB hd.1 hd.2;have hs:IN l D L (i+1)=IN l D L i+crI l D (aD L i):=rfl;generalize IN l D L i=X at a1 hs ⊢;generalize crI l D (aD L i)=Y at a2 hs ⊢;((conv=>whnf);apply bm<;>intro h3)
  ·((conv=>whnf);apply bm<;>intro h4)
   ·(conv=>whnf);refine⟨L.length - (i+1),by omega,?_⟩;refine rK (P:=[]) (W:=(3,.cells false true 1 (flat aP.fl L))::gP l D ls nE c1 c2 n fo ls.length) (e0:=e89 L.length c (X+Y) (j+1)) (n0:=2000) [] ⟨i+1,j+1,by omega,by omega,rfl,by rw [hs];rfl,rfl,rfl⟩ ?_ (c8 (uZ (by omega)) (by omega) (aN (aH _ _))) (fun k o hk=>hk) (fun _ h=>(by cases h)) (fun _ h=>(by cases h)) (fun _ h=>(by cases h)) (Nat.le_refl _);unfold e89;((repeat' refine iE rfl rfl ?_);exact iN)
   exfalso;simp [aA,aC,aF] at h4;omega
  exfalso;simp [aA,aC,aF] at h3;omega
 exfalso;simp [aA,aC] at h2;omega
def aKh (s:List Pt→List Dt→List (List Int)→List Value→YS Int):XF:=fun args h nx K =>
 ∃ p r k0 k1 kd kt kf nm l D ls nE c1 c2 n fo,args=.pointer (some ⟨p,0,none⟩)::r∧zH h p k0 k1 kd kt kf nm l D ls nE c1 c2 n fo ∧
 (match s l D ls r with|some pr=>dT pr.1 (K (YM pr.2.1 pr.2.2 nx) (bZ h nx (.cells true false 1 (flat aP.fl pr.2.1))) (nx+1))|none=>False)
theorem aEA {P:Program}{C:VC}{f:Nat}{s:List Pt→List Dt→List (List Int)→List Value→YS Int}(hC:bN P C)
  (hs:∀ l D ls r out rest,s l D ls r=some (true,out,rest)→eT r=true∧dL rest=true∧ls.length≤1000∧∃ s0,∀ nE c1 c2 n fo,C f (.pointer (some ⟨0,0,none⟩)::r) (gP l D ls nE c1 c2 n fo s0) 2000 (YW aP out rest)):cT P f (aKh s):=by
 refine (jD (S:=fun args0 h0 n0 v1 h1 k=>∃ l D ls r s0 nE c1 c2 n fo out rest,dL rest=true∧C f (.pointer (some ⟨0,0,none⟩)::r) (gP l D ls nE c1 c2 n fo s0) 2000 (YW aP out rest)∧args0=.pointer (some ⟨0,0,none⟩)::r∧h0=gP l D ls nE c1 c2 n fo s0∧n0=2000∧v1=YM out rest 0∧h1=ylH aP out∧k=1) hC ?_).mono ?_ ?_
 ·rintro args0 h0 n0 v1 h1 k ⟨l,D,ls,r,s0,nE,c1,c2,n,fo,out,rest,e2,e3,rfl,rfl,rfl,rfl,rfl,rfl⟩;exact⟨rfl,_,e3,fun v h nx e=>TE aP e2 e⟩
 ·rintro args h nx K ⟨p,r,k0,k1,kd,kt,kf,nm,l,D,ls,nE,c1,c2,n,fo,rfl,hw,hx⟩;split at hx
  case h_2=>exact hx.elim
  rename_i pr e1;obtain⟨bb,out,rest⟩:=pr;obtain⟨rfl,hx⟩:=aI.1 hx;obtain⟨a1,a2,a3,s0,a4⟩:=hs l D ls r out rest e1;exact⟨_,_,2000,_,_,1,⟨l,D,ls,r,s0,nE,c1,c2,n,fo,out,rest,a2,a4 nE c1 c2 n fo,rfl,rfl,rfl,rfl,rfl,rfl⟩,aBr hw a3 s0 a1,aBo aP a2 hx⟩
 rintro args h nx K ⟨p,r,k0,k1,kd,kt,kf,nm,l,D,ls,nE,c1,c2,n,fo,rfl,hw,hx⟩;split at hx
 case h_2=>exact hx.elim
 rename_i pr e1;obtain⟨hb,hx⟩:=aI.1 hx;exact⟨_,_,_,hx,fun K' hk=>⟨p,r,k0,k1,kd,kt,kf,nm,l,D,ls,nE,c1,c2,n,fo,rfl,hw,by rw [e1];exact aM hb hk⟩⟩
theorem aK {W h:Heap}{q:Nat}{v:a8}(hx:∀ k o,look W k=some o→look h k=some o)(hq:look W q=none):∀ k o,look W k=some o→look (bZ h q v) k=some o:=ext_cons hx hq
theorem bA {W h:Heap}{q:Nat}(hx:∀ k o,look W k=some o→look h k=some o)(hq:look W q=none):∀ k o,look W k=some o→look (rem h q) k=some o:=fun k o hk=>by
 rw [c7,if_neg (fun e=>by rw [e,hq] at hk;cases hk)];exact hx k o hk
theorem aS {W h:Heap}{q:Nat}{v:a8}(hx:∀ k o,look W k=some o→look h k=some o)(hq:look W q=none):∀ k o,look W k=some o→look (r8 h q v) k=some o:=fun k o hk=>by
 rw [iT _ _ (fun e=>by rw [e,hq] at hk;cases hk)];exact hx k o hk
def pX (D:List Dt)(ls:List (List Int))(d:Int):Nat→Int
 |0=>d
 |i+1=>CO D ls (pX D ls d i)
def HT (D:List Dt)(ls:List (List Int))(d:Int):Nat→Nat→Nat
 |0,i=>i
 |k+1,i=>if pX D ls d i=d then i else HT D ls d k (i+1)
theorem nT (D:List Dt)(ls:List (List Int))(d:Int):∀ (k i:Nat),i≤HT D ls d k i∧HT D ls d k i≤i+k∧∀ t,i≤t→t<HT D ls d k i→pX D ls d t≠d
 |0,i=>by unfold HT;exact⟨Nat.le_refl _,Nat.le_refl _,fun t h1 h2=>by omega⟩
 |k+1,i=>by
  unfold HT;split
  ·exact⟨Nat.le_refl _,by omega,fun t h1 h2=>by omega⟩
  rename_i h;obtain⟨h1,h2,h3⟩:=nT D ls d k (i+1);refine⟨by omega,by omega,fun t h4 h5=>?_⟩;by_cases e:t=i
  ·rw [e];exact h
  exact h3 t (by omega) h5
def pG (D:List Dt)(ls:List (List Int))(d:Int):Nat:=HT D ls d D.length 1
def wO (D:List Dt)(ls:List (List Int))(d:Int):List Int:=(List.range (pG D ls d)).map (pX D ls d)
def wJ (l:List Pt)(D:List Dt)(ls:List (List Int)):Bool:=IB l D ls&&(List.range D.length).all fun i=>nxB D ls i&&(decide (0≤CO D ls i)&&decide (CO D ls i<D.length))
theorem LG {l:List Pt}{D:List Dt}{ls:List (List Int)}(h:wJ l D ls=true){d:Int}(h1:0≤d)(h2:d<D.length):nxB D ls d=true∧0≤CO D ls d∧CO D ls d<D.length:=by
 simp only [wJ,Bool.and_eq_true] at h;have:=List.all_eq_true.1 h.2 d.toNat (List.mem_range.2 (by omega));rw [Int.toNat_of_nonneg h1] at this;simp only [Bool.and_eq_true,decide_eq_true_eq] at this;exact⟨this.1,this.2⟩
theorem ES {l:List Pt}{D:List Dt}{ls:List (List Int)}(h:wJ l D ls=true):IB l D ls=true:=by
 simp only [wJ,Bool.and_eq_true] at h;exact h.1
theorem T2 {l:List Pt}{D:List Dt}{ls:List (List Int)}(h:wJ l D ls=true){d:Int}(h1:0≤d)(h2:d<D.length):∀ i,0≤pX D ls d i∧pX D ls d i<D.length
 |0=>⟨h1,h2⟩
 |i+1=>by
  have ih:=T2 h h1 h2 i;exact (LG h ih.1 ih.2).2
def wkS (l:List Pt)(D:List Dt)(ls:List (List Int)):List Value→YS Int
 |[.int .i64 d]=>some (wJ l D ls&&decide (0≤d)&&decide (d<D.length)&&decide (pX D ls d (pG D ls d)=d),wO D ls d,[])
 |_=>none
def itL (D:List Dt)(ls:List (List Int))(d:Int)(i:Nat):List Int:=(List.range i).map (pX D ls d)
theorem WI (D:List Dt)(ls:List (List Int))(d:Int)(i:Nat):(itL D ls d i).length=i:=by simp [itL]
theorem aJo (D:List Dt)(ls:List (List Int))(d:Int)(i:Nat):itL D ls d (i+1)=itL D ls d i++[pX D ls d i]:=by
 unfold itL;rw [List.range_succ,List.map_append];rfl
theorem aBx {l:List Pt}{D:List Dt}{ls:List (List Int)}{d:Int}(h:nxB D ls d=true):nxS l D ls [iv d]=some (true,iv (CO D ls d)):=by
 show some (nxB D ls d,iv (CO D ls d))=_;rw [h]
def e83 (d:Int)(i:Nat)(x:Int):List (Nat × Value):=[(0,.pointer (some ⟨0,0,none⟩)),(1,iv d),(5,.slice (some ⟨2000,0,none⟩) i i),(6,iv x)]
def aId:Nat × XF:=(83,aKh wkS)
theorem aM0:cT Go.Proofs.Tryz.prog aId.1 aId.2:=aEA (f:=83) (s:=wkS) (aL (xl:=[aGQ]) (.cons aMV .nil)) fun l D ls r out rest hs=>by
 have:∃ d,r=[iv d]∧wJ l D ls=true∧0≤d∧d<D.length∧pX D ls d (pG D ls d)=d∧out=wO D ls d∧rest=[]:=by
  unfold wkS at hs;split at hs
  ·rename_i d;injection hs with hs;injection hs with h1 h2;injection h2 with h2 h3;simp only [Bool.and_eq_true,decide_eq_true_eq] at h1;exact⟨d,rfl,h1.1.1.1,h1.1.1.2,h1.1.2,h1.2,h2.symm,h3.symm⟩
  ·cases hs
 obtain⟨d,rfl,hB,h1,h2,h3,rfl,rfl⟩:=this;clear hs;have hn:=JT (ES hB);have hlow:=nT D ls d D.length 1;have hin:=T2 hB h1 h2;refine⟨rfl,rfl,by omega,ls.length,fun nE c1 c2 n fo=>?_⟩;have hout:wO D ls d=itL D ls d (pG D ls d):=rfl;have hno:∀ q,2000≤q→look (gP l D ls nE c1 c2 n fo ls.length) q=none:=fun q hq=>EO (by omega) (.inr hq);rw [hout];unfold pG at h3 ⊢;generalize HT D ls d D.length 1=N at h3 hlow ⊢;obtain⟨hN1,hN2,hN3⟩:=hlow;(conv=>whnf);refine⟨0,[iv d],4,5,1,2,6,tN ls.length,l,D,ls,nE,c1,c2,n,fo,rfl,M5 (ext_cons (fun _ _ h=>h) (EO (by omega) (.inr (Nat.le_refl _)))),?_⟩;rw [aBx (LG hB h1 h2).1];refine aM rfl ?_;(conv=>whnf);refine⟨fun q e h nx=>∃ i:Nat,1≤i∧i≤N∧q=N - i∧e=e83 d i (pX D ls d i)∧h=[(2000,.cells true false 1 (flat aP.fl (itL D ls d i)))]++gP l D ls nE c1 c2 n fo ls.length∧nx=2001,⟨N - 1,?_⟩,?_⟩
 ·refine rK (P:=[(2000,.cells true false 1 (flat aP.fl (itL D ls d 1)))]) (W:=gP l D ls nE c1 c2 n fo ls.length) (e0:=e83 d 1 (pX D ls d 1)) (n0:=2001) [] ⟨1,Nat.le_refl _,hN1,rfl,rfl,rfl,rfl⟩ ?_ (uZ (by omega)) (ext_cons (fun _ _ h=>h) (EO (by omega) (.inr (Nat.le_refl _)))) ?_ ?_ (fun _ h=>(by cases h)) (by omega)
  ·unfold e83;((repeat' refine iE rfl rfl ?_);exact iN)
  ·exact List.forall_mem_cons.2 ⟨⟨Nat.le_refl _,Nat.lt_succ_self _,Nat.le_refl _,_,rfl,aU (aH _ _) rfl⟩,fun _ h=>(by cases h)⟩
  show ∀ k∈[2000],∀ k'∈[2000],_;decide
 rintro q e h nx ⟨i,hi1,hi,rfl,rfl,rfl,rfl⟩;unfold e83;((conv=>whnf);apply bm<;>intro g1);rotate_left
 ·have hx:pX D ls d i=d:=(by simpa [aA,aC] using g1);have hge:i=N:=by
   refine Decidable.byContradiction fun hc=>hN3 i hi1 (by omega) hx
  subst hge;(conv=>whnf);refine⟨2000,?_,rfl⟩;unfold YM;rw [WI];rfl
 have hx:pX D ls d i≠d:=(by simpa [aA,aC] using g1);have hlt:i<N:=by
  refine Decidable.byContradiction fun hc=>hx ?_;rw [show i=N by omega];exact h3
 have hB':=LG hB (hin i).1 (hin i).2;have hs:itL D ls d (i+1)=itL D ls d i++[pX D ls d i]:=aJo D ls d i;have hll:=WI D ls d i;have hnx:pX D ls d (i+1)=CO D ls (pX D ls d i):=rfl;generalize itL D ls d i=M at hs hll ⊢
 repeat' first
  |((conv=>whnf)
    refine bm1 (k:=i) ?_)
  |(((conv=>whnf);apply bm<;>intro g))
 ·(conv=>whnf);refine⟨0,[iv (pX D ls d i)],4,5,1,2,6,tN ls.length,l,D,ls,nE,c1,c2,n,fo,rfl,M5 ?_,?_⟩
  ·exact aK (bA (aK (ext_cons (fun _ _ h=>h) (hno _ (by omega))) (hno _ (by omega))) (hno _ (by omega))) (hno _ (by omega))
  rw [aBx hB'.1];refine aM rfl ?_;(conv=>whnf);refine⟨N - (i+1),by omega,?_⟩;refine rK (P:=[(2000,.cells true false 1 (flat aP.fl (itL D ls d (i+1))))]) (W:=gP l D ls nE c1 c2 n fo ls.length) (e0:=e83 d (i+1) (pX D ls d (i+1))) (n0:=2001) [(2000,2002)] ⟨i+1,by omega,by omega,rfl,rfl,rfl,rfl⟩ ?_ (uZ (by omega)) ?_ ?_ ?_ (by decide) (by omega)
  ·unfold e83;((repeat' refine iE rfl rfl ?_);exact iN)
  ·exact aK (bA (aK (ext_cons (fun _ _ h=>h) (hno _ (by omega))) (hno _ (by omega))) (hno _ (by omega))) (hno _ (by omega))
  ·refine List.forall_mem_cons.2 ⟨⟨Nat.le_refl _,Nat.lt_succ_self _,Nat.le_of_ble_eq_true rfl,_,rfl,aU (aH _ _) ?_⟩,fun _ h=>(by cases h)⟩;rw [hs,← cL aP M (pX D ls d i) (n:=i) hll.symm];rfl
  show ∀ k∈[2000],∀ k'∈[2000],_;decide
 exact jA (by rw [a7,hll];rfl) (by omega) g
def dX {α:Type}(ok:α→Prop)(A:α→List Value)(H:α→Heap)(N:α→Nat)(V:α→Value)(H':α→Heap)(N':α→Nat):XF:=fun args h nx K=>∃ a,ok a∧args=A a∧h=H a∧nx=N a∧K (V a) (H' a) (N' a)
theorem aAO {α:Type}{ok:α→Prop}{A:α→List Value}{H:α→Heap}{N:α→Nat}{V:α→Value}{H':α→Heap}{N':α→Nat}{P:Program}{C:VC}{f:Nat}(hC:bN P C)
  (hs:∀ a,ok a→C f (A a) (H a) (N a) (fun v h nx=>∃ ρ,u7 (N a) ρ [(0,V a)] (H' a) (N' a) [(0,v)] h nx)):cT P f (dX ok A H N V H' N'):=by
 refine⟨fun args h nx K hx ι B w HH hsc=>?_,fun args h nx K hx=>?_⟩
 ·obtain⟨a,h1,rfl,rfl,rfl,hk⟩:=hx;obtain⟨c1,c2⟩:=hC f _ _ _ _ (hs a h1) ι B w HH hsc;refine⟨c1,CallsIn.mono c2 fun e w' hr=>?_⟩;cases e with
  |returned u =>
   obtain⟨v,h',nx',ι1,⟨ρ,hρ⟩,q2,q3,q4,q5,q6,rfl⟩:=hr;obtain⟨e1,e2⟩:=hρ.env 0 (V a) rfl;have ev:v=jX ρ (V a):=by
    have:some v=some (jX ρ (V a)):=e1;injection this
   subst ev;refine⟨V a,H' a,N' a,fun k=>ι1 (ρ k),hk,ED q2 e2,hρ.aIC q3,q4,fun k hk=>?_,hρ.le,F3 q2⟩;show ι1 (ρ k)=ι k;rw [hρ.fix k hk];exact q5 k hk
  |_=>exact hr.elim
 obtain⟨a,h1,h2,h3,h4,hk⟩:=hx;exact⟨_,_,_,hk,fun K' hk'=>⟨a,h1,h2,h3,h4,hk'⟩⟩
def m6 (D:List Dt)(x:Int):Nat:=(cB D x.toNat).tt.toNat
def DW (D:List Dt)(ls:List (List Int)):Nat→List Bool→Nat→List Bool
 |0,S,_=>S
 |n+1,S,p=>(bR ls p).foldl (fun S x=>if dD S (m6 D x)=true then S else DW D ls n S (m6 D x)) (S.set p true)
def rF (D:List Dt)(ls:List (List Int))(n:Nat)(S:List Bool)(p i:Nat):List Bool:=((bR ls p).take i).foldl (fun S x=>if dD S (m6 D x)=true then S else DW D ls n S (m6 D x)) (S.set p true)
theorem aD0 {D:List Dt}{ls:List (List Int)}{n:Nat}{S:List Bool}{p i:Nat}(hi:i<(bR ls p).length):rF D ls n S p (i+1)=if dD (rF D ls n S p i) (m6 D (aD (bR ls p) i))=true then rF D ls n S p i else DW D ls n (rF D ls n S p i) (m6 D (aD (bR ls p) i)):=by
 unfold rF;rw [List.take_succ_eq_append_getElem hi,List.foldl_append,dM hi];rfl
theorem aB6 {D:List Dt}{ls:List (List Int)}{n:Nat}{S:List Bool}{p:Nat}:rF D ls n S p (bR ls p).length=DW D ls (n+1) S p:=by
 unfold rF;rw [List.take_length];rfl
def gO (S:List Bool):Nat:=S.countP fun b=>!b
theorem LQ {S:List Bool}{p:Nat}(hp:p<S.length)(h:dD S p=false):gO (S.set p true)+1=gO S:=by
 unfold gO;rw [rX hp] at h
 induction S generalizing p with
 |nil=>simp at hp
 |cons b r ih =>
  cases p with
  |zero =>
   simp only [List.getElem_cons_zero] at h;subst h;simp
  |succ p =>
   simp only [List.getElem_cons_succ] at h;have:=ih (by simpa using hp) h;simp only [List.set_cons_succ,List.countP_cons];omega
theorem SL (S:List Bool)(p:Nat):gO (S.set p true)≤gO S:=by
 unfold gO
 induction S generalizing p with
 |nil=>simp
 |cons b r ih =>
  cases p with
  |zero=>simp [List.countP_cons]
  |succ p =>
   have:=ih p;simp only [List.set_cons_succ,List.countP_cons];omega
theorem H7 (D:List Dt)(ls:List (List Int)):∀ (n:Nat) (S:List Bool) (p:Nat),gO (DW D ls n S p)≤gO S∧(DW D ls n S p).length=S.length
 |0,S,p=>⟨Nat.le_refl _,rfl⟩
 |n+1,S,p=>by
  unfold DW;have key:∀ (L:List Int) (M:List Bool),gO (L.foldl (fun S x=>if dD S (m6 D x)=true then S else DW D ls n S (m6 D x)) M)≤gO M∧(L.foldl (fun S x=>if dD S (m6 D x)=true then S else DW D ls n S (m6 D x)) M).length=M.length:=by
   intro L
   induction L with
   |nil=>exact fun M=>⟨Nat.le_refl _,rfl⟩
   |cons x r ih =>
    intro M;rw [List.foldl_cons];split
    ·exact ih M
    obtain⟨a1,a2⟩:=ih (DW D ls n M (m6 D x));obtain⟨b1,b2⟩:=H7 D ls n M (m6 D x);exact⟨by omega,by omega⟩
  obtain⟨a1,a2⟩:=key (bR ls p) (S.set p true);have:=SL S p;rw [List.length_set] at a2;exact⟨by omega,a2⟩
theorem XD {D:List Dt}{ls:List (List Int)}{n:Nat}{S:List Bool}{p:Nat}:∀ i,i≤(bR ls p).length→gO (rF D ls n S p i)≤gO (S.set p true)∧(rF D ls n S p i).length=S.length
 |0,_=>by unfold rF;simp
 |i+1,h=>by
  obtain⟨a1,a2⟩:=XD (D:=D) (ls:=ls) (n:=n) (S:=S) (p:=p) i (by omega);rw [aD0 (by omega)];split
  ·exact⟨a1,a2⟩
  obtain⟨b1,b2⟩:=H7 D ls n (rF D ls n S p i) (m6 D (aD (bR ls p) i));exact⟨by omega,by omega⟩
structure aCz where
 p:Int
 l:List Pt
 D:List Dt
 ls:List (List Int)
 nE:Nat
 c1:Nat
 c2:Nat
 n:Int
 fo:Option (Nat × Nat)
 S:List Bool
def aHs:Value:=.func (.func 211) #[] #[.pointer (some ⟨2002,0,none⟩),.pointer (some ⟨2000,0,none⟩),.pointer (some ⟨2003,0,none⟩)]
def sO (a:aCz)(S:List Bool):Heap:=(2003,.cells true false 1 [aHs])::(2002,.cells true false 1 [.slice (some ⟨2001,0,none⟩) a.ls.length a.ls.length])::(2001,.cells true false 1 (flat gI.fl S))::(2000,.cells true false 1 [.pointer (some ⟨0,0,none⟩)])::gP a.l a.D a.ls a.nE a.c1 a.c2 a.n a.fo a.ls.length
def Z1 (D:List Dt)(ls:List (List Int)):Bool:=ls.all fun L=>decide (L.length≠0)&&decide (L.length≤1000)&&fI D L
theorem aFk {D:List Dt}{ls:List (List Int)}(h:Z1 D ls=true){i:Nat}(hi:i<ls.length):(bR ls i).length≠0∧(bR ls i).length≤1000∧fI D (bR ls i)=true:=by
 have:=List.all_eq_true.1 h _ (List.getElem_mem hi);unfold bR;rw [List.getD_eq_getElem?_getD,List.getElem?_eq_getElem hi];simp only [Bool.and_eq_true,decide_eq_true_eq] at this;exact⟨this.1.1,this.1.2,this.2⟩
def aKi (n:Nat)(a:aCz):Prop:=IB a.l a.D a.ls=true∧Z1 a.D a.ls=true∧0≤a.p∧a.p<a.ls.length∧a.S.length=a.ls.length∧dD a.S a.p.toNat=false∧gO a.S≤n
def C9 (p:Int)(s q:Nat)(j:Int):List (Nat × Value):=[(0,iv p),(1,.pointer (some ⟨2002,0,none⟩)),(2,.pointer (some ⟨2000,0,none⟩)),(3,.pointer (some ⟨2003,0,none⟩)),(16,.slice (some ⟨s+1000,0,none⟩) q q),(17,iv q),(18,iv j)]
def aHR (n:Nat):XF:=dX (aKi n) (fun a=>[iv a.p,.pointer (some ⟨2002,0,none⟩),.pointer (some ⟨2000,0,none⟩),.pointer (some ⟨2003,0,none⟩)]) (fun a=>sO a a.S) (fun _=>2004) (fun _=>.tuple #[]) (fun a=>sO a (DW a.D a.ls n a.S a.p.toNat)) (fun _=>2004)
theorem E1 {W:Heap}{b c:Nat}(h:zT W b)(hb:b≤c):zT W c:=fun k o hk=>by
 obtain⟨h1,h2⟩:=h k o hk;exact⟨by omega,rW (fun _ _=>rfl) hb h2⟩
theorem AT {a:aCz}{M:List Bool}(hn:a.ls.length≤1000):zT (sO a M) 2004:=by
 unfold sO;refine c8 (c8 (c8 (c8 (E1 (uZ hn) (by omega)) (by omega) ?_) (by omega) (aN (aH _ _))) (by omega) ?_) (by omega) ?_
 ·exact⟨rfl,rfl,rfl,rfl,List.forall_mem_cons.2 ⟨⟨Nat.le_of_ble_eq_true rfl,rfl⟩,fun _ h=>(by cases h)⟩⟩
 ·exact⟨rfl,rfl,rfl,rfl,List.forall_mem_cons.2 ⟨⟨Nat.le_of_ble_eq_true rfl,fun h=>by cases h⟩,fun _ h=>(by cases h)⟩⟩
 refine⟨rfl,rfl,rfl,by simp [aHs,cD,bT,oK,eG,mB],List.forall_mem_cons.2 ⟨⟨trivial,?_⟩,fun _ h=>(by cases h)⟩⟩;intro v hv;simp only [List.mem_cons,List.not_mem_nil,or_false] at hv;rcases hv with rfl|rfl|rfl
 ·exact⟨Nat.le_of_ble_eq_true rfl,rfl⟩
 ·exact⟨Nat.le_of_ble_eq_true rfl,rfl⟩
 exact⟨Nat.le_of_ble_eq_true rfl,rfl⟩
theorem aEt {a:aCz}{M:List Bool}{s:Nat}(hn:a.ls.length≤1000)(hs:s<a.ls.length)(h0:(bR a.ls s).length≠0):look (sO a M) (s+1000)=some (.cells false false 1 (flat aP.fl (bR a.ls s))):=by
 unfold sO;rw [bK (by omega),bK (by omega),bK (by omega),bK (by omega)];have:=JX (l:=a.l) (D:=a.D) (nE:=a.nE) (c1:=a.c1) (c2:=a.c2) (n:=a.n) (fo:=a.fo) (s:=a.ls.length) hs h0
 rwa [show tN a.ls.length s=s+1000 by unfold tN;rw [if_neg (by omega)]] at this
theorem M1 {p j:Int}{s q:Nat}{e:List (Nat × Value)}(hs:s<1000)(he:∀ x∈C9 p s q j,look e x.1=some x.2):∀ x∈C9 p s q j,look e x.1=some (jX (rn []) x.2)∧C3 2004 x.2:=by
 have key:∀ x∈C9 p s q j,jX (rn []) x.2=x.2∧C3 2004 x.2:=by
  unfold C9;refine List.forall_mem_cons.2 ⟨⟨rfl,dI rfl⟩,List.forall_mem_cons.2 ⟨⟨rfl,Nat.le_of_ble_eq_true rfl,rfl⟩,List.forall_mem_cons.2 ⟨⟨rfl,Nat.le_of_ble_eq_true rfl,rfl⟩,List.forall_mem_cons.2 ⟨⟨rfl,Nat.le_of_ble_eq_true rfl,rfl⟩,List.forall_mem_cons.2 ⟨⟨rfl,show s+1000<2004 by omega,fun h=>by cases h⟩,List.forall_mem_cons.2 ⟨⟨rfl,dI rfl⟩,List.forall_mem_cons.2 ⟨⟨rfl,dI rfl⟩,fun _ h=>(by cases h)⟩⟩⟩⟩⟩⟩⟩
 exact fun x hx=>⟨by rw [(key x hx).1];exact he x hx,(key x hx).2⟩
theorem aFB {W:Heap}{b:Nat}(h:zT W b){v:Value}(hv:gT v=true):∃ ρ,u7 b ρ [(0,v)] W b [(0,v)] W b :=
 ⟨id,fun t u hu=>by
  have hm:=bF hu;simp only [List.mem_cons,List.not_mem_nil,or_false] at hm;injection hm with e1 e2;subst e1 e2;exact⟨by rw [jX,gZ hv];rfl,dI hv⟩,fun k o hk=>⟨(h k o hk).1,o,hk,(h k o hk).2⟩,fun _ _ _ _ _ _ e=>e,fun _ _=>rfl,Nat.le_refl _⟩
theorem XX {S:List Bool}{p:Nat}(hp:p<S.length)(h:dD S p=false):0<gO S:=by
 have:=LQ hp h;omega
theorem aGu:∀ n,cT Go.Proofs.Tryz.prog 211 (aHR n)
 |0=>aAO (aL (xl:=[]) .nil) fun a ⟨h1,h2,h3,h4,h5,h6,h7⟩=>by
  have:=XX (by omega) h6;omega
 |n+1=>aAO (aL (xl:=[(211,aHR n)]) (.cons (aGu n) .nil)) fun a ⟨h1,h2,h3,h4,h5,h6,h7⟩=>by
  obtain⟨p,l,D,ls,nE,c1,c2,nI,fo,S⟩:=a;simp only at h1 h2 h3 h4 h5 h6 h7;have hn:=JT h1;obtain⟨q1,q2,q3⟩:=aFk h2 (i:=p.toNat) (by omega);generalize ha:(⟨p,l,D,ls,nE,c1,c2,nI,fo,S⟩:aCz)=a;have hvH:∀ M:List Bool,sO a M=(2003,.cells true false 1 [aHs])::(2002,.cells true false 1 [.slice (some ⟨2001,0,none⟩) ls.length ls.length])::(2001,.cells true false 1 (flat gI.fl M))::(2000,.cells true false 1 [.pointer (some ⟨0,0,none⟩)])::gP l D ls nE c1 c2 nI fo ls.length:=fun M=>(by rw [← ha];rfl);have hpa:a.p=p:=(by rw [← ha]);have hSa:a.S=S:=(by rw [← ha]);have hDa:a.D=D:=(by rw [← ha]);have hla:a.ls=ls:=(by rw [← ha]);simp only [hpa,hSa,hDa,hla];clear ha hpa hSa hDa;rw [hvH S];generalize hpp:p.toNat=s at *;generalize hq:(bR ls s).length=q at *;have hvv:tV (tN ls.length s) (bR ls s)=.slice (some ⟨s+1000,0,none⟩) q q:=(by rw [tV,if_neg (by omega),tN,if_neg (by omega),hq]);have key:∀ o,o=s*1→nth (tC ls.length ls) o=some (.slice (some ⟨s+1000,0,none⟩) q q):=fun o ho=>(by rw [HB (by omega) ho,hvv]);unfold gP EC;rw [lS (Nat.le_refl _)]
  repeat' first
   |(((conv=>whnf);apply bm<;>intro g))
   |((conv=>whnf)
     refine eC (key _ ?_) ?_
     ·show _+Int.toNat p*1=_;omega)
  all_goals first
   |(exfalso;simp [aA,aC,aF] at g;omega)
   |(exfalso
     have hb:Nat.ble (0+Int.toNat p*1+1) (flat gI.fl S).length=true:=Nat.ble_eq_true_of_le (by rw [a7];show _≤S.length*1;omega);exact Bool.false_ne_true (g.symm.trans hb))
   |skip
  (conv=>whnf);refine⟨fun q' e h nx=>∃ (i:Nat) (j:Int),j=i∧i≤q∧q'=q - i∧e=C9 p s q j∧h=sO a (rF D ls n S s i)∧nx=2004,⟨q,?_⟩,?_⟩
  ·refine rK (P:=[]) (W:=sO a (rF D ls n S s 0)) (e0:=C9 p s q 0) (n0:=2004) [] ⟨0,0,rfl,Nat.zero_le _,rfl,rfl,rfl,rfl⟩ ?_ ?_ ?_ (fun _ h=>(by cases h)) (fun _ h=>(by cases h)) (fun _ h=>(by cases h)) (Nat.le_refl _)
   ·refine M1 (by omega) ?_;unfold C9;exact List.forall_mem_cons.2 ⟨rfl,List.forall_mem_cons.2 ⟨rfl,List.forall_mem_cons.2 ⟨rfl,List.forall_mem_cons.2 ⟨rfl,List.forall_mem_cons.2 ⟨rfl,List.forall_mem_cons.2 ⟨rfl,List.forall_mem_cons.2 ⟨rfl,fun _ h=>(by cases h)⟩⟩⟩⟩⟩⟩⟩
   ·exact AT (by rw [hla];omega)
   intro k o hk;have bZ:cN (flat gI.fl S) (0+Int.toNat p*1) [.bool true]=flat gI.fl (rF D ls n S s 0):=by
    rw [hpp,Nat.zero_add,AR _ _ _ (by omega)];rfl
   rw [hvH,← bZ] at hk;unfold gP EC at hk;rw [lS (Nat.le_refl _)] at hk;exact hk
  rintro q' e h nx ⟨i,j,hj,hi,rfl,rfl,rfl,rfl⟩;unfold C9;((conv=>whnf);apply bm<;>intro h8);rotate_left
  ·have hge:i=q:=(by simp [aA,aC] at h8;omega);(conv=>whnf);rw [hge,← hq,aB6];exact aFB (AT (by rw [hla];omega)) rfl
  have hlt:i<q:=(by simp [aA,aC] at h8;omega);have hli:look (sO a (rF D ls n S s i)) (s+1000)=some (.cells false false 1 (flat aP.fl (bR ls s))):=by
   have:=aEt (a:=a) (M:=rF D ls n S s i) (s:=s) (by rw [hla];omega) (by rw [hla];omega) (by rw [hla,hq];exact q1)
   rwa [hla] at this
  have hd:=jY q3 (i:=i) (by omega);have ht:=SB h1 (i:=(aD (bR ls s) i).toNat) (by omega);((conv=>whnf);apply bm<;>intro h9);rotate_left
  ·exfalso;simp [aA,aC] at h9;omega
  (conv=>whnf);rw [hli];(conv=>whnf);refine eC (bY (bR ls s) (i:=i) (by omega) ?_) ?_
  ·show _+Int.toNat j*1=_;omega
  have hvs:=aD0 (D:=D) (n:=n) (S:=S) (show i<(bR ls s).length by omega);have hvl:=(XD (D:=D) (ls:=ls) (n:=n) (S:=S) (p:=s) i (by omega));generalize rF D ls n S s i=M at hvs hvl ⊢;generalize aD (bR ls s) i=x at hd ht hvs ⊢;rw [hvH M];unfold gP EC;rw [lS (Nat.le_refl _)];have hE:∀ p' S' X,sO ⟨p',l,D,ls,nE,c1,c2,nI,fo,S'⟩ X=sO a X:=fun p' S' X=>(by rw [hvH];rfl);have hcs:=LQ (S:=S) (p:=s) (by omega) h6;((conv=>whnf);apply bm<;>intro b1);rotate_left
  ·exfalso;simp [aA,aC] at b1;omega
  (conv=>whnf);refine eC (VW D (i:=x.toNat) (by omega) ?_) ?_
  ·show _+Int.toNat x*5+4=_;omega
  ((conv=>whnf);apply bm<;>intro b2);rotate_left
  ·exfalso;simp [aA,aC] at b2;omega
  (conv=>whnf);refine eC (PJ M (i:=m6 D x) (by show Int.toNat _<_;omega) ?_) ?_
  ·show _+Int.toNat (cB D x.toNat).tt*1=_;rw [Nat.zero_add];rfl
  ((conv=>whnf);apply bm<;>intro b3);rotate_left
  ·have hM:dD M (m6 D x)=true:=(by simpa [aA,aC] using b3);((conv=>whnf);apply bm<;>intro b4)
   ·(conv=>whnf);refine⟨q - (i+1),by omega,?_⟩;refine rK (P:=[]) (W:=sO a (rF D ls n S s (i+1))) (e0:=C9 p s q (j+1)) (n0:=2004) [] ⟨i+1,j+1,by omega,by omega,rfl,rfl,rfl,rfl⟩ ?_ (AT (by rw [hla];omega)) ?_ (fun _ h=>(by cases h)) (fun _ h=>(by cases h)) (fun _ h=>(by cases h)) (Nat.le_refl _)
    ·refine M1 (by omega) ?_;unfold C9;exact List.forall_mem_cons.2 ⟨rfl,List.forall_mem_cons.2 ⟨rfl,List.forall_mem_cons.2 ⟨rfl,List.forall_mem_cons.2 ⟨rfl,List.forall_mem_cons.2 ⟨rfl,List.forall_mem_cons.2 ⟨rfl,List.forall_mem_cons.2 ⟨rfl,fun _ h=>(by cases h)⟩⟩⟩⟩⟩⟩⟩
    intro k o hk;rw [hvs,if_pos hM,hvH M] at hk;unfold gP EC at hk;rw [lS (Nat.le_refl _)] at hk;exact hk
   exfalso;simp [aA,aC,aF] at b4;omega
  have hM:dD M (m6 D x)=false:=(by simpa [aA,aC] using b3);((conv=>whnf);apply bm<;>intro b4);rotate_left
  ·exfalso;simp [aA,aC] at b4;omega
  (conv=>whnf);refine eC (VW D (i:=x.toNat) (by omega) ?_) ?_
  ·show _+Int.toNat x*5+4=_;omega
  (conv=>whnf);refine⟨⟨(cB D x.toNat).tt,l,D,ls,nE,c1,c2,nI,fo,M⟩,⟨h1,h2,ht.2.2.1,?_,?_,hM,?_⟩,rfl,?_,rfl,?_⟩
  ·show (cB D x.toNat).tt<(ls.length:Int);omega
  ·show M.length=ls.length;omega
  ·show gO M≤n;omega
  ·show _=sO _ M;unfold sO gP EC;simp only;rw [lS (Nat.le_refl _)]
  ((conv=>whnf);apply bm<;>intro b5)
  ·(conv=>whnf);refine⟨q - (i+1),by omega,?_⟩;refine rK (P:=[]) (W:=sO a (rF D ls n S s (i+1))) (e0:=C9 p s q (j+1)) (n0:=2004) [] ⟨i+1,j+1,by omega,by omega,rfl,rfl,rfl,rfl⟩ ?_ (AT (by rw [hla];omega)) ?_ (fun _ h=>(by cases h)) (fun _ h=>(by cases h)) (fun _ h=>(by cases h)) (Nat.le_refl _)
   ·refine M1 (by omega) ?_;unfold C9;exact List.forall_mem_cons.2 ⟨rfl,List.forall_mem_cons.2 ⟨rfl,List.forall_mem_cons.2 ⟨rfl,List.forall_mem_cons.2 ⟨rfl,List.forall_mem_cons.2 ⟨rfl,List.forall_mem_cons.2 ⟨rfl,List.forall_mem_cons.2 ⟨rfl,fun _ h=>(by cases h)⟩⟩⟩⟩⟩⟩⟩
   intro k o hk;rw [hvs,if_neg (by rw [hM];decide),← hE (cB D x.toNat).tt M] at hk;exact hk
  exfalso;simp [aA,aC,aF] at b5;omega
end Go.Aw
end
