/-
  Parts of the proof, put together. No condition.
-/
import Derived.Test.YtjahkcbdecgbhaaGreatQBh
set_option linter.unusedSimpArgs false
set_option linter.unusedVariables false
noncomputable section
namespace Go.Aw
set_option maxRecDepth 100000
set_option maxHeartbeats 2000000
def ZF (l:List Pt)(D:List Dt)(d:Int):Int:=(dL l (bX D d.toNat).fr.toNat).1*(dL l (bX D d.toNat).tt.toNat).2 - (dL l (bX D d.toNat).tt.toNat).1*(dL l (bX D d.toNat).fr.toNat).2
def GO (l:List Pt)(D:List Dt)(ls:List (List Int)):Bool:=l.all wide&&(D.all fun e=>decide (0≤e.fr)&&decide (e.fr<l.length)&&(decide (0≤e.tt)&&decide (e.tt<l.length)))&&decide (D.length≤1000)&&decide (ls.length=l.length)&&decide (l.length≤1000)
theorem PF {l:List Pt}{D:List Dt}{ls:List (List Int)}(h:GO l D ls=true){i:Nat}(hi:i<D.length):0≤(bX D i).fr∧(bX D i).fr<l.length∧0≤(bX D i).tt∧(bX D i).tt<l.length:=by
 simp only [GO,Bool.and_eq_true] at h;have:=List.all_eq_true.1 h.1.1.1.2 _ (List.getElem_mem hi);rw [oU hi];simp only [Bool.and_eq_true,decide_eq_true_eq] at this;omega
theorem J1 {l:List Pt}{D:List Dt}{ls:List (List Int)}(h:GO l D ls=true){i:Nat}(hi:i<l.length) : -1000000≤(dL l i).1∧(dL l i).1≤1000000∧-1000000≤(dL l i).2∧(dL l i).2≤1000000:=by
 simp only [GO,Bool.and_eq_true] at h;have:=List.all_eq_true.1 h.1.1.1.1 _ (List.getElem_mem hi);rw [kE hi];unfold wide at this;simp only [Bool.and_eq_true,decide_eq_true_eq] at this;omega
theorem JB {l:List Pt}{D:List Dt}{ls:List (List Int)}(h:GO l D ls=true):D.length≤1000∧ls.length=l.length∧l.length≤1000:=by
 simp only [GO,Bool.and_eq_true,decide_eq_true_eq] at h;exact⟨h.1.1.2,h.1.2,h.2⟩
def crS (l:List Pt)(D:List Dt)(ls:List (List Int)):List Value→Option (Bool × Value)
 |[.int .i64 d]=>some (GO l D ls&&decide (0≤d)&&decide (d<D.length),iv (ZF l D d))
 |_=>none
theorem YQ {s:Nat}{ls:List (List Int)}{n k:Nat}(h:k<1000∨1000+n≤k):look (eJ (tH s ls n)) k=none:=by
 rw [gB,aBS h];rfl
def aBl:Nat × XF:=(168,wbX crS)
theorem KK {a b:Int}(h1 : -1000000≤a)(h2:a≤1000000)(h3 : -1000000≤b)(h4:b≤1000000) : -1000000000000≤a*b∧a*b≤1000000000000:=by
 have p1:0≤(1000000 - a)*(1000000+b):=Int.mul_nonneg (by omega) (by omega);have p2:0≤(1000000+a)*(1000000 - b):=Int.mul_nonneg (by omega) (by omega);have p3:0≤(1000000 - a)*(1000000 - b):=Int.mul_nonneg (by omega) (by omega);have p4:0≤(1000000+a)*(1000000+b):=Int.mul_nonneg (by omega) (by omega);simp only [Int.sub_mul,Int.add_mul,Int.mul_sub,Int.mul_add] at p1 p2 p3 p4;omega
theorem aIb:cJ Go.Proofs.Tryz.prog aBl.1 aBl.2:=P7 (aK (xl:=[]) .nil) fun l D ls r v hs=>by
 have:∃ d,r=[iv d]∧GO l D ls=true∧0≤d∧d<D.length∧v=iv (ZF l D d):=by
  unfold crS at hs;split at hs
  ·rename_i d;injection hs with hs;injection hs with h1 h2;simp only [Bool.and_eq_true,decide_eq_true_eq] at h1;exact⟨d,rfl,h1.1.1,h1.1.2,h1.2,h2.symm⟩
  ·cases hs
 obtain⟨d,rfl,hB,h1,h2,rfl⟩:=this;clear hs;have hn:=JB hB;refine⟨rfl,rfl,by omega,ls.length,fun nE c1 c2 n fo=>?_⟩;have ho7:WX (bK ls ls.length)=[]:=lG (Nat.le_refl _);obtain⟨b1,b2,b3,b4⟩:=PF hB (i:=d.toNat) (by omega);have hp:=J1 hB (i:=(bX D d.toNat).fr.toNat) (by omega);have hq:=J1 hB (i:=(bX D d.toNat).tt.toNat) (by omega);unfold fK GN;rw [ho7]
 repeat' first
  |(((conv=>whnf);refine bm (fun g=>?_) (fun g=>?_)))
  |((conv=>whnf)
    refine fY (TK D (i:=d.toNat) (by omega) ?_) ?_
    ·show _+Int.toNat d*5+4=_;omega)
  |((conv=>whnf)
    refine fY (aHP D (i:=d.toNat) (by omega) ?_) ?_
    ·show _+Int.toNat d*5+3=_;omega)
  |((conv=>whnf)
    refine mR (jE l (i:=(bX D d.toNat).fr.toNat) (by omega) ?_) ?_
    ·show _+Int.toNat (bX D d.toNat).fr*2=_;omega)
  |((conv=>whnf)
    refine mR (jE l (i:=(bX D d.toNat).tt.toNat) (by omega) ?_) ?_
    ·show _+Int.toNat (bX D d.toNat).tt*2=_;omega)
 all_goals first
  |(exfalso;simp [aA,aB,aH] at g;omega)
  |(exfalso
    have g:(match look (eJ (tH ls.length ls ls.length)) 2000 with|none=>true|some _=>false)=false:=g;rw [YQ (by omega)] at g;cases g)
  |(exfalso
    have m1:=KK hp.1 hp.2.1 hq.2.2.1 hq.2.2.2;have m2:=KK hq.1 hq.2.1 hp.2.2.1 hp.2.2.2;simp [aA,aB,aH] at g;omega)
  |((conv=>whnf)
    first
     |done
     |rfl)
def xO (W:Heap)(b:Nat):Prop:=∀ k o,look W k=some o→k<b∧bO id b o o
theorem qT {b n0:Nat}{ρ:Nat→Nat}(hρ:∀ k,k<b→ρ k=k)(hb:b≤n0){o:aV}(h:bO id b o o):bO ρ n0 o o:=by
 have key:∀ v,A8 b v→bN ρ v=bN id v:=fun v hv=>l8 (ι:=kA id) (ι':=kA ρ) (n:=b) (fun k hk=>by show Loc.lay _ _ _=Loc.lay _ _ _;rw [hρ k hk];rfl) hv;have mono:∀ v,A8 b v→A8 n0 v:=fun v hv=>iQ (ι:=kA id) (ι':=kA id) hb (fun _ _=>rfl) hv;cases o with
 |cells wr g sz cs =>
  obtain⟨h1,h2,h3,h4,h5⟩:=h;refine⟨rfl,rfl,rfl,?_,fun v hv=>mono v (h5 v hv)⟩
  conv=>lhs;rw [h4]
  exact List.map_congr_left fun v hv=>(key v (h5 v hv)).symm
 |map es =>
  obtain⟨h1,h2⟩:=h;refine⟨?_,fun v hv=>mono _ (h2 v hv)⟩
  conv=>lhs;rw [h1]
  exact List.map_congr_left fun v hv=>by rw [key _ (h2 v hv)]
 |zero=>trivial
 |loop l=>exact h.elim
 |deferred=>exact h.elim
theorem qC {W:Heap}{k:Nat}{o:aV}:∀ {P:Heap},look (P++W) k=some o→(k,o)∈P∨look W k=some o
 |[],h=>.inr h
 |(j,q)::r,h=>by
  rw [List.cons_append,aE] at h;split at h
  ·rename_i hb;injection h with h;subst h;rw [beq_true hb];exact .inl (.head _)
  ·rcases qC h with h|h
   ·exact .inl (.tail _ h)
   ·exact .inr h
theorem qS {b n0 nx:Nat}{I:KS}{e0 e:List (Nat × Value)}{P W h:Heap}(L:List (Nat × Nat))(hI:I e0 (P++W) n0)(he:∀ p∈e0,look e p.1=some (fV (rn L) p.2)∧wJ n0 p.2)(hW:xO W b)(hk:∀ k o,look W k=some o→look h k=some o)
  (hP:∀ p∈P,b≤p.1∧p.1<n0∧b≤rn L p.1∧∃ o',look h (rn L p.1)=some o'∧bO (rn L) n0 p.2 o') (hi:∀ k∈P.map Prod.fst,∀ k'∈P.map Prod.fst,rn L k=rn L k'→k=k') (hL:∀ p∈L,b≤p.1) (hb:b≤n0):qV b I e h nx:=by
 have hfix:∀ k,k<b→rn L k=k:=fun k hk=>by
  unfold rn;split
  ·rename_i q hq;have:=hL _ (aZ hq);simp only at this;omega
  ·rfl
 have hc:∀ k o,look (P++W) k=some o→(k,o)∈P∨look W k=some o:=fun k o h=>qC h;refine⟨e0,P++W,n0,rn L,hI,fun t v hv=>he (t,v) (aZ hv),fun k o hk'=>?_,fun k k' o o' h1 h2 e=>?_,hfix,hb⟩
 ·rcases hc k o hk' with hm|hm
  ·exact (hP _ hm).2.1 |> fun x=>⟨x,(hP _ hm).2.2.2⟩
  ·obtain⟨a1,a2⟩:=hW k o hm;exact⟨by omega,o,by rw [hfix k a1];exact hk k o hm,qT hfix hb a2⟩
 ·rcases hc k o h1 with m1|m1 <;> rcases hc k' o' h2 with m2|m2
  ·exact hi k (List.mem_map.2 ⟨_,m1,rfl⟩) k' (List.mem_map.2 ⟨_,m2,rfl⟩) e
  ·have:=(hP _ m1).2.2.1;have b2:=(hW _ _ m2).1;simp only at this;rw [hfix k' b2] at e;omega
  ·have:=(hP _ m2).2.2.1;have b2:=(hW _ _ m1).1;simp only at this;rw [hfix k b2] at e;omega
  ·rwa [hfix k (hW _ _ m1).1,hfix k' (hW _ _ m2).1] at e
theorem tF {l:List Pt}{D:List Dt}{ls:List (List Int)}{nE c1 c2:Nat}{n:Int}{fo:Option (Nat × Nat)}{s:Nat}(hn:ls.length≤1000):xO (fK l D ls nE c1 c2 n fo s) 2000:=by
 intro k o hk;have hsl:∀ {q a b:Nat},q<2000→A8 2000 (.slice (some ⟨q,0,none⟩) a b):=fun hq=>⟨hq,fun h=>by cases h⟩;have hfix:∀ {cs:List Value},(∀ v∈cs,bN id v=v)→cs=cs.map (bN id):=fun {cs} h=>by
  conv=>lhs;rw [← List.map_id cs]
  exact List.map_congr_left fun v hv=>(h v hv).symm
 rcases DX (aZ hk) with ⟨rfl,rfl⟩|⟨rfl,rfl⟩|⟨rfl,rfl⟩|⟨rfl,rfl⟩|⟨i,hi,h0,rfl,rfl⟩
 ·refine⟨by omega,rfl,rfl,rfl,?_,?_⟩
  ·show _=[_,_,_,_,_,bN _ (fcV 6 fo)];rw [UK];rfl
  ·unfold GN;exact List.forall_mem_cons.2 ⟨hsl (by omega),List.forall_mem_cons.2 ⟨hsl (by omega),List.forall_mem_cons.2 ⟨cR rfl,List.forall_mem_cons.2 ⟨hsl (by omega),List.forall_mem_cons.2 ⟨hsl (by omega),List.forall_mem_cons.2 ⟨aAk (by omega),fun _ h=>(by cases h)⟩⟩⟩⟩⟩⟩
 ·exact⟨by omega,aM (aI _ _)⟩
 ·exact⟨by omega,rfl,rfl,rfl,F5 (ρ:=id) (lA _ _) fun i hi=>BG hi,HY (by omega) (by omega)⟩
 ·exact⟨by omega,aM (aI _ _)⟩
 ·exact⟨aEZ (by omega),aM (aI _ _)⟩
theorem cA {W:Heap}{b k:Nat}{o:aV}(h:xO W b)(hk:k<b)(ho:bO id b o o):xO ((k,o)::W) b:=by
 intro j q hj;rw [aE] at hj;split at hj
 ·rename_i hb;injection hj with hj;subst hj;exact⟨by rw [← beq_true hb];exact hk,ho⟩
 ·exact h j q hj
def aIS (s:List Pt→List Dt→List (List Int)→List Int→Option (Bool × Value)):XF:=fun args h nx K =>
 ∃ p k3 k0 k1 kd kt kf nm l D ls nE c1 c2 n fo L c,args=[.pointer (some ⟨p,0,none⟩),.slice (some ⟨k3,0,none⟩) L.length c]∧vL h p k0 k1 kd kt kf nm l D ls nE c1 c2 n fo ∧
   (∃ wr g sz cs,look h k3=some (.cells wr g sz cs)∧cs.take (flat aO.fl L).length=flat aO.fl L)∧(match s l D ls L with|some pr=>dI pr.1 (K pr.2 h nx)|none=>False)
theorem aDO {P:Program}{C:VC}{f:Nat}{s:List Pt→List Dt→List (List Int)→List Int→Option (Bool × Value)}(hC:bI P C)
  (hs:∀ l D ls L v,s l D ls L=some (true,v)→gT v=true∧ls.length≤1000∧∃ s0,∀ nE c1 c2 n fo c,C f [.pointer (some ⟨0,0,none⟩),.slice (some ⟨3,0,none⟩) L.length c] ((3,.cells false true 1 (flat aO.fl L))::fK l D ls nE c1 c2 n fo s0) 2000 (fun u _ _=>u=v)):cJ P f (aIS s):=by
 refine (gF (S:=fun args0 h0 n0 v1 h1 k=>∃ l D ls L c s0 nE c1 c2 n fo,gT v1=true∧C f [.pointer (some ⟨0,0,none⟩),.slice (some ⟨3,0,none⟩) L.length c] ((3,.cells false true 1 (flat aO.fl L))::fK l D ls nE c1 c2 n fo s0) 2000 (fun u _ _=>u=v1)∧args0=[.pointer (some ⟨0,0,none⟩),.slice (some ⟨3,0,none⟩) L.length c]∧h0=(3,.cells false true 1 (flat aO.fl L))::fK l D ls nE c1 c2 n fo s0∧n0=2000∧h1=[]∧k=0) hC ?_).mono ?_ ?_
 ·rintro args0 h0 n0 v1 h1 k ⟨l,D,ls,L,c,s0,nE,c1,c2,n,fo,e2,e3,rfl,rfl,rfl,rfl,rfl⟩;exact⟨rfl,_,e3,fun v h nx e=>by rw [e];exact kK e2⟩
 ·rintro args h nx K ⟨p,k3,k0,k1,kd,kt,kf,nm,l,D,ls,nE,c1,c2,n,fo,L,c,rfl,hw,hL,hx⟩;split at hx
  case h_2=>exact hx.elim
  rename_i pr e1;obtain⟨bb,u⟩:=pr;obtain⟨rfl,hx⟩:=aG.1 hx;obtain⟨a2,a3,s0,a4⟩:=hs l D ls L u e1;refine⟨_,_,2000,u,[],0,⟨l,D,ls,L,c,s0,nE,c1,c2,n,fo,a2,a4 nE c1 c2 n fo c,rfl,rfl,rfl,rfl,rfl⟩,aD5 hw a3 s0 hL,?_⟩;simp only [pB,sN,mZ,lJ,kT a2,Nat.add_zero];exact hx
 ·rintro args h nx K ⟨p,k3,k0,k1,kd,kt,kf,nm,l,D,ls,nE,c1,c2,n,fo,L,c,rfl,hw,hL,hx⟩;split at hx
  case h_2=>exact hx.elim
  rename_i pr e1;obtain⟨hb,hx⟩:=aG.1 hx;exact⟨pr.2,h,nx,hx,fun K' hk=>⟨p,k3,k0,k1,kd,kt,kf,nm,l,D,ls,nE,c1,c2,n,fo,L,c,rfl,hw,hL,by rw [e1];exact aJ hb hk⟩⟩
theorem ext_cons {W h:Heap}{q:Nat}{v:aV}(hx:∀ k o,look W k=some o→look h k=some o)(hq:look W q=none):∀ k o,look W k=some o→look ((q,v)::h) k=some o:=fun k o hk=>by
 rw [bB (fun e=>by rw [e,hk] at hq;cases hq)];exact hx k o hk
theorem DD {l:List Pt}{D:List Dt}{ls:List (List Int)}{nE c1 c2:Nat}{n:Int}{fo:Option (Nat × Nat)}{s q:Nat}(hn:ls.length≤1000)(hq:q=3∨2000≤q):look (fK l D ls nE c1 c2 n fo s) q=none:=by
 cases hl:look (fK l D ls nE c1 c2 n fo s) q with
 |none=>rfl
 |some o =>
  exfalso;rcases DX (aZ hl) with ⟨h,_⟩|⟨h,_⟩|⟨h,_⟩|⟨h,_⟩|⟨i,h1,_,h,_⟩
  ·omega
  ·omega
  ·omega
  ·omega
  ·unfold tN at h;split at h <;> omega
theorem H8 {l:List Pt}{D:List Dt}{ls:List (List Int)}{nE c1 c2:Nat}{n:Int}{fo:Option (Nat × Nat)}{s i:Nat}(hi:i<ls.length)(h0:(bK ls i).length≠0):look (fK l D ls nE c1 c2 n fo s) (tN s i)=some (.cells false false 1 (flat aO.fl (bK ls i))):=by
 unfold tN;by_cases e:i=s
 ·subst e;rw [if_pos rfl];unfold fK;rw [bB (by omega),bB (by omega),bB (by omega),bB (by omega),show WX (bK ls i)=[(7,ob (bK ls i))] from if_neg h0];rfl
 ·rw [if_neg e];unfold fK;rw [bB (by omega),bB (by omega),bB (by omega),bB (by omega)];have key:look (eJ (tH s ls ls.length)) (i+1000)=some (.cells false false 1 (flat aO.fl (bK ls i))):=by
   rw [gB,kD e h0 hi];rfl
  unfold WX;split
  ·exact key
  ·show look ((7,_)::eJ (tH s ls ls.length)) _=_;rw [bB (by omega)];exact key
theorem JS {h:Heap}{l:List Pt}{D:List Dt}{ls:List (List Int)}{nE c1 c2:Nat}{n:Int}{fo:Option (Nat × Nat)}{s:Nat}(hx:∀ k o,look (fK l D ls nE c1 c2 n fo s) k=some o→look h k=some o):vL h 0 4 5 1 2 6 (tN s) l D ls nE c1 c2 n fo :=
 ⟨⟨_,_,_,hx 0 _ rfl⟩,⟨_,_,_,_,hx 4 _ rfl,List.take_length⟩,⟨_,_,_,_,hx 1 _ rfl,List.take_length⟩,⟨_,_,_,hx 2 _ rfl⟩,fun i hi h0=>⟨_,_,_,_,hx _ _ (H8 hi h0),List.take_length⟩⟩
def I6 (l:List Pt)(D:List Dt)(L:List Int):Nat→Int
 |0=>0
 |i+1=>I6 l D L i+ZF l D (aN L i)
theorem ZE {l:List Pt}{D:List Dt}{ls:List (List Int)}(h:GO l D ls=true){d:Int}(h1:0≤d)(h2:d<D.length) : -2000000000000≤ZF l D d∧ZF l D d≤2000000000000:=by
 obtain⟨b1,b2,b3,b4⟩:=PF h (i:=d.toNat) (by omega);have hp:=J1 h (i:=(bX D d.toNat).fr.toNat) (by omega);have hq:=J1 h (i:=(bX D d.toNat).tt.toNat) (by omega);have m1:=KK hp.1 hp.2.1 hq.2.2.1 hq.2.2.2;have m2:=KK hq.1 hq.2.1 hp.2.2.1 hp.2.2.2;unfold ZF;omega
theorem ZY {l:List Pt}{D:List Dt}{ls:List (List Int)}(h:GO l D ls=true){L:List Int}(hL:eT D L=true):∀ i:Nat,i≤L.length→-2000000000000*(i:Int)≤I6 l D L i∧I6 l D L i≤2000000000000*(i:Int)
 |0,_=>by unfold I6;omega
 |i+1,hi=>by
  have ih:=ZY h hL i (by omega);have hd:=jJ hL (i:=i) (by omega);have:=ZE h hd.1 hd.2;unfold I6;omega
theorem aFz {l:List Pt}{D:List Dt}{ls:List (List Int)}{d:Int}(h:GO l D ls=true)(h1:0≤d)(h2:d<D.length):crS l D ls [iv d]=some (true,iv (ZF l D d)):=by
 show some (GO l D ls&&decide (0≤d)&&decide (d<D.length),iv (ZF l D d))=_;rw [h,decide_eq_true h1,decide_eq_true h2];rfl
def arS (l:List Pt)(D:List Dt)(ls:List (List Int))(L:List Int):Option (Bool × Value):=some (GO l D ls&&eT D L&&decide (L.length≤100000),iv (I6 l D L L.length))
def e89 (N c:Nat)(a j:Int):List (Nat × Value):=[(0,.pointer (some ⟨0,0,none⟩)),(5,iv a),(8,.slice (some ⟨3,0,none⟩) N c),(9,iv N),(10,iv j)]
def aHo:Nat × XF:=(89,aIS arS)
theorem aJJ:cJ Go.Proofs.Tryz.prog aHo.1 aHo.2:=aDO (f:=89) (s:=arS) (aK (xl:=[aBl]) (.cons aIb .nil)) fun l D ls L v hs=>by
 have:GO l D ls=true∧eT D L=true∧L.length≤100000∧v=iv (I6 l D L L.length):=by
  unfold arS at hs;injection hs with hs;injection hs with h1 h2;simp only [Bool.and_eq_true,decide_eq_true_eq] at h1;exact⟨h1.1.1,h1.1.2,h1.2,h2.symm⟩
 obtain⟨hB,hL,hl,rfl⟩:=this;clear hs;have hn:=JB hB;refine⟨rfl,by omega,ls.length,fun nE c1 c2 n fo c=>?_⟩;(conv=>whnf);refine⟨fun q e h nx=>∃ (i:Nat) (j:Int),j=i∧i≤L.length∧q=L.length - i∧e=e89 L.length c (I6 l D L i) j∧h=(3,.cells false true 1 (flat aO.fl L))::fK l D ls nE c1 c2 n fo ls.length∧nx=2000,⟨L.length,?_⟩,?_⟩
 ·refine qS (P:=[]) (W:=(3,.cells false true 1 (flat aO.fl L))::fK l D ls nE c1 c2 n fo ls.length) (e0:=e89 L.length c 0 0) (n0:=2000) [] ⟨0,0,rfl,Nat.zero_le _,rfl,rfl,rfl,rfl⟩ ?_ (cA (tF (by omega)) (by omega) (aM (aI _ _))) (fun k o hk=>hk) (fun _ h=>(by cases h)) (fun _ h=>(by cases h)) (fun _ h=>(by cases h)) (Nat.le_refl _);unfold e89;((repeat' refine iE rfl rfl ?_);exact iN)
 ·rintro q e h nx ⟨i,j,hj,hi,rfl,rfl,rfl,rfl⟩;unfold e89;((conv=>whnf);refine bm (fun h1=>?_) (fun h1=>?_))
  ·have hlt:i<L.length:=(by simp [aA,aB] at h1;omega);have hd:=jJ hL (i:=i) hlt;((conv=>whnf);refine bm (fun h2=>?_) (fun h2=>?_))
   ·(conv=>whnf);refine fY (fR L (i:=i) hlt ?_) ?_
    ·show _+Int.toNat j*1=_;omega
    (conv=>whnf);refine⟨0,[iv (aN L i)],4,5,1,2,6,tN ls.length,l,D,ls,nE,c1,c2,n,fo,rfl,JS (ext_cons (fun _ _ h=>h) (DD (by omega) (.inl rfl))),?_⟩;rw [aFz hB hd.1 hd.2];refine aJ rfl ?_;have a1:=ZY hB hL i (by omega);have a2:=ZE hB hd.1 hd.2;have hs:I6 l D L (i+1)=I6 l D L i+ZF l D (aN L i):=rfl;generalize I6 l D L i=X at a1 hs ⊢;generalize ZF l D (aN L i)=Y at a2 hs ⊢;((conv=>whnf);refine bm (fun h3=>?_) (fun h3=>?_))
    ·((conv=>whnf);refine bm (fun h4=>?_) (fun h4=>?_))
     ·(conv=>whnf);refine⟨L.length - (i+1),by omega,?_⟩;refine qS (P:=[]) (W:=(3,.cells false true 1 (flat aO.fl L))::fK l D ls nE c1 c2 n fo ls.length) (e0:=e89 L.length c (X+Y) (j+1)) (n0:=2000) [] ⟨i+1,j+1,by omega,by omega,rfl,by rw [hs];rfl,rfl,rfl⟩ ?_ (cA (tF (by omega)) (by omega) (aM (aI _ _))) (fun k o hk=>hk) (fun _ h=>(by cases h)) (fun _ h=>(by cases h)) (fun _ h=>(by cases h)) (Nat.le_refl _);unfold e89;((repeat' refine iE rfl rfl ?_);exact iN)
     ·exfalso;simp [aA,aB,aH] at h4;omega
    ·exfalso;simp [aA,aB,aH] at h3;omega
   ·exfalso;simp [aA,aB] at h2;omega
  ·have hge:i=L.length:=(by simp [aA,aB] at h1;omega);subst hge;(conv=>whnf)
def aI2 (s:List Pt→List Dt→List (List Int)→List Value→YS Int):XF:=fun args h nx K =>
 ∃ p r k0 k1 kd kt kf nm l D ls nE c1 c2 n fo,args=.pointer (some ⟨p,0,none⟩)::r∧vL h p k0 k1 kd kt kf nm l D ls nE c1 c2 n fo ∧
 (match s l D ls r with|some pr=>dI pr.1 (K (VV pr.2.1 pr.2.2 nx) (bV h nx (.cells true false 1 (flat aO.fl pr.2.1))) (nx+1))|none=>False)
theorem aDR {P:Program}{C:VC}{f:Nat}{s:List Pt→List Dt→List (List Int)→List Value→YS Int}(hC:bI P C)
  (hs:∀ l D ls r out rest,s l D ls r=some (true,out,rest)→eM r=true∧c9 rest=true∧ls.length≤1000∧∃ s0,∀ nE c1 c2 n fo,C f (.pointer (some ⟨0,0,none⟩)::r) (fK l D ls nE c1 c2 n fo s0) 2000 (YW aO out rest)):cJ P f (aI2 s):=by
 refine (gF (S:=fun args0 h0 n0 v1 h1 k=>∃ l D ls r s0 nE c1 c2 n fo out rest,c9 rest=true∧C f (.pointer (some ⟨0,0,none⟩)::r) (fK l D ls nE c1 c2 n fo s0) 2000 (YW aO out rest)∧args0=.pointer (some ⟨0,0,none⟩)::r∧h0=fK l D ls nE c1 c2 n fo s0∧n0=2000∧v1=VV out rest 0∧h1=ylH aO out∧k=1) hC ?_).mono ?_ ?_
 ·rintro args0 h0 n0 v1 h1 k ⟨l,D,ls,r,s0,nE,c1,c2,n,fo,out,rest,e2,e3,rfl,rfl,rfl,rfl,rfl,rfl⟩;exact⟨rfl,_,e3,fun v h nx e=>RB aO e2 e⟩
 ·rintro args h nx K ⟨p,r,k0,k1,kd,kt,kf,nm,l,D,ls,nE,c1,c2,n,fo,rfl,hw,hx⟩;split at hx
  case h_2=>exact hx.elim
  rename_i pr e1;obtain⟨bb,out,rest⟩:=pr;obtain⟨rfl,hx⟩:=aG.1 hx;obtain⟨a1,a2,a3,s0,a4⟩:=hs l D ls r out rest e1;exact⟨_,_,2000,_,_,1,⟨l,D,ls,r,s0,nE,c1,c2,n,fo,out,rest,a2,a4 nE c1 c2 n fo,rfl,rfl,rfl,rfl,rfl,rfl⟩,aBi hw a3 s0 a1,aAJ aO a2 hx⟩
 ·rintro args h nx K ⟨p,r,k0,k1,kd,kt,kf,nm,l,D,ls,nE,c1,c2,n,fo,rfl,hw,hx⟩;split at hx
  case h_2=>exact hx.elim
  rename_i pr e1;obtain⟨hb,hx⟩:=aG.1 hx;exact⟨_,_,_,hx,fun K' hk=>⟨p,r,k0,k1,kd,kt,kf,nm,l,D,ls,nE,c1,c2,n,fo,rfl,hw,by rw [e1];exact aJ hb hk⟩⟩
theorem cU {W h:Heap}{q:Nat}{v:aV}(hx:∀ k o,look W k=some o→look h k=some o)(hq:look W q=none):∀ k o,look W k=some o→look (bV h q v) k=some o:=ext_cons hx hq
theorem LF {W h:Heap}{q:Nat}(hx:∀ k o,look W k=some o→look h k=some o)(hq:look W q=none):∀ k o,look W k=some o→look (rem h q) k=some o:=fun k o hk=>by
 rw [dF,if_neg (fun e=>by rw [e,hq] at hk;cases hk)];exact hx k o hk
theorem fZ {W h:Heap}{q:Nat}{v:aV}(hx:∀ k o,look W k=some o→look h k=some o)(hq:look W q=none):∀ k o,look W k=some o→look (wG h q v) k=some o:=fun k o hk=>by
 rw [j5 _ _ (fun e=>by rw [e,hq] at hk;cases hk)];exact hx k o hk
def pH (D:List Dt)(ls:List (List Int))(d:Int):Nat→Int
 |0=>d
 |i+1=>BZ D ls (pH D ls d i)
def FX (D:List Dt)(ls:List (List Int))(d:Int):Nat→Nat→Nat
 |0,i=>i
 |k+1,i=>if pH D ls d i=d then i else FX D ls d k (i+1)
theorem oA (D:List Dt)(ls:List (List Int))(d:Int):∀ (k i:Nat),i≤FX D ls d k i∧FX D ls d k i≤i+k∧∀ t,i≤t→t<FX D ls d k i→pH D ls d t≠d
 |0,i=>by unfold FX;exact⟨Nat.le_refl _,Nat.le_refl _,fun t h1 h2=>by omega⟩
 |k+1,i=>by
  unfold FX;split
  ·exact⟨Nat.le_refl _,by omega,fun t h1 h2=>by omega⟩
  ·rename_i h;obtain⟨h1,h2,h3⟩:=oA D ls d k (i+1);refine⟨by omega,by omega,fun t h4 h5=>?_⟩;by_cases e:t=i
   ·rw [e];exact h
   ·exact h3 t (by omega) h5
def o6 (D:List Dt)(ls:List (List Int))(d:Int):Nat:=FX D ls d D.length 1
def xB (D:List Dt)(ls:List (List Int))(d:Int):List Int:=(List.range (o6 D ls d)).map (pH D ls d)
def vB (l:List Pt)(D:List Dt)(ls:List (List Int)):Bool:=GO l D ls&&(List.range D.length).all fun i=>nxB D ls i&&(decide (0≤BZ D ls i)&&decide (BZ D ls i<D.length))
theorem JV {l:List Pt}{D:List Dt}{ls:List (List Int)}(h:vB l D ls=true){d:Int}(h1:0≤d)(h2:d<D.length):nxB D ls d=true∧0≤BZ D ls d∧BZ D ls d<D.length:=by
 simp only [vB,Bool.and_eq_true] at h;have:=List.all_eq_true.1 h.2 d.toNat (List.mem_range.2 (by omega));rw [Int.toNat_of_nonneg h1] at this;simp only [Bool.and_eq_true,decide_eq_true_eq] at this;exact⟨this.1,this.2⟩
theorem CV {l:List Pt}{D:List Dt}{ls:List (List Int)}(h:vB l D ls=true):GO l D ls=true:=by
 simp only [vB,Bool.and_eq_true] at h;exact h.1
theorem Q1 {l:List Pt}{D:List Dt}{ls:List (List Int)}(h:vB l D ls=true){d:Int}(h1:0≤d)(h2:d<D.length):∀ i,0≤pH D ls d i∧pH D ls d i<D.length
 |0=>⟨h1,h2⟩
 |i+1=>by
  have ih:=Q1 h h1 h2 i;exact (JV h ih.1 ih.2).2
def wkS (l:List Pt)(D:List Dt)(ls:List (List Int)):List Value→YS Int
 |[.int .i64 d]=>some (vB l D ls&&decide (0≤d)&&decide (d<D.length)&&decide (pH D ls d (o6 D ls d)=d),xB D ls d,[])
 |_=>none
def X5 (D:List Dt)(ls:List (List Int))(d:Int)(i:Nat):List Int:=(List.range i).map (pH D ls d)
theorem UY (D:List Dt)(ls:List (List Int))(d:Int)(i:Nat):(X5 D ls d i).length=i:=by simp [X5]
theorem aIk (D:List Dt)(ls:List (List Int))(d:Int)(i:Nat):X5 D ls d (i+1)=X5 D ls d i++[pH D ls d i]:=by
 unfold X5;rw [List.range_succ,List.map_append];rfl
theorem aB7 {l:List Pt}{D:List Dt}{ls:List (List Int)}{d:Int}(h:nxB D ls d=true):nxS l D ls [iv d]=some (true,iv (BZ D ls d)):=by
 show some (nxB D ls d,iv (BZ D ls d))=_;rw [h]
def e83 (d:Int)(i:Nat)(x:Int):List (Nat × Value):=[(0,.pointer (some ⟨0,0,none⟩)),(1,iv d),(5,.slice (some ⟨2000,0,none⟩) i i),(6,iv x)]
def aFX:Nat × XF:=(83,aI2 wkS)
theorem aLn:cJ Go.Proofs.Tryz.prog aFX.1 aFX.2:=aDR (f:=83) (s:=wkS) (aK (xl:=[aGa]) (.cons aKR .nil)) fun l D ls r out rest hs=>by
 have:∃ d,r=[iv d]∧vB l D ls=true∧0≤d∧d<D.length∧pH D ls d (o6 D ls d)=d∧out=xB D ls d∧rest=[]:=by
  unfold wkS at hs;split at hs
  ·rename_i d;injection hs with hs;injection hs with h1 h2;injection h2 with h2 h3;simp only [Bool.and_eq_true,decide_eq_true_eq] at h1;exact⟨d,rfl,h1.1.1.1,h1.1.1.2,h1.1.2,h1.2,h2.symm,h3.symm⟩
  ·cases hs
 obtain⟨d,rfl,hB,h1,h2,h3,rfl,rfl⟩:=this;clear hs;have hn:=JB (CV hB);have hlow:=oA D ls d D.length 1;have hin:=Q1 hB h1 h2;refine⟨rfl,rfl,by omega,ls.length,fun nE c1 c2 n fo=>?_⟩;have hout:xB D ls d=X5 D ls d (o6 D ls d):=rfl;have hno:∀ q,2000≤q→look (fK l D ls nE c1 c2 n fo ls.length) q=none:=fun q hq=>DD (by omega) (.inr hq);rw [hout];unfold o6 at h3 ⊢;generalize FX D ls d D.length 1=N at h3 hlow ⊢;obtain⟨hN1,hN2,hN3⟩:=hlow;(conv=>whnf);refine⟨0,[iv d],4,5,1,2,6,tN ls.length,l,D,ls,nE,c1,c2,n,fo,rfl,JS (ext_cons (fun _ _ h=>h) (DD (by omega) (.inr (Nat.le_refl _)))),?_⟩;rw [aB7 (JV hB h1 h2).1];refine aJ rfl ?_;(conv=>whnf);refine⟨fun q e h nx=>∃ i:Nat,1≤i∧i≤N∧q=N - i∧e=e83 d i (pH D ls d i)∧h=[(2000,.cells true false 1 (flat aO.fl (X5 D ls d i)))]++fK l D ls nE c1 c2 n fo ls.length∧nx=2001,⟨N - 1,?_⟩,?_⟩
 ·refine qS (P:=[(2000,.cells true false 1 (flat aO.fl (X5 D ls d 1)))]) (W:=fK l D ls nE c1 c2 n fo ls.length) (e0:=e83 d 1 (pH D ls d 1)) (n0:=2001) [] ⟨1,Nat.le_refl _,hN1,rfl,rfl,rfl,rfl⟩ ?_ (tF (by omega)) (ext_cons (fun _ _ h=>h) (DD (by omega) (.inr (Nat.le_refl _)))) ?_ ?_ (fun _ h=>(by cases h)) (by omega)
  ·unfold e83;((repeat' refine iE rfl rfl ?_);exact iN)
  ·exact List.forall_mem_cons.2 ⟨⟨Nat.le_refl _,Nat.lt_succ_self _,Nat.le_refl _,_,rfl,bD (aI _ _) rfl⟩,fun _ h=>(by cases h)⟩
  ·show ∀ k∈[2000],∀ k'∈[2000],_;decide
 ·rintro q e h nx ⟨i,hi1,hi,rfl,rfl,rfl,rfl⟩;unfold e83;((conv=>whnf);refine bm (fun g1=>?_) (fun g1=>?_))
  ·have hx:pH D ls d i≠d:=(by simpa [aA,aB] using g1);have hlt:i<N:=by
    refine Decidable.byContradiction fun hc=>hx ?_;rw [show i=N by omega];exact h3
   have hB':=JV hB (hin i).1 (hin i).2;have hs:X5 D ls d (i+1)=X5 D ls d i++[pH D ls d i]:=aIk D ls d i;have hll:=UY D ls d i;have hnx:pH D ls d (i+1)=BZ D ls (pH D ls d i):=rfl;generalize X5 D ls d i=M at hs hll ⊢
   repeat' first
    |((conv=>whnf)
      refine bm1 (k:=i) ?_)
    |(((conv=>whnf);refine bm (fun g=>?_) (fun g=>?_)))
   ·(conv=>whnf);refine⟨0,[iv (pH D ls d i)],4,5,1,2,6,tN ls.length,l,D,ls,nE,c1,c2,n,fo,rfl,JS ?_,?_⟩
    ·exact cU (LF (cU (ext_cons (fun _ _ h=>h) (hno _ (by omega))) (hno _ (by omega))) (hno _ (by omega))) (hno _ (by omega))
    ·rw [aB7 hB'.1];refine aJ rfl ?_;(conv=>whnf);refine⟨N - (i+1),by omega,?_⟩;refine qS (P:=[(2000,.cells true false 1 (flat aO.fl (X5 D ls d (i+1))))]) (W:=fK l D ls nE c1 c2 n fo ls.length) (e0:=e83 d (i+1) (pH D ls d (i+1))) (n0:=2001) [(2000,2002)] ⟨i+1,by omega,by omega,rfl,rfl,rfl,rfl⟩ ?_ (tF (by omega)) ?_ ?_ ?_ (by decide) (by omega)
     ·unfold e83;((repeat' refine iE rfl rfl ?_);exact iN)
     ·exact cU (LF (cU (ext_cons (fun _ _ h=>h) (hno _ (by omega))) (hno _ (by omega))) (hno _ (by omega))) (hno _ (by omega))
     ·refine List.forall_mem_cons.2 ⟨⟨Nat.le_refl _,Nat.lt_succ_self _,Nat.le_of_ble_eq_true rfl,_,rfl,bD (aI _ _) ?_⟩,fun _ h=>(by cases h)⟩;rw [hs,← fA aO M (pH D ls d i) (n:=i) hll.symm];rfl
     ·show ∀ k∈[2000],∀ k'∈[2000],_;decide
   ·exact oZ (by rw [bF,hll];rfl) (by omega) g
  ·have hx:pH D ls d i=d:=(by simpa [aA,aB] using g1);have hge:i=N:=by
    refine Decidable.byContradiction fun hc=>hN3 i hi1 (by omega) hx
   subst hge;(conv=>whnf);refine⟨2000,?_,rfl⟩;unfold VV;rw [UY];rfl
end Go.Aw
end
