/-
  Parts of a proof. No condition.
-/
import Derived.Test.YticajjhjehljpaaGreatQAy
set_option linter.unusedSimpArgs false
set_option linter.unusedVariables false
noncomputable section
namespace Go.Aw
set_option maxRecDepth 100000
set_option maxHeartbeats 2000000
def crI (l:List Pt)(D:List Dt)(d:Int):Int:=(pZ l (bK D d.toNat).fr.toNat).1*(pZ l (bK D d.toNat).tt.toNat).2 - (pZ l (bK D d.toNat).tt.toNat).1*(pZ l (bK D d.toNat).fr.toNat).2
def FX (l:List Pt)(D:List Dt)(ls:List (List Int)):Bool:=l.all wide&&(D.all fun e=>decide (0≤e.fr)&&decide (e.fr<l.length)&&(decide (0≤e.tt)&&decide (e.tt<l.length)))&&decide (D.length≤1000)&&decide (ls.length=l.length)&&decide (l.length≤1000)
theorem P7 {l:List Pt}{D:List Dt}{ls:List (List Int)}(h:FX l D ls=true){i:Nat}(hi:i<D.length):0≤(bK D i).fr∧(bK D i).fr<l.length∧0≤(bK D i).tt∧(bK D i).tt<l.length:=by
 simp only [FX,Bool.and_eq_true] at h;have:=List.all_eq_true.1 h.1.1.1.2 _ (List.getElem_mem hi);rw [oB hi];simp only [Bool.and_eq_true,decide_eq_true_eq] at this;omega
theorem KL {l:List Pt}{D:List Dt}{ls:List (List Int)}(h:FX l D ls=true){i:Nat}(hi:i<l.length) : -1000000≤(pZ l i).1∧(pZ l i).1≤1000000∧-1000000≤(pZ l i).2∧(pZ l i).2≤1000000:=by
 simp only [FX,Bool.and_eq_true] at h;have:=List.all_eq_true.1 h.1.1.1.1 _ (List.getElem_mem hi);rw [KF hi];unfold wide at this;simp only [Bool.and_eq_true,decide_eq_true_eq] at this;omega
theorem HP {l:List Pt}{D:List Dt}{ls:List (List Int)}(h:FX l D ls=true):D.length≤1000∧ls.length=l.length∧l.length≤1000:=by
 simp only [FX,Bool.and_eq_true,decide_eq_true_eq] at h;exact⟨h.1.1.2,h.1.2,h.2⟩
def crS (l:List Pt)(D:List Dt)(ls:List (List Int)):List Value→Option (Bool × Value)
 |[.int .i64 d]=>some (FX l D ls&&decide (0≤d)&&decide (d<D.length),iv (crI l D d))
 |_=>none
theorem YA {s:Nat}{ls:List (List Int)}{n k:Nat}(h:k<1000∨1000+n≤k):look (dT (tH s ls n)) k=none:=by
 rw [jD,aCO h];rfl
def aAK:Nat × XF:=(146,wbX crS)
theorem KT {a b:Int}(h1 : -1000000≤a)(h2:a≤1000000)(h3 : -1000000≤b)(h4:b≤1000000) : -1000000000000≤a*b∧a*b≤1000000000000:=by
 have p1:0≤(1000000 - a)*(1000000+b):=Int.mul_nonneg (by omega) (by omega);have p2:0≤(1000000+a)*(1000000 - b):=Int.mul_nonneg (by omega) (by omega);have p3:0≤(1000000 - a)*(1000000 - b):=Int.mul_nonneg (by omega) (by omega);have p4:0≤(1000000+a)*(1000000+b):=Int.mul_nonneg (by omega) (by omega);simp only [Int.sub_mul,Int.add_mul,Int.mul_sub,Int.mul_add] at p1 p2 p3 p4;omega
theorem aIz:dK Go.Proofs.Tryz.prog aAK.1 aAK.2:=O3 (aR (xl:=[]) .nil) fun l D ls r v hs=>by
 have:∃ d,r=[iv d]∧FX l D ls=true∧0≤d∧d<D.length∧v=iv (crI l D d):=by
  unfold crS at hs;split at hs
  ·rename_i d;injection hs with hs;injection hs with h1 h2;simp only [Bool.and_eq_true,decide_eq_true_eq] at h1;exact⟨d,rfl,h1.1.1,h1.1.2,h1.2,h2.symm⟩
  ·cases hs
 obtain⟨d,rfl,hB,h1,h2,rfl⟩:=this;clear hs;have hn:=HP hB;refine⟨rfl,rfl,by omega,ls.length,fun nE c1 c2 n fo=>?_⟩;have ho7:VA (bE ls ls.length)=[]:=kQ (Nat.le_refl _);obtain⟨b1,b2,b3,b4⟩:=P7 hB (i:=d.toNat) (by omega);have hp:=KL hB (i:=(bK D d.toNat).fr.toNat) (by omega);have hq:=KL hB (i:=(bK D d.toNat).tt.toNat) (by omega);unfold eP FV;rw [ho7]
 repeat' first
  |(((conv=>whnf);refine bm (fun g=>?_) (fun g=>?_)))
  |((conv=>whnf)
    refine lD (UF D (i:=d.toNat) (by omega) ?_) ?_
    ·show _+Int.toNat d*5+4=_;omega)
  |((conv=>whnf)
    refine lD (aDV D (i:=d.toNat) (by omega) ?_) ?_
    ·show _+Int.toNat d*5+3=_;omega)
  |((conv=>whnf)
    refine K6 (tT l (i:=(bK D d.toNat).fr.toNat) (by omega) ?_) ?_
    ·show _+Int.toNat (bK D d.toNat).fr*2=_;omega)
  |((conv=>whnf)
    refine K6 (tT l (i:=(bK D d.toNat).tt.toNat) (by omega) ?_) ?_
    ·show _+Int.toNat (bK D d.toNat).tt*2=_;omega)
 all_goals first
  |(exfalso;simp [aA,aG,aK] at g;omega)
  |(exfalso
    have g:(match look (dT (tH ls.length ls ls.length)) 2000 with|none=>true|some _=>false)=false:=g;rw [YA (by omega)] at g;cases g)
  |(exfalso
    have m1:=KT hp.1 hp.2.1 hq.2.2.1 hq.2.2.2;have m2:=KT hq.1 hq.2.1 hp.2.2.1 hp.2.2.2;simp [aA,aG,aK] at g;omega)
  |((conv=>whnf)
    first
     |done
     |rfl)
def zS (W:Heap)(b:Nat):Prop:=∀ k o,look W k=some o→k<b∧bT id b o o
theorem pD {b n0:Nat}{ρ:Nat→Nat}(hρ:∀ k,k<b→ρ k=k)(hb:b≤n0){o:aS}(h:bT id b o o):bT ρ n0 o o:=by
 have key:∀ v,BR b v→bM ρ v=bM id v:=fun v hv=>lF (ι:=j3 id) (ι':=j3 ρ) (n:=b) (fun k hk=>by show Loc.lay _ _ _=Loc.lay _ _ _;rw [hρ k hk];rfl) hv;have mono:∀ v,BR b v→BR n0 v:=fun v hv=>gQ (ι:=j3 id) (ι':=j3 id) hb (fun _ _=>rfl) hv;cases o with
 |cells wr g sz cs =>
  obtain⟨h1,h2,h3,h4,h5⟩:=h;refine⟨rfl,rfl,rfl,?_,fun v hv=>mono v (h5 v hv)⟩
  conv=>lhs;rw [h4]
  exact List.map_congr_left fun v hv=>(key v (h5 v hv)).symm
 |map es =>
  obtain⟨h1,h2⟩:=h;refine⟨?_,fun v hv=>mono _ (h2 v hv)⟩
  conv=>lhs;rw [h1]
  exact List.map_congr_left fun v hv=>by rw [key _ (h2 v hv)]
 |zero=>trivial
 |loop l=>exact h.elim
 |deferred=>exact h.elim
theorem oO {W:Heap}{k:Nat}{o:aS}:∀ {P:Heap},look (P++W) k=some o→(k,o)∈P∨look W k=some o
 |[],h=>.inr h
 |(j,q)::r,h=>by
  rw [List.cons_append,aB] at h;split at h
  ·rename_i hb;injection h with h;subst h;rw [beq_true hb];exact .inl (.head _)
  ·rcases oO h with h|h
   ·exact .inl (.tail _ h)
   ·exact .inr h
theorem pK {b n0 nx:Nat}{I:KS}{e0 e:List (Nat × Value)}{P W h:Heap}(L:List (Nat × Nat))(hI:I e0 (P++W) n0)(he:∀ p∈e0,look e p.1=some (iM (rn L) p.2)∧BK n0 p.2)(hW:zS W b)(hk:∀ k o,look W k=some o→look h k=some o)
  (hP:∀ p∈P,b≤p.1∧p.1<n0∧b≤rn L p.1∧∃ o',look h (rn L p.1)=some o'∧bT (rn L) n0 p.2 o') (hi:∀ k∈P.map Prod.fst,∀ k'∈P.map Prod.fst,rn L k=rn L k'→k=k') (hL:∀ p∈L,b≤p.1) (hb:b≤n0):qI b I e h nx:=by
 have hfix:∀ k,k<b→rn L k=k:=fun k hk=>by
  unfold rn;split
  ·rename_i q hq;have:=hL _ (bA hq);simp only at this;omega
  ·rfl
 have hc:∀ k o,look (P++W) k=some o→(k,o)∈P∨look W k=some o:=fun k o h=>oO h;refine⟨e0,P++W,n0,rn L,hI,fun t v hv=>he (t,v) (bA hv),fun k o hk'=>?_,fun k k' o o' h1 h2 e=>?_,hfix,hb⟩
 ·rcases hc k o hk' with hm|hm
  ·exact (hP _ hm).2.1 |> fun x=>⟨x,(hP _ hm).2.2.2⟩
  ·obtain⟨a1,a2⟩:=hW k o hm;exact⟨by omega,o,by rw [hfix k a1];exact hk k o hm,pD hfix hb a2⟩
 ·rcases hc k o h1 with m1|m1 <;> rcases hc k' o' h2 with m2|m2
  ·exact hi k (List.mem_map.2 ⟨_,m1,rfl⟩) k' (List.mem_map.2 ⟨_,m2,rfl⟩) e
  ·have:=(hP _ m1).2.2.1;have b2:=(hW _ _ m2).1;simp only at this;rw [hfix k' b2] at e;omega
  ·have:=(hP _ m2).2.2.1;have b2:=(hW _ _ m1).1;simp only at this;rw [hfix k b2] at e;omega
  ·rwa [hfix k (hW _ _ m1).1,hfix k' (hW _ _ m2).1] at e
theorem rK {l:List Pt}{D:List Dt}{ls:List (List Int)}{nE c1 c2:Nat}{n:Int}{fo:Option (Nat × Nat)}{s:Nat}(hn:ls.length≤1000):zS (eP l D ls nE c1 c2 n fo s) 2000:=by
 intro k o hk;have hsl:∀ {q a b:Nat},q<2000→BR 2000 (.slice (some ⟨q,0,none⟩) a b):=fun hq=>⟨hq,fun h=>by cases h⟩;have hfix:∀ {cs:List Value},(∀ v∈cs,bM id v=v)→cs=cs.map (bM id):=fun {cs} h=>by
  conv=>lhs;rw [← List.map_id cs]
  exact List.map_congr_left fun v hv=>(h v hv).symm
 rcases D1 (bA hk) with ⟨rfl,rfl⟩|⟨rfl,rfl⟩|⟨rfl,rfl⟩|⟨rfl,rfl⟩|⟨i,hi,h0,rfl,rfl⟩
 ·refine⟨by omega,rfl,rfl,rfl,?_,?_⟩
  ·show _=[_,_,_,_,_,bM _ (fcV 6 fo)];rw [UX];rfl
  ·unfold FV;exact List.forall_mem_cons.2 ⟨hsl (by omega),List.forall_mem_cons.2 ⟨hsl (by omega),List.forall_mem_cons.2 ⟨cD rfl,List.forall_mem_cons.2 ⟨hsl (by omega),List.forall_mem_cons.2 ⟨hsl (by omega),List.forall_mem_cons.2 ⟨aB7 (by omega),fun _ h=>(by cases h)⟩⟩⟩⟩⟩⟩
 ·exact⟨by omega,aI (aF _ _)⟩
 ·exact⟨by omega,rfl,rfl,rfl,FD (ρ:=id) (kI _ _) fun i hi=>A1 hi,HW (by omega) (by omega)⟩
 ·exact⟨by omega,aI (aF _ _)⟩
 ·exact⟨aEh (by omega),aI (aF _ _)⟩
theorem cQ {W:Heap}{b k:Nat}{o:aS}(h:zS W b)(hk:k<b)(ho:bT id b o o):zS ((k,o)::W) b:=by
 intro j q hj;rw [aB] at hj;split at hj
 ·rename_i hb;injection hj with hj;subst hj;exact⟨by rw [← beq_true hb];exact hk,ho⟩
 ·exact h j q hj
def aIp (s:List Pt→List Dt→List (List Int)→List Int→Option (Bool × Value)):XF:=fun args h nx K =>
 ∃ p k3 k0 k1 kd kt kf nm l D ls nE c1 c2 n fo L c,args=[.pointer (some ⟨p,0,none⟩),.slice (some ⟨k3,0,none⟩) L.length c]∧uE h p k0 k1 kd kt kf nm l D ls nE c1 c2 n fo ∧
   (∃ wr g sz cs,look h k3=some (.cells wr g sz cs)∧cs.take (flat aU.fl L).length=flat aU.fl L)∧(match s l D ls L with|some pr=>dI pr.1 (K pr.2 h nx)|none=>False)
theorem aD0 {P:Program}{C:VC}{f:Nat}{s:List Pt→List Dt→List (List Int)→List Int→Option (Bool × Value)}(hC:bF P C)
  (hs:∀ l D ls L v,s l D ls L=some (true,v)→gT v=true∧ls.length≤1000∧∃ s0,∀ nE c1 c2 n fo c,C f [.pointer (some ⟨0,0,none⟩),.slice (some ⟨3,0,none⟩) L.length c] ((3,.cells false true 1 (flat aU.fl L))::eP l D ls nE c1 c2 n fo s0) 2000 (fun u _ _=>u=v)):dK P f (aIp s):=by
 refine (jU (S:=fun args0 h0 n0 v1 h1 k=>∃ l D ls L c s0 nE c1 c2 n fo,gT v1=true∧C f [.pointer (some ⟨0,0,none⟩),.slice (some ⟨3,0,none⟩) L.length c] ((3,.cells false true 1 (flat aU.fl L))::eP l D ls nE c1 c2 n fo s0) 2000 (fun u _ _=>u=v1)∧args0=[.pointer (some ⟨0,0,none⟩),.slice (some ⟨3,0,none⟩) L.length c]∧h0=(3,.cells false true 1 (flat aU.fl L))::eP l D ls nE c1 c2 n fo s0∧n0=2000∧h1=[]∧k=0) hC ?_).mono ?_ ?_
 ·rintro args0 h0 n0 v1 h1 k ⟨l,D,ls,L,c,s0,nE,c1,c2,n,fo,e2,e3,rfl,rfl,rfl,rfl,rfl⟩;exact⟨rfl,_,e3,fun v h nx e=>by rw [e];exact mJ e2⟩
 ·rintro args h nx K ⟨p,k3,k0,k1,kd,kt,kf,nm,l,D,ls,nE,c1,c2,n,fo,L,c,rfl,hw,hL,hx⟩;split at hx
  case h_2=>exact hx.elim
  rename_i pr e1;obtain⟨bb,u⟩:=pr;obtain⟨rfl,hx⟩:=aD.1 hx;obtain⟨a2,a3,s0,a4⟩:=hs l D ls L u e1;refine⟨_,_,2000,u,[],0,⟨l,D,ls,L,c,s0,nE,c1,c2,n,fo,a2,a4 nE c1 c2 n fo c,rfl,rfl,rfl,rfl,rfl⟩,aBo hw a3 s0 hL,?_⟩;simp only [qH,wQ,m8,nJ,sI a2,Nat.add_zero];exact hx
 ·rintro args h nx K ⟨p,k3,k0,k1,kd,kt,kf,nm,l,D,ls,nE,c1,c2,n,fo,L,c,rfl,hw,hL,hx⟩;split at hx
  case h_2=>exact hx.elim
  rename_i pr e1;obtain⟨hb,hx⟩:=aD.1 hx;exact⟨pr.2,h,nx,hx,fun K' hk=>⟨p,k3,k0,k1,kd,kt,kf,nm,l,D,ls,nE,c1,c2,n,fo,L,c,rfl,hw,hL,by rw [e1];exact aJ hb hk⟩⟩
theorem ext_cons {W h:Heap}{q:Nat}{v:aS}(hx:∀ k o,look W k=some o→look h k=some o)(hq:look W q=none):∀ k o,look W k=some o→look ((q,v)::h) k=some o:=fun k o hk=>by
 rw [aZ (fun e=>by rw [e,hk] at hq;cases hq)];exact hx k o hk
theorem BW {l:List Pt}{D:List Dt}{ls:List (List Int)}{nE c1 c2:Nat}{n:Int}{fo:Option (Nat × Nat)}{s q:Nat}(hn:ls.length≤1000)(hq:q=3∨2000≤q):look (eP l D ls nE c1 c2 n fo s) q=none:=by
 cases hl:look (eP l D ls nE c1 c2 n fo s) q with
 |none=>rfl
 |some o =>
  exfalso;rcases D1 (bA hl) with ⟨h,_⟩|⟨h,_⟩|⟨h,_⟩|⟨h,_⟩|⟨i,h1,_,h,_⟩
  ·omega
  ·omega
  ·omega
  ·omega
  ·unfold tN at h;split at h <;> omega
theorem IC {l:List Pt}{D:List Dt}{ls:List (List Int)}{nE c1 c2:Nat}{n:Int}{fo:Option (Nat × Nat)}{s i:Nat}(hi:i<ls.length)(h0:(bE ls i).length≠0):look (eP l D ls nE c1 c2 n fo s) (tN s i)=some (.cells false false 1 (flat aU.fl (bE ls i))):=by
 unfold tN;by_cases e:i=s
 ·subst e;rw [if_pos rfl];unfold eP;rw [aZ (by omega),aZ (by omega),aZ (by omega),aZ (by omega),show VA (bE ls i)=[(7,ob (bE ls i))] from if_neg h0];rfl
 ·rw [if_neg e];unfold eP;rw [aZ (by omega),aZ (by omega),aZ (by omega),aZ (by omega)];have key:look (dT (tH s ls ls.length)) (i+1000)=some (.cells false false 1 (flat aU.fl (bE ls i))):=by
   rw [jD,jR e h0 hi];rfl
  unfold VA;split
  ·exact key
  ·show look ((7,_)::dT (tH s ls ls.length)) _=_;rw [aZ (by omega)];exact key
theorem IV {h:Heap}{l:List Pt}{D:List Dt}{ls:List (List Int)}{nE c1 c2:Nat}{n:Int}{fo:Option (Nat × Nat)}{s:Nat}(hx:∀ k o,look (eP l D ls nE c1 c2 n fo s) k=some o→look h k=some o):uE h 0 4 5 1 2 6 (tN s) l D ls nE c1 c2 n fo :=
 ⟨⟨_,_,_,hx 0 _ rfl⟩,⟨_,_,_,_,hx 4 _ rfl,List.take_length⟩,⟨_,_,_,_,hx 1 _ rfl,List.take_length⟩,⟨_,_,_,hx 2 _ rfl⟩,fun i hi h0=>⟨_,_,_,_,hx _ _ (IC hi h0),List.take_length⟩⟩
def GQ (l:List Pt)(D:List Dt)(L:List Int):Nat→Int
 |0=>0
 |i+1=>GQ l D L i+crI l D (aH L i)
theorem ZQ {l:List Pt}{D:List Dt}{ls:List (List Int)}(h:FX l D ls=true){d:Int}(h1:0≤d)(h2:d<D.length) : -2000000000000≤crI l D d∧crI l D d≤2000000000000:=by
 obtain⟨b1,b2,b3,b4⟩:=P7 h (i:=d.toNat) (by omega);have hp:=KL h (i:=(bK D d.toNat).fr.toNat) (by omega);have hq:=KL h (i:=(bK D d.toNat).tt.toNat) (by omega);have m1:=KT hp.1 hp.2.1 hq.2.2.1 hq.2.2.2;have m2:=KT hq.1 hq.2.1 hp.2.2.1 hp.2.2.2;unfold crI;omega
theorem aAh {l:List Pt}{D:List Dt}{ls:List (List Int)}(h:FX l D ls=true){L:List Int}(hL:XP D L=true):∀ i:Nat,i≤L.length→-2000000000000*(i:Int)≤GQ l D L i∧GQ l D L i≤2000000000000*(i:Int)
 |0,_=>by unfold GQ;omega
 |i+1,hi=>by
  have ih:=aAh h hL i (by omega);have hd:=oD hL (i:=i) (by omega);have:=ZQ h hd.1 hd.2;unfold GQ;omega
theorem aF1 {l:List Pt}{D:List Dt}{ls:List (List Int)}{d:Int}(h:FX l D ls=true)(h1:0≤d)(h2:d<D.length):crS l D ls [iv d]=some (true,iv (crI l D d)):=by
 show some (FX l D ls&&decide (0≤d)&&decide (d<D.length),iv (crI l D d))=_;rw [h,decide_eq_true h1,decide_eq_true h2];rfl
def arS (l:List Pt)(D:List Dt)(ls:List (List Int))(L:List Int):Option (Bool × Value):=some (FX l D ls&&XP D L&&decide (L.length≤100000),iv (GQ l D L L.length))
def e89 (N c:Nat)(a j:Int):List (Nat × Value):=[(0,.pointer (some ⟨0,0,none⟩)),(5,iv a),(8,.slice (some ⟨3,0,none⟩) N c),(9,iv N),(10,iv j)]
def aGf:Nat × XF:=(85,aIp arS)
theorem aKo:dK Go.Proofs.Tryz.prog aGf.1 aGf.2:=aD0 (f:=85) (s:=arS) (aR (xl:=[aAK]) (.cons aIz .nil)) fun l D ls L v hs=>by
 have:FX l D ls=true∧XP D L=true∧L.length≤100000∧v=iv (GQ l D L L.length):=by
  unfold arS at hs;injection hs with hs;injection hs with h1 h2;simp only [Bool.and_eq_true,decide_eq_true_eq] at h1;exact⟨h1.1.1,h1.1.2,h1.2,h2.symm⟩
 obtain⟨hB,hL,hl,rfl⟩:=this;clear hs;have hn:=HP hB;refine⟨rfl,by omega,ls.length,fun nE c1 c2 n fo c=>?_⟩;(conv=>whnf);refine⟨fun q e h nx=>∃ (i:Nat) (j:Int),j=i∧i≤L.length∧q=L.length - i∧e=e89 L.length c (GQ l D L i) j∧h=(3,.cells false true 1 (flat aU.fl L))::eP l D ls nE c1 c2 n fo ls.length∧nx=2000,⟨L.length,?_⟩,?_⟩
 ·refine pK (P:=[]) (W:=(3,.cells false true 1 (flat aU.fl L))::eP l D ls nE c1 c2 n fo ls.length) (e0:=e89 L.length c 0 0) (n0:=2000) [] ⟨0,0,rfl,Nat.zero_le _,rfl,rfl,rfl,rfl⟩ ?_ (cQ (rK (by omega)) (by omega) (aI (aF _ _))) (fun k o hk=>hk) (fun _ h=>(by cases h)) (fun _ h=>(by cases h)) (fun _ h=>(by cases h)) (Nat.le_refl _);unfold e89;((repeat' refine iE rfl rfl ?_);exact iN)
 ·rintro q e h nx ⟨i,j,hj,hi,rfl,rfl,rfl,rfl⟩;unfold e89;((conv=>whnf);refine bm (fun h1=>?_) (fun h1=>?_))
  ·have hlt:i<L.length:=(by simp [aA,aG] at h1;omega);have hd:=oD hL (i:=i) hlt;((conv=>whnf);refine bm (fun h2=>?_) (fun h2=>?_))
   ·(conv=>whnf);refine lD (j1 L (i:=i) hlt ?_) ?_
    ·show _+Int.toNat j*1=_;omega
    (conv=>whnf);refine⟨0,[iv (aH L i)],4,5,1,2,6,tN ls.length,l,D,ls,nE,c1,c2,n,fo,rfl,IV (ext_cons (fun _ _ h=>h) (BW (by omega) (.inl rfl))),?_⟩;rw [aF1 hB hd.1 hd.2];refine aJ rfl ?_;have a1:=aAh hB hL i (by omega);have a2:=ZQ hB hd.1 hd.2;have hs:GQ l D L (i+1)=GQ l D L i+crI l D (aH L i):=rfl;generalize GQ l D L i=X at a1 hs ⊢;generalize crI l D (aH L i)=Y at a2 hs ⊢;((conv=>whnf);refine bm (fun h3=>?_) (fun h3=>?_))
    ·((conv=>whnf);refine bm (fun h4=>?_) (fun h4=>?_))
     ·(conv=>whnf);refine⟨L.length - (i+1),by omega,?_⟩;refine pK (P:=[]) (W:=(3,.cells false true 1 (flat aU.fl L))::eP l D ls nE c1 c2 n fo ls.length) (e0:=e89 L.length c (X+Y) (j+1)) (n0:=2000) [] ⟨i+1,j+1,by omega,by omega,rfl,by rw [hs];rfl,rfl,rfl⟩ ?_ (cQ (rK (by omega)) (by omega) (aI (aF _ _))) (fun k o hk=>hk) (fun _ h=>(by cases h)) (fun _ h=>(by cases h)) (fun _ h=>(by cases h)) (Nat.le_refl _);unfold e89;((repeat' refine iE rfl rfl ?_);exact iN)
     ·exfalso;simp [aA,aG,aK] at h4;omega
    ·exfalso;simp [aA,aG,aK] at h3;omega
   ·exfalso;simp [aA,aG] at h2;omega
  ·have hge:i=L.length:=(by simp [aA,aG] at h1;omega);subst hge;(conv=>whnf)
def aEM (s:List Pt→List Dt→List (List Int)→List Value→YS Int):XF:=fun args h nx K =>
 ∃ p r k0 k1 kd kt kf nm l D ls nE c1 c2 n fo,args=.pointer (some ⟨p,0,none⟩)::r∧uE h p k0 k1 kd kt kf nm l D ls nE c1 c2 n fo ∧
 (match s l D ls r with|some pr=>dI pr.1 (K (ylV pr.2.1 pr.2.2 nx) (cC h nx (.cells true false 1 (flat aU.fl pr.2.1))) (nx+1))|none=>False)
theorem aDy {P:Program}{C:VC}{f:Nat}{s:List Pt→List Dt→List (List Int)→List Value→YS Int}(hC:bF P C)
  (hs:∀ l D ls r out rest,s l D ls r=some (true,out,rest)→eY r=true∧dE rest=true∧ls.length≤1000∧∃ s0,∀ nE c1 c2 n fo,C f (.pointer (some ⟨0,0,none⟩)::r) (eP l D ls nE c1 c2 n fo s0) 2000 (YW aU out rest)):dK P f (aEM s):=by
 refine (jU (S:=fun args0 h0 n0 v1 h1 k=>∃ l D ls r s0 nE c1 c2 n fo out rest,dE rest=true∧C f (.pointer (some ⟨0,0,none⟩)::r) (eP l D ls nE c1 c2 n fo s0) 2000 (YW aU out rest)∧args0=.pointer (some ⟨0,0,none⟩)::r∧h0=eP l D ls nE c1 c2 n fo s0∧n0=2000∧v1=ylV out rest 0∧h1=ylH aU out∧k=1) hC ?_).mono ?_ ?_
 ·rintro args0 h0 n0 v1 h1 k ⟨l,D,ls,r,s0,nE,c1,c2,n,fo,out,rest,e2,e3,rfl,rfl,rfl,rfl,rfl,rfl⟩;exact⟨rfl,_,e3,fun v h nx e=>aEV aU e2 e⟩
 ·rintro args h nx K ⟨p,r,k0,k1,kd,kt,kf,nm,l,D,ls,nE,c1,c2,n,fo,rfl,hw,hx⟩;split at hx
  case h_2=>exact hx.elim
  rename_i pr e1;obtain⟨bb,out,rest⟩:=pr;obtain⟨rfl,hx⟩:=aD.1 hx;obtain⟨a1,a2,a3,s0,a4⟩:=hs l D ls r out rest e1;exact⟨_,_,2000,_,_,1,⟨l,D,ls,r,s0,nE,c1,c2,n,fo,out,rest,a2,a4 nE c1 c2 n fo,rfl,rfl,rfl,rfl,rfl,rfl⟩,YJ hw a3 s0 a1,aHQ aU a2 hx⟩
 ·rintro args h nx K ⟨p,r,k0,k1,kd,kt,kf,nm,l,D,ls,nE,c1,c2,n,fo,rfl,hw,hx⟩;split at hx
  case h_2=>exact hx.elim
  rename_i pr e1;obtain⟨hb,hx⟩:=aD.1 hx;exact⟨_,_,_,hx,fun K' hk=>⟨p,r,k0,k1,kd,kt,kf,nm,l,D,ls,nE,c1,c2,n,fo,rfl,hw,by rw [e1];exact aJ hb hk⟩⟩
theorem eI {W h:Heap}{q:Nat}{v:aS}(hx:∀ k o,look W k=some o→look h k=some o)(hq:look W q=none):∀ k o,look W k=some o→look (cC h q v) k=some o:=ext_cons hx hq
theorem SS {W h:Heap}{q:Nat}(hx:∀ k o,look W k=some o→look h k=some o)(hq:look W q=none):∀ k o,look W k=some o→look (rem h q) k=some o:=fun k o hk=>by
 rw [dF,if_neg (fun e=>by rw [e,hq] at hk;cases hk)];exact hx k o hk
theorem lO {W h:Heap}{q:Nat}{v:aS}(hx:∀ k o,look W k=some o→look h k=some o)(hq:look W q=none):∀ k o,look W k=some o→look (vS h q v) k=some o:=fun k o hk=>by
 rw [jK _ _ (fun e=>by rw [e,hq] at hk;cases hk)];exact hx k o hk
def iY (D:List Dt)(ls:List (List Int))(d:Int):Nat→Int
 |0=>d
 |i+1=>qV D ls (iY D ls d i)
def E7 (D:List Dt)(ls:List (List Int))(d:Int):Nat→Nat→Nat
 |0,i=>i
 |k+1,i=>if iY D ls d i=d then i else E7 D ls d k (i+1)
theorem gP (D:List Dt)(ls:List (List Int))(d:Int):∀ (k i:Nat),i≤E7 D ls d k i∧E7 D ls d k i≤i+k∧∀ t,i≤t→t<E7 D ls d k i→iY D ls d t≠d
 |0,i=>by unfold E7;exact⟨Nat.le_refl _,Nat.le_refl _,fun t h1 h2=>by omega⟩
 |k+1,i=>by
  unfold E7;split
  ·exact⟨Nat.le_refl _,by omega,fun t h1 h2=>by omega⟩
  ·rename_i h;obtain⟨h1,h2,h3⟩:=gP D ls d k (i+1);refine⟨by omega,by omega,fun t h4 h5=>?_⟩;by_cases e:t=i
   ·rw [e];exact h
   ·exact h3 t (by omega) h5
def gB (D:List Dt)(ls:List (List Int))(d:Int):Nat:=E7 D ls d D.length 1
def nS (D:List Dt)(ls:List (List Int))(d:Int):List Int:=(List.range (gB D ls d)).map (iY D ls d)
def rE (l:List Pt)(D:List Dt)(ls:List (List Int)):Bool:=FX l D ls&&(List.range D.length).all fun i=>nxB D ls i&&(decide (0≤qV D ls i)&&decide (qV D ls i<D.length))
theorem CN {l:List Pt}{D:List Dt}{ls:List (List Int)}(h:rE l D ls=true){d:Int}(h1:0≤d)(h2:d<D.length):nxB D ls d=true∧0≤qV D ls d∧qV D ls d<D.length:=by
 simp only [rE,Bool.and_eq_true] at h;have:=List.all_eq_true.1 h.2 d.toNat (List.mem_range.2 (by omega));rw [Int.toNat_of_nonneg h1] at this;simp only [Bool.and_eq_true,decide_eq_true_eq] at this;exact⟨this.1,this.2⟩
theorem CD {l:List Pt}{D:List Dt}{ls:List (List Int)}(h:rE l D ls=true):FX l D ls=true:=by
 simp only [rE,Bool.and_eq_true] at h;exact h.1
theorem PE {l:List Pt}{D:List Dt}{ls:List (List Int)}(h:rE l D ls=true){d:Int}(h1:0≤d)(h2:d<D.length):∀ i,0≤iY D ls d i∧iY D ls d i<D.length
 |0=>⟨h1,h2⟩
 |i+1=>by
  have ih:=PE h h1 h2 i;exact (CN h ih.1 ih.2).2
def wkS (l:List Pt)(D:List Dt)(ls:List (List Int)):List Value→YS Int
 |[.int .i64 d]=>some (rE l D ls&&decide (0≤d)&&decide (d<D.length)&&decide (iY D ls d (gB D ls d)=d),nS D ls d,[])
 |_=>none
def XO (D:List Dt)(ls:List (List Int))(d:Int)(i:Nat):List Int:=(List.range i).map (iY D ls d)
theorem UO (D:List Dt)(ls:List (List Int))(d:Int)(i:Nat):(XO D ls d i).length=i:=by simp [XO]
theorem aIw (D:List Dt)(ls:List (List Int))(d:Int)(i:Nat):XO D ls d (i+1)=XO D ls d i++[iY D ls d i]:=by
 unfold XO;rw [List.range_succ,List.map_append];rfl
theorem aA5 {l:List Pt}{D:List Dt}{ls:List (List Int)}{d:Int}(h:nxB D ls d=true):nxS l D ls [iv d]=some (true,iv (qV D ls d)):=by
 show some (nxB D ls d,iv (qV D ls d))=_;rw [h]
def e83 (d:Int)(i:Nat)(x:Int):List (Nat × Value):=[(0,.pointer (some ⟨0,0,none⟩)),(1,iv d),(5,.slice (some ⟨2000,0,none⟩) i i),(6,iv x)]
def aFA:Nat × XF:=(42,aEM wkS)
theorem aIS:dK Go.Proofs.Tryz.prog aFA.1 aFA.2:=aDy (f:=42) (s:=wkS) (aR (xl:=[aEH]) (.cons aHF .nil)) fun l D ls r out rest hs=>by
 have:∃ d,r=[iv d]∧rE l D ls=true∧0≤d∧d<D.length∧iY D ls d (gB D ls d)=d∧out=nS D ls d∧rest=[]:=by
  unfold wkS at hs;split at hs
  ·rename_i d;injection hs with hs;injection hs with h1 h2;injection h2 with h2 h3;simp only [Bool.and_eq_true,decide_eq_true_eq] at h1;exact⟨d,rfl,h1.1.1.1,h1.1.1.2,h1.1.2,h1.2,h2.symm,h3.symm⟩
  ·cases hs
 obtain⟨d,rfl,hB,h1,h2,h3,rfl,rfl⟩:=this;clear hs;have hn:=HP (CD hB);have hlow:=gP D ls d D.length 1;have hin:=PE hB h1 h2;refine⟨rfl,rfl,by omega,ls.length,fun nE c1 c2 n fo=>?_⟩;have hout:nS D ls d=XO D ls d (gB D ls d):=rfl;have hno:∀ q,2000≤q→look (eP l D ls nE c1 c2 n fo ls.length) q=none:=fun q hq=>BW (by omega) (.inr hq);rw [hout];unfold gB at h3 ⊢;generalize E7 D ls d D.length 1=N at h3 hlow ⊢;obtain⟨hN1,hN2,hN3⟩:=hlow;(conv=>whnf);refine⟨0,[iv d],4,5,1,2,6,tN ls.length,l,D,ls,nE,c1,c2,n,fo,rfl,IV (ext_cons (fun _ _ h=>h) (BW (by omega) (.inr (Nat.le_refl _)))),?_⟩;rw [aA5 (CN hB h1 h2).1];refine aJ rfl ?_;(conv=>whnf);refine⟨fun q e h nx=>∃ i:Nat,1≤i∧i≤N∧q=N - i∧e=e83 d i (iY D ls d i)∧h=[(2000,.cells true false 1 (flat aU.fl (XO D ls d i)))]++eP l D ls nE c1 c2 n fo ls.length∧nx=2001,⟨N - 1,?_⟩,?_⟩
 ·refine pK (P:=[(2000,.cells true false 1 (flat aU.fl (XO D ls d 1)))]) (W:=eP l D ls nE c1 c2 n fo ls.length) (e0:=e83 d 1 (iY D ls d 1)) (n0:=2001) [] ⟨1,Nat.le_refl _,hN1,rfl,rfl,rfl,rfl⟩ ?_ (rK (by omega)) (ext_cons (fun _ _ h=>h) (BW (by omega) (.inr (Nat.le_refl _)))) ?_ ?_ (fun _ h=>(by cases h)) (by omega)
  ·unfold e83;((repeat' refine iE rfl rfl ?_);exact iN)
  ·exact List.forall_mem_cons.2 ⟨⟨Nat.le_refl _,Nat.lt_succ_self _,Nat.le_refl _,_,rfl,cV (aF _ _) rfl⟩,fun _ h=>(by cases h)⟩
  ·show ∀ k∈[2000],∀ k'∈[2000],_;decide
 ·rintro q e h nx ⟨i,hi1,hi,rfl,rfl,rfl,rfl⟩;unfold e83;((conv=>whnf);refine bm (fun g1=>?_) (fun g1=>?_))
  ·have hx:iY D ls d i≠d:=(by simpa [aA,aG] using g1);have hlt:i<N:=by
    refine Decidable.byContradiction fun hc=>hx ?_;rw [show i=N by omega];exact h3
   have hB':=CN hB (hin i).1 (hin i).2;have hs:XO D ls d (i+1)=XO D ls d i++[iY D ls d i]:=aIw D ls d i;have hll:=UO D ls d i;have hnx:iY D ls d (i+1)=qV D ls (iY D ls d i):=rfl;generalize XO D ls d i=M at hs hll ⊢
   repeat' first
    |((conv=>whnf)
      refine bm1 (k:=i) ?_)
    |(((conv=>whnf);refine bm (fun g=>?_) (fun g=>?_)))
   ·(conv=>whnf);refine⟨0,[iv (iY D ls d i)],4,5,1,2,6,tN ls.length,l,D,ls,nE,c1,c2,n,fo,rfl,IV ?_,?_⟩
    ·exact eI (SS (eI (ext_cons (fun _ _ h=>h) (hno _ (by omega))) (hno _ (by omega))) (hno _ (by omega))) (hno _ (by omega))
    ·rw [aA5 hB'.1];refine aJ rfl ?_;(conv=>whnf);refine⟨N - (i+1),by omega,?_⟩;refine pK (P:=[(2000,.cells true false 1 (flat aU.fl (XO D ls d (i+1))))]) (W:=eP l D ls nE c1 c2 n fo ls.length) (e0:=e83 d (i+1) (iY D ls d (i+1))) (n0:=2001) [(2000,2002)] ⟨i+1,by omega,by omega,rfl,rfl,rfl,rfl⟩ ?_ (rK (by omega)) ?_ ?_ ?_ (by decide) (by omega)
     ·unfold e83;((repeat' refine iE rfl rfl ?_);exact iN)
     ·exact eI (SS (eI (ext_cons (fun _ _ h=>h) (hno _ (by omega))) (hno _ (by omega))) (hno _ (by omega))) (hno _ (by omega))
     ·refine List.forall_mem_cons.2 ⟨⟨Nat.le_refl _,Nat.lt_succ_self _,Nat.le_of_ble_eq_true rfl,_,rfl,cV (aF _ _) ?_⟩,fun _ h=>(by cases h)⟩;rw [hs,← DB aU M (iY D ls d i) (n:=i) hll.symm];rfl
     ·show ∀ k∈[2000],∀ k'∈[2000],_;decide
   ·exact aB5 (by rw [cG,hll];rfl) (by omega) g
  ·have hx:iY D ls d i=d:=(by simpa [aA,aG] using g1);have hge:i=N:=by
    refine Decidable.byContradiction fun hc=>hN3 i hi1 (by omega) hx
   subst hge;(conv=>whnf);refine⟨2000,?_,rfl⟩;unfold ylV;rw [UO];rfl
def dX {α:Type}(ok:α→Prop)(A:α→List Value)(H:α→Heap)(N:α→Nat)(V:α→Value)(H':α→Heap)(N':α→Nat):XF:=fun args h nx K=>∃ a,ok a∧args=A a∧h=H a∧nx=N a∧K (V a) (H' a) (N' a)
theorem RW {α:Type}{ok:α→Prop}{A:α→List Value}{H:α→Heap}{N:α→Nat}{V:α→Value}{H':α→Heap}{N':α→Nat}{P:Program}{C:VC}{f:Nat}(hC:bF P C)
  (hs:∀ a,ok a→C f (A a) (H a) (N a) (fun v h nx=>∃ ρ,oU (N a) ρ [(0,V a)] (H' a) (N' a) [(0,v)] h nx)):dK P f (dX ok A H N V H' N'):=by
 refine⟨fun args h nx K hx ι B w HH hsc=>?_,fun args h nx K hx=>?_⟩
 ·obtain⟨a,h1,rfl,rfl,rfl,hk⟩:=hx;obtain⟨c1,c2⟩:=hC f _ _ _ _ (hs a h1) ι B w HH hsc;refine⟨c1,CallsIn.mono c2 fun e w' hr=>?_⟩;cases e with
  |returned u =>
   obtain⟨v,h',nx',ι1,⟨ρ,hρ⟩,q2,q3,q4,q5,q6,rfl⟩:=hr;obtain⟨e1,e2⟩:=hρ.env 0 (V a) rfl;have ev:v=iM ρ (V a):=by
    have:some v=some (iM ρ (V a)):=e1;injection this
   subst ev;refine⟨V a,H' a,N' a,fun k=>ι1 (ρ k),hk,CM q2 e2,hρ.aEU q3,q4,fun k hk=>?_,hρ.le,C1 q2⟩;show ι1 (ρ k)=ι k;rw [hρ.fix k hk];exact q5 k hk
  |_=>exact hr.elim
 ·obtain⟨a,h1,h2,h3,h4,hk⟩:=hx;exact⟨_,_,_,hk,fun K' hk'=>⟨a,h1,h2,h3,h4,hk'⟩⟩
def lQ (D:List Dt)(x:Int):Nat:=(bK D x.toNat).tt.toNat
def CB (D:List Dt)(ls:List (List Int)):Nat→List Bool→Nat→List Bool
 |0,S,_=>S
 |n+1,S,p=>(bE ls p).foldl (fun S x=>if cM S (lQ D x)=true then S else CB D ls n S (lQ D x)) (S.set p true)
def pC (D:List Dt)(ls:List (List Int))(n:Nat)(S:List Bool)(p i:Nat):List Bool:=((bE ls p).take i).foldl (fun S x=>if cM S (lQ D x)=true then S else CB D ls n S (lQ D x)) (S.set p true)
theorem X0 {D:List Dt}{ls:List (List Int)}{n:Nat}{S:List Bool}{p i:Nat}(hi:i<(bE ls p).length):pC D ls n S p (i+1)=if cM (pC D ls n S p i) (lQ D (aH (bE ls p) i))=true then pC D ls n S p i else CB D ls n (pC D ls n S p i) (lQ D (aH (bE ls p) i)):=by
 unfold pC;rw [List.take_succ_eq_append_getElem hi,List.foldl_append,jQ hi];rfl
theorem aBe {D:List Dt}{ls:List (List Int)}{n:Nat}{S:List Bool}{p:Nat}:pC D ls n S p (bE ls p).length=CB D ls (n+1) S p:=by
 unfold pC;rw [List.take_length];rfl
def fI (S:List Bool):Nat:=S.countP fun b=>!b
theorem KI {S:List Bool}{p:Nat}(hp:p<S.length)(h:cM S p=false):fI (S.set p true)+1=fI S:=by
 unfold fI;rw [qQ hp] at h
 induction S generalizing p with
 |nil=>simp at hp
 |cons b r ih =>
  cases p with
  |zero =>
   simp only [List.getElem_cons_zero] at h;subst h;simp
  |succ p =>
   simp only [List.getElem_cons_succ] at h;have:=ih (by simpa using hp) h;simp only [List.set_cons_succ,List.countP_cons];omega
theorem Q9 (S:List Bool)(p:Nat):fI (S.set p true)≤fI S:=by
 unfold fI
 induction S generalizing p with
 |nil=>simp
 |cons b r ih =>
  cases p with
  |zero=>simp [List.countP_cons]
  |succ p =>
   have:=ih p;simp only [List.set_cons_succ,List.countP_cons];omega
theorem EI (D:List Dt)(ls:List (List Int)):∀ (n:Nat) (S:List Bool) (p:Nat),fI (CB D ls n S p)≤fI S∧(CB D ls n S p).length=S.length
 |0,S,p=>⟨Nat.le_refl _,rfl⟩
 |n+1,S,p=>by
  unfold CB;have key:∀ (L:List Int) (M:List Bool),fI (L.foldl (fun S x=>if cM S (lQ D x)=true then S else CB D ls n S (lQ D x)) M)≤fI M∧(L.foldl (fun S x=>if cM S (lQ D x)=true then S else CB D ls n S (lQ D x)) M).length=M.length:=by
   intro L
   induction L with
   |nil=>exact fun M=>⟨Nat.le_refl _,rfl⟩
   |cons x r ih =>
    intro M;rw [List.foldl_cons];split
    ·exact ih M
    ·obtain⟨a1,a2⟩:=ih (CB D ls n M (lQ D x));obtain⟨b1,b2⟩:=EI D ls n M (lQ D x);exact⟨by omega,by omega⟩
  obtain⟨a1,a2⟩:=key (bE ls p) (S.set p true);have:=Q9 S p;rw [List.length_set] at a2;exact⟨by omega,a2⟩
theorem TC {D:List Dt}{ls:List (List Int)}{n:Nat}{S:List Bool}{p:Nat}:∀ i,i≤(bE ls p).length→fI (pC D ls n S p i)≤fI (S.set p true)∧(pC D ls n S p i).length=S.length
 |0,_=>by unfold pC;simp
 |i+1,h=>by
  obtain⟨a1,a2⟩:=TC (D:=D) (ls:=ls) (n:=n) (S:=S) (p:=p) i (by omega);rw [X0 (by omega)];split
  ·exact⟨a1,a2⟩
  ·obtain⟨b1,b2⟩:=EI D ls n (pC D ls n S p i) (lQ D (aH (bE ls p) i));exact⟨by omega,by omega⟩
structure aAA where
 p:Int
 l:List Pt
 D:List Dt
 ls:List (List Int)
 nE:Nat
 c1:Nat
 c2:Nat
 n:Int
 fo:Option (Nat × Nat)
 S:List Bool
def aGp:Value:=.func (.func 145) #[] #[.pointer (some ⟨2002,0,none⟩),.pointer (some ⟨2000,0,none⟩),.pointer (some ⟨2003,0,none⟩)]
def qF (a:aAA)(S:List Bool):Heap:=(2003,.cells true false 1 [aGp])::(2002,.cells true false 1 [.slice (some ⟨2001,0,none⟩) a.ls.length a.ls.length])::(2001,.cells true false 1 (flat lU.fl S))::(2000,.cells true false 1 [.pointer (some ⟨0,0,none⟩)])::eP a.l a.D a.ls a.nE a.c1 a.c2 a.n a.fo a.ls.length
def VL (D:List Dt)(ls:List (List Int)):Bool:=ls.all fun L=>decide (L.length≠0)&&decide (L.length≤1000)&&XP D L
theorem aD8 {D:List Dt}{ls:List (List Int)}(h:VL D ls=true){i:Nat}(hi:i<ls.length):(bE ls i).length≠0∧(bE ls i).length≤1000∧XP D (bE ls i)=true:=by
 have:=List.all_eq_true.1 h _ (List.getElem_mem hi);unfold bE;rw [List.getD_eq_getElem?_getD,List.getElem?_eq_getElem hi];simp only [Bool.and_eq_true,decide_eq_true_eq] at this;exact⟨this.1.1,this.1.2,this.2⟩
def aHR (n:Nat)(a:aAA):Prop:=FX a.l a.D a.ls=true∧VL a.D a.ls=true∧0≤a.p∧a.p<a.ls.length∧a.S.length=a.ls.length∧cM a.S a.p.toNat=false∧fI a.S≤n
def A6 (p:Int)(s q:Nat)(j:Int):List (Nat × Value):=[(0,iv p),(1,.pointer (some ⟨2002,0,none⟩)),(2,.pointer (some ⟨2000,0,none⟩)),(3,.pointer (some ⟨2003,0,none⟩)),(16,.slice (some ⟨s+1000,0,none⟩) q q),(17,iv q),(18,iv j)]
def aEL (n:Nat):XF:=dX (aHR n) (fun a=>[iv a.p,.pointer (some ⟨2002,0,none⟩),.pointer (some ⟨2000,0,none⟩),.pointer (some ⟨2003,0,none⟩)]) (fun a=>qF a a.S) (fun _=>2004) (fun _=>.tuple #[]) (fun a=>qF a (CB a.D a.ls n a.S a.p.toNat)) (fun _=>2004)
theorem xI {W:Heap}{b c:Nat}(h:zS W b)(hb:b≤c):zS W c:=fun k o hk=>by
 obtain⟨h1,h2⟩:=h k o hk;exact⟨by omega,pD (fun _ _=>rfl) hb h2⟩
theorem xP {a:aAA}{M:List Bool}(hn:a.ls.length≤1000):zS (qF a M) 2004:=by
 unfold qF;refine cQ (cQ (cQ (cQ (xI (rK hn) (by omega)) (by omega) ?_) (by omega) (aI (aF _ _))) (by omega) ?_) (by omega) ?_
 ·exact⟨rfl,rfl,rfl,rfl,List.forall_mem_cons.2 ⟨⟨Nat.le_of_ble_eq_true rfl,rfl⟩,fun _ h=>(by cases h)⟩⟩
 ·exact⟨rfl,rfl,rfl,rfl,List.forall_mem_cons.2 ⟨⟨Nat.le_of_ble_eq_true rfl,fun h=>by cases h⟩,fun _ h=>(by cases h)⟩⟩
 ·refine⟨rfl,rfl,rfl,by simp [aGp,bM,bQ,m7,dU,j3],List.forall_mem_cons.2 ⟨⟨trivial,?_⟩,fun _ h=>(by cases h)⟩⟩;intro v hv;simp only [List.mem_cons,List.not_mem_nil,or_false] at hv;rcases hv with rfl|rfl|rfl
  ·exact⟨Nat.le_of_ble_eq_true rfl,rfl⟩
  ·exact⟨Nat.le_of_ble_eq_true rfl,rfl⟩
  ·exact⟨Nat.le_of_ble_eq_true rfl,rfl⟩
theorem aBy {a:aAA}{M:List Bool}{s:Nat}(hn:a.ls.length≤1000)(hs:s<a.ls.length)(h0:(bE a.ls s).length≠0):look (qF a M) (s+1000)=some (.cells false false 1 (flat aU.fl (bE a.ls s))):=by
 unfold qF;rw [aZ (by omega),aZ (by omega),aZ (by omega),aZ (by omega)];have:=IC (l:=a.l) (D:=a.D) (nE:=a.nE) (c1:=a.c1) (c2:=a.c2) (n:=a.n) (fo:=a.fo) (s:=a.ls.length) hs h0
 rwa [show tN a.ls.length s=s+1000 by unfold tN;rw [if_neg (by omega)]] at this
theorem JL {p j:Int}{s q:Nat}{e:List (Nat × Value)}(hs:s<1000)(he:∀ x∈A6 p s q j,look e x.1=some x.2):∀ x∈A6 p s q j,look e x.1=some (iM (rn []) x.2)∧BK 2004 x.2:=by
 have key:∀ x∈A6 p s q j,iM (rn []) x.2=x.2∧BK 2004 x.2:=by
  unfold A6;refine List.forall_mem_cons.2 ⟨⟨rfl,dD rfl⟩,List.forall_mem_cons.2 ⟨⟨rfl,Nat.le_of_ble_eq_true rfl,rfl⟩,List.forall_mem_cons.2 ⟨⟨rfl,Nat.le_of_ble_eq_true rfl,rfl⟩,List.forall_mem_cons.2 ⟨⟨rfl,Nat.le_of_ble_eq_true rfl,rfl⟩,List.forall_mem_cons.2 ⟨⟨rfl,show s+1000<2004 by omega,fun h=>by cases h⟩,List.forall_mem_cons.2 ⟨⟨rfl,dD rfl⟩,List.forall_mem_cons.2 ⟨⟨rfl,dD rfl⟩,fun _ h=>(by cases h)⟩⟩⟩⟩⟩⟩⟩
 exact fun x hx=>⟨by rw [(key x hx).1];exact he x hx,(key x hx).2⟩
theorem aBz {W:Heap}{b:Nat}(h:zS W b){v:Value}(hv:gT v=true):∃ ρ,oU b ρ [(0,v)] W b [(0,v)] W b :=
 ⟨id,fun t u hu=>by
  have hm:=bA hu;simp only [List.mem_cons,List.not_mem_nil,or_false] at hm;injection hm with e1 e2;subst e1 e2;exact⟨by rw [iM,fU hv];rfl,dD hv⟩,fun k o hk=>⟨(h k o hk).1,o,hk,(h k o hk).2⟩,fun _ _ _ _ _ _ e=>e,fun _ _=>rfl,Nat.le_refl _⟩
theorem SZ {S:List Bool}{p:Nat}(hp:p<S.length)(h:cM S p=false):0<fI S:=by
 have:=KI hp h;omega
theorem aDM:∀ n,dK Go.Proofs.Tryz.prog 145 (aEL n)
 |0=>RW (aR (xl:=[]) .nil) fun a ⟨h1,h2,h3,h4,h5,h6,h7⟩=>by
  have:=SZ (by omega) h6;omega
 |n+1=>RW (aR (xl:=[(145,aEL n)]) (.cons (aDM n) .nil)) fun a ⟨h1,h2,h3,h4,h5,h6,h7⟩=>by
  obtain⟨p,l,D,ls,nE,c1,c2,nI,fo,S⟩:=a;simp only at h1 h2 h3 h4 h5 h6 h7;have hn:=HP h1;obtain⟨q1,q2,q3⟩:=aD8 h2 (i:=p.toNat) (by omega);generalize ha:(⟨p,l,D,ls,nE,c1,c2,nI,fo,S⟩:aAA)=a;have hvH:∀ M:List Bool,qF a M=(2003,.cells true false 1 [aGp])::(2002,.cells true false 1 [.slice (some ⟨2001,0,none⟩) ls.length ls.length])::(2001,.cells true false 1 (flat lU.fl M))::(2000,.cells true false 1 [.pointer (some ⟨0,0,none⟩)])::eP l D ls nE c1 c2 nI fo ls.length:=fun M=>(by rw [← ha];rfl);have hpa:a.p=p:=(by rw [← ha]);have hSa:a.S=S:=(by rw [← ha]);have hDa:a.D=D:=(by rw [← ha]);have hla:a.ls=ls:=(by rw [← ha]);simp only [hpa,hSa,hDa,hla];clear ha hpa hSa hDa;rw [hvH S];generalize hpp:p.toNat=s at *;generalize hq:(bE ls s).length=q at *;have hvv:tV (tN ls.length s) (bE ls s)=.slice (some ⟨s+1000,0,none⟩) q q:=(by rw [tV,if_neg (by omega),tN,if_neg (by omega),hq]);have key:∀ o,o=s*1→nth (tC ls.length ls) o=some (.slice (some ⟨s+1000,0,none⟩) q q):=fun o ho=>(by rw [CS (by omega) ho,hvv]);unfold eP FV;rw [kQ (Nat.le_refl _)]
  repeat' first
   |(((conv=>whnf);refine bm (fun g=>?_) (fun g=>?_)))
   |((conv=>whnf)
     refine lD (key _ ?_) ?_
     ·show _+Int.toNat p*1=_;omega)
  all_goals first
   |(exfalso;simp [aA,aG,aK] at g;omega)
   |(exfalso
     have hb:Nat.ble (0+Int.toNat p*1+1) (flat lU.fl S).length=true:=Nat.ble_eq_true_of_le (by rw [cG];show _≤S.length*1;omega);exact Bool.false_ne_true (g.symm.trans hb))
   |skip
  (conv=>whnf);refine⟨fun q' e h nx=>∃ (i:Nat) (j:Int),j=i∧i≤q∧q'=q - i∧e=A6 p s q j∧h=qF a (pC D ls n S s i)∧nx=2004,⟨q,?_⟩,?_⟩
  ·refine pK (P:=[]) (W:=qF a (pC D ls n S s 0)) (e0:=A6 p s q 0) (n0:=2004) [] ⟨0,0,rfl,Nat.zero_le _,rfl,rfl,rfl,rfl⟩ ?_ ?_ ?_ (fun _ h=>(by cases h)) (fun _ h=>(by cases h)) (fun _ h=>(by cases h)) (Nat.le_refl _)
   ·refine JL (by omega) ?_;unfold A6;exact List.forall_mem_cons.2 ⟨rfl,List.forall_mem_cons.2 ⟨rfl,List.forall_mem_cons.2 ⟨rfl,List.forall_mem_cons.2 ⟨rfl,List.forall_mem_cons.2 ⟨rfl,List.forall_mem_cons.2 ⟨rfl,List.forall_mem_cons.2 ⟨rfl,fun _ h=>(by cases h)⟩⟩⟩⟩⟩⟩⟩
   ·exact xP (by rw [hla];omega)
   ·intro k o hk;have cC:eC (flat lU.fl S) (0+Int.toNat p*1) [.bool true]=flat lU.fl (pC D ls n S s 0):=by
     rw [hpp,Nat.zero_add,rU _ _ _ (by omega)];rfl
    rw [hvH,← cC] at hk;unfold eP FV at hk;rw [kQ (Nat.le_refl _)] at hk;exact hk
  ·rintro q' e h nx ⟨i,j,hj,hi,rfl,rfl,rfl,rfl⟩;unfold A6;((conv=>whnf);refine bm (fun h8=>?_) (fun h8=>?_))
   ·have hlt:i<q:=(by simp [aA,aG] at h8;omega);have hli:look (qF a (pC D ls n S s i)) (s+1000)=some (.cells false false 1 (flat aU.fl (bE ls s))):=by
     have:=aBy (a:=a) (M:=pC D ls n S s i) (s:=s) (by rw [hla];omega) (by rw [hla];omega) (by rw [hla,hq];exact q1)
     rwa [hla] at this
    have hd:=oD q3 (i:=i) (by omega);have ht:=P7 h1 (i:=(aH (bE ls s) i).toNat) (by omega);((conv=>whnf);refine bm (fun h9=>?_) (fun h9=>?_))
    ·(conv=>whnf);rw [hli];(conv=>whnf);refine lD (j1 (bE ls s) (i:=i) (by omega) ?_) ?_
     ·show _+Int.toNat j*1=_;omega
     have hvs:=X0 (D:=D) (n:=n) (S:=S) (show i<(bE ls s).length by omega);have hvl:=(TC (D:=D) (ls:=ls) (n:=n) (S:=S) (p:=s) i (by omega));generalize pC D ls n S s i=M at hvs hvl ⊢;generalize aH (bE ls s) i=x at hd ht hvs ⊢;rw [hvH M];unfold eP FV;rw [kQ (Nat.le_refl _)];have hE:∀ p' S' X,qF ⟨p',l,D,ls,nE,c1,c2,nI,fo,S'⟩ X=qF a X:=fun p' S' X=>(by rw [hvH];rfl);have hcs:=KI (S:=S) (p:=s) (by omega) h6;((conv=>whnf);refine bm (fun b1=>?_) (fun b1=>?_))
     ·(conv=>whnf);refine lD (UF D (i:=x.toNat) (by omega) ?_) ?_
      ·show _+Int.toNat x*5+4=_;omega
      ((conv=>whnf);refine bm (fun b2=>?_) (fun b2=>?_))
      ·(conv=>whnf);refine lD (aC6 M (i:=lQ D x) (by show Int.toNat _<_;omega) ?_) ?_
       ·show _+Int.toNat (bK D x.toNat).tt*1=_;rw [Nat.zero_add];rfl
       ((conv=>whnf);refine bm (fun b3=>?_) (fun b3=>?_))
       ·have hM:cM M (lQ D x)=false:=(by simpa [aA,aG] using b3);((conv=>whnf);refine bm (fun b4=>?_) (fun b4=>?_))
        ·(conv=>whnf);refine lD (UF D (i:=x.toNat) (by omega) ?_) ?_
         ·show _+Int.toNat x*5+4=_;omega
         (conv=>whnf);refine⟨⟨(bK D x.toNat).tt,l,D,ls,nE,c1,c2,nI,fo,M⟩,⟨h1,h2,ht.2.2.1,?_,?_,hM,?_⟩,rfl,?_,rfl,?_⟩
         ·show (bK D x.toNat).tt<(ls.length:Int);omega
         ·show M.length=ls.length;omega
         ·show fI M≤n;omega
         ·show _=qF _ M;unfold qF eP FV;simp only;rw [kQ (Nat.le_refl _)]
         ·((conv=>whnf);refine bm (fun b5=>?_) (fun b5=>?_))
          ·(conv=>whnf);refine⟨q - (i+1),by omega,?_⟩;refine pK (P:=[]) (W:=qF a (pC D ls n S s (i+1))) (e0:=A6 p s q (j+1)) (n0:=2004) [] ⟨i+1,j+1,by omega,by omega,rfl,rfl,rfl,rfl⟩ ?_ (xP (by rw [hla];omega)) ?_ (fun _ h=>(by cases h)) (fun _ h=>(by cases h)) (fun _ h=>(by cases h)) (Nat.le_refl _)
           ·refine JL (by omega) ?_;unfold A6;exact List.forall_mem_cons.2 ⟨rfl,List.forall_mem_cons.2 ⟨rfl,List.forall_mem_cons.2 ⟨rfl,List.forall_mem_cons.2 ⟨rfl,List.forall_mem_cons.2 ⟨rfl,List.forall_mem_cons.2 ⟨rfl,List.forall_mem_cons.2 ⟨rfl,fun _ h=>(by cases h)⟩⟩⟩⟩⟩⟩⟩
           ·intro k o hk;rw [hvs,if_neg (by rw [hM];decide),← hE (bK D x.toNat).tt M] at hk;exact hk
          ·exfalso;simp [aA,aG,aK] at b5;omega
        ·exfalso;simp [aA,aG] at b4;omega
       ·have hM:cM M (lQ D x)=true:=(by simpa [aA,aG] using b3);((conv=>whnf);refine bm (fun b4=>?_) (fun b4=>?_))
        ·(conv=>whnf);refine⟨q - (i+1),by omega,?_⟩;refine pK (P:=[]) (W:=qF a (pC D ls n S s (i+1))) (e0:=A6 p s q (j+1)) (n0:=2004) [] ⟨i+1,j+1,by omega,by omega,rfl,rfl,rfl,rfl⟩ ?_ (xP (by rw [hla];omega)) ?_ (fun _ h=>(by cases h)) (fun _ h=>(by cases h)) (fun _ h=>(by cases h)) (Nat.le_refl _)
         ·refine JL (by omega) ?_;unfold A6;exact List.forall_mem_cons.2 ⟨rfl,List.forall_mem_cons.2 ⟨rfl,List.forall_mem_cons.2 ⟨rfl,List.forall_mem_cons.2 ⟨rfl,List.forall_mem_cons.2 ⟨rfl,List.forall_mem_cons.2 ⟨rfl,List.forall_mem_cons.2 ⟨rfl,fun _ h=>(by cases h)⟩⟩⟩⟩⟩⟩⟩
         ·intro k o hk;rw [hvs,if_pos hM,hvH M] at hk;unfold eP FV at hk;rw [kQ (Nat.le_refl _)] at hk;exact hk
        ·exfalso;simp [aA,aG,aK] at b4;omega
      ·exfalso;simp [aA,aG] at b2;omega
     ·exfalso;simp [aA,aG] at b1;omega
    ·exfalso;simp [aA,aG] at h9;omega
   ·have hge:i=q:=(by simp [aA,aG] at h8;omega);(conv=>whnf);rw [hge,← hq,aBe];exact aBz (xP (by rw [hla];omega)) rfl
end Go.Aw
end
