/-
  Parts of a proof. No condition.
-/
import Derived.Test.YticajjhjehljpaaGreatQAh
import Derived.RangeFuncLeaves
set_option linter.unusedSimpArgs false
set_option linter.unusedVariables false
noncomputable section
namespace Go.Aw
open Go.RowKit
def E5 (F:KS→KS)(n:Nat):KS:=@Nat.rec (fun _=>KS) (fun _ _ _=>False) (fun _ ih e h nx=>F ih e h nx) n
inductive LM where
 |fuel (n:Nat)
 |inv (b:Nat)
def LM.low:LM→Nat→Prop
 |.fuel _,_=>True
 |.inv b,n=>n≤b
def qI (b:Nat)(I:KS):KS:=fun e h nx=>∃ e0 h0 n0 ρ,I e0 h0 n0∧oU b ρ e0 h0 n0 e h nx
def aAL (M:LM)(F:KS→KS):KS:=fun e h nx =>
 match M with
 |.fuel n=>E5 F n e h nx
 |.inv b=>∃ I:Nat→KS,(∃ n,qI b (I n) e h nx)∧∀ n e h nx,I n e h nx→F (fun e h nx=>∃ m,m<n∧qI b (I m) e h nx) e h nx
def y7 (A:Ar)(T:cF)(C:VC)(Y:VY)(tn:Nat)(ops:List Oper)(K:KS):Nat→List Nat→KS
 |0,_=>K
 |n+1,done=>fun e h nx=>match eE ops done ops 0 with
  |[]=>K e h nx
  |j::_=>(match eO ops j with|some o=>oL A T C Y tn ops o e h nx (y7 A T C Y tn ops K n (j::done))|none=>False)
theorem VF {A:Ar}{T:cF}{C:VC}{Y:VY}(hC:dM C)(hY:dM Y){tn:Nat}{ops:List Oper}{o:Oper}{e:List (Nat × Value)}{h:Heap}{nx:Nat}:j8 (oL A T C Y tn ops o e h nx):=by
 show j8 (fun K=>oL A T C Y tn ops o e h nx K);unfold oL
 exact uZ (F:=fun e K=>oZ A T C Y e h nx o.op fun v h' nx'=>dZ tn e o.dst v fun e'=>K e' h' nx') (G:=fun e K=>dZ tn e o.dst undef fun e'=>K e' h nx)
  (fun e=>y5 (F:=fun v h' nx' K=>dZ tn e o.dst v fun e'=>K e' h' nx') (BX hC hY) fun v h' nx'=>mL (F:=fun e' K=>K e' h' nx') fun e'=>l7)
  (fun e=>mL (F:=fun e' K=>K e' h nx) fun e'=>l7)
theorem uJ {A:Ar}{T:cF}{C:VC}{Y:VY}(hC:dM C)(hY:dM Y){tn:Nat}{ops:List Oper}:∀ n done e h nx,j8 (fun K=>y7 A T C Y tn ops K n done e h nx)
 |0,_,e,h,nx=>l7
 |n+1,done,e,h,nx=>by
  intro K hl;simp only [y7] at hl ⊢;split at hl
  ·exact⟨e,h,nx,hl,fun K' q=>q⟩
  ·split at hl
   case h_2=>exact hl.elim
   rename_i o ho;obtain⟨e1,h1,n1,q1,q2⟩:=VF hC hY _ hl;obtain⟨e2,h2,n2,q3,q4⟩:=uJ hC hY n _ e1 h1 n1 K q1;exact⟨e2,h2,n2,q3,fun K' q=>q2 _ (q4 K' q)⟩
def NI (A:Ar)(T:cF)(C:VC)(Y:VY)(tn:Nat)(M:LM)(ops:Array Oper):List (Nat × Value)→Heap→Nat→KS→Prop:=fun e h nx K =>
 match M with
 |.fuel _=>y7 A T C Y tn ops.toList (fun _ _ _=>∃ e0 h0 n0,D0 A T C Y tn ops.toList (qI nx fun e' h' n'=>e'=e0∧h'=h0∧n'=n0) ops.size [] e h nx∧K e0 h0 n0) ops.size [] e h nx
 |.inv b=>∃ I:KS,D0 A T C Y tn ops.toList (qI b I) ops.size [] e h nx∧∀ e h nx,I e h nx→K e h nx
abbrev VR:=Operand→Array Tmp→Code→Code→KS→(Nat→KS)→KS→KS
def fY (A:Ar)(T:cF)(C:VC)(Y:VY)(tn:Nat)(PL:Nat→Option eM)(M:LM)(R:VR)(c:Code):KS→(Nat→KS)→KS→KS :=
 @Code.rec (fun _=>KS→(Nat→KS)→KS→KS) (fun kn _ _=>kn)
  (fun id ops draw kn _ _ e h nx=>match draw with
   |false=>yK A T C Y tn ops.toList ops.toList e h nx kn
   |true=>(match PL id with|some p=>nO A T C Y tn ops.toList p e h nx kn|none=>NI A T C Y tn M ops e h nx kn))
  (fun _ _ iha ihb kn kx kr=>iha (ihb kn kx kr) kx kr)
  (fun c _ _ iht ihf kn kx kr e h nx=>match cU e c with
   |some (.bool b)=>br b (fun _=>iht kn kx kr e h nx) (fun _=>ihf kn kx kr e h nx)
   |_=>False)
  (fun id _ ih kn kx kr=>ih kn (fun j=>match Nat.beq j id with|true=>kn|false=>kx j) kr)
  (fun _ ih _ kx kr=>aAL M (fun k=>ih k kx kr))
  (fun g ps as bd _ _ kn kx kr=>R g ps as bd kn kx kr)
  (fun id _ kx _=>kx id)
  (fun _ ih kn kx kr=>ih kn kx kr)
  (fun _ kn _ _=>kn)
  (fun _ _ _ _ _ _ _=>False)
  (fun _ _ kr=>kr)
  (fun _ _ _ _ _ _ _=>False) c
section
variable {A:Ar}{T:cF}{C:VC}{Y:VY}{tn:Nat}{PL:Nat→Option eM}{M:LM}{R:VR}{kn kr:KS}{kx:Nat→KS}{e:List (Nat × Value)}{h:Heap}{nx:Nat}
theorem fM {id:Nat}{ops:Array Oper}{draw:Bool}:fY A T C Y tn PL M R (.region id ops draw) kn kx kr e h nx=match draw with
 |false=>yK A T C Y tn ops.toList ops.toList e h nx kn
 |true=>(match PL id with|some p=>nO A T C Y tn ops.toList p e h nx kn|none=>NI A T C Y tn M ops e h nx kn):=rfl
theorem jA {c:Operand}{t f:Code}:fY A T C Y tn PL M R (.cond c t f) kn kx kr e h nx=match cU e c with
 |some (.bool b)=>br b (fun _=>fY A T C Y tn PL M R t kn kx kr e h nx) (fun _=>fY A T C Y tn PL M R f kn kx kr e h nx)
 |_=>False:=rfl
theorem NT {id:Nat}{b:Code}:fY A T C Y tn PL M R (.block id b) kn kx kr e h nx=fY A T C Y tn PL M R b kn (fun j=>match Nat.beq j id with|true=>kn|false=>kx j) kr e h nx:=rfl
theorem pV {b:Code}:fY A T C Y tn PL M R (.loop b) kn kx kr e h nx=aAL M (fun k=>fY A T C Y tn PL M R b k kx kr) e h nx:=rfl
end
def dN (PL:Nat→Option eM):Code→Bool
 |.region id ops true=>(match PL id with|some p=>QV ops p|none=>true)
 |.seq a b=>dN PL a&&dN PL b
 |.cond _ a b=>dN PL a&&dN PL b
 |.block _ b=>dN PL b
 |.loop b=>dN PL b
 |.scope b=>dN PL b
 |_=>true
def AA (b:Nat):Deferred:={ target:=.collected b,args:=#[] }
def Marks (B0 B:Nat)(w:World)(ds:List Deferred):Prop:=∃ bs:List Nat,ds=bs.map AA∧bs.Nodup∧∀ b∈bs,B0≤b∧b<B∧w.heap[b]? = some (.deferred (some []))
def pO (B0:Nat)(w0:World)(ι0:Nat→Loc)(nx0 tn:Nat)(ι:Nat→Loc)(env:List (Nat × Value))(h:Heap)(nx:Nat)(a:Act)(w:World):Prop :=
 ∃ B w1 ι1 nx1 ds,B0≤B∧fQ B0 w0 w1∧(∀ k,k<nx0→ι1 k=ι0 k)∧nx0≤nx1∧Marks B0 B w1 ds∧Inv B w1 ι1 nx1 tn ds ι env h nx a w
section
variable {P:Program}{T:cF}{C:VC}{Y:VY}{B0:Nat}{w0:World}{ι0:Nat→Loc}{nx0 tn:Nat}{PL:Nat→Option eM}{M:LM}{R:VR}
structure Ends (B0:Nat) (w0:World) (ι0:Nat→Loc) (nx0 tn:Nat) (kn:KS) (kx:Nat→KS) (kr:KS) (Q:Exit→Act→World→Prop):Prop where
 n:∀ ι e h nx a w,kn e h nx→pO B0 w0 ι0 nx0 tn ι e h nx a w→Q .normal a w
 x:∀ id ι e h nx a w,kx id e h nx→pO B0 w0 ι0 nx0 tn ι e h nx a w→Q (.exit id) a w
 r:∀ ι e h nx a w,kr e h nx→pO B0 w0 ι0 nx0 tn ι e h nx a w→Q .ret a w
def B7 (P:Program)(r:Option Nat)(tn:Nat)(R:VR):Prop:=∀ g ps as bd kn kx kr e h nx,R g ps as bd kn kx kr e h nx→∀ B0 w0 ι0 nx0 Q,Ends B0 w0 ι0 nx0 tn kn kx kr Q→∀ ι a w,pO B0 w0 ι0 nx0 tn ι e h nx a w →
 (Code.rangeFunc g ps as bd).wpIn (Fr r) 0 P Q a w
theorem jH {b:Frame}{a:Act}{k:List Item}{cs:List Frame}{w:World}{c:Code}:step P (lone (b.atR a (.code (.scope c)::k)) cs w)=.next (lone (b.atR a (.code c::.inScope c::k)) cs w) :=
 step_lone_go (by simp [stepG,stepG.exec,Frame.atR])
theorem F6 {b:Frame}{a:Act}{k:List Item}{cs:List Frame}{w:World}{c:Code}:step P (lone (b.atR a (.inScope c::k)) cs w)=.next (lone (b.atR a k) cs w) :=
 step_lone_go (by simp [stepG,stepG.exec,Frame.atR])
theorem tM {F:Fence}{n:Nat}{c:Code}{Q:Exit→Act→World→Prop}{a:Act}{w:World}(h:c.wpIn F n P (fun e a w=>(∀ l,e≠.goto l)∧Q e a w) a w):(Code.scope c).wpIn F n P Q a w:=by
 intro b k cs hro hb hr;have h0:(lone (b.atR a (.code (.scope c)::k)) cs w).fenced P F:=fenced_calm hb hr rfl;obtain⟨e,a₁,w₁,⟨hg,hq⟩,harr⟩:=h b (.inScope c::k) cs hro hb hr;cases e with
 |normal=>exact⟨.normal,a₁,w₁,hq,.head h0 jH (StepsIn.trans harr (.one (fenced_calm hb hr rfl) F6))⟩
 |exit id =>
  have hx:exitTo id (.inScope c::k)=exitTo id k:=by simp [exitTo]
  exact⟨.exit id,a₁,w₁,hq,fun k' hk=>.head h0 jH (harr.1 k' (by rw [hx];exact hk)),
   fun hr' hk=>let ⟨k₁,h1,h2⟩:=harr.2 hr' (by rw [hx];exact hk);⟨k₁,h1,.head h0 jH h2⟩⟩
 |goto l=>exact absurd rfl (hg l)
 |ret=>exact⟨_,a₁,w₁,hq,.of_steps (.one h0 jH) harr⟩
 |panic ch=>exact⟨_,a₁,w₁,hq,.of_steps (.one h0 jH) harr⟩
 |outgrown=>exact⟨_,a₁,w₁,hq,.of_steps (.one h0 jH) harr⟩
theorem pO.aBO {ι:Nat→Loc}{e:List (Nat × Value)}{h:Heap}{nx:Nat}{a:Act}{w:World}{b:Nat}{I:KS}(J:pO B0 w0 ι0 nx0 tn ι e h nx a w)(hb:nx0≤b)(hi:qI b I e h nx):∃ ι' e' h' nx',I e' h' nx'∧pO B0 w0 ι0 nx0 tn ι' e' h' nx' a w:=by
 obtain⟨e',h',nx',ρ,hI,r⟩:=hi;obtain⟨B,w1,ι1,nx1,ds,h1,h2,h3,h4,h5,J⟩:=J;refine⟨fun k=>ι (ρ k),e',h',nx',hI,B,w1,ι0,nx0,ds,h1,h2,fun _ _=>rfl,Nat.le_refl _,h5,r.aHL J.env,r.aEU J.heap,J.below,fun k hk=>?_,Nat.le_trans hb r.le,J.size,J.defers⟩;rw [r.fix k (Nat.lt_of_lt_of_le hk hb)];exact (J.old k (Nat.lt_of_lt_of_le hk h4)).trans (h3 k hk)
theorem least {p:Nat→Prop}(h:∃ n,p n):∃ m,p m∧∀ k,p k→m≤k:=by
 obtain⟨n,hn⟩:=h
 induction n using Nat.strongRecOn with
 |_ n ih =>
  by_cases hk:∃ k,p k∧k<n
  ·obtain⟨k,h1,h2⟩:=hk;exact ih k h2 h1
  ·exact⟨n,hn,fun k h1=>Nat.le_of_not_lt fun h2=>hk ⟨k,h1,h2⟩⟩
theorem yI {r:Option Nat}{c:Code}{Q:Exit→Act→World→Prop}{a:Act}{w:World}{I:Nat→Act→World→Prop}{n:Nat}(h₀:I n a w)
  (round:∀ n a w,I n a w→c.wpIn (Fr r) 0 P (Exit.then (fun a' w'=>∃ m,m<n∧I m a' w') Q) a w):(Code.loop c).wpIn (Fr r) 0 P Q a w:=by
 classical
 refine wpIn_loop (fun a w=>∃ n,I n a w) (fun a w=>if h:∃ n,I n a w then Classical.choose (least h) else 0) ⟨n,h₀⟩ fun a w h=>?_;have hs:=Classical.choose_spec (least h);refine Code.wpIn_mono (fun e a' w' hq=>?_) (round _ a w hs.1);cases e <;> try exact hq
 obtain⟨m,hm,hI⟩:=hq;refine⟨⟨m,hI⟩,?_⟩;have h':∃ n,I n a' w':=⟨m,hI⟩;simp only [dif_pos h',dif_pos h];exact Nat.lt_of_le_of_lt ((Classical.choose_spec (least h')).2 m hI) hm
end
section
variable {P:Program}{T:cF}{C:VC}{Y:VY}{tn:Nat}{PL:Nat→Option eM}{M:LM}{R:VR}
def T1 (R:VR):Prop:=∀ g ps as bd (kn kn':KS) (kx kx':Nat→KS) (kr kr':KS) e h nx,(∀ e h nx,kn e h nx→kn' e h nx)→(∀ id e h nx,kx id e h nx→kx' id e h nx)→(∀ e h nx,kr e h nx→kr' e h nx)→R g ps as bd kn kx kr e h nx→R g ps as bd kn' kx' kr' e h nx
theorem EH (hT:cA P T)(hC:bF P C)(hY:dW P Y)(hD:dM C)(hDY:dM Y)(hm:P.follows .mixedOrders=true)(r:Option Nat)(hR:B7 P r tn R)(hRm:T1 R) :
  ∀ (c:Code),dN PL c=true→∀ (kn:KS) (kx:Nat→KS) (kr:KS) e h nx,fY aG T C Y tn PL M R c kn kx kr e h nx→∀ B0 w0 ι0 nx0 Q,M.low nx0→Ends B0 w0 ι0 nx0 tn kn kx kr Q→∀ ι a w,pO B0 w0 ι0 nx0 tn ι e h nx a w →
    c.wpIn (Fr r) 0 P Q a w:=by
 intro c
 induction c with
 |skip=>exact fun _ kn kx kr e h nx hl B0 w0 ι0 nx0 Q hM E ι a w I=>wpIn_skip (E.n ι e h nx a w hl I)
 |region id ops draw =>
  intro hp kn kx kr e h nx hl B0 w0 ι0 nx0 Q hM E ι a w I;obtain⟨B,w1,ι1,nx1,ds,h1,h2,h3,h4,h5,J⟩:=I;simp only [fM,jA,pV] at hl;cases draw with
  |false =>
   refine wpIn_region_list (J8 hT hC hY r ops.toList ι e h nx a w hl J fun ι' e' h' nx' a' w' hk J'=>?_);exact E.n ι' e' h' nx' a' w' hk ⟨B,w1,ι1,nx1,ds,h1,h2,h3,h4,h5,J'⟩
  |true =>
   simp only [dN] at hp;simp only at hl;cases hpl:PL id with
   |none =>
    rw [hpl] at hl;simp only [NI] at hl;cases M with
    |fuel n =>
     obtain⟨ea,ha,na,⟨e0,h0,n0,hi,hK⟩,hr⟩:=uJ hD hDY _ _ _ _ _ _ hl;refine LO hT hC hY hm J hi r fun ι' e' h' nx' a' w' hk J'=>?_;obtain⟨ι2,e2,h2',nx2,⟨rfl,rfl,rfl⟩,k2⟩:=pO.aBO ⟨B,w1,ι1,nx1,ds,h1,h2,h3,h4,h5,J'⟩ (Nat.le_trans h4 J.le) hk;exact E.n ι2 _ _ _ a' w' hK k2
    |inv b =>
     obtain⟨I,hi,hI⟩:=hl;refine LO hT hC hY hm J hi r fun ι' e' h' nx' a' w' hk J'=>?_;obtain⟨ι2,e2,h2',nx2,k1,k2⟩:=pO.aBO ⟨B,w1,ι1,nx1,ds,h1,h2,h3,h4,h5,J'⟩ hM hk;exact E.n ι2 e2 h2' nx2 a' w' (hI _ _ _ k1) k2
   |some p =>
    rw [hpl] at hl hp;exact Q2 hT hC hY hD hm (N8 hp) J hl r fun ι' e' h' nx' a' w' hk J'=>E.n ι' e' h' nx' a' w' hk ⟨B,w1,ι1,nx1,ds,h1,h2,h3,h4,h5,J'⟩
 |seq a b iha ihb =>
  intro hp kn kx kr e h nx hl B0 w0 ι0 nx0 Q hM E ι ac w I;simp only [dN,Bool.and_eq_true] at hp;refine wpIn_seq (iha hp.1 _ kx kr e h nx hl B0 w0 ι0 nx0 _ hM ⟨fun ι e h nx a w hk I=>?_,fun id ι e h nx a w hk I=>?_,fun ι e h nx a w hk I=>?_⟩ ι ac w I)
  ·exact ihb hp.2 kn kx kr e h nx hk B0 w0 ι0 nx0 Q hM E ι a w I
  ·exact E.x id ι e h nx a w hk I
  ·exact E.r ι e h nx a w hk I
 |cond c t f iht ihf =>
  intro hp kn kx kr e h nx hl B0 w0 ι0 nx0 Q hM E ι a w I;simp only [dN,Bool.and_eq_true] at hp;simp only [fM,jA,pV] at hl;split at hl
  case h_2=>exact hl.elim
  rename_i b hb;have hc:a.eval c=.bool b:=by
   obtain⟨B,w1,ι1,nx1,ds,h1,h2,h3,h4,h5,J⟩:=I;rw [(J.env.cU hb).1,pQ]
  rcases mQ hl with ⟨rfl,hl⟩|⟨rfl,hl⟩
  ·exact wpIn_cond_true hc (iht hp.1 kn kx kr e h nx hl B0 w0 ι0 nx0 Q hM E ι a w I)
  ·exact wpIn_cond_false hc (ihf hp.2 kn kx kr e h nx hl B0 w0 ι0 nx0 Q hM E ι a w I)
 |block id b ih =>
  intro hp kn kx kr e h nx hl B0 w0 ι0 nx0 Q hM E ι a w I;refine wpIn_block (ih hp _ _ kr e h nx hl B0 w0 ι0 nx0 (Exit.inBlock id Q) hM ⟨E.n,fun j ι e h nx a w hk I=>?_,E.r⟩ ι a w I);cases hb:Nat.beq j id with
  |true =>
   rw [hb] at hk;simp only [Exit.inBlock,if_pos (beq_true hb)];exact E.n ι e h nx a w hk I
  |false =>
   rw [hb] at hk;simp only [Exit.inBlock,if_neg (beq_false hb)];exact E.x j ι e h nx a w hk I
 |loop b ih =>
  intro hp kn kx kr e h nx hl B0 w0 ι0 nx0 Q hM E ι a w I;simp only [fM,jA,pV] at hl;cases M with
  |fuel n0 =>
   refine yI (I:=fun n a w=>∃ ι e h nx,E5 (fun k=>fY aG T C Y tn PL (.fuel n0) R b k kx kr) n e h nx∧pO B0 w0 ι0 nx0 tn ι e h nx a w) (n:=n0) ⟨ι,e,h,nx,hl,I⟩ fun m a w hi=>?_;obtain⟨ι,e,h,nx,h1,I⟩:=hi;cases m with
   |zero=>exact h1.elim
   |succ m =>
    refine ih hp (E5 (fun k=>fY aG T C Y tn PL (.fuel n0) R b k kx kr) m) kx kr e h nx h1 B0 w0 ι0 nx0 (Exit.then (fun a' w'=>∃ m',m'<m+1∧∃ ι e h nx,E5 (fun k=>fY aG T C Y tn PL (.fuel n0) R b k kx kr) m' e h nx∧pO B0 w0 ι0 nx0 tn ι e h nx a' w') Q) hM ⟨fun ι e h nx a w hk I=>?_,fun id ι e h nx a w hk I=>E.x id ι e h nx a w hk I,fun ι e h nx a w hk I=>E.r ι e h nx a w hk I⟩ ι a w I;exact⟨m,Nat.lt_succ_self m,ι,e,h,nx,hk,I⟩
  |inv bs =>
   obtain⟨J,⟨n,h0⟩,hJ⟩:=hl;obtain⟨ι',e',h',nx',h0',I'⟩:=I.aBO hM h0;refine yI (I:=fun n a w=>∃ ι e h nx,J n e h nx∧pO B0 w0 ι0 nx0 tn ι e h nx a w) (n:=n) ⟨ι',e',h',nx',h0',I'⟩ fun n a w hi=>?_;obtain⟨ι,e,h,nx,h1,I⟩:=hi;refine ih hp _ kx kr e h nx (hJ n e h nx h1) B0 w0 ι0 nx0 (Exit.then (fun a' w'=>∃ m,m<n∧∃ ι e h nx,J m e h nx∧pO B0 w0 ι0 nx0 tn ι e h nx a' w') Q) hM ⟨fun ι e h nx a w hk I=>?_,fun id ι e h nx a w hk I=>E.x id ι e h nx a w hk I,fun ι e h nx a w hk I=>E.r ι e h nx a w hk I⟩ ι a w I;obtain⟨m,hm,hk⟩:=hk;obtain⟨ι',e',h',nx',hk',I'⟩:=I.aBO hM hk;exact⟨m,hm,ι',e',h',nx',hk',I'⟩
 |rangeFunc g ps as bd _ _=>exact fun _ kn kx kr e h nx hl B0 w0 ι0 nx0 Q hM E ι a w I=>hR g ps as bd kn kx kr e h nx hl B0 w0 ι0 nx0 Q E ι a w I
 |exit id=>exact fun _ kn kx kr e h nx hl B0 w0 ι0 nx0 Q hM E ι a w I=>wpIn_exit (E.x id ι e h nx a w hl I)
 |ret=>exact fun _ kn kx kr e h nx hl B0 w0 ι0 nx0 Q hM E ι a w I=>wpIn_ret (E.r ι e h nx a w hl I)
 |label l=>exact fun _ kn kx kr e h nx hl B0 w0 ι0 nx0 Q hM E ι a w I=>wpIn_label (E.n ι e h nx a w hl I)
 |scope b ih =>
  intro hp kn kx kr e h nx hl B0 w0 ι0 nx0 Q hM E ι a w I;refine tM (ih hp kn kx kr e h nx hl B0 w0 ι0 nx0 _ hM ⟨fun ι e h nx a w hk I=>⟨fun l he=>(by cases he),E.n ι e h nx a w hk I⟩,fun id ι e h nx a w hk I=>⟨fun l he=>(by cases he),E.x id ι e h nx a w hk I⟩,fun ι e h nx a w hk I=>⟨fun l he=>(by cases he),E.r ι e h nx a w hk I⟩⟩ ι a w I)
 |goto l=>exact fun _ _ _ _ _ _ _ hl=>hl.elim
 |refuse s=>exact fun _ _ _ _ _ _ _ hl=>hl.elim
end
def fE (T:cF)(e:List (Nat × Value))(h:Heap)(l:List ResultVar):(List Value→Prop)→Prop :=
 @List.rec ResultVar (fun _=>(List Value→Prop)→Prop) (fun K=>K [])
  (fun x _ ih K=>match x with
   |.tmp t=>on (look e t) fun v=>ih fun l=>K (v::l)
   |.cell a t=>on (look e a) fun p=>rR T h t p fun v=>ih fun l=>K (v::l)) l
theorem lR {T:cF}{e:List (Nat × Value)}{h:Heap}{t:Nat}{r:List ResultVar}{K:List Value→Prop}:fE T e h (.tmp t::r) K=on (look e t) fun v=>fE T e h r fun l=>K (v::l):=rfl
theorem kR {T:cF}{e:List (Nat × Value)}{h:Heap}{a:Nat}{t:TypeId}{r:List ResultVar}{K:List Value→Prop}:fE T e h (.cell a t::r) K=on (look e a) fun p=>rR T h t p fun v=>fE T e h r fun l=>K (v::l):=rfl
def HM:List Value→Bool
 |[]=>true
 |.tuple _::_=>false
 |_::r=>HM r
def BJ (T:cF)(fn:Func)(K:KE):KS:=fun e h nx=>fE T e h fn.results.toList fun l =>
 match l with
 |[v]=>K v h nx
 |l=>match HM l with|true=>K (.tuple l.toArray) h nx|false=>False
def yS (tmps:Array Value):ResultVar→Sem Value
 |.tmp t=>pure (tmps.getD t undef)
 |.cell b t=>do loadVar t (← asAddr (tmps.getD b undef))
theorem O4 (fn:Func)(tmps:Array Value):results fn tmps=(do let vs ← fn.results.mapM (yS tmps);pure (if h:vs.size=1 then vs[0] else .tuple vs)):=by
 unfold results;congr 1
section
variable {P:Program}{T:cF}
theorem rH (hT:cA P T){ι:Nat→Loc}{B nx:Nat}{e:List (Nat × Value)}{h:Heap}{a:Act}(he:cT ι nx e a){w:World}(H:aO ι B h nx w):∀ (l:List ResultVar) (K:List Value→Prop),fE T e h l K →
  ∃ vs,K vs∧vs.length=l.length∧(∀ v∈vs,eG ι nx v)∧∀ w',aO ι B h nx w'→(l.mapM (yS a.tmps)).run P w'=.ok (vs.map (tr ι)) w'
 |[],K,hl=>⟨[],hl,rfl,by simp,fun w' _=>by simp⟩
 |.tmp t::r,K,hl=>by
  simp only [lR,kR] at hl;obtain⟨v,hv,hl⟩:=cR hl;obtain⟨vs,h1,h2,h3,h4⟩:=rH hT he H r _ hl;obtain⟨e1,e2⟩:=he t v hv;refine⟨v::vs,h1,by simp [h2],fun u hu=>?_,fun w' H'=>?_⟩
  ·rcases List.mem_cons.1 hu with rfl|hu
   ·exact e2
   ·exact h3 u hu
  ·have:=h4 w' H';have h6:(yS a.tmps (.tmp t)).run P w'=.ok (tr ι v) w':=(by simp [yS,e1]);simp only [List.mapM_cons,Sem.run_bind,Sem.run_pure,Result.andThen_ok,this,h6,List.map_cons]
 |.cell b t::r,K,hl=>by
  simp only [lR,kR] at hl;obtain⟨p,hp,hl⟩:=cR hl;obtain⟨v,hk,hv,hrun⟩:=N1 (P:=P) hT hl H;obtain⟨vs,h1,h2,h3,h4⟩:=rH hT he H r _ hk;obtain⟨e1,e2⟩:=he b p hp;refine⟨v::vs,h1,by simp [h2],fun u hu=>?_,fun w' H'=>?_⟩
  ·rcases List.mem_cons.1 hu with rfl|hu
   ·exact kU hv
   ·exact h3 u hu
  ·have:=h4 w' H';have e3:a.tmps.getD b undef=tr ι p:=(by simp [e1]);have h5:=hrun w' H';have hptr:∃ ad,tr ι p=.pointer (some ad):=by
    unfold rR at hl;split at hl
    ·rename_i k o;simp only [eS];split at hl
     ·rename_i ti wr g sz cs ht hlk;have hsc:k<nx∧(ι k).gC=true:=e2;cases hι:ι k with
      |nil q=>rw [hι] at hsc;cases hsc.2
      |lay b o e=>exact⟨_,rfl⟩
     ·exact hl.elim
    ·exact hl.elim
   obtain⟨ad,had⟩:=hptr;rw [had] at h5;simp only [Instr.loadAt,Instr.sureAddr,Sem.run_bind,Sem.run_pure,Result.andThen_ok] at h5;have h6:(yS a.tmps (.cell b t)).run P w'=.ok (tr ι v) w':=by
    simp only [yS,e3,had,asAddr,Sem.run_bind,Sem.run_pure,Result.andThen_ok,h5]
   simp only [List.mapM_cons,Sem.run_bind,Sem.run_pure,Result.andThen_ok,h6,this,List.map_cons]
theorem aBT (hT:cA P T){fn:Func}{K:KE}{ι:Nat→Loc}{B nx:Nat}{e:List (Nat × Value)}{h:Heap}{a:Act}(he:cT ι nx e a){w:World}(H:aO ι B h nx w)(hl:BJ T fn K e h nx) :
  ∃ v,K v h nx∧eG ι nx v∧∀ w',aO ι B h nx w'→(results fn a.tmps).run P w'=.ok (tr ι v) w':=by
 unfold BJ at hl;obtain⟨vs,h1,h2,h3,h4⟩:=rH hT he H _ _ hl;have hres:∀ w',aO ι B h nx w'→(results fn a.tmps).run P w'=.ok (if h:(vs.map (tr ι)).toArray.size=1 then (vs.map (tr ι)).toArray[0] else .tuple (vs.map (tr ι)).toArray) w':=by
  intro w' H';have:=h4 w' H';rw [O4,Array.mapM_eq_mapM_toList];simp only [Sem.run_bind,Sem.run_map,this,Result.andThen_ok,Sem.run_pure]
 split at h1
 ·rename_i v;exact⟨v,h1,h3 v (by simp),fun w' H'=>by rw [hres w' H'];simp⟩
 ·rename_i hne;split at h1
  case h_2=>exact h1.elim
  rename_i hnt;have hA:∀ v∈vs,j0 ι nx v:=by
   clear h4 hres hne h2 hl h1
   induction vs with
   |nil=>simp
   |cons x r ih =>
    intro v hv;have hx:(∀ c,x≠.tuple c)∧HM r=true:=by
     cases x <;> first|exact⟨fun c e=>(by cases e),hnt⟩|(simp [HM] at hnt)
    rcases List.mem_cons.1 hv with rfl|hv
    ·exact DI hx.1 (h3 v (by simp))
    ·exact ih (fun u hu=>h3 u (by simp [hu])) hx.2 v hv
  refine⟨_,h1,fun v hv=>hA v (by simpa using hv),fun w' H'=>?_⟩;rw [hres w' H'];have hlen:vs.length≠1:=by
   intro e;obtain⟨v,rfl⟩:=List.length_eq_one_iff.1 e;exact hne v rfl
  rw [dif_neg (by simpa using hlen)];simp only [tr];congr 2;apply Array.ext';simp only [List.map_toArray];apply List.map_congr_left;intro v hv;exact sZ (hA v hv)
end
def fS (h:Heap)(nx:Nat):Heap:=dT (rem (rem h (nx+1)) nx)
def r5 (C:VC)(f tn:Nat):VR:=fun g ps as bd kn kx kr e h nx =>
 on (cU e g) fun gv=>match gv with
  |.func (.func q) first cap=>(match first.toList,nU cap.toList with
   |[],true=>C q (.func (.yield (nx+1)) #[] #[]::cap.toList)
    (cC (cC h nx .deferred) (nx+1) (.loop { state:=.ready,pending:=none,fn:=f,env:=e,tn:=tn,params:=ps.toList,assign:=as,body:=bd,defers:=nx })) (nx+2) fun _ h' nx' =>
    (match look h' (nx+1),look h' nx with
    |some (.loop l),some .deferred=>(match l.state,l.pending with
     |.busy,_=>False
     |_,none=>kn e (fS h' nx) nx'
     |_,some (.exit id)=>kx id e (fS h' nx) nx'
     |_,some .ret=>kr e (fS h' nx) nx'
     |_,_=>False)
    |_,_=>False)
   |_,_=>False)
  |_=>False
def sV:VR:=fun _ _ _ _ _ _ _ _ _ _=>False
def qW (tn:Nat):List (Nat × Value)→List Nat→List Value→Option (List (Nat × Value))
 |e,[],[]=>some e
 |e,t::ts,v::vs=>match Nat.blt t tn with|true=>qW tn (put e t v) ts vs|false=>none
 |_,_,_=>none
def uL (q:Nat)(K:KE)(j:Option Code):KS:=fun _ h nx =>
 match look h q with
 |some (.loop l)=>K (.bool j.isNone) (vS h q (.loop { l with state:=if j.isNone then .ready else .done,pending:=j })) nx
 |_=>False
def pG (A:Ar)(T:cF)(C:VC)(Y:VY)(PL:Nat→Nat→Option eM)(M:LM):VY:=fun q args h nx K =>
 match look h q with
 |some (.loop l)=>(match qW l.tn l.env l.params args,dN (PL l.fn) l.assign&&dN (PL l.fn) l.body with
  |some e0,true=>fY A T C Y l.tn (PL l.fn) M sV l.assign (fun e1 h1 nx1 =>
   match look h1 q with
   |some (.loop l1)=>(match l1.state with
    |.ready=>fY A T C Y l.tn (PL l.fn) M sV l.body (uL q K none) (fun id=>uL q K (some (.exit id))) (uL q K (some .ret)) e1 (vS h1 q (.loop { l1 with state:=.busy })) nx1
    |_=>False)
   |_=>False) (fun _ _ _ _=>False) (fun _ _ _=>False) e0 h nx
  |_,_=>False)
 |_=>False
def pR:Nat→List Value→List (Nat × Value)
 |_,[]=>[]
 |i,v::r=>(i,v)::pR (i+1) r
def prune (n:Nat):Heap→Heap
 |[]=>[]
 |(k,o)::r=>match Nat.blt k n with|true=>(k,o)::prune n r|false=>prune n r
structure B9 where
 A:Ar
 T:cF
 FT:Nat→Option Func
 PL:Nat→Nat→Option eM
 PR:Nat→Bool
 X:Nat→Option (List Value→Heap→Nat→KE→Prop)
 M:Nat
def qU (c:B9)(M:Option Nat)(C:VC)(Y:VY):VC:=fun f args h nx K =>
 match c.X f with
 |some x=>x args h nx K
 |none=>match c.FT f with
  |none=>False
  |some fn=>(match fn.body,Nat.ble args.length fn.ntmps with
   |some b,true =>
    let fin:KS:=BJ c.T fn fun v h' nx'=>K v h' nx'
    fY c.A c.T C Y fn.ntmps (c.PL f) (match M with|some n=>.fuel n|none=>.inv nx) (r5 C f fn.ntmps) b fin (fun _ _ _ _=>False) fin (pR 0 args) h nx
   |_,_=>False)
def app:Heap→Heap→Heap
 |[],l=>l
 |x::r,l=>x::app r l
theorem gD (h l:Heap)(k:Nat):look (app h l) k=match look h k with|some o=>some o|none=>look l k:=by
 induction h with
 |nil=>rfl
 |cons x r ih =>
  obtain⟨j,o⟩:=x;simp only [app,aB];cases Nat.beq j k with
  |true=>rfl
  |false=>exact ih
def nY (n:Nat)(g:Heap):Heap→Heap
 |[]=>[]
 |(k,o)::r=>match Nat.ble n k,look g k with
  |true,some (.cells true _ _ _)=>(k,o)::nY n g r
  |true,some (.map _)=>(k,o)::nY n g r
  |_,_=>nY n g r
def frK (h:Heap)(nx:Nat)(K:KE):KE:=fun v h' nx'=>match gT v with
 |true=>K v h nx
 |false=>K v (app (nY nx h' h') h) nx'
def frC (PR:Nat→Bool)(C:VC):VC:=fun f args h nx K=>match PR f with
 |true=>C f args (dT h) nx (frK h nx K)
 |false=>C f args h nx K
def rN (c:B9):Nat→Bool→VC
 |0,_=>fun _ _ _ _ _=>False
 |d+1,false=>frC c.PR (qU c (some c.M) (rN c d false) (rN c d true))
 |d+1,true=>pG c.A c.T (rN c d false) (rN c d true) c.PL (.fuel c.M)
section
variable {P:Program}{T:cF}
theorem aO.down {ι:Nat→Loc}{B B0 nx:Nat}{h:Heap}{w:World}(H:aO ι B h nx w)(hB:B0≤B):aO ι B0 h nx w:=by
 refine⟨fun k o hk=>?_,H.sep,H.low,Nat.le_trans hB H.size,H.sc⟩;have ho:=H.obj k o hk;cases hι:ι k with
 |nil p=>rw [hι] at ho;cases o <;> first|exact ho|exact ho.elim
 |lay b off e =>
  rw [hι] at ho;cases o with
  |cells wr g sz cs =>
   cases wr with
   |true=>exact⟨Nat.le_trans hB ho.1,ho.2⟩
   |false=>exact ho
  |map es=>exact⟨Nat.le_trans hB ho.1,ho.2⟩
  |loop l=>exact⟨Nat.le_trans hB ho.1,ho.2⟩
  |deferred=>exact⟨Nat.le_trans hB ho.1,ho.2⟩
  |zero=>exact ho
theorem aO.taken {ι:Nat→Loc}{B nx:Nat}{h:Heap}{w:World}(H:aO ι B h nx w){b:Nat}(hb:b<B){ds:Option (List Deferred)}(hd:w.heap[b]? = some (.deferred ds))(o:Obj) :
  aO ι B h nx { w with heap:=w.heap.setIfInBounds b o }:=by
 have hother:∀ c,c≠b→(w.heap.setIfInBounds b o)[c]? = w.heap[c]? := fun c hc=>(by rw [Array.getElem?_setIfInBounds_ne (fun e=>hc e.symm)]);refine⟨fun k q hk=>?_,H.sep,H.low,by simpa using H.size,H.sc⟩;have hq:=H.obj k q hk;by_cases hkb:(ι k).BM=some b
 ·-- only what is read,and that is empty
  cases hι:ι k with
  |nil p=>rw [hι] at hkb;cases hkb
  |lay c off e =>
   have hcb:c=b:=(by rw [hι] at hkb;simpa [Loc.BM] using hkb);subst hcb;rw [hι] at hq;cases q with
   |cells wr g sz cs =>
    cases wr with
    |true=>have:=hq.1;omega
    |false =>
     refine⟨by simpa using hq.1,hq.2.1,fun i v hv=>?_⟩;have:=hq.2.2 i v hv;simp [World.cell?,hd] at this
   |map es=>have:=hq.1;omega
   |loop l=>have:=hq.1;omega
   |deferred=>have:=hq.1;omega
   |zero=>exact hq.elim
 ·exact hq.zF (fun c hc=>hother c (fun e=>hkb (e▸hc))) (by simp)
theorem wY {ι:Nat→Loc}{B B0 nx:Nat}{h:Heap}{fn:Func}{tmps:Array Value}{Rr:Ending→World→Prop}:∀ (bs:List Nat) (w:World),bs.Nodup→(∀ b∈bs,B0≤b∧b<B∧w.heap[b]? = some (.deferred (some [])))→aO ι B h nx w →
  (∀ w',aO ι B h nx w'→fQ B0 w w'→∃ u,(results fn tmps).run P w'=.ok u w'∧Rr (.returned u) w')→LeavesInM Fence.wide 0 P fn tmps Rr (bs.map AA) .returning w
 |[],w,_,_,H,hR=>hR w H (fQ.refl _ _)
 |b::bs,w,hn,hb,H,hR=>by
  rw [List.nodup_cons] at hn;obtain⟨h1,h2,h3⟩:=hb b (by simp);have hlt:=(Array.getElem?_eq_some_iff.1 h3).1;have hbel:fQ B0 w { w with heap:=w.heap.setIfInBounds b (.deferred none) }:=⟨rfl,rfl,rfl,by simp,fun c hc=>by
   simp [Array.getElem?_setIfInBounds_ne (show b≠c by omega)],Nat.le_refl _⟩
  refine⟨by simp,.inl ⟨b,{ w with heap:=w.heap.setIfInBounds b (.deferred none) },rfl,?_,?_⟩⟩
  ·simp [Instr.takeDeferred,getObj,setObj,Sem.run,h3]
  ·refine wY bs _ hn.2 (fun c hc=>?_) (H.taken h2 h3 _) (fun w' H' hb'=>hR w' H' (hbel.trans hb'));obtain⟨k1,k2,k3⟩:=hb c (by simp [hc]);have hne:b≠c:=fun e=>hn.1 (e▸hc);exact⟨k1,k2,by simp [Array.getElem?_setIfInBounds_ne hne,k3]⟩
end
section
variable {P:Program}{T:cF}{C:VC}{Y:VY}
theorem wZ:∀ (l:List Value) (i t:Nat) (v:Value),look (pR i l) t=some v→i≤t∧l[t - i]? = some v
 |[],i,t,v,h=>by cases h
 |x::r,i,t,v,h=>by
  simp only [pR,aB] at h;split at h
  ·rename_i hb;have:=beq_true hb;subst this;injection h with h;subst h;exact⟨Nat.le_refl _,by simp⟩
  ·obtain⟨h1,h2⟩:=wZ r (i+1) t v h;refine⟨by omega,?_⟩;rw [show t - i=(t - (i+1))+1 by omega];simpa using h2
theorem RA {ι:Nat→Loc}{n:Nat}{args:List Value}(hs:∀ v∈args,eG ι n v){k:Nat}{ds:List Deferred}:cT ι n (pR 0 args) { tmps:=(args.map (tr ι)).toArray++Array.replicate k undef,defers:=ds }:=by
 intro t v h;obtain⟨_,h2⟩:=wZ args 0 t v h;rw [Nat.sub_zero] at h2;have hlt:=(List.getElem?_eq_some_iff.1 h2).1;refine⟨?_,hs v (List.mem_of_getElem? h2)⟩;rw [Array.getElem?_append_left (by simpa using hlt)];simp [h2]
theorem aDE (hT:cA P T)(hC:bF P C)(hY:dW P Y)(hD:dM C)(hDY:dM Y)(hm:P.follows .mixedOrders=true){f:FuncId}{fn:Func}{b:Code}(hf:P.funcs[f]? = some fn)(hb:fn.body=some b){nx:Nat}{PL:Nat→Option eM}(hp:dN PL b=true)
  {M:LM} (hM:M.low nx) {R:VR} (hR:B7 P none fn.ntmps R) (hRm:T1 R) {args:List Value} (ha:args.length≤fn.ntmps) {h:Heap} {K K':KE} (hK:∀ v h' nx',K' v h' nx'→∃ h'',K v h'' nx'∧∀ k o,look h'' k=some o→look h' k=some o)
  (hl:fY aG T C Y fn.ntmps PL M R b (BJ T fn K') (fun _ _ _ _=>False) (BJ T fn K') (pR 0 args) h nx) {ι:Nat→Loc} {B:Nat} {w:World} (H:aO ι B h nx w) (hs:∀ v∈args,eG ι nx v) :
  CallsIn Fence.wide 0 P f (args.map (tr ι)).toArray w (Ret B w ι nx K):=by
 refine callsIn_of_wp_marks hf hb trivial ?_ rfl;have hend:∀ ι' e h' nx' a w',BJ T fn K' e h' nx'→pO B w ι nx fn.ntmps ι' e h' nx' a w'→LeavesInM Fence.wide 0 P fn a.tmps (Ret B w ι nx K) a.defers .returning w':=by
  intro ι' e h' nx' a w' hv I;obtain⟨B1,w1,ι1,nx1,ds,h1,h2,h3,h4,⟨bs,rfl,hnd,hbs⟩,J⟩:=I;rw [J.defers];obtain⟨v,k1,k2,k3⟩:=aBT hT J.env J.heap hv;obtain⟨h'',k4,k5⟩:=hK v h' nx' k1;refine wY (B:=B1) (B0:=B) bs w' hnd (fun x hx=>?_) J.heap (fun w2 H2 hb2=>⟨_,k3 w2 H2,v,h'',nx',ι',k4,k2,(H2.down h1).sub k5,?_,fun k hk=>(J.old k (Nat.lt_of_lt_of_le hk h4)).trans (h3 k hk),Nat.le_trans h4 J.le,rfl⟩)
  ·obtain⟨q1,q2,q3⟩:=hbs x hx;exact⟨q1,q2,by rw [J.below.block x q2];exact q3⟩
  ·exact (h2.trans (J.below.mono h1)).trans hb2
 refine EH hT hC hY hD hDY hm none hR hRm b hp _ _ _ _ h nx hl B w ι nx _ hM ⟨?_,?_,?_⟩ ι _ w ?_
 ·exact fun ι' e h' nx' a w' hv I=>hend ι' e h' nx' a w' hv I
 ·exact fun id ι' e h' nx' a w' hv I=>hv.elim
 ·exact fun ι' e h' nx' a w' hv I=>hend ι' e h' nx' a w' hv I
 ·refine⟨B,w,ι,nx,[],Nat.le_refl _,fQ.refl _ _,fun _ _=>rfl,Nat.le_refl _,⟨[],rfl,by simp,by simp⟩,RA hs,H,fQ.refl _ _,fun _ _=>rfl,Nat.le_refl _,?_,rfl⟩;simp;omega
end
section
variable {P:Program}{T:cF}{C:VC}{Y:VY}
theorem nR {w:World}{l:Nat}{r:Loop}(h:w.heap[l]? = some (.loop r)):(Instr.getLoop l).run P w=.ok r w:=by
 simp [Instr.getLoop,getObj,Sem.run,h]
theorem rQ {w:World}{l:Nat}{r:Loop}(h:w.heap[l]? = some (.loop r))(o:Obj):(setObj l o).run P w=.ok () { w with heap:=w.heap.setIfInBounds l o }:=by
 simp [setObj,Sem.run,h]
theorem W4 (hC:bF P C){f tn:Nat}:B7 P none tn (r5 C f tn):=by
 intro g ps as bd kn kx kr e h nx hl B0 w0 ι0 nx0 Q E ι a w I;obtain⟨B,w1,ι1,nx1,ds,h1,h2,h3,h4,⟨bs,hds,hnd,hbs⟩,J⟩:=I;unfold r5 at hl;obtain⟨gv,hgv,hl⟩:=cR hl;obtain⟨e1,e2⟩:=J.env.cU hgv;split at hl
 case h_2=>exact hl.elim
 rename_i q first cap;split at hl
 case h_2=>exact hl.elim
 rename_i hfirst hcap;obtain⟨first⟩:=first;simp only at hfirst;subst hfirst;refine wpIn_rangeFunc fun fnid _=>?_
 -- the records
 have H:=J.heap;have hA:=H.new (.deferred (some [])) .deferred ⟨H.size,(MapKept.heap_alloc w _).1⟩ trivial;generalize hι2:ins ι nx (.lay w.heap.size 0 0)=ι2 at hA;generalize hwA:w.alloc (.deferred (some []))=wA at hA;have hbA:fQ w.heap.size w wA:=(by rw [← hwA];exact c7 w _);have hi2:∀ k,k<nx→ι2 k=ι k:=fun k hk=>(by rw [← hι2];exact bY _ _ hk);have hmark:ι2 nx=.lay w.heap.size 0 0:=(by rw [← hι2];exact bC _ _ _);let rec_:Loop:={ state:=.ready,pending:=none,fn:=fnid,tmps:=a.tmps,params:=ps,assign:=as,body:=bd,defers:=w.heap.size };let la:SQ:={ state:=.ready,pending:=none,fn:=f,env:=e,tn:=tn,params:=ps.toList,assign:=as,body:=bd,defers:=nx };have hi3':∀ k,k<nx→ins ι2 (nx+1) (.lay wA.heap.size 0 0) k=ι k:=fun k hk=>(by rw [bY _ _ (by omega)];exact hi2 k hk);have hB:=hA.new (.loop rec_) (.loop la) (by
  refine⟨hA.size,rec_,(MapKept.heap_alloc wA _).1,rfl,rfl,trivial,J.size,fun t v hv=>?_,rfl,rfl,rfl,?_⟩
  ·obtain⟨k1,k2⟩:=J.env t v hv;rw [HN hi3' k2];exact k1
  ·show (ins ι2 (nx+1) (.lay wA.heap.size 0 0) nx).BM=some w.heap.size;rw [bY _ _ (by omega),hmark];rfl) ⟨fun t v hv=>sG (by omega) hi3' (J.env t v hv).2,by show nx<nx+1+1;omega⟩
 generalize hι3:ins ι2 (nx+1) (.lay wA.heap.size 0 0)=ι3 at hB hi3';generalize hwB:wA.alloc (.loop rec_)=wB at hB;have hbB:fQ wA.heap.size wA wB:=(by rw [← hwB];exact c7 wA _);have hl3:ι3 (nx+1)=.lay wA.heap.size 0 0:=(by rw [← hι3];exact bC _ _ _);have hm3:ι3 nx=.lay w.heap.size 0 0:=(by rw [← hι3,bY _ _ (by omega)];exact hmark);have hwA1:w.heap.size<wA.heap.size:=by rw [← hwA];exact (Array.getElem?_eq_some_iff.1 (MapKept.heap_alloc w _).1).1
 -- the call
 obtain⟨⟨fn,hfn,hbody,hname⟩,hcalls⟩:=hC q _ _ _ _ hl ι3 B wB hB (by
  intro v hv;rcases List.mem_cons.1 hv with rfl|hv
  ·simp [eG,j0,fV,RJ,hl3,Loc.gC]
  ·obtain⟨p,rfl⟩:=gF hcap v hv;exact sG (by omega) hi3' (show eG ι nx (.pointer (some p)) from e2.2 _ hv))
 have hcapm:cap.map (dU ι)=(cap.toList.map (tr ι3)).toArray:=by
  apply Array.ext';simp only [Array.toList_map];apply List.map_congr_left;intro v hv;obtain⟨p,rfl⟩:=gF hcap v hv;exact (HN hi3' (show eG ι nx (.pointer (some p)) from e2.2 _ hv)).symm
 have hy:tr ι3 (.func (.yield (nx+1)) #[] #[])=.func (.yield wA.heap.size) #[] #[]:=(by simp [tr,dS,bQ,m7,hl3]);obtain⟨bdy,hb'⟩:=Option.isSome_iff_exists.1 hbody;have hname' : fn.name ≠ "runtime.NumGoroutine" := (by simpa using hname);refine⟨wA.heap.size,[AA w.heap.size],wB,{ target:=.fn (.func q) (cap.map (dU ι)),args:=#[.func (.yield wA.heap.size) #[] #[]] },wB,q,((Value.func (.yield (nx+1)) #[] #[]::cap.toList).map (tr ι3)).toArray,wB,?_,?_,fun _ _=>trivial,?_,fun hdep=>absurd hdep (by simp [Fr,Fence.wide]),?_⟩
 ·have hr:(Fr none).round=none:=rfl;rw [hr];subst hwB;subst hwA;simp [Instr.enterLoop,AA,rec_]
 ·have he1:a.eval g=.func (.func q) #[] (cap.map (dU ι)):=e1;have hc:∀ v,a.eval (.const v)=v:=fun _=>rfl;simp [resolve,rangeCall,he1,hc,Deferred.ofValue]
 ·simp [invoke,callFunc,hfn,hname',hb',hcapm,hy]
 ·refine CallsIn.mono (F:=Fence.wide) hcalls fun en w3 hret=>?_;cases en with
  |panicked c=>exact hret.elim
  |outgrown=>exact hret.elim
  |returned u =>
   obtain⟨v,h',nx',ι',k1,k2,k3,k4,k5,k6,rfl⟩:=hret;split at k1
   case h_2=>exact k1.elim
   rename_i l' hl1 hl2;have hι'l:ι' (nx+1)=.lay wA.heap.size 0 0:=(k5 _ (by omega)).trans hl3;have hι'm:ι' nx=.lay w.heap.size 0 0:=(k5 _ (by omega)).trans hm3;have ho:=k3.obj _ _ hl1;rw [hι'l] at ho;obtain⟨o1,r',o2,o3,o4,_⟩:=ho;have hd:=k3.obj _ _ hl2;rw [hι'm] at hd;have hnb:l'.state≠.busy:=by
    intro hs;simp [hs] at k1
   have hend:(Instr.endLoop wA.heap.size).run P w3=.ok l'.pending { w3 with heap:=w3.heap.setIfInBounds wA.heap.size (.loop { r' with state:=.exhausted }) }:=by
    have hne:r'.state≠.busy:=(by rw [o3];exact hnb);have hbeq:(r'.state == .busy)=false:=(by simpa using hne);simp [Instr.endLoop,nR o2,rQ o2,hbeq,o4];exact fun h=>absurd h hne
   -- qH it
   generalize hw4:({ w3 with heap:=w3.heap.setIfInBounds wA.heap.size (.loop { r' with state:=.exhausted }) }:World)=w4 at hend;have hoth:∀ c,c≠wA.heap.size→w4.heap[c]? = w3.heap[c]? := fun c hc=>(by rw [← hw4];simp [Array.getElem?_setIfInBounds_ne (fun e=>hc e.symm)]);have hsz4:w4.heap.size=w3.heap.size:=(by rw [← hw4];simp);have hb4:fQ B w3 w4:=⟨by rw [← hw4],by rw [← hw4],by rw [← hw4],by omega,fun c hc=>hoth c (by omega),by rw [← hw4];exact Nat.le_refl _⟩;have hR:aO ι' B (rem (rem h' (nx+1)) nx) nx' w4:=by
    refine ((k3.rem (nx+1)).rem nx).zF (fun k o b hk hkb=>hoth b fun e=>?_) (by omega);rw [dF] at hk;split at hk
    ·cases hk
    ·rw [dF] at hk;split at hk
     ·cases hk
     ·rename_i hne;exact k3.sep (nx+1) k _ o hl1 hk (fun e=>hne e.symm) rfl wA.heap.size (by rw [hι'l];rfl) (by rw [hkb,e])
   have hBw:fQ B w w4:=((hbA.mono H.size).trans (hbB.mono hA.size)).trans (k4.trans hb4);have hi':∀ k,k<nx→ι' k=ι k:=fun k hk=>(k5 k (by omega)).trans (hi3' k hk);have I':pO B0 w0 ι0 nx0 tn ι' e (fS h' nx) nx' { a with defers:=[AA w.heap.size]++a.defers } w4:=by
    refine⟨w4.heap.size,w4,ι',nx',AA w.heap.size::ds,?_,?_,fun k hk=>?_,?_,⟨w.heap.size::bs,by rw [hds];rfl,?_,fun b hb=>?_⟩,J.env.names (by omega) hi',hR.shut,fQ.refl _ _,fun _ _=>rfl,Nat.le_refl _,J.size,by rw [← J.defers];rfl⟩
    ·exact Nat.le_trans h1 hR.size
    ·exact h2.trans ((J.below.mono h1).trans (hBw.mono h1))
    ·have q1:k<nx1:=Nat.lt_of_lt_of_le hk h4;exact (hi' k (Nat.lt_of_lt_of_le q1 J.le)).trans ((J.old k q1).trans (h3 k hk))
    ·have:=J.le;omega
    ·rw [List.nodup_cons];refine⟨fun hm=>?_,hnd⟩;have:=(hbs _ hm).2.1;have:=H.size;omega
    ·rcases List.mem_cons.1 hb with rfl|hb
     ·have:=H.size;have hsz:=hBw.size;have hk:=k4.size;have hk2:=hbB.size;refine⟨by omega,by omega,?_⟩;rw [hoth _ (by omega)];exact hd.2
     ·obtain⟨q1,q2,q3⟩:=hbs b hb;have:=hR.size;refine⟨q1,by omega,?_⟩;rw [hBw.block b q2,J.below.block b q2];exact q3
   refine⟨_,w4,hend,?_⟩;split at k1
   ·exact k1.elim
   ·rename_i hp _;rw [hp];exact E.n _ _ _ _ _ _ k1 I'
   ·rename_i hp _;rw [hp];exact wpIn_exit (E.x _ _ _ _ _ _ _ k1 I')
   ·rename_i hp _;rw [hp];exact wpIn_ret (E.r _ _ _ _ _ _ k1 I')
   ·exact k1.elim
end
end Go.Aw
end
