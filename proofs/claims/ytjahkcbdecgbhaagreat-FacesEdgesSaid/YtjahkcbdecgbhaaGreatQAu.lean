/-
  Parts of the proof, put together. No condition.
-/
import Derived.Test.YtjahkcbdecgbhaaGreatQAt
set_option linter.unusedSimpArgs false
set_option linter.unusedVariables false
noncomputable section
namespace Go.Aw
open Go.RowKit
section
variable {α β:Type}(E:El α)
def vOf (l:List α)(e:Option Int):Value:=match l with
 |[]=>kH e (.slice none 0 0)
 |a::r=>kH e (.slice (some ⟨0,0,none⟩) (a::r).length (a::r).length)
def hOf (l:List α):Heap:=match l with
 |[]=>[]
 |a::r=>[(0,.cells true false E.sz (flat E.fl (a::r)))]
def mOf (l:List α):Nat:=match l with
 |[]=>0
 |_::_=>1
theorem NS {l:List α}{e:Option Int}{v:Value}{h:Heap}{nx:Nat}(hv:Yields E l e v h nx):K2 (vOf l e) (hOf E l) (mOf l) v h nx:=by
 cases l with
 |nil =>
  rw [show v=_ from hv];exact kK (uO e)
 |cons a r =>
  obtain⟨q,rfl,hq⟩:=hv;refine⟨fun _=>q,⟨fun t u hu=>?_,fun k o hk=>?_,fun k k' o o' hk hk' _=>?_,fun k hk=>absurd hk (Nat.not_lt_zero k),Nat.zero_le _⟩⟩
  ·rw [aE] at hu;split at hu
   ·rename_i hb;injection hu with hu;subst hu;exact⟨by rw [aE,hb];show _=some (fV (fun _=>q) (kH e (.slice (some ⟨0,0,none⟩) (a::r).length (a::r).length)));rw [uE],MU e _ _⟩
   ·exact bS hu
  ·rw [show hOf E (a::r)=[(0,.cells true false E.sz (flat E.fl (a::r)))] from rfl,aE] at hk;split at hk
   ·rename_i hb;injection hk with hk;subst hk;exact⟨by rw [← beq_true hb];exact Nat.one_pos,_,hq,aM (aI E _)⟩
   ·exact bS hk
  ·rw [show hOf E (a::r)=[(0,.cells true false E.sz (flat E.fl (a::r)))] from rfl,aE] at hk hk';split at hk
   ·rename_i hb1;split at hk'
    ·rename_i hb2;exact (beq_true hb1).symm.trans (beq_true hb2)
    ·exact bS hk'
   ·exact bS hk
def RW (l:List α)(e:Option Int)(h:Heap)(nx:Nat)(K:KE):Prop:=match l with
 |[]=>K (kH e (.slice none 0 0)) h nx
 |a::r=>K (kH e (.slice (some ⟨nx,0,none⟩) (a::r).length (a::r).length)) (bV h nx (.cells true false E.sz (flat E.fl (a::r)))) (nx+1)
theorem aDJ {l:List α}{e:Option Int}{h:Heap}{nx:Nat}{K:KE}(hk:RW E l e h nx K):K (fV (fun k=>nx+k) (vOf l e)) (app (mZ nx (hOf E l)) (pB (hOf E l) h)) (nx+mOf l):=by
 cases l with
 |nil =>
  show K (fV (fun k=>nx+k) (kH e (.slice none 0 0))) (app [] h) (nx+0);rw [kT (uO e)];exact hk
 |cons a r =>
  have hm:(flat E.fl (a::r)).map (bN (fun k=>nx+k))=flat E.fl (a::r):=bZ (aI E _);show K (fV (fun k=>nx+k) (kH e (.slice (some ⟨0,0,none⟩) (a::r).length (a::r).length))) (app [(nx+0,.cells true false E.sz ((flat E.fl (a::r)).map (bN (fun k=>nx+k))))] h) (nx+1);rw [uE,hm];exact hk
theorem X1 (l:List α):iI (hOf E l)=true:=by cases l <;> rfl
def yOf (T:List Value→Heap→Nat→List α→Option Int→Prop):XF:=xOf fun args0 h0 n0 v1 h1 m=>∃ l e,T args0 h0 n0 l e∧v1=vOf l e∧h1=hOf E l∧m=mOf l
theorem X9 {P:Program}{C:VC}{f:Nat}{T:List Value→Heap→Nat→List α→Option Int→Prop}(hC:bI P C)(hT:∀ args0 h0 n0 l e,T args0 h0 n0 l e→C f args0 h0 n0 (Yields E l e)):cJ P f (yOf E T) :=
 gF hC fun args0 h0 n0 v1 h1 m ⟨l,e,ht,hv,hh,hm⟩=>by
  subst hv hh hm;exact⟨X1 E l,_,hT _ _ _ _ _ ht,fun v h nx hq=>NS E hq⟩
theorem J2 {T:List Value→Heap→Nat→List α→Option Int→Prop}{args0:List Value}{h0:Heap}{n0:Nat}{l:List α}{e:Option Int}{args:List Value}{h:Heap}{nx:Nat}{K:KE}(ht:T args0 h0 n0 l e)(hi:In args0 h0 n0 args h nx)(hk:RW E l e h nx K):yOf E T args h nx K :=
 ⟨args0,h0,n0,_,_,_,⟨l,e,ht,rfl,rfl,rfl⟩,hi,aDJ E hk⟩
def rfX (E2:El β)(s:List α→List Value→Option (Bool × List β × Option Int)):XF:=fun args h nx K=>match args with
 |v::r=>∃ l,gZ E h v l∧(match s l r with|some p=>dI p.1 (RW E2 p.2.1 p.2.2 h nx K)|none=>False)
 |_=>False
end
section
variable {α:Type}(E:El α)
theorem QG {a0 b0 a b:Value}{o1 o2:aV}{h:Heap}{nx n1 c1 n2 c2:Nat}(ha0:a0=.slice (some ⟨0,0,none⟩) n1 c1)(hb0:b0=.slice (some ⟨0,0,none⟩) n2 c2)
  (h1:In [a0] [(0,o1)] 1 [a] h nx) (h2:In [b0] [(0,o2)] 1 [b] h nx) (g1:∃ sz cs,o1=.cells false true sz cs∧c9 cs=true) (g2:∃ sz cs,o2=.cells false true sz cs∧c9 cs=true) :
  In [a0,.slice (some ⟨1,0,none⟩) n2 c2] [(0,o1),(1,o2)] 2 [a,b] h nx:=by
 subst ha0 hb0;obtain⟨s1,cs1,rfl,gc1⟩:=g1;obtain⟨s2,cs2,rfl,gc2⟩:=g2;intro ι B w H hs;obtain⟨ι1,e1,k1,R1⟩:=h1 ι B w H (fun v hv=>hs v (by cases hv with|head=>exact .head _|tail _ hm=>cases hm));obtain⟨ι2,e2,k2,R2⟩:=h2 ι B w H (fun v hv=>hs v (by cases hv with|head=>exact .tail _ (.head _)|tail _ hm=>cases hm));simp only [List.map_cons,List.map_nil,List.cons.injEq,and_true] at e1 e2;have q1:=R1.obj 0 _ rfl;have q2:=R2.obj 0 _ rfl;have kk1:=k1 _ (.head _);have kk2:=k2 _ (.head _);refine⟨fun k=>if k=0 then ι1 0 else ι2 0,?_,?_,⟨?_,?_,?_,Nat.le_refl _,?_⟩⟩
 ·simp only [List.map_cons,List.map_nil,e1,e2];rfl
 ·intro v hv;cases hv with
  |head=>exact⟨show (0:Nat)<2 by decide,kk1.2⟩
  |tail _ hm =>
   cases hm with
   |head=>exact⟨show (1:Nat)<2 by decide,kk2.2⟩
   |tail _ hm=>cases hm
 ·intro k o hk;have key:∀ {ι:Nat→Loc} {sz:Nat} {cs:List Value} {loc:Loc} (ι':Nat→Loc),c9 cs=true→j9 ι w.heap.size w (.cells false true sz cs) loc→j9 ι' w.heap.size w (.cells false true sz cs) loc:=by
   intro ι sz cs loc ι' hg ho;cases loc with
   |nil p=>exact ho
   |lay b o e =>
    obtain⟨x1,x2,x3⟩:=ho;refine⟨x1,x2,fun i v hv=>?_⟩;rw [x3 i v hv,lL (a8 hg (List.mem_of_getElem? hv)),lL (a8 hg (List.mem_of_getElem? hv))]
  rw [aE] at hk;split at hk
  ·rename_i hb;injection hk with hk;subst hk;rw [← beq_true hb];exact key _ gc1 q1
  ·rw [aE] at hk;split at hk
   ·rename_i hb;injection hk with hk;subst hk;rw [← beq_true hb];exact key _ gc2 q2
   ·exact bS hk
 ·intro k k' o o' hk hk' hne hal b hb;exfalso;rw [aE] at hk;split at hk
  ·injection hk with hk;subst hk;cases hal
  ·rw [aE] at hk;split at hk
   ·injection hk with hk;subst hk;cases hal
   ·exact bS hk
 ·intro k o hk;rw [aE] at hk;split at hk
  ·rename_i hb;rw [← beq_true hb];decide
  ·rw [aE] at hk;split at hk
   ·rename_i hb;rw [← beq_true hb];decide
   ·exact bS hk
 ·intro k o hk;rw [aE] at hk;split at hk
  ·injection hk with hk;subst hk;exact fun v hv=>cR (a8 gc1 hv)
  ·rw [aE] at hk;split at hk
   ·injection hk with hk;subst hk;exact fun v hv=>cR (a8 gc2 hv)
   ·exact bS hk
theorem NX {h:Heap}{nx:Nat}{v:Value}{l:List α}(hl:gZ E h v l):∃ c,In [.slice (some ⟨0,0,none⟩) l.length c] [(0,.cells false true E.sz (flat E.fl l))] 1 [v] h nx:=by
 unfold gZ at hl;split at hl
 ·rename_i n c;obtain⟨rfl,rfl,rfl⟩:=hl;exact⟨0,RR rfl true E.sz E.pos⟩
 ·rename_i k o n c;obtain⟨rfl,wr,g,sz,cs,hk,hcs⟩:=hl;exact⟨c,aA9 rfl hk hcs (aI E l) true E.sz E.pos⟩
 ·exact hl.elim
def l2X (s:List α→List α→Option (Bool × Value)):XF:=fun args h nx K=>match args with
 |[a,b]=>∃ l1 l2,gZ E h a l1∧gZ E h b l2∧(match s l1 l2 with|some p=>dI p.1 (K p.2 h nx)|none=>False)
 |_=>False
theorem aFA {P:Program}{C:VC}{f:Nat}{s:List α→List α→Option (Bool × Value)}(hC:bI P C)
  (hs:∀ l1 l2 v,s l1 l2=some (true,v)→gT v=true∧∀ c1 c2,C f [.slice (some ⟨0,0,none⟩) l1.length c1,.slice (some ⟨1,0,none⟩) l2.length c2] [(0,.cells false true E.sz (flat E.fl l1)),(1,.cells false true E.sz (flat E.fl l2))] 2 (fun u _ _=>u=v)):cJ P f (l2X E s):=by
 refine (gF (S:=fun args0 h0 n0 v1 h1 m=>∃ l1 l2 c1 c2,s l1 l2=some (true,v1)∧args0=[.slice (some ⟨0,0,none⟩) l1.length c1,.slice (some ⟨1,0,none⟩) l2.length c2]∧h0=[(0,.cells false true E.sz (flat E.fl l1)),(1,.cells false true E.sz (flat E.fl l2))]∧n0=2∧h1=[]∧m=0) hC ?_).mono ?_ ?_
 ·rintro args0 h0 n0 v1 h1 m ⟨l1,l2,c1,c2,e1,rfl,rfl,rfl,rfl,rfl⟩;obtain⟨a2,a3⟩:=hs l1 l2 v1 e1;exact⟨rfl,_,a3 c1 c2,fun v h nx e=>by rw [e];exact kK a2⟩
 ·intro args h nx K hx;unfold l2X at hx;split at hx
  case h_2=>exact hx.elim
  rename_i a b;obtain⟨l1,l2,hl1,hl2,hx⟩:=hx;split at hx
  case h_2=>exact hx.elim
  rename_i p e1;obtain⟨bb,u⟩:=p;obtain⟨rfl,hx⟩:=aG.1 hx;obtain⟨a2,a3⟩:=hs l1 l2 u e1;obtain⟨c1,i1⟩:=NX (nx:=nx) E hl1;obtain⟨c2,i2⟩:=NX (nx:=nx) E hl2;refine⟨_,_,2,u,[],0,⟨l1,l2,c1,c2,e1,rfl,rfl,rfl,rfl,rfl⟩,QG rfl rfl i1 i2 ⟨_,_,rfl,aI E l1⟩ ⟨_,_,rfl,aI E l2⟩,?_⟩;simp only [pB,sN,mZ,lJ,kT a2,Nat.add_zero];exact hx
 ·intro args h nx K hx;unfold l2X at hx;split at hx
  case h_2=>exact hx.elim
  rename_i a b;obtain⟨l1,l2,hl1,hl2,hx⟩:=hx;split at hx
  case h_2=>exact hx.elim
  rename_i p e1;obtain⟨hb,hx⟩:=aG.1 hx;exact⟨p.2,h,nx,hx,fun K' hk=>⟨l1,l2,hl1,hl2,by rw [e1];exact aJ hb hk⟩⟩
end
theorem wQ {args0:List Value}{h0:Heap}{n0:Nat}{args:List Value}{h:Heap}{nx:Nat}(ρ:Nat→Nat)(ha:args=args0.map (fV ρ))(hn:∀ v∈args0,wJ n0 v)
  (ho:∀ k o,look h0 k=some o→k<n0∧∃ g sz cs0,o=.cells false g sz cs0∧sz≠0∧(g=true→c9 cs0=true)∧(∀ v∈cs0,A8 n0 v)∧∃ wr g' sz' cs,look h (ρ k)=some (.cells wr g' sz' cs)∧cs.take cs0.length=cs0.map (bN ρ)) :
  In args0 h0 n0 args h nx:=by
 intro ι B w H hs;subst ha;have hsc:∀ v∈args0,eR ι nx (fV ρ v):=fun v hv=>hs _ (List.mem_map.2 ⟨v,hv,rfl⟩);refine⟨fun k=>ι (ρ k),?_,fun v hv=>CY (hsc v hv) (hn v hv),⟨fun k o hk=>?_,fun k k' o o' hk hk' hne ha b hb=>?_,fun k o hk=>(ho k o hk).1,Nat.le_refl _,fun k o hk=>?_⟩⟩
 ·rw [List.map_map];exact List.map_congr_left fun v hv=>D8 (hsc v hv)
 ·obtain⟨_,g,sz,cs0,rfl,hz,hg,hm,wr,g',sz',cs,hl,hc⟩:=ho k o hk;have hob:=H.obj _ _ hl;have hso:=H.sc _ _ hl;cases hι:ι (ρ k) with
  |nil p =>
   rw [hι] at hob;have h0:cs=[]:=(by cases wr <;> exact hob.1);subst h0;have:cs0=[]:=by
    cases cs0 with
    |nil=>rfl
    |cons a r=>simp at hc
   subst this;exact⟨rfl,fun h=>h.elim (fun h=>absurd h hz) (fun h=>by cases h)⟩
  |lay b off e =>
   have hlt:b<w.heap.size:=hob.lt (by rw [hι];rfl);refine⟨hlt,hg,fun i v hv=>?_⟩;have h1:(cs.take cs0.length)[i]? = some (bN ρ v):=(by rw [hc,List.getElem?_map,hv];rfl);have hi:i<cs0.length:=(List.getElem?_eq_some_iff.1 hv).1;rw [List.getElem?_take,if_pos hi] at h1;obtain⟨b2,off2,e2,hι2,hcell⟩:=H.cell hl h1;rw [hι] at hι2;injection hι2 with i1 i2 i3;subst i1;subst i2;rw [hcell];congr 1;exact iS (hso _ (List.mem_of_getElem? h1))
 ·obtain⟨_,g,sz,cs0,rfl,_⟩:=ho k o hk;cases ha
 ·obtain⟨_,g,sz,cs0,rfl,hz,hg,hm,wr,g',sz',cs,hl,hc⟩:=ho k o hk;intro v hv;have hso:=H.sc _ _ hl;have hmem:bN ρ v∈cs:=by
   have:bN ρ v∈cs.take cs0.length:=(by rw [hc];exact List.mem_map.2 ⟨v,hv,rfl⟩);exact List.mem_of_mem_take this
  exact oN (hso _ hmem) (hm v hv)
structure oB where
 f:Nat
 args:List Value
 h0:Heap
 n0:Nat
 v1:Value
 h1:Heap
 m:Nat
def KN:List Value→List Value→Bool
 |[],[]=>true
 |a::r,b::s=>ME a b&&KN r s
 |_,_=>false
theorem HV:∀ {l m:List Value},KN l m=true→l=m
 |[],[],_=>rfl
 |[],_::_,h=>by cases h
 |_::_,[],h=>by cases h
 |a::r,b::s,h=>by
  simp only [KN,Bool.and_eq_true] at h;rw [DQ h.1,HV h.2]
def aCx (n:Nat):List Value→Bool
 |[]=>true
 |v::r=>aA8 n v&&aCx n r
theorem UF {n:Nat}:∀ {l:List Value},aCx n l=true→∀ v∈l,wJ n v
 |[],_,v,hv=>by cases hv
 |x::r,h,v,hv=>by
  simp only [aCx,Bool.and_eq_true] at h;cases hv with
  |head=>exact lH h.1
  |tail _ hm=>exact UF h.2 v hm
def aJ7 (b:Nat):List Value→List Value→List (Nat × Nat)→List (Nat × Nat)
 |v::l,u::m,r=>prT b v u (aJ7 b l m r)
 |_,_,r=>r
def TY (ρ:List (Nat × Nat))(n0:Nat)(h:Heap):Heap→Bool
 |[]=>true
 |(k,.cells false g sz cs0)::r=>Nat.blt k n0&&!(Nat.beq sz 0)&&(match g with|true=>c9 cs0|false=>true)&&PU n0 cs0&&(match look h (nm ρ k) with
  |some (.cells _ _ _ cs)=>I9 (cs.take cs0.length) (cs0.map (bN (nm ρ)))
  |_=>false)&&TY ρ n0 h r
 |_=>false
theorem OL {ρ:List (Nat × Nat)}{n0:Nat}{h:Heap}:∀ {h0:Heap},TY ρ n0 h h0=true→∀ k o,look h0 k=some o→k<n0∧∃ g sz cs0,o=.cells false g sz cs0∧sz≠0∧(g=true→c9 cs0=true)∧(∀ v∈cs0,A8 n0 v)∧∃ wr g' sz' cs,look h (nm ρ k)=some (.cells wr g' sz' cs)∧cs.take cs0.length=cs0.map (bN (nm ρ))
 |[],_,k,o,hk=>by cases hk
 |(j,q)::r,hb,k,o,hk=>by
  unfold TY at hb;split at hb
  ·rename_i he;cases he
  ·rename_i k' g sz cs0 r' he;injection he with e1 e2;injection e1 with e3 e4;subst e3;subst e4;subst e2;simp only [Bool.and_eq_true,Bool.not_eq_true'] at hb;obtain⟨⟨⟨⟨⟨h1,h2⟩,h3⟩,h4⟩,h5⟩,h6⟩:=hb;rw [aE] at hk;split at hk
   ·rename_i hbq;have:=beq_true hbq;subst this;injection hk with hk;subst hk;refine⟨Nat.le_of_ble_eq_true h1,g,sz,cs0,rfl,beq_false h2,fun hg=>by subst hg;exact h3,jU h4,?_⟩;split at h5
    ·rename_i wr g' sz' cs hl;exact⟨wr,g',sz',cs,hl,xN h5⟩
    ·cases h5
   ·exact OL h6 k o hk
  ·cases hb
def oB.rho (E:oB)(args:List Value)(h:Heap):List (Nat × Nat):=grow 0 E.h0 h 10000 (aJ7 0 E.args args []) []
def QM (E:oB)(args:List Value)(h:Heap):Bool:=KN args (E.args.map (fV (nm (E.rho args h))))&&aCx E.n0 E.args&&TY (E.rho args h) E.n0 h E.h0
theorem XX {E:oB}{args:List Value}{h:Heap}{nx:Nat}(hf:QM E args h=true):In E.args E.h0 E.n0 args h nx:=by
 simp only [QM,Bool.and_eq_true] at hf;exact wQ _ (HV hf.1.1) (UF hf.1.2) (OL hf.2)
def PX (E:oB):sH:=fun v h' _=>aE2 0 (aAZ 0 [(0,E.v1)] [(0,v)] E.h1 h') [(0,E.v1)] E.h1 E.m [(0,v)] h'&&iI E.h1
def XE (L:List oB)(f:Nat):Sp:=fun args0 h0 n0 v1 h1 m=>∃ E∈L,E.f=f∧args0=E.args∧h0=E.h0∧n0=E.n0∧v1=E.v1∧h1=E.h1∧m=E.m
def aD9 (f:Nat):List oB→Bool
 |[]=>false
 |E::r=>match Nat.beq E.f f with|true=>true|false=>aD9 f r
def YT (f:Nat):List oB→List Value→Heap→Nat→sH→Bool
 |[],_,_,_,_=>false
 |E::r,args,h,nx,K=>match Nat.beq E.f f with
  |true=>(match QM E args h with
   |true=>K (fV (fun k=>nx+k) E.v1) (app (mZ nx E.h1) (pB E.h1 h)) (nx+E.m)
   |false=>YT f r args h nx K)
  |false=>YT f r args h nx K
theorem JU {f:Nat}(L0:List oB){args:List Value}{h:Heap}{nx:Nat}{K:sH}{K':KE}(hK:∀ v h nx,K v h nx=true→K' v h nx):∀ (L:List oB),(∀ E∈L,E∈L0)→YT f L args h nx K=true→xOf (XE L0 f) args h nx K'
 |[],_,hl=>by cases hl
 |E::r,hsub,hl=>by
  simp only [YT] at hl;split at hl
  ·rename_i hb;split at hl
   ·rename_i hf;exact⟨E.args,E.h0,E.n0,E.v1,E.h1,E.m,⟨E,hsub E (.head _),beq_true hb,rfl,rfl,rfl,rfl,rfl,rfl⟩,XX hf,hK _ _ _ hl⟩
   ·exact JU L0 hK r (fun E hE=>hsub E (.tail _ hE)) hl
  ·exact JU L0 hK r (fun E hE=>hsub E (.tail _ hE)) hl
abbrev GS:=List Value→Option (Bool × Value)
def gXB (s:GS):List Value→Heap→Nat→sH→Bool:=fun args h nx K=>match s args with
 |some p=>dY p.1 (K p.2 h nx)
 |none=>false
def FZ (L:List oB)(S:List (Nat × GS))(f:Nat):Option (List Value→Heap→Nat→KE→Prop):=match aD9 f L with
 |true=>some (xOf (XE L f))
 |false=>(match look S f with|some s=>some (gX s)|none=>none)
def DM (L:List oB)(S:List (Nat × GS))(f:Nat):Option (List Value→Heap→Nat→sH→Bool):=match aD9 f L with
 |true=>some (YT f L)
 |false=>(match look S f with|some s=>some (gXB s)|none=>none)
theorem DR {c:ET}{L:List oB}{S:List (Nat × GS)}(hc:c.X=FZ L S):TwX c (DM L S):=by
 intro f x xb hx hxb args h nx K K' hK hl;rw [hc] at hx;unfold FZ at hx;unfold DM at hxb;split at hx
 ·rename_i hh;rw [hh] at hxb;injection hx with hx;injection hxb with hxb;subst hx;subst hxb;exact JU L hK L (fun _ h=>h) hl
 ·rename_i hh;rw [hh] at hxb;simp only at hxb;split at hx
  ·rename_i s hs;rw [hs] at hxb;injection hx with hx;injection hxb with hxb;subst hx;subst hxb;unfold gXB at hl;unfold gX;split at hl
   ·rename_i p hp;rw [hp];exact bE (hK _ _ _) hl
   ·cases hl
  ·cases hx
def cL (c:ET)(XB:Nat→Option (List Value→Heap→Nat→sH→Bool))(d:Nat)(E:oB):Prop:=BM c XB d false E.f E.args E.h0 E.n0 (PX E)=true
def vS (P:Program)(L:List oB):Prop:=∀ f,cJ P f (xOf (XE L f))
theorem vS.app {P:Program}{L L':List oB}(h:vS P L)(h':vS P L'):vS P (L++L'):=by
 intro f;have key:∀ args h nx K,xOf (XE (L++L') f) args h nx K→xOf (XE L f) args h nx K∨xOf (XE L' f) args h nx K:=by
  rintro args h nx K ⟨a,b,c,d,e,g,⟨E,hE,he⟩,q⟩;rcases List.mem_append.1 hE with hE|hE
  ·exact .inl ⟨a,b,c,d,e,g,⟨E,hE,he⟩,q⟩
  ·exact .inr ⟨a,b,c,d,e,g,⟨E,hE,he⟩,q⟩
 refine⟨fun args hp nx K hx=>?_,fun args hp nx K hx=>?_⟩
 ·rcases key _ _ _ _ hx with hx|hx
  ·exact (h f).1 args hp nx K hx
  ·exact (h' f).1 args hp nx K hx
 ·obtain⟨a,b,c,d,e,g,q1,q2,q3⟩:=hx;exact⟨_,_,_,q3,fun K' hk=>⟨a,b,c,d,e,g,q1,q2,hk⟩⟩
theorem DK {P:Program}{c:ET}(hc:rP P c){XB:Nat→Option (List Value→Heap→Nat→sH→Bool)}(hX:TwX c XB){d:Nat}{L:List oB}(hL:∀ E∈L,cL c XB d E):vS P L:=by
 intro f;refine gF (kG hc d).1 fun args0 h0 n0 v1 h1 m hs=>?_;obtain⟨E,hE,rfl,rfl,rfl,rfl,rfl,rfl,rfl⟩:=hs;have t1:=hL E hE;have hv:=pL hX d false E.f E.args E.h0 E.n0 (PX E) (fun v h nx=>iI E.h1=true∧K2 E.v1 E.h1 E.m v h nx) (fun v h nx ho=>by
  simp only [PX,Bool.and_eq_true] at ho;exact⟨ho.2,_,SS ho.1⟩) t1
 obtain⟨v,h',nx',k1,k2⟩:=(kG hc d).2.2.1 _ _ _ _ _ hv;exact⟨k1.1,_,k2 _ k1.2,fun _ _ _ q=>q⟩
theorem C9 {P:Program}{L:List oB}(h:vS P L){S:List (Nat × GS)}(hS:∀ f s,look S f=some s→cJ P f (gX s)):∀ f x,FZ L S f=some x→cJ P f x:=by
 intro f x hfx;unfold FZ at hfx;split at hfx
 ·injection hfx with hfx;subst hfx;exact h f
 ·split at hfx
  ·rename_i s hs;injection hfx with hfx;subst hfx;exact hS f s hs
  ·cases hfx
theorem ZI {a0 b0 a b:Value}{n:Int}{r:List Value}(hr:eM r=true){h0 h:Heap}{n0 nx:Nat}(i:In [a0,b0] h0 n0 [a,b] h nx)(ha:∃ x y z,a0=.slice x y z)(hb:∃ x y z,b0=.slice x y z) :
  In (.agg #[a0,b0,.int .i64 n]::r) h0 n0 (.agg #[a,b,.int .i64 n]::r) h nx:=by
 intro ι B w H hs;have hag:kP ι nx (.agg #[a,b,.int .i64 n]):=hs _ (.head _);have sa:gY ι nx a:=hag a (by simp);have sb:gY ι nx b:=hag b (by simp);obtain⟨ι0,e1,e2,e3⟩:=i ι B w H (fun v hv=>by
  simp only [List.mem_cons,List.not_mem_nil,or_false] at hv;rcases hv with rfl|rfl
  ·exact lR (iR sa)
  ·exact lR (iR sb))
 simp only [List.map_cons,List.map_nil,List.cons.injEq,and_true] at e1;obtain⟨x,y,z,rfl⟩:=ha;obtain⟨x',y',z',rfl⟩:=hb;have t1:tr ι a=bR ι a:=(by rw [uJ (iR sa),xW sa]);have t2:tr ι b=bR ι b:=(by rw [uJ (iR sb),xW sb]);refine⟨ι0,?_,?_,e3⟩
 ·rw [List.map_cons,List.map_cons];congr 1
  ·show Value.agg (Array.map (bR ι) #[a,b,.int .i64 n])=Value.agg (Array.map (bR ι0) #[_,_,.int .i64 n]);simp only [List.map_toArray,List.map_cons,List.map_nil];rw [← t1,← t2,e1.1,e1.2];rfl
  ·exact List.map_congr_left fun v hv=>by rw [iB (cF hr hv),iB (cF hr hv)]
 ·intro v hv;cases hv with
  |head =>
   intro u hu;simp only [List.mem_cons,List.not_mem_nil,or_false] at hu;rcases hu with rfl|rfl|rfl
   ·exact e2 _ (.head _)
   ·exact e2 _ (.tail _ (.head _))
   ·exact cR rfl
  |tail _ hm=>exact bU (cF hr hm)
section
variable {α β:Type}(E:El α)(G:El β)
def aF (n m:Nat)(c1 c2:Nat)(k:Int):Value:=.agg #[.slice (some ⟨0,0,none⟩) n c1,.slice (some ⟨1,0,none⟩) m c2,.int .i64 k]
def aC (l:List α)(m:List β):Heap:=[(0,.cells false true E.sz (flat E.fl l)),(1,.cells false true G.sz (flat G.fl m))]
def mX (s:List α→List β→Int→List Value→Option (Bool × Value)):XF:=fun args h nx K=>match args with
 |.agg ⟨[p,q,.int .i64 n]⟩::r=>∃ l m,gZ E h p l∧gZ G h q m∧(match s l m n r with|some pr=>dI pr.1 (K pr.2 h nx)|none=>False)
 |_=>False
theorem LV {p q:Value}{n:Int}{r:List Value}(hr:eM r=true){h:Heap}{nx:Nat}{l:List α}{m:List β}(hl:gZ E h p l)(hm:gZ G h q m) :
  ∃ c1 c2,In (aF l.length m.length c1 c2 n::r) (aC E G l m) 2 (.agg #[p,q,.int .i64 n]::r) h nx:=by
 obtain⟨c1,i1⟩:=NX (nx:=nx) E hl;obtain⟨c2,i2⟩:=NX (nx:=nx) G hm;exact⟨c1,c2,ZI hr (QG rfl rfl i1 i2 ⟨_,_,rfl,aI E l⟩ ⟨_,_,rfl,aI G m⟩) ⟨_,_,_,rfl⟩ ⟨_,_,_,rfl⟩⟩
theorem sS {P:Program}{C:VC}{f:Nat}{s:List α→List β→Int→List Value→Option (Bool × Value)}(hC:bI P C)
  (hs:∀ l m n r v,s l m n r=some (true,v)→eM r=true∧gT v=true∧∀ c1 c2,C f (aF l.length m.length c1 c2 n::r) (aC E G l m) 2 (fun u _ _=>u=v)):cJ P f (mX E G s):=by
 refine (gF (S:=fun args0 h0 n0 v1 h1 k=>∃ l m n r c1 c2,s l m n r=some (true,v1)∧args0=aF l.length m.length c1 c2 n::r∧h0=aC E G l m∧n0=2∧h1=[]∧k=0) hC ?_).mono ?_ ?_
 ·rintro args0 h0 n0 v1 h1 k ⟨l,m,n,r,c1,c2,e1,rfl,rfl,rfl,rfl,rfl⟩;obtain⟨a1,a2,a3⟩:=hs l m n r v1 e1;exact⟨rfl,_,a3 c1 c2,fun v h nx e=>by rw [e];exact kK a2⟩
 ·intro args h nx K hx;unfold mX at hx;split at hx
  case h_2=>exact hx.elim
  rename_i p q n r;obtain⟨l,m,hl,hm,hx⟩:=hx;split at hx
  case h_2=>exact hx.elim
  rename_i pr e1;obtain⟨bb,u⟩:=pr;obtain⟨rfl,hx⟩:=aG.1 hx;obtain⟨a1,a2,a3⟩:=hs l m n r u e1;obtain⟨c1,c2,i⟩:=LV (n:=n) (nx:=nx) E G a1 hl hm;refine⟨_,_,2,u,[],0,⟨l,m,n,r,c1,c2,e1,rfl,rfl,rfl,rfl,rfl⟩,i,?_⟩;simp only [pB,sN,mZ,lJ,kT a2,Nat.add_zero];exact hx
 ·intro args h nx K hx;unfold mX at hx;split at hx
  case h_2=>exact hx.elim
  rename_i p q n r;obtain⟨l,m,hl,hm,hx⟩:=hx;split at hx
  case h_2=>exact hx.elim
  rename_i pr e1;obtain⟨hb,hx⟩:=aG.1 hx;exact⟨pr.2,h,nx,hx,fun K' hk=>⟨l,m,hl,hm,by rw [e1];exact aJ hb hk⟩⟩
end
theorem aB1 {n sz:Nat}{wr g:Bool}{cs:List Value}(h:∀ v∈cs,bN id v=v∧A8 n v):bO id n (.cells wr g sz cs) (.cells wr g sz cs) :=
 ⟨rfl,rfl,rfl,(by conv=>lhs;rw [← List.map_id cs]
                  exact List.map_congr_left fun v hv=>(h v hv).1.symm),fun v hv=>(h v hv).2⟩
theorem aG3 {a0:List Value}{h0:Heap}{n0:Nat}{a:List Value}{h:Heap}{nx:Nat}(i:In a0 h0 n0 a h nx){b:Value}{n2 c2 sz:Nat}{cs:List Value}(hg:c9 cs=true)
  (i2:In [.slice (some ⟨0,0,none⟩) n2 c2] [(0,.cells false true sz cs)] 1 [b] h nx) (hlow:∀ k o,look h0 k=some o→o.alone=false) :
  In (a0++[.slice (some ⟨n0,0,none⟩) n2 c2]) (app h0 [(n0,.cells false true sz cs)]) (n0+1) (a++[b]) h nx:=by
 intro ι B w H hs;obtain⟨ι1,e1,k1,R1⟩:=i ι B w H (fun v hv=>hs v (List.mem_append_left _ hv));obtain⟨ι2,e2,k2,R2⟩:=i2 ι B w H (fun v hv=>hs v (List.mem_append_right _ hv));simp only [List.map_cons,List.map_nil,List.cons.injEq,and_true] at e2;have q2:=R2.obj 0 _ rfl;have kk2:=k2 _ (.head _);let ι0:Nat→Loc:=fun k=>if k<n0 then ι1 k else ι2 0
 have hlt:∀ k,k<n0→ι0 k=ι1 k:=fun k hk=>if_pos hk;have hat:ι0 n0=ι2 0:=if_neg (Nat.lt_irrefl _);have hcase:∀ k o,look (app h0 [(n0,.cells false true sz cs)]) k=some o→(look h0 k=some o∧k<n0)∨(k=n0∧o=.cells false true sz cs):=by
  intro k o hk;rw [gK] at hk;split at hk
  ·rename_i o' ho;injection hk with hk;subst hk;exact .inl ⟨ho,R1.low k _ ho⟩
  ·rw [aE] at hk;split at hk
   ·rename_i hb;injection hk with hk;exact .inr ⟨(beq_true hb).symm,hk.symm⟩
   ·exact bS hk
 refine⟨ι0,?_,?_,⟨?_,?_,?_,Nat.le_refl _,?_⟩⟩
 ·rw [List.map_append,List.map_append,e1];congr 1
  ·refine List.map_congr_left fun v hv=>?_;exact (BX (ι:=ι1) (ι':=ι0) (n:=n0) hlt (k1 v hv)).symm
  ·simp only [List.map_cons,List.map_nil,e2];simp only [tr,dP,bR,dR,hat]
 ·intro v hv;rcases List.mem_append.1 hv with hv|hv
  ·exact n7 (Nat.le_succ _) hlt (k1 v hv)
  ·simp only [List.mem_cons,List.not_mem_nil,or_false] at hv;subst hv;exact⟨Nat.lt_succ_self _,fun h=>kk2.2 (by rw [← h];show _=(ι0 n0).gJ;rw [hat])⟩
 ·intro k o hk;rcases hcase k o hk with ⟨h1,h2⟩|⟨rfl,rfl⟩
  ·rw [hlt k h2];exact (R1.obj k o h1).names (R1.sc k o h1) hlt
  ·rw [hat];cases hl:ι2 0 with
   |nil p=>rw [hl] at q2;exact q2
   |lay b o e =>
    rw [hl] at q2;obtain⟨x1,x2,x3⟩:=q2;refine⟨x1,x2,fun i v hv=>?_⟩;rw [x3 i v hv,lL (a8 hg (List.mem_of_getElem? hv)),lL (a8 hg (List.mem_of_getElem? hv))]
 ·intro k k' o o' hk hk' hne hal b hb;rcases hcase k o hk with ⟨h1,h2⟩|⟨rfl,rfl⟩
  ·rw [hlow k o h1] at hal;cases hal
  ·cases hal
 ·intro k o hk;rcases hcase k o hk with ⟨h1,h2⟩|⟨rfl,rfl⟩ <;> omega
 ·intro k o hk;rcases hcase k o hk with ⟨h1,h2⟩|⟨rfl,rfl⟩
  ·exact (R1.sc k o h1).mono (Nat.le_succ _) hlt
  ·exact fun v hv=>cR (a8 hg hv)
section
variable {α β γ δ:Type}(E:El α)(G:El β)(J:El γ)(D:El δ)
def mapA (p q:Value)(n:Int):Value:=.agg #[p,q,.int .i64 n]
def eF (l:List α)(m:List β)(k:List γ):Heap:=[(0,.cells false true E.sz (flat E.fl l)),(1,.cells false true G.sz (flat G.fl m)),(2,.cells false true J.sz (flat J.fl k))]
theorem UM {p q o:Value}{n:Int}{r:List Value}(hr:eM r=true){h:Heap}{nx:Nat}{l:List α}{m:List β}{k:List γ}(hl:gZ E h p l)(hm:gZ G h q m)(hk:gZ J h o k) :
  ∃ c1 c2 c3,In (aF l.length m.length c1 c2 n::(r++[.slice (some ⟨2,0,none⟩) k.length c3])) (eF E G J l m k) 3 (mapA p q n::(r++[o])) h nx:=by
 obtain⟨c1,c2,i⟩:=LV (n:=n) (nx:=nx) E G hr hl hm;obtain⟨c3,i3⟩:=NX (nx:=nx) J hk;refine⟨c1,c2,c3,aG3 i (aI J k) i3 fun j ob hj=>?_⟩;unfold aC at hj;rw [aE] at hj;split at hj
 ·injection hj with hj;subst hj;rfl
 ·rw [aE] at hj;split at hj
  ·injection hj with hj;subst hj;rfl
  ·exact bS hj
def mLX (s:List α→List β→Int→List γ→List Value→Option (Bool × Value)):XF:=fun args h nx K =>
 ∃ p q n r o l m k,args=mapA p q n::(r++[o])∧gZ E h p l∧gZ G h q m∧gZ J h o k∧(match s l m n k r with|some pr=>dI pr.1 (K pr.2 h nx)|none=>False)
theorem J6 {P:Program}{C:VC}{f:Nat}{s:List α→List β→Int→List γ→List Value→Option (Bool × Value)}(hC:bI P C)
  (hs:∀ l m n k r v,s l m n k r=some (true,v)→eM r=true∧gT v=true∧∀ c1 c2 c3,C f (aF l.length m.length c1 c2 n::(r++[.slice (some ⟨2,0,none⟩) k.length c3])) (eF E G J l m k) 3 (fun u _ _=>u=v)):cJ P f (mLX E G J s):=by
 refine (gF (S:=fun args0 h0 n0 v1 h1 j=>∃ l m n k r c1 c2 c3,s l m n k r=some (true,v1)∧args0=aF l.length m.length c1 c2 n::(r++[.slice (some ⟨2,0,none⟩) k.length c3])∧h0=eF E G J l m k∧n0=3∧h1=[]∧j=0) hC ?_).mono ?_ ?_
 ·rintro args0 h0 n0 v1 h1 j ⟨l,m,n,k,r,c1,c2,c3,e1,rfl,rfl,rfl,rfl,rfl⟩;obtain⟨a1,a2,a3⟩:=hs l m n k r v1 e1;exact⟨rfl,_,a3 c1 c2 c3,fun v h nx e=>by rw [e];exact kK a2⟩
 ·rintro args h nx K ⟨p,q,n,r,o,l,m,k,rfl,hl,hm,hk,hx⟩;split at hx
  case h_2=>exact hx.elim
  rename_i pr e1;obtain⟨bb,u⟩:=pr;obtain⟨rfl,hx⟩:=aG.1 hx;obtain⟨a1,a2,a3⟩:=hs l m n k r u e1;obtain⟨c1,c2,c3,i⟩:=UM (n:=n) (nx:=nx) E G J a1 hl hm hk;refine⟨_,_,3,u,[],0,⟨l,m,n,k,r,c1,c2,c3,e1,rfl,rfl,rfl,rfl,rfl⟩,i,?_⟩;simp only [pB,sN,mZ,lJ,kT a2,Nat.add_zero];exact hx
 ·rintro args h nx K ⟨p,q,n,r,o,l,m,k,rfl,hl,hm,hk,hx⟩;split at hx
  case h_2=>exact hx.elim
  rename_i pr e1;obtain⟨hb,hx⟩:=aG.1 hx;exact⟨pr.2,h,nx,hx,fun K' hk'=>⟨p,q,n,r,o,l,m,k,rfl,hl,hm,hk,by rw [e1];exact aJ hb hk'⟩⟩
def wrW:List Value→Value→Value
 |[],v=>v
 |a::r,v=>.agg (v::a::r).toArray
theorem VI {ρ:Nat→Nat}{rest:List Value}(hr:c9 rest=true){k n c:Nat}:fV ρ (wrW rest (.slice (some ⟨k,0,none⟩) n c))=wrW rest (.slice (some ⟨ρ k,0,none⟩) n c):=by
 cases rest with
 |nil=>simp [wrW,fV,tr,dP,bR,dR,kA]
 |cons a r =>
  show Value.agg (Array.map (bR (kA ρ)) (_::a::r).toArray)=Value.agg (_::a::r).toArray;rw [List.map_toArray,List.map_cons];congr 2;rw [List.cons.injEq];refine⟨by simp [bR,dR,kA],?_⟩
  conv=>rhs;rw [← List.map_id (a::r)]
  exact List.map_congr_left fun v hv=>lL (a8 hr hv)
theorem aH8 {rest:List Value}(hr:c9 rest=true){n c:Nat}:wJ 1 (wrW rest (.slice (some ⟨0,0,none⟩) n c)):=by
 cases rest with
 |nil=>exact⟨Nat.one_pos,fun h=>by cases h⟩
 |cons a r =>
  intro v hv;rcases List.mem_cons.1 hv with rfl|hv
  ·exact⟨Nat.one_pos,fun h=>by cases h⟩
  ·exact cR (a8 hr hv)
def ylH (out:List δ):Heap:=[(0,.cells true false D.sz (flat D.fl out))]
def VV (out:List δ)(rest:List Value)(k:Nat):Value:=wrW rest (.slice (some ⟨k,0,none⟩) out.length out.length)
def YW (out:List δ)(rest:List Value):KE:=fun v h _=>∃ q,v=VV out rest q∧look h q=some (.cells true false D.sz (flat D.fl out))
theorem RB {out:List δ}{rest:List Value}(hr:c9 rest=true){v:Value}{h:Heap}{nx:Nat}(hy:YW D out rest v h nx):K2 (VV out rest 0) (ylH D out) 1 v h nx:=by
 obtain⟨q,rfl,hq⟩:=hy;refine⟨fun _=>q,fun t v hv=>?_,fun k o hk=>?_,fun k k' o o' hk hk' _=>?_,fun k hk=>absurd hk (Nat.not_lt_zero _),Nat.zero_le _⟩
 ·rw [aE] at hv;split at hv
  ·rename_i hb;injection hv with hv;subst hv;refine⟨?_,aH8 hr⟩;rw [aE,hb];show _=some (fV (fun _=>q) (wrW rest (.slice (some ⟨0,0,none⟩) out.length out.length)));rw [VI hr];rfl
  ·exact bS hv
 ·unfold ylH at hk;rw [aE] at hk;split at hk
  ·rename_i hb;injection hk with hk;subst hk;rw [← beq_true hb];exact⟨Nat.one_pos,_,hq,rfl,rfl,rfl,(bZ (aI D out)).symm,fun v hv=>cR (a8 (aI D out) hv)⟩
  ·exact bS hk
 ·unfold ylH at hk hk';rw [aE] at hk hk';split at hk
  ·rename_i h1;split at hk'
   ·rename_i h2;exact (beq_true h1).symm.trans (beq_true h2)
   ·exact bS hk'
  ·exact bS hk
theorem aAJ {out:List δ}{rest:List Value}(hr:c9 rest=true){h:Heap}{nx:Nat}{K:KE}(hk:K (VV out rest nx) (bV h nx (.cells true false D.sz (flat D.fl out))) (nx+1)) :
  K (fV (fun k=>nx+k) (VV out rest 0)) (app (mZ nx (ylH D out)) (pB (ylH D out) h)) (nx+1):=by
 have hm:(flat D.fl out).map (bN (fun k=>nx+k))=flat D.fl out:=bZ (aI D _);have e1:fV (fun k=>nx+k) (VV out rest 0)=VV out rest nx:=VI hr;have e2:app (mZ nx (ylH D out)) (pB (ylH D out) h)=bV h nx (.cells true false D.sz (flat D.fl out)):=by
  show (nx+0,aV.cells true false D.sz ((flat D.fl out).map (bN (fun k=>nx+k))))::h=_;rw [hm];rfl
 rw [e1,e2];exact hk
abbrev YS (δ:Type):=Option (Bool × List δ × List Value)
def mYX (s:List α→List β→Int→List Value→YS δ):XF:=fun args h nx K=>∃ p q n r l m,args=mapA p q n::r∧gZ E h p l∧gZ G h q m ∧
 (match s l m n r with|some pr=>dI pr.1 (K (VV pr.2.1 pr.2.2 nx) (bV h nx (.cells true false D.sz (flat D.fl pr.2.1))) (nx+1))|none=>False)
theorem Y8 {P:Program}{C:VC}{f:Nat}{s:List α→List β→Int→List Value→YS δ}(hC:bI P C)
  (hs:∀ l m n r out rest,s l m n r=some (true,out,rest)→eM r=true∧c9 rest=true∧∀ c1 c2,C f (aF l.length m.length c1 c2 n::r) (aC E G l m) 2 (YW D out rest)):cJ P f (mYX E G D s):=by
 refine (gF (S:=fun args0 h0 n0 v1 h1 j=>∃ l m n r c1 c2 out rest,s l m n r=some (true,out,rest)∧args0=aF l.length m.length c1 c2 n::r∧h0=aC E G l m∧n0=2∧v1=VV out rest 0∧h1=ylH D out∧j=1) hC ?_).mono ?_ ?_
 ·rintro args0 h0 n0 v1 h1 j ⟨l,m,n,r,c1,c2,out,rest,e1,rfl,rfl,rfl,rfl,rfl,rfl⟩;obtain⟨a1,a2,a3⟩:=hs l m n r out rest e1;exact⟨rfl,_,a3 c1 c2,fun v h nx e=>RB D a2 e⟩
 ·rintro args h nx K ⟨p,q,n,r,l,m,rfl,hl,hm,hx⟩;split at hx
  case h_2=>exact hx.elim
  rename_i pr e1;obtain⟨bb,out,rest⟩:=pr;obtain⟨rfl,hx⟩:=aG.1 hx;obtain⟨a1,a2,a3⟩:=hs l m n r out rest e1;obtain⟨c1,c2,i⟩:=LV (n:=n) (nx:=nx) E G a1 hl hm;exact⟨_,_,2,_,_,1,⟨l,m,n,r,c1,c2,out,rest,e1,rfl,rfl,rfl,rfl,rfl,rfl⟩,i,aAJ D a2 hx⟩
 ·rintro args h nx K ⟨p,q,n,r,l,m,rfl,hl,hm,hx⟩;split at hx
  case h_2=>exact hx.elim
  rename_i pr e1;obtain⟨hb,hx⟩:=aG.1 hx;exact⟨_,_,_,hx,fun K' hk'=>⟨p,q,n,r,l,m,rfl,hl,hm,by rw [e1];exact aJ hb hk'⟩⟩
def aHQ (s:List α→List β→Int→List γ→List Value→YS δ):XF:=fun args h nx K=>∃ p q n r o l m k,args=mapA p q n::(r++[o])∧gZ E h p l∧gZ G h q m∧gZ J h o k ∧
 (match s l m n k r with|some pr=>dI pr.1 (K (VV pr.2.1 pr.2.2 nx) (bV h nx (.cells true false D.sz (flat D.fl pr.2.1))) (nx+1))|none=>False)
theorem aD6 {P:Program}{C:VC}{f:Nat}{s:List α→List β→Int→List γ→List Value→YS δ}(hC:bI P C)
  (hs:∀ l m n k r out rest,s l m n k r=some (true,out,rest)→eM r=true∧c9 rest=true∧∀ c1 c2 c3,C f (aF l.length m.length c1 c2 n::(r++[.slice (some ⟨2,0,none⟩) k.length c3])) (eF E G J l m k) 3 (YW D out rest)):cJ P f (aHQ E G J D s):=by
 refine (gF (S:=fun args0 h0 n0 v1 h1 j=>∃ l m n k r c1 c2 c3 out rest,s l m n k r=some (true,out,rest)∧args0=aF l.length m.length c1 c2 n::(r++[.slice (some ⟨2,0,none⟩) k.length c3])∧h0=eF E G J l m k∧n0=3∧v1=VV out rest 0∧h1=ylH D out∧j=1) hC ?_).mono ?_ ?_
 ·rintro args0 h0 n0 v1 h1 j ⟨l,m,n,k,r,c1,c2,c3,out,rest,e1,rfl,rfl,rfl,rfl,rfl,rfl⟩;obtain⟨a1,a2,a3⟩:=hs l m n k r out rest e1;exact⟨rfl,_,a3 c1 c2 c3,fun v h nx e=>RB D a2 e⟩
 ·rintro args h nx K ⟨p,q,n,r,o,l,m,k,rfl,hl,hm,hk,hx⟩;split at hx
  case h_2=>exact hx.elim
  rename_i pr e1;obtain⟨bb,out,rest⟩:=pr;obtain⟨rfl,hx⟩:=aG.1 hx;obtain⟨a1,a2,a3⟩:=hs l m n k r out rest e1;obtain⟨c1,c2,c3,i⟩:=UM (n:=n) (nx:=nx) E G J a1 hl hm hk;exact⟨_,_,3,_,_,1,⟨l,m,n,k,r,c1,c2,c3,out,rest,e1,rfl,rfl,rfl,rfl,rfl,rfl⟩,i,aAJ D a2 hx⟩
 ·rintro args h nx K ⟨p,q,n,r,o,l,m,k,rfl,hl,hm,hk,hx⟩;split at hx
  case h_2=>exact hx.elim
  rename_i pr e1;obtain⟨hb,hx⟩:=aG.1 hx;exact⟨_,_,_,hx,fun K' hk'=>⟨p,q,n,r,o,l,m,k,rfl,hl,hm,hk,by rw [e1];exact aJ hb hk'⟩⟩
end
end Go.Aw
end

noncomputable section
namespace Go.Aw
section
variable {ρ:Nat→Nat}{n0 k:Nat}{h:Heap}{o o':aV}{r:List (Nat × aV)}{wr g:Bool}{sz:Nat}{cs:List Value}
theorem iN {α:Type}{P:α→Prop}:∀ p∈([]:List α),P p:=fun _ h=>by cases h
theorem iE {e:List (Nat × Value)}{v:Value}{s:List (Nat × Value)}(h1:look e k=some (fV ρ v))(h2:aA8 n0 v=true)(h3:∀ p∈s,look e p.1=some (fV ρ p.2)∧wJ n0 p.2):∀ p∈(k,v)::s,look e p.1=some (fV ρ p.2)∧wJ n0 p.2 :=
 List.forall_mem_cons.2 ⟨⟨h1,lH h2⟩,h3⟩
theorem iW (h1:Nat.ble (k+1) n0=true)(h2:look h (ρ k)=some o')(h4:bO ρ n0 o o')(h3:∀ p∈r,p.1<n0∧∃ o',look h (ρ p.1)=some o'∧bO ρ n0 p.2 o'):∀ p∈(k,o)::r,p.1<n0∧∃ o',look h (ρ p.1)=some o'∧bO ρ n0 p.2 o' :=
 List.forall_mem_cons.2 ⟨⟨Nat.le_of_ble_eq_true h1,_,h2,h4⟩,h3⟩
theorem iG (h1:Nat.ble (k+1) n0=true)(h2:look h (ρ k)=some (.cells wr g sz cs))(h4:c9 cs=true)(h3:∀ p∈r,p.1<n0∧∃ o',look h (ρ p.1)=some o'∧bO ρ n0 p.2 o'):∀ p∈(k,.cells wr g sz cs)::r,p.1<n0∧∃ o',look h (ρ p.1)=some o'∧bO ρ n0 p.2 o' :=
 iW h1 h2 (aM h4) h3
theorem iF {α:Type}{E:El α}{l:List α}(h1:Nat.ble (k+1) n0=true)(h2:look h (ρ k)=some (.cells wr g sz (flat E.fl l)))(h3:∀ p∈r,p.1<n0∧∃ o',look h (ρ p.1)=some o'∧bO ρ n0 p.2 o'):∀ p∈(k,.cells wr g sz (flat E.fl l))::r,p.1<n0∧∃ o',look h (ρ p.1)=some o'∧bO ρ n0 p.2 o' :=
 iG h1 h2 (aI E l) h3
theorem iC (h1:Nat.ble (k+1) n0=true)(h2:look h (ρ k)=some (.cells wr g sz (cs.map (bN ρ))))(h4:PU n0 cs=true)(h3:∀ p∈r,p.1<n0∧∃ o',look h (ρ p.1)=some o'∧bO ρ n0 p.2 o'):∀ p∈(k,.cells wr g sz cs)::r,p.1<n0∧∃ o',look h (ρ p.1)=some o'∧bO ρ n0 p.2 o' :=
 iW h1 h2 ⟨rfl,rfl,rfl,rfl,jU h4⟩ h3
theorem iJ {cs':List Value}(h1:Nat.ble (k+1) n0=true)(h2:look h (ρ k)=some (.cells wr g sz cs'))(h4:c9 cs=true)(h5:cs'=cs)(h3:∀ p∈r,p.1<n0∧∃ o',look h (ρ p.1)=some o'∧bO ρ n0 p.2 o'):∀ p∈(k,.cells wr g sz cs)::r,p.1<n0∧∃ o',look h (ρ p.1)=some o'∧bO ρ n0 p.2 o' :=
 iW h1 h2 (bD h4 h5) h3
theorem iK {k0 q:Nat}(h1:(Nat.beq k k0 || !Nat.beq k q)=true)(h3:∀ p∈r,p.1≠k0→p.1≠q):∀ p∈(k,o)::r,p.1≠k0→p.1≠q :=
 List.forall_mem_cons.2 ⟨fun hk e=>by
  simp only [Bool.or_eq_true,Bool.not_eq_true'] at h1;rcases h1 with h1|h1
  ·exact hk (beq_true h1)
  ·exact beq_false h1 e,h3⟩
end
end Go.Aw
end
