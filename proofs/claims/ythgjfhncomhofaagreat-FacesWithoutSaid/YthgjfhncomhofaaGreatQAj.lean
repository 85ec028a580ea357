/-
  Parts of a proof. No condition.
-/
import Derived.Test.YthgjfhncomhofaaGreatQAi
set_option linter.unusedSimpArgs false
set_option linter.unusedVariables false
noncomputable section
namespace Go.Aw
open Proofs
open Go.RowKit
theorem vU {args0:List Value}{h0:Heap}{n0:Nat}{args:List Value}{h:Heap}{nx:Nat}(ρ:Nat->Nat)(ha:args=args0.map (fJ ρ))(hn:∀ v∈args0,BO n0 v)
  (ho:∀ k o,aw h0 k=some o->k<n0/\∃ g sz cs0,o=.cells false g sz cs0/\sz≠0/\(g=true->dT cs0=true)/\(∀ v∈cs0,wM n0 v)/\∃ wr g' sz' cs,aw h (ρ k)=some (.cells wr g' sz' cs)/\cs.take cs0.length=cs0.map (cB ρ)) :
  In args0 h0 n0 args h nx:=by
 intro ι B w H hs;subst ha;have hsc:∀ v∈args0,fU ι nx (fJ ρ v):=fun v hv=>hs _ (List.mem_map.2 ⟨v,hv,rfl⟩);refine⟨fun k=>ι (ρ k),?_,fun v hv=>zH (hsc v hv) (hn v hv),⟨fun k o hk=>?_,fun k k' o o' hk hk' hne ha b hb=>?_,fun k o hk=>(ho k o hk).1,ah _,fun k o hk=>?_⟩⟩
 ·rw[List.map_map];exact List.map_congr_left fun v hv=>x9 (hsc v hv)
 ·obtain⟨_,g,sz,cs0,rfl,hz,hg,hm,wr,g',sz',cs,hl,hc⟩:=ho k o hk;have hob:=H.obj _ _ hl;have hso:=H.sc _ _ hl;cases hι:ι (ρ k)with
  |nil p =>
   rw[hι]at hob;have h0:cs=[]:=(by cases wr <;> exact hob.1);subst h0;have:cs0=[]:=by
    cases cs0 with
    |nil=>rfl
    |cons a r=>simp at hc
   subst this;exact⟨rfl,fun h=>h.elim (fun h=>absurd h hz) (fun h=>by cases h)⟩
  |lay b off e =>
   have hlt:b<w.heap.size:=hob.lt (by rw[hι];rfl);refine⟨hlt,hg,fun i v hv=>?_⟩;have h1:(cs.take cs0.length)[i]? = some (cB ρ v):=(by rw[hc,List.getElem?_map,hv];rfl);have hi:i<cs0.length:=(List.getElem?_eq_some_iff.1 hv).1;rw[List.getElem?_take,if_pos hi]at h1;obtain⟨b2,off2,e2,hι2,hcell⟩:=H.cell hl h1;rw[hι]at hι2;injection hι2 with i1 i2 i3;subst i1;subst i2;rw[hcell];congr 1;exact iL (hso _ (List.mem_of_getElem? h1))
 ·obtain⟨_,g,sz,cs0,rfl,_⟩:=ho k o hk;cases ha
 obtain⟨_,g,sz,cs0,rfl,hz,hg,hm,wr,g',sz',cs,hl,hc⟩:=ho k o hk;intro v hv;have hso:=H.sc _ _ hl;have hmem:cB ρ v∈cs:=by
  have:cB ρ v∈cs.take cs0.length:=(by rw[hc];exact List.mem_map.2 ⟨v,hv,rfl⟩);exact List.mem_of_mem_take this
 exact pM (hso _ hmem) (hm v hv)
structure rF where
 f:Nat
 args:List Value
 h0:Heap
 n0:Nat
 v1:Value
 h1:Heap
 m:Nat
def RR:List Value->List Value->Bool
 |[],[]=>true
 |a::r,b::s=>V1 a b&&RR r s
 |_,_=>false
theorem PJ:∀{l m:List Value},RR l m=true->l=m
 |[],[],_=>rfl
 |[],_::_,h=>by cases h
 |_::_,[],h=>by cases h
 |a::r,b::s,h=>by
  simp only[RR,af]at h;rw[J4 h.1,PJ h.2]
def aJM (n:Nat):List Value->Bool
 |[]=>true
 |v::r=>aEt n v&&aJM n r
theorem aAF {n:Nat}:∀{l:List Value},aJM n l=true->∀ v∈l,BO n v
 |[],_,v,hv=>by cases hv
 |x::r,h,v,hv=>by
  simp only[aJM,af]at h;cases hv with
  |head=>exact n9 h.1
  |tail _ hm=>exact aAF h.2 v hm
def aOP (b:Nat):List Value->List Value->List (Nat × Nat)->List (Nat × Nat)
 |v::l,u::m,r=>prT b v u (aOP b l m r)
 |_,_,r=>r
def ZZ (ρ:List (Nat × Nat))(n0:Nat)(h:Heap):Heap->Bool
 |[]=>true
 |(k,.cells false g sz cs0)::r=>Nat.blt k n0&&!(Nat.beq sz 0)&&(match g with|true=>dT cs0|false=>true)&&ZI n0 cs0&&(match aw h (nm ρ k)with
  |some (.cells _ _ _ cs)=>ON (cs.take cs0.length) (cs0.map (cB (nm ρ)))
  |_=>false)&&ZZ ρ n0 h r
 |_=>false
theorem VS {ρ:List (Nat × Nat)}{n0:Nat}{h:Heap}:∀{h0:Heap},ZZ ρ n0 h h0=true->∀ k o,aw h0 k=some o->k<n0/\∃ g sz cs0,o=.cells false g sz cs0/\sz≠0/\(g=true->dT cs0=true)/\(∀ v∈cs0,wM n0 v)/\∃ wr g' sz' cs,aw h (nm ρ k)=some (.cells wr g' sz' cs)/\cs.take cs0.length=cs0.map (cB (nm ρ))
 |[],_,k,o,hk=>by cases hk
 |(j,q)::r,hb,k,o,hk=>by
  unfold ZZ at hb;split at hb
  ·rename_i he;cases he
  ·rename_i k' g sz cs0 r' he;injection he with e1 e2;injection e1 with e3 e4;subst e3;subst e4;subst e2;simp only[af,Bool.not_eq_true']at hb;obtain⟨⟨⟨⟨⟨h1,h2⟩,h3⟩,h4⟩,h5⟩,h6⟩:=hb;rw[aD]at hk;split at hk
   ·rename_i hbq;have:=az hbq;subst this;injection hk with hk;subst hk;refine⟨Nat.le_of_ble_eq_true h1,g,sz,cs0,rfl,ba h2,fun hg=>by subst hg;exact h3,zC h4,?_⟩;split at h5
    ·rename_i wr g' sz' cs hl;exact⟨wr,g',sz',cs,hl,EA h5⟩
    ·cases h5
   exact VS h6 k o hk
  ·cases hb
def rF.rho (E:rF)(args:List Value)(h:Heap):List (Nat × Nat):=grow 0 E.h0 h 10000 (aOP 0 E.args args []) []
def YH (E:rF)(args:List Value)(h:Heap):Bool:=RR args (E.args.map (fJ (nm (E.rho args h))))&&aJM E.n0 E.args&&ZZ (E.rho args h) E.n0 h E.h0
theorem aDk {E:rF}{args:List Value}{h:Heap}{nx:Nat}(hf:YH E args h=true):In E.args E.h0 E.n0 args h nx:=by
 simp only[YH,af]at hf;exact vU _ (PJ hf.1.1) (aAF hf.1.2) (VS hf.2)
def ZH (E:rF):yM:=fun v h' _=>aIt 0 (aGj 0 [(0,E.v1)] [(0,v)] E.h1 h') [(0,E.v1)] E.h1 E.m [(0,v)] h'&&fL E.h1
def aDa (L:List rF)(f:Nat):Sp:=fun args0 h0 n0 v1 h1 m=>∃ E∈L,E.f=f/\args0=E.args/\h0=E.h0/\n0=E.n0/\v1=E.v1/\h1=E.h1/\m=E.m
def aIe (f:Nat):List rF->Bool
 |[]=>false
 |E::r=>match Nat.beq E.f f with|true=>true|false=>aIe f r
def aFY (f:Nat):List rF->List Value->Heap->Nat->yM->Bool
 |[],_,_,_,_=>false
 |E::r,args,h,nx,K=>match Nat.beq E.f f with
  |true=>(match YH E args h with
   |true=>K (fJ (fun k=>nx+k) E.v1) (app (nK nx E.h1) (qY E.h1 h)) (nx+E.m)
   |false=>aFY f r args h nx K)
  |false=>aFY f r args h nx K
theorem PW {f:Nat}(L0:List rF){args:List Value}{h:Heap}{nx:Nat}{K:yM}{K':KE}(hK:∀ v h nx,K v h nx=true->K' v h nx):∀(L:List rF),(∀ E∈L,E∈L0)->aFY f L args h nx K=true->xOf (aDa L0 f) args h nx K'
 |[],_,hl=>by cases hl
 |E::r,hsub,hl=>by
  simp only[aFY]at hl;split at hl
  ·rename_i hb;split at hl
   ·rename_i hf;exact⟨E.args,E.h0,E.n0,E.v1,E.h1,E.m,⟨E,hsub E (.head _),az hb,rfl,rfl,rfl,rfl,rfl,rfl⟩,aDk hf,hK _ _ _ hl⟩
   exact PW L0 hK r (fun E hE=>hsub E (.tail _ hE)) hl
  exact PW L0 hK r (fun E hE=>hsub E (.tail _ hE)) hl
abbrev GS:=List Value->Option (Bool × Value)
def gXB (s:GS):List Value->Heap->Nat->yM->Bool:=fun args h nx K=>match s args with
 |some p=>fR p.1 (K p.2 h nx)
 |none=>false
def KW (L:List rF)(S:List (Nat × GS))(f:Nat):Option (List Value->Heap->Nat->KE->Prop):=match aIe f L with
 |true=>some (xOf (aDa L f))
 |false=>(match aw S f with|some s=>some (gX s)|none=>none)
def JW (L:List rF)(S:List (Nat × GS))(f:Nat):Option (List Value->Heap->Nat->yM->Bool):=match aIe f L with
 |true=>some (aFY f L)
 |false=>(match aw S f with|some s=>some (gXB s)|none=>none)
theorem MR {c:EI}{L:List rF}{S:List (Nat × GS)}(hc:c.X=KW L S):TwX c (JW L S):=by
 intro f x xb hx hxb args h nx K K' hK hl;rw[hc]at hx;unfold KW at hx;unfold JW at hxb;split at hx
 ·rename_i hh;rw[hh]at hxb;injection hx with hx;injection hxb with hxb;subst hx;subst hxb;exact PW L hK L (fun _ h=>h) hl
 rename_i hh;rw[hh]at hxb;simp only at hxb;split at hx
 ·rename_i s hs;rw[hs]at hxb;injection hx with hx;injection hxb with hxb;subst hx;subst hxb;unfold gXB at hl;unfold gX;split at hl
  ·rename_i p hp
   try rw[hp]
   exact bQ (hK _ _ _) hl
  ·cases hl
 ·cases hx
def dL (c:EI)(XB:Nat->Option (List Value->Heap->Nat->yM->Bool))(d:Nat)(E:rF):Prop:=GH c XB d false E.f E.args E.h0 E.n0 (ZH E)=true
def AD (P:Program)(L:List rF):Prop:=∀ f,c7 P f (xOf (aDa L f))
theorem AD.app {P:Program}{L L':List rF}(h:AD P L)(h':AD P L'):AD P (L++L'):=by
 intro f;have key:∀ args h nx K,xOf (aDa (L++L') f) args h nx K->xOf (aDa L f) args h nx K\/xOf (aDa L' f) args h nx K:=by
  rintro args h nx K ⟨a,b,c,d,e,g,⟨E,hE,he⟩,q⟩;rcases List.mem_append.1 hE with hE|hE
  ·exact .inl ⟨a,b,c,d,e,g,⟨E,hE,he⟩,q⟩
  exact .inr ⟨a,b,c,d,e,g,⟨E,hE,he⟩,q⟩
 refine⟨fun args hp nx K hx=>?_,fun args hp nx K hx=>?_⟩
 ·rcases key _ _ _ _ hx with hx|hx
  ·exact(h f).1 args hp nx K hx
  exact(h' f).1 args hp nx K hx
 obtain⟨a,b,c,d,e,g,q1,q2,q3⟩:=hx;exact⟨_,_,_,q3,fun K' hk=>⟨a,b,c,d,e,g,q1,q2,hk⟩⟩
theorem IQ {P:Program}{c:EI}(hc:o6 P c){XB:Nat->Option (List Value->Heap->Nat->yM->Bool)}(hX:TwX c XB){d:Nat}{L:List rF}(hL:∀ E∈L,dL c XB d E):AD P L:=by
 intro f;refine eJ (kA hc d).1 fun args0 h0 n0 v1 h1 m hs=>?_;obtain⟨E,hE,rfl,rfl,rfl,rfl,rfl,rfl,rfl⟩:=hs;have t1:=hL E hE;have hv:=tO hX d false E.f E.args E.h0 E.n0 (ZH E) (fun v h nx=>fL E.h1=true/\BX E.v1 E.h1 E.m v h nx) (fun v h nx ho=>by
  simp only[ZH,af]at ho;exact⟨ho.2,_,aAc ho.1⟩) t1
 obtain⟨v,h',nx',k1,k2⟩:=(kA hc d).2.2.1 _ _ _ _ _ hv;exact⟨k1.1,_,k2 _ k1.2,fun _ _ _ q=>q⟩
theorem IH {P:Program}{L:List rF}(h:AD P L){S:List (Nat × GS)}(hS:∀ f s,aw S f=some s->c7 P f (gX s)):∀ f x,KW L S f=some x->c7 P f x:=by
 intro f x hfx;unfold KW at hfx;split at hfx
 ·injection hfx with hfx;subst hfx;exact h f
 split at hfx
 ·rename_i s hs;injection hfx with hfx;subst hfx;exact hS f s hs
 ·cases hfx
theorem aGS {a0 b0 a b:Value}{n:Int}{r:List Value}(hr:fI r=true){h0 h:Heap}{n0 nx:Nat}(i:In [a0,b0] h0 n0 [a,b] h nx)(ha:∃ x y z,a0=.slice x y z)(hb:∃ x y z,b0=.slice x y z) :
  In (.agg #[a0,b0,.int .i64 n]::r) h0 n0 (.agg #[a,b,.int .i64 n]::r) h nx:=by
 intro ι B w H hs;have hag:mS ι nx (.agg #[a,b,.int .i64 n]):=hs _ (.head _);have sa:jJ ι nx a:=hag a (by simp);have sb:jJ ι nx b:=hag b (by simp);obtain⟨ι0,e1,e2,e3⟩:=i ι B w H (fun v hv=>by
  simp only[List.mem_cons,List.not_mem_nil,or_false]at hv;rcases hv with rfl|rfl
  ·exact lF (dH sa)
  exact lF (dH sb))
 simp only[List.map_cons,List.map_nil,List.cons.injEq,and_true]at e1;obtain⟨x,y,z,rfl⟩:=ha;obtain⟨x',y',z',rfl⟩:=hb;have t1:tr ι a=cF ι a:=(by rw[r8 (dH sa),uM sa]);have t2:tr ι b=cF ι b:=(by rw[r8 (dH sb),uM sb]);refine⟨ι0,?_,?_,e3⟩
 ·rw[List.map_cons,List.map_cons];congr 1
  ·show Value.agg (Array.map (cF ι) #[a,b,.int .i64 n])=Value.agg (Array.map (cF ι0) #[_,_,.int .i64 n]);simp only[List.map_toArray,List.map_cons,List.map_nil];rw[<- t1,<- t2,e1.1,e1.2];rfl
  exact List.map_congr_left fun v hv=>by rw[iU (cD hr hv),iU (cD hr hv)]
 intro v hv;cases hv with
 |head =>
  intro u hu;simp only[List.mem_cons,List.not_mem_nil,or_false]at hu;rcases hu with rfl|rfl|rfl
  ·exact e2 _ (.head _)
  ·exact e2 _ (.tail _ (.head _))
  exact bM rfl
 |tail _ hm=>exact c9 (cD hr hm)
section
variable {α β:Type}(E:El α)(G:El β)
def fH (n m:Nat)(c1 c2:Nat)(k:Int):Value:=.agg #[ak 0 n c1,ak 1 m c2,.int .i64 k]
def aS (l:List α)(m:List β):Heap:=[(0,.cells false true E.sz (flat E.fl l)),(1,.cells false true G.sz (flat G.fl m))]
def mX (s:List α->List β->Int->List Value->Option (Bool × Value)):XF:=fun args h nx K=>match args with
 |.agg ⟨[p,q,.int .i64 n]⟩::r=>∃ l m,eY E h p l/\eY G h q m/\(match s l m n r with|some pr=>eF pr.1 (K pr.2 h nx)|none=>False)
 |_=>False
theorem SE {p q:Value}{n:Int}{r:List Value}(hr:fI r=true){h:Heap}{nx:Nat}{l:List α}{m:List β}(hl:eY E h p l)(hm:eY G h q m) :
  ∃ c1 c2,In (fH l.length m.length c1 c2 n::r) (aS E G l m) 2 (.agg #[p,q,.int .i64 n]::r) h nx:=by
 obtain⟨c1,i1⟩:=KD (nx:=nx) E hl;obtain⟨c2,i2⟩:=KD (nx:=nx) G hm;exact⟨c1,c2,aGS hr (YO rfl rfl i1 i2 ⟨_,_,rfl,aC E l⟩ ⟨_,_,rfl,aC G m⟩) ⟨_,_,_,rfl⟩ ⟨_,_,_,rfl⟩⟩
theorem xF {P:Program}{C:VC}{f:Nat}{s:List α->List β->Int->List Value->Option (Bool × Value)}(hC:bN P C)
  (hs:∀ l m n r v,s l m n r=some (true,v)->fI r=true/\gT v=true/\∀ c1 c2,C f (fH l.length m.length c1 c2 n::r) (aS E G l m) 2 (fun u _ _=>u=v)):c7 P f (mX E G s):=by
 refine(eJ (S:=fun args0 h0 n0 v1 h1 k=>∃ l m n r c1 c2,s l m n r=some (true,v1)/\args0=fH l.length m.length c1 c2 n::r/\h0=aS E G l m/\n0=2/\h1=[]/\k=0) hC ?_).mono ?_ ?_
 ·rintro args0 h0 n0 v1 h1 k ⟨l,m,n,r,c1,c2,e1,rfl,rfl,rfl,rfl,rfl⟩;obtain⟨a1,a2,a3⟩:=hs l m n r v1 e1;exact⟨rfl,_,a3 c1 c2,fun v h nx e=>by rw[e];exact gM a2⟩
 ·intro args h nx K hx;unfold mX at hx;split at hx
  case h_2=>exact hx.elim
  rename_i p q n r;obtain⟨l,m,hl,hm,hx⟩:=hx;split at hx
  case h_2=>exact hx.elim
  rename_i pr e1;obtain⟨bb,u⟩:=pr;obtain⟨rfl,hx⟩:=aH.1 hx;obtain⟨a1,a2,a3⟩:=hs l m n r u e1;obtain⟨c1,c2,i⟩:=SE (n:=n) (nx:=nx) E G a1 hl hm;refine⟨_,_,2,u,[],0,⟨l,m,n,r,c1,c2,e1,rfl,rfl,rfl,rfl,rfl⟩,i,?_⟩;simp only[qY,pF,nK,lL,lJ a2,Nat.add_zero];exact hx
 intro args h nx K hx;unfold mX at hx;split at hx
 case h_2=>exact hx.elim
 rename_i p q n r;obtain⟨l,m,hl,hm,hx⟩:=hx;split at hx
 case h_2=>exact hx.elim
 rename_i pr e1;obtain⟨hb,hx⟩:=aH.1 hx;exact⟨pr.2,h,nx,hx,fun K' hk=>⟨l,m,hl,hm,by rw[e1];exact aM hb hk⟩⟩
end
theorem X5 {a0:List Value}{h0:Heap}{n0:Nat}{a:List Value}{h:Heap}{nx:Nat}(i:In a0 h0 n0 a h nx){b:Value}{n2 c2 sz:Nat}{cs:List Value}(hg:dT cs=true)
  (i2:In [ak 0 n2 c2] [(0,.cells false true sz cs)] 1 [b] h nx) (hlow:∀ k o,aw h0 k=some o->o.alone=false) :
  In (a0++[.slice (some ⟨n0,0,none⟩) n2 c2]) (app h0 [(n0,.cells false true sz cs)]) (n0+1) (a++[b]) h nx:=by
 intro ι B w H hs;obtain⟨ι1,e1,k1,R1⟩:=i ι B w H (fun v hv=>hs v (List.mem_append_left _ hv));obtain⟨ι2,e2,k2,R2⟩:=i2 ι B w H (fun v hv=>hs v (List.mem_append_right _ hv));simp only[List.map_cons,List.map_nil,List.cons.injEq,and_true]at e2;have q2:=R2.obj 0 _ rfl;have kk2:=k2 _ (.head _);let ι0:Nat->Loc:=fun k=>if k<n0 then ι1 k else ι2 0
 have hlt:∀ k,k<n0->ι0 k=ι1 k:=fun k hk=>if_pos hk;have hat:ι0 n0=ι2 0:=if_neg (Nat.lt_irrefl _);have hcase:∀ k o,aw (app h0 [(n0,.cells false true sz cs)]) k=some o->(aw h0 k=some o/\k<n0)\/(k=n0/\o=.cells false true sz cs):=by
  intro k o hk;rw[jM]at hk;split at hk
  ·rename_i o' ho;injection hk with hk;subst hk;exact .inl ⟨ho,R1.low k _ ho⟩
  rw[aD]at hk;split at hk
  ·rename_i hb;injection hk with hk;exact .inr ⟨(az hb).symm,hk.symm⟩
  exact cA hk
 refine⟨ι0,?_,?_,⟨?_,?_,?_,ah _,?_⟩⟩
 ·rw[List.map_append,List.map_append,e1];congr 1
  ·refine List.map_congr_left fun v hv=>?_;exact(KP (ι:=ι1) (ι':=ι0) (n:=n0) hlt (k1 v hv)).symm
  simp only[List.map_cons,List.map_nil,e2];simp only[tr,eK,cF,eM,hat]
 ·intro v hv;rcases List.mem_append.1 hv with hv|hv
  ·exact uR (Nat.le_succ _) hlt (k1 v hv)
  simp only[List.mem_cons,List.not_mem_nil,or_false]at hv;subst hv;exact⟨Nat.lt_succ_self _,fun h=>kk2.2 (by rw[<- h];show _=(ι0 n0).jD;rw[hat])⟩
 ·intro k o hk;rcases hcase k o hk with⟨h1,h2⟩|⟨rfl,rfl⟩
  ·rw[hlt k h2];exact(R1.obj k o h1).names (R1.sc k o h1) hlt
  rw[hat];cases hl:ι2 0 with
  |nil p=>rw[hl]at q2;exact q2
  |lay b o e =>
   rw[hl]at q2;obtain⟨x1,x2,x3⟩:=q2;refine⟨x1,x2,fun i v hv=>?_⟩;rw[x3 i v hv,oI (a9 hg (List.mem_of_getElem? hv)),oI (a9 hg (List.mem_of_getElem? hv))]
 ·intro k k' o o' hk hk' hne hal b hb;rcases hcase k o hk with⟨h1,h2⟩|⟨rfl,rfl⟩
  ·rw[hlow k o h1]at hal;cases hal
  ·cases hal
 ·intro k o hk;rcases hcase k o hk with⟨h1,h2⟩|⟨rfl,rfl⟩ <;> omega
 intro k o hk;rcases hcase k o hk with⟨h1,h2⟩|⟨rfl,rfl⟩
 ·exact(R1.sc k o h1).mono (Nat.le_succ _) hlt
 exact fun v hv=>bM (a9 hg hv)
section
variable {α β γ δ:Type}(E:El α)(G:El β)(J:El γ)(D:El δ)
def mapA (p q:Value)(n:Int):Value:=.agg #[p,q,.int .i64 n]
def nF (l:List α)(m:List β)(k:List γ):Heap:=[(0,.cells false true E.sz (flat E.fl l)),(1,.cells false true G.sz (flat G.fl m)),(2,.cells false true J.sz (flat J.fl k))]
theorem aBC {p q o:Value}{n:Int}{r:List Value}(hr:fI r=true){h:Heap}{nx:Nat}{l:List α}{m:List β}{k:List γ}(hl:eY E h p l)(hm:eY G h q m)(hk:eY J h o k) :
  ∃ c1 c2 c3,In (fH l.length m.length c1 c2 n::(r++[ak 2 k.length c3])) (nF E G J l m k) 3 (mapA p q n::(r++[o])) h nx:=by
 obtain⟨c1,c2,i⟩:=SE (n:=n) (nx:=nx) E G hr hl hm;obtain⟨c3,i3⟩:=KD (nx:=nx) J hk;refine⟨c1,c2,c3,X5 i (aC J k) i3 fun j ob hj=>?_⟩;unfold aS at hj;rw[aD]at hj;split at hj
 ·injection hj with hj;subst hj;rfl
 rw[aD]at hj;split at hj
 ·injection hj with hj;subst hj;rfl
 exact cA hj
def mLX (s:List α->List β->Int->List γ->List Value->Option (Bool × Value)):XF:=fun args h nx K =>
 ∃ p q n r o l m k,args=mapA p q n::(r++[o])/\eY E h p l/\eY G h q m/\eY J h o k/\(match s l m n k r with|some pr=>eF pr.1 (K pr.2 h nx)|none=>False)
theorem aF4 {P:Program}{C:VC}{f:Nat}{s:List α->List β->Int->List γ->List Value->Option (Bool × Value)}(hC:bN P C)
  (hs:∀ l m n k r v,s l m n k r=some (true,v)->fI r=true/\gT v=true/\∀ c1 c2 c3,C f (fH l.length m.length c1 c2 n::(r++[ak 2 k.length c3])) (nF E G J l m k) 3 (fun u _ _=>u=v)):c7 P f (mLX E G J s):=by
 refine(eJ (S:=fun args0 h0 n0 v1 h1 j=>∃ l m n k r c1 c2 c3,s l m n k r=some (true,v1)/\args0=fH l.length m.length c1 c2 n::(r++[ak 2 k.length c3])/\h0=nF E G J l m k/\n0=3/\h1=[]/\j=0) hC ?_).mono ?_ ?_
 ·rintro args0 h0 n0 v1 h1 j ⟨l,m,n,k,r,c1,c2,c3,e1,rfl,rfl,rfl,rfl,rfl⟩;obtain⟨a1,a2,a3⟩:=hs l m n k r v1 e1;exact⟨rfl,_,a3 c1 c2 c3,fun v h nx e=>by rw[e];exact gM a2⟩
 ·rintro args h nx K ⟨p,q,n,r,o,l,m,k,rfl,hl,hm,hk,hx⟩;split at hx
  case h_2=>exact hx.elim
  rename_i pr e1;obtain⟨bb,u⟩:=pr;obtain⟨rfl,hx⟩:=aH.1 hx;obtain⟨a1,a2,a3⟩:=hs l m n k r u e1;obtain⟨c1,c2,c3,i⟩:=aBC (n:=n) (nx:=nx) E G J a1 hl hm hk;refine⟨_,_,3,u,[],0,⟨l,m,n,k,r,c1,c2,c3,e1,rfl,rfl,rfl,rfl,rfl⟩,i,?_⟩;simp only[qY,pF,nK,lL,lJ a2,Nat.add_zero];exact hx
 rintro args h nx K ⟨p,q,n,r,o,l,m,k,rfl,hl,hm,hk,hx⟩;split at hx
 case h_2=>exact hx.elim
 rename_i pr e1;obtain⟨hb,hx⟩:=aH.1 hx;exact⟨pr.2,h,nx,hx,fun K' hk'=>⟨p,q,n,r,o,l,m,k,rfl,hl,hm,hk,by rw[e1];exact aM hb hk'⟩⟩
def wrW:List Value->Value->Value
 |[],v=>v
 |a::r,v=>.agg (v::a::r).toArray
theorem aBr {ρ:Nat->Nat}{rest:List Value}(hr:dT rest=true){k n c:Nat}:fJ ρ (wrW rest (.slice (some ⟨k,0,none⟩) n c))=wrW rest (.slice (some ⟨ρ k,0,none⟩) n c):=by
 cases rest with
 |nil=>simp[wrW,fJ,tr,eK,cF,eM,j4]
 |cons a r =>
  show Value.agg (Array.map (cF (j4 ρ)) (_::a::r).toArray)=Value.agg (_::a::r).toArray;rw[List.map_toArray,List.map_cons];congr 2;rw[List.cons.injEq];refine⟨by simp[cF,eM,j4],?_⟩
  conv=>rhs;rw[<- List.map_id (a::r)]
  exact List.map_congr_left fun v hv=>oI (a9 hr hv)
theorem aNh {rest:List Value}(hr:dT rest=true){n c:Nat}:BO 1 (wrW rest (ak 0 n c)):=by
 cases rest with
 |nil=>exact⟨Nat.one_pos,fun h=>by cases h⟩
 |cons a r =>
  intro v hv;rcases List.mem_cons.1 hv with rfl|hv
  ·exact⟨Nat.one_pos,fun h=>by cases h⟩
  exact bM (a9 hr hv)
def ylH (out:List δ):Heap:=[(0,.cells true false D.sz (flat D.fl out))]
def ylV (out:List δ)(rest:List Value)(k:Nat):Value:=wrW rest (.slice (some ⟨k,0,none⟩) out.length out.length)
def YW (out:List δ)(rest:List Value):KE:=fun v h _=>∃ q,v=ylV out rest q/\aw h q=some (.cells true false D.sz (flat D.fl out))
theorem ZD {out:List δ}{rest:List Value}(hr:dT rest=true){v:Value}{h:Heap}{nx:Nat}(hy:YW D out rest v h nx):BX (ylV out rest 0) (ylH D out) 1 v h nx:=by
 obtain⟨q,rfl,hq⟩:=hy;refine⟨fun _=>q,fun t v hv=>?_,fun k o hk=>?_,fun k k' o o' hk hk' _=>?_,fun k hk=>absurd hk (Nat.not_lt_zero _),Nat.zero_le _⟩
 ·rw[aD]at hv;split at hv
  ·rename_i hb;injection hv with hv;subst hv;refine⟨?_,aNh hr⟩;rw[aD,hb];show _=some (fJ (fun _=>q) (wrW rest (ak 0 out.length out.length)));rw[aBr hr];rfl
  exact cA hv
 ·unfold ylH at hk;rw[aD]at hk;split at hk
  ·rename_i hb;injection hk with hk;subst hk;rw[<- az hb];exact⟨Nat.one_pos,_,hq,rfl,rfl,rfl,(bK (aC D out)).symm,fun v hv=>bM (a9 (aC D out) hv)⟩
  exact cA hk
 unfold ylH at hk hk';rw[aD]at hk hk';split at hk
 ·rename_i h1;split at hk'
  ·rename_i h2;exact(az h1).symm.trans (az h2)
  exact cA hk'
 exact cA hk
theorem aFF {out:List δ}{rest:List Value}(hr:dT rest=true){h:Heap}{nx:Nat}{K:KE}(hk:K (ylV out rest nx) (cO h nx (.cells true false D.sz (flat D.fl out))) (nx+1)) :
  K (fJ (fun k=>nx+k) (ylV out rest 0)) (app (nK nx (ylH D out)) (qY (ylH D out) h)) (nx+1):=by
 have hm:(flat D.fl out).map (cB (fun k=>nx+k))=flat D.fl out:=bK (aC D _);have e1:fJ (fun k=>nx+k) (ylV out rest 0)=ylV out rest nx:=aBr hr;have e2:app (nK nx (ylH D out)) (qY (ylH D out) h)=cO h nx (.cells true false D.sz (flat D.fl out)):=by
  show(nx+0,bV.cells true false D.sz ((flat D.fl out).map (cB (fun k=>nx+k))))::h=_;rw[hm];rfl
 rw[e1,e2];exact hk
abbrev YS (δ:Type):=Option (Bool × List δ × List Value)
def mYX (s:List α->List β->Int->List Value->YS δ):XF:=fun args h nx K=>∃ p q n r l m,args=mapA p q n::r/\eY E h p l/\eY G h q m /\
 (match s l m n r with|some pr=>eF pr.1 (K (ylV pr.2.1 pr.2.2 nx) (cO h nx (.cells true false D.sz (flat D.fl pr.2.1))) (nx+1))|none=>False)
theorem aEi {P:Program}{C:VC}{f:Nat}{s:List α->List β->Int->List Value->YS δ}(hC:bN P C)
  (hs:∀ l m n r out rest,s l m n r=some (true,out,rest)->fI r=true/\dT rest=true/\∀ c1 c2,C f (fH l.length m.length c1 c2 n::r) (aS E G l m) 2 (YW D out rest)):c7 P f (mYX E G D s):=by
 refine(eJ (S:=fun args0 h0 n0 v1 h1 j=>∃ l m n r c1 c2 out rest,s l m n r=some (true,out,rest)/\args0=fH l.length m.length c1 c2 n::r/\h0=aS E G l m/\n0=2/\v1=ylV out rest 0/\h1=ylH D out/\j=1) hC ?_).mono ?_ ?_
 ·rintro args0 h0 n0 v1 h1 j ⟨l,m,n,r,c1,c2,out,rest,e1,rfl,rfl,rfl,rfl,rfl,rfl⟩;obtain⟨a1,a2,a3⟩:=hs l m n r out rest e1;exact⟨rfl,_,a3 c1 c2,fun v h nx e=>ZD D a2 e⟩
 ·rintro args h nx K ⟨p,q,n,r,l,m,rfl,hl,hm,hx⟩;split at hx
  case h_2=>exact hx.elim
  rename_i pr e1;obtain⟨bb,out,rest⟩:=pr;obtain⟨rfl,hx⟩:=aH.1 hx;obtain⟨a1,a2,a3⟩:=hs l m n r out rest e1;obtain⟨c1,c2,i⟩:=SE (n:=n) (nx:=nx) E G a1 hl hm;exact⟨_,_,2,_,_,1,⟨l,m,n,r,c1,c2,out,rest,e1,rfl,rfl,rfl,rfl,rfl,rfl⟩,i,aFF D a2 hx⟩
 rintro args h nx K ⟨p,q,n,r,l,m,rfl,hl,hm,hx⟩;split at hx
 case h_2=>exact hx.elim
 rename_i pr e1;obtain⟨hb,hx⟩:=aH.1 hx;exact⟨_,_,_,hx,fun K' hk'=>⟨p,q,n,r,l,m,rfl,hl,hm,by rw[e1];exact aM hb hk'⟩⟩
def aPW (s:List α->List β->Int->List γ->List Value->YS δ):XF:=fun args h nx K=>∃ p q n r o l m k,args=mapA p q n::(r++[o])/\eY E h p l/\eY G h q m/\eY J h o k /\
 (match s l m n k r with|some pr=>eF pr.1 (K (ylV pr.2.1 pr.2.2 nx) (cO h nx (.cells true false D.sz (flat D.fl pr.2.1))) (nx+1))|none=>False)
theorem aJa {P:Program}{C:VC}{f:Nat}{s:List α->List β->Int->List γ->List Value->YS δ}(hC:bN P C)
  (hs:∀ l m n k r out rest,s l m n k r=some (true,out,rest)->fI r=true/\dT rest=true/\∀ c1 c2 c3,C f (fH l.length m.length c1 c2 n::(r++[ak 2 k.length c3])) (nF E G J l m k) 3 (YW D out rest)):c7 P f (aPW E G J D s):=by
 refine(eJ (S:=fun args0 h0 n0 v1 h1 j=>∃ l m n k r c1 c2 c3 out rest,s l m n k r=some (true,out,rest)/\args0=fH l.length m.length c1 c2 n::(r++[ak 2 k.length c3])/\h0=nF E G J l m k/\n0=3/\v1=ylV out rest 0/\h1=ylH D out/\j=1) hC ?_).mono ?_ ?_
 ·rintro args0 h0 n0 v1 h1 j ⟨l,m,n,k,r,c1,c2,c3,out,rest,e1,rfl,rfl,rfl,rfl,rfl,rfl⟩;obtain⟨a1,a2,a3⟩:=hs l m n k r out rest e1;exact⟨rfl,_,a3 c1 c2 c3,fun v h nx e=>ZD D a2 e⟩
 ·rintro args h nx K ⟨p,q,n,r,o,l,m,k,rfl,hl,hm,hk,hx⟩;split at hx
  case h_2=>exact hx.elim
  rename_i pr e1;obtain⟨bb,out,rest⟩:=pr;obtain⟨rfl,hx⟩:=aH.1 hx;obtain⟨a1,a2,a3⟩:=hs l m n k r out rest e1;obtain⟨c1,c2,c3,i⟩:=aBC (n:=n) (nx:=nx) E G J a1 hl hm hk;exact⟨_,_,3,_,_,1,⟨l,m,n,k,r,c1,c2,c3,out,rest,e1,rfl,rfl,rfl,rfl,rfl,rfl⟩,i,aFF D a2 hx⟩
 rintro args h nx K ⟨p,q,n,r,o,l,m,k,rfl,hl,hm,hk,hx⟩;split at hx
 case h_2=>exact hx.elim
 rename_i pr e1;obtain⟨hb,hx⟩:=aH.1 hx;exact⟨_,_,_,hx,fun K' hk'=>⟨p,q,n,r,o,l,m,k,rfl,hl,hm,hk,by rw[e1];exact aM hb hk'⟩⟩
end
section
variable {ρ:Nat->Nat}{n0 k:Nat}{h:Heap}{o o':bV}{r:List (Nat × bV)}{wr g:Bool}{sz:Nat}{cs:List Value}
theorem iN {α:Type}{P:α->Prop}:∀ p∈([]:List α),P p:=fun _ h=>by cases h
theorem iE {e:List (Nat × Value)}{v:Value}{s:List (Nat × Value)}(h1:aw e k=some (fJ ρ v))(h2:aEt n0 v=true)(h3:∀ p∈s,aw e p.1=some (fJ ρ p.2)/\BO n0 p.2):∀ p∈(k,v)::s,aw e p.1=some (fJ ρ p.2)/\BO n0 p.2 :=
 ae.2 ⟨⟨h1,n9 h2⟩,h3⟩
theorem iW (h1:Nat.ble (k+1) n0=true)(h2:aw h (ρ k)=some o')(h4:cK ρ n0 o o')(h3:∀ p∈r,p.1<n0/\∃ o',aw h (ρ p.1)=some o'/\cK ρ n0 p.2 o'):∀ p∈(k,o)::r,p.1<n0/\∃ o',aw h (ρ p.1)=some o'/\cK ρ n0 p.2 o' :=
 ae.2 ⟨⟨Nat.le_of_ble_eq_true h1,_,h2,h4⟩,h3⟩
theorem iG (h1:Nat.ble (k+1) n0=true)(h2:aw h (ρ k)=some (.cells wr g sz cs))(h4:dT cs=true)(h3:∀ p∈r,p.1<n0/\∃ o',aw h (ρ p.1)=some o'/\cK ρ n0 p.2 o'):∀ p∈(k,.cells wr g sz cs)::r,p.1<n0/\∃ o',aw h (ρ p.1)=some o'/\cK ρ n0 p.2 o' :=
 iW h1 h2 (aE h4) h3
theorem iF {α:Type}{E:El α}{l:List α}(h1:Nat.ble (k+1) n0=true)(h2:aw h (ρ k)=some (.cells wr g sz (flat E.fl l)))(h3:∀ p∈r,p.1<n0/\∃ o',aw h (ρ p.1)=some o'/\cK ρ n0 p.2 o'):∀ p∈(k,.cells wr g sz (flat E.fl l))::r,p.1<n0/\∃ o',aw h (ρ p.1)=some o'/\cK ρ n0 p.2 o' :=
 iG h1 h2 (aC E l) h3
theorem iC (h1:Nat.ble (k+1) n0=true)(h2:aw h (ρ k)=some (.cells wr g sz (cs.map (cB ρ))))(h4:ZI n0 cs=true)(h3:∀ p∈r,p.1<n0/\∃ o',aw h (ρ p.1)=some o'/\cK ρ n0 p.2 o'):∀ p∈(k,.cells wr g sz cs)::r,p.1<n0/\∃ o',aw h (ρ p.1)=some o'/\cK ρ n0 p.2 o' :=
 iW h1 h2 ⟨rfl,rfl,rfl,rfl,zC h4⟩ h3
theorem iJ {cs':List Value}(h1:Nat.ble (k+1) n0=true)(h2:aw h (ρ k)=some (.cells wr g sz cs'))(h4:dT cs=true)(h5:cs'=cs)(h3:∀ p∈r,p.1<n0/\∃ o',aw h (ρ p.1)=some o'/\cK ρ n0 p.2 o'):∀ p∈(k,.cells wr g sz cs)::r,p.1<n0/\∃ o',aw h (ρ p.1)=some o'/\cK ρ n0 p.2 o' :=
 iW h1 h2 (aK h4 h5) h3
theorem iK {k0 q:Nat}(h1:(Nat.beq k k0 || !Nat.beq k q)=true)(h3:∀ p∈r,p.1≠k0->p.1≠q):∀ p∈(k,o)::r,p.1≠k0->p.1≠q :=
 ae.2 ⟨fun hk e=>by
  simp only[Bool.or_eq_true,Bool.not_eq_true']at h1;rcases h1 with h1|h1
  ·exact hk (az h1)
  exact ba h1 e,h3⟩
end
theorem xH {P:Prop}(h:P:=by((repeat' (first|refine iF rfl rfl ?_|refine iC rfl rfl rfl ?_|refine iJ rfl rfl rfl rfl ?_));exact iN)):P:=h
theorem xI {P:Prop}(h:P:=by((repeat' (first|refine iF rfl rfl ?_|refine iJ rfl rfl rfl rfl ?_));exact iN)):P:=h
theorem xE {P:Prop}(h:P:=by((repeat' refine iE rfl rfl ?_);exact iN)):P:=h
theorem xK {P:Prop}(h:P:=by((repeat' refine iK rfl ?_);exact iN)):P:=h
theorem aJ {b n0 nx:Nat}{I:KS}{e0 e:List (Nat × Value)}{h0 h:Heap}(hI:I e0 h0 n0)(he:∀ p∈e0,aw e p.1=some (fJ id p.2)/\BO n0 p.2:=by((repeat' refine iE rfl rfl ?_);exact iN))
 (hh:∀ p∈h0,p.1<n0/\∃ o',aw h (id p.1)=some o'/\cK id n0 p.2 o':=by((repeat' (first|refine iF rfl rfl ?_|refine iC rfl rfl rfl ?_|refine iJ rfl rfl rfl rfl ?_));exact iN)) (hb:b<=n0:=by decide):sW b I e h nx:=cU hI he hh hb
def rn (L:List (Nat × Nat))(k:Nat):Nat:=match aw L k with|some q=>q|none=>k
theorem I3 {b n0 nx:Nat}{I:KS}{e0 e:List (Nat × Value)}{h0 h:Heap}(L:List (Nat × Nat))(hI:I e0 h0 n0)(he:∀ p∈e0,aw e p.1=some (fJ (rn L) p.2)/\BO n0 p.2)
  (hh:∀ p∈h0,p.1<n0/\∃ o',aw h (rn L p.1)=some o'/\cK (rn L) n0 p.2 o') (hi:∀ k∈h0.map Prod.fst,∀ k'∈h0.map Prod.fst,rn L k=rn L k'->k=k') (hL:∀ p∈L,b<=p.1) (hb:b<=n0):sW b I e h nx:=by
 refine⟨e0,h0,n0,rn L,hI,fun t v hv=>he (t,v) (aT hv),fun k o hk=>hh (k,o) (aT hk),fun k k' o o' hk hk' e=>hi _ (List.mem_map.2 ⟨_,aT hk,rfl⟩) _ (List.mem_map.2 ⟨_,aT hk',rfl⟩) e,fun k hk=>?_,hb⟩;unfold rn;split
 ·rename_i q hq;have:=hL _ (aT hq);simp only at this;omega
 rfl
def rnB (L:List (Nat × Nat)):List Nat->Bool
 |[]=>true
 |k::r=>(r.all fun k'=>!Nat.beq (rn L k) (rn L k') || Nat.beq k k')&&rnB L r
theorem aG0 {L:List (Nat × Nat)}:∀{ks:List Nat},rnB L ks=true->∀ k∈ks,∀ k'∈ks,rn L k=rn L k'->k=k'
 |[],_=>fun k hk=>by cases hk
 |a::r,h=>fun k hk k' hk' e=>by
  simp only[rnB,af]at h;have key:∀ x∈r,rn L a=rn L x->a=x:=fun x hx ex=>by
   have:=List.all_eq_true.1 h.1 x hx;simp only[Bool.or_eq_true,Bool.not_eq_true']at this;rcases this with q|q
   ·rw[ex,Nat.beq_refl]at q;cases q
   exact Nat.eq_of_beq_eq_true q
  rcases List.mem_cons.1 hk with h1|h1 <;> rcases List.mem_cons.1 hk' with h2|h2
  ·rw[h1,h2]
  ·rw[h1];exact key k' h2 (by rw[<- h1];exact e)
  ·rw[h2];exact(key k h1 (by rw[<- h2];exact e.symm)).symm
  exact aG0 h.2 k h1 k' h2 e
theorem bC {b n0 nx:Nat}{I:KS}{e0 e:List (Nat × Value)}{h0 h:Heap}(L:List (Nat × Nat))(hI:I e0 h0 n0)(he:∀ p∈e0,aw e p.1=some (fJ (rn L) p.2)/\BO n0 p.2:=by((repeat' refine iE rfl rfl ?_);exact iN))
 (hh:∀ p∈h0,p.1<n0/\∃ o',aw h (rn L p.1)=some o'/\cK (rn L) n0 p.2 o':=by((repeat' (first|refine iF rfl rfl ?_|refine iC rfl rfl rfl ?_|refine iJ rfl rfl rfl rfl ?_));exact iN)) (hi:rnB L (h0.map Prod.fst)=true:=by rfl) (hL:∀ p∈L,b<=p.1:=by decide) (hb:b<=n0:=by decide):sW b I e h nx:=I3 L hI he hh (aG0 hi) hL hb
set_option maxRecDepth 100000
def aGF:List Value->Option (Bool × List (Int × Int) × Option Int)
 |[u,v]=>(match aDg u with|some s=>(match aDg v with|some t=>some (jZ s&&jZ t,l7 s t,none)|none=>none)|none=>none)
 |_=>none
theorem aCv {args:List Value}{l:List (Int × Int)}{e:Option Int}(hs:aGF args=some (true,l,e)):∃ s t,args=[sgv s,sgv t]/\(jZ s&&jZ t)=true/\l=l7 s t/\e=none:=by
 unfold aGF at hs;split at hs
 ·split at hs
  ·rename_i s e1;split at hs
   ·rename_i t e2;injection hs with hs;injection hs with h1 h2;injection h2 with h2 h3;exact⟨s,t,by rw[II e1,II e2],h1,h2.symm,h3.symm⟩
   ·cases hs
  ·cases hs
 ·cases hs
def eE (v:Value)(j:Int):List (Nat × Value):=[(2,ao 0),(3,ao 1),(5,v),(6,ak 2 4 4),(7,iv j)]
def RL (s:Sg):List Value:=[iv s.1.1,iv s.1.2,iv s.2.1,iv s.2.2]
def hE (s t:Sg)(ps:List (Int × Int)):Heap:=[(0,aq 1 (RL s)),(1,aq 1 (RL t)),(2,aq 2 (flat aX.fl ps))]
def HC (s t:Sg)(ps out:List (Int × Int)):Heap:=[(0,aq 1 (RL s)),(1,aq 1 (RL t)),(2,aq 2 (flat aX.fl ps)),(3,aq 2 (flat aX.fl out))]
def eI (v:Value)(j:Int)(b1 b2 b:Bool)(k:Int):List (Nat × Value):=[(2,ao 0),(3,ao 1),(5,v),(6,ak 2 4 4),(7,iv j),(8,.bool b1),(9,.bool b2),(10,.bool b),(11,iv k)]
theorem aDi (p q:Int × Int)(l:List (Int × Int)):j6 p (l++[q])=(j6 p l || fS q p):=by
 induction l with
 |nil=>simp[j6]
 |cons a r ih=>simp only[List.cons_append,j6,ih,Bool.or_assoc]
theorem LY {p:Int × Int}{l:List (Int × Int)}{k:Nat}(h:k<l.length):j6 p (l.take (k+1))=(j6 p (l.take k) || fS (bI l k) p):=by
 rw[List.take_add_one,List.getElem?_eq_getElem h,gK h,<- aDi];rfl
theorem aCm {s t:Sg}(l out:List (Int × Int)):(l.foldl (m9 s t) out).length<=out.length+l.length:=by
 induction l generalizing out with
 |nil=>simp
 |cons a r ih =>
  have:=ih (m9 s t out a);have h2:(m9 s t out a).length<=out.length+1:=by
   unfold m9;split <;> simp
  simp only[List.foldl_cons,List.length_cons];omega
theorem VT {s t:Sg}{l:List (Int × Int)}(h:l.length<=4):(l.foldl (m9 s t) []).length<=4:=by
 have:=aCm (s:=s) (t:=t) l [];simp at this;omega
theorem aDl (l:List (Int × Int))(p:Int × Int):List.take (l.length*2) (List.drop 0 (flat aX.fl l))++[iv p.1,iv p.2]=flat aX.fl (l++[p]):=by
 rw[rY,List.drop_zero,List.take_of_length_le (by rw[aO];exact ah _)];rfl
def X70:Nat × XF:=(203,fX aX aGF)
theorem x70:c7 Tryz.prog X70.1 X70.2:=aOA aX (aL (xl:=[X67]) (.cons x67 .nil)) fun args l e hs=>by
 obtain⟨s,t,rfl,hw,rfl,rfl⟩:=aCv hs;refine⟨rfl,?_⟩;clear hs;obtain⟨⟨ax,ay⟩,⟨bx,b2⟩⟩:=s;obtain⟨⟨cx,cy⟩,⟨dx,dy⟩⟩:=t;obtain⟨ps,hps⟩:∃ ps:List (Int × Int),ps=[(ax,ay),(bx,b2),(cx,cy),(dx,dy)]:=⟨_,rfl⟩;(conv=>whnf)
 refine⟨fun n e h nx=>∃(i:Nat) (j:Int) (out:List (Int × Int)),j=i/\i<=4/\n=4 - i/\out=(ps.take i).foldl (m9 ((ax,ay),(bx,b2)) ((cx,cy),(dx,dy))) [] /\
  ((out=[]/\e=eE (.slice none 0 0) j/\h=hE ((ax,ay),(bx,b2)) ((cx,cy),(dx,dy)) ps/\nx=3)\/(0<out.length/\e=eE (ak 3 out.length out.length) j/\h=HC ((ax,ay),(bx,b2)) ((cx,cy),(dx,dy)) ps out/\nx=4)),⟨4,?_⟩,?_⟩
 ·subst hps;exact aJ (h0:=hE ((ax,ay),(bx,b2)) ((cx,cy),(dx,dy)) [(ax,ay),(bx,b2),(cx,cy),(dx,dy)]) (n0:=3) ⟨0,0,[],rfl,by decide,rfl,rfl,.inl ⟨rfl,rfl,rfl,rfl⟩⟩
 have hl4:ps.length=4:=(by rw[hps];rfl);simp only[af]at hw;have hww:∀ p∈ps,wide p=true:=by
  have h1:=hw.1;have h2:=hw.2;simp only[jZ,af]at h1 h2;subst hps;exact ae.2 ⟨h1.1,ae.2 ⟨h1.2,ae.2 ⟨h2.1,ae.2 ⟨h2.2,fun _ h=>(by cases h)⟩⟩⟩⟩
 rintro n e h nx ⟨i,j,out,hj,hi,rfl,ho,⟨ho0,rfl,rfl,rfl⟩|⟨hol,rfl,rfl,rfl⟩⟩
 ·unfold eE hE;((conv=>whnf);apply bm<;>intro g1);rotate_left
  ·(conv=>whnf);have h4:i=4:=(by simp only[iZ,gZ,decide_eq_false_iff_not]at g1;omega);subst h4;have:l7 ((ax,ay),(bx,b2)) ((cx,cy),(dx,dy))=[]:=by
    rw[<- ho0,ho,hps];rfl
   rw[this];rfl
  have hlt:i<ps.length:=(by simp[aB,aF]at g1;omega);have hwp:wide (bI ps i)=true:=(by rw[gK hlt];exact hww _ (List.getElem_mem hlt));((conv=>whnf);apply bm<;>intro g2);rotate_left
  ·exfalso;simp only[iZ,B3,mW,gZ,Bool.eq_false_iff,ne_eq,af,ag]at g1 g2;omega
  (conv=>whnf);refine eZ (MH ps hlt ?_) ?_
  ·simp[aB,aF];omega
  ((conv=>whnf);apply bm<;>intro g3);rotate_left
  ·exfalso;simp only[hwp,Bool.true_and]at g3;rw[show jZ _=true from hw.1]at g3;cases g3
  ((conv=>whnf);apply bm<;>intro g4);rotate_left
  ·exfalso;rw[g4]at g2;cases g2
  (conv=>whnf);refine eZ (MH ps hlt ?_) ?_
  ·simp[aB,aF];omega
  ((conv=>whnf);apply bm<;>intro g5);rotate_left
  ·exfalso;simp only[hwp,Bool.true_and]at g5;rw[show jZ _=true from hw.2]at g5;cases g5
  (conv=>whnf);refine⟨fun n e h nx=>n=0/\e=eI (.slice none 0 0) j (rR (bI ps i) ((ax,ay),(bx,b2))) (rR (bI ps i) ((cx,cy),(dx,dy))) false 0/\h=hE ((ax,ay),(bx,b2)) ((cx,cy),(dx,dy)) ps/\nx=3,⟨0,?_⟩,?_⟩
  ·exact aJ (h0:=hE ((ax,ay),(bx,b2)) ((cx,cy),(dx,dy)) ps) (n0:=3) ⟨rfl,rfl,rfl,rfl⟩
  rintro n e h nx ⟨rfl,rfl,rfl,rfl⟩;have hat:ps.take (i+1)=ps.take i++[bI ps i]:=by
   rw[gK hlt,List.take_add_one,List.getElem?_eq_getElem hlt];rfl
  have ho':(ps.take (i+1)).foldl (m9 ((ax,ay),(bx,b2)) ((cx,cy),(dx,dy))) []=m9 ((ax,ay),(bx,b2)) ((cx,cy),(dx,dy)) [] (bI ps i):=by
   rw[hat,List.foldl_append,<- ho,ho0];rfl
  unfold eI hE
  repeat' first
   |((conv=>whnf)
     refine eZ (MH ps hlt ?_) ?_
     ·simp[aB,aF];omega)
   |(((conv=>whnf);apply bm<;>intro g))
  all_goals(conv=>whnf)
  ·clear g1 g2 g3 g4 g5;rename_i ga gb _;refine⟨4 - (i+1),aa,?_⟩
   refine mN (e0:=eE (ak 3 1 1) (j+1)) (h0:=HC ((ax,ay),(bx,b2)) ((cx,cy),(dx,dy)) ps [bI ps i]) (n0:=4) 3 4 (by decide) (by decide)
    ⟨i+1,j+1,[bI ps i],aa,aa,rfl,?_,.inr ⟨Nat.one_pos,rfl,rfl,rfl⟩⟩ ?_ ?_ ?_
   ·simp only[j5,beq_iff_eq]at ga gb;rw[ho',m9,if_pos ⟨ga,gb,rfl⟩];rfl
   ·unfold eE;exact xE
   ·unfold HC;exact xI
   unfold HC;((repeat' refine iK rfl ?_);exact iN)
  ·exfalso;simp only[lS,gD,aN,Bool.eq_false_iff,ne_eq,af,ag]at g;omega
  ·exfalso;rw[g]at g2;cases g2
  ·clear g1 g2 g3 g4 g5;rename_i ga gb;refine⟨4 - (i+1),aa,?_⟩;refine cU (e0:=eE (.slice none 0 0) (j+1)) (h0:=hE ((ax,ay),(bx,b2)) ((cx,cy),(dx,dy)) ps) (n0:=3) ⟨i+1,j+1,[],aa,aa,rfl,?_,.inl ⟨rfl,rfl,rfl,rfl⟩⟩ ?_ ?_ (by decide)
   ·simp only[j5,beq_eq_false_iff_ne,ne_eq]at gb;rw[ho',m9,if_neg fun h=>gb h.2.1]
   ·unfold eE;exact xE
   unfold hE;exact xI
  ·exfalso;simp only[lS,gD,aN,Bool.eq_false_iff,ne_eq,af,ag]at g;omega
  ·clear g1 g2 g3 g4 g5;rename_i ga;refine⟨4 - (i+1),aa,?_⟩;refine cU (e0:=eE (.slice none 0 0) (j+1)) (h0:=hE ((ax,ay),(bx,b2)) ((cx,cy),(dx,dy)) ps) (n0:=3) ⟨i+1,j+1,[],aa,aa,rfl,?_,.inl ⟨rfl,rfl,rfl,rfl⟩⟩ ?_ ?_ (by decide)
   ·simp only[j5,beq_eq_false_iff_ne,ne_eq]at ga;rw[ho',m9,if_neg fun h=>ga h.1]
   ·unfold eE;exact xE
   unfold hE;exact xI
  exfalso;simp only[lS,gD,aN,Bool.eq_false_iff,ne_eq,af,ag]at g;omega
 have out_len:out.length<=4:=(by rw[ho];exact VT (by rw[List.length_take];omega));unfold eE HC;((conv=>whnf);apply bm<;>intro g1);rotate_left
 ·(conv=>whnf);have h4:i=4:=(by simp only[iZ,gZ,decide_eq_false_iff_not]at g1;omega);subst h4;have:l7 ((ax,ay),(bx,b2)) ((cx,cy),(dx,dy))=out:=by
   rw[ho,hps];rfl
  rw[this];exact BF (q:=3) (h:=HC ((ax,ay),(bx,b2)) ((cx,cy),(dx,dy)) ps out) (nx:=4) (e:=none) aX hol rfl
 have hlt:i<ps.length:=(by simp[aB,aF]at g1;omega);have hwp:wide (bI ps i)=true:=(by rw[gK hlt];exact hww _ (List.getElem_mem hlt));((conv=>whnf);apply bm<;>intro g2);rotate_left
 ·exfalso;simp only[iZ,B3,mW,gZ,Bool.eq_false_iff,ne_eq,af,ag]at g1 g2;omega
 (conv=>whnf);refine eZ (MH ps hlt ?_) ?_
 ·simp[aB,aF];omega
 ((conv=>whnf);apply bm<;>intro g3);rotate_left
 ·exfalso;simp only[hwp,Bool.true_and]at g3;rw[show jZ _=true from hw.1]at g3;cases g3
 ((conv=>whnf);apply bm<;>intro g4);rotate_left
 ·exfalso;rw[g4]at g2;cases g2
 (conv=>whnf);refine eZ (MH ps hlt ?_) ?_
 ·simp[aB,aF];omega
 ((conv=>whnf);apply bm<;>intro g5);rotate_left
 ·exfalso;simp only[hwp,Bool.true_and]at g5;rw[show jZ _=true from hw.2]at g5;cases g5
 (conv=>whnf);refine⟨fun n e h nx=>∃(k:Nat) (jk:Int),jk=k/\k<=out.length/\n=out.length - k/\e=eI (ak 3 out.length out.length) j (rR (bI ps i) ((ax,ay),(bx,b2))) (rR (bI ps i) ((cx,cy),(dx,dy))) (j6 (bI ps i) (out.take k)) jk/\h=HC ((ax,ay),(bx,b2)) ((cx,cy),(dx,dy)) ps out/\nx=4,⟨out.length,?_⟩,?_⟩
 ·exact aJ (h0:=HC ((ax,ay),(bx,b2)) ((cx,cy),(dx,dy)) ps out) (n0:=4) ⟨0,0,rfl,Nat.zero_le _,rfl,rfl,rfl,rfl⟩
 rintro n e h nx ⟨k,jk,hjk,hk,rfl,rfl,rfl,rfl⟩;have hat:ps.take (i+1)=ps.take i++[bI ps i]:=by
  rw[gK hlt,List.take_add_one,List.getElem?_eq_getElem hlt];rfl
 have ho':(ps.take (i+1)).foldl (m9 ((ax,ay),(bx,b2)) ((cx,cy),(dx,dy))) []=m9 ((ax,ay),(bx,b2)) ((cx,cy),(dx,dy)) out (bI ps i):=by
  rw[hat,List.foldl_append,<- ho];rfl
 unfold eI HC;((conv=>whnf);apply bm<;>intro f1)
 ·have hltk:k<out.length:=by simp[aB,aF]at f1;omega
  repeat' first
   |((conv=>whnf)
     refine eZ (MH out hltk ?_) ?_
     ·simp[aB,aF];omega)
   |((conv=>whnf)
     refine eZ (MH ps hlt ?_) ?_
     ·simp[aB,aF];omega)
   |(((conv=>whnf);apply bm<;>intro g))
  all_goals(conv=>whnf)
  ·clear g1 g2 g3 g4 g5;rename_i ga _ _;refine⟨out.length - (k+1),aa,?_⟩;refine cU (e0:=eI (ak 3 out.length out.length) j (rR (bI ps i) ((ax,ay),(bx,b2))) (rR (bI ps i) ((cx,cy),(dx,dy))) (fS (bI out k) (bI ps i)) (jk+1)) (h0:=HC ((ax,ay),(bx,b2)) ((cx,cy),(dx,dy)) ps out) (n0:=4) ⟨k+1,jk+1,aa,hltk,rfl,?_,rfl,rfl⟩ ?_ ?_ (by decide)
   ·simp only[j5,beq_iff_eq,beq_eq_false_iff_ne,ne_eq,Bool.not_eq_false]at ga;rw[LY hltk,ga];rfl
   ·unfold eI;exact xE
   unfold HC;exact xI
  ·exfalso;have:=out_len;simp only[lS,gD,aN,Bool.eq_false_iff,ne_eq,af,ag]at g;omega
  ·exfalso;rw[g]at g2;cases g2
  ·exfalso;simp only[iZ,B3,mW,gZ,Bool.eq_false_iff,ne_eq,af,ag]at g;omega
  ·clear g1 g2 g3 g4 g5;rename_i ga;refine⟨out.length - (k+1),aa,?_⟩;refine cU (e0:=eI (ak 3 out.length out.length) j (rR (bI ps i) ((ax,ay),(bx,b2))) (rR (bI ps i) ((cx,cy),(dx,dy))) true (jk+1)) (h0:=HC ((ax,ay),(bx,b2)) ((cx,cy),(dx,dy)) ps out) (n0:=4) ⟨k+1,jk+1,aa,hltk,rfl,?_,rfl,rfl⟩ ?_ ?_ (by decide)
   ·simp only[j5,beq_iff_eq,beq_eq_false_iff_ne,ne_eq,Bool.not_eq_false]at ga;rw[LY hltk,ga];rfl
   ·unfold eI;exact xE
   unfold HC;exact xI
  exfalso;simp only[lS,gD,aN,Bool.eq_false_iff,ne_eq,af,ag]at g;omega
 have hkk:k=out.length:=by simp only[iZ,gZ,decide_eq_false_iff_not]at f1;omega
 repeat' first
  |((conv=>whnf)
    refine eZ (MH ps hlt ?_) ?_
    ·simp[aB,aF];omega)
  |(((conv=>whnf);apply bm<;>intro g))
 all_goals(conv=>whnf)
 ·exfalso;rename_i gc _;have:=Nat.le_of_ble_eq_true gc;omega
 ·exfalso;rename_i gc _;have:=Nat.le_of_ble_eq_true gc;omega
 ·exfalso;rename_i gc;have:=Nat.le_of_ble_eq_true gc;omega
 ·clear g1 g2 g3 g4 g5;rename_i ga gb gx _ _ _;refine⟨4 - (i+1),aa,?_⟩
  refine mN (e0:=eE (ak 3 (out.length+1) (out.length+1)) (j+1)) (h0:=HC ((ax,ay),(bx,b2)) ((cx,cy),(dx,dy)) ps (out++[bI ps i])) (n0:=4) 3 5 (by decide) (by decide)
   ⟨i+1,j+1,out++[bI ps i],aa,aa,rfl,?_,.inr ⟨by rw[List.length_append];exact Nat.succ_pos _,by rw[List.length_append];rfl,rfl,rfl⟩⟩ ?_ ?_ ?_
  ·simp only[j5,jE,beq_iff_eq,Bool.not_eq_true']at ga gb gx;rw[ho',m9,if_pos ⟨ga,gb,by rw[hkk,List.take_length]at gx;exact gx⟩]
  ·unfold eE;exact xE
  ·unfold HC;((repeat'(first|refine iW rfl rfl (aK (aC aX _) (aDl out _)) ?_|refine iF rfl rfl ?_|refine iJ rfl rfl rfl rfl ?_));exact iN)
  unfold HC;((repeat' refine iK rfl ?_);exact iN)
 ·exfalso;simp only[lS,gD,aN,Bool.eq_false_iff,ne_eq,af,ag]at g;omega
 ·exfalso;have hf:(flat aX.fl out).length=out.length*2:=aO aX out;have hol4:out.length<=4:=(by rw[ho];exact VT (by rw[List.length_take];omega));simp only[mW,hf]at g;revert g;simp;omega
 ·exfalso;rw[g]at g2;cases g2
 ·clear g1 g2 g3 g4 g5;rename_i gx;refine⟨4 - (i+1),aa,?_⟩;refine cU (e0:=eE (ak 3 out.length out.length) (j+1)) (h0:=HC ((ax,ay),(bx,b2)) ((cx,cy),(dx,dy)) ps out) (n0:=4) ⟨i+1,j+1,out,aa,aa,rfl,?_,.inr ⟨hol,rfl,rfl,rfl⟩⟩ ?_ ?_ (by decide)
  ·simp only[j5,jE,beq_eq_false_iff_ne,ne_eq,Bool.not_eq_false']at gx;rw[ho',m9,if_neg fun h=>by rw[hkk,List.take_length]at gx;rw[gx]at h;exact absurd h.2.2 (by decide)]
  ·unfold eE;exact xE
  unfold HC;exact xI
 ·exfalso;simp only[lS,gD,aN,Bool.eq_false_iff,ne_eq,af,ag]at g;omega
 ·clear g1 g2 g3 g4 g5;rename_i gx;refine⟨4 - (i+1),aa,?_⟩;refine cU (e0:=eE (ak 3 out.length out.length) (j+1)) (h0:=HC ((ax,ay),(bx,b2)) ((cx,cy),(dx,dy)) ps out) (n0:=4) ⟨i+1,j+1,out,aa,aa,rfl,?_,.inr ⟨hol,rfl,rfl,rfl⟩⟩ ?_ ?_ (by decide)
  ·simp only[j5,jE,beq_eq_false_iff_ne,ne_eq,Bool.not_eq_false']at gx;rw[ho',m9,if_neg fun h=>gx h.2.1]
  ·unfold eE;exact xE
  unfold HC;exact xI
 ·exfalso;simp only[lS,gD,aN,Bool.eq_false_iff,ne_eq,af,ag]at g;omega
 ·clear g1 g2 g3 g4 g5;rename_i gx;refine⟨4 - (i+1),aa,?_⟩;refine cU (e0:=eE (ak 3 out.length out.length) (j+1)) (h0:=HC ((ax,ay),(bx,b2)) ((cx,cy),(dx,dy)) ps out) (n0:=4) ⟨i+1,j+1,out,aa,aa,rfl,?_,.inr ⟨hol,rfl,rfl,rfl⟩⟩ ?_ ?_ (by decide)
  ·simp only[j5,jE,beq_eq_false_iff_ne,ne_eq,Bool.not_eq_false']at gx;rw[ho',m9,if_neg fun h=>gx h.1]
  ·unfold eE;exact xE
  unfold HC;exact xI
 exfalso;simp only[lS,gD,aN,Bool.eq_false_iff,ne_eq,af,ag]at g;omega
attribute [local irreducible] l7
def PB (s t:Sg):List (Int × Int)->Int
 |[]=>if bH s.1 s.2 t.1*bH s.1 s.2 t.2<0/\bH t.1 t.2 s.1*bH t.1 t.2 s.2<0 then 3 else 0
 |[p]=>if(fS p s.1=true\/fS p s.2=true)/\(fS p t.1=true\/fS p t.2=true)then 1 else 2
 |_::_::_=>4
theorem aI3 (s t:Sg):qP s t=PB s t (l7 s t):=rfl
theorem aGC {s t:Sg}{l:List (Int × Int)}(h:l7 s t=l):qP s t=PB s t l:=by
 rw[aI3,h]
def X72:Nat × XF:=(158,gX (s2 cS cS fun s t=>(jZ s&&jZ t,u8 (qP s t))))
theorem x72:c7 Tryz.prog X72.1 X72.2:=x2 cS cS (xl:=[X70,X57]) (.cons x70 (.cons x57 .nil)) (fun _ _=>rfl) fun s t hp=>by
 obtain⟨⟨ax,ay⟩,⟨bx,b2⟩⟩:=s;obtain⟨⟨cx,cy⟩,⟨dx,dy⟩⟩:=t;have l1:=oH (ax,ay) (bx,b2) (cx,cy);have l2:=oH (ax,ay) (bx,b2) (dx,dy);have l3:=oH (cx,cy) (dx,dy) (ax,ay);have l4:=oH (cx,cy) (dx,dy) (bx,b2);have m1:=uH (A:=1) (B:=1) l1.1 l1.2 l2.1 l2.2;have m2:=uH (A:=1) (B:=1) l3.1 l3.2 l4.1 l4.2;have hp':=hp;simp only[jZ,af]at hp;unfold dM;((conv=>whnf);apply bm<;>intro g);rotate_left
 ·exfalso;rw[show _=true from hp']at g;cases g
 (conv=>whnf);generalize he:l7 _ _=L;have hm:qP ((ax,ay),(bx,b2)) ((cx,cy),(dx,dy))=PB ((ax,ay),(bx,b2)) ((cx,cy),(dx,dy)) L:=aGC he;clear he g hp';rcases L with _|⟨p,_|⟨q,r⟩⟩
 ·repeat' ((conv=>whnf);apply bm<;>intro g)
  all_goals(conv=>whnf)
  all_goals(clear l1 l2 l3 l4)
  all_goals(try(show u8 _=u8 (qP ((ax,ay),(bx,b2)) ((cx,cy),(dx,dy)));rw[hm];clear hm))
  all_goals(simp only[PM,iZ,gD,j5,gZ,aN,HJ,af,beq_iff_eq,beq_eq_false_iff_ne,ne_eq,ag,decide_eq_false_iff_not,not_and,Bool.not_eq_true',Bool.not_eq_false']at *)
  all_goals first
   |(simp only[PB,u8];simp_all;done)
   |(simp_all;done)
   |(simp only[Bool.and_eq_false_iff,decide_eq_false_iff_not]at *;omega)
   |(rw[PB,if_neg fun h=>g h.1];done)
 ·repeat' ((conv=>whnf);apply bm<;>intro g)
  all_goals(conv=>whnf)
  all_goals(clear l1 l2 l3 l4 m1 m2 hp)
  all_goals(show u8 _=u8 (qP ((ax,ay),(bx,b2)) ((cx,cy),(dx,dy)));rw[hm];clear hm)
  all_goals(simp only[xR,mW,PM,iZ,gD,j5,gZ,aN,HJ,beq_iff_eq,beq_eq_false_iff_ne,ne_eq]at *)
  all_goals(simp only[PB,u8];simp_all [fS] <;> omega)
 ((conv=>whnf);apply bm<;>intro g)
 ·(conv=>whnf);show u8 _=u8 (qP ((ax,ay),(bx,b2)) ((cx,cy),(dx,dy)));rw[hm];rfl
 exfalso;simp[iZ,gZ]at g;omega
def dW (s t:Sg):Int:=if c8 s=true/\c8 t=true then pC s t else 0
def X22:Nat × XF:=(152,gX (s2 cS cS fun s t=>(true,u8 (dW s t))))
theorem x22:c7 Tryz.prog X22.1 X22.2:=x2 cS cS (xl:=[X64,X68]) (.cons x64 (.cons x68 .nil)) (fun _ _=>rfl) fun s t _=>by
 obtain⟨⟨ax,ay⟩,⟨bx,b2⟩⟩:=s;obtain⟨⟨cx,cy⟩,⟨dx,dy⟩⟩:=t;unfold dM
 repeat' ((conv=>whnf);apply bm<;>intro g)
 all_goals(conv=>whnf)
 all_goals(simp only[j5,jE,HJ,Bool.not_eq_true',Bool.not_eq_false',beq_iff_eq,beq_eq_false_iff_ne,ne_eq,Bool.not_eq_false,Bool.not_eq_true]at *)
 all_goals first
  |(show u8 _=u8 _;simp[dW, *];done)
  |(simp_all [rX];done)
  |trace_state
def X25:Nat × XF:=(98,gX (s2 cS cS fun s t=>(true,u8 (dW s t))))
theorem x25:c7 Tryz.prog X25.1 X25.2:=x2 cS cS (xl:=[X66,X72]) (.cons x66 (.cons x72 .nil)) (fun _ _=>rfl) fun s t _=>by
 have e:=PT s t;obtain⟨⟨ax,ay⟩,⟨bx,b2⟩⟩:=s;obtain⟨⟨cx,cy⟩,⟨dx,dy⟩⟩:=t;unfold dM
 repeat' ((conv=>whnf);apply bm<;>intro g)
 all_goals(conv=>whnf)
 all_goals(simp only[j5,jE,HJ,Bool.not_eq_true',Bool.not_eq_false',beq_iff_eq,beq_eq_false_iff_ne,ne_eq,Bool.not_eq_false,Bool.not_eq_true]at *)
 all_goals first
  |(show u8 _=u8 _;simp[dW, *];done)
  |(simp_all [rX];done)
  |trace_state
def Y5:Nat × XF:=(114,gX (s2 cP cP fun a b=>(true,iv (iV a b))))
theorem aDC:c7 Tryz.prog Y5.1 Y5.2:=x2 cP cP (xl:=[RN,aCi]) (.cons UQ (.cons aIB .nil)) (fun _ _=>rfl) fun a b _=>by
 obtain⟨ax,ay⟩:=a;obtain⟨bx,b_y⟩:=b;unfold dM
 conv=>whnf
 refine⟨[jN ax bx,jN ay b_y],⟨rfl,_,_,_,_,rfl,rfl⟩,?_⟩
 conv=>whnf
 rfl
section
variable {α β γ δ:Type}(a:Cd α)(b:Cd β)(c:Cd γ)(d:Cd δ)
def s4 (F:α->β->γ->δ->Bool × Value):List Value->Option (Bool × Value)
 |[u,v,w,t]=>(match a.dec u with|some x=>(match b.dec v with|some y=>(match c.dec w with|some z=>(match d.dec t with|some s=>some (F x y z s)|none=>none)|none=>none)|none=>none)|none=>none)
 |_=>none
theorem aMy {F:α->β->γ->δ->Bool × Value}{args:List Value}{r:Bool × Value}(h:s4 a b c d F args=some r):∃ x y z s,args=[a.enc x,b.enc y,c.enc z,d.enc s]/\F x y z s=r:=by
 unfold s4 at h;split at h
 ·split at h
  ·rename_i x e;split at h
   ·rename_i y e2;split at h
    ·rename_i z e3;split at h
     ·rename_i s e4;injection h with h;exact⟨x,y,z,s,by rw[a.ok _ _ e,b.ok _ _ e2,c.ok _ _ e3,d.ok _ _ e4],h⟩
     ·cases h
    ·cases h
   ·cases h
  ·cases h
 ·cases h
theorem x4' {xl:List (Nat × XF)}(hx:lA xl){f:Nat}{F:α->β->γ->δ->Bool × Value}(hg:∀ x y z s,gT (F x y z s).2=true)(h:∀ x y z s,(F x y z s).1=true->dM xl f [a.enc x,b.enc y,c.enc z,d.enc s] (F x y z s).2):c7 Tryz.prog f (gX (s4 a b c d F)) :=
 AF (aL hx) fun args v hs=>by
  obtain⟨x,y,z,s,rfl,e⟩:=aMy a b c d hs;have h1:(F x y z s).1=true:=(by rw[e]);have h2:(F x y z s).2=v:=(by rw[e]);subst h2;exact⟨by simp[fI,a.gr,b.gr,c.gr,d.gr],hg x y z s,h x y z s h1⟩
end
theorem aL1 {b:Bool}(h:aB.A.eqB b false=true):b=false:=by cases b <;> first|rfl|cases h
theorem aLa {b:Bool}(h:aB.A.eqB b false=false):b=true:=by cases b <;> first|rfl|cases h
def mxI (a b:Int):Int:=if b > a then b else a
def WH (a b:Int):Int:=if b<a then b else a
def apI (a b c d:Int):Bool:=decide (mxI a b<WH c d) || decide (mxI c d<WH a b)
def aMb:Nat × XF:=(200,gX (s4 cI cI cI cI fun a b c d=>(true,.bool (apI a b c d))))
theorem aR8:c7 Tryz.prog aMb.1 aMb.2:=x4' cI cI cI cI (xl:=[]) .nil (fun _ _ _ _=>rfl) fun a b c d _=>by
 unfold dM
 repeat' (conv=>whnf
          apply bm<;>intro h)
 all_goals(conv=>whnf)
 all_goals(show _=Value.bool (apI a b c d))
 ·have h1:decide (mxI a b<WH c d)=false:=aL1 h;unfold apI;rw[h1];rfl
 have h1:decide (mxI a b<WH c d)=true:=aLa h;unfold apI;rw[h1];rfl
def E9 (s t:Sg):Bool:=apI s.1.1 s.2.1 t.1.1 t.2.1 || apI s.1.2 s.2.2 t.1.2 t.2.2
def aNt:Nat × XF:=(151,gX (s2 cS cS fun s t=>(true,.bool (E9 s t))))
theorem aS6:c7 Tryz.prog aNt.1 aNt.2:=x2 cS cS (xl:=[aMb]) (.cons aR8 .nil) (fun _ _=>rfl) fun s t _=>by
 obtain⟨⟨ax,ay⟩,⟨bx,b2⟩⟩:=s;obtain⟨⟨cx,cy⟩,⟨dx,dy⟩⟩:=t;unfold dM
 repeat' (conv=>whnf
          apply bm<;>intro h)
 all_goals(conv=>whnf)
 ·have h1:apI ax bx cx dx=false:=aL1 h;show _=Value.bool (E9 _ _);unfold E9;rw[h1];rfl
 have h1:apI ax bx cx dx=true:=aLa h;show _=Value.bool (E9 _ _);unfold E9;rw[h1];rfl
def J9 (s t:Sg):Int:=if E9 s t=true then 0 else dW s t
def aA9:Nat × XF:=(94,gX (s2 cS cS fun s t=>(true,u8 (J9 s t))))
theorem aKO:c7 Tryz.prog aA9.1 aA9.2:=x2 cS cS (xl:=[aNt,X22]) (.cons aS6 (.cons x22 .nil)) (fun _ _=>rfl) fun s t _=>by
 obtain⟨⟨ax,ay⟩,⟨bx,b2⟩⟩:=s;obtain⟨⟨cx,cy⟩,⟨dx,dy⟩⟩:=t;unfold dM
 repeat' (conv=>whnf
          apply bm<;>intro h)
 all_goals(conv=>whnf)
 ·have h1:E9 ((ax,ay),(bx,b2)) ((cx,cy),(dx,dy))=true:=h;show _=u8 _;simp only[J9,h1,if_true];rfl
 have h1:E9 ((ax,ay),(bx,b2)) ((cx,cy),(dx,dy))=false:=h;show _=u8 _;simp only[J9,h1];rfl
def bL (a b:Int × Int):Bool:=decide (a.1<b.1) || (decide (a.1=b.1)&&decide (a.2<b.2))
def aFH:Nat × XF:=(161,gX (s2 cP cP fun a b=>(true,.bool (bL a b))))
theorem aMi:c7 Tryz.prog aFH.1 aFH.2:=x2 cP cP (xl:=[]) .nil (fun _ _=>rfl) fun a b _=>by
 obtain⟨ax,ay⟩:=a;obtain⟨bx,b_y⟩:=b;unfold dM
 repeat' ((conv=>whnf);apply bm<;>intro h)
 all_goals(conv=>whnf)
 all_goals(simp only[iZ,xR,j5,jE,beq_iff_eq,beq_eq_false_iff_ne,ne_eq,Bool.not_eq_false,Bool.not_eq_true,ag,decide_eq_false_iff_not]at *)
 all_goals(show _=Value.bool (bL _ _);unfold bL;simp_all)
def aN0 (a b c:Int × Int):Int:=(b.1 - a.1)*(c.1 - a.1)+(b.2 - a.2)*(c.2 - a.2)
def aJ0:Nat × XF:=(206,gX (s3 cP cP cP fun a b c=>(wide a&&wide b&&wide c,iv (bO a b c))))
theorem aOF:c7 Tryz.prog aJ0.1 aJ0.2:=x3 cP cP cP (xl:=[]) .nil (fun _ _ _=>rfl) fun a b c hp=>by
 obtain⟨ax,ay⟩:=a;obtain⟨bx,b_y⟩:=b;obtain⟨cx,cy⟩:=c;simp only[wide,af,ag]at hp;have m1:=uH (a:=bx - ax) (b:=cy - ay) (A:=2000000) (B:=2000000) aa aa aa aa;have m2:=uH (a:=b_y - ay) (b:=cx - ax) (A:=2000000) (B:=2000000) aa aa aa aa;unfold dM
 repeat' (conv=>whnf
          apply bm<;>intro h)
 all_goals(conv=>whnf)
 all_goals(simp[aB,aF,aN]at *)
 all_goals first|omega|simp[bO,iv]
def aMn:Nat × XF:=(236,gX (s3 cP cP cP fun a b c=>(wide a&&wide b&&wide c,iv (aN0 a b c))))
theorem aS8:c7 Tryz.prog aMn.1 aMn.2:=x3 cP cP cP (xl:=[]) .nil (fun _ _ _=>rfl) fun a b c hp=>by
 obtain⟨ax,ay⟩:=a;obtain⟨bx,b_y⟩:=b;obtain⟨cx,cy⟩:=c;simp only[wide,af,ag]at hp;have m1:=uH (a:=bx - ax) (b:=cx - ax) (A:=2000000) (B:=2000000) aa aa aa aa;have m2:=uH (a:=b_y - ay) (b:=cy - ay) (A:=2000000) (B:=2000000) aa aa aa aa;unfold dM
 repeat' (conv=>whnf
          apply bm<;>intro h)
 all_goals(conv=>whnf)
 all_goals(simp[aB,aF,aN]at *)
 all_goals first|omega|simp[aN0,iv]
def GO (v u w:Int × Int):Int:=if bO v u w<0 then 0 else if 0<bO v u w then 2 else if aN0 v u w<0 then 1 else 3
def aNK:Nat × XF:=(220,gX (s3 cP cP cP fun a b c=>(wide a&&wide b&&wide c,iv (GO a b c))))
theorem aSG:c7 Tryz.prog aNK.1 aNK.2:=x3 cP cP cP (xl:=[aJ0,aMn]) (.cons aOF (.cons aS8 .nil)) (fun _ _ _=>rfl) fun a b c hp=>by
 obtain⟨ax,ay⟩:=a;obtain⟨bx,b_y⟩:=b;obtain⟨cx,cy⟩:=c;simp only[af]at hp;unfold dM
 repeat' ((conv=>whnf);apply bm<;>intro h)
 all_goals(conv=>whnf)
 all_goals(simp only[iZ,HJ,ag,decide_eq_false_iff_not]at *)
 all_goals first
  |(show iv _=iv (GO _ _ _);unfold GO;(repeat' split) <;> first|rfl|omega)
  |(simp_all;done)
  |trace_state
def tF (v u w x:Int × Int):Bool:=if GO v u w=GO v u x then decide (bO v w x<0)else decide (GO v u w<GO v u x)
def aLw:Nat × XF:=(198,gX (s4 cP cP cP cP fun a b c d=>(wide a&&wide b&&wide c&&wide d,.bool (tF a b c d))))
theorem aSc:c7 Tryz.prog aLw.1 aLw.2:=x4' cP cP cP cP (xl:=[aNK,aJ0]) (.cons aSG (.cons aOF .nil)) (fun _ _ _ _=>rfl) fun a b c d hp=>by
 obtain⟨ax,ay⟩:=a;obtain⟨bx,b_y⟩:=b;obtain⟨cx,cy⟩:=c;obtain⟨dx,dy⟩:=d;simp only[af]at hp;unfold dM
 repeat' ((conv=>whnf);apply bm<;>intro h)
 all_goals(conv=>whnf)
 all_goals(simp only[iZ,xR,jE,HJ,Bool.not_eq_true',Bool.not_eq_false',ag,decide_eq_false_iff_not]at *)
 all_goals first
  |(show _=Value.bool (tF _ _ _ _);unfold tF;(repeat' split) <;> first|rfl|(simp_all;done)|omega)
  |(simp_all;done)
  |trace_state
abbrev Pt:=Int × Int
structure Ed where
 a:Int
 b:Int
 l:Int
 r:Int
 n:Int
def bS:El Ed:=⟨fun e=>[iv e.a,iv e.b,iv e.l,iv e.r,iv e.n],5,fun _=>rfl,fun _=>rfl,by decide⟩
def aU (m:List Ed)(i:Nat):Ed:=m.getD i ⟨0,0,0,0,0⟩
theorem u7 {m:List Ed}{i:Nat}(h:i<m.length):aU m i=m[i]:=by
 unfold aU;rw[List.getD_eq_getElem?_getD,List.getElem?_eq_getElem h];rfl
theorem BE (m:List Ed){i o:Nat}(hi:i<m.length)(ho:o=i*5):kI (flat bS.fl m) o 5=some [iv (aU m i).a,iv (aU m i).b,iv (aU m i).l,iv (aU m i).r,iv (aU m i).n]:=by
 rw[u7 hi];exact qX bS m hi ho
theorem HE (m:List Ed)(k:Nat){i o:Nat}{v:Value}(hi:i<m.length)(hk:(bS.fl (aU m i))[k]? = some v)(hk5:k<5)(ho:o=i*5+k):nth (flat bS.fl m) o=some v:=by
 rw[u7 hi]at hk;exact lK bS m hi hk hk5 ho
theorem eU (l:List Pt){i o:Nat}(hi:i<l.length)(ho:o=i*2):kI (flat aX.fl l) o 2=some [iv (bI l i).1,iv (bI l i).2]:=by
 rw[gK hi];exact qX aX l hi ho
theorem aP {α:Type}(E:El α){l:List α}{k c:Nat}{wr g:Bool}{sz:Nat}{h:Heap}(hk:aw h k=some (.cells wr g sz (flat E.fl l))):eY E h (.slice (some ⟨k,0,none⟩) l.length c) l :=
 ⟨rfl,wr,g,sz,_,hk,by rw[List.drop_zero,List.take_length]⟩
def dD (m:List Ed)(d:Int):Int:=if d % 2=0 then(aU m (d / 2).toNat).a else(aU m (d / 2).toNat).b
def j0 (m:List Ed)(d:Int):Int:=dD m (d+1 - 2*(d % 2))
abbrev MS:=List Pt->List Ed->Int->List Value->Option (Bool × Value)
def tE (m:List Ed)(d:Int):Bool:=decide (0<=d)&&decide (d<2*m.length)&&decide (m.length<=1000000)
def sMD (F:List Pt->List Ed->Int->Int->Bool × Value):MS:=fun l m n r=>match r with
 |[.int .i64 d]=>some (F l m n d)
 |_=>none
theorem H5 {F:List Pt->List Ed->Int->Int->Bool × Value}{l:List Pt}{m:List Ed}{n:Int}{r:List Value}{v:Value}(h:sMD F l m n r=some (true,v)):∃ d,r=[iv d]/\(F l m n d).1=true/\(F l m n d).2=v:=by
 unfold sMD at h;split at h
 ·rename_i d;injection h with h;exact⟨d,rfl,by rw[h],by rw[h]⟩
 ·cases h
def X87:Nat × XF:=(89,mX aX bS (sMD fun l m n d=>(tE m d,iv (dD m d))))
theorem x87:c7 Tryz.prog X87.1 X87.2:=xF aX bS (aL (xl:=[]) .nil) fun l m n r v hs=>by
 obtain⟨d,rfl,hd,rfl⟩:=H5 hs;simp only[tE,af,ag]at hd;have q1:d.tdiv 2=d / 2:=Int.tdiv_eq_ediv_of_nonneg hd.1.1;have q2:d.tmod 2=d % 2:=Int.tmod_eq_emod_of_nonneg hd.1.1;refine⟨rfl,rfl,fun c1 c2=>?_⟩;((conv=>whnf);apply bm<;>intro h1)
 ·((conv=>whnf);apply bm<;>intro h2)
  ·(conv=>whnf);refine eZ (BE m (i:=(d / 2).toNat) aa ?_) ?_
   ·show _+Int.toNat (d.tdiv 2)*5=_;rw[q1];omega
   ((conv=>whnf);apply bm<;>intro h4)
   ·(conv=>whnf);have h4:decide (d.tmod 2=0)=true:=h4;simp only[q2,ag]at h4;simp only[dD,if_pos h4]
   (conv=>whnf);have h4:decide (d.tmod 2=0)=false:=h4;simp only[q2,decide_eq_false_iff_not]at h4;simp only[dD,if_neg h4]
  simp only[aB,aF,q1]at h2;simp at h2;have:=h2 aa;omega
 simp only[aB,aF,q1,aN]at h1;simp at h1;omega
theorem aGb {m:List Ed}{d:Int}(h:tE m d=true):tE m (d+1 - 2*(d % 2))=true:=by
 simp only[tE,af,ag]at *;omega
def aK4:Nat × XF:=(197,mX aX bS (sMD fun l m n d=>(tE m d,iv (j0 m d))))
theorem aPy:c7 Tryz.prog aK4.1 aK4.2:=xF aX bS (aL (xl:=[X87]) (.cons x87 .nil)) fun l m n r v hs=>by
 obtain⟨d,rfl,hd,rfl⟩:=H5 hs;have hd2:=aGb hd;simp only[tE,af,ag]at hd;have q2:d.tmod 2=d % 2:=Int.tmod_eq_emod_of_nonneg hd.1.1;refine⟨rfl,rfl,fun c1 c2=>?_⟩
 repeat' ((conv=>whnf);apply bm<;>intro h1)
 all_goals try(simp only[aB,aF,aN,q2]at h1;simp at h1;omega)
 (conv=>whnf);have e:d+1 - 2*(d.tmod 2)=d+1 - 2*(d % 2):=(by rw[q2]);refine⟨l,m,aFa aX rfl,aP bS rfl,?_⟩;((conv=>whnf);apply bm<;>intro h2)
 ·(conv=>whnf);show iv (dD m (d+1 - 2*(d.tmod 2)))=iv (j0 m d);rw[e];rfl
 have h2:tE m (d+1 - 2*(d.tmod 2))=false:=h2;rw[e,hd2]at h2;cases h2
def gJ:El Bool:=⟨fun b=>[.bool b],1,fun _=>rfl,fun _=>rfl,by decide⟩
def dG (k:List Bool)(i:Nat):Bool:=k.getD i false
theorem sM {k:List Bool}{i:Nat}(h:i<k.length):dG k i=k[i]:=by
 unfold dG;rw[List.getD_eq_getElem?_getD,List.getElem?_eq_getElem h];rfl
theorem PX (k:List Bool){i o:Nat}(hi:i<k.length)(ho:o=i*1):nth (flat gJ.fl k) o=some (.bool (dG k i)):=by
 rw[sM hi];exact lK gJ k hi (k:=0) rfl Nat.one_pos (by rw[ho];rfl)
def fC (l:List Pt)(i:Int):Pt:=bI l i.toNat
def jS (l:List Pt)(m:List Ed):Bool:=l.all wide&&m.all (fun e=>decide (0<=e.a)&&decide (e.a<l.length)&&decide (0<=e.b)&&decide (e.b<l.length))&&decide (m.length<=1000)&&decide (l.length<=1000)
theorem nU {l:List Pt}{m:List Ed}(h:jS l m=true){i:Nat}(hi:i<m.length):0<=(aU m i).a/\(aU m i).a<l.length/\0<=(aU m i).b/\(aU m i).b<l.length:=by
 simp only[jS,af]at h;have:=List.all_eq_true.1 h.1.1.2 _ (List.getElem_mem hi);rw[u7 hi];simp only[af,ag]at this;omega
theorem xW {l:List Pt}{m:List Ed}(h:jS l m=true){d:Int}(hd:tE m d=true):0<=dD m d/\dD m d<l.length:=by
 simp only[tE,af,ag]at hd;have:=nU h (i:=(d / 2).toNat) aa;unfold dD;split <;> omega
theorem M5 {l:List Pt}{m:List Ed}(h:jS l m=true){d:Int}(hd:tE m d=true):0<=j0 m d/\j0 m d<l.length:=xW h (aGb hd)
theorem uI {l:List Pt}{m:List Ed}(h:jS l m=true){i:Int}(h0:0<=i)(h1:i<l.length):wide (fC l i)=true:=by
 simp only[jS,af]at h;unfold fC;rw[gK aa];exact List.all_eq_true.1 h.1.1.1 _ (List.getElem_mem _)
def iX (l:List Pt)(m:List Ed)(k:List Bool)(d:Int):Nat->Int
 |0=>-1
 |j+1=>if(dG k j=true/\dD m j=j0 m d)/\(iX l m k d j<0\/tF (fC l (j0 m d)) (fC l (dD m d)) (fC l (j0 m j)) (fC l (j0 m (iX l m k d j)))=true)then j else iX l m k d j
theorem EF (l:List Pt)(m:List Ed)(k:List Bool)(d:Int):∀ j:Nat,-1<=iX l m k d j/\iX l m k d j<j
 |0=>by unfold iX;omega
 |j+1=>by
  have:=EF l m k d j;unfold iX;split <;> omega
theorem aJp {l:List Pt}{m:List Ed}{k:List Bool}{d:Int}{j:Nat}(h:¬((dG k j=true/\dD m j=j0 m d)/\(iX l m k d j<0\/tF (fC l (j0 m d)) (fC l (dD m d)) (fC l (j0 m j)) (fC l (j0 m (iX l m k d j)))=true))):iX l m k d (j+1)=iX l m k d j:=by
 conv=>lhs;unfold iX
 exact if_neg h
theorem aLM {l:List Pt}{m:List Ed}{k:List Bool}{d:Int}{j:Nat}(h:((dG k j=true/\dD m j=j0 m d)/\(iX l m k d j<0\/tF (fC l (j0 m d)) (fC l (dD m d)) (fC l (j0 m j)) (fC l (j0 m (iX l m k d j)))=true))):iX l m k d (j+1)=j:=by
 conv=>lhs;unfold iX
 exact if_pos h
def aNH (l:List Pt)(m:List Ed)(n:Int)(k:List Bool):List Value->Option (Bool × Value)
 |[.int .i64 d]=>some (jS l m&&tE m d&&decide (k.length=2*m.length),iv (iX l m k d (2*m.length)))
 |_=>none
theorem aEv {l:List Pt}{m:List Ed}{n:Int}{k:List Bool}{r:List Value}{v:Value}(h:aNH l m n k r=some (true,v)):∃ d,r=[iv d]/\jS l m=true/\tE m d=true/\k.length=2*m.length/\v=iv (iX l m k d (2*m.length)):=by
 unfold aNH at h;split at h
 ·rename_i d;injection h with h;injection h with h1 h2;simp only[af,ag]at h1;exact⟨d,rfl,h1.1.1,h1.1.2,h1.2,h2.symm⟩
 ·cases h
def dU (a b:Nat)(c1 c2:Nat)(n:Int):bV:=aq 1 [ak 0 a c1,ak 1 b c2,iv n]
def e79 (k:List Bool)(c3:Nat)(d at_ best j:Int):List (Nat × Value):=[(2,ak 2 k.length c3),(3,ao 3),(7,ao 4),(8,iv at_),(9,ao 5),(10,iv best),(11,iv j)]
def h79 (l:List Pt)(m:List Ed)(k:List Bool)(c1 c2:Nat)(n:Int)(u v:Pt):Heap:=(5,aq 1 [iv v.1,iv v.2])::(4,aq 1 [iv u.1,iv u.2])::(3,dU l.length m.length c1 c2 n)::nF aX bS gJ l m k
def X79:Nat × XF:=(148,mLX aX bS gJ aNH)
theorem x79:c7 Tryz.prog X79.1 X79.2:=aF4 aX bS gJ (aL (xl:=[X87,aK4,aLw]) (.cons x87 (.cons aPy (.cons aSc .nil)))) fun l m n k r v hs=>by
 obtain⟨d,rfl,hM,hd,hk,rfl⟩:=aEv hs;refine⟨rfl,rfl,fun c1 c2 c3=>?_⟩;have hf:=xW hM hd;have ht:=M5 hM hd;have hm:m.length<=1000:=(by simp only[jS,af,ag]at hM;exact hM.1.2);(conv=>whnf);refine⟨l,m,aP aX rfl,aP bS rfl,?_⟩;((conv=>whnf);apply bm<;>intro h1);rotate_left
 ·exfalso;rw[show tE m d=false from h1]at hd;cases hd
 (conv=>whnf);refine bt ?_;(conv=>whnf);refine eZ (eU l (i:=(dD m d).toNat) aa ?_) ?_
 ·show _+Int.toNat (dD m d)*2=_;omega
 (conv=>whnf);refine⟨l,m,aP aX rfl,aP bS rfl,?_⟩;((conv=>whnf);apply bm<;>intro h3);rotate_left
 ·exfalso;rw[show tE m d=false from h3]at hd;cases hd
 (conv=>whnf);refine bt ?_;(conv=>whnf);refine eZ (eU l (i:=(j0 m d).toNat) aa ?_) ?_
 ·show _+Int.toNat (j0 m d)*2=_;omega
 (conv=>whnf);refine⟨fun q e h nx=>∃(i:Nat) (j:Int),j=i/\i<=2*m.length/\q=2*m.length - i/\e=e79 k c3 d (j0 m d) (iX l m k d i) j/\h=h79 l m k c1 c2 n (fC l (dD m d)) (fC l (j0 m d))/\nx=6,⟨2*m.length,?_⟩,?_⟩
 ·exact aJ (h0:=h79 l m k c1 c2 n (fC l (dD m d)) (fC l (j0 m d))) (n0:=6) ⟨0,0,rfl,Nat.zero_le _,rfl,rfl,rfl,rfl⟩
 rintro q e h nx ⟨i,j,hj,hi,rfl,rfl,rfl,rfl⟩;unfold e79 h79 dU nF;have lo:=EF l m k d i;(conv=>whnf);refine bt ?_;((conv=>whnf);apply bm<;>intro h6);rotate_left
 ·have hge:i=2*m.length:=(by simp[aB,aF]at h6;omega);(conv=>whnf);rw[hge]
 have hlt:i<2*m.length:=(by simp[aB,aF]at h6;omega);have hdj:tE m j=true:=(by simp only[tE,af,ag];omega);have hfj:=xW hM hdj;have htj:=M5 hM hdj;(conv=>whnf);refine bt ?_;(conv=>whnf);refine fD (PX k (i:=i) aa ?_) ?_
 ·show _+Int.toNat j*1=_;omega
 ((conv=>whnf);apply bm<;>intro h8);rotate_left
 ·have h8:dG k i=false:=(by simpa[aB,aF]using h8);(conv=>whnf);refine bt ?_;(conv=>whnf);refine⟨2*m.length - (i+1),aa,?_⟩;refine cU (e0:=e79 k c3 d (j0 m d) (iX l m k d i) (j+1)) (h0:=h79 l m k c1 c2 n (fC l (dD m d)) (fC l (j0 m d))) (n0:=6) ⟨i+1,j+1,aa,aa,rfl,?_,rfl,rfl⟩ ?_ ?_ (by decide)
  ·rw[aJp (fun hh=>by rw[h8]at hh;cases hh.1.1)];rfl
  ·unfold e79;exact xE
  unfold h79 dU nF;exact xH
 (conv=>whnf);refine⟨l,m,aP aX rfl,aP bS rfl,?_⟩;((conv=>whnf);apply bm<;>intro h9);rotate_left
 ·exfalso;rw[show tE m j=false from h9]at hdj;cases hdj
 ((conv=>whnf);apply bm<;>intro h10)
 ·have h10:dD m j≠j0 m d:=(by simpa[aB,aF]using h10);(conv=>whnf);refine bt ?_;(conv=>whnf);refine⟨2*m.length - (i+1),aa,?_⟩;refine cU (e0:=e79 k c3 d (j0 m d) (iX l m k d i) (j+1)) (h0:=h79 l m k c1 c2 n (fC l (dD m d)) (fC l (j0 m d))) (n0:=6) ⟨i+1,j+1,aa,aa,rfl,?_,rfl,rfl⟩ ?_ ?_ (by decide)
  ·rw[aJp (fun hh=>h10 (by rw[hj];exact hh.1.2))];rfl
  ·unfold e79;exact xE
  unfold h79 dU nF;exact xH
 have h10:dD m j=j0 m d:=(by simpa[aB,aF]using h10);(conv=>whnf);refine⟨l,m,aP aX rfl,aP bS rfl,?_⟩;((conv=>whnf);apply bm<;>intro h11);rotate_left
 ·exfalso;rw[show tE m j=false from h11]at hdj;cases hdj
 (conv=>whnf);refine bt ?_;(conv=>whnf);refine eZ (eU l (i:=(j0 m j).toNat) aa ?_) ?_
 ·show _+Int.toNat (j0 m j)*2=_;omega
 have h8:dG k i=true:=(by simpa[aB,aF]using h8);have h10':dD m i=j0 m d:=(by rw[<- hj];exact h10);((conv=>whnf);apply bm<;>intro rO);rotate_left
 ·have rO:iX l m k d i<0:=(by simpa[aB,aF]using rO);(conv=>whnf);refine bt ?_;(conv=>whnf);refine⟨2*m.length - (i+1),aa,?_⟩;refine cU (e0:=e79 k c3 d (j0 m d) (j) (j+1)) (h0:=h79 l m k c1 c2 n (fC l (dD m d)) (fC l (j0 m d))) (n0:=6) ⟨i+1,j+1,aa,aa,rfl,?_,rfl,rfl⟩ ?_ ?_ (by decide)
  ·rw[aLM ⟨⟨h8,h10'⟩,.inl rO⟩,hj];rfl
  ·unfold e79;exact xE
  unfold h79 dU nF;exact xH
 have rO:¬ iX l m k d i<0:=(by simpa[aB,aF]using rO);have hdb:tE m (iX l m k d i)=true:=(by simp only[tE,af,ag];omega);have htb:=M5 hM hdb;(conv=>whnf);refine⟨l,m,aP aX rfl,aP bS rfl,?_⟩;((conv=>whnf);apply bm<;>intro h14);rotate_left
 ·exfalso;rw[show tE m (iX l m k d i)=false from h14]at hdb;cases hdb
 (conv=>whnf);refine bt ?_;(conv=>whnf);refine eZ (eU l (i:=(j0 m (iX l m k d i)).toNat) aa ?_) ?_
 ·show _+Int.toNat (j0 m (iX l m k d i))*2=_;omega
 ((conv=>whnf);apply bm<;>intro h16);rotate_left
 ·exfalso;have e1:=uI hM ht.1 ht.2;have e2:=uI hM hf.1 hf.2;have e3:=uI hM htj.1 htj.2;have e4:=uI hM htb.1 htb.2;have h16:(wide (fC l (j0 m d))&&wide (fC l (dD m d))&&wide (fC l (j0 m j))&&wide (fC l (j0 m (iX l m k d i))))=false:=h16;rw[e1,e2,e3,e4]at h16;cases h16
 ((conv=>whnf);apply bm<;>intro h17)
 ·have h17:tF (fC l (j0 m d)) (fC l (dD m d)) (fC l (j0 m i)) (fC l (j0 m (iX l m k d i)))=true:=(by rw[<- hj];exact h17);(conv=>whnf);refine bt ?_;(conv=>whnf);refine⟨2*m.length - (i+1),aa,?_⟩;refine cU (e0:=e79 k c3 d (j0 m d) (j) (j+1)) (h0:=h79 l m k c1 c2 n (fC l (dD m d)) (fC l (j0 m d))) (n0:=6) ⟨i+1,j+1,aa,aa,rfl,?_,rfl,rfl⟩ ?_ ?_ (by decide)
  ·rw[aLM ⟨⟨h8,h10'⟩,.inr h17⟩,hj];rfl
  ·unfold e79;exact xE
  unfold h79 dU nF;exact xH
 have h17:¬ tF (fC l (j0 m d)) (fC l (dD m d)) (fC l (j0 m i)) (fC l (j0 m (iX l m k d i)))=true:=(by rw[<- hj];exact fun hh=>Bool.false_ne_true (h17.symm.trans hh));(conv=>whnf);refine bt ?_;(conv=>whnf);refine⟨2*m.length - (i+1),aa,?_⟩;refine cU (e0:=e79 k c3 d (j0 m d) (iX l m k d i) (j+1)) (h0:=h79 l m k c1 c2 n (fC l (dD m d)) (fC l (j0 m d))) (n0:=6) ⟨i+1,j+1,aa,aa,rfl,?_,rfl,rfl⟩ ?_ ?_ (by decide)
 ·rw[aJp (fun hh=>hh.2.elim rO h17)];rfl
 ·unfold e79;exact xE
 unfold h79 dU nF;exact xH
def aG (k:List Int)(i:Nat):Int:=k.getD i 0
theorem fK {k:List Int}{i:Nat}(h:i<k.length):aG k i=k[i]:=by
 unfold aG;rw[List.getD_eq_getElem?_getD,List.getElem?_eq_getElem h];rfl
theorem dY (k:List Int){i o:Nat}(hi:i<k.length)(ho:o=i*1):nth (flat aW.fl k) o=some (iv (aG k i)):=by
 rw[fK hi];exact lK aW k hi (k:=0) rfl Nat.one_pos (by rw[ho];rfl)
def TI (l:List Pt)(m:List Ed)(d:Int):Int:=(fC l (dD m d)).1*(fC l (j0 m d)).2 - (fC l (j0 m d)).1*(fC l (dD m d)).2
def qE (l:List Pt)(m:List Ed)(k:List Int):Nat->Int
 |0=>0
 |i+1=>qE l m k i+TI l m (aG k i)
theorem VG {p:Pt}(h:wide p=true) : -1000000<=p.1/\p.1<=1000000/\-1000000<=p.2/\p.2<=1000000:=by
 simp only[wide,af,ag]at h;omega
theorem UC {l:List Pt}{m:List Ed}(hM:jS l m=true){d:Int}(hd:tE m d=true) :
  -1000000000000<=(fC l (dD m d)).1*(fC l (j0 m d)).2/\(fC l (dD m d)).1*(fC l (j0 m d)).2<=1000000000000/\-1000000000000<=(fC l (j0 m d)).1*(fC l (dD m d)).2/\(fC l (j0 m d)).1*(fC l (dD m d)).2<=1000000000000:=by
 have hf:=xW hM hd;have ht:=M5 hM hd;have w1:=VG (uI hM hf.1 hf.2);have w2:=VG (uI hM ht.1 ht.2);have m1:=uH (a:=(fC l (dD m d)).1) (b:=(fC l (j0 m d)).2) (A:=1000000) (B:=1000000) aa aa aa aa;have m2:=uH (a:=(fC l (j0 m d)).1) (b:=(fC l (dD m d)).2) (A:=1000000) (B:=1000000) aa aa aa aa;omega
theorem UT {l:List Pt}{m:List Ed}{k:List Int}(hM:jS l m=true)(hk:∀ i,i<k.length->tE m (aG k i)=true):∀ i,i<=k.length->-2000000000000*(i:Int)<=qE l m k i/\qE l m k i<=2000000000000*(i:Int)
 |0,_=>by unfold qE;omega
 |i+1,hi=>by
  have h1:=UT hM hk i aa;have h2:=UC hM (hk i aa);unfold qE TI;omega
def aCt (m:List Ed)(k:List Int):Bool:=k.all (tE m)
theorem D5 {m:List Ed}{k:List Int}(h:aCt m k=true){i:Nat}(hi:i<k.length):tE m (aG k i)=true:=by
 rw[fK hi];exact List.all_eq_true.1 h _ (List.getElem_mem hi)
def aMp (l:List Pt)(m:List Ed)(n:Int)(k:List Int):List Value->Option (Bool × Value)
 |[]=>some (jS l m&&aCt m k&&decide (k.length<=10000),iv (qE l m k k.length))
 |_=>none
theorem aHg {l:List Pt}{m:List Ed}{n:Int}{k:List Int}{r:List Value}{v:Value}(h:aMp l m n k r=some (true,v)):r=[]/\jS l m=true/\aCt m k=true/\k.length<=10000/\v=iv (qE l m k k.length):=by
 unfold aMp at h;split at h
 ·injection h with h;injection h with h1 h2;simp only[af,ag]at h1;exact⟨rfl,h1.1.1,h1.1.2,h1.2,h2.symm⟩
 ·cases h
def e90 (k:List Int)(c3:Nat)(a j:Int):List (Nat × Value):=[(1,ak 2 k.length c3),(2,ao 3),(5,iv a),(6,iv j)]
def h90 (l:List Pt)(m:List Ed)(k:List Int)(c1 c2:Nat)(n:Int):Heap:=(3,dU l.length m.length c1 c2 n)::nF aX bS aW l m k
def X90:Nat × XF:=(183,mLX aX bS aW aMp)
theorem x90:c7 Tryz.prog X90.1 X90.2:=aF4 aX bS aW (aL (xl:=[X87,aK4]) (.cons x87 (.cons aPy .nil))) fun l m n k r v hs=>by
 obtain⟨rfl,hM,hkk,hk,rfl⟩:=aHg hs;refine⟨rfl,rfl,fun c1 c2 c3=>?_⟩;have hm:m.length<=1000:=(by simp only[jS,af,ag]at hM;exact hM.1.2);(conv=>whnf);refine⟨fun q e h nx=>∃(i:Nat) (j:Int),j=i/\i<=k.length/\q=k.length - i/\e=e90 k c3 (qE l m k i) j/\h=h90 l m k c1 c2 n/\nx=4,⟨k.length,?_⟩,?_⟩
 ·exact aJ (h0:=h90 l m k c1 c2 n) (n0:=4) ⟨0,0,rfl,Nat.zero_le _,rfl,rfl,rfl,rfl⟩
 rintro q e h nx ⟨i,j,hj,hi,rfl,rfl,rfl,rfl⟩;unfold e90 h90 dU nF;((conv=>whnf);apply bm<;>intro h6);rotate_left
 ·have hge:i=k.length:=(by simp[aB,aF]at h6;omega);(conv=>whnf);rw[hge]
 have hlt:i<k.length:=(by simp[aB,aF]at h6;omega);have hdj:=D5 hkk hlt;have hf:=xW hM hdj;have ht:=M5 hM hdj;have lo:=UT hM (fun i hi=>D5 hkk hi) i hi;have pl:=UC hM hdj;(conv=>whnf);refine bt ?_;(conv=>whnf);refine fD (dY k (i:=i) hlt ?_) ?_
 ·show _+Int.toNat j*1=_;omega
 (conv=>whnf);refine⟨l,m,aP aX rfl,aP bS rfl,?_⟩;((conv=>whnf);apply bm<;>intro h8);rotate_left
 ·exfalso;rw[show tE m (aG k i)=false from h8]at hdj;cases hdj
 (conv=>whnf);refine bt ?_;(conv=>whnf);refine eZ (eU l (i:=(dD m (aG k i)).toNat) aa ?_) ?_
 ·show _+Int.toNat (dD m (aG k i))*2=_;omega
 (conv=>whnf);refine bt ?_;(conv=>whnf);refine fD (dY k (i:=i) hlt ?_) ?_
 ·show _+Int.toNat j*1=_;omega
 (conv=>whnf);refine⟨l,m,aP aX rfl,aP bS rfl,?_⟩;((conv=>whnf);apply bm<;>intro h11);rotate_left
 ·exfalso;rw[show tE m (aG k i)=false from h11]at hdj;cases hdj
 (conv=>whnf);refine bt ?_;(conv=>whnf);refine eZ (eU l (i:=(j0 m (aG k i)).toNat) aa ?_) ?_
 ·show _+Int.toNat (j0 m (aG k i))*2=_;omega
 repeat' ((conv=>whnf);apply bm<;>intro rO)
 all_goals try(exfalso;simp[aB,aF,aN]at rO;simp only[fC]at *;omega)
 (conv=>whnf);refine⟨k.length - (i+1),aa,?_⟩;refine cU (e0:=e90 k c3 (qE l m k i+(fC l (dD m (aG k i))).1*(fC l (j0 m (aG k i))).2 - (fC l (j0 m (aG k i))).1*(fC l (dD m (aG k i))).2) (j+1)) (h0:=h90 l m k c1 c2 n) (n0:=4) ⟨i+1,j+1,aa,hlt,rfl,?_,rfl,rfl⟩ ?_ ?_ (by decide)
 ·congr 4;rw[show qE l m k (i+1)=qE l m k i+TI l m (aG k i)from rfl];unfold TI;omega
 ·unfold e90;exact xE
 unfold h90 dU nF;exact xH
theorem cT {α:Type}(E:El α)(o:List α)(x:α){n:Nat}(hn:n=o.length):((flat E.fl o).drop 0).take (n*E.sz)++E.fl x=flat E.fl (o++[x]):=by
 subst hn;rw[List.drop_zero,<- aO E o,List.take_length,rY];simp[flat]
theorem iP {i N s:Nat}{p:Prop}(hN:N=i*s)(hi:i+1<=1000000000)
  (h:aB.A.andB (aB.A.andB ((i+1).ble 1000000000) ((0+i*s).ble N)) (aB.A.andB ((0+i*s).beq N) (Nat.beq s s))=false):p:=by
 exfalso;have h1:(i+1).ble 1000000000=true:=Nat.ble_eq_true_of_le hi;have h2:(0+i*s).ble N=true:=Nat.ble_eq_true_of_le aa;have h3:(0+i*s).beq N=true:=(by rw[hN,Nat.zero_add];exact Nat.beq_refl _);rw[h1,h2,h3,Nat.beq_refl]at h;cases h
def evS (l:List Pt)(m:List Ed)(n:Int):List Value->YS Bool
 |[]=>some (decide (1<=m.length)&&decide (m.length<=1000),List.replicate (2*m.length) true,[])
 |_=>none
theorem aJ5 {l:List Pt}{m:List Ed}{n:Int}{r:List Value}{out:List Bool}{rest:List Value}(h:evS l m n r=some (true,out,rest)):r=[]/\1<=m.length/\m.length<=1000/\out=List.replicate (2*m.length) true/\rest=[]:=by
 unfold evS at h;split at h
 ·injection h with h;injection h with h1 h2;injection h2 with h2 h3;simp only[af,ag]at h1;exact⟨rfl,h1.1,h1.2,h2.symm,h3.symm⟩
 ·cases h
def e80 (v:Value)(j:Int):List (Nat × Value):=[(1,ao 2),(3,v),(4,iv j)]
def h80 (l:List Pt)(m:List Ed)(c1 c2:Nat)(n:Int):Heap:=(2,dU l.length m.length c1 c2 n)::aS aX bS l m
def WA (l:List Pt)(m:List Ed)(c1 c2:Nat)(n:Int)(o:List Bool):Heap:=(3,aq 1 (flat gJ.fl o))::(2,dU l.length m.length c1 c2 n)::aS aX bS l m
def aNw:Nat × XF:=(182,mYX aX bS gJ evS)
theorem aQY:c7 Tryz.prog aNw.1 aNw.2:=aEi aX bS gJ (aL (xl:=[]) .nil) fun l m n r out rest hs=>by
 obtain⟨rfl,h1m,hm,rfl,rfl⟩:=aJ5 hs;clear hs;refine⟨rfl,rfl,fun c1 c2=>?_⟩;(conv=>whnf)
 refine⟨fun q e h nx=>∃(i:Nat) (j:Int),j=i/\i<=2*m.length/\q=2*m.length - i /\
  ((i=0/\e=e80 (.slice none 0 0) j/\h=h80 l m c1 c2 n/\nx=3)\/(0<i/\e=e80 (ak 3 i i) j/\h=WA l m c1 c2 n (List.replicate i true)/\nx=4)),⟨2*m.length,?_⟩,?_⟩
 ·exact aJ (h0:=h80 l m c1 c2 n) (n0:=3) ⟨0,0,rfl,Nat.zero_le _,rfl,.inl ⟨rfl,rfl,rfl,rfl⟩⟩
 rintro q e h nx ⟨i,j,hj,hi,rfl,⟨hi0,rfl,rfl,rfl⟩|⟨hip,rfl,rfl,rfl⟩⟩
 ·subst hi0;unfold e80 h80 dU aS;(conv=>whnf);refine bt ?_;(conv=>whnf);refine bt ?_;(conv=>whnf);refine bt ?_;(conv=>whnf);refine⟨2*m.length - 1,aa,?_⟩;refine mN (e0:=e80 (ak 3 1 1) (j+1)) (h0:=WA l m c1 c2 n [true]) (n0:=4) 3 4 (by decide) (by decide) ⟨1,j+1,aa,aa,rfl,.inr ⟨Nat.one_pos,rfl,rfl,rfl⟩⟩ ?_ ?_ ?_
  ·unfold e80;exact xE
  ·unfold WA dU aS;exact xH
  unfold WA;((repeat' refine iK rfl ?_);exact iN)
 unfold e80 WA dU aS;(conv=>whnf);refine bt ?_;((conv=>whnf);apply bm<;>intro h2);rotate_left
 ·have hge:i=2*m.length:=(by simp[aB,aF]at h2;omega);subst hge;(conv=>whnf);refine⟨3,?_,rfl⟩;show _=Value.slice _ _ _;rw[List.length_replicate]
 have hlt:i<2*m.length:=(by simp[aB,aF]at h2;omega);have hll:(flat gJ.fl (List.replicate i true)).length=i:=(by rw[aO,List.length_replicate];show i*1=i;omega);((conv=>whnf);apply bm<;>intro h3)
 ·exfalso;have:=Nat.le_of_ble_eq_true h3;omega
 ((conv=>whnf);apply bm<;>intro h4)
 ·(conv=>whnf);refine bt ?_;(conv=>whnf);refine⟨2*m.length - (i+1),aa,?_⟩
  refine mN (e0:=e80 (ak 3 (i+1) (i+1)) (j+1)) (h0:=WA l m c1 c2 n (List.replicate i true++[true])) (n0:=4) 3 5 (by decide) (by decide)
   ⟨i+1,j+1,aa,aa,rfl,.inr ⟨Nat.succ_pos _,rfl,by rw[List.replicate_succ'];rfl,rfl⟩⟩ ?_ ?_ ?_
  ·unfold e80;exact xE
  ·unfold WA dU aS;((repeat'(first|refine iW rfl rfl (aK (aC gJ _) (cT gJ (List.replicate i true) true (by rw[List.length_replicate]))) ?_|refine iF rfl rfl ?_|refine iC rfl rfl rfl ?_|refine iJ rfl rfl rfl rfl ?_));exact iN)
  unfold WA;((repeat' refine iK rfl ?_);exact iN)
 exfalso;exact iP (s:=1) aa aa h4
def tA (f:Int->Int)(d:Int):Nat->Int
 |0=>f d
 |i+1=>f (tA f d i)
def o8 (f:Int->Int)(d:Int)(N i:Nat):Bool:=(!decide (tA f d i=d))&&(decide (0<=tA f d i)&&decide (i<=N))
def xJ (f:Int->Int)(d:Int)(N:Nat):Nat->Nat->Nat
 |0,i=>i
 |k+1,i=>if o8 f d N i=true then xJ f d N k (i+1)else i
def HG (f:Int->Int)(d:Int)(i:Nat):List Int:=d::(List.range i).map (tA f d)
theorem qD (f:Int->Int)(d:Int)(i:Nat):(HG f d i).length=i+1:=by simp[HG]
theorem aM9 (f:Int->Int)(d:Int)(i:Nat):HG f d (i+1)=HG f d i++[tA f d i]:=by
 unfold HG;rw[List.range_succ,List.map_append];rfl
def LP (l:List Pt)(m:List Ed)(k:List Bool)(d:Int):Int:=iX l m k d (2*m.length)
def m0 (l:List Pt)(m:List Ed)(k:List Bool)(d:Int):List Int:=HG (LP l m k) d (xJ (LP l m k) d (2*m.length) (2*m.length+2) 0)
def rnS (l:List Pt)(m:List Ed)(n:Int)(k:List Bool):List Value->YS Int
 |[.int .i64 d]=>some (jS l m&&tE m d&&decide (k.length=2*m.length),m0 l m k d,[])
 |_=>none
theorem aHy {l:List Pt}{m:List Ed}{n:Int}{k:List Bool}{r:List Value}{out:List Int}{rest:List Value}(h:rnS l m n k r=some (true,out,rest)):∃ d,r=[iv d]/\jS l m=true/\tE m d=true/\k.length=2*m.length/\out=m0 l m k d/\rest=[]:=by
 unfold rnS at h;split at h
 ·rename_i d;injection h with h;injection h with h1 h2;injection h2 with h2 h3;simp only[af,ag]at h1;exact⟨d,rfl,h1.1.1,h1.1.2,h1.2,h2.symm,h3.symm⟩
 ·cases h
def aFq (k:List Bool)(c3:Nat)(d x j:Int)(z:Nat):List (Nat × Value):=[(1,iv d),(2,ak 2 k.length c3),(3,ao 3),(7,ak 4 z z),(8,iv x),(9,iv j)]
def aCM (l:List Pt)(m:List Ed)(k:List Bool)(c1 c2:Nat)(n:Int)(o:List Int):Heap:=(4,aq 1 (flat aW.fl o))::(3,dU l.length m.length c1 c2 n)::nF aX bS gJ l m k
theorem JQ {f:Int->Int}{d:Int}{N k i:Nat}(h:o8 f d N i=false):xJ f d N k i=i:=by
 cases k with
 |zero=>rfl
 |succ k=>simp[xJ,h]
def aGe:Nat × XF:=(88,aPW aX bS gJ aW rnS)
theorem aQh:c7 Tryz.prog aGe.1 aGe.2:=aJa aX bS gJ aW (aL (xl:=[X79]) (.cons x79 .nil)) fun l m n k r out rest hs=>by
 obtain⟨d,rfl,hM,hd,hk,rfl,rfl⟩:=aHy hs;clear hs;refine⟨rfl,rfl,fun c1 c2 c3=>?_⟩;have hm:m.length<=1000:=(by simp only[jS,af,ag]at hM;exact hM.1.2);unfold m0;obtain⟨f,hf⟩:∃ f,f=LP l m k:=⟨_,rfl⟩;have hfl:∀ x,-1<=f x/\f x<2*m.length:=fun x=>(by rw[hf];have:=EF l m k x (2*m.length);unfold LP;omega);have hfx:∀ x,iX l m k x (2*m.length)=f x:=fun x=>(by rw[hf];rfl);rw[<- hf];(conv=>whnf);refine⟨_,_,_,[iv d],_,l,m,k,rfl,aP aX rfl,aP bS rfl,aP gJ rfl,?_⟩;((conv=>whnf);apply bm<;>intro h1);rotate_left
 ·exfalso;have h1:(jS l m&&tE m d&&decide (k.length=2*m.length))=false:=h1;rw[hM,hd,ai hk]at h1;cases h1
 (conv=>whnf);refine⟨fun q e h nx=>∃(i:Nat) (j:Int),j=i/\i<=2*m.length+1/\q=2*m.length+1 - i/\xJ f d (2*m.length) (2*m.length+2) 0=xJ f d (2*m.length) (2*m.length+2 - i) i/\e=aFq k c3 d (tA f d i) j (i+1)/\h=aCM l m k c1 c2 n (HG f d i)/\nx=5,⟨2*m.length+1,?_⟩,?_⟩
 ·exact aJ (e0:=aFq k c3 d (iX l m k d (2*m.length)) 0 1) (h0:=aCM l m k c1 c2 n [d]) (n0:=5) ⟨0,0,rfl,Nat.zero_le _,rfl,rfl,by rw[hfx];rfl,rfl,rfl⟩
 rintro q e h nx ⟨i,j,hj,hi,rfl,hb,rfl,rfl,rfl⟩;have hx : -1<=tA f d i/\tA f d i<2*m.length:=(by cases i <;> exact hfl _);unfold aFq aCM dU nF;have hll:(flat aW.fl (HG f d i)).length=i+1:=(by rw[aO,qD];exact Nat.mul_one _);((conv=>whnf);apply bm<;>intro h2);rotate_left
 ·have h2:tA f d i=d:=(by simpa[aB,aF]using h2);(conv=>whnf);rw[hb,JQ (show o8 f d (2*m.length) i=false from ?_)]
  ·refine⟨4,?_,rfl⟩;show _=Value.slice _ _ _;rw[qD]
  simp[o8,h2]
 have h2:tA f d i≠d:=(by simpa[aB,aF]using h2);((conv=>whnf);apply bm<;>intro h3);rotate_left
 ·have h3:¬ 0<=tA f d i:=(by simpa[aB,aF]using h3);(conv=>whnf);rw[hb,JQ (show o8 f d (2*m.length) i=false from ?_)]
  ·refine⟨4,?_,rfl⟩;show _=Value.slice _ _ _;rw[qD]
  simp[o8,h3]
 have h3:0<=tA f d i:=(by simpa[aB,aF]using h3);(conv=>whnf);refine bt ?_;((conv=>whnf);apply bm<;>intro h5);rotate_left
 ·have h5:¬ i<=2*m.length:=(by simp[aB,aF]at h5;omega);(conv=>whnf);rw[hb,JQ (show o8 f d (2*m.length) i=false from ?_)]
  ·refine⟨4,?_,rfl⟩;show _=Value.slice _ _ _;rw[qD]
  simp[o8,h5]
 have h5:i<=2*m.length:=(by simp[aB,aF]at h5;omega);have hgo:o8 f d (2*m.length) i=true:=(by simp[o8,h2,h3,h5]);((conv=>whnf);apply bm<;>intro h6)
 ·exfalso;have:=Nat.le_of_ble_eq_true h6;omega
 ((conv=>whnf);apply bm<;>intro h7);rotate_left
 ·exact iP (i:=i+1) (s:=1) aa aa h7
 (conv=>whnf);have hdx:tE m (tA f d i)=true:=(by simp only[tE,af,ag];omega);refine⟨_,_,_,[iv (tA f d i)],_,l,m,k,rfl,aP aX rfl,aP bS rfl,aP gJ rfl,?_⟩;((conv=>whnf);apply bm<;>intro h8);rotate_left
 ·exfalso;have h8:(jS l m&&tE m (tA f d i)&&decide (k.length=2*m.length))=false:=h8;rw[hM,hdx,ai hk]at h8;cases h8
 (conv=>whnf);refine bt ?_;(conv=>whnf);refine⟨2*m.length+1 - (i+1),aa,?_⟩
 refine mN (e0:=aFq k c3 d (iX l m k (tA f d i) (2*m.length)) (j+1) (i+1+1)) (h0:=aCM l m k c1 c2 n (HG f d i++[tA f d i])) (n0:=5) 4 6 (by decide) (by decide)
  ⟨i+1,j+1,aa,aa,rfl,?_,by rw[hfx];rfl,by rw[aM9];rfl,rfl⟩ ?_ ?_ ?_
 ·rw[hb,(aa:2*m.length+2 - i=(2*m.length+2 - (i+1))+1)]
  conv=>lhs;unfold xJ
  rw[if_pos hgo]
 ·unfold aFq;exact xE
 ·unfold aCM dU nF;((repeat'(first|refine iW rfl rfl (aK (aC aW _) (cT aW (HG f d i) (tA f d i) (qD f d i).symm)) ?_|refine iF rfl rfl ?_|refine iC rfl rfl rfl ?_|refine iJ rfl rfl rfl rfl ?_));exact iN)
 unfold aCM;((repeat' refine iK rfl ?_);exact iN)
end Go.Aw
end
