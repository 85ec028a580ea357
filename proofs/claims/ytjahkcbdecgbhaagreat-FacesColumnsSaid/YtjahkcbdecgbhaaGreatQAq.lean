/-
  Parts of a proof. No condition.
-/
import Derived.Test.YtjahkcbdecgbhaaGreatQAp
set_option linter.unusedSimpArgs false
set_option linter.unusedVariables false
noncomputable section
namespace Go.Aw
open Go.RowKit
theorem tK {args0:List Value}{h0:Heap}{n0:Nat}{args:List Value}{h:Heap}{nx:Nat}(ρ:Nat→Nat)(ha:args=args0.map (gP ρ))(hn:∀ v∈args0,xD n0 v)
  (ho:∀ k o,look h0 k=some o→k<n0∧∃ g sz cs0,o=.cells false g sz cs0∧sz≠0∧(g=true→dF cs0=true)∧(∀ v∈cs0,CR n0 v)∧∃ wr g' sz' cs,look h (ρ k)=some (.cells wr g' sz' cs)∧cs.take cs0.length=cs0.map (bS ρ)) :
  In args0 h0 n0 args h nx:=by
 intro ι B w H hs;subst ha;have hsc:∀ v∈args0,eT ι nx (gP ρ v):=fun v hv=>hs _ (List.mem_map.2 ⟨v,hv,rfl⟩);refine⟨fun k=>ι (ρ k),?_,fun v hv=>DF (hsc v hv) (hn v hv),⟨fun k o hk=>?_,fun k k' o o' hk hk' hne ha b hb=>?_,fun k o hk=>(ho k o hk).1,Nat.le_refl _,fun k o hk=>?_⟩⟩
 ·rw [List.map_map];exact List.map_congr_left fun v hv=>FR (hsc v hv)
 ·obtain⟨_,g,sz,cs0,rfl,hz,hg,hm,wr,g',sz',cs,hl,hc⟩:=ho k o hk;have hob:=H.obj _ _ hl;have hso:=H.sc _ _ hl;cases hι:ι (ρ k) with
  |nil p =>
   rw [hι] at hob;have h0:cs=[]:=(by cases wr <;> exact hob.1);subst h0;have:cs0=[]:=by
    cases cs0 with
    |nil=>rfl
    |cons a r=>simp at hc
   subst this;exact⟨rfl,fun h=>h.elim (fun h=>absurd h hz) (fun h=>by cases h)⟩
  |lay b off e =>
   have hlt:b<w.heap.size:=hob.lt (by rw [hι];rfl);refine⟨hlt,hg,fun i v hv=>?_⟩;have h1:(cs.take cs0.length)[i]? = some (bS ρ v):=(by rw [hc,List.getElem?_map,hv];rfl);have hi:i<cs0.length:=(List.getElem?_eq_some_iff.1 hv).1;rw [List.getElem?_take,if_pos hi] at h1;obtain⟨b2,off2,e2,hι2,hcell⟩:=H.cell hl h1;rw [hι] at hι2;injection hι2 with i1 i2 i3;subst i1;subst i2;rw [hcell];congr 1;exact iU (hso _ (List.mem_of_getElem? h1))
 ·obtain⟨_,g,sz,cs0,rfl,_⟩:=ho k o hk;cases ha
 ·obtain⟨_,g,sz,cs0,rfl,hz,hg,hm,wr,g',sz',cs,hl,hc⟩:=ho k o hk;intro v hv;have hso:=H.sc _ _ hl;have hmem:bS ρ v∈cs:=by
   have:bS ρ v∈cs.take cs0.length:=(by rw [hc];exact List.mem_map.2 ⟨v,hv,rfl⟩);exact List.mem_of_mem_take this
  exact oE (hso _ hmem) (hm v hv)
structure n8 where
 f:Nat
 args:List Value
 h0:Heap
 n0:Nat
 v1:Value
 h1:Heap
 m:Nat
def LQ:List Value→List Value→Bool
 |[],[]=>true
 |a::r,b::s=>NO a b&&LQ r s
 |_,_=>false
theorem II:∀ {l m:List Value},LQ l m=true→l=m
 |[],[],_=>rfl
 |[],_::_,h=>by cases h
 |_::_,[],h=>by cases h
 |a::r,b::s,h=>by
  simp only [LQ,Bool.and_eq_true] at h;rw [EV h.1,II h.2]
def aDy (n:Nat):List Value→Bool
 |[]=>true
 |v::r=>aA9 n v&&aDy n r
theorem TS {n:Nat}:∀ {l:List Value},aDy n l=true→∀ v∈l,xD n v
 |[],_,v,hv=>by cases hv
 |x::r,h,v,hv=>by
  simp only [aDy,Bool.and_eq_true] at h;cases hv with
  |head=>exact mN h.1
  |tail _ hm=>exact TS h.2 v hm
def aIL (b:Nat):List Value→List Value→List (Nat × Nat)→List (Nat × Nat)
 |v::l,u::m,r=>prT b v u (aIL b l m r)
 |_,_,r=>r
def TV (ρ:List (Nat × Nat))(n0:Nat)(h:Heap):Heap→Bool
 |[]=>true
 |(k,.cells false g sz cs0)::r=>Nat.blt k n0&&!(Nat.beq sz 0)&&(match g with|true=>dF cs0|false=>true)&&SC n0 cs0&&(match look h (nm ρ k) with
  |some (.cells _ _ _ cs)=>I3 (cs.take cs0.length) (cs0.map (bS (nm ρ)))
  |_=>false)&&TV ρ n0 h r
 |_=>false
theorem NK {ρ:List (Nat × Nat)}{n0:Nat}{h:Heap}:∀ {h0:Heap},TV ρ n0 h h0=true→∀ k o,look h0 k=some o→k<n0∧∃ g sz cs0,o=.cells false g sz cs0∧sz≠0∧(g=true→dF cs0=true)∧(∀ v∈cs0,CR n0 v)∧∃ wr g' sz' cs,look h (nm ρ k)=some (.cells wr g' sz' cs)∧cs.take cs0.length=cs0.map (bS (nm ρ))
 |[],_,k,o,hk=>by cases hk
 |(j,q)::r,hb,k,o,hk=>by
  unfold TV at hb;split at hb
  ·rename_i he;cases he
  ·rename_i k' g sz cs0 r' he;injection he with e1 e2;injection e1 with e3 e4;subst e3;subst e4;subst e2;simp only [Bool.and_eq_true,Bool.not_eq_true'] at hb;obtain⟨⟨⟨⟨⟨h1,h2⟩,h3⟩,h4⟩,h5⟩,h6⟩:=hb;rw [aD] at hk;split at hk
   ·rename_i hbq;have:=beq_true hbq;subst this;injection hk with hk;subst hk;refine⟨Nat.le_of_ble_eq_true h1,g,sz,cs0,rfl,beq_false h2,fun hg=>by subst hg;exact h3,gR h4,?_⟩;split at h5
    ·rename_i wr g' sz' cs hl;exact⟨wr,g',sz',cs,hl,y9 h5⟩
    ·cases h5
   ·exact NK h6 k o hk
  ·cases hb
def n8.rho (E:n8)(args:List Value)(h:Heap):List (Nat × Nat):=grow 0 E.h0 h 10000 (aIL 0 E.args args []) []
def Q9 (E:n8)(args:List Value)(h:Heap):Bool:=LQ args (E.args.map (gP (nm (E.rho args h))))&&aDy E.n0 E.args&&TV (E.rho args h) E.n0 h E.h0
theorem XD {E:n8}{args:List Value}{h:Heap}{nx:Nat}(hf:Q9 E args h=true):In E.args E.h0 E.n0 args h nx:=by
 simp only [Q9,Bool.and_eq_true] at hf;exact tK _ (II hf.1.1) (TS hf.1.2) (NK hf.2)
def PY (E:n8):tI:=fun v h' _=>aE5 0 (YU 0 [(0,E.v1)] [(0,v)] E.h1 h') [(0,E.v1)] E.h1 E.m [(0,v)] h'&&gM E.h1
def XR (L:List n8)(f:Nat):Sp:=fun args0 h0 n0 v1 h1 m=>∃ E∈L,E.f=f∧args0=E.args∧h0=E.h0∧n0=E.n0∧v1=E.v1∧h1=E.h1∧m=E.m
def aDo (f:Nat):List n8→Bool
 |[]=>false
 |E::r=>match Nat.beq E.f f with|true=>true|false=>aDo f r
def ZD (f:Nat):List n8→List Value→Heap→Nat→tI→Bool
 |[],_,_,_,_=>false
 |E::r,args,h,nx,K=>match Nat.beq E.f f with
  |true=>(match Q9 E args h with
   |true=>K (gP (fun k=>nx+k) E.v1) (app (mU nx E.h1) (o5 E.h1 h)) (nx+E.m)
   |false=>ZD f r args h nx K)
  |false=>ZD f r args h nx K
theorem KW {f:Nat}(L0:List n8){args:List Value}{h:Heap}{nx:Nat}{K:tI}{K':KE}(hK:∀ v h nx,K v h nx=true→K' v h nx):∀ (L:List n8),(∀ E∈L,E∈L0)→ZD f L args h nx K=true→xOf (XR L0 f) args h nx K'
 |[],_,hl=>by cases hl
 |E::r,hsub,hl=>by
  simp only [ZD] at hl;split at hl
  ·rename_i hb;split at hl
   ·rename_i hf;exact⟨E.args,E.h0,E.n0,E.v1,E.h1,E.m,⟨E,hsub E (.head _),beq_true hb,rfl,rfl,rfl,rfl,rfl,rfl⟩,XD hf,hK _ _ _ hl⟩
   ·exact KW L0 hK r (fun E hE=>hsub E (.tail _ hE)) hl
  ·exact KW L0 hK r (fun E hE=>hsub E (.tail _ hE)) hl
abbrev GS:=List Value→Option (Bool × Value)
def gXB (s:GS):List Value→Heap→Nat→tI→Bool:=fun args h nx K=>match s args with
 |some p=>eG p.1 (K p.2 h nx)
 |none=>false
def DO (L:List n8)(S:List (Nat × GS))(f:Nat):Option (List Value→Heap→Nat→KE→Prop):=match aDo f L with
 |true=>some (xOf (XR L f))
 |false=>(match look S f with|some s=>some (gX s)|none=>none)
def E0 (L:List n8)(S:List (Nat × GS))(f:Nat):Option (List Value→Heap→Nat→tI→Bool):=match aDo f L with
 |true=>some (ZD f L)
 |false=>(match look S f with|some s=>some (gXB s)|none=>none)
theorem E1 {c:CM}{L:List n8}{S:List (Nat × GS)}(hc:c.X=DO L S):TwX c (E0 L S):=by
 intro f x xb hx hxb args h nx K K' hK hl;rw [hc] at hx;unfold DO at hx;unfold E0 at hxb;split at hx
 ·rename_i hh;rw [hh] at hxb;injection hx with hx;injection hxb with hxb;subst hx;subst hxb;exact KW L hK L (fun _ h=>h) hl
 ·rename_i hh;rw [hh] at hxb;simp only at hxb;split at hx
  ·rename_i s hs;rw [hs] at hxb;injection hx with hx;injection hxb with hxb;subst hx;subst hxb;unfold gXB at hl;unfold gX;split at hl
   ·rename_i p hp;rw [hp];exact bF (hK _ _ _) hl
   ·cases hl
  ·cases hx
def cM (c:CM)(XB:Nat→Option (List Value→Heap→Nat→tI→Bool))(d:Nat)(E:n8):Prop:=A9 c XB d false E.f E.args E.h0 E.n0 (PY E)=true
def vL (P:Program)(L:List n8):Prop:=∀ f,cO P f (xOf (XR L f))
theorem vL.app {P:Program}{L L':List n8}(h:vL P L)(h':vL P L'):vL P (L++L'):=by
 intro f;have key:∀ args h nx K,xOf (XR (L++L') f) args h nx K→xOf (XR L f) args h nx K∨xOf (XR L' f) args h nx K:=by
  rintro args h nx K ⟨a,b,c,d,e,g,⟨E,hE,he⟩,q⟩;rcases List.mem_append.1 hE with hE|hE
  ·exact .inl ⟨a,b,c,d,e,g,⟨E,hE,he⟩,q⟩
  ·exact .inr ⟨a,b,c,d,e,g,⟨E,hE,he⟩,q⟩
 refine⟨fun args hp nx K hx=>?_,fun args hp nx K hx=>?_⟩
 ·rcases key _ _ _ _ hx with hx|hx
  ·exact (h f).1 args hp nx K hx
  ·exact (h' f).1 args hp nx K hx
 ·obtain⟨a,b,c,d,e,g,q1,q2,q3⟩:=hx;exact⟨_,_,_,q3,fun K' hk=>⟨a,b,c,d,e,g,q1,q2,hk⟩⟩
theorem DM {P:Program}{c:CM}(hc:pU P c){XB:Nat→Option (List Value→Heap→Nat→tI→Bool)}(hX:TwX c XB){d:Nat}{L:List n8}(hL:∀ E∈L,cM c XB d E):vL P L:=by
 intro f;refine gC (nW hc d).1 fun args0 h0 n0 v1 h1 m hs=>?_;obtain⟨E,hE,rfl,rfl,rfl,rfl,rfl,rfl,rfl⟩:=hs;have t1:=hL E hE;have hv:=pZ hX d false E.f E.args E.h0 E.n0 (PY E) (fun v h nx=>gM E.h1=true∧JR E.v1 E.h1 E.m v h nx) (fun v h nx ho=>by
  simp only [PY,Bool.and_eq_true] at ho;exact⟨ho.2,_,TO ho.1⟩) t1
 obtain⟨v,h',nx',k1,k2⟩:=(nW hc d).2.2.1 _ _ _ _ _ hv;exact⟨k1.1,_,k2 _ k1.2,fun _ _ _ q=>q⟩
theorem DB {P:Program}{L:List n8}(h:vL P L){S:List (Nat × GS)}(hS:∀ f s,look S f=some s→cO P f (gX s)):∀ f x,DO L S f=some x→cO P f x:=by
 intro f x hfx;unfold DO at hfx;split at hfx
 ·injection hfx with hfx;subst hfx;exact h f
 ·split at hfx
  ·rename_i s hs;injection hfx with hfx;subst hfx;exact hS f s hs
  ·cases hfx
theorem aAE {a0 b0 a b:Value}{n:Int}{r:List Value}(hr:eH r=true){h0 h:Heap}{n0 nx:Nat}(i:In [a0,b0] h0 n0 [a,b] h nx)(ha:∃ x y z,a0=.slice x y z)(hb:∃ x y z,b0=.slice x y z) :
  In (.agg #[a0,b0,.int .i64 n]::r) h0 n0 (.agg #[a,b,.int .i64 n]::r) h nx:=by
 intro ι B w H hs;have hag:kL ι nx (.agg #[a,b,.int .i64 n]):=hs _ (.head _);have sa:gY ι nx a:=hag a (by simp);have sb:gY ι nx b:=hag b (by simp);obtain⟨ι0,e1,e2,e3⟩:=i ι B w H (fun v hv=>by
  simp only [List.mem_cons,List.not_mem_nil,or_false] at hv;rcases hv with rfl|rfl
  ·exact lP (gG sa)
  ·exact lP (gG sb))
 simp only [List.map_cons,List.map_nil,List.cons.injEq,and_true] at e1;obtain⟨x,y,z,rfl⟩:=ha;obtain⟨x',y',z',rfl⟩:=hb;have t1:tr ι a=bT ι a:=(by rw [uC (gG sa),x9 sa]);have t2:tr ι b=bT ι b:=(by rw [uC (gG sb),x9 sb]);refine⟨ι0,?_,?_,e3⟩
 ·rw [List.map_cons,List.map_cons];congr 1
  ·show Value.agg (Array.map (bT ι) #[a,b,.int .i64 n])=Value.agg (Array.map (bT ι0) #[_,_,.int .i64 n]);simp only [List.map_toArray,List.map_cons,List.map_nil];rw [← t1,← t2,e1.1,e1.2];rfl
  ·exact List.map_congr_left fun v hv=>by rw [iA (bU hr hv),iA (bU hr hv)]
 ·intro v hv;cases hv with
  |head =>
   intro u hu;simp only [List.mem_cons,List.not_mem_nil,or_false] at hu;rcases hu with rfl|rfl|rfl
   ·exact e2 _ (.head _)
   ·exact e2 _ (.tail _ (.head _))
   ·exact cG rfl
  |tail _ hm=>exact dE (bU hr hm)
section
variable {α β:Type}(E:El α)(G:El β)
def aE (n m:Nat)(c1 c2:Nat)(k:Int):Value:=.agg #[.slice (some ⟨0,0,none⟩) n c1,.slice (some ⟨1,0,none⟩) m c2,.int .i64 k]
def aB (l:List α)(m:List β):Heap:=[(0,.cells false true E.sz (flat E.fl l)),(1,.cells false true G.sz (flat G.fl m))]
def mX (s:List α→List β→Int→List Value→Option (Bool × Value)):XF:=fun args h nx K=>match args with
 |.agg ⟨[p,q,.int .i64 n]⟩::r=>∃ l m,gZ E h p l∧gZ G h q m∧(match s l m n r with|some pr=>dK pr.1 (K pr.2 h nx)|none=>False)
 |_=>False
theorem K6 {p q:Value}{n:Int}{r:List Value}(hr:eH r=true){h:Heap}{nx:Nat}{l:List α}{m:List β}(hl:gZ E h p l)(hm:gZ G h q m) :
  ∃ c1 c2,In (aE l.length m.length c1 c2 n::r) (aB E G l m) 2 (.agg #[p,q,.int .i64 n]::r) h nx:=by
 obtain⟨c1,i1⟩:=MK (nx:=nx) E hl;obtain⟨c2,i2⟩:=MK (nx:=nx) G hm;exact⟨c1,c2,aAE hr (P0 rfl rfl i1 i2 ⟨_,_,rfl,aF E l⟩ ⟨_,_,rfl,aF G m⟩) ⟨_,_,_,rfl⟩ ⟨_,_,_,rfl⟩⟩
theorem sY {P:Program}{C:VC}{f:Nat}{s:List α→List β→Int→List Value→Option (Bool × Value)}(hC:bG P C)
  (hs:∀ l m n r v,s l m n r=some (true,v)→eH r=true∧gT v=true∧∀ c1 c2,C f (aE l.length m.length c1 c2 n::r) (aB E G l m) 2 (fun u _ _=>u=v)):cO P f (mX E G s):=by
 refine (gC (S:=fun args0 h0 n0 v1 h1 k=>∃ l m n r c1 c2,s l m n r=some (true,v1)∧args0=aE l.length m.length c1 c2 n::r∧h0=aB E G l m∧n0=2∧h1=[]∧k=0) hC ?_).mono ?_ ?_
 ·rintro args0 h0 n0 v1 h1 k ⟨l,m,n,r,c1,c2,e1,rfl,rfl,rfl,rfl,rfl⟩;obtain⟨a1,a2,a3⟩:=hs l m n r v1 e1;exact⟨rfl,_,a3 c1 c2,fun v h nx e=>by rw [e];exact kH a2⟩
 ·intro args h nx K hx;unfold mX at hx;split at hx
  case h_2=>exact hx.elim
  rename_i p q n r;obtain⟨l,m,hl,hm,hx⟩:=hx;split at hx
  case h_2=>exact hx.elim
  rename_i pr e1;obtain⟨bb,u⟩:=pr;obtain⟨rfl,hx⟩:=aG.1 hx;obtain⟨a1,a2,a3⟩:=hs l m n r u e1;obtain⟨c1,c2,i⟩:=K6 (n:=n) (nx:=nx) E G a1 hl hm;refine⟨_,_,2,u,[],0,⟨l,m,n,r,c1,c2,e1,rfl,rfl,rfl,rfl,rfl⟩,i,?_⟩;simp only [o5,sL,mU,lD,m0 a2,Nat.add_zero];exact hx
 ·intro args h nx K hx;unfold mX at hx;split at hx
  case h_2=>exact hx.elim
  rename_i p q n r;obtain⟨l,m,hl,hm,hx⟩:=hx;split at hx
  case h_2=>exact hx.elim
  rename_i pr e1;obtain⟨hb,hx⟩:=aG.1 hx;exact⟨pr.2,h,nx,hx,fun K' hk=>⟨l,m,hl,hm,by rw [e1];exact aJ hb hk⟩⟩
end
theorem aBI {n sz:Nat}{wr g:Bool}{cs:List Value}(h:∀ v∈cs,bS id v=v∧CR n v):bX id n (.cells wr g sz cs) (.cells wr g sz cs) :=
 ⟨rfl,rfl,rfl,(by conv=>lhs;rw [← List.map_id cs]
                  exact List.map_congr_left fun v hv=>(h v hv).1.symm),fun v hv=>(h v hv).2⟩
theorem aFJ {a0:List Value}{h0:Heap}{n0:Nat}{a:List Value}{h:Heap}{nx:Nat}(i:In a0 h0 n0 a h nx){b:Value}{n2 c2 sz:Nat}{cs:List Value}(hg:dF cs=true)
  (i2:In [.slice (some ⟨0,0,none⟩) n2 c2] [(0,.cells false true sz cs)] 1 [b] h nx) (hlow:∀ k o,look h0 k=some o→o.alone=false) :
  In (a0++[.slice (some ⟨n0,0,none⟩) n2 c2]) (app h0 [(n0,.cells false true sz cs)]) (n0+1) (a++[b]) h nx:=by
 intro ι B w H hs;obtain⟨ι1,e1,k1,R1⟩:=i ι B w H (fun v hv=>hs v (List.mem_append_left _ hv));obtain⟨ι2,e2,k2,R2⟩:=i2 ι B w H (fun v hv=>hs v (List.mem_append_right _ hv));simp only [List.map_cons,List.map_nil,List.cons.injEq,and_true] at e2;have q2:=R2.obj 0 _ rfl;have kk2:=k2 _ (.head _);let ι0:Nat→Loc:=fun k=>if k<n0 then ι1 k else ι2 0
 have hlt:∀ k,k<n0→ι0 k=ι1 k:=fun k hk=>if_pos hk;have hat:ι0 n0=ι2 0:=if_neg (Nat.lt_irrefl _);have hcase:∀ k o,look (app h0 [(n0,.cells false true sz cs)]) k=some o→(look h0 k=some o∧k<n0)∨(k=n0∧o=.cells false true sz cs):=by
  intro k o hk;rw [gF] at hk;split at hk
  ·rename_i o' ho;injection hk with hk;subst hk;exact .inl ⟨ho,R1.low k _ ho⟩
  ·rw [aD] at hk;split at hk
   ·rename_i hb;injection hk with hk;exact .inr ⟨(beq_true hb).symm,hk.symm⟩
   ·exact bP hk
 refine⟨ι0,?_,?_,⟨?_,?_,?_,Nat.le_refl _,?_⟩⟩
 ·rw [List.map_append,List.map_append,e1];congr 1
  ·refine List.map_congr_left fun v hv=>?_;exact (A4 (ι:=ι1) (ι':=ι0) (n:=n0) hlt (k1 v hv)).symm
  ·simp only [List.map_cons,List.map_nil,e2];simp only [tr,dT,bT,dU,hat]
 ·intro v hv;rcases List.mem_append.1 hv with hv|hv
  ·exact nM (Nat.le_succ _) hlt (k1 v hv)
  ·simp only [List.mem_cons,List.not_mem_nil,or_false] at hv;subst hv;exact⟨Nat.lt_succ_self _,fun h=>kk2.2 (by rw [← h];show _=(ι0 n0).gQ;rw [hat])⟩
 ·intro k o hk;rcases hcase k o hk with ⟨h1,h2⟩|⟨rfl,rfl⟩
  ·rw [hlt k h2];exact (R1.obj k o h1).names (R1.sc k o h1) hlt
  ·rw [hat];cases hl:ι2 0 with
   |nil p=>rw [hl] at q2;exact q2
   |lay b o e =>
    rw [hl] at q2;obtain⟨x1,x2,x3⟩:=q2;refine⟨x1,x2,fun i v hv=>?_⟩;rw [x3 i v hv,lT (a9 hg (List.mem_of_getElem? hv)),lT (a9 hg (List.mem_of_getElem? hv))]
 ·intro k k' o o' hk hk' hne hal b hb;rcases hcase k o hk with ⟨h1,h2⟩|⟨rfl,rfl⟩
  ·rw [hlow k o h1] at hal;cases hal
  ·cases hal
 ·intro k o hk;rcases hcase k o hk with ⟨h1,h2⟩|⟨rfl,rfl⟩ <;> omega
 ·intro k o hk;rcases hcase k o hk with ⟨h1,h2⟩|⟨rfl,rfl⟩
  ·exact (R1.sc k o h1).mono (Nat.le_succ _) hlt
  ·exact fun v hv=>cG (a9 hg hv)
section
variable {α β γ δ:Type}(E:El α)(G:El β)(J:El γ)(D:El δ)
def mapA (p q:Value)(n:Int):Value:=.agg #[p,q,.int .i64 n]
def jL (l:List α)(m:List β)(k:List γ):Heap:=[(0,.cells false true E.sz (flat E.fl l)),(1,.cells false true G.sz (flat G.fl m)),(2,.cells false true J.sz (flat J.fl k))]
theorem VT {p q o:Value}{n:Int}{r:List Value}(hr:eH r=true){h:Heap}{nx:Nat}{l:List α}{m:List β}{k:List γ}(hl:gZ E h p l)(hm:gZ G h q m)(hk:gZ J h o k) :
  ∃ c1 c2 c3,In (aE l.length m.length c1 c2 n::(r++[.slice (some ⟨2,0,none⟩) k.length c3])) (jL E G J l m k) 3 (mapA p q n::(r++[o])) h nx:=by
 obtain⟨c1,c2,i⟩:=K6 (n:=n) (nx:=nx) E G hr hl hm;obtain⟨c3,i3⟩:=MK (nx:=nx) J hk;refine⟨c1,c2,c3,aFJ i (aF J k) i3 fun j ob hj=>?_⟩;unfold aB at hj;rw [aD] at hj;split at hj
 ·injection hj with hj;subst hj;rfl
 ·rw [aD] at hj;split at hj
  ·injection hj with hj;subst hj;rfl
  ·exact bP hj
def mLX (s:List α→List β→Int→List γ→List Value→Option (Bool × Value)):XF:=fun args h nx K =>
 ∃ p q n r o l m k,args=mapA p q n::(r++[o])∧gZ E h p l∧gZ G h q m∧gZ J h o k∧(match s l m n k r with|some pr=>dK pr.1 (K pr.2 h nx)|none=>False)
theorem aBA {P:Program}{C:VC}{f:Nat}{s:List α→List β→Int→List γ→List Value→Option (Bool × Value)}(hC:bG P C)
  (hs:∀ l m n k r v,s l m n k r=some (true,v)→eH r=true∧gT v=true∧∀ c1 c2 c3,C f (aE l.length m.length c1 c2 n::(r++[.slice (some ⟨2,0,none⟩) k.length c3])) (jL E G J l m k) 3 (fun u _ _=>u=v)):cO P f (mLX E G J s):=by
 refine (gC (S:=fun args0 h0 n0 v1 h1 j=>∃ l m n k r c1 c2 c3,s l m n k r=some (true,v1)∧args0=aE l.length m.length c1 c2 n::(r++[.slice (some ⟨2,0,none⟩) k.length c3])∧h0=jL E G J l m k∧n0=3∧h1=[]∧j=0) hC ?_).mono ?_ ?_
 ·rintro args0 h0 n0 v1 h1 j ⟨l,m,n,k,r,c1,c2,c3,e1,rfl,rfl,rfl,rfl,rfl⟩;obtain⟨a1,a2,a3⟩:=hs l m n k r v1 e1;exact⟨rfl,_,a3 c1 c2 c3,fun v h nx e=>by rw [e];exact kH a2⟩
 ·rintro args h nx K ⟨p,q,n,r,o,l,m,k,rfl,hl,hm,hk,hx⟩;split at hx
  case h_2=>exact hx.elim
  rename_i pr e1;obtain⟨bb,u⟩:=pr;obtain⟨rfl,hx⟩:=aG.1 hx;obtain⟨a1,a2,a3⟩:=hs l m n k r u e1;obtain⟨c1,c2,c3,i⟩:=VT (n:=n) (nx:=nx) E G J a1 hl hm hk;refine⟨_,_,3,u,[],0,⟨l,m,n,k,r,c1,c2,c3,e1,rfl,rfl,rfl,rfl,rfl⟩,i,?_⟩;simp only [o5,sL,mU,lD,m0 a2,Nat.add_zero];exact hx
 ·rintro args h nx K ⟨p,q,n,r,o,l,m,k,rfl,hl,hm,hk,hx⟩;split at hx
  case h_2=>exact hx.elim
  rename_i pr e1;obtain⟨hb,hx⟩:=aG.1 hx;exact⟨pr.2,h,nx,hx,fun K' hk'=>⟨p,q,n,r,o,l,m,k,rfl,hl,hm,hk,by rw [e1];exact aJ hb hk'⟩⟩
def wrW:List Value→Value→Value
 |[],v=>v
 |a::r,v=>.agg (v::a::r).toArray
theorem VH {ρ:Nat→Nat}{rest:List Value}(hr:dF rest=true){k n c:Nat}:gP ρ (wrW rest (.slice (some ⟨k,0,none⟩) n c))=wrW rest (.slice (some ⟨ρ k,0,none⟩) n c):=by
 cases rest with
 |nil=>simp [wrW,gP,tr,dT,bT,dU,j8]
 |cons a r =>
  show Value.agg (Array.map (bT (j8 ρ)) (_::a::r).toArray)=Value.agg (_::a::r).toArray;rw [List.map_toArray,List.map_cons];congr 2;rw [List.cons.injEq];refine⟨by simp [bT,dU,j8],?_⟩
  conv=>rhs;rw [← List.map_id (a::r)]
  exact List.map_congr_left fun v hv=>lT (a9 hr hv)
theorem aFL {rest:List Value}(hr:dF rest=true){n c:Nat}:xD 1 (wrW rest (.slice (some ⟨0,0,none⟩) n c)):=by
 cases rest with
 |nil=>exact⟨Nat.one_pos,fun h=>by cases h⟩
 |cons a r =>
  intro v hv;rcases List.mem_cons.1 hv with rfl|hv
  ·exact⟨Nat.one_pos,fun h=>by cases h⟩
  ·exact cG (a9 hr hv)
def ylH (out:List δ):Heap:=[(0,.cells true false D.sz (flat D.fl out))]
def WT (out:List δ)(rest:List Value)(k:Nat):Value:=wrW rest (.slice (some ⟨k,0,none⟩) out.length out.length)
def YW (out:List δ)(rest:List Value):KE:=fun v h _=>∃ q,v=WT out rest q∧look h q=some (.cells true false D.sz (flat D.fl out))
theorem QH {out:List δ}{rest:List Value}(hr:dF rest=true){v:Value}{h:Heap}{nx:Nat}(hy:YW D out rest v h nx):JR (WT out rest 0) (ylH D out) 1 v h nx:=by
 obtain⟨q,rfl,hq⟩:=hy;refine⟨fun _=>q,fun t v hv=>?_,fun k o hk=>?_,fun k k' o o' hk hk' _=>?_,fun k hk=>absurd hk (Nat.not_lt_zero _),Nat.zero_le _⟩
 ·rw [aD] at hv;split at hv
  ·rename_i hb;injection hv with hv;subst hv;refine⟨?_,aFL hr⟩;rw [aD,hb];show _=some (gP (fun _=>q) (wrW rest (.slice (some ⟨0,0,none⟩) out.length out.length)));rw [VH hr];rfl
  ·exact bP hv
 ·unfold ylH at hk;rw [aD] at hk;split at hk
  ·rename_i hb;injection hk with hk;subst hk;rw [← beq_true hb];exact⟨Nat.one_pos,_,hq,rfl,rfl,rfl,(bL (aF D out)).symm,fun v hv=>cG (a9 (aF D out) hv)⟩
  ·exact bP hk
 ·unfold ylH at hk hk';rw [aD] at hk hk';split at hk
  ·rename_i h1;split at hk'
   ·rename_i h2;exact (beq_true h1).symm.trans (beq_true h2)
   ·exact bP hk'
  ·exact bP hk
theorem aAJ {out:List δ}{rest:List Value}(hr:dF rest=true){h:Heap}{nx:Nat}{K:KE}(hk:K (WT out rest nx) (bO h nx (.cells true false D.sz (flat D.fl out))) (nx+1)) :
  K (gP (fun k=>nx+k) (WT out rest 0)) (app (mU nx (ylH D out)) (o5 (ylH D out) h)) (nx+1):=by
 have hm:(flat D.fl out).map (bS (fun k=>nx+k))=flat D.fl out:=bL (aF D _);have e1:gP (fun k=>nx+k) (WT out rest 0)=WT out rest nx:=VH hr;have e2:app (mU nx (ylH D out)) (o5 (ylH D out) h)=bO h nx (.cells true false D.sz (flat D.fl out)):=by
  show (nx+0,aV.cells true false D.sz ((flat D.fl out).map (bS (fun k=>nx+k))))::h=_;rw [hm];rfl
 rw [e1,e2];exact hk
abbrev YS (δ:Type):=Option (Bool × List δ × List Value)
def mYX (s:List α→List β→Int→List Value→YS δ):XF:=fun args h nx K=>∃ p q n r l m,args=mapA p q n::r∧gZ E h p l∧gZ G h q m ∧
 (match s l m n r with|some pr=>dK pr.1 (K (WT pr.2.1 pr.2.2 nx) (bO h nx (.cells true false D.sz (flat D.fl pr.2.1))) (nx+1))|none=>False)
theorem aAj {P:Program}{C:VC}{f:Nat}{s:List α→List β→Int→List Value→YS δ}(hC:bG P C)
  (hs:∀ l m n r out rest,s l m n r=some (true,out,rest)→eH r=true∧dF rest=true∧∀ c1 c2,C f (aE l.length m.length c1 c2 n::r) (aB E G l m) 2 (YW D out rest)):cO P f (mYX E G D s):=by
 refine (gC (S:=fun args0 h0 n0 v1 h1 j=>∃ l m n r c1 c2 out rest,s l m n r=some (true,out,rest)∧args0=aE l.length m.length c1 c2 n::r∧h0=aB E G l m∧n0=2∧v1=WT out rest 0∧h1=ylH D out∧j=1) hC ?_).mono ?_ ?_
 ·rintro args0 h0 n0 v1 h1 j ⟨l,m,n,r,c1,c2,out,rest,e1,rfl,rfl,rfl,rfl,rfl,rfl⟩;obtain⟨a1,a2,a3⟩:=hs l m n r out rest e1;exact⟨rfl,_,a3 c1 c2,fun v h nx e=>QH D a2 e⟩
 ·rintro args h nx K ⟨p,q,n,r,l,m,rfl,hl,hm,hx⟩;split at hx
  case h_2=>exact hx.elim
  rename_i pr e1;obtain⟨bb,out,rest⟩:=pr;obtain⟨rfl,hx⟩:=aG.1 hx;obtain⟨a1,a2,a3⟩:=hs l m n r out rest e1;obtain⟨c1,c2,i⟩:=K6 (n:=n) (nx:=nx) E G a1 hl hm;exact⟨_,_,2,_,_,1,⟨l,m,n,r,c1,c2,out,rest,e1,rfl,rfl,rfl,rfl,rfl,rfl⟩,i,aAJ D a2 hx⟩
 ·rintro args h nx K ⟨p,q,n,r,l,m,rfl,hl,hm,hx⟩;split at hx
  case h_2=>exact hx.elim
  rename_i pr e1;obtain⟨hb,hx⟩:=aG.1 hx;exact⟨_,_,_,hx,fun K' hk'=>⟨p,q,n,r,l,m,rfl,hl,hm,by rw [e1];exact aJ hb hk'⟩⟩
def aIv (s:List α→List β→Int→List γ→List Value→YS δ):XF:=fun args h nx K=>∃ p q n r o l m k,args=mapA p q n::(r++[o])∧gZ E h p l∧gZ G h q m∧gZ J h o k ∧
 (match s l m n k r with|some pr=>dK pr.1 (K (WT pr.2.1 pr.2.2 nx) (bO h nx (.cells true false D.sz (flat D.fl pr.2.1))) (nx+1))|none=>False)
theorem aDi {P:Program}{C:VC}{f:Nat}{s:List α→List β→Int→List γ→List Value→YS δ}(hC:bG P C)
  (hs:∀ l m n k r out rest,s l m n k r=some (true,out,rest)→eH r=true∧dF rest=true∧∀ c1 c2 c3,C f (aE l.length m.length c1 c2 n::(r++[.slice (some ⟨2,0,none⟩) k.length c3])) (jL E G J l m k) 3 (YW D out rest)):cO P f (aIv E G J D s):=by
 refine (gC (S:=fun args0 h0 n0 v1 h1 j=>∃ l m n k r c1 c2 c3 out rest,s l m n k r=some (true,out,rest)∧args0=aE l.length m.length c1 c2 n::(r++[.slice (some ⟨2,0,none⟩) k.length c3])∧h0=jL E G J l m k∧n0=3∧v1=WT out rest 0∧h1=ylH D out∧j=1) hC ?_).mono ?_ ?_
 ·rintro args0 h0 n0 v1 h1 j ⟨l,m,n,k,r,c1,c2,c3,out,rest,e1,rfl,rfl,rfl,rfl,rfl,rfl⟩;obtain⟨a1,a2,a3⟩:=hs l m n k r out rest e1;exact⟨rfl,_,a3 c1 c2 c3,fun v h nx e=>QH D a2 e⟩
 ·rintro args h nx K ⟨p,q,n,r,o,l,m,k,rfl,hl,hm,hk,hx⟩;split at hx
  case h_2=>exact hx.elim
  rename_i pr e1;obtain⟨bb,out,rest⟩:=pr;obtain⟨rfl,hx⟩:=aG.1 hx;obtain⟨a1,a2,a3⟩:=hs l m n k r out rest e1;obtain⟨c1,c2,c3,i⟩:=VT (n:=n) (nx:=nx) E G J a1 hl hm hk;exact⟨_,_,3,_,_,1,⟨l,m,n,k,r,c1,c2,c3,out,rest,e1,rfl,rfl,rfl,rfl,rfl,rfl⟩,i,aAJ D a2 hx⟩
 ·rintro args h nx K ⟨p,q,n,r,o,l,m,k,rfl,hl,hm,hk,hx⟩;split at hx
  case h_2=>exact hx.elim
  rename_i pr e1;obtain⟨hb,hx⟩:=aG.1 hx;exact⟨_,_,_,hx,fun K' hk'=>⟨p,q,n,r,o,l,m,k,rfl,hl,hm,hk,by rw [e1];exact aJ hb hk'⟩⟩
end
end Go.Aw
end

noncomputable section
namespace Go.Aw
section
variable {ρ:Nat→Nat}{n0 k:Nat}{h:Heap}{o o':aV}{r:List (Nat × aV)}{wr g:Bool}{sz:Nat}{cs:List Value}
theorem iN {α:Type}{P:α→Prop}:∀ p∈([]:List α),P p:=fun _ h=>by cases h
theorem iE {e:List (Nat × Value)}{v:Value}{s:List (Nat × Value)}(h1:look e k=some (gP ρ v))(h2:aA9 n0 v=true)(h3:∀ p∈s,look e p.1=some (gP ρ p.2)∧xD n0 p.2):∀ p∈(k,v)::s,look e p.1=some (gP ρ p.2)∧xD n0 p.2 :=
 List.forall_mem_cons.2 ⟨⟨h1,mN h2⟩,h3⟩
theorem iW (h1:Nat.ble (k+1) n0=true)(h2:look h (ρ k)=some o')(h4:bX ρ n0 o o')(h3:∀ p∈r,p.1<n0∧∃ o',look h (ρ p.1)=some o'∧bX ρ n0 p.2 o'):∀ p∈(k,o)::r,p.1<n0∧∃ o',look h (ρ p.1)=some o'∧bX ρ n0 p.2 o' :=
 List.forall_mem_cons.2 ⟨⟨Nat.le_of_ble_eq_true h1,_,h2,h4⟩,h3⟩
theorem iG (h1:Nat.ble (k+1) n0=true)(h2:look h (ρ k)=some (.cells wr g sz cs))(h4:dF cs=true)(h3:∀ p∈r,p.1<n0∧∃ o',look h (ρ p.1)=some o'∧bX ρ n0 p.2 o'):∀ p∈(k,.cells wr g sz cs)::r,p.1<n0∧∃ o',look h (ρ p.1)=some o'∧bX ρ n0 p.2 o' :=
 iW h1 h2 (aN h4) h3
theorem iF {α:Type}{E:El α}{l:List α}(h1:Nat.ble (k+1) n0=true)(h2:look h (ρ k)=some (.cells wr g sz (flat E.fl l)))(h3:∀ p∈r,p.1<n0∧∃ o',look h (ρ p.1)=some o'∧bX ρ n0 p.2 o'):∀ p∈(k,.cells wr g sz (flat E.fl l))::r,p.1<n0∧∃ o',look h (ρ p.1)=some o'∧bX ρ n0 p.2 o' :=
 iG h1 h2 (aF E l) h3
theorem iC (h1:Nat.ble (k+1) n0=true)(h2:look h (ρ k)=some (.cells wr g sz (cs.map (bS ρ))))(h4:SC n0 cs=true)(h3:∀ p∈r,p.1<n0∧∃ o',look h (ρ p.1)=some o'∧bX ρ n0 p.2 o'):∀ p∈(k,.cells wr g sz cs)::r,p.1<n0∧∃ o',look h (ρ p.1)=some o'∧bX ρ n0 p.2 o' :=
 iW h1 h2 ⟨rfl,rfl,rfl,rfl,gR h4⟩ h3
theorem iJ {cs':List Value}(h1:Nat.ble (k+1) n0=true)(h2:look h (ρ k)=some (.cells wr g sz cs'))(h4:dF cs=true)(h5:cs'=cs)(h3:∀ p∈r,p.1<n0∧∃ o',look h (ρ p.1)=some o'∧bX ρ n0 p.2 o'):∀ p∈(k,.cells wr g sz cs)::r,p.1<n0∧∃ o',look h (ρ p.1)=some o'∧bX ρ n0 p.2 o' :=
 iW h1 h2 (aW h4 h5) h3
theorem iK {k0 q:Nat}(h1:(Nat.beq k k0 || !Nat.beq k q)=true)(h3:∀ p∈r,p.1≠k0→p.1≠q):∀ p∈(k,o)::r,p.1≠k0→p.1≠q :=
 List.forall_mem_cons.2 ⟨fun hk e=>by
  simp only [Bool.or_eq_true,Bool.not_eq_true'] at h1;rcases h1 with h1|h1
  ·exact hk (beq_true h1)
  ·exact beq_false h1 e,h3⟩
end
end Go.Aw
end
