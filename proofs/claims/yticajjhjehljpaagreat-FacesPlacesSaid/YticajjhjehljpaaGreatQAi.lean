/-
  Parts of a proof. No condition.
-/
import Derived.Test.YticajjhjehljpaaGreatQAh
set_option linter.unusedSimpArgs false
set_option linter.unusedVariables false
noncomputable section
namespace Go.Aw
open Go.RowKit
theorem tB {args0:List Value}{h0:Heap}{n0:Nat}{args:List Value}{h:Heap}{nx:Nat}(ρ:Nat→Nat)(ha:args=args0.map (iM ρ))(hn:∀ v∈args0,zR n0 v)
  (ho:∀ k o,look h0 k=some o→k<n0∧∃ g sz cs0,o=.cells false g sz cs0∧sz≠0∧(g=true→dP cs0=true)∧(∀ v∈cs0,E4 n0 v)∧∃ wr g' sz' cs,look h (ρ k)=some (.cells wr g' sz' cs)∧cs.take cs0.length=cs0.map (bY ρ)) :
  In args0 h0 n0 args h nx:=by
 intro ι B w H hs;subst ha;have hsc:∀ v∈args0,fN ι nx (iM ρ v):=fun v hv=>hs _ (List.mem_map.2 ⟨v,hv,rfl⟩);refine⟨fun k=>ι (ρ k),?_,fun v hv=>FR (hsc v hv) (hn v hv),⟨fun k o hk=>?_,fun k k' o o' hk hk' hne ha b hb=>?_,fun k o hk=>(ho k o hk).1,Nat.le_refl _,fun k o hk=>?_⟩⟩
 ·rw [List.map_map];exact List.map_congr_left fun v hv=>G7 (hsc v hv)
 ·obtain⟨_,g,sz,cs0,rfl,hz,hg,hm,wr,g',sz',cs,hl,hc⟩:=ho k o hk;have hob:=H.obj _ _ hl;have hso:=H.sc _ _ hl;cases hι:ι (ρ k) with
  |nil p =>
   rw [hι] at hob;have h0:cs=[]:=(by cases wr <;> exact hob.1);subst h0;have:cs0=[]:=by
    cases cs0 with
    |nil=>rfl
    |cons a r=>simp at hc
   subst this;exact⟨rfl,fun h=>h.elim (fun h=>absurd h hz) (fun h=>by cases h)⟩
  |lay b off e =>
   have hlt:b<w.heap.size:=hob.lt (by rw [hι];rfl);refine⟨hlt,hg,fun i v hv=>?_⟩;have h1:(cs.take cs0.length)[i]? = some (bY ρ v):=(by rw [hc,List.getElem?_map,hv];rfl);have hi:i<cs0.length:=(List.getElem?_eq_some_iff.1 hv).1;rw [List.getElem?_take,if_pos hi] at h1;obtain⟨b2,off2,e2,hι2,hcell⟩:=H.cell hl h1;rw [hι] at hι2;injection hι2 with i1 i2 i3;subst i1;subst i2;rw [hcell];congr 1;exact jZ (hso _ (List.mem_of_getElem? h1))
 ·obtain⟨_,g,sz,cs0,rfl,_⟩:=ho k o hk;cases ha
 obtain⟨_,g,sz,cs0,rfl,hz,hg,hm,wr,g',sz',cs,hl,hc⟩:=ho k o hk;intro v hv;have hso:=H.sc _ _ hl;have hmem:bY ρ v∈cs:=by
  have:bY ρ v∈cs.take cs0.length:=(by rw [hc];exact List.mem_map.2 ⟨v,hv,rfl⟩);exact List.mem_of_mem_take this
 exact qA (hso _ hmem) (hm v hv)
structure pM where
 f:Nat
 args:List Value
 h0:Heap
 n0:Nat
 v1:Value
 h1:Heap
 m:Nat
def M7:List Value→List Value→Bool
 |[],[]=>true
 |a::r,b::s=>Q1 a b&&M7 r s
 |_,_=>false
theorem K7:∀ {l m:List Value},M7 l m=true→l=m
 |[],[],_=>rfl
 |[],_::_,h=>by cases h
 |_::_,[],h=>by cases h
 |a::r,b::s,h=>by
  simp only [M7,Bool.and_eq_true] at h;rw [JZ h.1,K7 h.2]
def aG1 (n:Nat):List Value→Bool
 |[]=>true
 |v::r=>aDK n v&&aG1 n r
theorem ZG {n:Nat}:∀ {l:List Value},aG1 n l=true→∀ v∈l,zR n v
 |[],_,v,hv=>by cases hv
 |x::r,h,v,hv=>by
  simp only [aG1,Bool.and_eq_true] at h;cases hv with
  |head=>exact oJ h.1
  |tail _ hm=>exact ZG h.2 v hm
def aOF (b:Nat):List Value→List Value→List (Nat × Nat)→List (Nat × Nat)
 |v::l,u::m,r=>prT b v u (aOF b l m r)
 |_,_,r=>r
def aAv (ρ:List (Nat × Nat))(n0:Nat)(h:Heap):Heap→Bool
 |[]=>true
 |(k,.cells false g sz cs0)::r=>Nat.blt k n0&&!(Nat.beq sz 0)&&(match g with|true=>dP cs0|false=>true)&&UC n0 cs0&&(match look h (nm ρ k) with
  |some (.cells _ _ _ cs)=>LG (cs.take cs0.length) (cs0.map (bY (nm ρ)))
  |_=>false)&&aAv ρ n0 h r
 |_=>false
theorem S9 {ρ:List (Nat × Nat)}{n0:Nat}{h:Heap}:∀ {h0:Heap},aAv ρ n0 h h0=true→∀ k o,look h0 k=some o→k<n0∧∃ g sz cs0,o=.cells false g sz cs0∧sz≠0∧(g=true→dP cs0=true)∧(∀ v∈cs0,E4 n0 v)∧∃ wr g' sz' cs,look h (nm ρ k)=some (.cells wr g' sz' cs)∧cs.take cs0.length=cs0.map (bY (nm ρ))
 |[],_,k,o,hk=>by cases hk
 |(j,q)::r,hb,k,o,hk=>by
  unfold aAv at hb;split at hb
  ·rename_i he;cases he
  ·rename_i k' g sz cs0 r' he;injection he with e1 e2;injection e1 with e3 e4;subst e3;subst e4;subst e2;simp only [Bool.and_eq_true,Bool.not_eq_true'] at hb;obtain⟨⟨⟨⟨⟨h1,h2⟩,h3⟩,h4⟩,h5⟩,h6⟩:=hb;rw [aB] at hk;split at hk
   ·rename_i hbq;have:=beq_true hbq;subst this;injection hk with hk;subst hk;refine⟨Nat.le_of_ble_eq_true h1,g,sz,cs0,rfl,beq_false h2,fun hg=>by subst hg;exact h3,dT h4,?_⟩;split at h5
    ·rename_i wr g' sz' cs hl;exact⟨wr,g',sz',cs,hl,AN h5⟩
    ·cases h5
   exact S9 h6 k o hk
  ·cases hb
def pM.rho (E:pM)(args:List Value)(h:Heap):List (Nat × Nat):=grow 0 E.h0 h 10000 (aOF 0 E.args args []) []
def U6 (E:pM)(args:List Value)(h:Heap):Bool:=M7 args (E.args.map (iM (nm (E.rho args h))))&&aG1 E.n0 E.args&&aAv (E.rho args h) E.n0 h E.h0
theorem aBV {E:pM}{args:List Value}{h:Heap}{nx:Nat}(hf:U6 E args h=true):In E.args E.h0 E.n0 args h nx:=by
 simp only [U6,Bool.and_eq_true] at hf;exact tB _ (K7 hf.1.1) (ZG hf.1.2) (S9 hf.2)
def UH (E:pM):uJ:=fun v h' _=>aHW 0 (aCO 0 [(0,E.v1)] [(0,v)] E.h1 h') [(0,E.v1)] E.h1 E.m [(0,v)] h'&&iX E.h1
def aBx (L:List pM)(f:Nat):Sp:=fun args0 h0 n0 v1 h1 m=>∃ E∈L,E.f=f∧args0=E.args∧h0=E.h0∧n0=E.n0∧v1=E.v1∧h1=E.h1∧m=E.m
def aHI (f:Nat):List pM→Bool
 |[]=>false
 |E::r=>match Nat.beq E.f f with|true=>true|false=>aHI f r
def aDU (f:Nat):List pM→List Value→Heap→Nat→uJ→Bool
 |[],_,_,_,_=>false
 |E::r,args,h,nx,K=>match Nat.beq E.f f with
  |true=>(match U6 E args h with
   |true=>K (iM (fun k=>nx+k) E.v1) (app (oD nx E.h1) (pT E.h1 h)) (nx+E.m)
   |false=>aDU f r args h nx K)
  |false=>aDU f r args h nx K
theorem OV {f:Nat}(L0:List pM){args:List Value}{h:Heap}{nx:Nat}{K:uJ}{K':KE}(hK:∀ v h nx,K v h nx=true→K' v h nx):∀ (L:List pM),(∀ E∈L,E∈L0)→aDU f L args h nx K=true→xOf (aBx L0 f) args h nx K'
 |[],_,hl=>by cases hl
 |E::r,hsub,hl=>by
  simp only [aDU] at hl;split at hl
  ·rename_i hb;split at hl
   ·rename_i hf;exact⟨E.args,E.h0,E.n0,E.v1,E.h1,E.m,⟨E,hsub E (.head _),beq_true hb,rfl,rfl,rfl,rfl,rfl,rfl⟩,aBV hf,hK _ _ _ hl⟩
   exact OV L0 hK r (fun E hE=>hsub E (.tail _ hE)) hl
  exact OV L0 hK r (fun E hE=>hsub E (.tail _ hE)) hl
abbrev GS:=List Value→Option (Bool × Value)
def gXB (s:GS):List Value→Heap→Nat→uJ→Bool:=fun args h nx K=>match s args with
 |some p=>eY p.1 (K p.2 h nx)
 |none=>false
def GM (L:List pM)(S:List (Nat × GS))(f:Nat):Option (List Value→Heap→Nat→KE→Prop):=match aHI f L with
 |true=>some (xOf (aBx L f))
 |false=>(match look S f with|some s=>some (gX s)|none=>none)
def IQ (L:List pM)(S:List (Nat × GS))(f:Nat):Option (List Value→Heap→Nat→uJ→Bool):=match aHI f L with
 |true=>some (aDU f L)
 |false=>(match look S f with|some s=>some (gXB s)|none=>none)
theorem IZ {c:EP}{L:List pM}{S:List (Nat × GS)}(hc:c.X=GM L S):TwX c (IQ L S):=by
 intro f x xb hx hxb args h nx K K' hK hl;rw [hc] at hx;unfold GM at hx;unfold IQ at hxb;split at hx
 ·rename_i hh;rw [hh] at hxb;injection hx with hx;injection hxb with hxb;subst hx;subst hxb;exact OV L hK L (fun _ h=>h) hl
 rename_i hh;rw [hh] at hxb;simp only at hxb;split at hx
 ·rename_i s hs;rw [hs] at hxb;injection hx with hx;injection hxb with hxb;subst hx;subst hxb;unfold gXB at hl;unfold gX;split at hl
  ·rename_i p hp;rw [hp];exact bD (hK _ _ _) hl
  ·cases hl
 ·cases hx
def dF (c:EP)(XB:Nat→Option (List Value→Heap→Nat→uJ→Bool))(d:Nat)(E:pM):Prop:=EE c XB d false E.f E.args E.h0 E.n0 (UH E)=true
def xW (P:Program)(L:List pM):Prop:=∀ f,cO P f (xOf (aBx L f))
theorem xW.app {P:Program}{L L':List pM}(h:xW P L)(h':xW P L'):xW P (L++L'):=by
 intro f;have key:∀ args h nx K,xOf (aBx (L++L') f) args h nx K→xOf (aBx L f) args h nx K∨xOf (aBx L' f) args h nx K:=by
  rintro args h nx K ⟨a,b,c,d,e,g,⟨E,hE,he⟩,q⟩;rcases List.mem_append.1 hE with hE|hE
  ·exact .inl ⟨a,b,c,d,e,g,⟨E,hE,he⟩,q⟩
  exact .inr ⟨a,b,c,d,e,g,⟨E,hE,he⟩,q⟩
 refine⟨fun args hp nx K hx=>?_,fun args hp nx K hx=>?_⟩
 ·rcases key _ _ _ _ hx with hx|hx
  ·exact (h f).1 args hp nx K hx
  exact (h' f).1 args hp nx K hx
 obtain⟨a,b,c,d,e,g,q1,q2,q3⟩:=hx;exact⟨_,_,_,q3,fun K' hk=>⟨a,b,c,d,e,g,q1,q2,hk⟩⟩
theorem GA {P:Program}{c:EP}(hc:qH P c){XB:Nat→Option (List Value→Heap→Nat→uJ→Bool)}(hX:TwX c XB){d:Nat}{L:List pM}(hL:∀ E∈L,dF c XB d E):xW P L:=by
 intro f;refine gO (kL hc d).1 fun args0 h0 n0 v1 h1 m hs=>?_;obtain⟨E,hE,rfl,rfl,rfl,rfl,rfl,rfl,rfl⟩:=hs;have t1:=hL E hE;have hv:=rS hX d false E.f E.args E.h0 E.n0 (UH E) (fun v h nx=>iX E.h1=true∧PE E.v1 E.h1 E.m v h nx) (fun v h nx ho=>by
  simp only [UH,Bool.and_eq_true] at ho;exact⟨ho.2,_,YJ ho.1⟩) t1
 obtain⟨v,h',nx',k1,k2⟩:=(kL hc d).2.2.1 _ _ _ _ _ hv;exact⟨k1.1,_,k2 _ k1.2,fun _ _ _ q=>q⟩
theorem FP {P:Program}{L:List pM}(h:xW P L){S:List (Nat × GS)}(hS:∀ f s,look S f=some s→cO P f (gX s)):∀ f x,GM L S f=some x→cO P f x:=by
 intro f x hfx;unfold GM at hfx;split at hfx
 ·injection hfx with hfx;subst hfx;exact h f
 split at hfx
 ·rename_i s hs;injection hfx with hfx;subst hfx;exact hS f s hs
 ·cases hfx
theorem aDr {a0 b0 a b:Value}{n:Int}{r:List Value}(hr:eX r=true){h0 h:Heap}{n0 nx:Nat}(i:In [a0,b0] h0 n0 [a,b] h nx)(ha:∃ x y z,a0=.slice x y z)(hb:∃ x y z,b0=.slice x y z) :
  In (.agg #[a0,b0,.int .i64 n]::r) h0 n0 (.agg #[a,b,.int .i64 n]::r) h nx:=by
 intro ι B w H hs;have hag:lZ ι nx (.agg #[a,b,.int .i64 n]):=hs _ (.head _);have sa:jD ι nx a:=hag a (by simp);have sb:jD ι nx b:=hag b (by simp);obtain⟨ι0,e1,e2,e3⟩:=i ι B w H (fun v hv=>by
  simp only [List.mem_cons,List.not_mem_nil,or_false] at hv;rcases hv with rfl|rfl
  ·exact m6 (iL sa)
  exact m6 (iL sb))
 simp only [List.map_cons,List.map_nil,List.cons.injEq,and_true] at e1;obtain⟨x,y,z,rfl⟩:=ha;obtain⟨x',y',z',rfl⟩:=hb;have t1:tr ι a=cC ι a:=(by rw [wX (iL sa),B6 sa]);have t2:tr ι b=cC ι b:=(by rw [wX (iL sb),B6 sb]);refine⟨ι0,?_,?_,e3⟩
 ·rw [List.map_cons,List.map_cons];congr 1
  ·show Value.agg (Array.map (cC ι) #[a,b,.int .i64 n])=Value.agg (Array.map (cC ι0) #[_,_,.int .i64 n]);simp only [List.map_toArray,List.map_cons,List.map_nil];rw [← t1,← t2,e1.1,e1.2];rfl
  exact List.map_congr_left fun v hv=>by rw [jH (cD hr hv),jH (cD hr hv)]
 intro v hv;cases hv with
 |head =>
  intro u hu;simp only [List.mem_cons,List.not_mem_nil,or_false] at hu;rcases hu with rfl|rfl|rfl
  ·exact e2 _ (.head _)
  ·exact e2 _ (.tail _ (.head _))
  exact cN rfl
 |tail _ hm=>exact cG (cD hr hm)
section
variable {α β:Type}(E:El α)(G:El β)
def kI (n m:Nat)(c1 c2:Nat)(k:Int):Value:=.agg #[.slice (some ⟨0,0,none⟩) n c1,.slice (some ⟨1,0,none⟩) m c2,.int .i64 k]
def aL (l:List α)(m:List β):Heap:=[(0,.cells false true E.sz (flat E.fl l)),(1,.cells false true G.sz (flat G.fl m))]
def mX (s:List α→List β→Int→List Value→Option (Bool × Value)):XF:=fun args h nx K=>match args with
 |.agg ⟨[p,q,.int .i64 n]⟩::r=>∃ l m,jG E h p l∧jG G h q m∧(match s l m n r with|some pr=>dQ pr.1 (K pr.2 h nx)|none=>False)
 |_=>False
theorem NY {p q:Value}{n:Int}{r:List Value}(hr:eX r=true){h:Heap}{nx:Nat}{l:List α}{m:List β}(hl:jG E h p l)(hm:jG G h q m) :
  ∃ c1 c2,In (kI l.length m.length c1 c2 n::r) (aL E G l m) 2 (.agg #[p,q,.int .i64 n]::r) h nx:=by
 obtain⟨c1,i1⟩:=QC (nx:=nx) E hl;obtain⟨c2,i2⟩:=QC (nx:=nx) G hm;exact⟨c1,c2,aDr hr (TY rfl rfl i1 i2 ⟨_,_,rfl,aD E l⟩ ⟨_,_,rfl,aD G m⟩) ⟨_,_,_,rfl⟩ ⟨_,_,_,rfl⟩⟩
theorem mV {P:Program}{C:VC}{f:Nat}{s:List α→List β→Int→List Value→Option (Bool × Value)}(hC:bF P C)
  (hs:∀ l m n r v,s l m n r=some (true,v)→eX r=true∧gT v=true∧∀ c1 c2,C f (kI l.length m.length c1 c2 n::r) (aL E G l m) 2 (fun u _ _=>u=v)):cO P f (mX E G s):=by
 refine (gO (S:=fun args0 h0 n0 v1 h1 k=>∃ l m n r c1 c2,s l m n r=some (true,v1)∧args0=kI l.length m.length c1 c2 n::r∧h0=aL E G l m∧n0=2∧h1=[]∧k=0) hC ?_).mono ?_ ?_
 ·rintro args0 h0 n0 v1 h1 k ⟨l,m,n,r,c1,c2,e1,rfl,rfl,rfl,rfl,rfl⟩;obtain⟨a1,a2,a3⟩:=hs l m n r v1 e1;exact⟨rfl,_,a3 c1 c2,fun v h nx e=>by rw [e];exact lA a2⟩
 ·intro args h nx K hx;unfold mX at hx;split at hx
  case h_2=>exact hx.elim
  rename_i p q n r;obtain⟨l,m,hl,hm,hx⟩:=hx;split at hx
  case h_2=>exact hx.elim
  rename_i pr e1;obtain⟨bb,u⟩:=pr;obtain⟨rfl,hx⟩:=aE.1 hx;obtain⟨a1,a2,a3⟩:=hs l m n r u e1;obtain⟨c1,c2,i⟩:=NY (n:=n) (nx:=nx) E G a1 hl hm;refine⟨_,_,2,u,[],0,⟨l,m,n,r,c1,c2,e1,rfl,rfl,rfl,rfl,rfl⟩,i,?_⟩;simp only [pT,uG,oD,lY,gE a2,Nat.add_zero];exact hx
 intro args h nx K hx;unfold mX at hx;split at hx
 case h_2=>exact hx.elim
 rename_i p q n r;obtain⟨l,m,hl,hm,hx⟩:=hx;split at hx
 case h_2=>exact hx.elim
 rename_i pr e1;obtain⟨hb,hx⟩:=aE.1 hx;exact⟨pr.2,h,nx,hx,fun K' hk=>⟨l,m,hl,hm,by rw [e1];exact aI hb hk⟩⟩
end
theorem aDd {n sz:Nat}{wr g:Bool}{cs:List Value}(h:∀ v∈cs,bY id v=v∧E4 n v):bZ id n (.cells wr g sz cs) (.cells wr g sz cs) :=
 ⟨rfl,rfl,rfl,(by conv=>lhs;rw [← List.map_id cs]
                  exact List.map_congr_left fun v hv=>(h v hv).1.symm),fun v hv=>(h v hv).2⟩
theorem aJU {a0:List Value}{h0:Heap}{n0:Nat}{a:List Value}{h:Heap}{nx:Nat}(i:In a0 h0 n0 a h nx){b:Value}{n2 c2 sz:Nat}{cs:List Value}(hg:dP cs=true)
  (i2:In [.slice (some ⟨0,0,none⟩) n2 c2] [(0,.cells false true sz cs)] 1 [b] h nx) (hlow:∀ k o,look h0 k=some o→o.alone=false) :
  In (a0++[.slice (some ⟨n0,0,none⟩) n2 c2]) (app h0 [(n0,.cells false true sz cs)]) (n0+1) (a++[b]) h nx:=by
 intro ι B w H hs;obtain⟨ι1,e1,k1,R1⟩:=i ι B w H (fun v hv=>hs v (List.mem_append_left _ hv));obtain⟨ι2,e2,k2,R2⟩:=i2 ι B w H (fun v hv=>hs v (List.mem_append_right _ hv));simp only [List.map_cons,List.map_nil,List.cons.injEq,and_true] at e2;have q2:=R2.obj 0 _ rfl;have kk2:=k2 _ (.head _);let ι0:Nat→Loc:=fun k=>if k<n0 then ι1 k else ι2 0
 have hlt:∀ k,k<n0→ι0 k=ι1 k:=fun k hk=>if_pos hk;have hat:ι0 n0=ι2 0:=if_neg (Nat.lt_irrefl _);have hcase:∀ k o,look (app h0 [(n0,.cells false true sz cs)]) k=some o→(look h0 k=some o∧k<n0)∨(k=n0∧o=.cells false true sz cs):=by
  intro k o hk;rw [iQ] at hk;split at hk
  ·rename_i o' ho;injection hk with hk;subst hk;exact .inl ⟨ho,R1.low k _ ho⟩
  rw [aB] at hk;split at hk
  ·rename_i hb;injection hk with hk;exact .inr ⟨(beq_true hb).symm,hk.symm⟩
  exact bX hk
 refine⟨ι0,?_,?_,⟨?_,?_,?_,Nat.le_refl _,?_⟩⟩
 ·rw [List.map_append,List.map_append,e1];congr 1
  ·refine List.map_congr_left fun v hv=>?_;exact (D8 (ι:=ι1) (ι':=ι0) (n:=n0) hlt (k1 v hv)).symm
  simp only [List.map_cons,List.map_nil,e2];simp only [tr,eM,cC,eN,hat]
 ·intro v hv;rcases List.mem_append.1 hv with hv|hv
  ·exact oW (Nat.le_succ _) hlt (k1 v hv)
  simp only [List.mem_cons,List.not_mem_nil,or_false] at hv;subst hv;exact⟨Nat.lt_succ_self _,fun h=>kk2.2 (by rw [← h];show _=(ι0 n0).iZ;rw [hat])⟩
 ·intro k o hk;rcases hcase k o hk with ⟨h1,h2⟩|⟨rfl,rfl⟩
  ·rw [hlt k h2];exact (R1.obj k o h1).names (R1.sc k o h1) hlt
  rw [hat];cases hl:ι2 0 with
  |nil p=>rw [hl] at q2;exact q2
  |lay b o e =>
   rw [hl] at q2;obtain⟨x1,x2,x3⟩:=q2;refine⟨x1,x2,fun i v hv=>?_⟩;rw [x3 i v hv,nH (aW hg (List.mem_of_getElem? hv)),nH (aW hg (List.mem_of_getElem? hv))]
 ·intro k k' o o' hk hk' hne hal b hb;rcases hcase k o hk with ⟨h1,h2⟩|⟨rfl,rfl⟩
  ·rw [hlow k o h1] at hal;cases hal
  ·cases hal
 ·intro k o hk;rcases hcase k o hk with ⟨h1,h2⟩|⟨rfl,rfl⟩ <;> omega
 intro k o hk;rcases hcase k o hk with ⟨h1,h2⟩|⟨rfl,rfl⟩
 ·exact (R1.sc k o h1).mono (Nat.le_succ _) hlt
 exact fun v hv=>cN (aW hg hv)
section
variable {α β γ δ:Type}(E:El α)(G:El β)(J:El γ)(D:El δ)
def mapA (p q:Value)(n:Int):Value:=.agg #[p,q,.int .i64 n]
def kJ (l:List α)(m:List β)(k:List γ):Heap:=[(0,.cells false true E.sz (flat E.fl l)),(1,.cells false true G.sz (flat G.fl m)),(2,.cells false true J.sz (flat J.fl k))]
theorem aAf {p q o:Value}{n:Int}{r:List Value}(hr:eX r=true){h:Heap}{nx:Nat}{l:List α}{m:List β}{k:List γ}(hl:jG E h p l)(hm:jG G h q m)(hk:jG J h o k) :
  ∃ c1 c2 c3,In (kI l.length m.length c1 c2 n::(r++[.slice (some ⟨2,0,none⟩) k.length c3])) (kJ E G J l m k) 3 (mapA p q n::(r++[o])) h nx:=by
 obtain⟨c1,c2,i⟩:=NY (n:=n) (nx:=nx) E G hr hl hm;obtain⟨c3,i3⟩:=QC (nx:=nx) J hk;refine⟨c1,c2,c3,aJU i (aD J k) i3 fun j ob hj=>?_⟩;unfold aL at hj;rw [aB] at hj;split at hj
 ·injection hj with hj;subst hj;rfl
 rw [aB] at hj;split at hj
 ·injection hj with hj;subst hj;rfl
 exact bX hj
def mLX (s:List α→List β→Int→List γ→List Value→Option (Bool × Value)):XF:=fun args h nx K =>
 ∃ p q n r o l m k,args=mapA p q n::(r++[o])∧jG E h p l∧jG G h q m∧jG J h o k∧(match s l m n k r with|some pr=>dQ pr.1 (K pr.2 h nx)|none=>False)
theorem aDL {P:Program}{C:VC}{f:Nat}{s:List α→List β→Int→List γ→List Value→Option (Bool × Value)}(hC:bF P C)
  (hs:∀ l m n k r v,s l m n k r=some (true,v)→eX r=true∧gT v=true∧∀ c1 c2 c3,C f (kI l.length m.length c1 c2 n::(r++[.slice (some ⟨2,0,none⟩) k.length c3])) (kJ E G J l m k) 3 (fun u _ _=>u=v)):cO P f (mLX E G J s):=by
 refine (gO (S:=fun args0 h0 n0 v1 h1 j=>∃ l m n k r c1 c2 c3,s l m n k r=some (true,v1)∧args0=kI l.length m.length c1 c2 n::(r++[.slice (some ⟨2,0,none⟩) k.length c3])∧h0=kJ E G J l m k∧n0=3∧h1=[]∧j=0) hC ?_).mono ?_ ?_
 ·rintro args0 h0 n0 v1 h1 j ⟨l,m,n,k,r,c1,c2,c3,e1,rfl,rfl,rfl,rfl,rfl⟩;obtain⟨a1,a2,a3⟩:=hs l m n k r v1 e1;exact⟨rfl,_,a3 c1 c2 c3,fun v h nx e=>by rw [e];exact lA a2⟩
 ·rintro args h nx K ⟨p,q,n,r,o,l,m,k,rfl,hl,hm,hk,hx⟩;split at hx
  case h_2=>exact hx.elim
  rename_i pr e1;obtain⟨bb,u⟩:=pr;obtain⟨rfl,hx⟩:=aE.1 hx;obtain⟨a1,a2,a3⟩:=hs l m n k r u e1;obtain⟨c1,c2,c3,i⟩:=aAf (n:=n) (nx:=nx) E G J a1 hl hm hk;refine⟨_,_,3,u,[],0,⟨l,m,n,k,r,c1,c2,c3,e1,rfl,rfl,rfl,rfl,rfl⟩,i,?_⟩;simp only [pT,uG,oD,lY,gE a2,Nat.add_zero];exact hx
 rintro args h nx K ⟨p,q,n,r,o,l,m,k,rfl,hl,hm,hk,hx⟩;split at hx
 case h_2=>exact hx.elim
 rename_i pr e1;obtain⟨hb,hx⟩:=aE.1 hx;exact⟨pr.2,h,nx,hx,fun K' hk'=>⟨p,q,n,r,o,l,m,k,rfl,hl,hm,hk,by rw [e1];exact aI hb hk'⟩⟩
def wrW:List Value→Value→Value
 |[],v=>v
 |a::r,v=>.agg (v::a::r).toArray
theorem XE {ρ:Nat→Nat}{rest:List Value}(hr:dP rest=true){k n c:Nat}:iM ρ (wrW rest (.slice (some ⟨k,0,none⟩) n c))=wrW rest (.slice (some ⟨ρ k,0,none⟩) n c):=by
 cases rest with
 |nil=>simp [wrW,iM,tr,eM,cC,eN,kV]
 |cons a r =>
  show Value.agg (Array.map (cC (kV ρ)) (_::a::r).toArray)=Value.agg (_::a::r).toArray;rw [List.map_toArray,List.map_cons];congr 2;rw [List.cons.injEq];refine⟨by simp [cC,eN,kV],?_⟩
  conv=>rhs;rw [← List.map_id (a::r)]
  exact List.map_congr_left fun v hv=>nH (aW hr hv)
theorem aJK {rest:List Value}(hr:dP rest=true){n c:Nat}:zR 1 (wrW rest (.slice (some ⟨0,0,none⟩) n c)):=by
 cases rest with
 |nil=>exact⟨Nat.one_pos,fun h=>by cases h⟩
 |cons a r =>
  intro v hv;rcases List.mem_cons.1 hv with rfl|hv
  ·exact⟨Nat.one_pos,fun h=>by cases h⟩
  exact cN (aW hr hv)
def ylH (out:List δ):Heap:=[(0,.cells true false D.sz (flat D.fl out))]
def ylV (out:List δ)(rest:List Value)(k:Nat):Value:=wrW rest (.slice (some ⟨k,0,none⟩) out.length out.length)
def YW (out:List δ)(rest:List Value):KE:=fun v h _=>∃ q,v=ylV out rest q∧look h q=some (.cells true false D.sz (flat D.fl out))
theorem W8 {out:List δ}{rest:List Value}(hr:dP rest=true){v:Value}{h:Heap}{nx:Nat}(hy:YW D out rest v h nx):PE (ylV out rest 0) (ylH D out) 1 v h nx:=by
 obtain⟨q,rfl,hq⟩:=hy;refine⟨fun _=>q,fun t v hv=>?_,fun k o hk=>?_,fun k k' o o' hk hk' _=>?_,fun k hk=>absurd hk (Nat.not_lt_zero _),Nat.zero_le _⟩
 ·rw [aB] at hv;split at hv
  ·rename_i hb;injection hv with hv;subst hv;refine⟨?_,aJK hr⟩;rw [aB,hb];show _=some (iM (fun _=>q) (wrW rest (.slice (some ⟨0,0,none⟩) out.length out.length)));rw [XE hr];rfl
  exact bX hv
 ·unfold ylH at hk;rw [aB] at hk;split at hk
  ·rename_i hb;injection hk with hk;subst hk;rw [← beq_true hb];exact⟨Nat.one_pos,_,hq,rfl,rfl,rfl,(bJ (aD D out)).symm,fun v hv=>cN (aW (aD D out) hv)⟩
  exact bX hk
 unfold ylH at hk hk';rw [aB] at hk hk';split at hk
 ·rename_i h1;split at hk'
  ·rename_i h2;exact (beq_true h1).symm.trans (beq_true h2)
  exact bX hk'
 exact bX hk
theorem aEU {out:List δ}{rest:List Value}(hr:dP rest=true){h:Heap}{nx:Nat}{K:KE}(hk:K (ylV out rest nx) (bT h nx (.cells true false D.sz (flat D.fl out))) (nx+1)) :
  K (iM (fun k=>nx+k) (ylV out rest 0)) (app (oD nx (ylH D out)) (pT (ylH D out) h)) (nx+1):=by
 have hm:(flat D.fl out).map (bY (fun k=>nx+k))=flat D.fl out:=bJ (aD D _);have e1:iM (fun k=>nx+k) (ylV out rest 0)=ylV out rest nx:=XE hr;have e2:app (oD nx (ylH D out)) (pT (ylH D out) h)=bT h nx (.cells true false D.sz (flat D.fl out)):=by
  show (nx+0,bV.cells true false D.sz ((flat D.fl out).map (bY (fun k=>nx+k))))::h=_;rw [hm];rfl
 rw [e1,e2];exact hk
abbrev YS (δ:Type):=Option (Bool × List δ × List Value)
def mYX (s:List α→List β→Int→List Value→YS δ):XF:=fun args h nx K=>∃ p q n r l m,args=mapA p q n::r∧jG E h p l∧jG G h q m ∧
 (match s l m n r with|some pr=>dQ pr.1 (K (ylV pr.2.1 pr.2.2 nx) (bT h nx (.cells true false D.sz (flat D.fl pr.2.1))) (nx+1))|none=>False)
theorem W5 {P:Program}{C:VC}{f:Nat}{s:List α→List β→Int→List Value→YS δ}(hC:bF P C)
  (hs:∀ l m n r out rest,s l m n r=some (true,out,rest)→eX r=true∧dP rest=true∧∀ c1 c2,C f (kI l.length m.length c1 c2 n::r) (aL E G l m) 2 (YW D out rest)):cO P f (mYX E G D s):=by
 refine (gO (S:=fun args0 h0 n0 v1 h1 j=>∃ l m n r c1 c2 out rest,s l m n r=some (true,out,rest)∧args0=kI l.length m.length c1 c2 n::r∧h0=aL E G l m∧n0=2∧v1=ylV out rest 0∧h1=ylH D out∧j=1) hC ?_).mono ?_ ?_
 ·rintro args0 h0 n0 v1 h1 j ⟨l,m,n,r,c1,c2,out,rest,e1,rfl,rfl,rfl,rfl,rfl,rfl⟩;obtain⟨a1,a2,a3⟩:=hs l m n r out rest e1;exact⟨rfl,_,a3 c1 c2,fun v h nx e=>W8 D a2 e⟩
 ·rintro args h nx K ⟨p,q,n,r,l,m,rfl,hl,hm,hx⟩;split at hx
  case h_2=>exact hx.elim
  rename_i pr e1;obtain⟨bb,out,rest⟩:=pr;obtain⟨rfl,hx⟩:=aE.1 hx;obtain⟨a1,a2,a3⟩:=hs l m n r out rest e1;obtain⟨c1,c2,i⟩:=NY (n:=n) (nx:=nx) E G a1 hl hm;exact⟨_,_,2,_,_,1,⟨l,m,n,r,c1,c2,out,rest,e1,rfl,rfl,rfl,rfl,rfl,rfl⟩,i,aEU D a2 hx⟩
 rintro args h nx K ⟨p,q,n,r,l,m,rfl,hl,hm,hx⟩;split at hx
 case h_2=>exact hx.elim
 rename_i pr e1;obtain⟨hb,hx⟩:=aE.1 hx;exact⟨_,_,_,hx,fun K' hk'=>⟨p,q,n,r,l,m,rfl,hl,hm,by rw [e1];exact aI hb hk'⟩⟩
def aNx (s:List α→List β→Int→List γ→List Value→YS δ):XF:=fun args h nx K=>∃ p q n r o l m k,args=mapA p q n::(r++[o])∧jG E h p l∧jG G h q m∧jG J h o k ∧
 (match s l m n k r with|some pr=>dQ pr.1 (K (ylV pr.2.1 pr.2.2 nx) (bT h nx (.cells true false D.sz (flat D.fl pr.2.1))) (nx+1))|none=>False)
theorem aG5 {P:Program}{C:VC}{f:Nat}{s:List α→List β→Int→List γ→List Value→YS δ}(hC:bF P C)
  (hs:∀ l m n k r out rest,s l m n k r=some (true,out,rest)→eX r=true∧dP rest=true∧∀ c1 c2 c3,C f (kI l.length m.length c1 c2 n::(r++[.slice (some ⟨2,0,none⟩) k.length c3])) (kJ E G J l m k) 3 (YW D out rest)):cO P f (aNx E G J D s):=by
 refine (gO (S:=fun args0 h0 n0 v1 h1 j=>∃ l m n k r c1 c2 c3 out rest,s l m n k r=some (true,out,rest)∧args0=kI l.length m.length c1 c2 n::(r++[.slice (some ⟨2,0,none⟩) k.length c3])∧h0=kJ E G J l m k∧n0=3∧v1=ylV out rest 0∧h1=ylH D out∧j=1) hC ?_).mono ?_ ?_
 ·rintro args0 h0 n0 v1 h1 j ⟨l,m,n,k,r,c1,c2,c3,out,rest,e1,rfl,rfl,rfl,rfl,rfl,rfl⟩;obtain⟨a1,a2,a3⟩:=hs l m n k r out rest e1;exact⟨rfl,_,a3 c1 c2 c3,fun v h nx e=>W8 D a2 e⟩
 ·rintro args h nx K ⟨p,q,n,r,o,l,m,k,rfl,hl,hm,hk,hx⟩;split at hx
  case h_2=>exact hx.elim
  rename_i pr e1;obtain⟨bb,out,rest⟩:=pr;obtain⟨rfl,hx⟩:=aE.1 hx;obtain⟨a1,a2,a3⟩:=hs l m n k r out rest e1;obtain⟨c1,c2,c3,i⟩:=aAf (n:=n) (nx:=nx) E G J a1 hl hm hk;exact⟨_,_,3,_,_,1,⟨l,m,n,k,r,c1,c2,c3,out,rest,e1,rfl,rfl,rfl,rfl,rfl,rfl⟩,i,aEU D a2 hx⟩
 rintro args h nx K ⟨p,q,n,r,o,l,m,k,rfl,hl,hm,hk,hx⟩;split at hx
 case h_2=>exact hx.elim
 rename_i pr e1;obtain⟨hb,hx⟩:=aE.1 hx;exact⟨_,_,_,hx,fun K' hk'=>⟨p,q,n,r,o,l,m,k,rfl,hl,hm,hk,by rw [e1];exact aI hb hk'⟩⟩
end
section
variable {ρ:Nat→Nat}{n0 k:Nat}{h:Heap}{o o':bV}{r:List (Nat × bV)}{wr g:Bool}{sz:Nat}{cs:List Value}
theorem iN {α:Type}{P:α→Prop}:∀ p∈([]:List α),P p:=fun _ h=>by cases h
theorem iE {e:List (Nat × Value)}{v:Value}{s:List (Nat × Value)}(h1:look e k=some (iM ρ v))(h2:aDK n0 v=true)(h3:∀ p∈s,look e p.1=some (iM ρ p.2)∧zR n0 p.2):∀ p∈(k,v)::s,look e p.1=some (iM ρ p.2)∧zR n0 p.2 :=
 List.forall_mem_cons.2 ⟨⟨h1,oJ h2⟩,h3⟩
theorem iW (h1:Nat.ble (k+1) n0=true)(h2:look h (ρ k)=some o')(h4:bZ ρ n0 o o')(h3:∀ p∈r,p.1<n0∧∃ o',look h (ρ p.1)=some o'∧bZ ρ n0 p.2 o'):∀ p∈(k,o)::r,p.1<n0∧∃ o',look h (ρ p.1)=some o'∧bZ ρ n0 p.2 o' :=
 List.forall_mem_cons.2 ⟨⟨Nat.le_of_ble_eq_true h1,_,h2,h4⟩,h3⟩
theorem iG (h1:Nat.ble (k+1) n0=true)(h2:look h (ρ k)=some (.cells wr g sz cs))(h4:dP cs=true)(h3:∀ p∈r,p.1<n0∧∃ o',look h (ρ p.1)=some o'∧bZ ρ n0 p.2 o'):∀ p∈(k,.cells wr g sz cs)::r,p.1<n0∧∃ o',look h (ρ p.1)=some o'∧bZ ρ n0 p.2 o' :=
 iW h1 h2 (aO h4) h3
theorem iF {α:Type}{E:El α}{l:List α}(h1:Nat.ble (k+1) n0=true)(h2:look h (ρ k)=some (.cells wr g sz (flat E.fl l)))(h3:∀ p∈r,p.1<n0∧∃ o',look h (ρ p.1)=some o'∧bZ ρ n0 p.2 o'):∀ p∈(k,.cells wr g sz (flat E.fl l))::r,p.1<n0∧∃ o',look h (ρ p.1)=some o'∧bZ ρ n0 p.2 o' :=
 iG h1 h2 (aD E l) h3
theorem iC (h1:Nat.ble (k+1) n0=true)(h2:look h (ρ k)=some (.cells wr g sz (cs.map (bY ρ))))(h4:UC n0 cs=true)(h3:∀ p∈r,p.1<n0∧∃ o',look h (ρ p.1)=some o'∧bZ ρ n0 p.2 o'):∀ p∈(k,.cells wr g sz cs)::r,p.1<n0∧∃ o',look h (ρ p.1)=some o'∧bZ ρ n0 p.2 o' :=
 iW h1 h2 ⟨rfl,rfl,rfl,rfl,dT h4⟩ h3
theorem iJ {cs':List Value}(h1:Nat.ble (k+1) n0=true)(h2:look h (ρ k)=some (.cells wr g sz cs'))(h4:dP cs=true)(h5:cs'=cs)(h3:∀ p∈r,p.1<n0∧∃ o',look h (ρ p.1)=some o'∧bZ ρ n0 p.2 o'):∀ p∈(k,.cells wr g sz cs)::r,p.1<n0∧∃ o',look h (ρ p.1)=some o'∧bZ ρ n0 p.2 o' :=
 iW h1 h2 (bB h4 h5) h3
theorem iK {k0 q:Nat}(h1:(Nat.beq k k0 || !Nat.beq k q)=true)(h3:∀ p∈r,p.1≠k0→p.1≠q):∀ p∈(k,o)::r,p.1≠k0→p.1≠q :=
 List.forall_mem_cons.2 ⟨fun hk e=>by
  simp only [Bool.or_eq_true,Bool.not_eq_true'] at h1;rcases h1 with h1|h1
  ·exact hk (beq_true h1)
  exact beq_false h1 e,h3⟩
end
set_option maxRecDepth 100000
def aCk:List Value→Option (Bool × List (Int × Int) × Option Int)
 |[u,v]=>(match aF0 u with|some s=>(match aF0 v with|some t=>some (jE s&&jE t,rU s t,none)|none=>none)|none=>none)
 |_=>none
theorem aBT {args:List Value}{l:List (Int × Int)}{e:Option Int}(hs:aCk args=some (true,l,e)):∃ s t,args=[sgv s,sgv t]∧(jE s&&jE t)=true∧l=rU s t∧e=none:=by
 unfold aCk at hs;split at hs
 ·split at hs
  ·rename_i s e1;split at hs
   ·rename_i t e2;injection hs with hs;injection hs with h1 h2;injection h2 with h2 h3;exact⟨s,t,by rw [OF e1,OF e2],h1,h2.symm,h3.symm⟩
   ·cases hs
  ·cases hs
 ·cases hs
def eE (v:Value)(j:Int):List (Nat × Value):=[(2,.pointer (some ⟨0,0,none⟩)),(3,.pointer (some ⟨1,0,none⟩)),(5,v),(6,.slice (some ⟨2,0,none⟩) 4 4),(7,iv j)]
def N9 (s:Sg):List Value:=[iv s.1.1,iv s.1.2,iv s.2.1,iv s.2.2]
def hE (s t:Sg)(ps:List (Int × Int)):Heap:=[(0,.cells true false 1 (N9 s)),(1,.cells true false 1 (N9 t)),(2,.cells true false 2 (flat bC.fl ps))]
def IN (s t:Sg)(ps out:List (Int × Int)):Heap:=[(0,.cells true false 1 (N9 s)),(1,.cells true false 1 (N9 t)),(2,.cells true false 2 (flat bC.fl ps)),(3,.cells true false 2 (flat bC.fl out))]
def eI (v:Value)(j:Int)(b1 b2 b:Bool)(k:Int):List (Nat × Value):=[(2,.pointer (some ⟨0,0,none⟩)),(3,.pointer (some ⟨1,0,none⟩)),(5,v),(6,.slice (some ⟨2,0,none⟩) 4 4),(7,iv j),(8,.bool b1),(9,.bool b2),(10,.bool b),(11,iv k)]
theorem aAR (p q:Int × Int)(l:List (Int × Int)):nR p (l++[q])=(nR p l || kD q p):=by
 induction l with
 |nil=>simp [nR]
 |cons a r ih=>simp only [List.cons_append,nR,ih,Bool.or_assoc]
theorem GN {p:Int × Int}{l:List (Int × Int)}{k:Nat}(h:k<l.length):nR p (l.take (k+1))=(nR p (l.take k) || kD (fA l k) p):=by
 rw [List.take_add_one,List.getElem?_eq_getElem h,nK h,← aAR];rfl
theorem aB3 {s t:Sg}(l out:List (Int × Int)):(l.foldl (m9 s t) out).length≤out.length+l.length:=by
 induction l generalizing out with
 |nil=>simp
 |cons a r ih =>
  have:=ih (m9 s t out a);have h2:(m9 s t out a).length≤out.length+1:=by
   unfold m9;split <;> simp
  simp only [List.foldl_cons,List.length_cons];omega
theorem TB {s t:Sg}{l:List (Int × Int)}(h:l.length≤4):(l.foldl (m9 s t) []).length≤4:=by
 have:=aB3 (s:=s) (t:=t) l [];simp at this;omega
theorem aAT (l:List (Int × Int))(p:Int × Int):List.take (l.length*2) (List.drop 0 (flat bC.fl l))++[iv p.1,iv p.2]=flat bC.fl (l++[p]):=by
 rw [vT,List.drop_zero,List.take_of_length_le (by rw [bE];exact Nat.le_refl _)];rfl
def X70:Nat × XF:=(163,fX bC aCk)
theorem x70:cO Go.Proofs.Tryz.prog X70.1 X70.2:=aOi bC (aH (xl:=[X67]) (.cons x67 .nil)) fun args l e hs=>by
 obtain⟨s,t,rfl,hw,rfl,rfl⟩:=aBT hs;refine⟨rfl,?_⟩;clear hs;obtain⟨⟨ax,ay⟩,⟨bx,b2⟩⟩:=s;obtain⟨⟨cx,cy⟩,⟨dx,dy⟩⟩:=t;obtain⟨ps,hps⟩:∃ ps:List (Int × Int),ps=[(ax,ay),(bx,b2),(cx,cy),(dx,dy)]:=⟨_,rfl⟩;(conv=>whnf)
 refine⟨fun n e h nx=>∃ (i:Nat) (j:Int) (out:List (Int × Int)),j=i∧i≤4∧n=4 - i∧out=(ps.take i).foldl (m9 ((ax,ay),(bx,b2)) ((cx,cy),(dx,dy))) [] ∧
  ((out=[]∧e=eE (.slice none 0 0) j∧h=hE ((ax,ay),(bx,b2)) ((cx,cy),(dx,dy)) ps∧nx=3)∨(0<out.length∧e=eE (.slice (some ⟨3,0,none⟩) out.length out.length) j∧h=IN ((ax,ay),(bx,b2)) ((cx,cy),(dx,dy)) ps out∧nx=4)),⟨4,?_⟩,?_⟩
 ·subst hps;refine aJ (e0:=eE (.slice none 0 0) 0) (h0:=hE ((ax,ay),(bx,b2)) ((cx,cy),(dx,dy)) [(ax,ay),(bx,b2),(cx,cy),(dx,dy)]) (n0:=3) ⟨0,0,[],rfl,by decide,rfl,rfl,.inl ⟨rfl,rfl,rfl,rfl⟩⟩ ?_ ?_ (by decide)
  ·unfold eE;((repeat' refine iE rfl rfl ?_);exact iN)
  unfold hE;((repeat'(first|refine iF rfl rfl ?_|refine iJ rfl rfl rfl rfl ?_));exact iN)
 have hl4:ps.length=4:=(by rw [hps];rfl);simp only [Bool.and_eq_true] at hw;have hww:∀ p∈ps,wide p=true:=by
  have h1:=hw.1;have h2:=hw.2;simp only [jE,Bool.and_eq_true] at h1 h2;subst hps;exact List.forall_mem_cons.2 ⟨h1.1,List.forall_mem_cons.2 ⟨h1.2,List.forall_mem_cons.2 ⟨h2.1,List.forall_mem_cons.2 ⟨h2.2,fun _ h=>(by cases h)⟩⟩⟩⟩
 rintro n e h nx ⟨i,j,out,hj,hi,rfl,ho,⟨ho0,rfl,rfl,rfl⟩|⟨hol,rfl,rfl,rfl⟩⟩
 ·unfold eE hE;((conv=>whnf);apply bm<;>intro g1);rotate_left
  ·(conv=>whnf);have h4:i=4:=(by simp only [oX,rA,decide_eq_false_iff_not] at g1;omega);subst h4;have:rU ((ax,ay),(bx,b2)) ((cx,cy),(dx,dy))=[]:=by
    rw [← ho0,ho,hps];rfl
   rw [this];rfl
  have hlt:i<ps.length:=(by simp [aA,aC] at g1;omega);have hwp:wide (fA ps i)=true:=(by rw [nK hlt];exact hww _ (List.getElem_mem hlt));((conv=>whnf);apply bm<;>intro g2);rotate_left
  ·exfalso;simp only [oX,YD,w8,rA,Bool.eq_false_iff,ne_eq,Bool.and_eq_true,decide_eq_true_eq] at g1 g2;omega
  (conv=>whnf);refine n8 (QK ps hlt ?_) ?_
  ·simp [aA,aC];omega
  ((conv=>whnf);apply bm<;>intro g3);rotate_left
  ·exfalso;simp only [hwp,Bool.true_and] at g3;rw [show jE _=true from hw.1] at g3;cases g3
  ((conv=>whnf);apply bm<;>intro g4);rotate_left
  ·exfalso;rw [g4] at g2;cases g2
  (conv=>whnf);refine n8 (QK ps hlt ?_) ?_
  ·simp [aA,aC];omega
  ((conv=>whnf);apply bm<;>intro g5);rotate_left
  ·exfalso;simp only [hwp,Bool.true_and] at g5;rw [show jE _=true from hw.2] at g5;cases g5
  (conv=>whnf);refine⟨fun n e h nx=>n=0∧e=eI (.slice none 0 0) j (nW (fA ps i) ((ax,ay),(bx,b2))) (nW (fA ps i) ((cx,cy),(dx,dy))) false 0∧h=hE ((ax,ay),(bx,b2)) ((cx,cy),(dx,dy)) ps∧nx=3,⟨0,?_⟩,?_⟩
  ·refine aJ (e0:=eI (.slice none 0 0) j (nW (fA ps i) ((ax,ay),(bx,b2))) (nW (fA ps i) ((cx,cy),(dx,dy))) false 0) (h0:=hE ((ax,ay),(bx,b2)) ((cx,cy),(dx,dy)) ps) (n0:=3) ⟨rfl,rfl,rfl,rfl⟩ ?_ ?_ (by decide)
   ·unfold eI;((repeat' refine iE rfl rfl ?_);exact iN)
   unfold hE;((repeat'(first|refine iF rfl rfl ?_|refine iJ rfl rfl rfl rfl ?_));exact iN)
  rintro n e h nx ⟨rfl,rfl,rfl,rfl⟩;have hat:ps.take (i+1)=ps.take i++[fA ps i]:=by
   rw [nK hlt,List.take_add_one,List.getElem?_eq_getElem hlt];rfl
  have ho':(ps.take (i+1)).foldl (m9 ((ax,ay),(bx,b2)) ((cx,cy),(dx,dy))) []=m9 ((ax,ay),(bx,b2)) ((cx,cy),(dx,dy)) [] (fA ps i):=by
   rw [hat,List.foldl_append,← ho,ho0];rfl
  unfold eI hE
  repeat' first
   |((conv=>whnf)
     refine n8 (QK ps hlt ?_) ?_
     ·simp [aA,aC];omega)
   |(((conv=>whnf);apply bm<;>intro g))
  all_goals (conv=>whnf)
  ·clear g1 g2 g3 g4 g5;rename_i ga gb _;refine⟨4 - (i+1),by omega,?_⟩
   refine j5 (e0:=eE (.slice (some ⟨3,0,none⟩) 1 1) (j+1)) (h0:=IN ((ax,ay),(bx,b2)) ((cx,cy),(dx,dy)) ps [fA ps i]) (n0:=4) 3 4 (by decide) (by decide)
    ⟨i+1,j+1,[fA ps i],by omega,by omega,rfl,?_,.inr ⟨Nat.one_pos,rfl,rfl,rfl⟩⟩ ?_ ?_ ?_
   ·simp only [jR,beq_iff_eq] at ga gb;rw [ho',m9,if_pos ⟨ga,gb,rfl⟩];rfl
   ·unfold eE;((repeat' refine iE rfl rfl ?_);exact iN)
   ·unfold IN;((repeat'(first|refine iF rfl rfl ?_|refine iJ rfl rfl rfl rfl ?_));exact iN)
   unfold IN;((repeat' refine iK rfl ?_);exact iN)
  ·exfalso;simp only [qW,j0,aF,Bool.eq_false_iff,ne_eq,Bool.and_eq_true,decide_eq_true_eq] at g;omega
  ·exfalso;rw [g] at g2;cases g2
  ·clear g1 g2 g3 g4 g5;rename_i ga gb;refine⟨4 - (i+1),by omega,?_⟩;refine aJ (e0:=eE (.slice none 0 0) (j+1)) (h0:=hE ((ax,ay),(bx,b2)) ((cx,cy),(dx,dy)) ps) (n0:=3) ⟨i+1,j+1,[],by omega,by omega,rfl,?_,.inl ⟨rfl,rfl,rfl,rfl⟩⟩ ?_ ?_ (by decide)
   ·simp only [jR,beq_eq_false_iff_ne,ne_eq] at gb;rw [ho',m9,if_neg fun h=>gb h.2.1]
   ·unfold eE;((repeat' refine iE rfl rfl ?_);exact iN)
   unfold hE;((repeat'(first|refine iF rfl rfl ?_|refine iJ rfl rfl rfl rfl ?_));exact iN)
  ·exfalso;simp only [qW,j0,aF,Bool.eq_false_iff,ne_eq,Bool.and_eq_true,decide_eq_true_eq] at g;omega
  ·clear g1 g2 g3 g4 g5;rename_i ga;refine⟨4 - (i+1),by omega,?_⟩;refine aJ (e0:=eE (.slice none 0 0) (j+1)) (h0:=hE ((ax,ay),(bx,b2)) ((cx,cy),(dx,dy)) ps) (n0:=3) ⟨i+1,j+1,[],by omega,by omega,rfl,?_,.inl ⟨rfl,rfl,rfl,rfl⟩⟩ ?_ ?_ (by decide)
   ·simp only [jR,beq_eq_false_iff_ne,ne_eq] at ga;rw [ho',m9,if_neg fun h=>ga h.1]
   ·unfold eE;((repeat' refine iE rfl rfl ?_);exact iN)
   unfold hE;((repeat'(first|refine iF rfl rfl ?_|refine iJ rfl rfl rfl rfl ?_));exact iN)
  exfalso;simp only [qW,j0,aF,Bool.eq_false_iff,ne_eq,Bool.and_eq_true,decide_eq_true_eq] at g;omega
 have out_len:out.length≤4:=(by rw [ho];exact TB (by rw [List.length_take];omega));unfold eE IN;((conv=>whnf);apply bm<;>intro g1);rotate_left
 ·(conv=>whnf);have h4:i=4:=(by simp only [oX,rA,decide_eq_false_iff_not] at g1;omega);subst h4;have:rU ((ax,ay),(bx,b2)) ((cx,cy),(dx,dy))=out:=by
   rw [ho,hps];rfl
  rw [this];exact mF (q:=3) (h:=IN ((ax,ay),(bx,b2)) ((cx,cy),(dx,dy)) ps out) (nx:=4) (e:=none) bC hol rfl
 have hlt:i<ps.length:=(by simp [aA,aC] at g1;omega);have hwp:wide (fA ps i)=true:=(by rw [nK hlt];exact hww _ (List.getElem_mem hlt));((conv=>whnf);apply bm<;>intro g2);rotate_left
 ·exfalso;simp only [oX,YD,w8,rA,Bool.eq_false_iff,ne_eq,Bool.and_eq_true,decide_eq_true_eq] at g1 g2;omega
 (conv=>whnf);refine n8 (QK ps hlt ?_) ?_
 ·simp [aA,aC];omega
 ((conv=>whnf);apply bm<;>intro g3);rotate_left
 ·exfalso;simp only [hwp,Bool.true_and] at g3;rw [show jE _=true from hw.1] at g3;cases g3
 ((conv=>whnf);apply bm<;>intro g4);rotate_left
 ·exfalso;rw [g4] at g2;cases g2
 (conv=>whnf);refine n8 (QK ps hlt ?_) ?_
 ·simp [aA,aC];omega
 ((conv=>whnf);apply bm<;>intro g5);rotate_left
 ·exfalso;simp only [hwp,Bool.true_and] at g5;rw [show jE _=true from hw.2] at g5;cases g5
 (conv=>whnf);refine⟨fun n e h nx=>∃ (k:Nat) (jk:Int),jk=k∧k≤out.length∧n=out.length - k∧e=eI (.slice (some ⟨3,0,none⟩) out.length out.length) j (nW (fA ps i) ((ax,ay),(bx,b2))) (nW (fA ps i) ((cx,cy),(dx,dy))) (nR (fA ps i) (out.take k)) jk∧h=IN ((ax,ay),(bx,b2)) ((cx,cy),(dx,dy)) ps out∧nx=4,⟨out.length,?_⟩,?_⟩
 ·refine aJ (e0:=eI (.slice (some ⟨3,0,none⟩) out.length out.length) j (nW (fA ps i) ((ax,ay),(bx,b2))) (nW (fA ps i) ((cx,cy),(dx,dy))) false 0) (h0:=IN ((ax,ay),(bx,b2)) ((cx,cy),(dx,dy)) ps out) (n0:=4) ⟨0,0,rfl,Nat.zero_le _,rfl,rfl,rfl,rfl⟩ ?_ ?_ (by decide)
  ·unfold eI;((repeat' refine iE rfl rfl ?_);exact iN)
  unfold IN;((repeat'(first|refine iF rfl rfl ?_|refine iJ rfl rfl rfl rfl ?_));exact iN)
 rintro n e h nx ⟨k,jk,hjk,hk,rfl,rfl,rfl,rfl⟩;have hat:ps.take (i+1)=ps.take i++[fA ps i]:=by
  rw [nK hlt,List.take_add_one,List.getElem?_eq_getElem hlt];rfl
 have ho':(ps.take (i+1)).foldl (m9 ((ax,ay),(bx,b2)) ((cx,cy),(dx,dy))) []=m9 ((ax,ay),(bx,b2)) ((cx,cy),(dx,dy)) out (fA ps i):=by
  rw [hat,List.foldl_append,← ho];rfl
 unfold eI IN;((conv=>whnf);apply bm<;>intro f1)
 ·have hltk:k<out.length:=by simp [aA,aC] at f1;omega
  repeat' first
   |((conv=>whnf)
     refine n8 (QK out hltk ?_) ?_
     ·simp [aA,aC];omega)
   |((conv=>whnf)
     refine n8 (QK ps hlt ?_) ?_
     ·simp [aA,aC];omega)
   |(((conv=>whnf);apply bm<;>intro g))
  all_goals (conv=>whnf)
  ·clear g1 g2 g3 g4 g5;rename_i ga _ _;refine⟨out.length - (k+1),by omega,?_⟩;refine aJ (e0:=eI (.slice (some ⟨3,0,none⟩) out.length out.length) j (nW (fA ps i) ((ax,ay),(bx,b2))) (nW (fA ps i) ((cx,cy),(dx,dy))) (kD (fA out k) (fA ps i)) (jk+1)) (h0:=IN ((ax,ay),(bx,b2)) ((cx,cy),(dx,dy)) ps out) (n0:=4) ⟨k+1,jk+1,by omega,hltk,rfl,?_,rfl,rfl⟩ ?_ ?_ (by decide)
   ·simp only [jR,beq_iff_eq,beq_eq_false_iff_ne,ne_eq,Bool.not_eq_false] at ga;rw [GN hltk,ga];rfl
   ·unfold eI;((repeat' refine iE rfl rfl ?_);exact iN)
   unfold IN;((repeat'(first|refine iF rfl rfl ?_|refine iJ rfl rfl rfl rfl ?_));exact iN)
  ·exfalso;have:=out_len;simp only [qW,j0,aF,Bool.eq_false_iff,ne_eq,Bool.and_eq_true,decide_eq_true_eq] at g;omega
  ·exfalso;rw [g] at g2;cases g2
  ·exfalso;simp only [oX,YD,w8,rA,Bool.eq_false_iff,ne_eq,Bool.and_eq_true,decide_eq_true_eq] at g;omega
  ·clear g1 g2 g3 g4 g5;rename_i ga;refine⟨out.length - (k+1),by omega,?_⟩;refine aJ (e0:=eI (.slice (some ⟨3,0,none⟩) out.length out.length) j (nW (fA ps i) ((ax,ay),(bx,b2))) (nW (fA ps i) ((cx,cy),(dx,dy))) true (jk+1)) (h0:=IN ((ax,ay),(bx,b2)) ((cx,cy),(dx,dy)) ps out) (n0:=4) ⟨k+1,jk+1,by omega,hltk,rfl,?_,rfl,rfl⟩ ?_ ?_ (by decide)
   ·simp only [jR,beq_iff_eq,beq_eq_false_iff_ne,ne_eq,Bool.not_eq_false] at ga;rw [GN hltk,ga];rfl
   ·unfold eI;((repeat' refine iE rfl rfl ?_);exact iN)
   unfold IN;((repeat'(first|refine iF rfl rfl ?_|refine iJ rfl rfl rfl rfl ?_));exact iN)
  exfalso;simp only [qW,j0,aF,Bool.eq_false_iff,ne_eq,Bool.and_eq_true,decide_eq_true_eq] at g;omega
 have hkk:k=out.length:=by simp only [oX,rA,decide_eq_false_iff_not] at f1;omega
 repeat' first
  |((conv=>whnf)
    refine n8 (QK ps hlt ?_) ?_
    ·simp [aA,aC];omega)
  |(((conv=>whnf);apply bm<;>intro g))
 all_goals (conv=>whnf)
 ·exfalso;rename_i gc _;have:=Nat.le_of_ble_eq_true gc;omega
 ·exfalso;rename_i gc _;have:=Nat.le_of_ble_eq_true gc;omega
 ·exfalso;rename_i gc;have:=Nat.le_of_ble_eq_true gc;omega
 ·clear g1 g2 g3 g4 g5;rename_i ga gb gx _ _ _;refine⟨4 - (i+1),by omega,?_⟩
  refine j5 (e0:=eE (.slice (some ⟨3,0,none⟩) (out.length+1) (out.length+1)) (j+1)) (h0:=IN ((ax,ay),(bx,b2)) ((cx,cy),(dx,dy)) ps (out++[fA ps i])) (n0:=4) 3 5 (by decide) (by decide)
   ⟨i+1,j+1,out++[fA ps i],by omega,by omega,rfl,?_,.inr ⟨by rw [List.length_append];exact Nat.succ_pos _,by rw [List.length_append];rfl,rfl,rfl⟩⟩ ?_ ?_ ?_
  ·simp only [jR,mP,beq_iff_eq,Bool.not_eq_true'] at ga gb gx;rw [ho',m9,if_pos ⟨ga,gb,by rw [hkk,List.take_length] at gx;exact gx⟩]
  ·unfold eE;((repeat' refine iE rfl rfl ?_);exact iN)
  ·unfold IN;((repeat'(first|refine iW rfl rfl (bB (aD bC _) (aAT out _)) ?_|refine iF rfl rfl ?_|refine iJ rfl rfl rfl rfl ?_));exact iN)
  unfold IN;((repeat' refine iK rfl ?_);exact iN)
 ·exfalso;simp only [qW,j0,aF,Bool.eq_false_iff,ne_eq,Bool.and_eq_true,decide_eq_true_eq] at g;omega
 ·exfalso;have hf:(flat bC.fl out).length=out.length*2:=bE bC out;have hol4:out.length≤4:=(by rw [ho];exact TB (by rw [List.length_take];omega));simp only [w8,hf] at g;revert g;simp;omega
 ·exfalso;rw [g] at g2;cases g2
 ·clear g1 g2 g3 g4 g5;rename_i gx;refine⟨4 - (i+1),by omega,?_⟩;refine aJ (e0:=eE (.slice (some ⟨3,0,none⟩) out.length out.length) (j+1)) (h0:=IN ((ax,ay),(bx,b2)) ((cx,cy),(dx,dy)) ps out) (n0:=4) ⟨i+1,j+1,out,by omega,by omega,rfl,?_,.inr ⟨hol,rfl,rfl,rfl⟩⟩ ?_ ?_ (by decide)
  ·simp only [jR,mP,beq_eq_false_iff_ne,ne_eq,Bool.not_eq_false'] at gx;rw [ho',m9,if_neg fun h=>by rw [hkk,List.take_length] at gx;rw [gx] at h;exact absurd h.2.2 (by decide)]
  ·unfold eE;((repeat' refine iE rfl rfl ?_);exact iN)
  unfold IN;((repeat'(first|refine iF rfl rfl ?_|refine iJ rfl rfl rfl rfl ?_));exact iN)
 ·exfalso;simp only [qW,j0,aF,Bool.eq_false_iff,ne_eq,Bool.and_eq_true,decide_eq_true_eq] at g;omega
 ·clear g1 g2 g3 g4 g5;rename_i gx;refine⟨4 - (i+1),by omega,?_⟩;refine aJ (e0:=eE (.slice (some ⟨3,0,none⟩) out.length out.length) (j+1)) (h0:=IN ((ax,ay),(bx,b2)) ((cx,cy),(dx,dy)) ps out) (n0:=4) ⟨i+1,j+1,out,by omega,by omega,rfl,?_,.inr ⟨hol,rfl,rfl,rfl⟩⟩ ?_ ?_ (by decide)
  ·simp only [jR,mP,beq_eq_false_iff_ne,ne_eq,Bool.not_eq_false'] at gx;rw [ho',m9,if_neg fun h=>gx h.2.1]
  ·unfold eE;((repeat' refine iE rfl rfl ?_);exact iN)
  unfold IN;((repeat'(first|refine iF rfl rfl ?_|refine iJ rfl rfl rfl rfl ?_));exact iN)
 ·exfalso;simp only [qW,j0,aF,Bool.eq_false_iff,ne_eq,Bool.and_eq_true,decide_eq_true_eq] at g;omega
 ·clear g1 g2 g3 g4 g5;rename_i gx;refine⟨4 - (i+1),by omega,?_⟩;refine aJ (e0:=eE (.slice (some ⟨3,0,none⟩) out.length out.length) (j+1)) (h0:=IN ((ax,ay),(bx,b2)) ((cx,cy),(dx,dy)) ps out) (n0:=4) ⟨i+1,j+1,out,by omega,by omega,rfl,?_,.inr ⟨hol,rfl,rfl,rfl⟩⟩ ?_ ?_ (by decide)
  ·simp only [jR,mP,beq_eq_false_iff_ne,ne_eq,Bool.not_eq_false'] at gx;rw [ho',m9,if_neg fun h=>gx h.1]
  ·unfold eE;((repeat' refine iE rfl rfl ?_);exact iN)
  unfold IN;((repeat'(first|refine iF rfl rfl ?_|refine iJ rfl rfl rfl rfl ?_));exact iN)
 exfalso;simp only [qW,j0,aF,Bool.eq_false_iff,ne_eq,Bool.and_eq_true,decide_eq_true_eq] at g;omega
attribute [local irreducible] rU
def ME (s t:Sg):List (Int × Int)→Int
 |[]=>if aV s.1 s.2 t.1*aV s.1 s.2 t.2<0∧aV t.1 t.2 s.1*aV t.1 t.2 s.2<0 then 3 else 0
 |[p]=>if (kD p s.1=true∨kD p s.2=true)∧(kD p t.1=true∨kD p t.2=true) then 1 else 2
 |_::_::_=>4
theorem aI5 (s t:Sg):qC s t=ME s t (rU s t):=rfl
theorem aEs {s t:Sg}{l:List (Int × Int)}(h:rU s t=l):qC s t=ME s t l:=by
 rw [aI5,h]
def X72:Nat × XF:=(129,gX (s2 cS cS fun s t=>(jE s&&jE t,u8 (qC s t))))
theorem x72:cO Go.Proofs.Tryz.prog X72.1 X72.2:=x2 cS cS (xl:=[X70,X57]) (.cons x70 (.cons x57 .nil)) (fun _ _=>rfl) fun s t hp=>by
 obtain⟨⟨ax,ay⟩,⟨bx,b2⟩⟩:=s;obtain⟨⟨cx,cy⟩,⟨dx,dy⟩⟩:=t;have l1:=mY (ax,ay) (bx,b2) (cx,cy);have l2:=mY (ax,ay) (bx,b2) (dx,dy);have l3:=mY (cx,cy) (dx,dy) (ax,ay);have l4:=mY (cx,cy) (dx,dy) (bx,b2);have m1:=rP (A:=1) (B:=1) l1.1 l1.2 l2.1 l2.2;have m2:=rP (A:=1) (B:=1) l3.1 l3.2 l4.1 l4.2;have hp':=hp;simp only [jE,Bool.and_eq_true] at hp;unfold dE;((conv=>whnf);apply bm<;>intro g);rotate_left
 ·exfalso;rw [show _=true from hp'] at g;cases g
 (conv=>whnf);generalize he:rU _ _=L;have hm:qC ((ax,ay),(bx,b2)) ((cx,cy),(dx,dy))=ME ((ax,ay),(bx,b2)) ((cx,cy),(dx,dy)) L:=aEs he;clear he g hp';rcases L with _|⟨p,_|⟨q,r⟩⟩
 ·repeat' ((conv=>whnf);apply bm<;>intro g)
  all_goals (conv=>whnf)
  all_goals (clear l1 l2 l3 l4)
  all_goals (try (show u8 _=u8 (qC ((ax,ay),(bx,b2)) ((cx,cy),(dx,dy)));rw [hm];clear hm))
  all_goals (simp only [OK,oX,j0,jR,rA,aF,EY,Bool.and_eq_true,beq_iff_eq,beq_eq_false_iff_ne,ne_eq,decide_eq_true_eq,decide_eq_false_iff_not,not_and,Bool.not_eq_true',Bool.not_eq_false'] at *)
  all_goals first
   |(simp only [ME,u8];simp_all;done)
   |(simp_all;done)
   |(simp only [Bool.and_eq_false_iff,decide_eq_false_iff_not] at *;omega)
   |(rw [ME,if_neg fun h=>g h.1];done)
 ·repeat' ((conv=>whnf);apply bm<;>intro g)
  all_goals (conv=>whnf)
  all_goals (clear l1 l2 l3 l4 m1 m2 hp)
  all_goals (show u8 _=u8 (qC ((ax,ay),(bx,b2)) ((cx,cy),(dx,dy)));rw [hm];clear hm)
  all_goals (simp only [L4,w8,OK,oX,j0,jR,rA,aF,EY,beq_iff_eq,beq_eq_false_iff_ne,ne_eq] at *)
  all_goals (simp only [ME,u8];simp_all [kD] <;> omega)
 ((conv=>whnf);apply bm<;>intro g)
 ·(conv=>whnf);show u8 _=u8 (qC ((ax,ay),(bx,b2)) ((cx,cy),(dx,dy)));rw [hm];rfl
 exfalso;simp [oX,rA] at g;omega
def fF (s t:Sg):Int:=if dL s=true∧dL t=true then gV s t else 0
def X22:Nat × XF:=(115,gX (s2 cS cS fun s t=>(true,u8 (fF s t))))
theorem x22:cO Go.Proofs.Tryz.prog X22.1 X22.2:=x2 cS cS (xl:=[X64,X68]) (.cons x64 (.cons x68 .nil)) (fun _ _=>rfl) fun s t _=>by
 obtain⟨⟨ax,ay⟩,⟨bx,b2⟩⟩:=s;obtain⟨⟨cx,cy⟩,⟨dx,dy⟩⟩:=t;unfold dE
 repeat' ((conv=>whnf);apply bm<;>intro g)
 all_goals (conv=>whnf)
 all_goals (simp only [jR,mP,EY,Bool.not_eq_true',Bool.not_eq_false',beq_iff_eq,beq_eq_false_iff_ne,ne_eq,Bool.not_eq_false,Bool.not_eq_true] at *)
 all_goals first
  |(show u8 _=u8 _;simp [fF, *];done)
  |(simp_all [qF];done)
  |trace_state
def X25:Nat × XF:=(72,gX (s2 cS cS fun s t=>(true,u8 (fF s t))))
theorem x25:cO Go.Proofs.Tryz.prog X25.1 X25.2:=x2 cS cS (xl:=[X66,X72]) (.cons x66 (.cons x72 .nil)) (fun _ _=>rfl) fun s t _=>by
 have e:=aAw s t;obtain⟨⟨ax,ay⟩,⟨bx,b2⟩⟩:=s;obtain⟨⟨cx,cy⟩,⟨dx,dy⟩⟩:=t;unfold dE
 repeat' ((conv=>whnf);apply bm<;>intro g)
 all_goals (conv=>whnf)
 all_goals (simp only [jR,mP,EY,Bool.not_eq_true',Bool.not_eq_false',beq_iff_eq,beq_eq_false_iff_ne,ne_eq,Bool.not_eq_false,Bool.not_eq_true] at *)
 all_goals first
  |(show u8 _=u8 _;simp [fF, *];done)
  |(simp_all [qF];done)
  |trace_state
def aL6:Nat × XF:=(109,gX (s2 cP cP fun a b=>(true,iv (kN a b))))
theorem aOg:cO Go.Proofs.Tryz.prog aL6.1 aL6.2:=x2 cP cP (xl:=[R6,aEM]) (.cons UE (.cons aJR .nil)) (fun _ _=>rfl) fun a b _=>by
 obtain⟨ax,ay⟩:=a;obtain⟨bx,b_y⟩:=b;unfold dE
 conv=>whnf
 refine⟨[iO ax bx,iO ay b_y],⟨rfl,_,_,_,_,rfl,rfl⟩,?_⟩
 conv=>whnf
 rfl
section
variable {α β γ δ:Type}(a:Cd α)(b:Cd β)(c:Cd γ)(d:Cd δ)
def s4 (F:α→β→γ→δ→Bool × Value):List Value→Option (Bool × Value)
 |[u,v,w,t]=>(match a.dec u with|some x=>(match b.dec v with|some y=>(match c.dec w with|some z=>(match d.dec t with|some s=>some (F x y z s)|none=>none)|none=>none)|none=>none)|none=>none)
 |_=>none
theorem aK2 {F:α→β→γ→δ→Bool × Value}{args:List Value}{r:Bool × Value}(h:s4 a b c d F args=some r):∃ x y z s,args=[a.enc x,b.enc y,c.enc z,d.enc s]∧F x y z s=r:=by
 unfold s4 at h;split at h
 ·split at h
  ·rename_i x e;split at h
   ·rename_i y e2;split at h
    ·rename_i z e3;split at h
     ·rename_i s e4;injection h with h;exact⟨x,y,z,s,by rw [a.ok _ _ e,b.ok _ _ e2,c.ok _ _ e3,d.ok _ _ e4],h⟩
     ·cases h
    ·cases h
   ·cases h
  ·cases h
 ·cases h
theorem x4' {xl:List (Nat × XF)}(hx:lP xl){f:Nat}{F:α→β→γ→δ→Bool × Value}(hg:∀ x y z s,gT (F x y z s).2=true)(h:∀ x y z s,(F x y z s).1=true→dE xl f [a.enc x,b.enc y,c.enc z,d.enc s] (F x y z s).2):cO Go.Proofs.Tryz.prog f (gX (s4 a b c d F)) :=
 yE (aH hx) fun args v hs=>by
  obtain⟨x,y,z,s,rfl,e⟩:=aK2 a b c d hs;have h1:(F x y z s).1=true:=(by rw [e]);have h2:(F x y z s).2=v:=(by rw [e]);subst h2;exact⟨by simp [eX,a.gr,b.gr,c.gr,d.gr],hg x y z s,h x y z s h1⟩
end
theorem aID {b:Bool}(h:aA.A.eqB b false=true):b=false:=by cases b <;> first|rfl|cases h
theorem aJf {b:Bool}(h:aA.A.eqB b false=false):b=true:=by cases b <;> first|rfl|cases h
def mxI (a b:Int):Int:=if b > a then b else a
def mnI (a b:Int):Int:=if b<a then b else a
def apI (a b c d:Int):Bool:=decide (mxI a b<mnI c d) || decide (mxI c d<mnI a b)
def aJF:Nat × XF:=(149,gX (s4 cI cI cI cI fun a b c d=>(true,.bool (apI a b c d))))
theorem aQL:cO Go.Proofs.Tryz.prog aJF.1 aJF.2:=x4' cI cI cI cI (xl:=[]) .nil (fun _ _ _ _=>rfl) fun a b c d _=>by
 unfold dE
 repeat' (conv=>whnf
          apply bm<;>intro h)
 all_goals (conv=>whnf)
 all_goals (show _=Value.bool (apI a b c d))
 ·have h1:decide (mxI a b<mnI c d)=false:=aID h;unfold apI;rw [h1];rfl
 have h1:decide (mxI a b<mnI c d)=true:=aJf h;unfold apI;rw [h1];rfl
def pH (s t:Sg):Bool:=apI s.1.1 s.2.1 t.1.1 t.2.1 || apI s.1.2 s.2.2 t.1.2 t.2.2
def aF6:Nat × XF:=(90,gX (s2 cS cS fun s t=>(true,.bool (pH s t))))
theorem aNw:cO Go.Proofs.Tryz.prog aF6.1 aF6.2:=x2 cS cS (xl:=[aJF]) (.cons aQL .nil) (fun _ _=>rfl) fun s t _=>by
 obtain⟨⟨ax,ay⟩,⟨bx,b2⟩⟩:=s;obtain⟨⟨cx,cy⟩,⟨dx,dy⟩⟩:=t;unfold dE
 repeat' (conv=>whnf
          apply bm<;>intro h)
 all_goals (conv=>whnf)
 ·have h1:apI ax bx cx dx=false:=aID h;show _=Value.bool (pH _ _);unfold pH;rw [h1];rfl
 have h1:apI ax bx cx dx=true:=aJf h;show _=Value.bool (pH _ _);unfold pH;rw [h1];rfl
def JE (s t:Sg):Int:=if pH s t=true then 0 else fF s t
def XJ:Nat × XF:=(67,gX (s2 cS cS fun s t=>(true,u8 (JE s t))))
theorem aJ4:cO Go.Proofs.Tryz.prog XJ.1 XJ.2:=x2 cS cS (xl:=[aF6,X22]) (.cons aNw (.cons x22 .nil)) (fun _ _=>rfl) fun s t _=>by
 obtain⟨⟨ax,ay⟩,⟨bx,b2⟩⟩:=s;obtain⟨⟨cx,cy⟩,⟨dx,dy⟩⟩:=t;unfold dE
 repeat' (conv=>whnf
          apply bm<;>intro h)
 all_goals (conv=>whnf)
 ·have h1:pH ((ax,ay),(bx,b2)) ((cx,cy),(dx,dy))=true:=h;show _=u8 _;simp only [JE,h1,if_true];rfl
 have h1:pH ((ax,ay),(bx,b2)) ((cx,cy),(dx,dy))=false:=h;show _=u8 _;simp only [JE,h1];rfl
def eO (a b:Int × Int):Bool:=decide (a.1<b.1) || (decide (a.1=b.1)&&decide (a.2<b.2))
def aLi:Nat × XF:=(134,gX (s2 cP cP fun a b=>(true,.bool (eO a b))))
theorem aQZ:cO Go.Proofs.Tryz.prog aLi.1 aLi.2:=x2 cP cP (xl:=[]) .nil (fun _ _=>rfl) fun a b _=>by
 obtain⟨ax,ay⟩:=a;obtain⟨bx,b_y⟩:=b;unfold dE
 repeat' ((conv=>whnf);apply bm<;>intro h)
 all_goals (conv=>whnf)
 all_goals (simp only [oX,L4,jR,mP,beq_iff_eq,beq_eq_false_iff_ne,ne_eq,Bool.not_eq_false,Bool.not_eq_true,decide_eq_true_eq,decide_eq_false_iff_not] at *)
 all_goals (show _=Value.bool (eO _ _);unfold eO;simp_all)
def aKG (a b c:Int × Int):Int:=(b.1 - a.1)*(c.1 - a.1)+(b.2 - a.2)*(c.2 - a.2)
def aFe:Nat × XF:=(102,gX (s3 cP cP cP fun a b c=>(wide a&&wide b&&wide c,iv (aP a b c))))
theorem aKe:cO Go.Proofs.Tryz.prog aFe.1 aFe.2:=x3 cP cP cP (xl:=[]) .nil (fun _ _ _=>rfl) fun a b c hp=>by
 obtain⟨ax,ay⟩:=a;obtain⟨bx,b_y⟩:=b;obtain⟨cx,cy⟩:=c;simp only [wide,Bool.and_eq_true,decide_eq_true_eq] at hp;have m1:=rP (a:=bx - ax) (b:=cy - ay) (A:=2000000) (B:=2000000) (by omega) (by omega) (by omega) (by omega);have m2:=rP (a:=b_y - ay) (b:=cx - ax) (A:=2000000) (B:=2000000) (by omega) (by omega) (by omega) (by omega);unfold dE
 repeat' (conv=>whnf
          apply bm<;>intro h)
 all_goals (conv=>whnf)
 all_goals (simp [aA,aC,aF] at *)
 all_goals first|omega|simp [aP,iv]
def aMj:Nat × XF:=(198,gX (s3 cP cP cP fun a b c=>(wide a&&wide b&&wide c,iv (aKG a b c))))
theorem aR1:cO Go.Proofs.Tryz.prog aMj.1 aMj.2:=x3 cP cP cP (xl:=[]) .nil (fun _ _ _=>rfl) fun a b c hp=>by
 obtain⟨ax,ay⟩:=a;obtain⟨bx,b_y⟩:=b;obtain⟨cx,cy⟩:=c;simp only [wide,Bool.and_eq_true,decide_eq_true_eq] at hp;have m1:=rP (a:=bx - ax) (b:=cx - ax) (A:=2000000) (B:=2000000) (by omega) (by omega) (by omega) (by omega);have m2:=rP (a:=b_y - ay) (b:=cy - ay) (A:=2000000) (B:=2000000) (by omega) (by omega) (by omega) (by omega);unfold dE
 repeat' (conv=>whnf
          apply bm<;>intro h)
 all_goals (conv=>whnf)
 all_goals (simp [aA,aC,aF] at *)
 all_goals first|omega|simp [aKG,iv]
def D7 (v u w:Int × Int):Int:=if aP v u w<0 then 0 else if 0<aP v u w then 2 else if aKG v u w<0 then 1 else 3
def aKY:Nat × XF:=(194,gX (s3 cP cP cP fun a b c=>(wide a&&wide b&&wide c,iv (D7 a b c))))
theorem aPl:cO Go.Proofs.Tryz.prog aKY.1 aKY.2:=x3 cP cP cP (xl:=[aFe,aMj]) (.cons aKe (.cons aR1 .nil)) (fun _ _ _=>rfl) fun a b c hp=>by
 obtain⟨ax,ay⟩:=a;obtain⟨bx,b_y⟩:=b;obtain⟨cx,cy⟩:=c;simp only [Bool.and_eq_true] at hp;unfold dE
 repeat' ((conv=>whnf);apply bm<;>intro h)
 all_goals (conv=>whnf)
 all_goals (simp only [oX,EY,decide_eq_true_eq,decide_eq_false_iff_not] at *)
 all_goals first
  |(show iv _=iv (D7 _ _ _);unfold D7;(repeat' split) <;> first|rfl|omega)
  |(simp_all;done)
  |trace_state
def rR (v u w x:Int × Int):Bool:=if D7 v u w=D7 v u x then decide (aP v w x<0) else decide (D7 v u w<D7 v u x)
def aL0:Nat × XF:=(185,gX (s4 cP cP cP cP fun a b c d=>(wide a&&wide b&&wide c&&wide d,.bool (rR a b c d))))
theorem aQy:cO Go.Proofs.Tryz.prog aL0.1 aL0.2:=x4' cP cP cP cP (xl:=[aKY,aFe]) (.cons aPl (.cons aKe .nil)) (fun _ _ _ _=>rfl) fun a b c d hp=>by
 obtain⟨ax,ay⟩:=a;obtain⟨bx,b_y⟩:=b;obtain⟨cx,cy⟩:=c;obtain⟨dx,dy⟩:=d;simp only [Bool.and_eq_true] at hp;unfold dE
 repeat' ((conv=>whnf);apply bm<;>intro h)
 all_goals (conv=>whnf)
 all_goals (simp only [oX,L4,mP,EY,Bool.not_eq_true',Bool.not_eq_false',decide_eq_true_eq,decide_eq_false_iff_not] at *)
 all_goals first
  |(show _=Value.bool (rR _ _ _ _);unfold rR;(repeat' split) <;> first|rfl|(simp_all;done)|omega)
  |(simp_all;done)
  |trace_state
abbrev Pt:=Int × Int
structure Ed where
 a:Int
 b:Int
 l:Int
 r:Int
 n:Int
def bL:El Ed:=⟨fun e=>[iv e.a,iv e.b,iv e.l,iv e.r,iv e.n],5,fun _=>rfl,fun _=>rfl,by decide⟩
def bO (m:List Ed)(i:Nat):Ed:=m.getD i ⟨0,0,0,0,0⟩
theorem O1 {m:List Ed}{i:Nat}(h:i<m.length):bO m i=m[i]:=by
 unfold bO;rw [List.getD_eq_getElem?_getD,List.getElem?_eq_getElem h];rfl
theorem C5 (m:List Ed){i o:Nat}(hi:i<m.length)(ho:o=i*5):pC (flat bL.fl m) o 5=some [iv (bO m i).a,iv (bO m i).b,iv (bO m i).l,iv (bO m i).r,iv (bO m i).n]:=by
 rw [O1 hi];exact vL bL m hi ho
theorem H7 (m:List Ed)(k:Nat){i o:Nat}{v:Value}(hi:i<m.length)(hk:(bL.fl (bO m i))[k]? = some v)(hk5:k<5)(ho:o=i*5+k):nth (flat bL.fl m) o=some v:=by
 rw [O1 hi] at hk;exact m0 bL m hi hk hk5 ho
theorem jA (l:List Pt){i o:Nat}(hi:i<l.length)(ho:o=i*2):pC (flat bC.fl l) o 2=some [iv (fA l i).1,iv (fA l i).2]:=by
 rw [nK hi];exact vL bC l hi ho
theorem aG {α:Type}(E:El α){l:List α}{k c:Nat}{wr g:Bool}{sz:Nat}{h:Heap}(hk:look h k=some (.cells wr g sz (flat E.fl l))):jG E h (.slice (some ⟨k,0,none⟩) l.length c) l :=
 ⟨rfl,wr,g,sz,_,hk,by rw [List.drop_zero,List.take_length]⟩
def bR (m:List Ed)(d:Int):Int:=if d % 2=0 then (bO m (d / 2).toNat).a else (bO m (d / 2).toNat).b
def gH (m:List Ed)(d:Int):Int:=bR m (d+1 - 2*(d % 2))
abbrev MS:=List Pt→List Ed→Int→List Value→Option (Bool × Value)
def nB (m:List Ed)(d:Int):Bool:=decide (0≤d)&&decide (d<2*m.length)&&decide (m.length≤1000000)
def sMD (F:List Pt→List Ed→Int→Int→Bool × Value):MS:=fun l m n r=>match r with
 |[.int .i64 d]=>some (F l m n d)
 |_=>none
theorem wY {F:List Pt→List Ed→Int→Int→Bool × Value}{l:List Pt}{m:List Ed}{n:Int}{r:List Value}{v:Value}(h:sMD F l m n r=some (true,v)):∃ d,r=[iv d]∧(F l m n d).1=true∧(F l m n d).2=v:=by
 unfold sMD at h;split at h
 ·rename_i d;injection h with h;exact⟨d,rfl,by rw [h],by rw [h]⟩
 ·cases h
def X87:Nat × XF:=(100,mX bC bL (sMD fun l m n d=>(nB m d,iv (bR m d))))
theorem x87:cO Go.Proofs.Tryz.prog X87.1 X87.2:=mV bC bL (aH (xl:=[]) .nil) fun l m n r v hs=>by
 obtain⟨d,rfl,hd,rfl⟩:=wY hs;simp only [nB,Bool.and_eq_true,decide_eq_true_eq] at hd;have q1:d.tdiv 2=d / 2:=Int.tdiv_eq_ediv_of_nonneg hd.1.1;have q2:d.tmod 2=d % 2:=Int.tmod_eq_emod_of_nonneg hd.1.1;refine⟨rfl,rfl,fun c1 c2=>?_⟩;((conv=>whnf);apply bm<;>intro h1)
 ·((conv=>whnf);apply bm<;>intro h2)
  ·(conv=>whnf);refine n8 (C5 m (i:=(d / 2).toNat) (by omega) ?_) ?_
   ·show _+Int.toNat (d.tdiv 2)*5=_;rw [q1];omega
   ((conv=>whnf);apply bm<;>intro h4)
   ·(conv=>whnf);have h4:decide (d.tmod 2=0)=true:=h4;simp only [q2,decide_eq_true_eq] at h4;simp only [bR,if_pos h4]
   (conv=>whnf);have h4:decide (d.tmod 2=0)=false:=h4;simp only [q2,decide_eq_false_iff_not] at h4;simp only [bR,if_neg h4]
  simp only [aA,aC,q1] at h2;simp at h2;have:=h2 (by omega);omega
 simp only [aA,aC,q1,aF] at h1;simp at h1;omega
theorem aEK {m:List Ed}{d:Int}(h:nB m d=true):nB m (d+1 - 2*(d % 2))=true:=by
 simp only [nB,Bool.and_eq_true,decide_eq_true_eq] at *;omega
def aD7:Nat × XF:=(101,mX bC bL (sMD fun l m n d=>(nB m d,iv (gH m d))))
theorem aKQ:cO Go.Proofs.Tryz.prog aD7.1 aD7.2:=mV bC bL (aH (xl:=[X87]) (.cons x87 .nil)) fun l m n r v hs=>by
 obtain⟨d,rfl,hd,rfl⟩:=wY hs;have hd2:=aEK hd;simp only [nB,Bool.and_eq_true,decide_eq_true_eq] at hd;have q2:d.tmod 2=d % 2:=Int.tmod_eq_emod_of_nonneg hd.1.1;refine⟨rfl,rfl,fun c1 c2=>?_⟩
 repeat' ((conv=>whnf);apply bm<;>intro h1)
 all_goals try (simp only [aA,aC,aF,q2] at h1;simp at h1;omega)
 (conv=>whnf);have e:d+1 - 2*(d.tmod 2)=d+1 - 2*(d % 2):=(by rw [q2]);refine⟨l,m,IU bC rfl,aG bL rfl,?_⟩;((conv=>whnf);apply bm<;>intro h2)
 ·(conv=>whnf);show iv (bR m (d+1 - 2*(d.tmod 2)))=iv (gH m d);rw [e];rfl
 have h2:nB m (d+1 - 2*(d.tmod 2))=false:=h2;rw [e,hd2] at h2;cases h2
def gP:El Bool:=⟨fun b=>[.bool b],1,fun _=>rfl,fun _=>rfl,by decide⟩
def cV (k:List Bool)(i:Nat):Bool:=k.getD i false
theorem qZ {k:List Bool}{i:Nat}(h:i<k.length):cV k i=k[i]:=by
 unfold cV;rw [List.getD_eq_getElem?_getD,List.getElem?_eq_getElem h];rfl
theorem Q4 (k:List Bool){i o:Nat}(hi:i<k.length)(ho:o=i*1):nth (flat gP.fl k) o=some (.bool (cV k i)):=by
 rw [qZ hi];exact m0 gP k hi (k:=0) rfl Nat.one_pos (by rw [ho];rfl)
def eF (l:List Pt)(i:Int):Pt:=fA l i.toNat
def kS (l:List Pt)(m:List Ed):Bool:=l.all wide&&m.all (fun e=>decide (0≤e.a)&&decide (e.a<l.length)&&decide (0≤e.b)&&decide (e.b<l.length))&&decide (m.length≤1000)&&decide (l.length≤1000)
theorem pL {l:List Pt}{m:List Ed}(h:kS l m=true){i:Nat}(hi:i<m.length):0≤(bO m i).a∧(bO m i).a<l.length∧0≤(bO m i).b∧(bO m i).b<l.length:=by
 simp only [kS,Bool.and_eq_true] at h;have:=List.all_eq_true.1 h.1.1.2 _ (List.getElem_mem hi);rw [O1 hi];simp only [Bool.and_eq_true,decide_eq_true_eq] at this;omega
theorem rE {l:List Pt}{m:List Ed}(h:kS l m=true){d:Int}(hd:nB m d=true):0≤bR m d∧bR m d<l.length:=by
 simp only [nB,Bool.and_eq_true,decide_eq_true_eq] at hd;have:=pL h (i:=(d / 2).toNat) (by omega);unfold bR;split <;> omega
theorem CR {l:List Pt}{m:List Ed}(h:kS l m=true){d:Int}(hd:nB m d=true):0≤gH m d∧gH m d<l.length:=rE h (aEK hd)
theorem rD {l:List Pt}{m:List Ed}(h:kS l m=true){i:Int}(h0:0≤i)(h1:i<l.length):wide (eF l i)=true:=by
 simp only [kS,Bool.and_eq_true] at h;unfold eF;rw [nK (by omega)];exact List.all_eq_true.1 h.1.1.1 _ (List.getElem_mem _)
def gQ (l:List Pt)(m:List Ed)(k:List Bool)(d:Int):Nat→Int
 |0=>-1
 |j+1=>if (cV k j=true∧bR m j=gH m d)∧(gQ l m k d j<0∨rR (eF l (gH m d)) (eF l (bR m d)) (eF l (gH m j)) (eF l (gH m (gQ l m k d j)))=true) then j else gQ l m k d j
theorem BI (l:List Pt)(m:List Ed)(k:List Bool)(d:Int):∀ j:Nat,-1≤gQ l m k d j∧gQ l m k d j<j
 |0=>by unfold gQ;omega
 |j+1=>by
  have:=BI l m k d j;unfold gQ;split <;> omega
theorem aFW {l:List Pt}{m:List Ed}{k:List Bool}{d:Int}{j:Nat}(h:¬ ((cV k j=true∧bR m j=gH m d)∧(gQ l m k d j<0∨rR (eF l (gH m d)) (eF l (bR m d)) (eF l (gH m j)) (eF l (gH m (gQ l m k d j)))=true))):gQ l m k d (j+1)=gQ l m k d j:=by
 conv=>lhs;unfold gQ
 exact if_neg h
theorem aJM {l:List Pt}{m:List Ed}{k:List Bool}{d:Int}{j:Nat}(h:((cV k j=true∧bR m j=gH m d)∧(gQ l m k d j<0∨rR (eF l (gH m d)) (eF l (bR m d)) (eF l (gH m j)) (eF l (gH m (gQ l m k d j)))=true))):gQ l m k d (j+1)=j:=by
 conv=>lhs;unfold gQ
 exact if_pos h
def aMh (l:List Pt)(m:List Ed)(n:Int)(k:List Bool):List Value→Option (Bool × Value)
 |[.int .i64 d]=>some (kS l m&&nB m d&&decide (k.length=2*m.length),iv (gQ l m k d (2*m.length)))
 |_=>none
theorem aEG {l:List Pt}{m:List Ed}{n:Int}{k:List Bool}{r:List Value}{v:Value}(h:aMh l m n k r=some (true,v)):∃ d,r=[iv d]∧kS l m=true∧nB m d=true∧k.length=2*m.length∧v=iv (gQ l m k d (2*m.length)):=by
 unfold aMh at h;split at h
 ·rename_i d;injection h with h;injection h with h1 h2;simp only [Bool.and_eq_true,decide_eq_true_eq] at h1;exact⟨d,rfl,h1.1.1,h1.1.2,h1.2,h2.symm⟩
 ·cases h
def cR (a b:Nat)(c1 c2:Nat)(n:Int):bV:=.cells true false 1 [.slice (some ⟨0,0,none⟩) a c1,.slice (some ⟨1,0,none⟩) b c2,iv n]
def XT (k:List Bool)(c3:Nat)(d at_ best j:Int):List (Nat × Value):=[(2,.slice (some ⟨2,0,none⟩) k.length c3),(3,.pointer (some ⟨3,0,none⟩)),(7,.pointer (some ⟨4,0,none⟩)),(8,iv at_),(9,.pointer (some ⟨5,0,none⟩)),(10,iv best),(11,iv j)]
def YM (l:List Pt)(m:List Ed)(k:List Bool)(c1 c2:Nat)(n:Int)(u v:Pt):Heap:=(5,.cells true false 1 [iv v.1,iv v.2])::(4,.cells true false 1 [iv u.1,iv u.2])::(3,cR l.length m.length c1 c2 n)::kJ bC bL gP l m k
def X79:Nat × XF:=(172,mLX bC bL gP aMh)
theorem x79:cO Go.Proofs.Tryz.prog X79.1 X79.2:=aDL bC bL gP (aH (xl:=[X87,aD7,aL0]) (.cons x87 (.cons aKQ (.cons aQy .nil)))) fun l m n k r v hs=>by
 obtain⟨d,rfl,hM,hd,hk,rfl⟩:=aEG hs;refine⟨rfl,rfl,fun c1 c2 c3=>?_⟩;have hf:=rE hM hd;have ht:=CR hM hd;have hm:m.length≤1000:=(by simp only [kS,Bool.and_eq_true,decide_eq_true_eq] at hM;exact hM.1.2);(conv=>whnf);refine⟨l,m,aG bC rfl,aG bL rfl,?_⟩;((conv=>whnf);apply bm<;>intro h1);rotate_left
 ·exfalso;rw [show nB m d=false from h1] at hd;cases hd
 ((conv=>whnf);apply bm<;>intro h2);rotate_left
 ·exfalso;simp [aA,aC] at h2;omega
 (conv=>whnf);refine n8 (jA l (i:=(bR m d).toNat) (by omega) ?_) ?_
 ·show _+Int.toNat (bR m d)*2=_;omega
 (conv=>whnf);refine⟨l,m,aG bC rfl,aG bL rfl,?_⟩;((conv=>whnf);apply bm<;>intro h3);rotate_left
 ·exfalso;rw [show nB m d=false from h3] at hd;cases hd
 ((conv=>whnf);apply bm<;>intro h4);rotate_left
 ·exfalso;simp [aA,aC] at h4;omega
 (conv=>whnf);refine n8 (jA l (i:=(gH m d).toNat) (by omega) ?_) ?_
 ·show _+Int.toNat (gH m d)*2=_;omega
 (conv=>whnf);refine⟨fun q e h nx=>∃ (i:Nat) (j:Int),j=i∧i≤2*m.length∧q=2*m.length - i∧e=XT k c3 d (gH m d) (gQ l m k d i) j∧h=YM l m k c1 c2 n (eF l (bR m d)) (eF l (gH m d))∧nx=6,⟨2*m.length,?_⟩,?_⟩
 ·refine aJ (e0:=XT k c3 d (gH m d) (-1) 0) (h0:=YM l m k c1 c2 n (eF l (bR m d)) (eF l (gH m d))) (n0:=6) ⟨0,0,rfl,Nat.zero_le _,rfl,rfl,rfl,rfl⟩ ?_ ?_ (by decide)
  ·unfold XT;((repeat' refine iE rfl rfl ?_);exact iN)
  unfold YM cR kJ;((repeat'(first|refine iF rfl rfl ?_|refine iC rfl rfl rfl ?_|refine iJ rfl rfl rfl rfl ?_));exact iN)
 rintro q e h nx ⟨i,j,hj,hi,rfl,rfl,rfl,rfl⟩;unfold XT YM cR kJ;have lo:=BI l m k d i;((conv=>whnf);apply bm<;>intro h5);rotate_left
 ·exfalso;simp [aA,aC,aF] at h5;omega
 ((conv=>whnf);apply bm<;>intro h6);rotate_left
 ·have hge:i=2*m.length:=(by simp [aA,aC] at h6;omega);(conv=>whnf);rw [hge]
 have hlt:i<2*m.length:=(by simp [aA,aC] at h6;omega);have hdj:nB m j=true:=(by simp only [nB,Bool.and_eq_true,decide_eq_true_eq];omega);have hfj:=rE hM hdj;have htj:=CR hM hdj;((conv=>whnf);apply bm<;>intro h7);rotate_left
 ·exfalso;simp [aA,aC] at h7;omega
 (conv=>whnf);refine iU (Q4 k (i:=i) (by omega) ?_) ?_
 ·show _+Int.toNat j*1=_;omega
 ((conv=>whnf);apply bm<;>intro h8);rotate_left
 ·have h8:cV k i=false:=(by simpa [aA,aC] using h8);((conv=>whnf);apply bm<;>intro h11)
  ·(conv=>whnf);refine⟨2*m.length - (i+1),by omega,?_⟩;refine aJ (e0:=XT k c3 d (gH m d) (gQ l m k d i) (j+1)) (h0:=YM l m k c1 c2 n (eF l (bR m d)) (eF l (gH m d))) (n0:=6) ⟨i+1,j+1,by omega,by omega,rfl,?_,rfl,rfl⟩ ?_ ?_ (by decide)
   ·rw [aFW (fun hh=>by rw [h8] at hh;cases hh.1.1)];rfl
   ·unfold XT;((repeat' refine iE rfl rfl ?_);exact iN)
   unfold YM cR kJ;((repeat'(first|refine iF rfl rfl ?_|refine iC rfl rfl rfl ?_|refine iJ rfl rfl rfl rfl ?_));exact iN)
  exfalso;simp [aA,aC,aF] at h11;omega
 (conv=>whnf);refine⟨l,m,aG bC rfl,aG bL rfl,?_⟩;((conv=>whnf);apply bm<;>intro h9);rotate_left
 ·exfalso;rw [show nB m j=false from h9] at hdj;cases hdj
 ((conv=>whnf);apply bm<;>intro h10)
 ·have h10:bR m j≠gH m d:=(by simpa [aA,aC] using h10);((conv=>whnf);apply bm<;>intro h11)
  ·(conv=>whnf);refine⟨2*m.length - (i+1),by omega,?_⟩;refine aJ (e0:=XT k c3 d (gH m d) (gQ l m k d i) (j+1)) (h0:=YM l m k c1 c2 n (eF l (bR m d)) (eF l (gH m d))) (n0:=6) ⟨i+1,j+1,by omega,by omega,rfl,?_,rfl,rfl⟩ ?_ ?_ (by decide)
   ·rw [aFW (fun hh=>h10 (by rw [hj];exact hh.1.2))];rfl
   ·unfold XT;((repeat' refine iE rfl rfl ?_);exact iN)
   unfold YM cR kJ;((repeat'(first|refine iF rfl rfl ?_|refine iC rfl rfl rfl ?_|refine iJ rfl rfl rfl rfl ?_));exact iN)
  exfalso;simp [aA,aC,aF] at h11;omega
 have h10:bR m j=gH m d:=(by simpa [aA,aC] using h10);(conv=>whnf);refine⟨l,m,aG bC rfl,aG bL rfl,?_⟩;((conv=>whnf);apply bm<;>intro h11);rotate_left
 ·exfalso;rw [show nB m j=false from h11] at hdj;cases hdj
 ((conv=>whnf);apply bm<;>intro h12);rotate_left
 ·exfalso;simp [aA,aC] at h12;omega
 (conv=>whnf);refine n8 (jA l (i:=(gH m j).toNat) (by omega) ?_) ?_
 ·show _+Int.toNat (gH m j)*2=_;omega
 have h8:cV k i=true:=(by simpa [aA,aC] using h8);have h10':bR m i=gH m d:=(by rw [← hj];exact h10);((conv=>whnf);apply bm<;>intro h13);rotate_left
 ·have h13:gQ l m k d i<0:=(by simpa [aA,aC] using h13);((conv=>whnf);apply bm<;>intro h18)
  ·(conv=>whnf);refine⟨2*m.length - (i+1),by omega,?_⟩;refine aJ (e0:=XT k c3 d (gH m d) (j) (j+1)) (h0:=YM l m k c1 c2 n (eF l (bR m d)) (eF l (gH m d))) (n0:=6) ⟨i+1,j+1,by omega,by omega,rfl,?_,rfl,rfl⟩ ?_ ?_ (by decide)
   ·rw [aJM ⟨⟨h8,h10'⟩,.inl h13⟩,hj];rfl
   ·unfold XT;((repeat' refine iE rfl rfl ?_);exact iN)
   unfold YM cR kJ;((repeat'(first|refine iF rfl rfl ?_|refine iC rfl rfl rfl ?_|refine iJ rfl rfl rfl rfl ?_));exact iN)
  exfalso;simp [aA,aC,aF] at h18;omega
 have h13:¬ gQ l m k d i<0:=(by simpa [aA,aC] using h13);have hdb:nB m (gQ l m k d i)=true:=(by simp only [nB,Bool.and_eq_true,decide_eq_true_eq];omega);have htb:=CR hM hdb;(conv=>whnf);refine⟨l,m,aG bC rfl,aG bL rfl,?_⟩;((conv=>whnf);apply bm<;>intro h14);rotate_left
 ·exfalso;rw [show nB m (gQ l m k d i)=false from h14] at hdb;cases hdb
 ((conv=>whnf);apply bm<;>intro h15);rotate_left
 ·exfalso;simp [aA,aC] at h15;omega
 (conv=>whnf);refine n8 (jA l (i:=(gH m (gQ l m k d i)).toNat) (by omega) ?_) ?_
 ·show _+Int.toNat (gH m (gQ l m k d i))*2=_;omega
 ((conv=>whnf);apply bm<;>intro h16);rotate_left
 ·exfalso;have e1:=rD hM ht.1 ht.2;have e2:=rD hM hf.1 hf.2;have e3:=rD hM htj.1 htj.2;have e4:=rD hM htb.1 htb.2;have h16:(wide (eF l (gH m d))&&wide (eF l (bR m d))&&wide (eF l (gH m j))&&wide (eF l (gH m (gQ l m k d i))))=false:=h16;rw [e1,e2,e3,e4] at h16;cases h16
 ((conv=>whnf);apply bm<;>intro h17)
 ·have h17:rR (eF l (gH m d)) (eF l (bR m d)) (eF l (gH m i)) (eF l (gH m (gQ l m k d i)))=true:=(by rw [← hj];exact h17);((conv=>whnf);apply bm<;>intro h18)
  ·(conv=>whnf);refine⟨2*m.length - (i+1),by omega,?_⟩;refine aJ (e0:=XT k c3 d (gH m d) (j) (j+1)) (h0:=YM l m k c1 c2 n (eF l (bR m d)) (eF l (gH m d))) (n0:=6) ⟨i+1,j+1,by omega,by omega,rfl,?_,rfl,rfl⟩ ?_ ?_ (by decide)
   ·rw [aJM ⟨⟨h8,h10'⟩,.inr h17⟩,hj];rfl
   ·unfold XT;((repeat' refine iE rfl rfl ?_);exact iN)
   unfold YM cR kJ;((repeat'(first|refine iF rfl rfl ?_|refine iC rfl rfl rfl ?_|refine iJ rfl rfl rfl rfl ?_));exact iN)
  exfalso;simp [aA,aC,aF] at h18;omega
 have h17:¬ rR (eF l (gH m d)) (eF l (bR m d)) (eF l (gH m i)) (eF l (gH m (gQ l m k d i)))=true:=(by rw [← hj];exact fun hh=>Bool.false_ne_true (h17.symm.trans hh));((conv=>whnf);apply bm<;>intro h18)
 ·(conv=>whnf);refine⟨2*m.length - (i+1),by omega,?_⟩;refine aJ (e0:=XT k c3 d (gH m d) (gQ l m k d i) (j+1)) (h0:=YM l m k c1 c2 n (eF l (bR m d)) (eF l (gH m d))) (n0:=6) ⟨i+1,j+1,by omega,by omega,rfl,?_,rfl,rfl⟩ ?_ ?_ (by decide)
  ·rw [aFW (fun hh=>hh.2.elim h13 h17)];rfl
  ·unfold XT;((repeat' refine iE rfl rfl ?_);exact iN)
  unfold YM cR kJ;((repeat'(first|refine iF rfl rfl ?_|refine iC rfl rfl rfl ?_|refine iJ rfl rfl rfl rfl ?_));exact iN)
 exfalso;simp [aA,aC,aF] at h18;omega
def aK (k:List Int)(i:Nat):Int:=k.getD i 0
theorem cX {k:List Int}{i:Nat}(h:i<k.length):aK k i=k[i]:=by
 unfold aK;rw [List.getD_eq_getElem?_getD,List.getElem?_eq_getElem h];rfl
theorem iA (k:List Int){i o:Nat}(hi:i<k.length)(ho:o=i*1):nth (flat aT.fl k) o=some (iv (aK k i)):=by
 rw [cX hi];exact m0 aT k hi (k:=0) rfl Nat.one_pos (by rw [ho];rfl)
def SD (l:List Pt)(m:List Ed)(d:Int):Int:=(eF l (bR m d)).1*(eF l (gH m d)).2 - (eF l (gH m d)).1*(eF l (bR m d)).2
def nZ (l:List Pt)(m:List Ed)(k:List Int):Nat→Int
 |0=>0
 |i+1=>nZ l m k i+SD l m (aK k i)
theorem QV {p:Pt}(h:wide p=true) : -1000000≤p.1∧p.1≤1000000∧-1000000≤p.2∧p.2≤1000000:=by
 simp only [wide,Bool.and_eq_true,decide_eq_true_eq] at h;omega
theorem R3 {l:List Pt}{m:List Ed}(hM:kS l m=true){d:Int}(hd:nB m d=true) :
  -1000000000000≤(eF l (bR m d)).1*(eF l (gH m d)).2∧(eF l (bR m d)).1*(eF l (gH m d)).2≤1000000000000∧-1000000000000≤(eF l (gH m d)).1*(eF l (bR m d)).2∧(eF l (gH m d)).1*(eF l (bR m d)).2≤1000000000000:=by
 have hf:=rE hM hd;have ht:=CR hM hd;have w1:=QV (rD hM hf.1 hf.2);have w2:=QV (rD hM ht.1 ht.2);have m1:=rP (a:=(eF l (bR m d)).1) (b:=(eF l (gH m d)).2) (A:=1000000) (B:=1000000) (by omega) (by omega) (by omega) (by omega);have m2:=rP (a:=(eF l (gH m d)).1) (b:=(eF l (bR m d)).2) (A:=1000000) (B:=1000000) (by omega) (by omega) (by omega) (by omega);omega
theorem SF {l:List Pt}{m:List Ed}{k:List Int}(hM:kS l m=true)(hk:∀ i,i<k.length→nB m (aK k i)=true):∀ i,i≤k.length→-2000000000000*(i:Int)≤nZ l m k i∧nZ l m k i≤2000000000000*(i:Int)
 |0,_=>by unfold nZ;omega
 |i+1,hi=>by
  have h1:=SF hM hk i (by omega);have h2:=R3 hM (hk i (by omega));unfold nZ SD;omega
def UL (m:List Ed)(k:List Int):Bool:=k.all (nB m)
theorem B3 {m:List Ed}{k:List Int}(h:UL m k=true){i:Nat}(hi:i<k.length):nB m (aK k i)=true:=by
 rw [cX hi];exact List.all_eq_true.1 h _ (List.getElem_mem hi)
def aLM (l:List Pt)(m:List Ed)(n:Int)(k:List Int):List Value→Option (Bool × Value)
 |[]=>some (kS l m&&UL m k&&decide (k.length≤10000),iv (nZ l m k k.length))
 |_=>none
theorem aE8 {l:List Pt}{m:List Ed}{n:Int}{k:List Int}{r:List Value}{v:Value}(h:aLM l m n k r=some (true,v)):r=[]∧kS l m=true∧UL m k=true∧k.length≤10000∧v=iv (nZ l m k k.length):=by
 unfold aLM at h;split at h
 ·injection h with h;injection h with h1 h2;simp only [Bool.and_eq_true,decide_eq_true_eq] at h1;exact⟨rfl,h1.1.1,h1.1.2,h1.2,h2.symm⟩
 ·cases h
def e90 (k:List Int)(c3:Nat)(a j:Int):List (Nat × Value):=[(1,.slice (some ⟨2,0,none⟩) k.length c3),(2,.pointer (some ⟨3,0,none⟩)),(5,iv a),(6,iv j)]
def h90 (l:List Pt)(m:List Ed)(k:List Int)(c1 c2:Nat)(n:Int):Heap:=(3,cR l.length m.length c1 c2 n)::kJ bC bL aT l m k
def X90:Nat × XF:=(152,mLX bC bL aT aLM)
theorem x90:cO Go.Proofs.Tryz.prog X90.1 X90.2:=aDL bC bL aT (aH (xl:=[X87,aD7]) (.cons x87 (.cons aKQ .nil))) fun l m n k r v hs=>by
 obtain⟨rfl,hM,hkk,hk,rfl⟩:=aE8 hs;refine⟨rfl,rfl,fun c1 c2 c3=>?_⟩;have hm:m.length≤1000:=(by simp only [kS,Bool.and_eq_true,decide_eq_true_eq] at hM;exact hM.1.2);(conv=>whnf);refine⟨fun q e h nx=>∃ (i:Nat) (j:Int),j=i∧i≤k.length∧q=k.length - i∧e=e90 k c3 (nZ l m k i) j∧h=h90 l m k c1 c2 n∧nx=4,⟨k.length,?_⟩,?_⟩
 ·refine aJ (e0:=e90 k c3 0 0) (h0:=h90 l m k c1 c2 n) (n0:=4) ⟨0,0,rfl,Nat.zero_le _,rfl,rfl,rfl,rfl⟩ ?_ ?_ (by decide)
  ·unfold e90;((repeat' refine iE rfl rfl ?_);exact iN)
  unfold h90 cR kJ;((repeat'(first|refine iF rfl rfl ?_|refine iC rfl rfl rfl ?_|refine iJ rfl rfl rfl rfl ?_));exact iN)
 rintro q e h nx ⟨i,j,hj,hi,rfl,rfl,rfl,rfl⟩;unfold e90 h90 cR kJ;((conv=>whnf);apply bm<;>intro h6);rotate_left
 ·have hge:i=k.length:=(by simp [aA,aC] at h6;omega);(conv=>whnf);rw [hge]
 have hlt:i<k.length:=(by simp [aA,aC] at h6;omega);have hdj:=B3 hkk hlt;have hf:=rE hM hdj;have ht:=CR hM hdj;have lo:=SF hM (fun i hi=>B3 hkk hi) i hi;have pl:=R3 hM hdj;((conv=>whnf);apply bm<;>intro h7);rotate_left
 ·exfalso;simp [aA,aC] at h7;omega
 (conv=>whnf);refine iU (iA k (i:=i) hlt ?_) ?_
 ·show _+Int.toNat j*1=_;omega
 (conv=>whnf);refine⟨l,m,aG bC rfl,aG bL rfl,?_⟩;((conv=>whnf);apply bm<;>intro h8);rotate_left
 ·exfalso;rw [show nB m (aK k i)=false from h8] at hdj;cases hdj
 ((conv=>whnf);apply bm<;>intro h9);rotate_left
 ·exfalso;simp [aA,aC] at h9;omega
 (conv=>whnf);refine n8 (jA l (i:=(bR m (aK k i)).toNat) (by omega) ?_) ?_
 ·show _+Int.toNat (bR m (aK k i))*2=_;omega
 ((conv=>whnf);apply bm<;>intro h10);rotate_left
 ·exfalso;simp [aA,aC] at h10;omega
 (conv=>whnf);refine iU (iA k (i:=i) hlt ?_) ?_
 ·show _+Int.toNat j*1=_;omega
 (conv=>whnf);refine⟨l,m,aG bC rfl,aG bL rfl,?_⟩;((conv=>whnf);apply bm<;>intro h11);rotate_left
 ·exfalso;rw [show nB m (aK k i)=false from h11] at hdj;cases hdj
 ((conv=>whnf);apply bm<;>intro h12);rotate_left
 ·exfalso;simp [aA,aC] at h12;omega
 (conv=>whnf);refine n8 (jA l (i:=(gH m (aK k i)).toNat) (by omega) ?_) ?_
 ·show _+Int.toNat (gH m (aK k i))*2=_;omega
 repeat' ((conv=>whnf);apply bm<;>intro h13)
 all_goals try (exfalso;simp [aA,aC,aF] at h13;simp only [eF] at *;omega)
 (conv=>whnf);refine⟨k.length - (i+1),by omega,?_⟩;refine aJ (e0:=e90 k c3 (nZ l m k i+(eF l (bR m (aK k i))).1*(eF l (gH m (aK k i))).2 - (eF l (gH m (aK k i))).1*(eF l (bR m (aK k i))).2) (j+1)) (h0:=h90 l m k c1 c2 n) (n0:=4) ⟨i+1,j+1,by omega,hlt,rfl,?_,rfl,rfl⟩ ?_ ?_ (by decide)
 ·congr 4;rw [show nZ l m k (i+1)=nZ l m k i+SD l m (aK k i) from rfl];unfold SD;omega
 ·unfold e90;((repeat' refine iE rfl rfl ?_);exact iN)
 unfold h90 cR kJ;((repeat'(first|refine iF rfl rfl ?_|refine iC rfl rfl rfl ?_|refine iJ rfl rfl rfl rfl ?_));exact iN)
theorem fU {α:Type}(E:El α)(o:List α)(x:α){n:Nat}(hn:n=o.length):((flat E.fl o).drop 0).take (n*E.sz)++E.fl x=flat E.fl (o++[x]):=by
 subst hn;rw [List.drop_zero,← bE E o,List.take_length,vT];simp [flat]
theorem nN {i N s:Nat}{p:Prop}(hN:N=i*s)(hi:i+1≤1000000000)
  (h:aA.A.andB (aA.A.andB ((i+1).ble 1000000000) ((0+i*s).ble N)) (aA.A.andB ((0+i*s).beq N) (Nat.beq s s))=false):p:=by
 exfalso;have h1:(i+1).ble 1000000000=true:=Nat.ble_eq_true_of_le hi;have h2:(0+i*s).ble N=true:=Nat.ble_eq_true_of_le (by omega);have h3:(0+i*s).beq N=true:=(by rw [hN,Nat.zero_add];exact Nat.beq_refl _);rw [h1,h2,h3,Nat.beq_refl] at h;cases h
def evS (l:List Pt)(m:List Ed)(n:Int):List Value→YS Bool
 |[]=>some (decide (1≤m.length)&&decide (m.length≤1000),List.replicate (2*m.length) true,[])
 |_=>none
theorem aGT {l:List Pt}{m:List Ed}{n:Int}{r:List Value}{out:List Bool}{rest:List Value}(h:evS l m n r=some (true,out,rest)):r=[]∧1≤m.length∧m.length≤1000∧out=List.replicate (2*m.length) true∧rest=[]:=by
 unfold evS at h;split at h
 ·injection h with h;injection h with h1 h2;injection h2 with h2 h3;simp only [Bool.and_eq_true,decide_eq_true_eq] at h1;exact⟨rfl,h1.1,h1.2,h2.symm,h3.symm⟩
 ·cases h
def e80 (v:Value)(j:Int):List (Nat × Value):=[(1,.pointer (some ⟨2,0,none⟩)),(3,v),(4,iv j)]
def h80 (l:List Pt)(m:List Ed)(c1 c2:Nat)(n:Int):Heap:=(2,cR l.length m.length c1 c2 n)::aL bC bL l m
def S6 (l:List Pt)(m:List Ed)(c1 c2:Nat)(n:Int)(o:List Bool):Heap:=(3,.cells true false 1 (flat gP.fl o))::(2,cR l.length m.length c1 c2 n)::aL bC bL l m
def aGQ:Nat × XF:=(150,mYX bC bL gP evS)
theorem aN5:cO Go.Proofs.Tryz.prog aGQ.1 aGQ.2:=W5 bC bL gP (aH (xl:=[]) .nil) fun l m n r out rest hs=>by
 obtain⟨rfl,h1m,hm,rfl,rfl⟩:=aGT hs;clear hs;refine⟨rfl,rfl,fun c1 c2=>?_⟩;(conv=>whnf)
 refine⟨fun q e h nx=>∃ (i:Nat) (j:Int),j=i∧i≤2*m.length∧q=2*m.length - i ∧
  ((i=0∧e=e80 (.slice none 0 0) j∧h=h80 l m c1 c2 n∧nx=3)∨(0<i∧e=e80 (.slice (some ⟨3,0,none⟩) i i) j∧h=S6 l m c1 c2 n (List.replicate i true)∧nx=4)),⟨2*m.length,?_⟩,?_⟩
 ·refine aJ (e0:=e80 (.slice none 0 0) 0) (h0:=h80 l m c1 c2 n) (n0:=3) ⟨0,0,rfl,Nat.zero_le _,rfl,.inl ⟨rfl,rfl,rfl,rfl⟩⟩ ?_ ?_ (by decide)
  ·unfold e80;((repeat' refine iE rfl rfl ?_);exact iN)
  unfold h80 cR aL;((repeat'(first|refine iF rfl rfl ?_|refine iC rfl rfl rfl ?_|refine iJ rfl rfl rfl rfl ?_));exact iN)
 rintro q e h nx ⟨i,j,hj,hi,rfl,⟨hi0,rfl,rfl,rfl⟩|⟨hip,rfl,rfl,rfl⟩⟩
 ·subst hi0;unfold e80 h80 cR aL;((conv=>whnf);apply bm<;>intro h1);rotate_left
  ·exfalso;simp [aA,aC,aF] at h1;omega
  ((conv=>whnf);apply bm<;>intro h2)
  ·((conv=>whnf);apply bm<;>intro h3)
   ·(conv=>whnf);refine⟨2*m.length - 1,by omega,?_⟩;refine j5 (e0:=e80 (.slice (some ⟨3,0,none⟩) 1 1) (j+1)) (h0:=S6 l m c1 c2 n [true]) (n0:=4) 3 4 (by decide) (by decide) ⟨1,j+1,by omega,by omega,rfl,.inr ⟨Nat.one_pos,rfl,rfl,rfl⟩⟩ ?_ ?_ ?_
    ·unfold e80;((repeat' refine iE rfl rfl ?_);exact iN)
    ·unfold S6 cR aL;((repeat'(first|refine iF rfl rfl ?_|refine iC rfl rfl rfl ?_|refine iJ rfl rfl rfl rfl ?_));exact iN)
    unfold S6;((repeat' refine iK rfl ?_);exact iN)
   exfalso;simp [aA,aC,aF] at h3;omega
  exfalso;simp [aA,aC] at h2;omega
 unfold e80 S6 cR aL;((conv=>whnf);apply bm<;>intro h1);rotate_left
 ·exfalso;simp [aA,aC,aF] at h1;omega
 ((conv=>whnf);apply bm<;>intro h2);rotate_left
 ·have hge:i=2*m.length:=(by simp [aA,aC] at h2;omega);subst hge;(conv=>whnf);refine⟨3,?_,rfl⟩;show _=Value.slice _ _ _;rw [List.length_replicate]
 have hlt:i<2*m.length:=(by simp [aA,aC] at h2;omega);have hll:(flat gP.fl (List.replicate i true)).length=i:=(by rw [bE,List.length_replicate];show i*1=i;omega);((conv=>whnf);apply bm<;>intro h3)
 ·exfalso;have:=Nat.le_of_ble_eq_true h3;omega
 ((conv=>whnf);apply bm<;>intro h4);rotate_left
 ·exfalso;exact nN (s:=1) (by omega) (by omega) h4
 ((conv=>whnf);apply bm<;>intro h5)
 ·(conv=>whnf);refine⟨2*m.length - (i+1),by omega,?_⟩
  refine j5 (e0:=e80 (.slice (some ⟨3,0,none⟩) (i+1) (i+1)) (j+1)) (h0:=S6 l m c1 c2 n (List.replicate i true++[true])) (n0:=4) 3 5 (by decide) (by decide)
   ⟨i+1,j+1,by omega,by omega,rfl,.inr ⟨Nat.succ_pos _,rfl,by rw [List.replicate_succ'];rfl,rfl⟩⟩ ?_ ?_ ?_
  ·unfold e80;((repeat' refine iE rfl rfl ?_);exact iN)
  ·unfold S6 cR aL;((repeat'(first|refine iW rfl rfl (bB (aD gP _) (fU gP (List.replicate i true) true (by rw [List.length_replicate]))) ?_|refine iF rfl rfl ?_|refine iC rfl rfl rfl ?_|refine iJ rfl rfl rfl rfl ?_));exact iN)
  unfold S6;((repeat' refine iK rfl ?_);exact iN)
 exfalso;simp [aA,aC,aF] at h5;omega
end Go.Aw
end
