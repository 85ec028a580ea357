/-
  Parts of a proof. No condition.
-/
import Derived.Test.YtjahkcbdecgbhaaGreatQAp
set_option linter.unusedSimpArgs false
set_option linter.unusedVariables false
noncomputable section
namespace Go.Aw
open Go.RowKit
theorem BJ {args0:List Value}{h0:Heap}{n0:Nat}{args:List Value}{h:Heap}{nx:Nat}(ρ:Nat→Nat)(ha:args=args0.map (jX ρ))(hn:∀ v∈args0,C3 n0 v)
  (ho:∀ k o,look h0 k=some o→k<n0∧∃ g sz cs0,o=.cells false g sz cs0∧sz≠0∧(g=true→dL cs0=true)∧(∀ v∈cs0,DN n0 v)∧∃ wr g' sz' cs,look h (ρ k)=some (.cells wr g' sz' cs)∧cs.take cs0.length=cs0.map (cD ρ)) :
  In args0 h0 n0 args h nx:=by
 intro ι B w H hs;subst ha;have hsc:∀ v∈args0,fD ι nx (jX ρ v):=fun v hv=>hs _ (List.mem_map.2 ⟨v,hv,rfl⟩);refine⟨fun k=>ι (ρ k),?_,fun v hv=>ED (hsc v hv) (hn v hv),⟨fun k o hk=>?_,fun k k' o o' hk hk' hne ha b hb=>?_,fun k o hk=>(ho k o hk).1,Nat.le_refl _,fun k o hk=>?_⟩⟩
 ·rw [List.map_map];exact List.map_congr_left fun v hv=>F3 (hsc v hv)
 ·obtain⟨_,g,sz,cs0,rfl,hz,hg,hm,wr,g',sz',cs,hl,hc⟩:=ho k o hk;have hob:=H.obj _ _ hl;have hso:=H.sc _ _ hl;cases hι:ι (ρ k) with
  |nil p =>
   rw [hι] at hob;have h0:cs=[]:=(by cases wr <;> exact hob.1);subst h0;have:cs0=[]:=by
    cases cs0 with
    |nil=>rfl
    |cons a r=>simp at hc
   subst this;exact⟨rfl,fun h=>h.elim (fun h=>absurd h hz) (fun h=>by cases h)⟩
  |lay b off e =>
   have hlt:b<w.heap.size:=hob.lt (by rw [hι];rfl);refine⟨hlt,hg,fun i v hv=>?_⟩;have h1:(cs.take cs0.length)[i]? = some (cD ρ v):=(by rw [hc,List.getElem?_map,hv];rfl);have hi:i<cs0.length:=(List.getElem?_eq_some_iff.1 hv).1;rw [List.getElem?_take,if_pos hi] at h1;obtain⟨b2,off2,e2,hι2,hcell⟩:=H.cell hl h1;rw [hι] at hι2;injection hι2 with i1 i2 i3;subst i1;subst i2;rw [hcell];congr 1;exact jO (hso _ (List.mem_of_getElem? h1))
 ·obtain⟨_,g,sz,cs0,rfl,_⟩:=ho k o hk;cases ha
 obtain⟨_,g,sz,cs0,rfl,hz,hg,hm,wr,g',sz',cs,hl,hc⟩:=ho k o hk;intro v hv;have hso:=H.sc _ _ hl;have hmem:cD ρ v∈cs:=by
  have:cD ρ v∈cs.take cs0.length:=(by rw [hc];exact List.mem_map.2 ⟨v,hv,rfl⟩);exact List.mem_of_mem_take this
 exact o8 (hso _ hmem) (hm v hv)
structure oJ where
 f:Nat
 args:List Value
 h0:Heap
 n0:Nat
 v1:Value
 h1:Heap
 m:Nat
def MC:List Value→List Value→Bool
 |[],[]=>true
 |a::r,b::s=>OZ a b&&MC r s
 |_,_=>false
theorem K2:∀ {l m:List Value},MC l m=true→l=m
 |[],[],_=>rfl
 |[],_::_,h=>by cases h
 |_::_,[],h=>by cases h
 |a::r,b::s,h=>by
  simp only [MC,Bool.and_eq_true] at h;rw [GM h.1,K2 h.2]
def aDy (n:Nat):List Value→Bool
 |[]=>true
 |v::r=>aD6 n v&&aDy n r
theorem WD {n:Nat}:∀ {l:List Value},aDy n l=true→∀ v∈l,C3 n v
 |[],_,v,hv=>by cases hv
 |x::r,h,v,hv=>by
  simp only [aDy,Bool.and_eq_true] at h;cases hv with
  |head=>exact lR h.1
  |tail _ hm=>exact WD h.2 v hm
def aJZ (b:Nat):List Value→List Value→List (Nat × Nat)→List (Nat × Nat)
 |v::l,u::m,r=>prT b v u (aJZ b l m r)
 |_,_,r=>r
def XV (ρ:List (Nat × Nat))(n0:Nat)(h:Heap):Heap→Bool
 |[]=>true
 |(k,.cells false g sz cs0)::r=>Nat.blt k n0&&!(Nat.beq sz 0)&&(match g with|true=>dL cs0|false=>true)&&RZ n0 cs0&&(match look h (nm ρ k) with
  |some (.cells _ _ _ cs)=>KT (cs.take cs0.length) (cs0.map (cD (nm ρ)))
  |_=>false)&&XV ρ n0 h r
 |_=>false
theorem OV {ρ:List (Nat × Nat)}{n0:Nat}{h:Heap}:∀ {h0:Heap},XV ρ n0 h h0=true→∀ k o,look h0 k=some o→k<n0∧∃ g sz cs0,o=.cells false g sz cs0∧sz≠0∧(g=true→dL cs0=true)∧(∀ v∈cs0,DN n0 v)∧∃ wr g' sz' cs,look h (nm ρ k)=some (.cells wr g' sz' cs)∧cs.take cs0.length=cs0.map (cD (nm ρ))
 |[],_,k,o,hk=>by cases hk
 |(j,q)::r,hb,k,o,hk=>by
  unfold XV at hb;split at hb
  ·rename_i he;cases he
  ·rename_i k' g sz cs0 r' he;injection he with e1 e2;injection e1 with e3 e4;subst e3;subst e4;subst e2;simp only [Bool.and_eq_true,Bool.not_eq_true'] at hb;obtain⟨⟨⟨⟨⟨h1,h2⟩,h3⟩,h4⟩,h5⟩,h6⟩:=hb;rw [aE] at hk;split at hk
   ·rename_i hbq;have:=beq_true hbq;subst this;injection hk with hk;subst hk;refine⟨Nat.le_of_ble_eq_true h1,g,sz,cs0,rfl,beq_false h2,fun hg=>by subst hg;exact h3,cO h4,?_⟩;split at h5
    ·rename_i wr g' sz' cs hl;exact⟨wr,g',sz',cs,hl,yT h5⟩
    ·cases h5
   exact OV h6 k o hk
  ·cases hb
def oJ.rho (E:oJ)(args:List Value)(h:Heap):List (Nat × Nat):=grow 0 E.h0 h 10000 (aJZ 0 E.args args []) []
def S2 (E:oJ)(args:List Value)(h:Heap):Bool:=MC args (E.args.map (jX (nm (E.rho args h))))&&aDy E.n0 E.args&&XV (E.rho args h) E.n0 h E.h0
theorem aA4 {E:oJ}{args:List Value}{h:Heap}{nx:Nat}(hf:S2 E args h=true):In E.args E.h0 E.n0 args h nx:=by
 simp only [S2,Bool.and_eq_true] at hf;exact BJ _ (K2 hf.1.1) (WD hf.1.2) (OV hf.2)
def TI (E:oJ):uO:=fun v h' _=>aFz 0 (aBN 0 [(0,E.v1)] [(0,v)] E.h1 h') [(0,E.v1)] E.h1 E.m [(0,v)] h'&&gM E.h1
def aAc (L:List oJ)(f:Nat):Sp:=fun args0 h0 n0 v1 h1 m=>∃ E∈L,E.f=f∧args0=E.args∧h0=E.h0∧n0=E.n0∧v1=E.v1∧h1=E.h1∧m=E.m
def aFF (f:Nat):List oJ→Bool
 |[]=>false
 |E::r=>match Nat.beq E.f f with|true=>true|false=>aFF f r
def aBZ (f:Nat):List oJ→List Value→Heap→Nat→uO→Bool
 |[],_,_,_,_=>false
 |E::r,args,h,nx,K=>match Nat.beq E.f f with
  |true=>(match S2 E args h with
   |true=>K (jX (fun k=>nx+k) E.v1) (app (mR nx E.h1) (qK E.h1 h)) (nx+E.m)
   |false=>aBZ f r args h nx K)
  |false=>aBZ f r args h nx K
theorem MY {f:Nat}(L0:List oJ){args:List Value}{h:Heap}{nx:Nat}{K:uO}{K':KE}(hK:∀ v h nx,K v h nx=true→K' v h nx):∀ (L:List oJ),(∀ E∈L,E∈L0)→aBZ f L args h nx K=true→xOf (aAc L0 f) args h nx K'
 |[],_,hl=>by cases hl
 |E::r,hsub,hl=>by
  simp only [aBZ] at hl;split at hl
  ·rename_i hb;split at hl
   ·rename_i hf;exact⟨E.args,E.h0,E.n0,E.v1,E.h1,E.m,⟨E,hsub E (.head _),beq_true hb,rfl,rfl,rfl,rfl,rfl,rfl⟩,aA4 hf,hK _ _ _ hl⟩
   exact MY L0 hK r (fun E hE=>hsub E (.tail _ hE)) hl
  exact MY L0 hK r (fun E hE=>hsub E (.tail _ hE)) hl
abbrev GS:=List Value→Option (Bool × Value)
def gXB (s:GS):List Value→Heap→Nat→uO→Bool:=fun args h nx K=>match s args with
 |some p=>eN p.1 (K p.2 h nx)
 |none=>false
def E0 (L:List oJ)(S:List (Nat × GS))(f:Nat):Option (List Value→Heap→Nat→KE→Prop):=match aFF f L with
 |true=>some (xOf (aAc L f))
 |false=>(match look S f with|some s=>some (gX s)|none=>none)
def FW (L:List oJ)(S:List (Nat × GS))(f:Nat):Option (List Value→Heap→Nat→uO→Bool):=match aFF f L with
 |true=>some (aBZ f L)
 |false=>(match look S f with|some s=>some (gXB s)|none=>none)
theorem E6 {c:FH}{L:List oJ}{S:List (Nat × GS)}(hc:c.X=E0 L S):TwX c (FW L S):=by
 intro f x xb hx hxb args h nx K K' hK hl;rw [hc] at hx;unfold E0 at hx;unfold FW at hxb;split at hx
 ·rename_i hh;rw [hh] at hxb;injection hx with hx;injection hxb with hxb;subst hx;subst hxb;exact MY L hK L (fun _ h=>h) hl
 rename_i hh;rw [hh] at hxb;simp only at hxb;split at hx
 ·rename_i s hs;rw [hs] at hxb;injection hx with hx;injection hxb with hxb;subst hx;subst hxb;unfold gXB at hl;unfold gX;split at hl
  ·rename_i p hp;rw [hp];exact bH (hK _ _ _) hl
  ·cases hl
 ·cases hx
def cV (c:FH)(XB:Nat→Option (List Value→Heap→Nat→uO→Bool))(d:Nat)(E:oJ):Prop:=CK c XB d false E.f E.args E.h0 E.n0 (TI E)=true
def xG (P:Program)(L:List oJ):Prop:=∀ f,cT P f (xOf (aAc L f))
theorem xG.app {P:Program}{L L':List oJ}(h:xG P L)(h':xG P L'):xG P (L++L'):=by
 intro f;have key:∀ args h nx K,xOf (aAc (L++L') f) args h nx K→xOf (aAc L f) args h nx K∨xOf (aAc L' f) args h nx K:=by
  rintro args h nx K ⟨a,b,c,d,e,g,⟨E,hE,he⟩,q⟩;rcases List.mem_append.1 hE with hE|hE
  ·exact .inl ⟨a,b,c,d,e,g,⟨E,hE,he⟩,q⟩
  exact .inr ⟨a,b,c,d,e,g,⟨E,hE,he⟩,q⟩
 refine⟨fun args hp nx K hx=>?_,fun args hp nx K hx=>?_⟩
 ·rcases key _ _ _ _ hx with hx|hx
  ·exact (h f).1 args hp nx K hx
  exact (h' f).1 args hp nx K hx
 obtain⟨a,b,c,d,e,g,q1,q2,q3⟩:=hx;exact⟨_,_,_,q3,fun K' hk=>⟨a,b,c,d,e,g,q1,q2,hk⟩⟩
theorem EE {P:Program}{c:FH}(hc:sK P c){XB:Nat→Option (List Value→Heap→Nat→uO→Bool)}(hX:TwX c XB){d:Nat}{L:List oJ}(hL:∀ E∈L,cV c XB d E):xG P L:=by
 intro f;refine jD (mC hc d).1 fun args0 h0 n0 v1 h1 m hs=>?_;obtain⟨E,hE,rfl,rfl,rfl,rfl,rfl,rfl,rfl⟩:=hs;have t1:=hL E hE;have hv:=pZ hX d false E.f E.args E.h0 E.n0 (TI E) (fun v h nx=>gM E.h1=true∧L8 E.v1 E.h1 E.m v h nx) (fun v h nx ho=>by
  simp only [TI,Bool.and_eq_true] at ho;exact⟨ho.2,_,V9 ho.1⟩) t1
 obtain⟨v,h',nx',k1,k2⟩:=(mC hc d).2.2.1 _ _ _ _ _ hv;exact⟨k1.1,_,k2 _ k1.2,fun _ _ _ q=>q⟩
theorem EH {P:Program}{L:List oJ}(h:xG P L){S:List (Nat × GS)}(hS:∀ f s,look S f=some s→cT P f (gX s)):∀ f x,E0 L S f=some x→cT P f x:=by
 intro f x hfx;unfold E0 at hfx;split at hfx
 ·injection hfx with hfx;subst hfx;exact h f
 split at hfx
 ·rename_i s hs;injection hfx with hfx;subst hfx;exact hS f s hs
 ·cases hfx
theorem aCx {a0 b0 a b:Value}{n:Int}{r:List Value}(hr:eT r=true){h0 h:Heap}{n0 nx:Nat}(i:In [a0,b0] h0 n0 [a,b] h nx)(ha:∃ x y z,a0=.slice x y z)(hb:∃ x y z,b0=.slice x y z) :
  In (.agg #[a0,b0,.int .i64 n]::r) h0 n0 (.agg #[a,b,.int .i64 n]::r) h nx:=by
 intro ι B w H hs;have hag:lB ι nx (.agg #[a,b,.int .i64 n]):=hs _ (.head _);have sa:iP ι nx a:=hag a (by simp);have sb:iP ι nx b:=hag b (by simp);obtain⟨ι0,e1,e2,e3⟩:=i ι B w H (fun v hv=>by
  simp only [List.mem_cons,List.not_mem_nil,or_false] at hv;rcases hv with rfl|rfl
  ·exact l9 (iV sa)
  exact l9 (iV sb))
 simp only [List.map_cons,List.map_nil,List.cons.injEq,and_true] at e1;obtain⟨x,y,z,rfl⟩:=ha;obtain⟨x',y',z',rfl⟩:=hb;have t1:tr ι a=bT ι a:=(by rw [vM (iV sa),zU sa]);have t2:tr ι b=bT ι b:=(by rw [vM (iV sb),zU sb]);refine⟨ι0,?_,?_,e3⟩
 ·rw [List.map_cons,List.map_cons];congr 1
  ·show Value.agg (Array.map (bT ι) #[a,b,.int .i64 n])=Value.agg (Array.map (bT ι0) #[_,_,.int .i64 n]);simp only [List.map_toArray,List.map_cons,List.map_nil];rw [← t1,← t2,e1.1,e1.2];rfl
  exact List.map_congr_left fun v hv=>by rw [gZ (cA hr hv),gZ (cA hr hv)]
 intro v hv;cases hv with
 |head =>
  intro u hu;simp only [List.mem_cons,List.not_mem_nil,or_false] at hu;rcases hu with rfl|rfl|rfl
  ·exact e2 _ (.head _)
  ·exact e2 _ (.tail _ (.head _))
  exact cX rfl
 |tail _ hm=>exact dI (cA hr hm)
section
variable {α β:Type}(E:El α)(G:El β)
def aG (n m:Nat)(c1 c2:Nat)(k:Int):Value:=.agg #[.slice (some ⟨0,0,none⟩) n c1,.slice (some ⟨1,0,none⟩) m c2,.int .i64 k]
def aB (l:List α)(m:List β):Heap:=[(0,.cells false true E.sz (flat E.fl l)),(1,.cells false true G.sz (flat G.fl m))]
def mX (s:List α→List β→Int→List Value→Option (Bool × Value)):XF:=fun args h nx K=>match args with
 |.agg ⟨[p,q,.int .i64 n]⟩::r=>∃ l m,iQ E h p l∧iQ G h q m∧(match s l m n r with|some pr=>dT pr.1 (K pr.2 h nx)|none=>False)
 |_=>False
theorem M7 {p q:Value}{n:Int}{r:List Value}(hr:eT r=true){h:Heap}{nx:Nat}{l:List α}{m:List β}(hl:iQ E h p l)(hm:iQ G h q m) :
  ∃ c1 c2,In (aG l.length m.length c1 c2 n::r) (aB E G l m) 2 (.agg #[p,q,.int .i64 n]::r) h nx:=by
 obtain⟨c1,i1⟩:=RI (nx:=nx) E hl;obtain⟨c2,i2⟩:=RI (nx:=nx) G hm;exact⟨c1,c2,aCx hr (TS rfl rfl i1 i2 ⟨_,_,rfl,aH E l⟩ ⟨_,_,rfl,aH G m⟩) ⟨_,_,_,rfl⟩ ⟨_,_,_,rfl⟩⟩
theorem uG {P:Program}{C:VC}{f:Nat}{s:List α→List β→Int→List Value→Option (Bool × Value)}(hC:bN P C)
  (hs:∀ l m n r v,s l m n r=some (true,v)→eT r=true∧gT v=true∧∀ c1 c2,C f (aG l.length m.length c1 c2 n::r) (aB E G l m) 2 (fun u _ _=>u=v)):cT P f (mX E G s):=by
 refine (jD (S:=fun args0 h0 n0 v1 h1 k=>∃ l m n r c1 c2,s l m n r=some (true,v1)∧args0=aG l.length m.length c1 c2 n::r∧h0=aB E G l m∧n0=2∧h1=[]∧k=0) hC ?_).mono ?_ ?_
 ·rintro args0 h0 n0 v1 h1 k ⟨l,m,n,r,c1,c2,e1,rfl,rfl,rfl,rfl,rfl⟩;obtain⟨a1,a2,a3⟩:=hs l m n r v1 e1;exact⟨rfl,_,a3 c1 c2,fun v h nx e=>by rw [e];exact mG a2⟩
 ·intro args h nx K hx;unfold mX at hx;split at hx
  case h_2=>exact hx.elim
  rename_i p q n r;obtain⟨l,m,hl,hm,hx⟩:=hx;split at hx
  case h_2=>exact hx.elim
  rename_i pr e1;obtain⟨bb,u⟩:=pr;obtain⟨rfl,hx⟩:=aI.1 hx;obtain⟨a1,a2,a3⟩:=hs l m n r u e1;obtain⟨c1,c2,i⟩:=M7 (n:=n) (nx:=nx) E G a1 hl hm;refine⟨_,_,2,u,[],0,⟨l,m,n,r,c1,c2,e1,rfl,rfl,rfl,rfl,rfl⟩,i,?_⟩;simp only [qK,wR,mR,m8,tP a2,Nat.add_zero];exact hx
 intro args h nx K hx;unfold mX at hx;split at hx
 case h_2=>exact hx.elim
 rename_i p q n r;obtain⟨l,m,hl,hm,hx⟩:=hx;split at hx
 case h_2=>exact hx.elim
 rename_i pr e1;obtain⟨hb,hx⟩:=aI.1 hx;exact⟨pr.2,h,nx,hx,fun K' hk=>⟨l,m,hl,hm,by rw [e1];exact aM hb hk⟩⟩
end
theorem aB5 {n sz:Nat}{wr g:Bool}{cs:List Value}(h:∀ v∈cs,cD id v=v∧DN n v):bQ id n (.cells wr g sz cs) (.cells wr g sz cs) :=
 ⟨rfl,rfl,rfl,(by conv=>lhs;rw [← List.map_id cs]
                  exact List.map_congr_left fun v hv=>(h v hv).1.symm),fun v hv=>(h v hv).2⟩
theorem aII {a0:List Value}{h0:Heap}{n0:Nat}{a:List Value}{h:Heap}{nx:Nat}(i:In a0 h0 n0 a h nx){b:Value}{n2 c2 sz:Nat}{cs:List Value}(hg:dL cs=true)
  (i2:In [.slice (some ⟨0,0,none⟩) n2 c2] [(0,.cells false true sz cs)] 1 [b] h nx) (hlow:∀ k o,look h0 k=some o→o.alone=false) :
  In (a0++[.slice (some ⟨n0,0,none⟩) n2 c2]) (app h0 [(n0,.cells false true sz cs)]) (n0+1) (a++[b]) h nx:=by
 intro ι B w H hs;obtain⟨ι1,e1,k1,R1⟩:=i ι B w H (fun v hv=>hs v (List.mem_append_left _ hv));obtain⟨ι2,e2,k2,R2⟩:=i2 ι B w H (fun v hv=>hs v (List.mem_append_right _ hv));simp only [List.map_cons,List.map_nil,List.cons.injEq,and_true] at e2;have q2:=R2.obj 0 _ rfl;have kk2:=k2 _ (.head _);let ι0:Nat→Loc:=fun k=>if k<n0 then ι1 k else ι2 0
 have hlt:∀ k,k<n0→ι0 k=ι1 k:=fun k hk=>if_pos hk;have hat:ι0 n0=ι2 0:=if_neg (Nat.lt_irrefl _);have hcase:∀ k o,look (app h0 [(n0,.cells false true sz cs)]) k=some o→(look h0 k=some o∧k<n0)∨(k=n0∧o=.cells false true sz cs):=by
  intro k o hk;rw [j1] at hk;split at hk
  ·rename_i o' ho;injection hk with hk;subst hk;exact .inl ⟨ho,R1.low k _ ho⟩
  rw [aE] at hk;split at hk
  ·rename_i hb;injection hk with hk;exact .inr ⟨(beq_true hb).symm,hk.symm⟩
  exact bU hk
 refine⟨ι0,?_,?_,⟨?_,?_,?_,Nat.le_refl _,?_⟩⟩
 ·rw [List.map_append,List.map_append,e1];congr 1
  ·refine List.map_congr_left fun v hv=>?_;exact (EY (ι:=ι1) (ι':=ι0) (n:=n0) hlt (k1 v hv)).symm
  simp only [List.map_cons,List.map_nil,e2];simp only [tr,eD,bT,eG,hat]
 ·intro v hv;rcases List.mem_append.1 hv with hv|hv
  ·exact qO (Nat.le_succ _) hlt (k1 v hv)
  simp only [List.mem_cons,List.not_mem_nil,or_false] at hv;subst hv;exact⟨Nat.lt_succ_self _,fun h=>kk2.2 (by rw [← h];show _=(ι0 n0).gG;rw [hat])⟩
 ·intro k o hk;rcases hcase k o hk with ⟨h1,h2⟩|⟨rfl,rfl⟩
  ·rw [hlt k h2];exact (R1.obj k o h1).names (R1.sc k o h1) hlt
  rw [hat];cases hl:ι2 0 with
  |nil p=>rw [hl] at q2;exact q2
  |lay b o e =>
   rw [hl] at q2;obtain⟨x1,x2,x3⟩:=q2;refine⟨x1,x2,fun i v hv=>?_⟩;rw [x3 i v hv,kG (bB hg (List.mem_of_getElem? hv)),kG (bB hg (List.mem_of_getElem? hv))]
 ·intro k k' o o' hk hk' hne hal b hb;rcases hcase k o hk with ⟨h1,h2⟩|⟨rfl,rfl⟩
  ·rw [hlow k o h1] at hal;cases hal
  ·cases hal
 ·intro k o hk;rcases hcase k o hk with ⟨h1,h2⟩|⟨rfl,rfl⟩ <;> omega
 intro k o hk;rcases hcase k o hk with ⟨h1,h2⟩|⟨rfl,rfl⟩
 ·exact (R1.sc k o h1).mono (Nat.le_succ _) hlt
 exact fun v hv=>cX (bB hg hv)
section
variable {α β γ δ:Type}(E:El α)(G:El β)(J:El γ)(D:El δ)
def mapA (p q:Value)(n:Int):Value:=.agg #[p,q,.int .i64 n]
def j4 (l:List α)(m:List β)(k:List γ):Heap:=[(0,.cells false true E.sz (flat E.fl l)),(1,.cells false true G.sz (flat G.fl m)),(2,.cells false true J.sz (flat J.fl k))]
theorem WB {p q o:Value}{n:Int}{r:List Value}(hr:eT r=true){h:Heap}{nx:Nat}{l:List α}{m:List β}{k:List γ}(hl:iQ E h p l)(hm:iQ G h q m)(hk:iQ J h o k) :
  ∃ c1 c2 c3,In (aG l.length m.length c1 c2 n::(r++[.slice (some ⟨2,0,none⟩) k.length c3])) (j4 E G J l m k) 3 (mapA p q n::(r++[o])) h nx:=by
 obtain⟨c1,c2,i⟩:=M7 (n:=n) (nx:=nx) E G hr hl hm;obtain⟨c3,i3⟩:=RI (nx:=nx) J hk;refine⟨c1,c2,c3,aII i (aH J k) i3 fun j ob hj=>?_⟩;unfold aB at hj;rw [aE] at hj;split at hj
 ·injection hj with hj;subst hj;rfl
 rw [aE] at hj;split at hj
 ·injection hj with hj;subst hj;rfl
 exact bU hj
def mLX (s:List α→List β→Int→List γ→List Value→Option (Bool × Value)):XF:=fun args h nx K =>
 ∃ p q n r o l m k,args=mapA p q n::(r++[o])∧iQ E h p l∧iQ G h q m∧iQ J h o k∧(match s l m n k r with|some pr=>dT pr.1 (K pr.2 h nx)|none=>False)
theorem aCa {P:Program}{C:VC}{f:Nat}{s:List α→List β→Int→List γ→List Value→Option (Bool × Value)}(hC:bN P C)
  (hs:∀ l m n k r v,s l m n k r=some (true,v)→eT r=true∧gT v=true∧∀ c1 c2 c3,C f (aG l.length m.length c1 c2 n::(r++[.slice (some ⟨2,0,none⟩) k.length c3])) (j4 E G J l m k) 3 (fun u _ _=>u=v)):cT P f (mLX E G J s):=by
 refine (jD (S:=fun args0 h0 n0 v1 h1 j=>∃ l m n k r c1 c2 c3,s l m n k r=some (true,v1)∧args0=aG l.length m.length c1 c2 n::(r++[.slice (some ⟨2,0,none⟩) k.length c3])∧h0=j4 E G J l m k∧n0=3∧h1=[]∧j=0) hC ?_).mono ?_ ?_
 ·rintro args0 h0 n0 v1 h1 j ⟨l,m,n,k,r,c1,c2,c3,e1,rfl,rfl,rfl,rfl,rfl⟩;obtain⟨a1,a2,a3⟩:=hs l m n k r v1 e1;exact⟨rfl,_,a3 c1 c2 c3,fun v h nx e=>by rw [e];exact mG a2⟩
 ·rintro args h nx K ⟨p,q,n,r,o,l,m,k,rfl,hl,hm,hk,hx⟩;split at hx
  case h_2=>exact hx.elim
  rename_i pr e1;obtain⟨bb,u⟩:=pr;obtain⟨rfl,hx⟩:=aI.1 hx;obtain⟨a1,a2,a3⟩:=hs l m n k r u e1;obtain⟨c1,c2,c3,i⟩:=WB (n:=n) (nx:=nx) E G J a1 hl hm hk;refine⟨_,_,3,u,[],0,⟨l,m,n,k,r,c1,c2,c3,e1,rfl,rfl,rfl,rfl,rfl⟩,i,?_⟩;simp only [qK,wR,mR,m8,tP a2,Nat.add_zero];exact hx
 rintro args h nx K ⟨p,q,n,r,o,l,m,k,rfl,hl,hm,hk,hx⟩;split at hx
 case h_2=>exact hx.elim
 rename_i pr e1;obtain⟨hb,hx⟩:=aI.1 hx;exact⟨pr.2,h,nx,hx,fun K' hk'=>⟨p,q,n,r,o,l,m,k,rfl,hl,hm,hk,by rw [e1];exact aM hb hk'⟩⟩
def wrW:List Value→Value→Value
 |[],v=>v
 |a::r,v=>.agg (v::a::r).toArray
theorem V7 {ρ:Nat→Nat}{rest:List Value}(hr:dL rest=true){k n c:Nat}:jX ρ (wrW rest (.slice (some ⟨k,0,none⟩) n c))=wrW rest (.slice (some ⟨ρ k,0,none⟩) n c):=by
 cases rest with
 |nil=>simp [wrW,jX,tr,eD,bT,eG,mB]
 |cons a r =>
  show Value.agg (Array.map (bT (mB ρ)) (_::a::r).toArray)=Value.agg (_::a::r).toArray;rw [List.map_toArray,List.map_cons];congr 2;rw [List.cons.injEq];refine⟨by simp [bT,eG,mB],?_⟩
  conv=>rhs;rw [← List.map_id (a::r)]
  exact List.map_congr_left fun v hv=>kG (bB hr hv)
theorem aIq {rest:List Value}(hr:dL rest=true){n c:Nat}:C3 1 (wrW rest (.slice (some ⟨0,0,none⟩) n c)):=by
 cases rest with
 |nil=>exact⟨Nat.one_pos,fun h=>by cases h⟩
 |cons a r =>
  intro v hv;rcases List.mem_cons.1 hv with rfl|hv
  ·exact⟨Nat.one_pos,fun h=>by cases h⟩
  exact cX (bB hr hv)
def ylH (out:List δ):Heap:=[(0,.cells true false D.sz (flat D.fl out))]
def YM (out:List δ)(rest:List Value)(k:Nat):Value:=wrW rest (.slice (some ⟨k,0,none⟩) out.length out.length)
def YW (out:List δ)(rest:List Value):KE:=fun v h _=>∃ q,v=YM out rest q∧look h q=some (.cells true false D.sz (flat D.fl out))
theorem TE {out:List δ}{rest:List Value}(hr:dL rest=true){v:Value}{h:Heap}{nx:Nat}(hy:YW D out rest v h nx):L8 (YM out rest 0) (ylH D out) 1 v h nx:=by
 obtain⟨q,rfl,hq⟩:=hy;refine⟨fun _=>q,fun t v hv=>?_,fun k o hk=>?_,fun k k' o o' hk hk' _=>?_,fun k hk=>absurd hk (Nat.not_lt_zero _),Nat.zero_le _⟩
 ·rw [aE] at hv;split at hv
  ·rename_i hb;injection hv with hv;subst hv;refine⟨?_,aIq hr⟩;rw [aE,hb];show _=some (jX (fun _=>q) (wrW rest (.slice (some ⟨0,0,none⟩) out.length out.length)));rw [V7 hr];rfl
  exact bU hv
 ·unfold ylH at hk;rw [aE] at hk;split at hk
  ·rename_i hb;injection hk with hk;subst hk;rw [← beq_true hb];exact⟨Nat.one_pos,_,hq,rfl,rfl,rfl,(cZ (aH D out)).symm,fun v hv=>cX (bB (aH D out) hv)⟩
  exact bU hk
 unfold ylH at hk hk';rw [aE] at hk hk';split at hk
 ·rename_i h1;split at hk'
  ·rename_i h2;exact (beq_true h1).symm.trans (beq_true h2)
  exact bU hk'
 exact bU hk
theorem aBo {out:List δ}{rest:List Value}(hr:dL rest=true){h:Heap}{nx:Nat}{K:KE}(hk:K (YM out rest nx) (bZ h nx (.cells true false D.sz (flat D.fl out))) (nx+1)) :
  K (jX (fun k=>nx+k) (YM out rest 0)) (app (mR nx (ylH D out)) (qK (ylH D out) h)) (nx+1):=by
 have hm:(flat D.fl out).map (cD (fun k=>nx+k))=flat D.fl out:=cZ (aH D _);have e1:jX (fun k=>nx+k) (YM out rest 0)=YM out rest nx:=V7 hr;have e2:app (mR nx (ylH D out)) (qK (ylH D out) h)=bZ h nx (.cells true false D.sz (flat D.fl out)):=by
  show (nx+0,a8.cells true false D.sz ((flat D.fl out).map (cD (fun k=>nx+k))))::h=_;rw [hm];rfl
 rw [e1,e2];exact hk
abbrev YS (δ:Type):=Option (Bool × List δ × List Value)
def mYX (s:List α→List β→Int→List Value→YS δ):XF:=fun args h nx K=>∃ p q n r l m,args=mapA p q n::r∧iQ E h p l∧iQ G h q m ∧
 (match s l m n r with|some pr=>dT pr.1 (K (YM pr.2.1 pr.2.2 nx) (bZ h nx (.cells true false D.sz (flat D.fl pr.2.1))) (nx+1))|none=>False)
theorem aCM {P:Program}{C:VC}{f:Nat}{s:List α→List β→Int→List Value→YS δ}(hC:bN P C)
  (hs:∀ l m n r out rest,s l m n r=some (true,out,rest)→eT r=true∧dL rest=true∧∀ c1 c2,C f (aG l.length m.length c1 c2 n::r) (aB E G l m) 2 (YW D out rest)):cT P f (mYX E G D s):=by
 refine (jD (S:=fun args0 h0 n0 v1 h1 j=>∃ l m n r c1 c2 out rest,s l m n r=some (true,out,rest)∧args0=aG l.length m.length c1 c2 n::r∧h0=aB E G l m∧n0=2∧v1=YM out rest 0∧h1=ylH D out∧j=1) hC ?_).mono ?_ ?_
 ·rintro args0 h0 n0 v1 h1 j ⟨l,m,n,r,c1,c2,out,rest,e1,rfl,rfl,rfl,rfl,rfl,rfl⟩;obtain⟨a1,a2,a3⟩:=hs l m n r out rest e1;exact⟨rfl,_,a3 c1 c2,fun v h nx e=>TE D a2 e⟩
 ·rintro args h nx K ⟨p,q,n,r,l,m,rfl,hl,hm,hx⟩;split at hx
  case h_2=>exact hx.elim
  rename_i pr e1;obtain⟨bb,out,rest⟩:=pr;obtain⟨rfl,hx⟩:=aI.1 hx;obtain⟨a1,a2,a3⟩:=hs l m n r out rest e1;obtain⟨c1,c2,i⟩:=M7 (n:=n) (nx:=nx) E G a1 hl hm;exact⟨_,_,2,_,_,1,⟨l,m,n,r,c1,c2,out,rest,e1,rfl,rfl,rfl,rfl,rfl,rfl⟩,i,aBo D a2 hx⟩
 rintro args h nx K ⟨p,q,n,r,l,m,rfl,hl,hm,hx⟩;split at hx
 case h_2=>exact hx.elim
 rename_i pr e1;obtain⟨hb,hx⟩:=aI.1 hx;exact⟨_,_,_,hx,fun K' hk'=>⟨p,q,n,r,l,m,rfl,hl,hm,by rw [e1];exact aM hb hk'⟩⟩
def aJf (s:List α→List β→Int→List γ→List Value→YS δ):XF:=fun args h nx K=>∃ p q n r o l m k,args=mapA p q n::(r++[o])∧iQ E h p l∧iQ G h q m∧iQ J h o k ∧
 (match s l m n k r with|some pr=>dT pr.1 (K (YM pr.2.1 pr.2.2 nx) (bZ h nx (.cells true false D.sz (flat D.fl pr.2.1))) (nx+1))|none=>False)
theorem aFl {P:Program}{C:VC}{f:Nat}{s:List α→List β→Int→List γ→List Value→YS δ}(hC:bN P C)
  (hs:∀ l m n k r out rest,s l m n k r=some (true,out,rest)→eT r=true∧dL rest=true∧∀ c1 c2 c3,C f (aG l.length m.length c1 c2 n::(r++[.slice (some ⟨2,0,none⟩) k.length c3])) (j4 E G J l m k) 3 (YW D out rest)):cT P f (aJf E G J D s):=by
 refine (jD (S:=fun args0 h0 n0 v1 h1 j=>∃ l m n k r c1 c2 c3 out rest,s l m n k r=some (true,out,rest)∧args0=aG l.length m.length c1 c2 n::(r++[.slice (some ⟨2,0,none⟩) k.length c3])∧h0=j4 E G J l m k∧n0=3∧v1=YM out rest 0∧h1=ylH D out∧j=1) hC ?_).mono ?_ ?_
 ·rintro args0 h0 n0 v1 h1 j ⟨l,m,n,k,r,c1,c2,c3,out,rest,e1,rfl,rfl,rfl,rfl,rfl,rfl⟩;obtain⟨a1,a2,a3⟩:=hs l m n k r out rest e1;exact⟨rfl,_,a3 c1 c2 c3,fun v h nx e=>TE D a2 e⟩
 ·rintro args h nx K ⟨p,q,n,r,o,l,m,k,rfl,hl,hm,hk,hx⟩;split at hx
  case h_2=>exact hx.elim
  rename_i pr e1;obtain⟨bb,out,rest⟩:=pr;obtain⟨rfl,hx⟩:=aI.1 hx;obtain⟨a1,a2,a3⟩:=hs l m n k r out rest e1;obtain⟨c1,c2,c3,i⟩:=WB (n:=n) (nx:=nx) E G J a1 hl hm hk;exact⟨_,_,3,_,_,1,⟨l,m,n,k,r,c1,c2,c3,out,rest,e1,rfl,rfl,rfl,rfl,rfl,rfl⟩,i,aBo D a2 hx⟩
 rintro args h nx K ⟨p,q,n,r,o,l,m,k,rfl,hl,hm,hk,hx⟩;split at hx
 case h_2=>exact hx.elim
 rename_i pr e1;obtain⟨hb,hx⟩:=aI.1 hx;exact⟨_,_,_,hx,fun K' hk'=>⟨p,q,n,r,o,l,m,k,rfl,hl,hm,hk,by rw [e1];exact aM hb hk'⟩⟩
end
end Go.Aw
end

noncomputable section
namespace Go.Aw
section
variable {ρ:Nat→Nat}{n0 k:Nat}{h:Heap}{o o':a8}{r:List (Nat × a8)}{wr g:Bool}{sz:Nat}{cs:List Value}
theorem iN {α:Type}{P:α→Prop}:∀ p∈([]:List α),P p:=fun _ h=>by cases h
theorem iE {e:List (Nat × Value)}{v:Value}{s:List (Nat × Value)}(h1:look e k=some (jX ρ v))(h2:aD6 n0 v=true)(h3:∀ p∈s,look e p.1=some (jX ρ p.2)∧C3 n0 p.2):∀ p∈(k,v)::s,look e p.1=some (jX ρ p.2)∧C3 n0 p.2 :=
 List.forall_mem_cons.2 ⟨⟨h1,lR h2⟩,h3⟩
theorem iW (h1:Nat.ble (k+1) n0=true)(h2:look h (ρ k)=some o')(h4:bQ ρ n0 o o')(h3:∀ p∈r,p.1<n0∧∃ o',look h (ρ p.1)=some o'∧bQ ρ n0 p.2 o'):∀ p∈(k,o)::r,p.1<n0∧∃ o',look h (ρ p.1)=some o'∧bQ ρ n0 p.2 o' :=
 List.forall_mem_cons.2 ⟨⟨Nat.le_of_ble_eq_true h1,_,h2,h4⟩,h3⟩
theorem iG (h1:Nat.ble (k+1) n0=true)(h2:look h (ρ k)=some (.cells wr g sz cs))(h4:dL cs=true)(h3:∀ p∈r,p.1<n0∧∃ o',look h (ρ p.1)=some o'∧bQ ρ n0 p.2 o'):∀ p∈(k,.cells wr g sz cs)::r,p.1<n0∧∃ o',look h (ρ p.1)=some o'∧bQ ρ n0 p.2 o' :=
 iW h1 h2 (aN h4) h3
theorem iF {α:Type}{E:El α}{l:List α}(h1:Nat.ble (k+1) n0=true)(h2:look h (ρ k)=some (.cells wr g sz (flat E.fl l)))(h3:∀ p∈r,p.1<n0∧∃ o',look h (ρ p.1)=some o'∧bQ ρ n0 p.2 o'):∀ p∈(k,.cells wr g sz (flat E.fl l))::r,p.1<n0∧∃ o',look h (ρ p.1)=some o'∧bQ ρ n0 p.2 o' :=
 iG h1 h2 (aH E l) h3
theorem iC (h1:Nat.ble (k+1) n0=true)(h2:look h (ρ k)=some (.cells wr g sz (cs.map (cD ρ))))(h4:RZ n0 cs=true)(h3:∀ p∈r,p.1<n0∧∃ o',look h (ρ p.1)=some o'∧bQ ρ n0 p.2 o'):∀ p∈(k,.cells wr g sz cs)::r,p.1<n0∧∃ o',look h (ρ p.1)=some o'∧bQ ρ n0 p.2 o' :=
 iW h1 h2 ⟨rfl,rfl,rfl,rfl,cO h4⟩ h3
theorem iJ {cs':List Value}(h1:Nat.ble (k+1) n0=true)(h2:look h (ρ k)=some (.cells wr g sz cs'))(h4:dL cs=true)(h5:cs'=cs)(h3:∀ p∈r,p.1<n0∧∃ o',look h (ρ p.1)=some o'∧bQ ρ n0 p.2 o'):∀ p∈(k,.cells wr g sz cs)::r,p.1<n0∧∃ o',look h (ρ p.1)=some o'∧bQ ρ n0 p.2 o' :=
 iW h1 h2 (aU h4 h5) h3
theorem iK {k0 q:Nat}(h1:(Nat.beq k k0 || !Nat.beq k q)=true)(h3:∀ p∈r,p.1≠k0→p.1≠q):∀ p∈(k,o)::r,p.1≠k0→p.1≠q :=
 List.forall_mem_cons.2 ⟨fun hk e=>by
  simp only [Bool.or_eq_true,Bool.not_eq_true'] at h1;rcases h1 with h1|h1
  ·exact hk (beq_true h1)
  exact beq_false h1 e,h3⟩
end
end Go.Aw
end
