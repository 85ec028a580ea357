/-
  Parts of a proof. No condition.
-/
import Derived.Test.YthgjfhncomhofaaGreatQAj
import Derived.Test.YthgjfhncomhofaaGreatQAl
import Derived.Test.YthgjfhncomhofaaGreatQAm
import Derived.Test.YthgjfhncomhofaaGreatQAo
import Derived.Test.YthgjfhncomhofaaGreatQAp
import Derived.Test.YthgjfhncomhofaaGreatChecked
import Derived.Test.YthgjfhncomhofaaGreatRows
import Derived.ProofKit
import Derived.Lib.SmallJoins
import Derived.Deep.Slices
import Derived.Deep.Fields
set_option linter.unusedSimpArgs false
set_option linter.unusedVariables false
noncomputable section
namespace Go.Proofs.YthgjfhncomhofaaGreat
open Go.ChangeShapes Go.WideShapes Go.ChangeAt Go.RowKit Go.Joins
theorem fY {a b:Bool}(ha:a=true)(hb:b=true):(a&&b)=true:=by rw[ha,hb];rfl
theorem jf0:(Rows.facesWithoutRow.wf (OpenSpec.ofChange Rows.facesWithoutSpec))=true:=by kernel_rfl
theorem jf1:(laidOutB Tryz.prog)=true:=by kernel_rfl
theorem jf2:(mapsRowed Tryz.prog)=true:=by kernel_rfl
theorem jf3:(Tryz.f3.params.all (Tryz.prog.readableRec ·))=true:=by kernel_rfl
theorem jf4:(namedTie Tryz.prog Rows.facesWithoutRow.named Rows.facesWithoutSpec.vars)=true:=by kernel_rfl
theorem jf5:((Rows.facesWithoutRow.stops == []))=true:=by kernel_rfl
theorem jf6:((Tryz.prog.stops == []))=true:=by kernel_rfl
theorem jf7:((Rows.facesWithoutRow.knobs == []))=true:=by kernel_rfl
theorem jf8:((Tryz.prog.stopKnobs == []))=true:=by kernel_rfl
theorem jf9:((Rows.facesWithoutRow.inPlace == Tryz.prog.inPlace 3))=true:=by kernel_rfl
theorem aRw:((Rows.facesWithoutRow.unfollowed == Tryz.prog.unfollowed 3))=true:=by kernel_rfl
theorem aRE:((Rows.facesWithoutRow.recurses == Tryz.prog.recurses 3))=true:=by kernel_rfl
theorem aRC:((Rows.facesWithoutRow.named == Tryz.prog.varsNamed 3))=true:=by kernel_rfl
theorem aSp:((Rows.facesWithoutRow.maps == (Tryz.f3.params.toList++Rows.facesWithoutSpec.plain.varTypes Tryz.prog).any (Tryz.prog.mapsRec ·)))=true:=by kernel_rfl
theorem aR6:((Rows.facesWithoutRow.ifaces == (Tryz.f3.params.toList++Rows.facesWithoutSpec.plain.varTypes Tryz.prog).any (Tryz.prog.ifacesRec ·)))=true:=by kernel_rfl
theorem aRi:((Rows.facesWithoutRow.mapsOut == Tryz.prog.mapsAmong Tryz.f3.resultTypes.toList))=true:=by kernel_rfl
theorem aRc:((Rows.facesWithoutRow.loops == (Tryz.f3.params.toList++Rows.facesWithoutSpec.plain.varTypes Tryz.prog).any (Tryz.prog.loopsFrom ·)))=true:=by kernel_rfl
theorem aSn:((Rows.facesWithoutRow.wideKeys == (Tryz.f3.params.toList++Rows.facesWithoutSpec.plain.varTypes Tryz.prog++Tryz.f3.resultTypes.toList).any (Tryz.prog.wideKeysFrom ·)))=true:=by kernel_rfl
theorem aRk:(Rows.facesWithoutSpec.vars.all (Tryz.prog.varReadable ·))=true:=by kernel_rfl
theorem aSq:(Tryz.f3.resultTypes.all (fun t=>Tryz.prog.readableRec t&&decide (t<Tryz.prog.types.size)))=true:=by kernel_rfl
theorem aSB:((Rows.facesWithoutRow.ifacesOut == Tryz.f3.resultTypes.toList.any (Tryz.prog.ifacesRec ·)))=true:=by kernel_rfl
theorem aRR:((Rows.facesWithoutRow.loopsOut == Tryz.f3.resultTypes.toList.any (Tryz.prog.loopsFrom ·)))=true:=by kernel_rfl
theorem aRz:((Rows.facesWithoutRow.plainKeys == Tryz.prog.plainKeys))=true:=by kernel_rfl
theorem aS9:(Rows.facesWithoutRow.shortTexts.isNone)=true:=by kernel_rfl
theorem aRt:(Tryz.prog.stopsHeard)=true:=by kernel_rfl
theorem aSf:(Tryz.prog.mayEnter)=true:=by kernel_rfl
theorem aRW:((Rows.facesWithoutRow.lifted == Tryz.prog.liftsFinal))=true:=by kernel_rfl
theorem aS1:((Tryz.prog.make == some Rows.facesWithoutRow.make))=true:=by kernel_rfl
theorem aRl:((Rows.facesWithoutRow.pinned == Rows.facesWithoutRow.pinnedBy))=true:=by kernel_rfl
theorem aRY:((Rows.facesWithoutRow.veiled == (Tryz.f3.params.toList++Rows.facesWithoutSpec.plain.varTypes Tryz.prog++Tryz.f3.resultTypes.toList).any (Tryz.prog.veiledRec ·)))=true:=by kernel_rfl
theorem aRI:(Rows.facesWithoutRow.veiledFits Tryz.prog Tryz.f3.params.toList (Tryz.f3.params.toList++Rows.facesWithoutSpec.plain.varTypes Tryz.prog++Tryz.f3.resultTypes.toList))=true:=by kernel_rfl
end Go.Proofs.YthgjfhncomhofaaGreat
end

noncomputable section
namespace Go.Aw
open Proofs
open Go.RowKit
section
variable {α β:Type}(E:El α)(E2:El β)
def aRa:Value->Bool
 |.slice _ n c=>Nat.beq n c
 |_=>false
def irX (s:List α->List Value->Option (Bool × Bool × List β)):XF:=fun args h nx K=>match args with
 |v::r=>∃ l,eY E h v l/\aRa v=true/\(match s l r with|some p=>eF p.1 (match p.2.1 with|true=>K v h nx|false=>aGH E2 p.2.2 none h nx K)|none=>False)
 |_=>False
theorem aMS {P:Program}{C:VC}{f:Nat}{s:List α->List Value->Option (Bool × Bool × List β)}(hC:bN P C)
  (hs:∀ l r b out,s l r=some (true,b,out)->fI r=true/\C f (ak 0 l.length l.length::r) [(0,.cells false true E.sz (flat E.fl l))] 1 (fun v h nx=>match b with|true=>v=ak 0 l.length l.length|false=>Yields E2 out none v h nx)):c7 P f (irX E E2 s):=by
 refine⟨fun args h nx K hx ι B w H hsc=>?_,fun args h nx K hx=>?_⟩
 ·unfold irX at hx;split at hx
  case h_2=>exact hx.elim
  rename_i v r;obtain⟨l,hl,hcp,hx⟩:=hx;split at hx
  case h_2=>exact hx.elim
  rename_i p e1;obtain⟨b,k,out⟩:=p;obtain⟨rfl,hx⟩:=aH.1 hx;obtain⟨a1,a2⟩:=hs l r k out e1;have key:In (ak 0 l.length l.length::r) [(0,.cells false true E.sz (flat E.fl l))] 1 (v::r) h nx:=by
   clear hx hsc;unfold eY at hl;split at hl
   ·rename_i n c;obtain⟨rfl,rfl,rfl⟩:=hl;exact Q7 a1 true E.sz E.pos
   ·rename_i k o n c;obtain⟨rfl,wr,g,sz,cs,hk,hcs⟩:=hl;have hc:=az hcp;subst hc;exact Z6 a1 hk hcs (aC E l) true E.sz E.pos
   exact hl.elim
  cases k with
  |false =>
   have hy:c7 P f (yOf E2 (fun args0 h0 n0 out e=>s l r=some (true,false,out)/\e=none/\args0=ak 0 l.length l.length::r/\h0=[(0,.cells false true E.sz (flat E.fl l))]/\n0=1)):=aLm E2 hC fun args0 h0 n0 out e ⟨e1,e2,e3,e4,e5⟩=>by
    subst e2 e3 e4 e5;exact(hs l r false out e1).2
   exact hy.1 (v::r) h nx K (aHv E2 ⟨e1,rfl,rfl,rfl,rfl⟩ key hx) ι B w H hsc
  |true =>
   obtain⟨ι0,e2,e3,e4⟩:=key ι B w H hsc;obtain⟨c1,c2⟩:=hC f _ _ 1 _ a2 ι0 w.heap.size w e4 e3;refine⟨c1,?_⟩;rw[e2];refine CallsIn.mono c2 fun e w' hr=>?_;cases e with
   |returned u =>
    obtain⟨v',h',nx',ι',q1,q2,q3,q4,q5,q6,rfl⟩:=hr;have q1:v'=ak 0 l.length l.length:=q1;subst q1;refine⟨v,h,nx,ι,hx,hsc v (.head _),H.ext q4,q4.mono H.size,fun _ _=>rfl,ah _,?_⟩;rw[List.map_cons,List.map_cons]at e2;injection e2 with e2 _;rw[e2];simp only[tr,eK,cF,eM,q5 0 Nat.one_pos]
   |_=>exact hr.elim
 unfold irX at hx;split at hx
 case h_2=>exact hx.elim
 rename_i v r;obtain⟨l,hl,hcp,hx⟩:=hx;split at hx
 case h_2=>exact hx.elim
 rename_i p e1;obtain⟨b,k,out⟩:=p;obtain⟨hb,hx⟩:=aH.1 hx;cases k with
 |true=>exact⟨_,_,_,hx,fun K' hk=>⟨l,hl,hcp,by rw[e1];exact aM hb hk⟩⟩
 |false =>
  cases out with
  |nil=>exact⟨_,_,_,hx,fun K' hk=>⟨l,hl,hcp,by rw[e1];exact aM hb hk⟩⟩
  |cons a t=>exact⟨_,_,_,hx,fun K' hk=>⟨l,hl,hcp,by rw[e1];exact aM hb hk⟩⟩
end
def sX (n0:Nat)(σ:Nat->Nat)(nx:Nat)(k:Nat):Nat:=if k<n0 then σ k else nx+k
def shT (τ:Nat->Nat)(n:Nat):Heap->Heap
 |[]=>[]
 |(k,.cells wr g sz cs)::r=>(n+k,.cells wr g sz (cs.map (cB τ)))::shT τ n r
 |(k,o)::r=>(n+k,o)::shT τ n r
theorem aD0 {h:Heap}(hh:pF h=true):fL h=true:=by
 induction h with
 |nil=>rfl
 |cons p r ih =>
  obtain⟨k,o⟩:=p;simp only[pF,af]at hh;simp only[fL,af];refine⟨?_,ih hh.2⟩;cases o <;> simp_all [V4,H7]
theorem DA {τ:Nat->Nat}{n:Nat}(h:Heap)(hh:fL h=true){k:Nat}{o:bV}(hl:aw (shT τ n h) k=some o):∃ j wr g sz cs,k=n+j/\aw h j=some (.cells wr g sz cs)/\o=.cells wr g sz (cs.map (cB τ)):=by
 induction h with
 |nil=>cases hl
 |cons p r ih =>
  obtain⟨i,q⟩:=p;have hq:∃ wr g sz cs,q=.cells wr g sz cs:=kD hh (k:=i) (by rw[aD,Nat.beq_refl]);obtain⟨wr,g,sz,cs,rfl⟩:=hq;have hr:fL r=true:=(by simp only[fL,af]at hh;exact hh.2);unfold shT at hl;rw[aD]at hl;split at hl
  ·rename_i hb;injection hl with hl;exact⟨i,wr,g,sz,cs,(az hb).symm,by rw[aD,Nat.beq_refl],hl.symm⟩
  rename_i hb;obtain⟨j,wr',g',sz',cs',rfl,e1,e2⟩:=ih hr hl;refine⟨j,wr',g',sz',cs',rfl,?_,e2⟩;rw[aD];split
  ·rename_i hb2;have:=az hb2;subst this;rw[Nat.beq_refl]at hb;cases hb
  exact e1
theorem aD6 {σ:Nat->Nat}{B nx n0 m:Nat}{w w':World}{ι ι0:Nat->Loc}{h h1:Heap}{v1:Value}{K Q:KE}{u:Value}(H:aY ι B h nx w)(hσ:∀ k,k<n0->σ k<nx)(hι0:∀ k,k<n0->ι0 k=ι (σ k))(hlow:∀ k o,aw h1 k=some o->n0<=k)
  (hQ:∀ v h' nx',Q v h' nx'->∃ ρ,mF n0 ρ [(0,v1)] h1 m [(0,v)] h' nx') (how:pF h1=true) (hK:K (fJ (sX n0 σ nx) v1) (app (shT (sX n0 σ nx) nx h1) h) (nx+m))
  (hr:Ret w.heap.size w ι0 n0 Q (.returned u) w'):Ret B w ι nx K (.returned u) w':=by
 obtain⟨v,h',nx',ι',q1,q2,q3,q4,q5,q6,q7⟩:=hr;obtain⟨ρ,r⟩:=hQ v h' nx' q1;have hv:v=fJ ρ v1/\BO m v1:=by
  obtain⟨e1,e2⟩:=r.env 0 v1 rfl;injection e1 with e1;exact⟨e1,e2⟩
 obtain⟨rfl,hnm⟩:=hv;obtain⟨ιN,hloc,hold⟩:∃ ιN:Nat->Loc,(∀ j,ιN (nx+j)=ι' (ρ j))/\∀ k,k<nx->ιN k=ι k :=
  ⟨fun k=>if k<nx then ι k else ι' (ρ (k - nx)),fun j=>by
   have:¬(nx+j<nx):=aa;simp only[if_neg this,Nat.add_sub_cancel_left],fun k hk=>if_pos hk⟩
 have hι:(fun k=>ιN (sX n0 σ nx k))=fun k=>ι' (ρ k):=funext fun k=>by
  unfold sX;by_cases hk:k<n0
  ·rw[if_pos hk,hold _ (hσ k hk),r.fix k hk,q5 k hk,hι0 k hk]
  rw[if_neg hk,hloc]
 have htl:∀ k,k<m->sX n0 σ nx k<nx+m:=fun k hk=>by
  unfold sX;split
  ·have:=hσ k (by assumption);omega
  omega
 have hsm:fU (fun k=>ι' (ρ k)) m v1:=zH q2 hnm;have R1:=r.aJR q3;have H':aY ι B h nx w':=H.ext q4;have hscn:fU ιN (nx+m) (fJ (sX n0 σ nx) v1):=by
  refine T2 (m:=m) ?_ htl;rw[hι];exact hsm
 have hcase:∀ k o,aw (app (shT (sX n0 σ nx) nx h1) h) k=some o->(aw h k=some o/\k<nx)\/(∃ j wr g sz cs,k=nx+j/\aw h1 j=some (.cells wr g sz cs)/\o=.cells wr g sz (cs.map (cB (sX n0 σ nx)))):=by
  intro k o hk;rw[jM]at hk;split at hk
  ·rename_i o' ho;injection hk with hk;subst hk;obtain⟨j,wr,g,sz,cs,e1,e2,e3⟩:=DA h1 (aD0 how) ho;exact .inr ⟨j,wr,g,sz,cs,e1,e2,e3⟩
  exact .inl ⟨hk,H.low k _ hk⟩
 refine⟨fJ (sX n0 σ nx) v1,_,_,ιN,hK,hscn,⟨?_,?_,?_,H'.size,?_⟩,q4.mono H.size,hold,aa,?_⟩
 ·intro k o hk;rcases hcase k o hk with⟨h2,h3⟩|⟨j,wr,g,sz,cs,rfl,h2,rfl⟩
  ·rw[hold k h3];exact(H'.obj k o h2).names (H'.sc k o h2) hold
  rw[hloc];have ho:=R1.obj j _ h2;have hsc:=R1.sc j _ h2;cases hl:ι' (ρ j)with
  |nil p =>
   rw[hl]at ho;have hcz:cs=[]/\(sz=0\/wr=true->p.isSome=true):=(by cases wr <;> exact ho);obtain⟨hc0,hz⟩:=hcz;subst hc0;cases wr <;> exact⟨rfl,hz⟩
  |lay b off e =>
   rw[hl]at ho;have hcell:∀{Φ:Nat->Value->Prop},(∀(i:Nat) y,cs[i]? = some y->Φ i (cF (fun k=>ι' (ρ k)) y))->∀(i:Nat) v,(cs.map (cB (sX n0 σ nx)))[i]? = some v->Φ i (cF ιN v):=by
    intro Φ hΦ i v hv;rw[List.getElem?_map]at hv;cases hy:cs[i]? with
    |none=>rw[hy]at hv;cases hv
    |some y =>
     rw[hy]at hv;injection hv with hv;subst hv;have hsy:=hsc y (List.mem_of_getElem? hy);have hin:jJ ιN (nx+m) (cF (j4 (sX n0 σ nx)) y):=by
      refine iQ (m:=m) ?_ htl;rw[hι];exact hsy
     have:=hΦ i y hy;rw[<- hι,<- iL hin]at this;exact this
   have hgg:∀{b:Bool},(b=true->dT cs=true)->b=true->dT (cs.map (cB (sX n0 σ nx)))=true:=fun h hg=>r7 fun v hv=>by
    obtain⟨y,hy,rfl⟩:=List.mem_map.1 hv;exact aDX (a9 (h hg) hy)
   cases wr with
   |true =>
    obtain⟨a1,a2,arr,t,a3,a4,a5⟩:=ho;exact⟨Nat.le_trans H.size a1,hgg a2,arr,t,a3,by simpa using a4,hcell (Φ:=fun i v=>arr[off+i]? = some v) a5⟩
   |false =>
    obtain⟨a1,a2,a5⟩:=ho;exact⟨a1,hgg a2,hcell (Φ:=fun i v=>w'.cell? ⟨b,off+i,none⟩=some v) a5⟩
 ·intro k k' o o' hk hk' hne ha b hb;rcases hcase k o hk with⟨h2,h3⟩|⟨j,wr,g,sz,cs,rfl,h2,rfl⟩
  ·rw[hold k h3]at hb;rcases hcase k' o' hk' with⟨h4,h5⟩|⟨j',wr',g',sz',cs',rfl,h4,rfl⟩
   ·rw[hold k' h5];exact H'.sep k k' o o' h2 h4 hne ha b hb
   rw[hloc];intro hb';have hlt:=(H.obj k o h2).lt hb;obtain⟨g2,sz2,cs2,e2⟩:=OU how h4;have ho:=R1.obj j' _ h4;cases hl:ι' (ρ j')with
   |nil p=>rw[hl]at hb';cases hb'
   |lay b2 off e =>
    rw[hl]at hb';rw[hl,e2]at ho;have:b2=b:=(by simpa[Loc.F9]using hb');have:=ho.1;omega
  rw[hloc]at hb;rcases hcase k' o' hk' with⟨h4,h5⟩|⟨j',wr',g',sz',cs',rfl,h4,rfl⟩
  ·rw[hold k' h5];intro hb';have hlt:=(H.obj k' o' h4).lt hb';have ho:=R1.obj j _ h2;cases hl:ι' (ρ j)with
   |nil p=>rw[hl]at hb;cases hb
   |lay b2 off e =>
    rw[hl]at ho hb;have:b2=b:=(by simpa[Loc.F9]using hb);have hwr:wr=true:=ha;subst hwr;have:=ho.1;omega
  rw[hloc];exact R1.sep j j' _ _ h2 h4 (fun e=>hne (by rw[e])) ha b hb
 ·intro k o hk;rcases hcase k o hk with⟨h2,h3⟩|⟨j,wr,g,sz,cs,rfl,h2,rfl⟩
  ·omega
  have:=R1.low j _ h2;omega
 ·intro k o hk;rcases hcase k o hk with⟨h2,h3⟩|⟨j,wr,g,sz,cs,rfl,h2,rfl⟩
  ·exact(H'.sc k o h2).mono aa hold
  intro v hv;obtain⟨y,hy,rfl⟩:=List.mem_map.1 hv;refine iQ (m:=m) ?_ htl;rw[hι];exact R1.sc j _ h2 y hy
 rw[q7,x9 q2,x9 hscn,hι]
theorem aDt {args0:List Value}{h0:Heap}{n0:Nat}{args:List Value}{h:Heap}{nx:Nat}(ρ:Nat->Nat)(ha:args=args0.map (fJ ρ))(hn:∀ v∈args0,BO n0 v)
  (ho:∀ k o,aw h0 k=some o->k<n0/\∃ g sz cs0,o=.cells false g sz cs0/\sz≠0/\(g=true->dT cs0=true)/\(∀ v∈cs0,wM n0 v)/\∃ wr g' sz' cs,aw h (ρ k)=some (.cells wr g' sz' cs)/\cs.take cs0.length=cs0.map (cB ρ)) :
  ∀ ι B w,aY ι B h nx w->(∀ v∈args,fU ι nx v)->args.map (tr ι)=args0.map (tr fun k=>ι (ρ k))/\(∀ v∈args0,fU (fun k=>ι (ρ k)) n0 v)/\aY (fun k=>ι (ρ k)) w.heap.size h0 n0 w:=by
 intro ι B w H hs;subst ha;have hsc:∀ v∈args0,fU ι nx (fJ ρ v):=fun v hv=>hs _ (List.mem_map.2 ⟨v,hv,rfl⟩);refine⟨?_,fun v hv=>zH (hsc v hv) (hn v hv),⟨fun k o hk=>?_,fun k k' o o' hk hk' hne ha b hb=>?_,fun k o hk=>(ho k o hk).1,ah _,fun k o hk=>?_⟩⟩
 ·rw[List.map_map];exact List.map_congr_left fun v hv=>x9 (hsc v hv)
 ·obtain⟨_,g,sz,cs0,rfl,hz,hg,hm,wr,g',sz',cs,hl,hc⟩:=ho k o hk;have hob:=H.obj _ _ hl;have hso:=H.sc _ _ hl;cases hι:ι (ρ k)with
  |nil p =>
   rw[hι]at hob;have h0:cs=[]:=(by cases wr <;> exact hob.1);subst h0;have:cs0=[]:=by
    cases cs0 with
    |nil=>rfl
    |cons a r=>simp at hc
   subst this;exact⟨rfl,fun h=>h.elim (fun h=>absurd h hz) (fun h=>by cases h)⟩
  |lay b off e =>
   have hlt:b<w.heap.size:=hob.lt (by rw[hι];rfl);refine⟨hlt,hg,fun i v hv=>?_⟩;have h1:(cs.take cs0.length)[i]? = some (cB ρ v):=(by rw[hc,List.getElem?_map,hv];rfl);have hi:i<cs0.length:=(List.getElem?_eq_some_iff.1 hv).1;rw[List.getElem?_take,if_pos hi]at h1;obtain⟨b2,off2,e2,hι2,hcell⟩:=H.cell hl h1;rw[hι]at hι2;injection hι2 with i1 i2 i3;subst i1;subst i2;rw[hcell];congr 1;exact iL (hso _ (List.mem_of_getElem? h1))
 ·obtain⟨_,g,sz,cs0,rfl,_⟩:=ho k o hk;cases ha
 obtain⟨_,g,sz,cs0,rfl,hz,hg,hm,wr,g',sz',cs,hl,hc⟩:=ho k o hk;intro v hv;have hso:=H.sc _ _ hl;have hmem:cB ρ v∈cs:=by
  have:cB ρ v∈cs.take cs0.length:=(by rw[hc];exact List.mem_map.2 ⟨v,hv,rfl⟩);exact List.mem_of_mem_take this
 exact pM (hso _ hmem) (hm v hv)
def InN (σ:Nat->Nat)(args0:List Value)(h0:Heap)(n0:Nat)(args:List Value)(h:Heap)(nx:Nat):Prop :=
 args=args0.map (fJ σ)/\(∀ v∈args0,BO n0 v)/\(∀ k o,aw h0 k=some o->k<n0/\∃ g sz cs0,o=.cells false g sz cs0/\sz≠0/\(g=true->dT cs0=true)/\(∀ v∈cs0,wM n0 v)/\∃ wr g' sz' cs,aw h (σ k)=some (.cells wr g' sz' cs)/\cs.take cs0.length=cs0.map (cB σ))/\∀ k,k<n0->σ k<nx
def xNm (S:Sp):XF:=fun args h nx K=>∃ args0 h0 n0 v1 h1 m σ,S args0 h0 n0 v1 h1 m/\InN σ args0 h0 n0 args h nx/\K (fJ (sX n0 σ nx) v1) (app (shT (sX n0 σ nx) nx h1) h) (nx+m)
theorem aMF {P:Program}{C:VC}{f:Nat}{S:Sp}(hC:bN P C)(hS:∀ args0 h0 n0 v1 h1 m,S args0 h0 n0 v1 h1 m->pF h1=true/\(∀ k o,aw h1 k=some o->n0<=k)/\∃ Q:KE,C f args0 h0 n0 Q/\∀ v h nx,Q v h nx->∃ ρ,mF n0 ρ [(0,v1)] h1 m [(0,v)] h nx):c7 P f (xNm S):=by
 refine⟨fun args h nx K hx ι B w H hs=>?_,fun args h nx K hx=>?_⟩
 ·obtain⟨args0,h0,n0,v1,h1,m,σ,s1,⟨a1,a2,a3,a4⟩,s3⟩:=hx;obtain⟨how,hlow,Q,hc,hq⟩:=hS _ _ _ _ _ _ s1;obtain⟨e1,e2,e3⟩:=aDt σ a1 a2 a3 ι B w H hs;obtain⟨c1,c2⟩:=hC f args0 h0 n0 _ hc (fun k=>ι (σ k)) w.heap.size w e3 e2;refine⟨c1,?_⟩;rw[e1];refine CallsIn.mono c2 fun e w' hr=>?_;cases e with
  |returned u=>exact aD6 H a4 (fun _ _=>rfl) hlow (hq) how s3 hr
  |_=>exact hr.elim
 obtain⟨args0,h0,n0,v1,h1,m,σ,s1,s2,s3⟩:=hx;exact⟨_,_,_,s3,fun K' hk=>⟨args0,h0,n0,v1,h1,m,σ,s1,s2,hk⟩⟩
set_option maxRecDepth 100000
def aMM (l:List Pt)(m:List Ed):Prop:=l.length<=400/\1<=m.length/\m.length<=400/\jS l m=true/\(∀ i,i<l.length->0<=(bI l i).1/\(bI l i).1<=10000/\0<=(bI l i).2/\(bI l i).2<=10000)/\ZG (bA l m m.length)=true/\∀ s,s<l.length->(SW (bA l m m.length) s (2*m.length)).length≠0
def NX (l:List Pt)(m:List Ed):Heap:=(6,aq 5 (flat wQ.fl (bA l m m.length)))::(5,aq 1 (tC (outs l m).length (outs l m)))::tH (outs l m).length (outs l m) (outs l m).length
def YE (l:List Pt)(m:List Ed)(c1 c2:Nat)(n:Int):Heap :=
 (4,aq 1 (rZ l.length m.length c1 c2 n (ak 6 (2*m.length) (2*m.length)) (ak 5 l.length l.length) aI))::NX l m
theorem Y4 (s:Nat)(ls:List (List Int)):∀ n,pF (tH s ls n)=true
 |0=>rfl
 |n+1=>by
  unfold tH;split
  ·exact Y4 s ls n
  exact Y4 s ls n
theorem JR {l:List Pt}{m:List Ed}{p:Nat × bV}(h:p∈NX l m):p=(6,aq 5 (flat wQ.fl (bA l m m.length)))\/p=(5,aq 1 (tC (outs l m).length (outs l m)))\/∃ i,i<(outs l m).length/\(cH (outs l m) i).length≠0/\p=(i+1000,ob (cH (outs l m) i)):=by
 unfold NX at h;simp only[List.mem_cons]at h;rcases h with h|h|h
 ·exact .inl h
 ·exact .inr (.inl h)
 obtain⟨i,h1,h2,h3,h4⟩:=BK h;exact .inr (.inr ⟨i,h1,h3,h4⟩)
theorem TE {l:List Pt}{m:List Ed}{c1 c2:Nat}{n:Int}(k:Nat)(o:bV)(hk:aw (YE l m c1 c2 n) k=some o):2<=k:=by
 have hm:=aT hk;unfold YE at hm;rcases List.mem_cons.1 hm with h|h
 ·injection h with e1 e2;omega
 ·rcases JR h with h|h|⟨i,_,_,h⟩ <;> (injection h with e1 e2;omega)
theorem KL {l:List Pt}{m:List Ed}{c1 c2:Nat}{n:Int}(k:Nat)(o:bV)(hk:aw (YE l m c1 c2 n) k=some o):aw (Q0 l m c1 c2 n (2*m.length) (bA l m m.length) (outs l m)) k=some o:=by
 have hl:=TE k o hk;unfold YE NX at hk;unfold Q0;rw[aD]at hk ⊢;split at hk
 ·exact hk
 rw[aD]at hk ⊢;split at hk
 ·exact hk
 rw[aD]at hk ⊢;split at hk
 ·exact hk
 rw[bJ aa,bJ aa];exact hk
def aGV:Nat × XF:=(125,xNm fun args0 h0 n0 v1 h1 j=>∃ l m n c1 c2,aMM l m/\args0=[fH l.length m.length c1 c2 n]/\h0=aS aX bS l m/\n0=2/\v1=ao 4/\h1=YE l m c1 c2 n/\j=2000)
theorem aPs:c7 Tryz.prog aGV.1 aGV.2:=aMF (aL (xl:=[(121,OE (zX 1000))]) (.cons (TS 1000) .nil)) fun args0 h0 n0 v1 h1 j ⟨l,m,n,c1,c2,⟨a1,a2,a3,a4,a5,a6,a7⟩,e1,e2,e3,e4,e5,e6⟩=>by
 subst e1 e2 e3 e4 e5 e6;refine⟨Y4 _ _ _,TE,_,aLc l m n c1 c2 a1 a2 a3 a4 a5 a6 a7,?_⟩;rintro v h nx ⟨ρ,r⟩;exact⟨ρ,r.env,fun k o hk=>r.heap k o (KL k o hk),fun k k' o o' h1 h2 e=>r.inj k k' o o' (KL k o h1) (KL k' o' h2) e,r.fix,r.le⟩
set_option maxHeartbeats 2000000
def aFK (a:BN):Prop:=vV a.l a.D a.ls=true/\RJ a.D a.ls=true/\D3 a.R 2010/\aw a.R 14=none/\WbR a.R a.k0 a.kd a.kt a.nm a.l a.D a.ls/\(a.k0<2010/\a.k1<2010/\a.kd<2010/\a.kt<2010)
def J7 (a:BN):Heap:=(14,AQ a (ak 2010 a.D.length a.D.length))::(2010,aq 1 (flat aW.fl (ZW a.l a.D a.ls).face))::a.R
def aLh:XF:=dX aFK (fun _=>[ao 14]) (fun a=>(14,AQ a aI)::a.R) (fun _=>2010) (fun a=>.tuple #[iv (ZW a.l a.D a.ls).many,.bool (nC (ZW a.l a.D a.ls))])
 J7 (fun _=>2011)
def kT (N:Nat)(s:IW)(j:Int):List (Nat × Value):=[(0,ao 14),(4,ak 2011 N N),(5,iv s.many),(6,iv s.out),(7,.bool s.flat),(33,iv N),(34,iv j)]
def kS (a:BN)(s:IW):Heap:=[(14,AQ a (ak 2010 a.D.length a.D.length)),(2010,aq 1 (flat aW.fl s.face)),(2011,aq 1 (flat gJ.fl s.seen))]
def jV (N:Nat)(s:IW)(j fc:Int)(n:Nat)(x:Int):List (Nat × Value):=(11,iv fc)::(58,ak 2012 n n)::(59,iv n)::(60,iv x)::kT N s j
theorem zM {a:BN}(h6:a.k0<2010/\a.k1<2010/\a.kd<2010/\a.kt<2010){h:Heap}{s:IW}{n0:Nat}(hn:2012<=n0)(x1:aw h 14=some (AQ a (ak 2010 a.D.length a.D.length)))(x2:aw h 2010=some (aq 1 (flat aW.fl s.face)))(x3:aw h 2011=some (aq 1 (flat gJ.fl s.seen))) :
  ∀ p∈kS a s,((2010<=p.1/\p.1<n0/\2010<=rn [] p.1)\/p.1<2010)/\∃ o',aw h (rn [] p.1)=some o'/\cK (rn []) n0 p.2 o':=by
 have hsl:∀{q a b:Nat},q<2011->wM n0 (.slice (some ⟨q,0,none⟩) a b):=fun{q a b} hq=>⟨(aa:q<n0),fun h=>by cases h⟩;unfold kS;refine ae.2 ⟨⟨.inr aa,_,x1,rfl,rfl,rfl,rfl,?_⟩,ae.2 ⟨⟨.inl ⟨ah _,by show 2010<n0;omega,ah _⟩,_,x2,aE (aC _ _)⟩,ae.2 ⟨⟨.inl ⟨aa,by show 2011<n0;omega,by show 2010<=2011;omega⟩,_,x3,aE (aC _ _)⟩,fun _ h=>(by cases h)⟩⟩⟩;exact ae.2 ⟨hsl aa,ae.2 ⟨hsl aa,ae.2 ⟨bM rfl,ae.2 ⟨hsl aa,ae.2 ⟨hsl aa,ae.2 ⟨hsl aa,fun _ h=>(by cases h)⟩⟩⟩⟩⟩⟩
theorem zP {a:BN}(h6:a.k0<2010/\a.k1<2010/\a.kd<2010/\a.kt<2010){h:Heap}{s:IW}{w:List Int}(x1:aw h 14=some (AQ a (ak 2010 a.D.length a.D.length)))(x2:aw h 2010=some (aq 1 (flat aW.fl s.face)))(x3:aw h 2011=some (aq 1 (flat gJ.fl s.seen)))
  (x4:aw h 2012=some (aq 1 (flat aW.fl w))):∀ p∈kS a s++[(2012,aq 1 (flat aW.fl w))],((2010<=p.1/\p.1<2013/\2010<=rn [] p.1)\/p.1<2010)/\∃ o',aw h (rn [] p.1)=some o'/\cK (rn []) 2013 p.2 o':=by
 intro p hp;rcases List.mem_append.1 hp with hp|hp
 ·exact zM h6 aa x1 x2 x3 p hp
 simp only[List.mem_cons,List.not_mem_nil,or_false]at hp;subst hp;exact⟨.inl ⟨aa,aa,by show 2010<=2012;omega⟩,_,x4,aE (aC _ _)⟩
theorem aBK {a:BN}(h3:D3 a.R 2010)(h4:aw a.R 14=none)(h6:a.k0<2010/\a.k1<2010/\a.kd<2010/\a.kt<2010){h:Heap}{s:IW}{nx:Nat}{b:Bool}(hb:b=nC s)(x1:aw h 14=some (AQ a (ak 2010 a.D.length a.D.length)))
  (x2:aw h 2010=some (aq 1 (flat aW.fl s.face))) (hx:∀ k o,aw a.R k=some o->aw h k=some o) :
  ∃ ρ,mF 2010 ρ [(0,.tuple #[iv s.many,.bool (nC s)])] ((14,AQ a (ak 2010 a.D.length a.D.length))::(2010,aq 1 (flat aW.fl s.face))::a.R) 2011 [(0,.tuple #[iv s.many,.bool b])] h nx:=by
 subst hb;have hsl:∀{q a b:Nat},q<2011->wM 2011 (.slice (some ⟨q,0,none⟩) a b):=fun{q a b} hq=>⟨hq,fun h=>by cases h⟩;refine⟨id,fun t u hu=>?_,fun k o hk=>?_,fun _ _ _ _ _ _ e=>e,fun _ _=>rfl,aa⟩
 ·have hm:=aT hu;simp only[List.mem_cons,List.not_mem_nil,or_false]at hm;injection hm with e1 e2;subst e1 e2;exact⟨by rw[fJ,iU rfl];rfl,c9 rfl⟩
 rw[aD]at hk;split at hk
 ·rename_i hb;injection hk with hk;subst hk;rw[<- az hb];refine⟨aa,_,x1,rfl,rfl,rfl,rfl,?_⟩;exact ae.2 ⟨hsl aa,ae.2 ⟨hsl aa,ae.2 ⟨bM rfl,ae.2 ⟨hsl aa,ae.2 ⟨hsl aa,ae.2 ⟨hsl aa,fun _ h=>(by cases h)⟩⟩⟩⟩⟩⟩
 rw[aD]at hk;split at hk
 ·rename_i hb;injection hk with hk;subst hk;rw[<- az hb];exact⟨aa,_,x2,aE (aC _ _)⟩
 obtain⟨a1,a2⟩:=h3 k o hk;exact⟨aa,o,hx k o hk,rB (fun _ _=>rfl) aa a2⟩
theorem aMm:c7 Tryz.prog 127 aLh:=aBH (aL (xl:=[aHW,aJE]) (.cons aOE (.cons aPk .nil))) fun a ⟨h1,h2,h3,h4,h5,h6⟩=>by
 have hn:=LR (vQ h1);unfold AQ;(conv=>whnf);refine bt ?_;((conv=>whnf);apply bm<;>intro g1');rotate_left
 ·exfalso;simp[aB,aF,aN]at g1';omega
 (conv=>whnf);refine⟨fun q e h nx=>∃(i:Nat) (j:Int),j=i/\i<=a.D.length/\q=a.D.length - i/\e=kT a.D.length (bR a.l a.D a.ls i) j/\h=kS a (bR a.l a.D a.ls i)++a.R/\nx=2012,⟨a.D.length,?_⟩,?_⟩
 ·refine eS (P:=kS a (bR a.l a.D a.ls 0)) (W:=a.R) (e0:=kT a.D.length (bR a.l a.D a.ls 0) 0) (n0:=2012) [] ⟨0,0,rfl,Nat.zero_le _,rfl,rfl,rfl,rfl⟩ ?_ h3 ?_ ?_ ?_ (fun _ h=>(by cases h)) aa
  ·unfold kT;exact xE
  ·exact fB (jC (fB (bc (fun _ _ h=>h) h4) (aZ h3 aa)) h4) (aZ h3 aa)
  ·refine zM h6 aa rfl ?_ ?_
   ·show some (aq 1 (rep a.D.length [iv 0]))=some (aq 1 (flat aW.fl (List.replicate a.D.length 0)));rw[EY]
   show some (aq 1 (rep a.D.length [.bool false]))=some (aq 1 (flat gJ.fl (List.replicate a.D.length false)));rw[Q3]
  show ∀ k∈[14,2010,2011],∀ k'∈[14,2010,2011],_;decide
 rintro q e h nx ⟨i,j,hj,hi,rfl,rfl,rfl,rfl⟩;obtain⟨s1,s2,s3,s4,s5,s6⟩:=mD a.l a.D a.ls i;have hst:bR a.l a.D a.ls (i+1)=jU a.l a.D a.ls (bR a.l a.D a.ls i) i:=rfl;generalize hss:bR a.l a.D a.ls i=s at s1 s2 s3 s4 s5 s6 hst ⊢;unfold kT kS AQ;((conv=>whnf);apply bm<;>intro g2);rotate_left
 ·have hge:i=a.D.length:=(by simp[aB,aF]at g2;omega);subst hge;unfold J7 ZW;rw[hss];((conv=>whnf);apply bm<;>intro g3)
  ·have g3:s.out=1:=(by simpa[aB,aF]using g3);(conv=>whnf);refine aBK h3 h4 h6 (b:=!s.flat) (by unfold nC;rw[ai g3];rfl) rfl rfl (bc (bc (bc (fun _ _ h=>h) (aZ h3 aa)) (aZ h3 aa)) h4)
  have g3:¬ s.out=1:=(by simpa[aB,aF]using g3);(conv=>whnf);refine aBK h3 h4 h6 (b:=false) (by unfold nC;rw[aj g3];rfl) rfl rfl (bc (bc (bc (fun _ _ h=>h) (aZ h3 aa)) (aZ h3 aa)) h4)
 have hlt:i<a.D.length:=(by simp[aB,aF]at g2;omega);(conv=>whnf);refine bt ?_;(conv=>whnf);refine fD (PX s.seen (i:=i) aa ?_) ?_
 ·show _+Int.toNat j*1=_;omega
 ((conv=>whnf);apply bm<;>intro g4)
 ·have g4:dG s.seen i=true:=g4;unfold jU at hst;rw[if_pos g4]at hst;(conv=>whnf);refine bt ?_;(conv=>whnf);refine⟨a.D.length - (i+1),aa,?_⟩;refine eS (P:=kS a (bR a.l a.D a.ls (i+1))) (W:=a.R) (e0:=kT a.D.length (bR a.l a.D a.ls (i+1)) (j+1)) (n0:=2012) [] ⟨i+1,j+1,aa,aa,rfl,rfl,rfl,rfl⟩ ?_ h3 ?_ ?_ ?_ (fun _ h=>(by cases h)) aa
  ·rw[hst];unfold kT;exact xE
  ·exact bc (bc (bc (fun _ _ h=>h) (aZ h3 aa)) (aZ h3 aa)) h4
  ·rw[hst];exact zM h6 aa rfl rfl rfl
  show ∀ k∈[14,2010,2011],∀ k'∈[14,2010,2011],_;decide
 have g4:dG s.seen i=false:=g4;(conv=>whnf);have hx0:∀ k o,aw a.R k=some o->aw ([(14,aq 1 [.slice (some ⟨a.k0,0,none⟩) a.l.length a.c1,.slice (some ⟨a.k1,0,none⟩) a.nE a.c2,iv a.n,.slice (some ⟨a.kd,0,none⟩) a.D.length a.D.length,.slice (some ⟨a.kt,0,none⟩) a.ls.length a.ls.length,ak 2010 a.D.length a.D.length]),(2010,aq 1 (flat aW.fl s.face)),(2011,aq 1 (flat gJ.fl s.seen))]++a.R) k=some o :=
  bc (bc (bc (fun _ _ h=>h) (aZ h3 aa)) (aZ h3 aa)) h4
 have hwk:wkS a.l a.D a.ls [iv j]=some (true,zY a.D a.ls i,[]):=(by rw[hj];exact aFD h1 h2 hlt);obtain⟨w1,w2,w3⟩:=Y7 h1 hlt;refine⟨14,[iv j],a.k0,a.k1,a.kd,a.kt,2010,a.nm,a.l,a.D,a.ls,a.nE,a.c1,a.c2,a.n,some (a.D.length,a.D.length),rfl,h5.at hx0 rfl,?_⟩;rw[hwk];unfold jU at hst;rw[if_neg (by rw[g4];decide)]at hst;simp only at hst;generalize zY a.D a.ls i=w at w1 w2 w3 hst hwk ⊢;refine aM rfl ?_;(conv=>whnf);refine⟨14,2012,a.k0,a.k1,a.kd,a.kt,2010,a.nm,a.l,a.D,a.ls,a.nE,a.c1,a.c2,a.n,some (a.D.length,a.D.length),w,w.length,rfl,h5.at (fB hx0 (aZ h3 aa)) rfl,⟨_,_,_,_,rfl,List.take_length⟩,?_⟩;rw[aEo (vQ h1) w1 aa];generalize NC a.l a.D w w.length=A at hst ⊢;refine aM rfl ?_;((conv=>whnf);apply bm<;>intro g6)
 ·have hA:0<A:=(by simpa[aB,aF]using g6);simp only[if_pos hA]at hst;(conv=>whnf);refine bt ?_
  skip
  have hst1:bR a.l a.D a.ls (i+1)=⟨cX s.face w (s.many+1) w.length,dP s.seen w w.length,s.many+1,s.out,s.flat⟩:=(by rw[hst]);(conv=>whnf);refine⟨fun q e h nx=>∃(t:Nat) (x:Int),x=t/\t<=w.length/\q=w.length - t/\e=jV a.D.length ⟨cX s.face w (s.many+1) t,dP s.seen w t,s.many+1,s.out,s.flat⟩ j (s.many+1) w.length x/\h=(kS a ⟨cX s.face w (s.many+1) t,dP s.seen w t,s.many+1,s.out,s.flat⟩++[(2012,aq 1 (flat aW.fl w))])++a.R/\nx=2013,⟨w.length,?_⟩,?_⟩
  ·refine eS (P:=kS a ⟨s.face,s.seen,s.many+1,s.out,s.flat⟩++[(2012,aq 1 (flat aW.fl w))]) (W:=a.R) (e0:=jV a.D.length ⟨s.face,s.seen,s.many+1,s.out,s.flat⟩ j (s.many+1) w.length 0) (n0:=2013) [] ⟨0,0,rfl,Nat.zero_le _,rfl,rfl,rfl,rfl⟩ ?_ h3 ?_ ?_ ?_ (fun _ h=>(by cases h)) aa
   ·unfold jV kT;exact xE
   ·exact fB hx0 (aZ h3 aa)
   ·exact zP h6 rfl rfl rfl rfl
   show ∀ k∈[14,2010,2011,2012],∀ k'∈[14,2010,2011,2012],_;decide
  rintro q e h nx ⟨t,x,hx,ht,rfl,rfl,rfl,rfl⟩;unfold jV kT kS AQ;((conv=>whnf);apply bm<;>intro m1);rotate_left
  ·have htl:t=w.length:=(by simp[aB,aF]at m1;omega);(conv=>whnf);refine bt ?_;(conv=>whnf);refine⟨a.D.length - (i+1),aa,?_⟩;refine eS (P:=kS a (bR a.l a.D a.ls (i+1))) (W:=a.R) (e0:=kT a.D.length (bR a.l a.D a.ls (i+1)) (j+1)) (n0:=2012) [] ⟨i+1,j+1,aa,aa,rfl,rfl,rfl,rfl⟩ ?_ h3 ?_ ?_ ?_ (fun _ h=>(by cases h)) aa
   ·rw[hst1];unfold kT;exact xE
   ·exact(bc (bc (bc (bc (fun _ _ h=>h) (aZ h3 aa)) (aZ h3 aa)) (aZ h3 aa)) h4)
   ·rw[hst1,<- htl];exact zM h6 aa rfl rfl rfl
   show ∀ k∈[14,2010,2011],∀ k'∈[14,2010,2011],_;decide
  have htl:t<w.length:=(by simp[aB,aF]at m1;omega);have hwd:=qW w1 (i:=t) htl;(conv=>whnf);refine bt ?_;(conv=>whnf);refine fD (dY w (i:=t) htl ?_) ?_
  ·show _+Int.toNat x*1=_;omega
  have hsf:=fA s.face w (s.many+1) t;have hss:=jL s.seen w t
  repeat' first
   |(((conv=>whnf);apply bm<;>intro m))
  all_goals first
   |(exfalso;simp[aB,aF,aN]at m;omega)
   |(exfalso
     have hb:Nat.ble (0+Int.toNat (aG w t)*1+1) (flat gJ.fl (dP s.seen w t)).length=true:=Nat.ble_eq_true_of_le (by rw[aO];show _<=(dP s.seen w t).length*1;omega);exact Bool.false_ne_true (m.symm.trans hb))
   |(exfalso
     have hb:Nat.ble (0+Int.toNat (aG w t)*1+1) (flat aW.fl (cX s.face w (s.many+1) t)).length=true:=Nat.ble_eq_true_of_le (by rw[aO];show _<=(cX s.face w (s.many+1) t).length*1;omega);exact Bool.false_ne_true (m.symm.trans hb))
   |skip
  (conv=>whnf);refine⟨w.length - (t+1),aa,?_⟩;refine eS (P:=kS a ⟨cX s.face w (s.many+1) (t+1),dP s.seen w (t+1),s.many+1,s.out,s.flat⟩++[(2012,aq 1 (flat aW.fl w))]) (W:=a.R) (e0:=jV a.D.length ⟨cX s.face w (s.many+1) (t+1),dP s.seen w (t+1),s.many+1,s.out,s.flat⟩ j (s.many+1) w.length (x+1)) (n0:=2013) [] ⟨t+1,x+1,aa,aa,rfl,rfl,rfl,rfl⟩ ?_ h3 ?_ ?_ ?_ (fun _ h=>(by cases h)) aa
  ·unfold jV kT;exact xE
  ·exact jC (jC (bc (bc (bc (bc (fun _ _ h=>h) (aZ h3 aa)) (aZ h3 aa)) (aZ h3 aa)) h4) (aZ h3 aa)) (aZ h3 aa)
  ·refine zP h6 rfl ?_ ?_ rfl
   ·show some (aq 1 (bU (flat aW.fl (cX s.face w (s.many+1) t)) (0+Int.toNat (aG w t)*1) [iv (s.many+1)]))=_;rw[mV aa aa]
   show some (aq 1 (bU (flat gJ.fl (dP s.seen w t)) (0+Int.toNat (aG w t)*1) [.bool true]))=_;rw[uG aa aa]
  show ∀ k∈[14,2010,2011,2012],∀ k'∈[14,2010,2011,2012],_;decide
 have hA:¬ 0<A:=(by simpa[aB,aF]using g6);simp only[if_neg hA]at hst;((conv=>whnf);apply bm<;>intro g7);rotate_left
 ·have hA2:¬ A<0:=(by simpa[aB,aF]using g7);simp only[if_neg hA2]at hst;have hst1:bR a.l a.D a.ls (i+1)=⟨cX s.face w (0) w.length,dP s.seen w w.length,s.many,s.out,true⟩:=(by rw[hst]);(conv=>whnf);refine⟨fun q e h nx=>∃(t:Nat) (x:Int),x=t/\t<=w.length/\q=w.length - t/\e=jV a.D.length ⟨cX s.face w (0) t,dP s.seen w t,s.many,s.out,true⟩ j (0) w.length x/\h=(kS a ⟨cX s.face w (0) t,dP s.seen w t,s.many,s.out,true⟩++[(2012,aq 1 (flat aW.fl w))])++a.R/\nx=2013,⟨w.length,?_⟩,?_⟩
  ·refine eS (P:=kS a ⟨s.face,s.seen,s.many,s.out,true⟩++[(2012,aq 1 (flat aW.fl w))]) (W:=a.R) (e0:=jV a.D.length ⟨s.face,s.seen,s.many,s.out,true⟩ j (0) w.length 0) (n0:=2013) [] ⟨0,0,rfl,Nat.zero_le _,rfl,rfl,rfl,rfl⟩ ?_ h3 ?_ ?_ ?_ (fun _ h=>(by cases h)) aa
   ·unfold jV kT;exact xE
   ·exact fB hx0 (aZ h3 aa)
   ·exact zP h6 rfl rfl rfl rfl
   show ∀ k∈[14,2010,2011,2012],∀ k'∈[14,2010,2011,2012],_;decide
  rintro q e h nx ⟨t,x,hx,ht,rfl,rfl,rfl,rfl⟩;unfold jV kT kS AQ;((conv=>whnf);apply bm<;>intro m1)
  ·have htl:t<w.length:=(by simp[aB,aF]at m1;omega);have hwd:=qW w1 (i:=t) htl;(conv=>whnf);refine bt ?_;(conv=>whnf);refine fD (dY w (i:=t) htl ?_) ?_
   ·show _+Int.toNat x*1=_;omega
   have hsf:=fA s.face w (0) t;have hss:=jL s.seen w t
   repeat' first
    |(((conv=>whnf);apply bm<;>intro m))
   all_goals first
    |(exfalso;simp[aB,aF,aN]at m;omega)
    |(exfalso
      have hb:Nat.ble (0+Int.toNat (aG w t)*1+1) (flat gJ.fl (dP s.seen w t)).length=true:=Nat.ble_eq_true_of_le (by rw[aO];show _<=(dP s.seen w t).length*1;omega);exact Bool.false_ne_true (m.symm.trans hb))
    |(exfalso
      have hb:Nat.ble (0+Int.toNat (aG w t)*1+1) (flat aW.fl (cX s.face w (0) t)).length=true:=Nat.ble_eq_true_of_le (by rw[aO];show _<=(cX s.face w (0) t).length*1;omega);exact Bool.false_ne_true (m.symm.trans hb))
    |skip
   (conv=>whnf);refine⟨w.length - (t+1),aa,?_⟩;refine eS (P:=kS a ⟨cX s.face w (0) (t+1),dP s.seen w (t+1),s.many,s.out,true⟩++[(2012,aq 1 (flat aW.fl w))]) (W:=a.R) (e0:=jV a.D.length ⟨cX s.face w (0) (t+1),dP s.seen w (t+1),s.many,s.out,true⟩ j (0) w.length (x+1)) (n0:=2013) [] ⟨t+1,x+1,aa,aa,rfl,rfl,rfl,rfl⟩ ?_ h3 ?_ ?_ ?_ (fun _ h=>(by cases h)) aa
   ·unfold jV kT;exact xE
   ·exact jC (jC (bc (bc (bc (bc (fun _ _ h=>h) (aZ h3 aa)) (aZ h3 aa)) (aZ h3 aa)) h4) (aZ h3 aa)) (aZ h3 aa)
   ·refine zP h6 rfl ?_ ?_ rfl
    ·show some (aq 1 (bU (flat aW.fl (cX s.face w (0) t)) (0+Int.toNat (aG w t)*1) [iv (0)]))=_;rw[mV aa aa]
    show some (aq 1 (bU (flat gJ.fl (dP s.seen w t)) (0+Int.toNat (aG w t)*1) [.bool true]))=_;rw[uG aa aa]
   show ∀ k∈[14,2010,2011,2012],∀ k'∈[14,2010,2011,2012],_;decide
  have htl:t=w.length:=(by simp[aB,aF]at m1;omega);(conv=>whnf);refine bt ?_;(conv=>whnf);refine⟨a.D.length - (i+1),aa,?_⟩;refine eS (P:=kS a (bR a.l a.D a.ls (i+1))) (W:=a.R) (e0:=kT a.D.length (bR a.l a.D a.ls (i+1)) (j+1)) (n0:=2012) [] ⟨i+1,j+1,aa,aa,rfl,rfl,rfl,rfl⟩ ?_ h3 ?_ ?_ ?_ (fun _ h=>(by cases h)) aa
  ·rw[hst1];unfold kT;exact xE
  ·exact(bc (bc (bc (bc (fun _ _ h=>h) (aZ h3 aa)) (aZ h3 aa)) (aZ h3 aa)) h4)
  ·rw[hst1,<- htl];exact zM h6 aa rfl rfl rfl
  show ∀ k∈[14,2010,2011],∀ k'∈[14,2010,2011],_;decide
 have hA2:A<0:=(by simpa[aB,aF]using g7);simp only[if_pos hA2]at hst;(conv=>whnf);refine bt ?_
 skip
 have hst1:bR a.l a.D a.ls (i+1)=⟨cX s.face w (0) w.length,dP s.seen w w.length,s.many,s.out+1,s.flat⟩:=(by rw[hst]);(conv=>whnf);refine⟨fun q e h nx=>∃(t:Nat) (x:Int),x=t/\t<=w.length/\q=w.length - t/\e=jV a.D.length ⟨cX s.face w (0) t,dP s.seen w t,s.many,s.out+1,s.flat⟩ j (0) w.length x/\h=(kS a ⟨cX s.face w (0) t,dP s.seen w t,s.many,s.out+1,s.flat⟩++[(2012,aq 1 (flat aW.fl w))])++a.R/\nx=2013,⟨w.length,?_⟩,?_⟩
 ·refine eS (P:=kS a ⟨s.face,s.seen,s.many,s.out+1,s.flat⟩++[(2012,aq 1 (flat aW.fl w))]) (W:=a.R) (e0:=jV a.D.length ⟨s.face,s.seen,s.many,s.out+1,s.flat⟩ j (0) w.length 0) (n0:=2013) [] ⟨0,0,rfl,Nat.zero_le _,rfl,rfl,rfl,rfl⟩ ?_ h3 ?_ ?_ ?_ (fun _ h=>(by cases h)) aa
  ·unfold jV kT;exact xE
  ·exact fB hx0 (aZ h3 aa)
  ·exact zP h6 rfl rfl rfl rfl
  show ∀ k∈[14,2010,2011,2012],∀ k'∈[14,2010,2011,2012],_;decide
 rintro q e h nx ⟨t,x,hx,ht,rfl,rfl,rfl,rfl⟩;unfold jV kT kS AQ;((conv=>whnf);apply bm<;>intro m1);rotate_left
 ·have htl:t=w.length:=(by simp[aB,aF]at m1;omega);(conv=>whnf);refine bt ?_;(conv=>whnf);refine⟨a.D.length - (i+1),aa,?_⟩;refine eS (P:=kS a (bR a.l a.D a.ls (i+1))) (W:=a.R) (e0:=kT a.D.length (bR a.l a.D a.ls (i+1)) (j+1)) (n0:=2012) [] ⟨i+1,j+1,aa,aa,rfl,rfl,rfl,rfl⟩ ?_ h3 ?_ ?_ ?_ (fun _ h=>(by cases h)) aa
  ·rw[hst1];unfold kT;exact xE
  ·exact(bc (bc (bc (bc (fun _ _ h=>h) (aZ h3 aa)) (aZ h3 aa)) (aZ h3 aa)) h4)
  ·rw[hst1,<- htl];exact zM h6 aa rfl rfl rfl
  show ∀ k∈[14,2010,2011],∀ k'∈[14,2010,2011],_;decide
 have htl:t<w.length:=(by simp[aB,aF]at m1;omega);have hwd:=qW w1 (i:=t) htl;(conv=>whnf);refine bt ?_;(conv=>whnf);refine fD (dY w (i:=t) htl ?_) ?_
 ·show _+Int.toNat x*1=_;omega
 have hsf:=fA s.face w (0) t;have hss:=jL s.seen w t
 repeat' first
  |(((conv=>whnf);apply bm<;>intro m))
 all_goals first
  |(exfalso;simp[aB,aF,aN]at m;omega)
  |(exfalso
    have hb:Nat.ble (0+Int.toNat (aG w t)*1+1) (flat gJ.fl (dP s.seen w t)).length=true:=Nat.ble_eq_true_of_le (by rw[aO];show _<=(dP s.seen w t).length*1;omega);exact Bool.false_ne_true (m.symm.trans hb))
  |(exfalso
    have hb:Nat.ble (0+Int.toNat (aG w t)*1+1) (flat aW.fl (cX s.face w (0) t)).length=true:=Nat.ble_eq_true_of_le (by rw[aO];show _<=(cX s.face w (0) t).length*1;omega);exact Bool.false_ne_true (m.symm.trans hb))
  |skip
 (conv=>whnf);refine⟨w.length - (t+1),aa,?_⟩;refine eS (P:=kS a ⟨cX s.face w (0) (t+1),dP s.seen w (t+1),s.many,s.out+1,s.flat⟩++[(2012,aq 1 (flat aW.fl w))]) (W:=a.R) (e0:=jV a.D.length ⟨cX s.face w (0) (t+1),dP s.seen w (t+1),s.many,s.out+1,s.flat⟩ j (0) w.length (x+1)) (n0:=2013) [] ⟨t+1,x+1,aa,aa,rfl,rfl,rfl,rfl⟩ ?_ h3 ?_ ?_ ?_ (fun _ h=>(by cases h)) aa
 ·unfold jV kT;exact xE
 ·exact jC (jC (bc (bc (bc (bc (fun _ _ h=>h) (aZ h3 aa)) (aZ h3 aa)) (aZ h3 aa)) h4) (aZ h3 aa)) (aZ h3 aa)
 ·refine zP h6 rfl ?_ ?_ rfl
  ·show some (aq 1 (bU (flat aW.fl (cX s.face w (0) t)) (0+Int.toNat (aG w t)*1) [iv (0)]))=_;rw[mV aa aa]
  show some (aq 1 (bU (flat gJ.fl (dP s.seen w t)) (0+Int.toNat (aG w t)*1) [.bool true]))=_;rw[uG aa aa]
 show ∀ k∈[14,2010,2011,2012],∀ k'∈[14,2010,2011,2012],_;decide
def eV (l0:List Pt):El Int:=⟨fun x=>[iv (bI l0 x.toNat).1,iv (bI l0 x.toNat).2],2,fun _=>rfl,fun _=>rfl,by decide⟩
def frQ (s:CW->List Int->List Value->Nat->Option (Bool × List Int)):XF:=fun args h nx K=>∃ k c r l0 l,args=.slice (some ⟨k,0,none⟩) l.length c::(r++[mI (.pnts l0) (0,0)])/\aw h k=some (aq 2 (flat (eV l0).fl l))/\NI h /\
 (match s (.pnts l0) l r c with|some pr=>eF pr.1 (K (.tuple #[]) (xQ h k (aq 2 (flat (eV l0).fl pr.2))) nx)|none=>False)
section
theorem w7 {P:Program}{C:VC}{f:Nat}{s:CW->List Int->List Value->Nat->Option (Bool × List Int)}(hC:bN P C)
  (hs:∀ l0 l r c l',s (.pnts l0) l r c=some (true,l')->fI r=true /\
   ∀ F nx,MG F nx->NI F->C f (ak 0 l.length c::(r++[mI (.pnts l0) (0,0)])) ((0,aq 2 (flat (eV l0).fl l))::F) nx (fun v h _=>v=.tuple #[]/\h=(0,aq 2 (flat (eV l0).fl l'))::F)):c7 P f (frQ s):=by
 refine⟨fun args h nx K hx ι B w H hsc=>?_,fun args h nx K hx=>?_⟩
 ·obtain⟨k,c,r,l0,l,rfl,hk,hcH,hx⟩:=hx;split at hx
  case h_2=>exact hx.elim
  rename_i pr e1;obtain⟨b,l'⟩:=pr;obtain⟨rfl,hx⟩:=aH.1 hx;obtain⟨a1,a4⟩:=hs l0 l r c l' e1;have a2:dT (flat (eV l0).fl l')=true:=aC (eV l0) l';have hcp:=hsc (mI (.pnts l0) (0,0)) (.tail _ (List.mem_append_right _ (.head _)));have hsl:k<nx/\((ι k).jD=false->l.length=0/\c=0):=hsc _ (.head _);have hcells:∀ j o,aw h j=some o->∃ wr g sz cs,o=.cells wr g sz cs:=hcH;have hι0:∀ j,j<nx->vT k ι (1+j)=ι j:=fun j _=>iS k ι j;have hF:∀ j q,aw (nK 1 (rem h k)) j=some q->∃ i o,j=1+i/\i≠k/\aw h i=some o/\q=WG 1 o:=by
   intro j q hq;obtain⟨i,o,e2,e3,e4⟩:=mM _ hq;rw[dO]at e3;split at e3
   ·cases e3
   rename_i hne;exact⟨i,o,e2,hne,e3,e4⟩
  have hFr:MG (nK 1 (rem h k)) (1+nx):=by
   refine⟨aa,fun j q hq=>?_⟩;obtain⟨i,o,rfl,hne,hi,rfl⟩:=hF j q hq;have hlow:=H.low i o hi;obtain⟨wr,g,sz,cs,rfl⟩:=hcells i o hi;refine⟨aa,aa,rfl,rfl,rfl,?_,fun v hv=>?_⟩
   ·rw[List.map_map];exact List.map_congr_left fun v hv=>(aH7 (H.sc i _ hi v hv)).symm
   obtain⟨u,hu,rfl⟩:=List.mem_map.1 hv;exact aAx (H.sc i _ hi u hu)
  have hAll:NI (nK 1 (rem h k)):=fun j q hq=>by
   obtain⟨i,o,_,_,hi,rfl⟩:=hF j q hq;obtain⟨wr,g,sz,cs,rfl⟩:=hcells i o hi;exact⟨_,_,_,_,rfl⟩
  have H0:aY (vT k ι) B ((0,aq 2 (flat (eV l0).fl l))::nK 1 (rem h k)) (1+nx) w:=by
   refine⟨fun j q hq=>?_,fun j j' q q' hq hq' hne ha b hb=>?_,fun j q hq=>?_,H.size,fun j q hq=>?_⟩
   ·rw[aD]at hq;split at hq
    ·rename_i hb;injection hq with hq;subst hq;have:=az hb;subst this;rw[lT];exact FO (aC (eV l0) l) (H.obj k _ hk)
    obtain⟨i,o,rfl,hne,hi,rfl⟩:=hF j q hq;obtain⟨wr,g,sz,cs,rfl⟩:=hcells i o hi;rw[iS];exact SI (H.obj i _ hi) (H.sc i _ hi) hι0
   ·rw[aD]at hq hq';split at hq
    ·rename_i hb1;have:=az hb1;subst this;split at hq'
     ·rename_i hb2;exact absurd (az hb2) hne
     obtain⟨i,o,rfl,hni,hi,rfl⟩:=hF j' q' hq';rw[lT]at hb;rw[iS];exact H.sep k i _ _ hk hi (fun e=>hni e.symm) rfl b hb
    obtain⟨i,o,rfl,hni,hi,rfl⟩:=hF j q hq;rw[FU]at ha;rw[iS]at hb;split at hq'
    ·rename_i hb2;have:=az hb2;subst this;rw[lT];exact H.sep i k _ _ hi hk hni ha b hb
    obtain⟨i',o',rfl,hni',hi',rfl⟩:=hF j' q' hq';rw[iS];exact H.sep i i' _ _ hi hi' (fun e=>hne (by rw[e])) ha b hb
   ·rw[aD]at hq;split at hq
    ·rename_i hb;rw[<- az hb];omega
    exact(hFr.2 j q hq).2.1
   rw[aD]at hq;split at hq
   ·injection hq with hq;subst hq;exact fun v hv=>bM (a9 (aC (eV l0) l) hv)
   obtain⟨i,o,rfl,hni,hi,rfl⟩:=hF j q hq;obtain⟨wr,g,sz,cs,rfl⟩:=hcells i o hi;intro v hv;obtain⟨u,hu,rfl⟩:=List.mem_map.1 hv;exact aAT (H.sc i _ hi u hu) hι0
  have hrun:=hC f _ _ (1+nx) _ (a4 _ _ hFr hAll) (vT k ι) B w H0 (fun v hv=>by
   cases hv with
   |head=>exact⟨(aa:0<1+nx),fun hf=>hsl.2 (by rw[lT]at hf;exact hf)⟩
   |tail _ hm =>
    rcases List.mem_append.1 hm with hm|hm
    ·exact c9 (cD a1 hm)
    simp only[List.mem_cons,List.not_mem_nil,or_false]at hm;subst hm;exact c9 rfl)
  refine⟨hrun.1,?_⟩;have he:((.slice (some ⟨k,0,none⟩) l.length c::(r++[mI (.pnts l0) (0,0)])):List Value).map (tr ι)=((ak 0 l.length c::(r++[mI (.pnts l0) (0,0)])):List Value).map (tr (vT k ι)):=by
   rw[List.map_cons,List.map_cons,List.map_append,List.map_append];congr 1;congr 1
   ·exact List.map_congr_left fun v hv=>by rw[iU (cD a1 hv),iU (cD a1 hv)]
   exact congrArg (fun v=>[v]) aBz
  rw[he];refine CallsIn.mono hrun.2 fun e w' hret=>?_;cases e with
  |returned u =>
   obtain⟨v,h',nx',ι1,⟨rfl,rfl⟩,q2,q3,q4,q5,q6,rfl⟩:=hret;have hι1:∀ j,j<nx->ι1 (1+j)=ι j:=fun j hj=>(q5 (1+j) aa).trans (iS k ι j);have hι10:ι1 0=ι k:=(q5 0 aa).trans (lT k ι);have hback:∀ j o,aw (xQ h k (aq 2 (flat (eV l0).fl l'))) j=some o->(j=k/\o=aq 2 (flat (eV l0).fl l'))\/(j≠k/\aw h j=some o):=by
    intro j o hj;rw[m7]at hj;split at hj
    ·rename_i e;injection hj with hj;exact .inl ⟨e,hj.symm⟩
    rename_i e;exact .inr ⟨e,hj⟩
   refine⟨.tuple #[],_,nx,ι,hx,?_,⟨fun j o hj=>?_,fun j j' o o' hj hj' hne ha b hb=>?_,fun j o hj=>?_,q3.size,fun j o hj=>?_⟩,q4,fun _ _=>rfl,ah _,?_⟩
   ·exact fun v hv=>(by cases hv)
   ·rcases hback j o hj with⟨rfl,rfl⟩|⟨hne,hj⟩
    ·have:=q3.obj 0 (aq 2 (flat (eV l0).fl l')) rfl;rw[hι10]at this;exact FO a2 this
    obtain⟨wr,g,sz,cs,rfl⟩:=hcells j o hj;have hlow:=H.low j _ hj;have h1:aw ((0,aq 2 (flat (eV l0).fl l'))::nK 1 (rem h k)) (1+j)=some (WG 1 (.cells wr g sz cs)):=by
     rw[aD,show Nat.beq 0 (1+j)=false by cases hb:Nat.beq 0 (1+j)with|false=>rfl|true=>have:=az hb;omega];exact pW _ (by rw[dO,if_neg hne];exact hj)
    have h2:=q3.obj _ _ h1;rw[hι1 j hlow]at h2;refine EZ h2 (H.sc j _ hj) hι1 ?_;intro hgt;have h3:=H.obj j _ hj;cases hl:ι j with
    |nil p =>
     rw[hl]at h3;have h4:cs=[]/\(sz=0\/wr=true->p.isSome=true):=(by cases wr <;> exact h3);rw[h4.1];rfl
    |lay b off ex =>
     rw[hl]at h3;cases wr with
     |true=>exact h3.2.1 hgt
     |false=>exact h3.2.1 hgt
   ·rcases hback j o hj with⟨e3,e4⟩|⟨hnk,hj2⟩
    ·rcases hback j' o' hj' with⟨e5,e6⟩|⟨hnk',hj3⟩
     ·exact absurd (e3.trans e5.symm) hne
     exact H.sep j j' _ _ (by rw[e3];exact hk) hj3 hne rfl b hb
    ·rcases hback j' o' hj' with⟨e5,e6⟩|⟨hnk',hj3⟩
     ·exact H.sep j j' _ _ hj2 (by rw[e5];exact hk) hne ha b hb
     exact H.sep j j' _ _ hj2 hj3 hne ha b hb
   ·rcases hback j o hj with⟨rfl,rfl⟩|⟨hnk,hj⟩
    ·exact hsl.1
    exact H.low j o hj
   ·rcases hback j o hj with⟨rfl,rfl⟩|⟨hnk,hj⟩
    ·exact fun v hv=>bM (a9 a2 hv)
    exact H.sc j o hj
   simp[tr]
  |_=>exact hret.elim
 obtain⟨k,c,r,l0,l,rfl,hk,hcH,hx⟩:=hx;split at hx
 case h_2=>exact hx.elim
 rename_i pr e1;obtain⟨hb,hx⟩:=aH.1 hx;exact⟨_,_,_,hx,fun K' hk'=>⟨k,c,r,l0,l,rfl,hk,hcH,by rw[e1];exact aM hb hk'⟩⟩
end
set_option maxHeartbeats 4000000
theorem aKL (l0:List Pt)(l:List Int):∀(i:Nat) (v:Int),i<l.length->bU (flat (eV l0).fl l) (i*2) [iv (bI l0 v.toNat).1,iv (bI l0 v.toNat).2]=flat (eV l0).fl (l.set i v):=by
 induction l with
 |nil=>intro i v h;cases h
 |cons a r ih =>
  intro i v h;cases i with
  |zero=>rfl
  |succ i =>
   have:=ih i v (by simpa using h);show bU (_::_::flat (eV l0).fl r) ((i+1)*2) _=_;rw[(aa:(i+1)*2=i*2+1+1)];show _::_::bU (flat (eV l0).fl r) (i*2) _=_;rw[this];rfl
theorem I6 {l0:List Pt}{L:List Int}{x y o1 o2:Nat}(h1:o1=x*2)(h2:o2=y*2)(hx:x<L.length)(hy:y<L.length):bU (bU (flat (eV l0).fl L) o1 [iv (bI l0 (aG L y).toNat).1,iv (bI l0 (aG L y).toNat).2]) o2 [iv (bI l0 (aG L x).toNat).1,iv (bI l0 (aG L x).toNat).2]=flat (eV l0).fl (lH L x y):=by
 rw[h1,h2,aKL _ _ _ _ hx,aKL _ _ _ _ (by rw[List.length_set];exact hy)];rfl
theorem wK (l0:List Pt)(L:List Int){i o:Nat}(hi:i<L.length)(ho:o=i*2):kI (flat (eV l0).fl L) o 2=some [iv (bI l0 (aG L i).toNat).1,iv (bI l0 (aG L i).toNat).2]:=by
 rw[fK hi];exact qX (eV l0) L hi ho
def aED:Nat × XF:=(243,frQ aJ8)
theorem aOn:c7 Tryz.prog aED.1 aED.2:=w7 (aL (xl:=[]) .nil) fun l0 l r c l' hs=>by
 obtain⟨a,b,n,rfl,ha,hb,hn,han,hbn,hl,rfl⟩:=UU hs;refine⟨rfl,fun F nx hF hC=>?_⟩;(conv=>whnf);refine⟨fun q e h nx'=>∃(i:Nat) (j:Int),j=i/\i<=n.toNat/\q=n.toNat - i/\e=HF l.length c a b n j/\h=(0,aq 2 (flat (eV l0).fl (mL l a.toNat b.toNat i)))::F/\nx'=nx,⟨n.toNat,?_⟩,?_⟩
 ·refine aV (e0:=HF l.length c a b n 0) (o0:=aq 2 (flat (eV l0).fl l)) (n0:=nx) hF ⟨0,0,rfl,Nat.zero_le _,rfl,rfl,rfl,rfl⟩ ?_ (aE (aC _ _)) (ah _);unfold HF;refine ae.2 ⟨bE hF.1 rfl,?_⟩;exact xE
 rintro q e h nx' ⟨i,j,hj,hi,rfl,rfl,rfl,rfl⟩;have sl:=gV l a.toNat b.toNat i;have nxt:mL l a.toNat b.toNat (i+1)=lH (mL l a.toNat b.toNat i) (a.toNat+i) (b.toNat+i):=rfl;generalize hs0:mL l a.toNat b.toNat i=L at sl nxt;have hl1:(flat (eV l0).fl L).length=L.length*2:=(by rw[aO];rfl);unfold HF;((conv=>whnf);apply bm<;>intro h1);rotate_left
 ·have hge:i=n.toNat:=(by simp[aB,aF]at h1;omega);(conv=>whnf);exact⟨rfl,by rw[<- hs0,hge]⟩
 have hlt:i<n.toNat:=(by simp[aB,aF]at h1;omega);have cO:=I6 (l0:=l0) (L:=L) (x:=a.toNat+i) (y:=b.toNat+i) (o1:=0+(a+j).toNat*2) (o2:=0+(b+j).toNat*2) aa aa aa aa
 repeat' first
  |(((conv=>whnf);apply bm<;>intro g))
  |((conv=>whnf)
    refine eZ (wK l0 L (i:=a.toNat+i) aa ?_) ?_
    ·show _+Int.toNat (a+j)*2=_;omega)
  |((conv=>whnf)
    refine eZ (wK l0 L (i:=b.toNat+i) aa ?_) ?_
    ·show _+Int.toNat (b+j)*2=_;omega)
 all_goals first
  |(exfalso;simp[aB,aF,aN]at g;omega)
  |(have g:(0+(a+j).toNat*2+2).ble (flat (eV l0).fl L).length=false:=g
    rw[hl1]at g;exact eD g aa)
  |(have g:(0+(b+j).toNat*2+2).ble (bU (flat (eV l0).fl L) (0+(a+j).toNat*2) [iv (bI l0 (aG L (b.toNat+i)).toNat).1,iv (bI l0 (aG L (b.toNat+i)).toNat).2]).length=false:=g
    rw[cG (by rw[hl1];show 0+(a+j).toNat*2+2<=L.length*2;omega),hl1]at g;exact eD g aa)
  |skip
 (conv=>whnf);refine⟨n.toNat - (i+1),aa,?_⟩;refine aV (e0:=HF l.length c a b n (j+1)) (o0:=aq 2 (flat (eV l0).fl (lH L (a.toNat+i) (b.toNat+i)))) (n0:=nx') hF ⟨i+1,j+1,aa,aa,rfl,rfl,by rw[nxt],rfl⟩ ?_ (aK (aC _ _) cO) (ah _);unfold HF;refine ae.2 ⟨bE hF.1 rfl,?_⟩;exact xE
def aGX:Nat × XF:=(240,frQ aHx)
theorem aPU:c7 Tryz.prog aGX.1 aGX.2:=w7 (aL (xl:=[aED]) (.cons aOn .nil)) fun l0 l r c l' hs=>by
 obtain⟨a,m,b,rfl,ha,ham,hmb,hb,hl,rfl⟩:=SY hs;refine⟨rfl,fun F nx hF hC=>?_⟩;have hp:CLt (.pnts l0) (0,0) nx:=trivial;(conv=>whnf);refine bt ?_;(conv=>whnf);refine bt ?_;(conv=>whnf)
 refine⟨fun q e h nx'=>∃(i j k:Nat) (x y:Int) (L:List Int),x=i/\y=j/\1<=i/\1<=j/\i<=m.toNat/\m.toNat+j<=l.length/\i+j<=k/\q=i+j/\L.length=l.length /\
  iI m.toNat ((m - a).toNat+(b - m).toNat) l (m - a).toNat (b - m).toNat=iI m.toNat k L i j/\e=zU l.length c m x y (.pnts l0) (0,0)/\h=(0,aq 2 (flat (eV l0).fl L))::F/\nx'=nx,⟨(m - a).toNat+(b - m).toNat,?_⟩,?_⟩
 ·refine aV (e0:=zU l.length c m (m - a) (b - m) (.pnts l0) (0,0)) (o0:=aq 2 (flat (eV l0).fl l)) (n0:=nx) hF ⟨(m - a).toNat,(b - m).toNat,_,m - a,b - m,l,aa,aa,aa,aa,aa,aa,ah _,rfl,rfl,rfl,rfl,rfl,rfl⟩ ?_ (aE (aC _ _)) (ah _);unfold zU;refine ae.2 ⟨bE hF.1 rfl,ae.2 ⟨⟨rfl,c9 rfl⟩,ae.2 ⟨bP hp rfl,?_⟩⟩⟩;exact xE
 rintro q e h nx' ⟨i,j,k,x,y,L,hx,hy,hi1,hj1,hi,hj,hk,rfl,hL,hrot,rfl,rfl,rfl⟩;unfold zU;((conv=>whnf);apply bm<;>intro h1);rotate_left
 ·have h1:i=j:=by
   have:x=y:=(by simpa[aB,aF]using h1);omega
  obtain⟨k',rfl⟩:∃ k',k=k'+1:=⟨k - 1,aa⟩;(conv=>whnf);refine bt ?_;(conv=>whnf);refine⟨0,c,[iv (m - x),iv m,iv x],l0,L,by rw[hL];rfl,rfl,?_,?_⟩
  ·exact bD hC
  ((conv=>whnf);apply bm<;>intro h4)
  ·(conv=>whnf);refine⟨rfl,?_⟩;rw[hrot]
   conv=>rhs;unfold iI
   rw[if_pos h1];show(0,aq 2 (flat (eV l0).fl (mL L (m - x).toNat m.toNat x.toNat)))::F=_;rw[(aa:(m - x).toNat=m.toNat - i),(aa:x.toNat=i)]
  exfalso;have h4:(decide (0<=m - x)&&decide (0<=m)&&decide (0<=x)&&decide (m - x+x<=L.length)&&decide (m+x<=L.length)&&decide (L.length<=1000000))=false:=h4;simp at h4;omega
 have h1:i≠j:=by
  have:x≠y:=(by simpa[aB,aF]using h1);omega
 obtain⟨k',rfl⟩:∃ k',k=k'+1:=⟨k - 1,aa⟩;((conv=>whnf);apply bm<;>intro h2)
 ·have h2:j<i:=(by simp[aB,aF]at h2;omega);(conv=>whnf);refine bt ?_;(conv=>whnf);refine⟨0,c,[iv (m - x),iv m,iv y],l0,L,by rw[hL];rfl,rfl,?_,?_⟩
  ·exact bD hC
  ((conv=>whnf);apply bm<;>intro h4)
  ·(conv=>whnf);refine bt ?_;(conv=>whnf);refine⟨_,Nat.lt_of_lt_of_le (aa:i - j+j<i+j) (ah _),?_⟩;refine aV (e0:=zU l.length c m (x - y) y (.pnts l0) (0,0)) (o0:=aq 2 (flat (eV l0).fl (mL L (m.toNat - i) m.toNat j))) (n0:=nx') hF ⟨i - j,j,k',x - y,y,_,aa,hy,aa,hj1,aa,hj,aa,rfl,by rw[gV,hL],?_,rfl,rfl,rfl⟩ ?_ (aK (aC _ _) ?_) (ah _)
   ·rw[hrot]
    conv=>lhs;unfold iI
    rw[if_neg h1,if_pos h2]
   ·unfold zU;refine ae.2 ⟨bE hF.1 rfl,ae.2 ⟨⟨rfl,c9 rfl⟩,ae.2 ⟨bP hp rfl,?_⟩⟩⟩;exact xE
   show flat (eV l0).fl (mL L (m - x).toNat m.toNat y.toNat)=_;rw[(aa:(m - x).toNat=m.toNat - i),(aa:y.toNat=j)]
  exfalso;have h4:(decide (0<=m - x)&&decide (0<=m)&&decide (0<=y)&&decide (m - x+y<=L.length)&&decide (m+y<=L.length)&&decide (L.length<=1000000))=false:=h4;simp at h4;omega
 have h2:i<j:=(by simp[aB,aF]at h2;omega);(conv=>whnf);refine bt ?_;(conv=>whnf);refine bt ?_;(conv=>whnf);refine bt ?_;(conv=>whnf);refine⟨0,c,[iv (m - x),iv (m+y - x),iv x],l0,L,by rw[hL];rfl,rfl,?_,?_⟩
 ·exact bD hC
 ((conv=>whnf);apply bm<;>intro h4)
 ·(conv=>whnf);refine bt ?_;(conv=>whnf);refine⟨_,Nat.lt_of_lt_of_le (aa:i+(j - i)<i+j) (ah _),?_⟩;refine aV (e0:=zU l.length c m x (y - x) (.pnts l0) (0,0)) (o0:=aq 2 (flat (eV l0).fl (mL L (m.toNat - i) (m.toNat+j - i) i))) (n0:=nx') hF ⟨i,j - i,k',x,y - x,_,hx,aa,hi1,aa,hi,aa,aa,rfl,by rw[gV,hL],?_,rfl,rfl,rfl⟩ ?_ (aK (aC _ _) ?_) (ah _)
  ·rw[hrot]
   conv=>lhs;unfold iI
   rw[if_neg h1,if_neg aa]
  ·unfold zU;refine ae.2 ⟨bE hF.1 rfl,ae.2 ⟨⟨rfl,c9 rfl⟩,ae.2 ⟨bP hp rfl,?_⟩⟩⟩;exact xE
  show flat (eV l0).fl (mL L (m - x).toNat (m+y - x).toNat x.toNat)=_;rw[(aa:(m - x).toNat=m.toNat - i),(aa:(m+y - x).toNat=m.toNat+j - i),(aa:x.toNat=i)]
 exfalso;have h4:(decide (0<=m - x)&&decide (0<=m+y - x)&&decide (0<=x)&&decide (m - x+x<=L.length)&&decide (m+y - x+x<=L.length)&&decide (L.length<=1000000))=false:=h4;simp at h4;omega
def aNW (D:CW)(l:List Int)(r:List Value)(c:Nat):Option (Bool × List Int):=match r with
 |[.int .i64 a,.int .i64 b]=>some (decide (0<=a)&&decide (a<=b)&&decide (b<=l.length)&&decide (l.length<=1000000)&&kJ D l,gH D a.toNat l (b - 1 - a).toNat)
 |_=>none
theorem aGg {D:CW}{l:List Int}{r:List Value}{c:Nat}{l':List Int}(h:aNW D l r c=some (true,l')):∃ a b:Int,r=[iv a,iv b]/\0<=a/\a<=b/\b<=l.length/\l.length<=1000000/\kJ D l=true/\l'=gH D a.toNat l (b - 1 - a).toNat:=by
 unfold aNW at h;split at h
 ·rename_i a b;injection h with h;injection h with h1 h2;simp only[af,ag]at h1;exact⟨a,b,rfl,h1.1.1.1.1,h1.1.1.1.2,h1.1.1.2,h1.1.2,h1.2,h2.symm⟩
 ·cases h
def aHc:Nat × XF:=(224,frQ aNW)
theorem aPq:c7 Tryz.prog aHc.1 aHc.2:=w7 (aL (xl:=[Y5]) (.cons aDC .nil)) fun l0 l r c l' hs=>by
 obtain⟨a,b,rfl,ha,hab,hb,hl,hin,rfl⟩:=aGg hs;refine⟨rfl,fun F nx hF hC=>?_⟩;have hp:CLt (.pnts l0) (0,0) nx:=trivial;(conv=>whnf);refine bt ?_;(conv=>whnf);refine⟨fun q e h nx'=>∃(i:Nat) (x:Int),x=i/\a.toNat+1<=i/\(i<=b.toNat\/i=a.toNat+1)/\q=b.toNat - i/\e=zZ l.length c a b x (.pnts l0) (0,0)/\h=(0,aq 2 (flat (eV l0).fl (gH (.pnts l0) a.toNat l (i - 1 - a.toNat))))::F/\nx'=nx,⟨b.toNat - (a.toNat+1),?_⟩,?_⟩
 ·refine aV (e0:=zZ l.length c a b (a+1) (.pnts l0) (0,0)) (o0:=aq 2 (flat (eV l0).fl l)) (n0:=nx) hF ⟨a.toNat+1,a+1,aa,ah _,.inr rfl,rfl,rfl,by rw[(aa:a.toNat+1 - 1 - a.toNat=0)];rfl,rfl⟩ ?_ (aE (aC _ _)) (ah _);unfold zZ;refine ae.2 ⟨bE hF.1 rfl,ae.2 ⟨bP hp rfl,?_⟩⟩;exact xE
 rintro q e h nx' ⟨i,x,hx,hi0,hi,rfl,rfl,rfl,rfl⟩;unfold zZ;((conv=>whnf);apply bm<;>intro h1);rotate_left
 ·have hge:b.toNat<=i:=(by simp[aB,aF]at h1;omega);(conv=>whnf);refine⟨rfl,?_⟩;rw[(aa:(b - 1 - a).toNat=i - 1 - a.toNat)]
 have hlt:i<b.toNat:=(by simp[aB,aF]at h1;omega);(conv=>whnf);refine⟨fun q e h nx''=>∃(j:Nat) (y:Int) (L:List Int),y=j/\a.toNat<=j/\j<=i/\q=j+1/\L.length=l.length/\kJ (.pnts l0) L=true/\gH (.pnts l0) a.toNat l (i - a.toNat)=tT (.pnts l0) a.toNat L j/\e=wC l.length c a b x y (.pnts l0) (0,0)/\h=(0,aq 2 (flat (eV l0).fl L))::F/\nx''=nx',⟨i+1,?_⟩,?_⟩
 ·refine aV (e0:=wC l.length c a b x x (.pnts l0) (0,0)) (o0:=aq 2 (flat (eV l0).fl (gH (.pnts l0) a.toNat l (i - 1 - a.toNat)))) (n0:=nx') hF
   ⟨i,x,_,hx,aa,ah _,rfl,tI _ _ _ _,SO _ _ hin _ aa,?_,rfl,rfl,rfl⟩ ?_ (aE (aC _ _)) (ah _)
  ·obtain⟨t,ht⟩:∃ t,i - a.toNat=t+1:=⟨i - a.toNat - 1,aa⟩;rw[ht,(aa:i - 1 - a.toNat=t),(aa:i=a.toNat+1+t)];rfl
  unfold wC;refine ae.2 ⟨bE hF.1 rfl,ae.2 ⟨bP hp rfl,?_⟩⟩;exact xE
 rintro q e h nx'' ⟨j,y,L,hy,hj0,hj,rfl,hL,hR,hins,rfl,rfl,rfl⟩;unfold wC;have hl1:(flat (eV l0).fl L).length=L.length*2:=(by rw[aO];rfl);((conv=>whnf);apply bm<;>intro h2);rotate_left
 ·have h2:j=a.toNat:=(by simp[aB,aF]at h2;omega);have hfin:gH (.pnts l0) a.toNat l (i - a.toNat)=L:=by
   rw[hins];cases j with
   |zero=>rfl
   |succ j' =>
    unfold tT;rw[if_neg (fun hh=>by have:=hh.1;omega)]
  (conv=>whnf);refine bt ?_;(conv=>whnf);refine⟨b.toNat - (i+1),aa,?_⟩;refine aV (e0:=zZ l.length c a b (x+1) (.pnts l0) (0,0)) (o0:=aq 2 (flat (eV l0).fl L)) (n0:=nx'') hF ⟨i+1,x+1,aa,aa,.inl aa,rfl,rfl,by rw[(aa:i+1 - 1 - a.toNat=i - a.toNat),hfin],rfl⟩ ?_ (aE (aC _ _)) (ah _);unfold zZ;refine ae.2 ⟨bE hF.1 rfl,ae.2 ⟨bP hp rfl,?_⟩⟩;exact xE
 have h2:a.toNat<j:=(by simp[aB,aF]at h2;omega);(conv=>whnf);refine bt ?_;(conv=>whnf);refine eZ (wK l0 L (i:=j) aa ?_) ?_
 ·show _+Int.toNat y*2=_;omega
 (conv=>whnf);refine bt ?_;(conv=>whnf);refine bt ?_;(conv=>whnf);refine eZ (wK l0 L (i:=j - 1) aa ?_) ?_
 ·show _+Int.toNat (y - 1)*2=_;omega
 have i1:=qH hR (aa:j<L.length);have i2:=qH hR (aa:j - 1<L.length);((conv=>whnf);apply bm<;>intro h7);rotate_left
 ·have h7:gI (.pnts l0) (aG L j) (aG L (j - 1))=false:=h7;have hfin:gH (.pnts l0) a.toNat l (i - a.toNat)=L:=by
   obtain⟨j',rfl⟩:∃ j',j=j'+1:=⟨j - 1,aa⟩;rw[hins]
   conv=>lhs;unfold tT
   rw[if_neg (fun hh=>by rw[(aa:j'+1 - 1=j')]at h7;rw[h7]at hh;cases hh.2)]
  (conv=>whnf);refine bt ?_;(conv=>whnf);refine⟨b.toNat - (i+1),aa,?_⟩;refine aV (e0:=zZ l.length c a b (x+1) (.pnts l0) (0,0)) (o0:=aq 2 (flat (eV l0).fl L)) (n0:=nx'') hF ⟨i+1,x+1,aa,aa,.inl aa,rfl,rfl,by rw[(aa:i+1 - 1 - a.toNat=i - a.toNat),hfin],rfl⟩ ?_ (aE (aC _ _)) (ah _);unfold zZ;refine ae.2 ⟨bE hF.1 rfl,ae.2 ⟨bP hp rfl,?_⟩⟩;exact xE
 have h7:gI (.pnts l0) (aG L j) (aG L (j - 1))=true:=h7;have cO:=I6 (l0:=l0) (L:=L) (x:=j) (y:=j - 1) (o1:=0+y.toNat*2) (o2:=0+(y - 1).toNat*2) aa aa aa aa
 repeat' first
  |(((conv=>whnf);apply bm<;>intro g))
  |((conv=>whnf)
    refine eZ (wK l0 L (i:=j) aa ?_) ?_
    ·show _+Int.toNat y*2=_;omega)
  |((conv=>whnf)
    refine eZ (wK l0 L (i:=j - 1) aa ?_) ?_
    ·show _+Int.toNat (y - 1)*2=_;omega)
 all_goals first
  |(exfalso;simp[aB,aF,aN]at g;omega)
  |(have g:(0+y.toNat*2+2).ble (flat (eV l0).fl L).length=false:=g
    rw[hl1]at g;exact eD g aa)
  |(have g:(0+(y - 1).toNat*2+2).ble (bU (flat (eV l0).fl L) (0+y.toNat*2) [iv (bI l0 (aG L (j - 1)).toNat).1,iv (bI l0 (aG L (j - 1)).toNat).2]).length=false:=g
    rw[cG (by rw[hl1];show 0+y.toNat*2+2<=L.length*2;omega),hl1]at g;exact eD g aa)
  |skip
 (conv=>whnf);refine⟨j - 1+1,aa,?_⟩
 refine aV (e0:=wC l.length c a b x (y - 1) (.pnts l0) (0,0)) (o0:=aq 2 (flat (eV l0).fl (lH L j (j - 1)))) (n0:=nx'') hF
  ⟨j - 1,y - 1,_,aa,aa,aa,rfl,by rw[jK,hL],H3 hR aa aa,?_,rfl,rfl,rfl⟩ ?_ (aK (aC _ _) cO) (ah _)
 ·obtain⟨j',rfl⟩:∃ j',j=j'+1:=⟨j - 1,aa⟩;rw[hins,(aa:j'+1 - 1=j')]
  conv=>lhs;unfold tT
  rw[if_pos ⟨h2,by rw[(aa:j'+1 - 1=j')]at h7;exact h7⟩]
 unfold wC;refine ae.2 ⟨bE hF.1 rfl,ae.2 ⟨bP hp rfl,?_⟩⟩;exact xE
end Go.Aw
end
