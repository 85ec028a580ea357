/-
  Parts of a proof. No condition.
-/
import Derived.Test.YticajjhjehljpaaGreatQAp
import Derived.Test.YticajjhjehljpaaGreatChecked
import Derived.Test.YticajjhjehljpaaGreatRows
import Derived.ProofKit
import Derived.Lib.SmallJoins
import Derived.Deep.Slices
import Derived.Deep.Fields
set_option linter.unusedSimpArgs false
set_option linter.unusedVariables false
noncomputable section
namespace Go.Proofs.YticajjhjehljpaaGreat
open Go.ChangeShapes Go.WideShapes Go.ChangeAt Go.RowKit Go.Joins
theorem fG {a b:Bool}(ha:a=true)(hb:b=true):(a&&b)=true:=by rw [ha,hb];rfl
theorem jf0:(Rows.facesPlacesRow.wf (OpenSpec.ofChange Rows.facesPlacesSpec))=true:=by kernel_rfl
theorem jf1:(laidOutB Tryz.prog)=true:=by kernel_rfl
theorem jf2:(mapsRowed Tryz.prog)=true:=by kernel_rfl
theorem jf3:(Tryz.f4.params.all (Tryz.prog.readableRec ·))=true:=by kernel_rfl
theorem jf4:(namedTie Tryz.prog Rows.facesPlacesRow.named Rows.facesPlacesSpec.vars)=true:=by kernel_rfl
theorem jf5:((Rows.facesPlacesRow.stops == []))=true:=by kernel_rfl
theorem jf6:((Tryz.prog.stops == []))=true:=by kernel_rfl
theorem jf7:((Rows.facesPlacesRow.knobs == []))=true:=by kernel_rfl
theorem jf8:((Tryz.prog.stopKnobs == []))=true:=by kernel_rfl
theorem jf9:((Rows.facesPlacesRow.inPlace == Tryz.prog.inPlace 4))=true:=by kernel_rfl
theorem aQC:((Rows.facesPlacesRow.unfollowed == Tryz.prog.unfollowed 4))=true:=by kernel_rfl
theorem aQ7:((Rows.facesPlacesRow.recurses == Tryz.prog.recurses 4))=true:=by kernel_rfl
theorem aQ0:((Rows.facesPlacesRow.named == Tryz.prog.varsNamed 4))=true:=by kernel_rfl
theorem aPd:((Rows.facesPlacesRow.maps == (Tryz.f4.params.toList++Rows.facesPlacesSpec.plain.varTypes Tryz.prog).any (Tryz.prog.mapsRec ·)))=true:=by kernel_rfl
theorem aQk:((Rows.facesPlacesRow.ifaces == (Tryz.f4.params.toList++Rows.facesPlacesSpec.plain.varTypes Tryz.prog).any (Tryz.prog.ifacesRec ·)))=true:=by kernel_rfl
theorem aR0:((Rows.facesPlacesRow.mapsOut == Tryz.prog.mapsAmong Tryz.f4.resultTypes.toList))=true:=by kernel_rfl
theorem aPo:((Rows.facesPlacesRow.loops == (Tryz.f4.params.toList++Rows.facesPlacesSpec.plain.varTypes Tryz.prog).any (Tryz.prog.loopsFrom ·)))=true:=by kernel_rfl
theorem aQX:((Rows.facesPlacesRow.wideKeys == (Tryz.f4.params.toList++Rows.facesPlacesSpec.plain.varTypes Tryz.prog++Tryz.f4.resultTypes.toList).any (Tryz.prog.wideKeysFrom ·)))=true:=by kernel_rfl
theorem aQu:(Rows.facesPlacesSpec.vars.all (Tryz.prog.varReadable ·))=true:=by kernel_rfl
theorem aPE:(Tryz.f4.resultTypes.all (fun t=>Tryz.prog.readableRec t&&decide (t<Tryz.prog.types.size)))=true:=by kernel_rfl
theorem aPP:((Rows.facesPlacesRow.ifacesOut == Tryz.f4.resultTypes.toList.any (Tryz.prog.ifacesRec ·)))=true:=by kernel_rfl
theorem aPZ:((Rows.facesPlacesRow.loopsOut == Tryz.f4.resultTypes.toList.any (Tryz.prog.loopsFrom ·)))=true:=by kernel_rfl
theorem aPS:((Rows.facesPlacesRow.plainKeys == Tryz.prog.plainKeys))=true:=by kernel_rfl
theorem aPG:(Rows.facesPlacesRow.shortTexts.isNone)=true:=by kernel_rfl
theorem aQm:(Tryz.prog.stopsHeard)=true:=by kernel_rfl
theorem aQv:(Tryz.prog.mayEnter)=true:=by kernel_rfl
theorem aQ9:((Rows.facesPlacesRow.lifted == Tryz.prog.liftsFinal))=true:=by kernel_rfl
theorem aPy:((Tryz.prog.make == some Rows.facesPlacesRow.make))=true:=by kernel_rfl
theorem aPx:((Rows.facesPlacesRow.pinned == Rows.facesPlacesRow.pinnedBy))=true:=by kernel_rfl
theorem aPw:((Rows.facesPlacesRow.veiled == (Tryz.f4.params.toList++Rows.facesPlacesSpec.plain.varTypes Tryz.prog++Tryz.f4.resultTypes.toList).any (Tryz.prog.veiledRec ·)))=true:=by kernel_rfl
theorem aQi:(Rows.facesPlacesRow.veiledFits Tryz.prog Tryz.f4.params.toList (Tryz.f4.params.toList++Rows.facesPlacesSpec.plain.varTypes Tryz.prog++Tryz.f4.resultTypes.toList))=true:=by kernel_rfl
end Go.Proofs.YticajjhjehljpaaGreat
end

noncomputable section
namespace Go.Aw
set_option maxRecDepth 100000
set_option maxHeartbeats 2000000
structure WA (h:Heap) (p:Nat) (l:List Pt) (m:List Ed) (n:Int):Prop where
 ok:a8 l m n=true
 sm:l.length≤1000∧m.length≤1000
 ex:∃ k0 k1 kd kt kf nm c1 c2,xX h p k0 k1 kd kt kf nm l (aQ l m m.length) (outs l m) m.length c1 c2 n (some ((aQ l m m.length).length,(aQ l m m.length).length)) ∧
  (∃ wr g sz cs,look h k1=some (.cells wr g sz cs)∧cs.take (flat bL.fl m).length=flat bL.fl m)∧(∃ wr g sz cs,look h kf=some (.cells wr g sz cs)∧cs.take (flat aT.fl (c8 l m).face).length=flat aT.fl (c8 l m).face)
theorem WA.ext {W h:Heap}{p:Nat}{l:List Pt}{m:List Ed}{n:Int}(hw:WA W p l m n)(hx:∀ k o,look W k=some o→look h k=some o):WA h p l m n:=by
 obtain⟨ok,sm,k0,k1,kd,kt,kf,nm,c1,c2,w,⟨w1,g1,s1,x1,a1,b1⟩,w2,g2,s2,x2,a2,b2⟩:=hw;obtain⟨⟨w3,g3,s3,a3⟩,⟨w4,g4,s4,x4,a4,b4⟩,⟨w5,g5,s5,x5,a5,b5⟩,⟨w6,g6,s6,a6⟩,h4⟩:=w;refine⟨ok,sm,k0,k1,kd,kt,kf,nm,c1,c2,⟨⟨_,_,_,hx _ _ a3⟩,⟨_,_,_,_,hx _ _ a4,b4⟩,⟨_,_,_,_,hx _ _ a5,b5⟩,⟨_,_,_,hx _ _ a6⟩,fun i hi h0=>?_⟩,⟨_,_,_,_,hx _ _ a1,b1⟩,_,_,_,_,hx _ _ a2,b2⟩;obtain⟨w7,g7,s7,x7,a7,b7⟩:=h4 i hi h0;exact⟨_,_,_,_,hx _ _ a7,b7⟩
def wH (nx:Nat)(l:List Pt)(m:List Ed)(c1 c2:Nat)(n:Int):Heap:=oD nx (hF0 l m c1 c2 n)
theorem aMi {l:List Pt}{m:List Ed}{c1 c2:Nat}{n:Int}(hl:l.length≤1000){k:Nat}{o:bV}(hk:look (hF0 l m c1 c2 n) k=some o):k<2004 :=
 (NI hl k o (PD k o hk)).1
theorem aNF {nx:Nat}{l:List Pt}{m:List Ed}{c1 c2:Nat}{n:Int}(hl:l.length≤1000){k:Nat}{o:bV}(hk:look (wH nx l m c1 c2 n) k=some o):nx≤k∧k<nx+2004:=by
 obtain⟨j,o',e1,e2,_⟩:=mW _ hk;have:=aMi hl e2;omega
theorem aJv {nx:Nat}{l:List Pt}{m:List Ed}{c1 c2:Nat}{n:Int}(hl:l.length≤1000){k:Nat}(hk:k<nx∨nx+2004≤k):look (wH nx l m c1 c2 n) k=none:=by
 cases h:look (wH nx l m c1 c2 n) k with
 |none=>rfl
 |some o=>exfalso;have:=aNF hl h;omega
theorem H9 {nx:Nat}{l:List Pt}{m:List Ed}{c1 c2:Nat}{n:Int}{j:Nat}{o:bV}(h:look (xR l m) j=some o)(h1:j≠4)(h2:j≠2000):look (wH nx l m c1 c2 n) (nx+(3+j))=some (shO nx (shO 3 o)):=by
 refine lD _ ?_;unfold hF0;rw [bA (by omega),bA (by omega)];exact lD _ h
theorem aMQ {nx:Nat}{l:List Pt}{m:List Ed}{c1 c2:Nat}{n:Int}(ho:a8 l m n=true)(hs:l.length≤1000∧m.length≤1000):WA (wH nx l m c1 c2 n) (nx+7) l m n:=by
 have hfl:∀ {α:Type} (E:El α) (x:List α) (k:Nat),(flat E.fl x).map (bY fun i=>k+i)=flat E.fl x:=fun E x k=>bJ (aD E x);have hst:look (wH nx l m c1 c2 n) (nx+7)=some (.cells true false 1 (J3 (nx+3) (nx+4) (nx+9) (nx+8) (nx+2003) l.length m.length (aQ l m m.length).length (outs l m).length c1 c2 n (some ((aQ l m m.length).length,(aQ l m m.length).length)))):=by
  refine (lD _ (o:=PT (a69 l m c1 c2 n) (.slice (some ⟨2003,0,none⟩) (aQ l m m.length).length (aQ l m m.length).length)) rfl).trans ?_;rfl
 refine⟨ho,hs,nx+3,nx+4,nx+9,nx+8,nx+2003,fun i=>nx+(3+(i+1000)),c1,c2,⟨⟨_,_,_,hst⟩,⟨_,_,_,_,H9 (j:=0) rfl (by omega) (by omega),?_⟩,⟨_,_,_,_,H9 (j:=6) rfl (by omega) (by omega),?_⟩,⟨true,false,1,?_⟩,fun i hi h0=>⟨true,false,1,flat aT.fl (bQ (outs l m) i),?_,List.take_length⟩⟩,⟨_,_,_,_,H9 (j:=1) rfl (by omega) (by omega),?_⟩,⟨true,false,1,flat aT.fl (c8 l m).face,?_,List.take_length⟩⟩
 ·rw [hfl,hfl];exact List.take_length
 ·rw [hfl,hfl];exact List.take_length
 ·rw [H9 (j:=5) (o:=.cells true false 1 (tC (outs l m).length (outs l m))) rfl (by omega) (by omega)];show some (bV.cells true false 1 (((tC (outs l m).length (outs l m)).map (bY fun k=>3+k)).map (bY fun k=>nx+k)))=_;unfold tC;rw [List.map_map,List.map_map];congr 2;refine List.map_congr_left fun i hi=>?_;show bY _ (bY _ (tV (tN (outs l m).length i) (bQ (outs l m) i)))=_;rw [IH,IH];unfold tN;rw [if_neg (by have:=List.mem_range.1 hi;omega)]
 ·have hil:i<l.length:=(by rw [fP] at hi;exact hi);have:look (xR l m) (i+1000)=some (ob (bQ (outs l m) i)):=by
   unfold xR;rw [bA (by omega),bA (by omega),bA (by omega),bA (by omega)];exact lM (by omega) h0 hi
  rw [H9 this (by omega) (by omega)];show some (bV.cells true false 1 (((flat aT.fl (bQ (outs l m) i)).map (bY fun k=>3+k)).map (bY fun k=>nx+k)))=_;rw [hfl,hfl]
 ·rw [hfl,hfl];exact List.take_length
 refine (lD (hF0 l m c1 c2 n) (j:=2003) (o:=.cells true false 1 (flat aT.fl (c8 l m).face)) rfl).trans ?_;show some (bV.cells true false 1 ((flat aT.fl (c8 l m).face).map (bY fun k=>nx+k)))=_;rw [hfl]
def wN (nx:Nat)(l:List Pt)(m:List Ed)(c1 c2:Nat)(n:Int)(T:List Value)(W:Heap):Heap :=
 (nx+7,.cells true false 1 (J3 (nx+3) (nx+4) (nx+9) (nx+8) (nx+2003) l.length m.length (aQ l m m.length).length (outs l m).length c1 c2 n (some ((aQ l m m.length).length,(aQ l m m.length).length)))) ::
 (nx+2003,.cells true false 1 (flat aT.fl (c8 l m).face))::(nx+9,.cells true false 5 (flat tW.fl (aQ l m m.length)))::(nx+8,.cells true false 1 T)::(nx+3,.cells false true bC.sz (flat bC.fl l))::(nx+4,.cells false true bL.sz (flat bL.fl m))::W
def wTb (nx:Nat)(l:List Pt)(m:List Ed):List Value:=((tC (outs l m).length (outs l m)).map (bY fun k=>3+k)).map (bY fun k=>nx+k)
def wT (nx:Nat)(l:List Pt)(m:List Ed):Heap:=oD nx (oD 3 (tH (outs l m).length (outs l m) (outs l m).length))
theorem XV {nx:Nat}{l:List Pt}{m:List Ed}{c1 c2:Nat}{n:Int}:wH nx l m c1 c2 n=wN nx l m c1 c2 n (wTb nx l m) (wT nx l m):=by
 have hfl:∀ {α:Type} (E:El α) (x:List α) (k:Nat),(flat E.fl x).map (bY fun i=>k+i)=flat E.fl x:=fun E x k=>bJ (aD E x);unfold wN;rw [show J3 (nx+3) (nx+4) (nx+9) (nx+8) (nx+2003) l.length m.length (aQ l m m.length).length (outs l m).length c1 c2 n (some ((aQ l m m.length).length,(aQ l m m.length).length))=(J3 3 4 9 8 2003 l.length m.length (aQ l m m.length).length (outs l m).length c1 c2 n (some ((aQ l m m.length).length,(aQ l m m.length).length))).map (bY fun i=>nx+i) from rfl];have e1:=(hfl aT (c8 l m).face nx).symm;have e2:flat tW.fl (aQ l m m.length)=((flat tW.fl (aQ l m m.length)).map (bY fun i=>3+i)).map (bY fun i=>nx+i):=(by rw [hfl,hfl]);have e3:flat bC.fl l=((flat bC.fl l).map (bY fun i=>3+i)).map (bY fun i=>nx+i):=(by rw [hfl,hfl]);have e4:flat bL.fl m=((flat bL.fl m).map (bY fun i=>3+i)).map (bY fun i=>nx+i):=(by rw [hfl,hfl]);rw [e1,e2,e3,e4];rfl
theorem aIw {nx:Nat}{l:List Pt}{m:List Ed}{c1 c2:Nat}{n:Int}(ho:a8 l m n=true)(hs:l.length≤1000∧m.length≤1000):WA (wN nx l m c1 c2 n (wTb nx l m) (wT nx l m)) (nx+7) l m n:=XV▸aMQ ho hs
theorem Z0 {nx:Nat}{l:List Pt}{m:List Ed}{c1 c2:Nat}{n:Int}(hl:l.length≤1000){k:Nat}(hk:k<nx∨nx+2004≤k):look (wN nx l m c1 c2 n (wTb nx l m) (wT nx l m)) k=none:=XV▸aJv hl hk
def aCK:Nat × XF:=(35,fun args h nx K=>∃ l m n p q,args=[mapA p q n]∧jG bC h p l∧jG bL h q m∧(l.length≤1000∧m.length≤1000) ∧
 ((a8 l m n=true∧K (.tuple #[.pointer (some ⟨nx+7,0,none⟩),iv 0]) (app (eP h) (wN nx l m (qU p) (qU q) n (wTb nx l m) (wT nx l m))) (nx+2004))∨(a8 l m n=false∧K (.tuple #[.pointer none,iv 1]) h nx)))
theorem aAI {ι:Nat→Loc}{B:Nat}{h h':Heap}{nx:Nat}{w:World}(H:aU ι B h nx w)(e:∀ k,look h' k=look h k):aU ι B h' nx w :=
 ⟨fun k o hk=>H.obj k o (by rw [← e];exact hk),fun k k' o o' hk hk'=>H.sep k k' o o' (by rw [← e];exact hk) (by rw [← e];exact hk'),fun k o hk=>H.low k o (by rw [← e];exact hk),H.size,fun k o hk=>H.sc k o (by rw [← e];exact hk)⟩
theorem aJY:cO Go.Proofs.Tryz.prog aCK.1 aCK.2:=by
 refine⟨fun args h nx K hx ι B w H hs=>?_,fun args h nx K hx=>?_⟩
 ·obtain⟨l,m,n,p,q,rfl,hl,hm,hlm,hx⟩:=hx;rw [← XV] at hx;have h0:=aR3.1 [mapA p q n] h nx (fun v h' nx'=>∃ h'',(∀ k,look h'' k=look h' k)∧K v h'' nx') ⟨l,m,n,p,q,rfl,hl,hm,hlm,by
   rcases hx with ⟨ho,hx⟩|⟨ho,hx⟩
   ·refine .inl ⟨ho,_,fun k=>?_,hx⟩;rw [iQ,iQ,kX];cases e1:look h k with
    |none =>
     show look (wH nx l m (qU p) (qU q) n) k=_;cases e2:look (oD nx (hF0 l m (qU p) (qU q) n)) k with
     |none=>exact e2
     |some o=>exact e2
    |some o =>
     have hlow:=H.low k o e1;have e2:look (oD nx (hF0 l m (qU p) (qU q) n)) k=none:=aJv hlm.1 (.inl hlow);rw [e2];rfl
   exact .inr ⟨ho,_,fun k=>rfl,hx⟩⟩ ι B w H hs
  refine⟨h0.1,CallsIn.mono h0.2 fun e w' hr=>?_⟩;cases e with
  |returned u =>
   obtain⟨v,h1,nx1,ι1,⟨h2,e2,hk⟩,a1,a2,a3,a4,a5,a6⟩:=hr;exact⟨v,h2,nx1,ι1,hk,a1,aAI a2 e2,a3,a4,a5,a6⟩
  |_=>exact hr.elim
 obtain⟨l,m,n,p,q,rfl,hl,hm,hlm,hx⟩:=hx;rcases hx with ⟨ho,hx⟩|⟨ho,hx⟩
 ·exact⟨_,_,_,hx,fun K' hk=>⟨l,m,n,p,q,rfl,hl,hm,hlm,.inl ⟨ho,hk⟩⟩⟩
 exact⟨_,_,_,hx,fun K' hk=>⟨l,m,n,p,q,rfl,hl,hm,hlm,.inr ⟨ho,hk⟩⟩⟩
def foM (l:List Pt)(m:List Ed):Option (Nat × Nat):=some ((aQ l m m.length).length,(aQ l m m.length).length)
def K9 (l:List Pt)(m:List Ed)(n:Int)(c1 c2:Nat)(s:Nat):Heap :=
 (5,.cells false true bL.sz (flat bL.fl m))::(6,.cells false true 1 (flat aT.fl (c8 l m).face))::gG l (aQ l m m.length) (outs l m) m.length c1 c2 n (foM l m) s
theorem aEE {h:Heap}{p:Nat}{l:List Pt}{m:List Ed}{n:Int}(hw:WA h p l m n)(k3 s:Nat):∃ c1 c2,∃ ρ:Nat→Nat,ρ 0=p∧ρ 3=k3 ∧
  ∀ k o,look (K9 l m n c1 c2 s) k=some o→k<2000∧∃ g sz cs0,o=.cells false g sz cs0∧sz≠0∧(g=true→dP cs0=true)∧(∀ v∈cs0,E4 2000 v)∧∃ wr g' sz' cs,look h (ρ k)=some (.cells wr g' sz' cs)∧cs.take cs0.length=cs0.map (bY ρ):=by
 obtain⟨ok,sm,k0,k1,kd,kt,kf,nm,c1,c2,w,⟨w1,g1,s1,x1,a1,b1⟩,w2,g2,s2,x2,a2,b2⟩:=hw;refine⟨c1,c2,rhW p k0 k1 kd kt kf k3 nm s,rfl,rfl,fun k o hk=>?_⟩;unfold K9 at hk;rw [aB] at hk;split at hk
 ·rename_i hb;injection hk with hk;subst hk;have:=beq_true hb;subst this;exact⟨by omega,true,bL.sz,_,rfl,by decide,fun _=>aD bL m,fun v hv=>cN (aW (aD bL m) hv),w1,g1,s1,x1,a1,by rw [b1];exact (bJ (aD bL m)).symm⟩
 rw [aB] at hk;split at hk
 ·rename_i hb;injection hk with hk;subst hk;have:=beq_true hb;subst this;exact⟨by omega,true,1,_,rfl,by omega,fun _=>aD aT _,fun v hv=>cN (aW (aD aT _) hv),w2,g2,s2,x2,a2,by rw [b2];exact (bJ (aD aT _)).symm⟩
 exact OS w (by rw [fP];exact sm.1) s k o hk
theorem aLO {h:Heap}{p k3:Nat}{l:List Pt}{m:List Ed}{n:Int}(hw:WA h p l m n)(s:Nat){L:List Int}{c:Nat}(hL:∃ wr g sz cs,look h k3=some (.cells wr g sz cs)∧cs.take (flat aT.fl L).length=flat aT.fl L){nx:Nat} :
  ∃ c1 c2,In [.pointer (some ⟨0,0,none⟩),.slice (some ⟨3,0,none⟩) L.length c] ((3,.cells false true 1 (flat aT.fl L))::K9 l m n c1 c2 s) 2000 [.pointer (some ⟨p,0,none⟩),.slice (some ⟨k3,0,none⟩) L.length c] h nx:=by
 obtain⟨c1,c2,ρ,e0,e3,ho⟩:=aEE hw k3 s;refine⟨c1,c2,tB ρ ?_ ?_ fun k o hk=>?_⟩
 ·show _=[Value.pointer (some ⟨ρ 0,0+0,none⟩),.slice (some ⟨ρ 3,0+0,none⟩) L.length c];rw [e0,e3]
 ·exact List.forall_mem_cons.2 ⟨⟨Nat.le_of_ble_eq_true rfl,rfl⟩,List.forall_mem_cons.2 ⟨⟨Nat.le_of_ble_eq_true rfl,fun h=>by cases h⟩,fun _ h=>(by cases h)⟩⟩
 rw [aB] at hk;split at hk
 ·rename_i hb;injection hk with hk;subst hk;have:=beq_true hb;subst this;obtain⟨wr,g,sz,cs,h1,h2⟩:=hL;exact⟨by omega,true,1,_,rfl,by omega,fun _=>aD aT L,fun v hv=>cN (aW (aD aT L) hv),wr,g,sz,cs,by rw [e3];exact h1,by rw [h2];exact (bJ (aD aT L)).symm⟩
 exact ho k o hk
def wcX (s:List Pt→List Ed→Int→List Value→Option (Bool × Value)):XF:=fun args h nx K =>
 ∃ p r l m n,args=.pointer (some ⟨p,0,none⟩)::r∧WA h p l m n∧(match s l m n r with|some pr=>dQ pr.1 (K pr.2 h nx)|none=>False)
def aNJ (s:List Pt→List Ed→Int→List Int→Option (Bool × Value)):XF:=fun args h nx K =>
 ∃ p k3 l m n L c,args=[.pointer (some ⟨p,0,none⟩),.slice (some ⟨k3,0,none⟩) L.length c]∧WA h p l m n∧(∃ wr g sz cs,look h k3=some (.cells wr g sz cs)∧cs.take (flat aT.fl L).length=flat aT.fl L)∧(match s l m n L with|some pr=>dQ pr.1 (K pr.2 h nx)|none=>False)
theorem aH0 {P:Program}{C:VC}{f:Nat}{s:List Pt→List Ed→Int→List Int→Option (Bool × Value)}(hC:bF P C)
  (hs:∀ l m n L v,s l m n L=some (true,v)→a8 l m n=true→l.length≤1000∧m.length≤1000→gT v=true∧∃ s0,∀ c1 c2 c,C f [.pointer (some ⟨0,0,none⟩),.slice (some ⟨3,0,none⟩) L.length c] ((3,.cells false true 1 (flat aT.fl L))::K9 l m n c1 c2 s0) 2000 (fun u _ _=>u=v)):cO P f (aNJ s):=by
 refine (gO (S:=fun args0 h0 n0 v1 h1 k=>gT v1=true∧C f args0 h0 n0 (fun u _ _=>u=v1)∧h1=[]∧k=0) hC ?_).mono ?_ ?_
 ·rintro args0 h0 n0 v1 h1 k ⟨e2,e3,rfl,rfl⟩;exact⟨rfl,_,e3,fun v h nx e=>by rw [e];exact lA e2⟩
 ·rintro args h nx K ⟨p,k3,l,m,n,L,c,rfl,hw,hL,hx⟩;split at hx
  case h_2=>exact hx.elim
  rename_i pr e1;obtain⟨bb,u⟩:=pr;obtain⟨rfl,hx⟩:=aE.1 hx;obtain⟨a2,s0,a4⟩:=hs l m n L u e1 hw.ok hw.sm;obtain⟨c1,c2,i⟩:=aLO hw s0 hL (c:=c) (nx:=nx);refine⟨_,_,2000,u,[],0,⟨a2,a4 c1 c2 c,rfl,rfl⟩,i,?_⟩;simp only [pT,uG,oD,lY,gE a2,Nat.add_zero];exact hx
 rintro args h nx K ⟨p,k3,l,m,n,L,c,rfl,hw,hL,hx⟩;split at hx
 case h_2=>exact hx.elim
 rename_i pr e1;obtain⟨hb,hx⟩:=aE.1 hx;exact⟨pr.2,h,nx,hx,fun K' hk=>⟨p,k3,l,m,n,L,c,rfl,hw,hL,by rw [e1];exact aI hb hk⟩⟩
def aEC (nx:Nat):Heap→Bool
 |[]=>true
 |(k,_)::r=>Nat.blt k nx&&aEC nx r
theorem C6 {nx:Nat}:∀ {H:Heap},aEC nx H=true→∀ k o,look H k=some o→k<nx
 |[],_,k,o,h=>by cases h
 |(j,q)::r,hl,k,o,h=>by
  simp only [aEC,Bool.and_eq_true] at hl;rw [aB] at h;split at h
  ·rename_i hb;rw [← beq_true hb];exact Nat.le_of_ble_eq_true hl.1
  exact C6 hl.2 k o h
theorem aEQ {H W:Heap}{p nx:Nat}{l:List Pt}{m:List Ed}{n:Int}(hw:WA W p l m n)(hno:∀ k,k<nx→look W k=none)(hH:aEC nx H=true):WA (app H W) p l m n :=
 hw.ext fun k o hk=>by
  rw [iQ];cases hh:look H k with
  |none=>exact hk
  |some o'=>rw [hno k (C6 hH k o' hh)] at hk;cases hk
theorem aEN {h:Heap}{p q:Nat}{v:bV}{l:List Pt}{m:List Ed}{n:Int}(hw:WA h p l m n)(hq:look h q=none):WA (bT h q v) p l m n:=hw.ext (ext_cons (fun _ _ h=>h) hq)
theorem ZU {H W:Heap}{nx k:Nat}(hH:aEC nx H=true)(hk:nx≤k)(hW:look W k=none):look (app H W) k=none:=by
 rw [iQ];cases hh:look H k with
 |none=>exact hW
 |some o'=>have:=C6 hH k o' hh;omega
def aKd (xl:List (Nat × XF))(k:Nat):EP:={ aA with X:=look xl,M:=k }
theorem F7 {xl:List (Nat × XF)}(h:lP xl)(k:Nat):qH Go.Proofs.Tryz.prog (aKd xl k) where
 ar:=eL.ar
 tab:=eL.tab
 mixed:=eL.mixed
 funcs:=eL.funcs
 xs:=h.look
def u6 (n a:Int):Bool:=decide (0≤a)&&decide (a≤n)
def aEg (l:List Pt)(m:List Ed)(n:Int):List Int→Option (Bool × Value)
 |[a]=>some (true,.bool (u6 n a))
 |[a,b]=>some (true,.bool (u6 n a&&u6 n b))
 |_=>none
def aGh:Nat × XF:=(41,aNJ aEg)
theorem aQI:cO Go.Proofs.Tryz.prog aGh.1 aGh.2:=aH0 (f:=41) (s:=aEg) (kL (F7 (xl:=[]) .nil 4) 6).1 fun l m n L v hs ho hm=>by
 have:(∃ a,L=[a]∧v=.bool (u6 n a))∨(∃ a b,L=[a,b]∧v=.bool (u6 n a&&u6 n b)):=by
  unfold aEg at hs;split at hs
  ·injection hs with hs;injection hs with h1 h2;exact .inl ⟨_,rfl,h2.symm⟩
  ·injection hs with hs;injection hs with h1 h2;exact .inr ⟨_,_,rfl,h2.symm⟩
  ·cases hs
 clear hs;rcases this with ⟨a,rfl,rfl⟩|⟨a,b,rfl,rfl⟩
 ·refine⟨rfl,0,fun c1 c2 c=>?_⟩;unfold u6;unfold K9 gG J3
  repeat' (((conv=>whnf);apply bm<;>intro g))
  all_goals (conv=>whnf)
  all_goals (show Value.bool _=Value.bool _;congr 1;simp [aKd,aA,aC] at *;try omega)
 refine⟨rfl,0,fun c1 c2 c=>?_⟩;unfold u6;unfold K9 gG J3
 repeat' (((conv=>whnf);apply bm<;>intro g))
 all_goals (conv=>whnf)
 all_goals (show Value.bool _=Value.bool _;congr 1;simp [aKd,aA,aC] at *;try omega)
theorem aZ {l:List Pt}{m:List Ed}{n:Int}(h:a8 l m n=true):cQ l m n=true:=by
 simp only [a8,eK,Bool.and_eq_true] at h;exact h.1.1
theorem aIb {b:Nat}{ρ:Nat→Nat}(hρ:∀ k,k<b→ρ k=k){v:Value}(hn:zR b v)(hi:iM id v=v):iM ρ v=v :=
 (D8 (ι:=kV id) (ι':=kV ρ) (n:=b) (fun k hk=>by show Loc.lay _ _ _=Loc.lay _ _ _;rw [hρ k hk];rfl) hn).trans hi
def edV (e:Ed):Value:=.agg #[iv e.a,iv e.b,iv e.l,iv e.r,iv e.n]
def bS (P:Ed→Bool)(m:List Ed):Nat→List Int
 |0=>[]
 |i+1=>if P (bO m i)=true then bS P m i++[(i:Int)] else bS P m i
theorem v5 {P:Ed→Bool}{m:List Ed}{i:Nat}(h:P (bO m i)=true):bS P m (i+1)=bS P m i++[(i:Int)]:=by
 show (if _ then _ else _)=_;rw [if_pos h]
theorem rC {P:Ed→Bool}{m:List Ed}{i:Nat}(h:P (bO m i)=false):bS P m (i+1)=bS P m i:=by
 show (if _ then _ else _)=_;rw [if_neg (by rw [h];decide)]
theorem mZ (P:Ed→Bool)(m:List Ed):∀ i,(bS P m i).length≤i
 |0=>Nat.le_refl _
 |i+1=>by
  have:=mZ P m i;unfold bS;split
  ·rw [List.length_append,List.length_singleton];omega
  omega
theorem HZ {a b:Nat}(h:a≤b){v:Value}(hv:zR a v):zR b v:=oW (ι:=kV id) (ι':=kV id) h (fun _ _=>rfl) hv
theorem aLj {L:List (Nat × Nat)}{b k:Nat}(hL:∀ p∈L,b≤p.1)(hk:k<b):rn L k=k:=by
 unfold rn;split
 ·rename_i q hq;have:=hL _ (aY hq);simp only at this;omega
 rfl
def aQp (cl:List (Nat × XF))(m:List Ed)(H0:Heap)(g:Nat)(cap:List Value)(P:Ed→Bool):Prop:=∀ i,i<m.length→∀ (h':Heap) (nx':Nat) (K:KE),(∀ k o,look H0 k=some o→look h' k=some o)→K (.bool (P (bO m i))) h' nx'→CX (look cl) g (edV (bO m i)::cap) h' nx' K
def PM (R:Heap)(nP:Nat)(m:List Ed)(nD nL c1 c2:Nat)(n:Int)(fo:Option (Nat × Nat)):Heap:=(0,.cells false false 1 (J3 4 5 1 2 6 nP m.length nD nL c1 c2 n fo))::(5,.cells false true bL.sz (flat bL.fl m))::R
def xT (g:Nat)(cap:List Value):Value:=.func (.func g) #[] cap.toArray
structure S92 (cl:List (Nat × XF)) (args0:List Value) (h0:Heap) (R:Heap) (nP:Nat) (m:List Ed) (nD nL c1 c2:Nat) (n:Int) (fo:Option (Nat × Nat)) (g:Nat) (cap:List Value) (P:Ed→Bool):Prop where
 ea:args0=[.pointer (some ⟨0,0,none⟩),xT g cap]
 eh:h0=PM R nP m nD nL c1 c2 n fo
 sm:m.length≤1000
 hok:yG h0 2000
 nmF:zR 2000 (xT g cap)
 renF:iM id (xT g cap)=xT g cap
 cp:mE cap=true
 clo:aQp cl m h0 g cap P
def T92 (cl:List (Nat × XF))(args0:List Value)(h0:Heap)(n0:Nat)(out:List Int)(e:Option Int):Prop :=
 ∃ R nP m nD nL c1 c2 n fo g cap P,S92 cl args0 h0 R nP m nD nL c1 c2 n fo g cap P∧n0=2000∧out=bS P m m.length∧e=none
def Z2 (F v:Value)(N c2:Nat)(j:Int):List (Nat × Value):=[(1,F),(5,v),(12,.slice (some ⟨5,0,none⟩) N c2),(13,iv N),(14,iv j)]
theorem w92 {cl:List (Nat × XF)}{args0:List Value}{h0:Heap}{n0:Nat}{out:List Int}{e:Option Int}(h:T92 cl args0 h0 n0 out e):body cl 61 args0 h0 n0 (Yields aT out e):=by
 obtain⟨R,nP,m,nD,nL,c1,c2,n,fo,g,cap,P,⟨rfl,rfl,sm,hok,nmF,renF,cp,clo⟩,rfl,rfl,rfl⟩:=h;have hN:∀ k,2000≤k→look (PM R nP m nD nL c1 c2 n fo) k=none:=fun k hk=>cH hok hk;have hrF:∀ L:List (Nat × Nat),(∀ p∈L,2000≤p.1)→iM (rn L) (xT g cap)=xT g cap:=fun L hL=>aIb (b:=2000) (fun k hk=>aLj hL hk) nmF renF;(conv=>whnf)
 refine⟨fun q e h nx=>∃ (i:Nat) (j:Int),j=i∧i≤m.length∧q=m.length - i ∧
  ((bS P m i=[]∧e=Z2 (xT g cap) (.slice none 0 0) m.length c2 j∧h=PM R nP m nD nL c1 c2 n fo∧nx=2000) ∨
   (0<(bS P m i).length∧e=Z2 (xT g cap) (.slice (some ⟨2000,0,none⟩) (bS P m i).length (bS P m i).length) m.length c2 j∧h=[(2000,.cells true false 1 (flat aT.fl (bS P m i)))]++PM R nP m nD nL c1 c2 n fo∧nx=2001)),⟨m.length,?_⟩,?_⟩
 ·refine cL (P:=[]) (W:=PM R nP m nD nL c1 c2 n fo) (e0:=Z2 (xT g cap) (.slice none 0 0) m.length c2 0) (n0:=2000) [] ⟨0,0,rfl,Nat.zero_le _,rfl,.inl ⟨rfl,rfl,rfl,rfl⟩⟩ ?_ hok (fun _ _ h=>h) (fun _ h=>by cases h) (fun _ h=>by cases h) (fun _ h=>by cases h) (by omega);unfold Z2;refine List.forall_mem_cons.2 ⟨⟨by rw [hrF _ (fun _ h=>by cases h)];rfl,nmF⟩,?_⟩;((repeat' refine iE rfl rfl ?_);exact iN)
 rintro q e h nx ⟨i,j,hj,hi,rfl,hx⟩;rcases hx with ⟨hnil,rfl,rfl,rfl⟩|⟨hpos,rfl,rfl,rfl⟩
 ·unfold Z2 PM;((conv=>whnf);apply bm<;>intro m1);rotate_left
  ·have hil:i=m.length:=(by simp [aA,aC] at m1;omega);(conv=>whnf);rw [hil] at hnil;rw [hnil];rfl
  have hil:i<m.length:=(by simp [aA,aC] at m1;omega);((conv=>whnf);apply bm<;>intro m2);rotate_left
  ·exfalso;simp [aA,aC] at m2;omega
  (conv=>whnf);refine n8 (C5 m (i:=i) hil ?_) ?_
  ·show _+Int.toNat j*5=_;omega
  (conv=>whnf);rw [show mE cap.toArray.toList=true from cp];(conv=>whnf);refine clo i hil _ _ _ (cK (aX (fun _ _ h=>h) (hN _ (by decide))) (hN _ (by decide))) ?_;((conv=>whnf);apply bm<;>intro p1);rotate_left
  ·have p1:P (bO m i)=false:=p1;have hf:bS P m (i+1)=[]:=(rC p1).trans hnil;((conv=>whnf);apply bm<;>intro m3)
   ·(conv=>whnf);refine⟨m.length - (i+1),by omega,?_⟩;refine cL (P:=[]) (W:=PM R nP m nD nL c1 c2 n fo) (e0:=Z2 (xT g cap) (.slice none 0 0) m.length c2 (j+1)) (n0:=2000) [] ⟨i+1,j+1,by omega,by omega,rfl,.inl ⟨hf,rfl,rfl,rfl⟩⟩ ?_ hok ?_ (fun _ h=>by cases h) (fun _ h=>by cases h) (fun _ h=>by cases h) (by omega)
    ·unfold Z2;refine List.forall_mem_cons.2 ⟨⟨by rw [hrF _ (fun _ h=>by cases h)];rfl,nmF⟩,?_⟩;((repeat' refine iE rfl rfl ?_);exact iN)
    exact cK (aX (fun _ _ h=>h) (hN _ (by decide))) (hN _ (by decide))
   exfalso;simp [aA,aC,aF] at m3;omega
  have p1:P (bO m i)=true:=p1;have hf:bS P m (i+1)=[j]:=(by rw [v5 p1,hnil,hj];rfl);((conv=>whnf);apply bm<;>intro m3);rotate_left
  ·exfalso;simp [aA,aC,aF] at m3;omega
  (conv=>whnf);refine⟨m.length - (i+1),by omega,?_⟩;refine cL (P:=[(2000,.cells true false 1 (flat aT.fl [j]))]) (W:=PM R nP m nD nL c1 c2 n fo) (e0:=Z2 (xT g cap) (.slice (some ⟨2000,0,none⟩) 1 1) m.length c2 (j+1)) (n0:=2001) [(2000,2002)] ⟨i+1,j+1,by omega,by omega,rfl,.inr ⟨?_,?_,?_,rfl⟩⟩ ?_ hok ?_ ?_ ?_ ?_ (by omega)
  ·rw [hf];exact Nat.one_pos
  ·rw [hf];rfl
  ·rw [hf];rfl
  ·unfold Z2;refine List.forall_mem_cons.2 ⟨⟨by rw [hrF _ (fun p h=>by rcases List.mem_cons.1 h with rfl|h;exact Nat.le_refl _;cases h)];rfl,HZ (by omega) nmF⟩,?_⟩;((repeat' refine iE rfl rfl ?_);exact iN)
  ·repeat' first
    |exact fun _ _ h=>h
    |(refine aX ?_ (hN _ (by decide)))
    |(refine cK ?_ (hN _ (by decide)))
  ·exact List.forall_mem_cons.2 ⟨⟨.inl ⟨Nat.le_of_ble_eq_true rfl,Nat.le_of_ble_eq_true rfl,Nat.le_of_ble_eq_true rfl⟩,_,rfl,bB (aD _ _) rfl⟩,fun _ h=>by cases h⟩
  ·show ∀ k∈[2000],∀ k'∈[2000],_;decide
  exact fun p h=>by rcases List.mem_cons.1 h with rfl|h;exact Nat.le_refl _;cases h
 unfold Z2 PM;have hlen:(flat aT.fl (bS P m i)).length=(bS P m i).length:=(by rw [bE];show _*1=_;omega);have hle:=mZ P m i;((conv=>whnf);apply bm<;>intro m1);rotate_left
 ·have hil:i=m.length:=(by simp [aA,aC] at m1;omega);(conv=>whnf);rw [show bS P m m.length=bS P m i by rw [← hil]];have:=mF aT (l:=bS P m i) (e:=none) (h:=[(2000,.cells true false 1 (flat aT.fl (bS P m i)))]++PM R nP m nD nL c1 c2 n fo) (q:=2000) (nx:=2001) hpos rfl;exact this
 have hil:i<m.length:=(by simp [aA,aC] at m1;omega);((conv=>whnf);apply bm<;>intro m2);rotate_left
 ·exfalso;simp [aA,aC] at m2;omega
 (conv=>whnf);refine n8 (C5 m (i:=i) hil ?_) ?_
 ·show _+Int.toNat j*5=_;omega
 (conv=>whnf);rw [show mE cap.toArray.toList=true from cp];(conv=>whnf);refine clo i hil _ _ _ (cK (aX (ext_cons (fun _ _ h=>h) (hN _ (by decide))) (hN _ (by decide))) (hN _ (by decide))) ?_;((conv=>whnf);apply bm<;>intro p1);rotate_left
 ·have p1:P (bO m i)=false:=p1;have hf:bS P m (i+1)=bS P m i:=rC p1;((conv=>whnf);apply bm<;>intro m3)
  ·(conv=>whnf);refine⟨m.length - (i+1),by omega,?_⟩;refine cL (P:=[(2000,.cells true false 1 (flat aT.fl (bS P m i)))]) (W:=PM R nP m nD nL c1 c2 n fo) (e0:=Z2 (xT g cap) (.slice (some ⟨2000,0,none⟩) (bS P m i).length (bS P m i).length) m.length c2 (j+1)) (n0:=2001) [] ⟨i+1,j+1,by omega,by omega,rfl,.inr ⟨?_,?_,?_,rfl⟩⟩ ?_ hok ?_ ?_ ?_ (fun _ h=>by cases h) (by omega)
   ·rw [hf];exact hpos
   ·rw [hf];rfl
   ·rw [hf];rfl
   ·unfold Z2;refine List.forall_mem_cons.2 ⟨⟨by rw [hrF _ (fun _ h=>by cases h)];rfl,HZ (by omega) nmF⟩,?_⟩;((repeat' refine iE rfl rfl ?_);exact iN)
   ·repeat' first
     |exact fun _ _ h=>h
     |(refine aX ?_ (hN _ (by decide)))
     |(refine cK ?_ (hN _ (by decide)))
     |(refine ext_cons ?_ (hN _ (by decide)))
   ·exact List.forall_mem_cons.2 ⟨⟨.inl ⟨Nat.le_of_ble_eq_true rfl,Nat.le_of_ble_eq_true rfl,Nat.le_of_ble_eq_true rfl⟩,_,rfl,aO (aD _ _)⟩,fun _ h=>by cases h⟩
   show ∀ k∈[2000],∀ k'∈[2000],_;decide
  exfalso;simp [aA,aC,aF] at m3;omega
 have p1:P (bO m i)=true:=p1;have hf:bS P m (i+1)=bS P m i++[j]:=(by rw [v5 p1,hj]);((conv=>whnf);apply bm<;>intro m4)
 ·exfalso;have:=Nat.le_of_ble_eq_true m4;omega
 ((conv=>whnf);apply bm<;>intro m5);rotate_left
 ·exact nN (s:=1) (by omega) (by omega) m5
 ((conv=>whnf);apply bm<;>intro m3);rotate_left
 ·exfalso;simp [aA,aC,aF] at m3;omega
 (conv=>whnf);refine⟨m.length - (i+1),by omega,?_⟩;refine cL (P:=[(2000,.cells true false 1 (flat aT.fl (bS P m i++[j])))]) (W:=PM R nP m nD nL c1 c2 n fo) (e0:=Z2 (xT g cap) (.slice (some ⟨2000,0,none⟩) ((bS P m i).length+1) ((bS P m i).length+1)) m.length c2 (j+1)) (n0:=2001) [(2000,2003)] ⟨i+1,j+1,by omega,by omega,rfl,.inr ⟨?_,?_,?_,rfl⟩⟩ ?_ hok ?_ ?_ ?_ ?_ (by omega)
 ·rw [hf,List.length_append];exact Nat.succ_pos _
 ·rw [hf,List.length_append];rfl
 ·rw [hf];rfl
 ·unfold Z2;refine List.forall_mem_cons.2 ⟨⟨by rw [hrF _ (fun p h=>by rcases List.mem_cons.1 h with rfl|h;exact Nat.le_refl _;cases h)];rfl,HZ (by omega) nmF⟩,?_⟩;((repeat' refine iE rfl rfl ?_);exact iN)
 ·exact aX (eH (aX (cK (aX (ext_cons (fun _ _ h=>h) (hN _ (by decide))) (hN _ (by decide))) (hN _ (by decide))) (hN _ (by decide))) (hN _ (by decide))) (hN _ (by decide))
 ·exact List.forall_mem_cons.2 ⟨⟨.inl ⟨Nat.le_of_ble_eq_true rfl,Nat.le_of_ble_eq_true rfl,Nat.le_of_ble_eq_true rfl⟩,_,rfl,bB (aD aT _) (fU aT (bS P m i) j rfl)⟩,fun _ h=>by cases h⟩
 ·show ∀ k∈[2000],∀ k'∈[2000],_;decide
 exact fun p h=>by rcases List.mem_cons.1 h with rfl|h;exact Nat.le_refl _;cases h
def X92 (cl:List (Nat × XF)):Nat × XF:=(61,yOf aT (T92 cl))
theorem x92 {cl:List (Nat × XF)}(h:lP cl):cO Go.Proofs.Tryz.prog (X92 cl).1 (X92 cl).2:=WX aT (aH h) fun _ _ _ _ _=>w92
section
variable {l:List Pt}{m:List Ed}{n:Int}
structure Hs (l:List Pt) (m:List Ed) (t:OP):Prop where
 seen:t.seen.length=2*m.length
 face:t.face.length=2*m.length
 cl:∀ i:Nat,i<2*m.length→cV t.seen i=true→cV t.seen (x6 (aQ l m m.length) (outs l m) i).toNat=true
 has:∀ f:Int,(1≤f∧f≤t.many)∨(f=0∧1≤t.out)→∃ i,i<2*m.length∧cV t.seen i=true∧aK t.face i=f
 low:0≤t.many
theorem xA {D:List Dt}{ls:List (List Int)}{d:Int}{t:Nat}(h:t<gU D ls d):aK (j8 D ls d) t=jI D ls d t:=by
 unfold j8 aK;rw [List.getD_eq_getElem?_getD,List.getElem?_map,List.getElem?_range h];rfl
theorem mH {D:List Dt}{ls:List (List Int)}{d:Int}:(j8 D ls d).length=gU D ls d:=by simp [j8]
theorem aHp (hok:cQ l m n=true){t:OP}(h:Hs l m t){d:Nat}(hd:d<2*m.length):Hs l m (iY l (aQ l m m.length) (outs l m) t d):=by
 unfold iY;cases hs:cV t.seen d with
 |true=>rw [if_pos rfl];exact h
 |false =>
  rw [if_neg (by decide)];simp only;have hin:=qE hok (d:=(d:Int)) (by omega) (by omega);have hT:jI (aQ l m m.length) (outs l m) d (gU (aQ l m m.length) (outs l m) d)=d:=by
   have hw:=List.all_eq_true.1 (uR hok) d (List.mem_range.2 (by rw [a9];exact hd));exact of_decide_eq_true hw
  have hT1:1≤gU (aQ l m m.length) (outs l m) d:=by
   have:=(gI (aQ l m m.length) (outs l m) d (aQ l m m.length).length 1).1;unfold gU;omega
  have hget:∀ k,k<gU (aQ l m m.length) (outs l m) d→aK (j8 (aQ l m m.length) (outs l m) d) k=jI (aQ l m m.length) (outs l m) d k:=fun k hk=>xA hk;have hlen:(j8 (aQ l m m.length) (outs l m) d).length=gU (aQ l m m.length) (outs l m) d:=mH;generalize j8 (aQ l m m.length) (outs l m) d=W at hget hlen ⊢;generalize gU (aQ l m m.length) (outs l m) d=T at *;have hr:∀ k,k<W.length→(aK W k).toNat<2*m.length:=fun k hk=>by
   rw [hget k (by omega)];have:=hin k;omega
  -- what was seen lies in no walk of what was not
  have hdis:∀ k,k<W.length→cV t.seen (aK W k).toNat=true→False:=fun k hk hsk=>by
   rw [hget k (by omega)] at hsk;have hf:∀ j,cV t.seen (jI (aQ l m m.length) (outs l m) d (k+j)).toNat=true:=by
    intro j
    induction j with
    |zero=>exact hsk
    |succ j ih =>
     have hi:=hin (k+j);have:=h.cl (jI (aQ l m m.length) (outs l m) d (k+j)).toNat (by omega) ih;rw [Int.toNat_of_nonneg hi.1] at this;exact this
   have:=hf (T - k);rw [show k+(T - k)=T by omega,hT,Int.toNat_natCast,hs] at this;cases this
  generalize B8 l (aQ l m m.length) W W.length=A;have hsee:∀ i,(∃ k,k<W.length∧(aK W k).toNat=i)→cV (fW t.seen W W.length) i=true:=fun i hi=>(oM t.seen W (by rw [h.seen];exact hr) i _ (Nat.le_refl _)).1 hi;have hkeep:∀ i,cV t.seen i=true→cV (fW t.seen W W.length) i=true:=fun i hi=>by
   by_cases e:∃ k,k<W.length∧(aK W k).toNat=i
   ·exact hsee i e
   rw [(oM t.seen W (by rw [h.seen];exact hr) i _ (Nat.le_refl _)).2 e];exact hi
  have hold:∀ (fc f:Int),(∃ i,i<2*m.length∧cV t.seen i=true∧aK t.face i=f)→∃ i,i<2*m.length∧cV (fW t.seen W W.length) i=true∧aK (dV t.face W fc W.length) i=f:=fun fc f ⟨i,a1,a2,a3⟩=>by
   refine⟨i,a1,hkeep i a2,?_⟩;rw [(oL t.face W fc (by rw [h.face];exact hr) i _ (Nat.le_refl _)).2 fun ⟨k,b1,b2⟩=>hdis k b1 (by rw [b2];exact a2)];exact a3
  have hd0:∃ k,k<W.length∧(aK W k).toNat=d:=⟨0,by omega,by rw [hget 0 (by omega)];rfl⟩;have hnew:∀ fc:Int,∃ i,i<2*m.length∧cV (fW t.seen W W.length) i=true∧aK (dV t.face W fc W.length) i=fc:=fun fc =>
   ⟨d,hd,hsee d hd0,(oL t.face W fc (by rw [h.face];exact hr) d _ (Nat.le_refl _)).1 hd0⟩
  refine⟨by rw [lW];exact h.seen,by rw [fR];exact h.face,fun i hi hsi=>?_,fun f hf=>?_,?_⟩
  ·by_cases e:∃ k,k<W.length∧(aK W k).toNat=i
   ·obtain⟨k,b1,b2⟩:=e;have hk:=hin k;rw [hget k (by omega)] at b2;have e2:(i:Int)=jI (aQ l m m.length) (outs l m) d k:=(by omega);rw [e2];show cV (fW t.seen W W.length) (jI (aQ l m m.length) (outs l m) d (k+1)).toNat=true;by_cases hl:k+1=T
    ·rw [hl,hT,Int.toNat_natCast];exact hsee d hd0
    exact hsee _ ⟨k+1,by omega,by rw [hget (k+1) (by omega)]⟩
   have:=hsi;rw [(oM t.seen W (by rw [h.seen];exact hr) i _ (Nat.le_refl _)).2 e] at this;exact hkeep _ (h.cl i hi this)
  ·have hlow:=h.low;by_cases hA:0<A
   ·simp only [if_pos hA] at hf ⊢;rcases hf with ⟨f1,f2⟩|f2
    ·by_cases e:f=t.many+1
     ·rw [e];exact hnew _
     exact hold _ f (h.has f (.inl ⟨f1,by omega⟩))
    exact hold _ f (h.has f (.inr f2))
   simp only [if_neg hA] at hf ⊢;rcases hf with f2|⟨f1,f2⟩
   ·exact hold _ f (h.has f (.inl f2))
   rw [f1];exact hnew 0
  have:=h.low;show 0≤if 0<A then t.many+1 else t.many
  split <;> omega
theorem WC (hok:cQ l m n=true):∀ d,d≤2*m.length→Hs l m (bW l (aQ l m m.length) (outs l m) d)
 |0,_=>by
  refine⟨by simp [bW,a9],by simp [bW,a9],fun i hi h=>?_,fun f hf=>?_,Int.le_refl 0⟩
  ·unfold bW cV at h;rw [List.getD_eq_getElem?_getD,List.getElem?_replicate,a9,if_pos hi] at h;cases h
  have hf:(1≤f∧f≤0)∨(f=0∧(1:Int)≤0):=hf;omega
 |d+1,h=>aHp hok (WC hok d (by omega)) (by omega)
theorem PX (x:Int):∀ (L:List Int) (i:Nat),(∃ k,k<L.length∧aK L k=x)→∃ k,k<L.length∧aK L k=x∧(∀ j,j<k→aK L j≠x)∧tE x L i=((i+k:Nat):Int)
 |[],i,⟨k,h,_⟩=>by cases h
 |b::r,i,⟨k,h1,h2⟩=>by
  unfold tE;by_cases e:x=b
  ·rw [if_pos e];exact⟨0,Nat.succ_pos _,e.symm,fun j hj=>absurd hj (Nat.not_lt_zero j),rfl⟩
  rw [if_neg e];cases k with
  |zero=>exact absurd h2.symm e
  |succ k =>
   obtain⟨q,a1,a2,a3,a4⟩:=PX x r (i+1) ⟨k,by simpa using h1,h2⟩;refine⟨q+1,by simpa using a1,a2,fun j hj=>?_,by rw [a4];congr 1;omega⟩;cases j with
   |zero=>exact fun hb=>e hb.symm
   |succ j=>exact a3 j (by omega)
theorem uI (ho:a8 l m n=true){f:Int}(h0:0≤f)(h1:f≤n):∃ k,k<2*m.length∧aK (c8 l m).face k=f∧(∀ j,j<k→aK (c8 l m).face j≠f)∧tE f (c8 l m).face 0=(k:Int):=by
 have ho':=ho;simp only [a8,eK,Bool.and_eq_true,decide_eq_true_eq] at ho';obtain⟨⟨hok,_⟩,_,hn,hmn,_⟩:=ho';have hs:=WC hok (2*m.length) (Nat.le_refl _);have e:bW l (aQ l m m.length) (outs l m) (2*m.length)=c8 l m:=(by unfold c8 nmD;rw [a9]);rw [e] at hs;simp only [yX,Bool.and_eq_true,decide_eq_true_eq] at hn;obtain⟨i,a1,a2,a3⟩:=hs.has f (by
  by_cases e0:f=0
  ·exact .inr ⟨e0,by omega⟩
  exact .inl ⟨by omega,by omega⟩)
 obtain⟨k,b1,b2,b3,b4⟩:=PX f (c8 l m).face 0 ⟨i,by rw [hs.face];exact a1,a3⟩;exact⟨k,by rw [hs.face] at b1;exact b1,b2,b3,by rw [b4,Nat.zero_add]⟩
end
def B9 (l:List Pt)(m:List Ed)(f:Int):List Int:=j8 (aQ l m m.length) (outs l m) (tE f (c8 l m).face 0)
theorem aOz {l:List Pt}{m:List Ed}{n f:Int}(ho:a8 l m n=true)(h0:0≤f)(h1:f≤n):∃ d:Int,tE f (c8 l m).face 0=d∧0≤d∧d<2*m.length∧xO l (aQ l m m.length) (outs l m)=true∧jI (aQ l m m.length) (outs l m) d (gU (aQ l m m.length) (outs l m) d)=d∧inR (aQ l m m.length) (j8 (aQ l m m.length) (outs l m) d)=true∧1≤(j8 (aQ l m m.length) (outs l m) d).length∧(j8 (aQ l m m.length) (outs l m) d).length≤2*m.length+1:=by
 obtain⟨k,b1,b2,b3,b4⟩:=uI ho h0 h1;have hok:=aZ ho;have hw:=List.all_eq_true.1 (uR hok) k (List.mem_range.2 (by rw [a9];exact b1));have w:=TZ (l:=l) (OL hok) (d:=k) (by rw [a9];exact b1);have p:=gI (aQ l m m.length) (outs l m) k (aQ l m m.length).length 1;refine⟨k,b4,by omega,by omega,OL hok,of_decide_eq_true hw,w.1,?_,?_⟩
 ·exact w.2.2
 have:=w.2.1;rw [a9] at this;exact this
def mRX (s:List Pt→List Ed→Int→List Value→Option (Bool × List Int × Option Int)):XF:=fun args h nx K=>∃ p q n r l m,args=mapA p q n::r∧jG bC h p l∧jG bL h q m ∧
 (match s l m n r with|some pr=>dQ pr.1 (S0 aT pr.2.1 pr.2.2 h nx K)|none=>False)
theorem V7 {P:Program}{C:VC}{f:Nat}{s:List Pt→List Ed→Int→List Value→Option (Bool × List Int × Option Int)}(hC:bF P C)
  (hs:∀ l m n r out e,s l m n r=some (true,out,e)→eX r=true∧∀ c1 c2,C f (kI l.length m.length c1 c2 n::r) (aL bC bL l m) 2 (Yields aT out e)):cO P f (mRX s):=by
 refine (WX aT (T:=fun args0 h0 n0 out e=>C f args0 h0 n0 (Yields aT out e)) hC ?_).mono ?_ ?_
 ·rintro args0 h0 n0 out e hc;exact hc
 ·rintro args h nx K ⟨p,q,n,r,l,m,rfl,hl,hm,hx⟩;split at hx
  case h_2=>exact hx.elim
  rename_i pr e1;obtain⟨bb,out,e⟩:=pr;obtain⟨rfl,hx⟩:=aE.1 hx;obtain⟨a1,a3⟩:=hs l m n r out e e1;obtain⟨c1,c2,i⟩:=NY (n:=n) (nx:=nx) bC bL a1 hl hm;exact NU aT (a3 c1 c2) i hx
 rintro args h nx K ⟨p,q,n,r,l,m,rfl,hl,hm,hx⟩;split at hx
 case h_2=>exact hx.elim
 rename_i pr e1;obtain⟨bb,out,e⟩:=pr;obtain⟨hb,hx⟩:=aE.1 hx;cases out with
 |nil=>exact⟨_,_,_,hx,fun K' hk'=>⟨p,q,n,r,l,m,rfl,hl,hm,by rw [e1];exact aI hb hk'⟩⟩
 |cons a t=>exact⟨_,_,_,hx,fun K' hk'=>⟨p,q,n,r,l,m,rfl,hl,hm,by rw [e1];exact aI hb hk'⟩⟩
theorem aAM {l:List Pt}{m:List Ed}{c1 c2 b:Nat}{n:Int}{cs:List Value}(hc:dP cs=true):yG (eP (bT (bT (bT (aL bC bL l m) 2 (.cells true false 1 [.slice (some ⟨0,0,none⟩) l.length c1,.slice (some ⟨1,0,none⟩) m.length c2,iv n])) 3 (.cells true false 1 cs)) 4 (.cells true false 1 [.slice (some ⟨0,0,none⟩) l.length c1,.slice (some ⟨1,0,none⟩) m.length c2,iv n]))) (b+5):=by
 have hb:∀ {b},5≤b→bZ id b (.cells true false 1 [.slice (some ⟨0,0,none⟩) l.length c1,.slice (some ⟨1,0,none⟩) m.length c2,iv n]) (.cells true false 1 [.slice (some ⟨0,0,none⟩) l.length c1,.slice (some ⟨1,0,none⟩) m.length c2,iv n]):=fun {b} h =>
  ⟨rfl,rfl,rfl,rfl,List.forall_mem_cons.2 ⟨⟨Nat.lt_of_lt_of_le (by decide:0<5) h,fun h=>by cases h⟩,List.forall_mem_cons.2 ⟨⟨Nat.lt_of_lt_of_le (by decide:1<5) h,fun h=>by cases h⟩,List.forall_mem_cons.2 ⟨cN rfl,fun _ h=>(by cases h)⟩⟩⟩⟩
 refine I8 ?_ rfl;exact bG (bG (bG (bG (bG (fun k o hk=>by cases hk) (by omega) (aO (aD _ _))) (by omega) (aO (aD _ _))) (by omega) (hb (by omega))) (by omega) (aO hc)) (by omega) (hb (by omega))
theorem aDQ {nx:Nat}{l:List Pt}{m:List Ed}{c1 c2:Nat}{n:Int}(hl:l.length≤1000):yG (wN nx l m c1 c2 n (wTb nx l m) (wT nx l m)) (nx+2004):=by
 rw [← XV];exact UJ (n:=nx) (W:=hF0 l m c1 c2 n) (b:=2004) (fun k o hk=>NI hl k o (PD k o hk)) (CS 3 tL)
def H5 (l:List Pt)(m:List Ed)(n:Int)(c1 c2:Nat)(cs:List Value):Heap :=
 app (eP (bT (bT (bT (aL bC bL l m) 2 (.cells true false 1 [.slice (some ⟨0,0,none⟩) l.length c1,.slice (some ⟨1,0,none⟩) m.length c2,iv n])) 3 (.cells true false 1 cs)) 4 (.cells true false 1 [.slice (some ⟨0,0,none⟩) l.length c1,.slice (some ⟨1,0,none⟩) m.length c2,iv n]))) (wN 5 l m c1 c2 n (wTb 5 l m) (wT 5 l m))
theorem NV {l:List Pt}{m:List Ed}{n:Int}{c1 c2:Nat}{cs:List Value}(hl:l.length≤1000)(hc:dP cs=true):yG (H5 l m n c1 c2 cs) 2009:=O7 (aAM (b:=2004) hc) (aDQ (nx:=5) hl)
theorem aO5 {l:List Pt}{m:List Ed}{n:Int}{c1 c2:Nat}{cs:List Value}(ho:a8 l m n=true)(hs:l.length≤1000∧m.length≤1000):WA (H5 l m n c1 c2 cs) 12 l m n :=
 aEQ (nx:=5) (aIw (nx:=5) ho hs) (fun k hk=>Z0 hs.1 (.inl hk)) rfl
theorem aA4 {l:List Pt}{m:List Ed}{n:Int}{c1 c2:Nat}{cs:List Value}(hl:l.length≤1000){k:Nat}(hk:2009≤k):look (H5 l m n c1 c2 cs) k=none:=ZU (nx:=5) rfl (by omega) (Z0 hl (.inr hk))
theorem fQ {v:Value}{H' h:Heap}{b n0 nx:Nat}(hv:iM id v=v)(hn:zR n0 v)(hh:∀ k o,look H' k=some o→look h k=some o)(hok:yG H' n0)(hb:b≤n0):∃ ρ,lQ b ρ [(0,v)] H' n0 [(0,v)] h nx:=by
 refine⟨id,fun t u hu=>?_,fun k o hk=>⟨(hok k o hk).1,o,hh k o hk,(hok k o hk).2⟩,fun _ _ _ _ _ _ e=>e,fun _ _=>rfl,hb⟩;have hm:=aY hu;simp only [List.mem_cons,List.not_mem_nil,or_false] at hm;injection hm with e1 e2;subst e1 e2;rw [hv];exact⟨rfl,hn⟩
def bx1 (a:Int):bV:=.cells false true 1 [iv a]
abbrev pV (k:Nat):Value:=.pointer (some ⟨k,0,none⟩)
theorem aKr {R:Heap}{nP:Nat}{m:List Ed}{nD nL c1 c2:Nat}{n:Int}{fo:Option (Nat × Nat)}(h:yG R 2000):yG (PM R nP m nD nL c1 c2 n fo) 2000:=by
 refine bG (bG h (by decide) (aO (aD _ _))) (by decide) ?_;refine aDd ?_;exact List.forall_mem_cons.2 ⟨⟨rfl,oH rfl⟩,List.forall_mem_cons.2 ⟨⟨rfl,oH rfl⟩,List.forall_mem_cons.2 ⟨⟨rfl,oH rfl⟩,List.forall_mem_cons.2 ⟨⟨rfl,oH rfl⟩,List.forall_mem_cons.2 ⟨⟨rfl,oH rfl⟩,List.forall_mem_cons.2 ⟨⟨by cases fo <;> rfl,by cases fo <;> exact oH rfl⟩,fun _ h=>by cases h⟩⟩⟩⟩⟩⟩
theorem aEw {α:Type}{E:El α}{out:List α}{e:Option Int}{h:Heap}{nx:Nat}{K:KE}(hx:S0 E out e h nx K):∃ v h' nx',K v h' nx'∧∀ K':KE,K' v h' nx'→S0 E out e h nx K':=by
 cases out with
 |nil=>exact⟨_,_,_,hx,fun K' hk=>hk⟩
 |cons a t=>exact⟨_,_,_,hx,fun K' hk=>hk⟩
def oF (l:List Pt)(x:Int)(e:Ed):Bool:=decide ((eF l e.a).1≤x)&&decide (x<(eF l e.b).1)
def aDg:Nat × XF:=(103,fun args h nx K=>∃ e p q l m x,args=[edV e]++[.pointer (some ⟨p,0,none⟩),.pointer (some ⟨q,0,none⟩)]∧ZE h p q l m x∧(0≤e.a∧e.a<l.length∧0≤e.b∧e.b<l.length)∧K (.bool (oF l x e)) h nx)
theorem aN1:cO Go.Proofs.Tryz.prog aDg.1 aDg.2:=by
 refine (gO (S:=fun args0 h0 n0 v1 h1 j=>∃ e l m x c0 c1 F,(0≤e.a∧e.a<l.length∧0≤e.b∧e.b<l.length)∧args0=[edV e]++[.pointer (some ⟨0,0,none⟩),.pointer (some ⟨2,0,none⟩)]∧h0=aHM l m x c0 c1 F∧n0=5∧v1=.bool (oF l x e)∧h1=[]∧j=0) (aH (xl:=[]) .nil) ?_).mono ?_ ?_
 ·rintro args0 h0 n0 v1 h1 j ⟨e,l,m,x,c0,c1,F,he,rfl,rfl,rfl,rfl,rfl,rfl⟩;refine⟨rfl,fun u _ _=>u=.bool (oF l x e),?_,fun v h nx e=>by rw [e];exact lA rfl⟩;obtain⟨a,b,c,d,g⟩:=e;simp only at he;unfold edV;((conv=>whnf);apply bm<;>intro m1);rotate_left
  ·exfalso;simp [aA,aC] at m1;omega
  (conv=>whnf);refine iU (MH l (i:=a.toNat) (by omega) ?_) ?_
  ·show _+Int.toNat a*2+0=_;omega
  ((conv=>whnf);apply bm<;>intro m2)
  ·((conv=>whnf);apply bm<;>intro m3)
   ·(conv=>whnf);refine iU (MH l (i:=b.toNat) (by omega) ?_) ?_
    ·show _+Int.toNat b*2+0=_;omega
    (conv=>whnf);have m2:(fA l a.toNat).1≤x:=(by simpa [aA,aC] using m2);show Value.bool (decide (x<(fA l b.toNat).1))=Value.bool (decide ((fA l a.toNat).1≤x)&&decide (x<(fA l b.toNat).1));rw [decide_eq_true m2,Bool.true_and]
   exfalso;simp [aA,aC] at m3;omega
  (conv=>whnf);have m2:¬ (fA l a.toNat).1≤x:=(by simpa [aA,aC] using m2);show Value.bool false=Value.bool (decide ((fA l a.toNat).1≤x)&&decide (x<(fA l b.toNat).1));rw [decide_eq_false m2,Bool.false_and]
 ·rintro args h nx K ⟨e,p,q,l,m,x,rfl,hd,he,hk⟩;obtain⟨c0,c1,F,i⟩:=aEW (nx:=nx) hd (r:=[edV e]) rfl;exact⟨_,_,5,_,[],0,⟨e,l,m,x,c0,c1,F,he,rfl,rfl,rfl,rfl,rfl,rfl⟩,i,hk⟩
 rintro args h nx K ⟨e,p,q,l,m,x,rfl,hd,he,hk⟩;exact⟨_,_,_,hk,fun K' hk'=>⟨e,p,q,l,m,x,rfl,hd,he,hk'⟩⟩
theorem aFV {P:Program}{f:Nat}{x y:XF}(hx:cO P f x)(hy:cO P f y):cO P f (fun args h nx K=>x args h nx K∨y args h nx K):=by
 refine⟨fun args h nx K hk=>?_,fun args h nx K hk=>?_⟩
 ·rcases hk with hk|hk
  ·exact hx.1 args h nx K hk
  exact hy.1 args h nx K hk
 ·rcases hk with hk|hk
  ·obtain⟨v,h',n',a,b⟩:=hx.2 args h nx K hk;exact⟨v,h',n',a,fun K' hk'=>.inl (b K' hk')⟩
  obtain⟨v,h',n',a,b⟩:=hy.2 args h nx K hk;exact⟨v,h',n',a,fun K' hk'=>.inr (b K' hk')⟩
def nlX (r:List Value):XF:=fun args h nx K=>∃ p q,args=.slice none 0 0::(r++[lV (.cols [] [] 0) (p,q)])∧K (.tuple #[]) h nx
theorem N7 {C:VC}{f:Nat}{r:List Value}(hr:eX r=true)(hC:bF Go.Proofs.Tryz.prog C)(hs:C f (.slice none 0 0::(r++[lV (.cols [] [] 0) (0,1)])) [] 2 (fun v h _=>v=.tuple #[])):cO Go.Proofs.Tryz.prog f (nlX r):=by
 refine (gO (S:=fun args0 h0 n0 v1 h1 j=>args0=.slice none 0 0::(r++[lV (.cols [] [] 0) (0,1)])∧h0=[]∧n0=2∧v1=.tuple #[]∧h1=[]∧j=0) hC ?_).mono ?_ ?_
 ·rintro args0 h0 n0 v1 h1 j ⟨rfl,rfl,rfl,rfl,rfl,rfl⟩;exact⟨rfl,_,hs,fun v h nx e=>by rw [e];exact lA rfl⟩
 ·rintro args h nx K ⟨p,q,rfl,hk⟩;refine⟨_,_,2,_,[],0,⟨rfl,rfl,rfl,rfl,rfl,rfl⟩,tB (fun k=>if k=0 then p else q) ?_ ?_ (fun k o hk=>bX hk),?_⟩
  ·rw [List.map_cons,List.map_append,show r.map (iM (fun k=>if k=0 then p else q))=r from by
    conv=>rhs;rw [← List.map_id r]
    exact List.map_congr_left fun v hv=>gE (cD hr hv)]
   simp [lV,WB,iM,tr,eM,cC,nO,eN,kV]
  ·intro v hv;rcases List.mem_cons.1 hv with rfl|hv
   ·exact cG rfl
   ·rcases List.mem_append.1 hv with hv|hv
    ·exact cG (cD hr hv)
    simp only [List.mem_cons,List.not_mem_nil,or_false] at hv;subst hv;exact oJ rfl
  simp only [pT,uG,oD,lY,gE (v:=.tuple #[]) rfl,Nat.add_zero];exact hk
 rintro args h nx K ⟨p,q,rfl,hk⟩;exact⟨_,_,_,hk,fun K' hk'=>⟨p,q,rfl,hk'⟩⟩
def aEJ:Nat × XF:=(186,nlX [iv 0,iv 0])
theorem aMU:cO Go.Proofs.Tryz.prog aEJ.1 aEJ.2:=N7 rfl (m7 (xl:=[]) .nil 3) (by
 repeat' (((conv=>whnf);apply bm<;>intro g))
 all_goals (conv=>whnf))
def aEc:Nat × XF:=(173,nlX [iv 0])
theorem aOE:cO Go.Proofs.Tryz.prog aEc.1 aEc.2:=N7 rfl (m7 (xl:=[aEJ]) (.cons aMU .nil) 3) (by
 repeat' (((conv=>whnf);apply bm<;>intro g))
 all_goals (conv=>whnf)
 all_goals exact⟨0,1,rfl,by
  repeat' (((conv=>whnf);apply bm<;>intro g))
  all_goals (conv=>whnf)⟩)
def aFh:Nat × XF:=(155,nlX [])
theorem aMR:cO Go.Proofs.Tryz.prog aFh.1 aFh.2:=N7 rfl (m7 (xl:=[aEc]) (.cons aOE .nil) 3) (by
 (conv=>whnf);exact⟨0,1,rfl,by (conv=>whnf)⟩)
def aJe:Nat × XF:=(104,nlX [])
theorem aOu:cO Go.Proofs.Tryz.prog aJe.1 aJe.2:=N7 rfl (m7 (xl:=[aFh]) (.cons aMR .nil) 3) (by
 (conv=>whnf);exact⟨0,1,rfl,by (conv=>whnf)⟩)
def YF:Nat × XF:=(104,fun args h nx K=>TV (G6 1000) args h nx K∨nlX [] args h nx K)
theorem aO0:cO Go.Proofs.Tryz.prog YF.1 YF.2:=aFV (aCY 1000) aOu
def iB (l:List Pt)(m:List Ed)(x:Int):List Int:=pP (.cols l m x) 1000 (bS (oF l x) m m.length)
theorem OT (P:Ed→Bool)(m:List Ed):∀ i,i≤m.length→∀ y∈bS P m i,0≤y∧y<m.length
 |0,_,y,hy=>by cases hy
 |i+1,hi,y,hy=>by
  unfold bS at hy;split at hy
  ·rcases List.mem_append.1 hy with h|h
   ·exact OT P m i (by omega) y h
   rw [List.mem_singleton.1 h];omega
  exact OT P m i (by omega) y hy
def H73 (l:List Pt)(m:List Ed)(nD nL c1 c2:Nat)(n:Int)(fo:Option (Nat × Nat)):Heap:=PM [(4,.cells false true bC.sz (flat bC.fl l))] l.length m nD nL c1 c2 n fo
def T73 (args0:List Value)(h0:Heap)(n0:Nat)(out:List Int)(e:Option Int):Prop :=
 ∃ l m x nD nL c1 c2 n fo,args0=[pV 0,iv x]∧h0=H73 l m nD nL c1 c2 n fo∧n0=2000∧out=iB l m x∧e=none∧kS l m=true∧l.all aM=true∧okX x=true
def aH1:List (Nat × XF):=[aDg]
theorem aIf:lP aH1:=.cons aN1 .nil
def aNq (k:Nat):Nat:=if k=7 then 2000 else if k=8 then 2001 else k
def R73 (l:List Pt)(x:Int):Heap:=[(7,.cells false false 1 [pV 0]),(8,bx1 x),(4,.cells false true bC.sz (flat bC.fl l))]
theorem aHn {l:List Pt}{x:Int}:yG (R73 l x) 2000:=bG (bG (bG (fun k o hk=>by cases hk) (by decide) (aO (aD _ _))) (by decide) (aO rfl)) (by decide) ⟨rfl,rfl,rfl,rfl,dT rfl⟩
attribute [local irreducible] yOf in
theorem w73 {args0:List Value}{h0:Heap}{n0:Nat}{out:List Int}{e:Option Int}(h:T73 args0 h0 n0 out e):body [X92 aH1,YF] 59 args0 h0 n0 (Yields aT out e):=by
 obtain⟨l,m,x,nD,nL,c1,c2,n,fo,rfl,rfl,rfl,rfl,rfl,hM,hR,hX⟩:=h;have hm:m.length≤1000:=(by simp only [kS,Bool.and_eq_true,decide_eq_true_eq] at hM;exact hM.1.2);have hfl:=mZ (oF l x) m m.length;have hfi:=OT (oF l x) m m.length (Nat.le_refl _);unfold H73 PM;(conv=>whnf);refine NU aT (T:=T92 aH1) (l:=bS (oF l x) m m.length) (e:=none) (args0:=[pV 0,xT 103 [pV 7,pV 8]]) (h0:=PM (R73 l x) l.length m nD nL c1 c2 n fo) (n0:=2000) ⟨R73 l x,l.length,m,nD,nL,c1,c2,n,fo,103,[pV 7,pV 8],oF l x,⟨rfl,rfl,hm,aKr aHn,oJ rfl,by simp [xT,iM,tr,eM,cC,nO,eN,kV],rfl,?_⟩,rfl,rfl,rfl⟩ ?_ ?_
 ·intro i hi h' nx' K hs hk;have he:=pL hM hi;refine⟨bO m i,7,8,l,m,x,rfl,⟨0,4,5,_,_,_,_,_,_,_,_,_,_,_,_,_,_,_,_,_,_,_,_,_,_,_,hs 7 _ rfl,hs 0 _ rfl,⟨hs 4 _ rfl,List.take_length⟩,⟨hs 5 _ rfl,List.take_length⟩,hs 8 _ rfl⟩,he,hk⟩
 ·refine tB aNq ?_ ?_ fun k o hk=>?_
  ·simp [xT,iM,tr,eM,cC,nO,eN,kV,aNq,pV]
  ·exact List.forall_mem_cons.2 ⟨oJ rfl,List.forall_mem_cons.2 ⟨oJ rfl,fun _ h=>by cases h⟩⟩
  unfold PM R73 at hk;rw [aB] at hk;split at hk
  ·rename_i hq;injection hk with hk;subst hk;rw [← beq_true hq]
   exact⟨by decide,false,1,_,rfl,by decide,(fun h=>by cases h),by cases fo <;> exact dT rfl,_,_,_,_,rfl,by cases fo <;> rfl⟩
  rw [aB] at hk;split at hk
  ·rename_i hq;injection hk with hk;subst hk;rw [← beq_true hq]
   exact⟨by decide,true,bL.sz,_,rfl,by decide,fun _=>aD bL m,fun v hv=>cN (aW (aD bL m) hv),_,_,_,_,rfl,by rw [List.take_length];exact (bJ (aD bL m)).symm⟩
  rw [aB] at hk;split at hk
  ·rename_i hq;injection hk with hk;subst hk;rw [← beq_true hq]
   exact⟨by decide,false,1,_,rfl,by decide,(fun h=>by cases h),dT rfl,_,_,_,_,rfl,rfl⟩
  rw [aB] at hk;split at hk
  ·rename_i hq;injection hk with hk;subst hk;rw [← beq_true hq]
   exact⟨by decide,true,1,_,rfl,by decide,(fun _=>rfl),dT rfl,_,_,_,_,rfl,rfl⟩
  rw [aB] at hk;split at hk
  ·rename_i hq;injection hk with hk;subst hk;rw [← beq_true hq]
   exact⟨by decide,true,bC.sz,_,rfl,by decide,fun _=>aD bC l,fun v hv=>cN (aW (aD bC l) hv),_,_,_,_,rfl,by rw [List.take_length];exact (bJ (aD bC l)).symm⟩
  exact bX hk
 have hc:iB l m x=pP (.cols l m x) 1000 (bS (oF l x) m m.length):=rfl;generalize bS (oF l x) m m.length=O at *;cases O with
 |nil =>
  have hn:iB l m x=[]:=List.eq_nil_of_length_eq_zero (by rw [hc,rO];rfl);rw [hn];(conv=>whnf);refine .inr ⟨2000,2001,rfl,?_⟩;(conv=>whnf)
 |cons a t =>
  (conv=>whnf);refine .inl ⟨2002,_,[],(2000,2001),a::t,.cols l m x,rfl,rfl,?_,?_,?_⟩
  ·exact aGr rfl
  ·exact⟨0,4,5,_,_,_,_,_,_,_,_,_,_,_,_,_,_,_,_,_,_,_,_,_,_,_,rfl,rfl,⟨rfl,List.take_length⟩,⟨rfl,List.take_length⟩,rfl⟩
  have h1:(a::t).length≤1000:=(by omega);have h3:sE (.cols l m x) (a::t)=true:=List.all_eq_true.2 fun y hy=>by
   have:=hfi y hy;show (decide (0≤y)&&decide (y<(m.length:Int)))=true;rw [decide_eq_true this.1,decide_eq_true this.2];rfl
  have h4:pO (.cols l m x)=true:=by
   show (kS l m&&l.all aM&&okX x)=true;rw [hM,hR,hX];rfl
  refine aI (show (decide ((a::t).length≤1000)&&decide ((a::t).length≤1000000)&&sE (.cols l m x) (a::t)&&pO (.cols l m x))=true by rw [h3,h4,decide_eq_true h1,decide_eq_true (show (a::t).length≤1000000 by omega)];rfl) ?_;have hl:(pP (.cols l m x) 1000 (a::t)).length=(a::t).length:=rO _ _ _;rw [hc];generalize pP (.cols l m x) 1000 (a::t)=S at *;have hS:0<S.length:=(by rw [hl];exact Nat.succ_pos _);rw [← hl];(conv=>whnf);exact mF aT (l:=S) (e:=none) (q:=2002) (nx:=2003) hS rfl
def voS (l:List Pt)(m:List Ed)(n:Int):List Value→Option (Bool × Value)
 |[]=>some (decide (l.length≤1000)&&decide (m.length≤1000),.bool (a8 l m n))
 |_=>none
def aDl:Nat × XF:=(50,mX bC bL voS)
theorem aM9:cO Go.Proofs.Tryz.prog aDl.1 aDl.2:=by
 have e:voS=vaS:=by
  funext l m n r;cases r with
  |nil=>show some (_,Value.bool (a8 l m n))=some (_,Value.bool (NB l m n));rw [aFq]
  |cons a r=>rfl
 show cO _ 50 (mX bC bL voS);rw [e];exact aPO
def X85:Nat × XF:=(57,mX bC bL (sMD fun l m n f=>(true,.bool (u6 n f))))
theorem x85:cO Go.Proofs.Tryz.prog X85.1 X85.2:=mV bC bL (aH (xl:=[]) .nil) fun l m n r v hs=>by
 obtain⟨f,rfl,_,rfl⟩:=wY hs;refine⟨rfl,rfl,fun c1 c2=>?_⟩;unfold u6;((conv=>whnf);apply bm<;>intro h1)
 ·have h1:decide (0≤f)=true:=by
   have h1:(decide (0≤f) == true)=true:=h1;simpa using h1
  (conv=>whnf);rw [h1,Bool.true_and];rfl
 have h1:decide (0≤f)=false:=by
  have h1:(decide (0≤f) == true)=false:=h1;simpa using h1
 (conv=>whnf);rw [h1,Bool.false_and]
def fcI (m:List Ed)(d:Int):Int:=if d % 2=0 then (bO m (d / 2).toNat).l else (bO m (d / 2).toNat).r
def aKF:Nat × XF:=(154,mX bC bL (sMD fun l m n d=>(nB m d,iv (fcI m d))))
theorem aPj:cO Go.Proofs.Tryz.prog aKF.1 aKF.2:=mV bC bL (aH (xl:=[]) .nil) fun l m n r v hs=>by
 obtain⟨d,rfl,hd,rfl⟩:=wY hs;simp only [nB,Bool.and_eq_true,decide_eq_true_eq] at hd;have q1:d.tdiv 2=d / 2:=Int.tdiv_eq_ediv_of_nonneg hd.1.1;have q2:d.tmod 2=d % 2:=Int.tmod_eq_emod_of_nonneg hd.1.1;refine⟨rfl,rfl,fun c1 c2=>?_⟩;((conv=>whnf);apply bm<;>intro h4)
 ·have h4:decide (d.tmod 2=0)=true:=h4;simp only [q2,decide_eq_true_eq] at h4;((conv=>whnf);apply bm<;>intro h1)
  ·((conv=>whnf);apply bm<;>intro h2)
   ·(conv=>whnf);refine iU (H7 m 2 (i:=(d / 2).toNat) (by omega) rfl (by decide) ?_) ?_
    ·show _+Int.toNat (d.tdiv 2)*5+2=_;rw [q1];omega
    (conv=>whnf);simp only [fcI,if_pos h4]
   exfalso;simp only [aA,aC,q1] at h2;simp at h2;omega
  exfalso;simp only [aA,aC,q1,aF] at h1;simp at h1;omega
 have h4:decide (d.tmod 2=0)=false:=h4;simp only [q2,decide_eq_false_iff_not] at h4;((conv=>whnf);apply bm<;>intro h1)
 ·((conv=>whnf);apply bm<;>intro h2)
  ·(conv=>whnf);refine iU (H7 m 3 (i:=(d / 2).toNat) (by omega) rfl (by decide) ?_) ?_
   ·show _+Int.toNat (d.tdiv 2)*5+3=_;rw [q1];omega
   (conv=>whnf);simp only [fcI,if_neg h4]
  exfalso;simp only [aA,aC,q1] at h2;simp at h2;omega
 exfalso;simp only [aA,aC,q1,aF] at h1;simp at h1;omega
theorem aFU {l:List Pt}{m:List Ed}{n:Int}(ho:a8 l m n=true){k:Nat}(hk:k<2*m.length):fcI m k=aK (c8 l m).face k:=by
 simp only [a8,eK,Bool.and_eq_true,decide_eq_true_eq] at ho;have h:=eG ho.2.2.2.2 (i:=k / 2) (by omega);simp only [E3,Bool.and_eq_true,decide_eq_true_eq] at h;unfold fcI;by_cases e:(k:Int) % 2=0
 ·rw [if_pos e,show ((k:Int) / 2).toNat=k / 2 by omega,h.1,show 2*(k / 2)=k by omega]
 rw [if_neg e,show ((k:Int) / 2).toNat=k / 2 by omega,h.2,show 2*(k / 2)+1=k by omega]
theorem US {PL PL':Nat→Option fS}(h:∀ r,PL' r=none∨PL' r=PL r)(b:Code):dC PL b=true→dC PL' b=true:=by
 induction b with
 |region id ops draw =>
  intro hp;cases draw with
  |false=>rfl
  |true =>
   unfold dC at hp ⊢;rcases h id with e|e
   ·rw [e]
   rw [e];exact hp
 |seq a b iha ihb =>
  intro hp;simp only [dC,Bool.and_eq_true] at hp ⊢;exact⟨iha hp.1,ihb hp.2⟩
 |cond c a b iha ihb =>
  intro hp;simp only [dC,Bool.and_eq_true] at hp ⊢;exact⟨iha hp.1,ihb hp.2⟩
 |block id b ih=>intro hp;simp only [dC] at hp ⊢;exact ih hp
 |loop b ih=>intro hp;simp only [dC] at hp ⊢;exact ih hp
 |scope b ih=>intro hp;simp only [dC] at hp ⊢;exact ih hp
 |_=>intro _;rfl
def XS (f r:Nat):Bool:=(Nat.beq f 99&&Nat.beq r 5) || (Nat.beq f 999&&Nat.beq r 4) || (Nat.beq f 999&&Nat.beq r 4)
def W3:EP:={ aA with PL:=fun f r=>match XS f r with|true=>none|false=>aA.PL f r }
theorem aGG:qH Go.Proofs.Tryz.prog W3 where
 ar:=eL.ar
 tab:=eL.tab
 mixed:=eL.mixed
 funcs:=fun f fn h=>by
  obtain⟨a,b,c⟩:=eL.funcs f fn h;refine⟨a,b,fun bd hb=>US (PL:=aA.PL f) (fun r=>?_) bd (c bd hb)⟩;show (match XS f r with|true=>none|false=>aA.PL f r)=none∨(match XS f r with|true=>none|false=>aA.PL f r)=aA.PL f r;cases XS f r
  ·exact .inr rfl
  exact .inl rfl
 xs:=eL.xs
def aNz (xl:List (Nat × XF)):VC:=tT W3 none (CX (look xl)) noY
theorem SZ {xl:List (Nat × XF)}(h:lP xl):bF Go.Proofs.Tryz.prog (aNz xl):=vI aGG (SB h.look) MU (HC h.look) BK none
def wkR (l:List Pt)(m:List Ed)(n:Int):List Value→YS Int
 |[.int .i64 f]=>some (a8 l m n&&u6 n f,B9 l m f,[])
 |_=>none
def e86 (f j:Int):List (Nat × Value):=[(1,iv f),(2,.pointer (some ⟨2,0,none⟩)),(5,iv j)]
def aKO:Nat × XF:=(99,mYX bC bL aT wkR)
theorem aQ2:cO Go.Proofs.Tryz.prog aKO.1 aKO.2:=W5 bC bL aT (SZ (xl:=[aGQ,ZL,aKF]) (.cons aN5 (.cons aIS (.cons aPj .nil)))) fun l m n r out rest hs=>by
 have:∃ f,r=[iv f]∧a8 l m n=true∧u6 n f=true∧out=B9 l m f∧rest=[]:=by
  unfold wkR at hs;split at hs
  ·injection hs with hs;injection hs with h1 h2;injection h2 with h2 h3;simp only [Bool.and_eq_true] at h1;exact⟨_,rfl,h1.1,h1.2,h2.symm,h3.symm⟩
  ·cases hs
 obtain⟨f,rfl,ho,hb,rfl,rfl⟩:=this;clear hs;have hb2:=hb;simp only [u6,Bool.and_eq_true,decide_eq_true_eq] at hb2;have hlst:=aZ ho;obtain⟨hM,h3,h1l,h400,m400,_,_⟩:=cZ hlst;have hp:eK l m n=true:=(by simp only [a8,Bool.and_eq_true] at ho;exact ho.1);obtain⟨k,b1,b2,b3,b4⟩:=uI ho hb2.1 hb2.2;have hfw:B9 l m f=kA l m (List.replicate (2*m.length) true) k:=by
  unfold B9;rw [b4,QP hp b1]
 refine⟨rfl,rfl,fun c1 c2=>?_⟩;rw [hfw];(conv=>whnf);refine⟨fun q e h nx=>∃ (i:Nat) (j:Int),j=i∧i≤k∧q=k - i∧e=e86 f j∧h=h80 l m c1 c2 n∧nx=3,⟨k,?_⟩,?_⟩
 ·refine aJ (e0:=e86 f 0) (h0:=h80 l m c1 c2 n) (n0:=3) ⟨0,0,rfl,Nat.zero_le _,rfl,rfl,rfl,rfl⟩ ?_ ?_ (by decide)
  ·unfold e86;((repeat' refine iE rfl rfl ?_);exact iN)
  unfold h80 cR aL;((repeat'(first|refine iF rfl rfl ?_|refine iC rfl rfl rfl ?_|refine iJ rfl rfl rfl rfl ?_));exact iN)
 rintro q e h nx ⟨i,j,hj,hi,rfl,rfl,rfl,rfl⟩;unfold e86 h80 cR aL;((conv=>whnf);apply bm<;>intro h2);rotate_left
 ·exfalso;simp [W3,aA,aC,aF] at h2;omega
 ((conv=>whnf);apply bm<;>intro h3);rotate_left
 ·exfalso;simp [W3,aA,aC] at h3;omega
 have hij:nB m j=true:=(by simp only [nB,Bool.and_eq_true,decide_eq_true_eq];omega);(conv=>whnf);refine⟨l,m,aG bC rfl,aG bL rfl,?_⟩;((conv=>whnf);apply bm<;>intro h4);rotate_left
 ·exfalso;have h4:nB m j=false:=h4;rw [hij] at h4;cases h4
 have hfi:=aFU ho (k:=i) (by omega);((conv=>whnf);apply bm<;>intro h5);rotate_left
 ·have h5:¬ fcI m j=f:=(by simpa [W3,aA,aC] using h5);have hik:i≠k:=fun e=>h5 (by rw [hj,hfi,e,b2]);((conv=>whnf);apply bm<;>intro h6)
  ·(conv=>whnf);refine⟨k - (i+1),by omega,?_⟩;refine aJ (e0:=e86 f (j+1)) (h0:=h80 l m c1 c2 n) (n0:=3) ⟨i+1,j+1,by omega,by omega,rfl,rfl,rfl,rfl⟩ ?_ ?_ (by decide)
   ·unfold e86;((repeat' refine iE rfl rfl ?_);exact iN)
   unfold h80 cR aL;((repeat'(first|refine iF rfl rfl ?_|refine iC rfl rfl rfl ?_|refine iJ rfl rfl rfl rfl ?_));exact iN)
  exfalso;simp [W3,aA,aC,aF] at h6;omega
 have h5:fcI m j=f:=(by simpa [W3,aA,aC] using h5);rw [hj,hfi] at h5;have hik:i=k:=by
  rcases Nat.lt_or_ge i k with h|h
  ·exact absurd h5 (b3 i h)
  omega
 (conv=>whnf);have h6t:(decide (1≤m.length)&&decide (m.length≤1000))=true:=by
  rw [decide_eq_true (show 1≤m.length by omega),decide_eq_true (show m.length≤1000 by omega)];rfl
 have h7t:(kS l m&&nB m j&&decide ((List.replicate (2*m.length) true).length=2*m.length))=true:=by
  rw [hM,hij,List.length_replicate,decide_eq_true rfl];rfl
 have hkj:(k:Int)=j:=(by omega);rw [hkj];generalize hL:kA l m (List.replicate (2*m.length) true) j=L;refine⟨fun e h nx=>e=[(4,.slice (some ⟨4,0,none⟩) L.length L.length)]∧h=[(4,.cells true false 1 (flat aT.fl L))]∧nx=5,?_,?_⟩
 ·(conv=>whnf)
  repeat' first
   |(refine And.intro ?_ ?_ <;> (conv=>whnf))
   |(refine⟨_,_,_,[],l,m,rfl,aG bC rfl,aG bL rfl,?_⟩
     (conv=>whnf);apply bm<;>intro g6 <;> (conv=>whnf))
   |(refine⟨_,_,_,[iv j],_,l,m,List.replicate (2*m.length) true,rfl,aG bC rfl,aG bL rfl,aG gP rfl,?_⟩
     rw [show rnS l m n (List.replicate (2*m.length) true) [iv j]=some (kS l m&&nB m j&&decide ((List.replicate (2*m.length) true).length=2*m.length),L,[]) from by rw [← hL];rfl];(conv=>whnf);apply bm<;>intro g7 <;> (conv=>whnf))
   |(exact Bool.false_ne_true (g6.symm.trans h6t))
   |(exact Bool.false_ne_true (g7.symm.trans h7t))
   |(refine aJ (e0:=[(4,.slice (some ⟨4,0,none⟩) L.length L.length)]) (h0:=[(4,.cells true false 1 (flat aT.fl L))]) (n0:=5) ⟨rfl,rfl,rfl⟩ (by ((repeat' refine iE rfl rfl ?_);exact iN)) (by ((repeat'(first|refine iF rfl rfl ?_|refine iJ rfl rfl rfl rfl ?_));exact iN)) (by decide))
 rintro e h nx ⟨rfl,rfl,rfl⟩;(conv=>whnf);exact⟨4,rfl,rfl⟩
theorem smB {l:List Pt}{m:List Ed}(h:l.length≤1000∧m.length≤1000):(decide (l.length≤1000)&&decide (m.length≤1000))=true:=by
 rw [decide_eq_true h.1,decide_eq_true h.2];rfl
theorem aJ3 {l:List Pt}{m:List Ed}{n f:Int}(ho:a8 l m n=true)(hb:u6 n f=true):UL m (B9 l m f)=true∧1≤(B9 l m f).length∧(B9 l m f).length≤10000∧nZ l m (B9 l m f) (B9 l m f).length=B8 l (aQ l m m.length) (B9 l m f) (B9 l m f).length:=by
 have hb2:=hb;simp only [u6,Bool.and_eq_true,decide_eq_true_eq] at hb2;obtain⟨d,e1,e2,e3,e4,e5,e6,e7,e8⟩:=aOz ho hb2.1 hb2.2;obtain⟨hM,h3,h1l,h400,m400,_,_⟩:=cZ (aZ ho);have e:B9 l m f=j8 (aQ l m m.length) (outs l m) d:=(by unfold B9;rw [e1]);rw [e];refine⟨List.all_eq_true.2 fun x hx=>?_,e7,by omega,PF l m e6 _ (Nat.le_refl _)⟩;obtain⟨i,hi,rfl⟩:=List.getElem_of_mem hx;have:=s9 e6 hi;rw [cX hi,a9] at this;simp only [nB,Bool.and_eq_true,decide_eq_true_eq];omega
theorem aFY {l:List Pt}{m:List Ed}{n:Int}(hok:cQ l m n=true):l.all aM=true:=List.all_eq_true.2 fun p hp=>by
 obtain⟨i,hi,rfl⟩:=List.getElem_of_mem hp;have:=mD hok hi;have e:fA l i=l[i]:=by
  unfold fA;rw [List.getD_eq_getElem?_getD,List.getElem?_eq_getElem hi];rfl
 rw [e] at this;simp only [aM,Bool.and_eq_true,decide_eq_true_eq];omega
theorem aNs {h:Heap}{p:Nat}{l:List Pt}{m:List Ed}{n:Int}(hw:WA h p l m n)(x:Int){nx:Nat}:∃ nD nL c1 c2 fo,In [pV 0,iv x] (H73 l m nD nL c1 c2 n fo) 2000 [pV p,iv x] h nx:=by
 obtain⟨ok,sm,k0,k1,kd,kt,kf,nm,c1,c2,w,⟨w1,g1,s1,x1,a1,b1⟩,_⟩:=hw;obtain⟨wr,g,sz,hst⟩:=w.st;obtain⟨w2,g2,s2,x2,a2,b2⟩:=w.pt;refine⟨(aQ l m m.length).length,(outs l m).length,c1,c2,some ((aQ l m m.length).length,(aQ l m m.length).length),tB (rhW p k0 k1 kd kt kf 0 nm 0) rfl ?_ fun k o hk=>?_⟩
 ·exact List.forall_mem_cons.2 ⟨oJ rfl,List.forall_mem_cons.2 ⟨oJ rfl,fun _ h=>by cases h⟩⟩
 unfold H73 PM at hk;rw [aB] at hk;split at hk
 ·rename_i hq;injection hk with hk;subst hk;rw [← beq_true hq]
  exact⟨by decide,false,1,_,rfl,by decide,(fun h=>by cases h),dT rfl,wr,g,sz,_,hst,rfl⟩
 rw [aB] at hk;split at hk
 ·rename_i hq;injection hk with hk;subst hk;rw [← beq_true hq]
  exact⟨by decide,true,bL.sz,_,rfl,by decide,fun _=>aD bL m,fun v hv=>cN (aW (aD bL m) hv),w1,g1,s1,x1,a1,by rw [b1];exact (bJ (aD bL m)).symm⟩
 rw [aB] at hk;split at hk
 ·rename_i hq;injection hk with hk;subst hk;rw [← beq_true hq]
  exact⟨by decide,true,bC.sz,_,rfl,by decide,fun _=>aD bC l,fun v hv=>cN (aW (aD bC l) hv),w2,g2,s2,x2,a2,by rw [b2];exact (bJ (aD bC l)).symm⟩
 exact bX hk
theorem aFP {l:List Pt}{m:List Ed}{x:Int}:(iB l m x).length≤m.length:=by
 unfold iB;rw [rO];exact mZ _ _ _
theorem aBE {α:Type}(E:El α){l:List α}{e:Option Int}{h:Heap}{nx:Nat}{K:KE}(hl:0<l.length)(hk:K (kQ e (.slice (some ⟨nx,0,none⟩) l.length l.length)) (bT h nx (.cells true false E.sz (flat E.fl l))) (nx+1)):S0 E l e h nx K:=by
 cases l with
 |nil=>cases hl
 |cons a r=>exact hk
theorem mem_erase (L:List Int):∀ (b:Nat) (h:b<L.length) (x:Int),x∈L↔x=L[b]∨x∈L.eraseIdx b:=by
 induction L with
 |nil=>intro b h;cases h
 |cons a r ih =>
  intro b h x;cases b with
  |zero=>simp
  |succ b =>
   rw [List.mem_cons,ih b (by simpa using h) x];simp only [List.eraseIdx_cons_succ,List.getElem_cons_succ,List.mem_cons];constructor
   ·rintro (h|h|h)
    ·exact .inr (.inl h)
    ·exact .inl h
    exact .inr (.inr h)
   rintro (h|h|h)
   ·exact .inr (.inl h)
   ·exact .inl h
   exact .inr (.inr h)
theorem aJp {R:Int→Int→Prop}(hR:∀ x y,R x y→R y x→False):∀ {a b:List Int},a.Pairwise R→b.Pairwise R→(∀ x,x∈a↔x∈b)→a=b
 |[],[],_,_,_=>rfl
 |[],y::b,_,_,h=>absurd ((h y).2 (.head _)) (by simp)
 |x::a,[],_,_,h=>absurd ((h x).1 (.head _)) (by simp)
 |x::a,y::b,ha,hb,h=>by
  obtain⟨ha1,ha2⟩:=List.pairwise_cons.1 ha;obtain⟨hb1,hb2⟩:=List.pairwise_cons.1 hb;have hxy:x=y:=by
   rcases List.mem_cons.1 ((h x).1 (.head _)) with h1|h1
   ·exact h1
   ·rcases List.mem_cons.1 ((h y).2 (.head _)) with h2|h2
    ·exact h2.symm
    exact absurd (hb1 x h1) fun q=>hR _ _ q (ha1 y h2)
  subst hxy;have hx1:x∉a:=fun q=>hR _ _ (ha1 x q) (ha1 x q);have hx2:x∉b:=fun q=>hR _ _ (hb1 x q) (hb1 x q);rw [aJp hR ha2 hb2 fun z=>by
   constructor
   ·intro hz;exact ((List.mem_cons.1 ((h z).1 (.tail _ hz))).resolve_left fun e=>hx1 (e▸hz))
   intro hz;exact ((List.mem_cons.1 ((h z).2 (.tail _ hz))).resolve_left fun e=>hx2 (e▸hz))]
def bsI (lt:Int→Int→Bool)(L:List Int):Nat→Nat
 |0=>0
 |i+1=>if lt (aK L (i+1)) (aK L (bsI lt L i))=true then i+1 else bsI lt L i
theorem TW (lt:Int→Int→Bool)(L:List Int):∀ i,bsI lt L i≤i
 |0=>Nat.le_refl _
 |i+1=>by
  unfold bsI;split
  ·exact Nat.le_refl _
  exact Nat.le_succ_of_le (TW lt L i)
structure aM1 (lt:Int→Int→Bool) (U:Int→Prop):Prop where
 trans:∀ x y z,U x→U y→U z→lt x y=true→lt y z=true→lt x z=true
 total:∀ x y,U x→U y→x≠y→lt x y=false→lt y x=true
theorem aDZ {lt:Int→Int→Bool}{U:Int→Prop}(hO:aM1 lt U){L:List Int}(hU:∀ x∈L,U x)(hn:L.Nodup):∀ i,i<L.length→∀ j,j≤i→j≠bsI lt L i→lt (aK L (bsI lt L i)) (aK L j)=true
 |0,h,j,hj,hne=>absurd (Nat.le_zero.1 hj) hne
 |i+1,h,j,hj,hne=>by
  have ih:=aDZ hO hU hn i (by omega);have hb:=TW lt L i;have hm:∀ k,k<L.length→U (aK L k):=fun k hk=>hU _ (by rw [cX hk];exact List.getElem_mem hk);unfold bsI at hne ⊢;split
  ·rename_i h1;rw [if_pos h1] at hne;by_cases e:j=bsI lt L i
   ·rw [e];exact h1
   exact hO.trans _ _ _ (hm _ h) (hm _ (by omega)) (hm _ (by omega)) h1 (ih j (by omega) e)
  rename_i h1;rw [if_neg h1] at hne;by_cases e:j=i+1
  ·subst e;refine hO.total _ _ (hm _ h) (hm _ (by omega)) ?_ (by simpa using h1);rw [cX h,cX (by omega)];intro e2;exact List.pairwise_iff_getElem.1 hn _ _ (by omega) h (by omega) e2.symm
  exact ih j (by omega) hne
def aDN (lt:Int→Int→Bool):Nat→List Int→List Int
 |0,_=>[]
 |k+1,L=>if L.length=0 then [] else aK L (bsI lt L (L.length - 1))::aDN lt k (L.eraseIdx (bsI lt L (L.length - 1)))
theorem T6 {lt:Int→Int→Bool}{U:Int→Prop}(hO:aM1 lt U):∀ (k:Nat) (L:List Int),L.length≤k→(∀ x∈L,U x)→L.Nodup→(aDN lt k L).Pairwise (fun x y=>lt x y=true)∧∀ x,x∈aDN lt k L↔x∈L
 |0,L,hk,_,_=>by
  have:L=[]:=List.eq_nil_of_length_eq_zero (by omega);subst this;exact⟨.nil,fun x=>Iff.rfl⟩
 |k+1,L,hk,hU,hn=>by
  unfold aDN;split
  ·rename_i h;have:L=[]:=List.eq_nil_of_length_eq_zero h;subst this;exact⟨.nil,fun x=>Iff.rfl⟩
  rename_i h;have hb:=TW lt L (L.length - 1);have hlt:bsI lt L (L.length - 1)<L.length:=(by omega);have hmin:=aDZ hO hU hn (L.length - 1) (by omega);generalize bsI lt L (L.length - 1)=b at hb hlt hmin;have hp:=mem_erase L b hlt;have hmem:∀ x,x∈L.eraseIdx b→x∈L:=fun x hx=>(List.eraseIdx_sublist L b).subset hx;obtain⟨i1,i2⟩:=T6 hO k (L.eraseIdx b) (by rw [List.length_eraseIdx,if_pos hlt];omega) (fun x hx=>hU x (hmem x hx)) (hn.sublist (List.eraseIdx_sublist L b));refine⟨List.pairwise_cons.2 ⟨fun y hy=>?_,i1⟩,fun x=>?_⟩
  ·obtain⟨j,hj,hne,rfl⟩:=List.mem_eraseIdx_iff_getElem.1 ((i2 y).1 hy);have:=hmin j (by omega) hne
   rwa [cX (i:=j) hj] at this
  rw [List.mem_cons,i2,cX hlt,hp x]
theorem idt (ax ay bx b_y cx cy dx dy y:Int):((bx - ax)*(cy - ay) - (b_y - ay)*(cx - ax))*(2*dx - y)+((bx - ax)*(dy - ay) - (b_y - ay)*(dx - ax))*(y - 2*cx)=(2*(dx - cx)*cy+(dy - cy)*(y - 2*cx))*(bx - ax) - (2*(bx - ax)*ay+(b_y - ay)*(y - 2*ax))*(dx - cx):=by grind
theorem aOo (s t:Sg)(y:Int):aP s.1 s.2 t.1*(2*t.2.1 - y)+aP s.1 s.2 t.2*(y - 2*t.1.1)=FN t y*EI s - FN s y*EI t:=idt _ _ _ _ _ _ _ _ _
theorem aAe {p q u v:Int}(hu:0<u)(hv:0<v)(h:p*u+q*v=0):(p=0∧q=0)∨(p<0∧0<q)∨(0<p∧q<0):=by
 have key:∀ {a b:Int},0<b→(0<a→0<a*b)∧(a<0→a*b<0)∧(a=0→a*b=0):=fun {a b} hb =>
  ⟨fun h=>Int.mul_pos h hb,fun h=>Int.mul_neg_of_neg_of_pos h hb,fun h=>by rw [h,Int.zero_mul]⟩
 obtain⟨a1,a2,a3⟩:=key (a:=p) hu;obtain⟨b1,b2,b3⟩:=key (a:=q) hv;rcases Int.lt_trichotomy p 0 with h1|h1|h1 <;> rcases Int.lt_trichotomy q 0 with h2|h2|h2
 ·have:=a2 h1;have:=b2 h2;omega
 ·have:=a2 h1;have:=b3 h2;omega
 ·exact .inr (.inl ⟨h1,h2⟩)
 ·have:=a3 h1;have:=b2 h2;omega
 ·exact .inl ⟨h1,h2⟩
 ·have:=a3 h1;have:=b1 h2;omega
 ·exact .inr (.inr ⟨h1,h2⟩)
 ·have:=a1 h1;have:=b3 h2;omega
 have:=a1 h1;have:=b1 h2;omega
theorem aCA {s t:Sg}{x:Int}(hs:s.1.1≤x∧x<s.2.1)(ht:t.1.1≤x∧x<t.2.1)(h:FN s (2*x+1)*EI t=FN t (2*x+1)*EI s):gV s t≠0∧gV s t≠1:=by
 have e1:=aOo s t (2*x+1);have e2:=aOo t s (2*x+1);rw [h,Int.sub_self] at e1;rw [h,Int.sub_self] at e2;have c1:=aAe (by omega) (by omega) e1;have c2:=aAe (by omega) (by omega) e2;unfold gV aV;generalize aP s.1 s.2 t.1=p at *;generalize aP s.1 s.2 t.2=q at *;generalize aP t.1 t.2 s.1=r at *;generalize aP t.1 t.2 s.2=w at *;have hz:∀ n:Int,B7 n=0↔n=0:=fun n=>(by unfold B7;split <;> (try split) <;> omega);by_cases h0:B7 p=0∧B7 q=0
 ·rw [if_pos h0];have key:∀ {a b:Int × Int},a.1<b.1→kN a b = -1:=fun {a b} h=>by
   unfold kN orI iO;rw [if_pos h];rfl
  have es:bM s=(s.1,s.2):=(by unfold bM;rw [key (show s.1.1<s.2.1 by omega)];rfl);have et:bM t=(t.1,t.2):=(by unfold bM;rw [key (show t.1.1<t.2.1 by omega)];rfl);have hl:kN (HR s t) (vW s t) = -1:=by
   unfold HR vW;rw [es,et];refine key ?_;split <;> split <;> dsimp only <;> omega
  rw [hl];decide
 rw [if_neg h0];have hp:∀ n:Int,0<n→B7 n=1:=fun n h=>(by unfold B7;rw [if_neg (by omega),if_pos h]);have hm:∀ n:Int,n<0→B7 n = -1:=fun n h=>(by unfold B7;rw [if_pos h]);have h00:B7 0=0:=rfl;rcases c1 with ⟨a1,a2⟩|⟨a1,a2⟩|⟨a1,a2⟩
 ·exact absurd ⟨(hz p).2 a1,(hz q).2 a2⟩ h0
 ·rw [hm p a1,hp q a2];rcases c2 with ⟨b1,b2⟩|⟨b1,b2⟩|⟨b1,b2⟩
  ·rw [b1,b2,h00];decide
  ·rw [hm r b1,hp w b2];decide
  rw [hp r b1,hm w b2];decide
 rw [hp p a1,hm q a2];rcases c2 with ⟨b1,b2⟩|⟨b1,b2⟩|⟨b1,b2⟩
 ·rw [b1,b2,h00];decide
 ·rw [hm r b1,hp w b2];decide
 rw [hp r b1,hm w b2];decide
section
variable {l:List Pt}{m:List Ed}{n x:Int}
def TP (l:List Pt)(m:List Ed)(x:Int)(y:Int):Prop:=0≤y∧y<m.length∧oF l x (bO m y.toNat)=true
def lwB (l:List Pt)(m:List Ed)(y:Int)(a b:Int):Bool:=decide (FN (aS l m a.toNat) y*EI (aS l m b.toNat)<FN (aS l m b.toNat) y*EI (aS l m a.toNat))
theorem VV (a b:Int):kE (.cols l m x) a b=lwB l m (2*x+1) a b:=by
 show decide (iO (FN (aS l m a.toNat) (2*x+1)*(2*EI (aS l m b.toNat))) (FN (aS l m b.toNat) (2*x+1)*(2*EI (aS l m a.toNat)))<0)=_;unfold lwB iO;have e:∀ p q:Int,p*(2*q)=2*(p*q):=fun p q=>(by rw [← Int.mul_assoc,Int.mul_comm p 2,Int.mul_assoc]);rw [e,e];generalize FN (aS l m a.toNat) (2*x+1)*EI (aS l m b.toNat)=P;generalize FN (aS l m b.toNat) (2*x+1)*EI (aS l m a.toNat)=Q;by_cases h:P<Q
 ·rw [if_pos (by omega),decide_eq_true h];rfl
 rw [if_neg (by omega),decide_eq_false h];split <;> rfl
theorem A5 {y:Int}(h:TP l m x y):(aS l m y.toNat).1.1≤x∧x<(aS l m y.toNat).2.1:=by
 have:=h.2.2;simp only [oF,Bool.and_eq_true,decide_eq_true_eq] at this;exact this
theorem DC {y:Int}(h:TP l m x y):0<EI (aS l m y.toNat):=by
 have:=A5 h;unfold EI;omega
theorem aF2 {N1 N2 N3 d1 d2 d3:Int}(h1:0<d1)(h2:0<d2)(h3:0<d3)(a:N1*d2<N2*d1)(b:N2*d3<N3*d2):N1*d3<N3*d1:=by
 have e1:=Int.mul_lt_mul_of_pos_right a h3;have e2:=Int.mul_lt_mul_of_pos_right b h1;have e3:N1*d2*d3=N1*d3*d2:=(by rw [Int.mul_assoc,Int.mul_comm d2,← Int.mul_assoc]);have e4:N2*d1*d3=N2*d3*d1:=(by rw [Int.mul_assoc,Int.mul_comm d1,← Int.mul_assoc]);have e5:N3*d2*d1=N3*d1*d2:=(by rw [Int.mul_assoc,Int.mul_comm d2,← Int.mul_assoc]);exact Int.lt_of_mul_lt_mul_right (a:=d2) (by omega) (by omega)
theorem aBf {N1 N2 N3 d1 d2 d3:Int}(h1:0<d1)(h2:0<d2)(h3:0<d3)(a:N1*d2≤N2*d1)(b:N2*d3≤N3*d2):N1*d3≤N3*d1:=by
 have e1:=Int.mul_le_mul_of_nonneg_right a (Int.le_of_lt h3);have e2:=Int.mul_le_mul_of_nonneg_right b (Int.le_of_lt h1);have e3:N1*d2*d3=N1*d3*d2:=(by rw [Int.mul_assoc,Int.mul_comm d2,← Int.mul_assoc]);have e4:N2*d1*d3=N2*d3*d1:=(by rw [Int.mul_assoc,Int.mul_comm d1,← Int.mul_assoc]);have e5:N3*d2*d1=N3*d1*d2:=(by rw [Int.mul_assoc,Int.mul_comm d2,← Int.mul_assoc]);exact Int.le_of_mul_le_mul_right (show N1*d3*d2≤N3*d1*d2 by omega) h2
theorem aGz (l:List Pt)(m:List Ed)(x:Int):Ord (.cols l m x) (TP l m x) where
 trans:=fun a b c ha hb hc h1 h2=>by
  unfold zS at *;rw [VV] at *;have h1:=of_decide_eq_false h1;have h2:=of_decide_eq_false h2;have:=aBf (DC ha) (DC hb) (DC hc) (Int.not_lt.1 h1) (Int.not_lt.1 h2);exact decide_eq_false (Int.not_lt.2 this)
 asym:=fun a b ha hb h=>by
  unfold zS;rw [VV] at *;have h:=of_decide_eq_true h;exact decide_eq_false (by omega)
theorem aKc (ho:a8 l m n=true){i k:Nat}(hi:i<m.length)(hk:k<m.length)(hne:i≠k):gV (aS l m i) (aS l m k)=0∨gV (aS l m i) (aS l m k)=1∨gV (aS l m k) (aS l m i)=0∨gV (aS l m k) (aS l m i)=1:=by
 have hp:eK l m n=true:=(by simp only [a8,Bool.and_eq_true] at ho;exact ho.1);have hok:=cU hp;have key:∀ {i k:Nat},i<m.length→k<i→gV (aS l m i) (aS l m k)=0∨gV (aS l m i) (aS l m k)=1:=fun {i k} hi hk=>by
  simp only [eK,Bool.and_eq_true] at hp;have h:=eG (f:=fun k=>zP l m i k) (eG (f:=fun i=>nM (fun k=>zP l m i k) i) hp.2 hi) hk;simp only [zP,Bool.or_eq_true,decide_eq_true_eq] at h;unfold fF at h;rw [if_pos ⟨(lS hok hi).1,(lS hok (by omega)).1⟩] at h;exact h
 rcases Nat.lt_or_ge k i with h|h
 ·exact (key hi h).elim .inl fun h=>.inr (.inl h)
 exact (key hk (show i<k by omega)).elim (fun h=>.inr (.inr (.inl h))) fun h=>.inr (.inr (.inr h))
theorem QQ (ho:a8 l m n=true):aM1 (lwB l m (2*x+1)) (TP l m x) where
 trans:=fun a b c ha hb hc h1 h2=>decide_eq_true (aF2 (DC ha) (DC hb) (DC hc) (of_decide_eq_true h1) (of_decide_eq_true h2))
 total:=fun a b ha hb hne h=>by
  have h:=of_decide_eq_false h;refine decide_eq_true ?_;have hn:FN (aS l m a.toNat) (2*x+1)*EI (aS l m b.toNat)≠FN (aS l m b.toNat) (2*x+1)*EI (aS l m a.toNat):=fun e=>by
   have t1:=aCA (A5 ha) (A5 hb) e;have t2:=aCA (A5 hb) (A5 ha) e.symm;have h1:=ha.1;have h2:=hb.1;have h3:=ha.2.1;have h4:=hb.2.1;rcases aKc ho (i:=a.toNat) (k:=b.toNat) (by omega) (by omega) (by omega) with h|h|h|h
   ·exact t1.1 h
   ·exact t1.2 h
   ·exact t2.1 h
   exact t2.2 h
  omega
theorem AH (P:Ed→Bool)(m:List Ed):∀ i y,y∈bS P m i↔0≤y∧y<i∧P (bO m y.toNat)=true
 |0,y=>⟨fun h=>(by cases h),fun h=>(by omega)⟩
 |i+1,y=>by
  have ih:=AH P m i y;cases hp:P (bO m i) with
  |true =>
   rw [v5 hp,List.mem_append,List.mem_singleton,ih];constructor
   ·rintro (h|h)
    ·exact⟨h.1,by omega,h.2.2⟩
    subst h;exact⟨by omega,by omega,hp⟩
   rintro ⟨h1,h2,h3⟩;by_cases e:y=i
   ·exact .inr e
   exact .inl ⟨h1,by omega,h3⟩
  |false =>
   rw [rC hp,ih];constructor
   ·rintro ⟨h1,h2,h3⟩;exact⟨h1,by omega,h3⟩
   rintro ⟨h1,h2,h3⟩;by_cases e:y=i
   ·subst e;rw [Int.toNat_natCast,hp] at h3;cases h3
   exact⟨h1,by omega,h3⟩
theorem tF (P:Ed→Bool)(m:List Ed):∀ i,(bS P m i).Nodup
 |0=>List.nodup_nil
 |i+1=>by
  have ih:=tF P m i;cases hp:P (bO m i) with
  |true =>
   rw [v5 hp];refine List.nodup_append.2 ⟨ih,List.pairwise_singleton _ _,fun a ha b hb e=>?_⟩;have:=(AH P m i a).1 ha;rw [List.mem_singleton.1 hb] at e;omega
  |false=>rw [rC hp];exact ih
theorem aAm {y:Int}:y∈bS (oF l x) m m.length↔TP l m x y:=AH _ _ _ _
theorem TF (hm:m.length≤1000):So (.cols l m x) (iB l m x) 0 (iB l m x).length∧(iB l m x).Perm (bS (oF l x) m m.length):=by
 have hl:=mZ (oF l x) m m.length;have:=aA0 (aGz l m x) (f:=1000) (L:=bS (oF l x) m m.length) (by omega) (fun i _ hi=>aAm.1 (by rw [cX hi];exact List.getElem_mem hi));unfold iB;rw [rO];exact this
theorem sH (hm:m.length≤1000){y:Int}:y∈iB l m x↔TP l m x y:=by rw [(TF hm).2.mem_iff];exact aAm
def rcL (l:List Pt)(m:List Ed)(x:Int):List Int:=aDN (lwB l m (2*x+1)) (bS (oF l x) m m.length).length (bS (oF l x) m m.length)
theorem aJS (ho:a8 l m n=true):iB l m x=rcL l m x:=by
 have hm:m.length≤1000:=(by have:=(cZ (aZ ho)).2.2.2.2.1;omega);obtain⟨c1,c2⟩:=TF (l:=l) (m:=m) (x:=x) hm;have hS:=QQ (x:=x) ho;have hnd:=c2.symm.nodup (tF (oF l x) m m.length);obtain⟨s1,s2⟩:=T6 hS (bS (oF l x) m m.length).length (bS (oF l x) m m.length) (Nat.le_refl _) (fun y hy=>aAm.1 hy) (tF _ _ _);refine aJp (R:=fun a b=>lwB l m (2*x+1) a b=true) (fun a b h1 h2=>?_) ?_ s1 fun y=>?_
 ·have h1:=of_decide_eq_true h1;have h2:=of_decide_eq_true h2;omega
 ·rw [List.pairwise_iff_getElem];intro i j hi hj hij;have h:=c1 i j (Nat.zero_le _) hij hj;unfold zS at h;rw [VV,cX hi,cX hj] at h;refine hS.total _ _ ((sH hm).1 (List.getElem_mem hj)) ((sH hm).1 (List.getElem_mem hi)) (fun e=>?_) h;exact List.pairwise_iff_getElem.1 hnd i j hi hj hij e.symm
 rw [c2.mem_iff];exact (s2 y).symm
end
def aHP:Nat × XF:=(59,fun args h nx K=>∃ p l m n x,args=[pV p,iv x]∧WA h p l m n∧(0≤x∧x≤10000)∧S0 aT (iB l m x) none h nx K)
theorem aQb:cO Go.Proofs.Tryz.prog aHP.1 aHP.2:=by
 have h0:cO Go.Proofs.Tryz.prog 59 (yOf aT T73):=WX aT (aH (xl:=[X92 aH1,YF]) (.cons (x92 aIf) (.cons aO0 .nil))) fun _ _ _ _ _=>w73;refine h0.mono ?_ ?_
 ·rintro args h nx K ⟨p,l,m,n,x,rfl,hw,hx,hk⟩;obtain⟨nD,nL,c1,c2,fo,hin⟩:=aNs (nx:=nx) hw x;have hok:=aZ hw.ok;refine NU aT ⟨l,m,x,nD,nL,c1,c2,n,fo,rfl,rfl,rfl,rfl,rfl,(cZ hok).1,aFY hok,?_⟩ hin hk;unfold okX;rw [decide_eq_true hx.1,decide_eq_true hx.2];rfl
 rintro args h nx K ⟨p,l,m,n,x,rfl,hw,hx,hk⟩;obtain⟨v,h',nx',h1,h2⟩:=aEw hk;exact⟨v,h',nx',h1,fun K' hk'=>⟨p,l,m,n,x,rfl,hw,hx,h2 K' hk'⟩⟩
def atS (l:List Pt)(m:List Ed)(P:Pt):List Int→Int
 |[]=>0
 |y::r=>if aP (aS l m y.toNat).1 (aS l m y.toNat).2 P<0 then (bO m y.toNat).r else atS l m P r
def L7 (l:List Pt)(m:List Ed)(P:Pt):Int:=atS l m P (iB l m P.1)
structure A48 where
 l:List Pt
 m:List Ed
 n:Int
 c1:Nat
 c2:Nat
 P:Pt
def aNo (a:A48):Prop:=a8 a.l a.m a.n=true∧(a.l.length≤1000∧a.m.length≤1000)∧aM a.P=true
def QW (a:A48):Heap:=H5 a.l a.m a.n a.c1 a.c2 [iv a.P.1,iv a.P.2]
def X49:XF:=dX aNo (fun a=>[pV 12,.agg #[iv a.P.1,iv a.P.2]]) QW (fun _=>2009) (fun a=>iv (L7 a.l a.m a.P)) QW (fun _=>2009)
def e49 (k N:Nat)(v:Value)(j:Int):List (Nat × Value):=[(0,pV 12),(3,pV 2009),(11,v),(12,iv N),(13,iv j)]
theorem w49 (l:List Pt)(m:List Ed)(n:Int)(c1 c2:Nat)(P:Pt)(ho:a8 l m n=true)(hlm:l.length≤1000∧m.length≤1000)(hP:aM P=true)(hin:∀ y∈iB l m P.1,0≤y∧y<m.length) :
  body [aHP,OR,X15] 49 [pV 12,.agg #[iv P.1,iv P.2]] (H5 l m n c1 c2 [iv P.1,iv P.2]) 2009 (fun v h nx=>∃ ρ,lQ 2009 ρ [(0,iv (L7 l m P))] (H5 l m n c1 c2 [iv P.1,iv P.2]) 2009 [(0,v)] h nx):=by
 have hW:=aO5 (c1:=c1) (c2:=c2) (cs:=[iv P.1,iv P.2]) ho hlm;have hK:=NV (l:=l) (m:=m) (n:=n) (c1:=c1) (c2:=c2) (cs:=[iv P.1,iv P.2]) hlm.1 rfl;have hN:∀ k,2009≤k→look (H5 l m n c1 c2 [iv P.1,iv P.2]) k=none:=fun k hk=>aA4 hlm.1 hk;have hP2:=hP;simp only [aM,Bool.and_eq_true,decide_eq_true_eq] at hP2;have hat:L7 l m P=atS l m P (iB l m P.1):=rfl;have hll:=aFP (l:=l) (m:=m) (x:=P.1);(conv=>whnf);refine⟨_,l,m,n,P.1,rfl,aEN hW (hN _ (by decide)),⟨by omega,by omega⟩,?_⟩;rw [hat];generalize iB l m P.1=S at *;cases S with
 |nil =>
  (conv=>whnf);refine⟨fun q e h nx=>q=0∧e=e49 0 0 aR 0∧h=[(2009,.cells true false 1 [iv P.1,iv P.2])]++H5 l m n c1 c2 [iv P.1,iv P.2]∧nx=2010,⟨0,?_⟩,?_⟩
  ·refine cL (P:=[(2009,.cells true false 1 [iv P.1,iv P.2])]) (W:=H5 l m n c1 c2 [iv P.1,iv P.2]) (e0:=e49 0 0 aR 0) (n0:=2010) [] ⟨rfl,rfl,rfl,rfl⟩ ?_ hK ?_ ?_ ?_ (fun _ h=>(by cases h)) (by omega)
   ·unfold e49;((repeat' refine iE rfl rfl ?_);exact iN)
   ·exact aX (fun _ _ h=>h) (hN _ (by decide))
   ·exact List.forall_mem_cons.2 ⟨⟨.inl ⟨Nat.le_of_ble_eq_true rfl,Nat.le_of_ble_eq_true rfl,Nat.le_of_ble_eq_true rfl⟩,_,rfl,⟨rfl,rfl,rfl,rfl,dT rfl⟩⟩,fun _ h=>(by cases h)⟩
   show ∀ k∈[2009],∀ k'∈[2009],_;decide
  rintro q e h nx ⟨rfl,rfl,rfl,rfl⟩;unfold e49;(conv=>whnf);exact fQ (v:=iv 0) (gE rfl) (cG rfl) (ext_cons (fun _ _ h=>h) (hN _ (by decide))) hK (Nat.le_refl _)
 |cons a t =>
  obtain⟨S,hS⟩:∃ S,a::t=S:=⟨_,rfl⟩;rw [hS] at hin hll ⊢;have hS0:0<S.length:=(by rw [← hS];exact Nat.succ_pos _);clear hS;refine aBE aT hS0 ?_;(conv=>whnf);refine⟨fun q e h nx=>∃ (i:Nat) (j:Int),j=i∧i≤S.length∧q=S.length - i∧atS l m P S=atS l m P (S.drop i)∧e=e49 0 S.length (.slice (some ⟨2010,0,none⟩) S.length S.length) j∧h=[(2010,.cells true false 1 (flat aT.fl S)),(2009,.cells true false 1 [iv P.1,iv P.2])]++H5 l m n c1 c2 [iv P.1,iv P.2]∧nx=2011,⟨S.length,?_⟩,?_⟩
  ·refine cL (P:=[(2010,.cells true false 1 (flat aT.fl S)),(2009,.cells true false 1 [iv P.1,iv P.2])]) (W:=H5 l m n c1 c2 [iv P.1,iv P.2]) (e0:=e49 0 S.length (.slice (some ⟨2010,0,none⟩) S.length S.length) 0) (n0:=2011) [] ⟨0,0,rfl,Nat.zero_le _,rfl,by rw [List.drop_zero],rfl,rfl,rfl⟩ ?_ hK ?_ ?_ ?_ (fun _ h=>(by cases h)) (by omega)
   ·unfold e49;((repeat' refine iE rfl rfl ?_);exact iN)
   ·exact aX (aX (fun _ _ h=>h) (hN _ (by decide))) (hN _ (by decide))
   ·exact List.forall_mem_cons.2 ⟨⟨.inl ⟨Nat.le_of_ble_eq_true rfl,Nat.le_of_ble_eq_true rfl,Nat.le_of_ble_eq_true rfl⟩,_,rfl,aO (aD _ _)⟩,List.forall_mem_cons.2 ⟨⟨.inl ⟨Nat.le_of_ble_eq_true rfl,Nat.le_of_ble_eq_true rfl,Nat.le_of_ble_eq_true rfl⟩,_,rfl,⟨rfl,rfl,rfl,rfl,dT rfl⟩⟩,fun _ h=>(by cases h)⟩⟩
   show ∀ k∈[2010,2009],∀ k'∈[2010,2009],_;decide
  rintro q e h nx ⟨i,j,hj,hi,rfl,hacc,rfl,rfl,rfl⟩;unfold e49 H5;((conv=>whnf);apply bm<;>intro m1);rotate_left
  ·have hil:i=S.length:=(by simp [aA,aC] at m1;omega);(conv=>whnf);rw [hacc,hil,List.drop_length];exact fQ (v:=iv 0) (gE rfl) (cG rfl) (by repeat' first|exact fun _ _ h=>h|(refine aX ?_ (hN _ (by decide)))|(refine cK ?_ (hN _ (by decide)))|(refine ext_cons ?_ (hN _ (by decide)))|(refine eH ?_ (hN _ (by decide)))) hK (Nat.le_refl _)
  have hil:i<S.length:=(by simp [aA,aC] at m1;omega);have hy:=hin (aK S i) (by rw [cX hil];exact List.getElem_mem hil);((conv=>whnf);apply bm<;>intro m2);rotate_left
  ·exfalso;simp [aA,aC] at m2;omega
  (conv=>whnf);refine iU (iA S (i:=i) hil ?_) ?_
  ·show _+Int.toNat j*1=_;omega
  (conv=>whnf);refine⟨l,m,aG bC rfl,aG bL rfl,?_⟩;refine aI (show (kS l m&&(decide (0≤aK S i)&&decide (aK S i<m.length)))=true from ?_) ?_
  ·rw [(cZ (aZ ho)).1,decide_eq_true hy.1,decide_eq_true hy.2];rfl
  have hsg:=lS (aZ ho) (i:=(aK S i).toNat) (by omega);have hts:tS (aS l m (aK S i).toNat).1 (aS l m (aK S i).toNat).2 P=B7 (aP (aS l m (aK S i).toNat).1 (aS l m (aK S i).toNat).2 P):=by
   have h1:=hsg.1;simp only [dL,Bool.and_eq_true] at h1;unfold tS aV;rw [if_pos (by rw [h1.1.1,h1.1.2,hP];rfl)]
  have hsn:∀ c:Int,B7 c<0↔c<0:=fun c=>(by unfold B7;split <;> (try split) <;> omega);have hdr:S.drop i=aK S i::S.drop (i+1):=(by rw [cX hil];exact List.drop_eq_getElem_cons hil);((conv=>whnf);apply bm<;>intro m3)
  ·have m3:tS (aS l m (aK S i).toNat).1 (aS l m (aK S i).toNat).2 P<0:=by
    have m3:decide (tS (aS l m (aK S i).toNat).1 (aS l m (aK S i).toNat).2 P<0)=true:=m3;simpa using m3
   rw [hts,hsn] at m3;((conv=>whnf);apply bm<;>intro m4)
   ·(conv=>whnf);refine iU (H7 m 3 (i:=(aK S i).toNat) (by omega) rfl (by decide) ?_) ?_
    ·show _+Int.toNat (aK S i)*5+3=_;omega
    (conv=>whnf);rw [hacc,hdr,atS,if_pos m3];exact fQ (v:=iv (bO m (aK S i).toNat).r) (gE rfl) (cG rfl) (by repeat' first|exact fun _ _ h=>h|(refine aX ?_ (hN _ (by decide)))|(refine cK ?_ (hN _ (by decide)))|(refine ext_cons ?_ (hN _ (by decide)))|(refine eH ?_ (hN _ (by decide)))) hK (Nat.le_refl _)
   exfalso;simp [aA,aC] at m4;omega
  have m3:¬ tS (aS l m (aK S i).toNat).1 (aS l m (aK S i).toNat).2 P<0:=by
   have m3:decide (tS (aS l m (aK S i).toNat).1 (aS l m (aK S i).toNat).2 P<0)=false:=m3;simpa using m3
  rw [hts,hsn] at m3;((conv=>whnf);apply bm<;>intro m5)
  ·refine⟨S.length - (i+1),by omega,?_⟩;refine cL (P:=[(2010,.cells true false 1 (flat aT.fl S)),(2009,.cells true false 1 [iv P.1,iv P.2])]) (W:=H5 l m n c1 c2 [iv P.1,iv P.2]) (e0:=e49 0 S.length (.slice (some ⟨2010,0,none⟩) S.length S.length) (j+1)) (n0:=2011) [] ⟨i+1,j+1,by omega,by omega,rfl,by rw [hacc,hdr,atS,if_neg m3],rfl,rfl,rfl⟩ ?_ hK ?_ ?_ ?_ (fun _ h=>(by cases h)) (by omega)
   ·unfold e49;((repeat' refine iE rfl rfl ?_);exact iN)
   ·exact by repeat' first|exact fun _ _ h=>h|(refine aX ?_ (hN _ (by decide)))|(refine cK ?_ (hN _ (by decide)))|(refine ext_cons ?_ (hN _ (by decide)))|(refine eH ?_ (hN _ (by decide)))
   ·exact List.forall_mem_cons.2 ⟨⟨.inl ⟨Nat.le_of_ble_eq_true rfl,Nat.le_of_ble_eq_true rfl,Nat.le_of_ble_eq_true rfl⟩,_,rfl,aO (aD _ _)⟩,List.forall_mem_cons.2 ⟨⟨.inl ⟨Nat.le_of_ble_eq_true rfl,Nat.le_of_ble_eq_true rfl,Nat.le_of_ble_eq_true rfl⟩,_,rfl,⟨rfl,rfl,rfl,rfl,dT rfl⟩⟩,fun _ h=>(by cases h)⟩⟩
   show ∀ k∈[2010,2009],∀ k'∈[2010,2009],_;decide
  exfalso;simp [aA,aC,aF] at m5;omega
theorem x49:cO Go.Proofs.Tryz.prog 49 X49:=ED (aH (xl:=[aHP,OR,X15]) (.cons aQb (.cons aIl (.cons x15 .nil)))) fun a ⟨ho,hlm,hP⟩=>w49 a.l a.m a.n a.c1 a.c2 a.P ho hlm hP fun y hy=>⟨((sH hlm.2).1 hy).1,((sH hlm.2).1 hy).2.1⟩
end Go.Aw
end
