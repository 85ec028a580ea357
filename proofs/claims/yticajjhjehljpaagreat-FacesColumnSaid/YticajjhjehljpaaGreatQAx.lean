/-
  Parts of a proof. No condition.
-/
import Derived.Test.YticajjhjehljpaaGreatQAh
import Derived.Test.YticajjhjehljpaaGreatQAi
import Derived.Test.YticajjhjehljpaaGreatQAn
import Derived.Test.YticajjhjehljpaaGreatQAo
import Derived.Test.YticajjhjehljpaaGreatChecked
import Derived.Test.YticajjhjehljpaaGreatRows
import Derived.ProofKit
import Derived.Lib.SmallJoins
import Derived.Deep.Slices
import Derived.Deep.Fields
set_option linter.unusedSimpArgs false
set_option linter.unusedVariables false
noncomputable section
namespace Go.Proofs.YticajjhjehljpaaGreat
open Go.ChangeShapes Go.WideShapes Go.ChangeAt Go.RowKit Go.Joins
theorem eK {a b:Bool}(ha:a=true)(hb:b=true):(a&&b)=true:=by rw [ha,hb];rfl
theorem jf0:(Rows.facesColumnRow.wf (OpenSpec.ofChange Rows.facesColumnSpec))=true:=by kernel_rfl
theorem jf1:(laidOutB Tryz.prog)=true:=by kernel_rfl
theorem jf2:(mapsRowed Tryz.prog)=true:=by kernel_rfl
theorem jf3:(Tryz.f5.params.all (Tryz.prog.readableRec ·))=true:=by kernel_rfl
theorem jf4:(namedTie Tryz.prog Rows.facesColumnRow.named Rows.facesColumnSpec.vars)=true:=by kernel_rfl
theorem jf5:((Rows.facesColumnRow.stops == []))=true:=by kernel_rfl
theorem jf6:((Tryz.prog.stops == []))=true:=by kernel_rfl
theorem jf7:((Rows.facesColumnRow.knobs == []))=true:=by kernel_rfl
theorem jf8:((Tryz.prog.stopKnobs == []))=true:=by kernel_rfl
theorem jf9:((Rows.facesColumnRow.inPlace == Tryz.prog.inPlace 5))=true:=by kernel_rfl
theorem aNg:((Rows.facesColumnRow.unfollowed == Tryz.prog.unfollowed 5))=true:=by kernel_rfl
theorem aOg:((Rows.facesColumnRow.recurses == Tryz.prog.recurses 5))=true:=by kernel_rfl
theorem aNM:((Rows.facesColumnRow.named == Tryz.prog.varsNamed 5))=true:=by kernel_rfl
theorem aNq:((Rows.facesColumnRow.maps == (Tryz.f5.params.toList++Rows.facesColumnSpec.plain.varTypes Tryz.prog).any (Tryz.prog.mapsRec ·)))=true:=by kernel_rfl
theorem aO4:((Rows.facesColumnRow.ifaces == (Tryz.f5.params.toList++Rows.facesColumnSpec.plain.varTypes Tryz.prog).any (Tryz.prog.ifacesRec ·)))=true:=by kernel_rfl
theorem aMV:((Rows.facesColumnRow.mapsOut == Tryz.prog.mapsAmong Tryz.f5.resultTypes.toList))=true:=by kernel_rfl
theorem aMX:((Rows.facesColumnRow.loops == (Tryz.f5.params.toList++Rows.facesColumnSpec.plain.varTypes Tryz.prog).any (Tryz.prog.loopsFrom ·)))=true:=by kernel_rfl
theorem aOk:((Rows.facesColumnRow.wideKeys == (Tryz.f5.params.toList++Rows.facesColumnSpec.plain.varTypes Tryz.prog++Tryz.f5.resultTypes.toList).any (Tryz.prog.wideKeysFrom ·)))=true:=by kernel_rfl
theorem aNF:(Rows.facesColumnSpec.vars.all (Tryz.prog.varReadable ·))=true:=by kernel_rfl
theorem aNk:(Tryz.f5.resultTypes.all (fun t=>Tryz.prog.readableRec t&&decide (t<Tryz.prog.types.size)))=true:=by kernel_rfl
theorem aNw:((Rows.facesColumnRow.ifacesOut == Tryz.f5.resultTypes.toList.any (Tryz.prog.ifacesRec ·)))=true:=by kernel_rfl
theorem aNZ:((Rows.facesColumnRow.loopsOut == Tryz.f5.resultTypes.toList.any (Tryz.prog.loopsFrom ·)))=true:=by kernel_rfl
theorem aMR:((Rows.facesColumnRow.plainKeys == Tryz.prog.plainKeys))=true:=by kernel_rfl
theorem aNX:(Rows.facesColumnRow.shortTexts.isNone)=true:=by kernel_rfl
theorem aNz:(Tryz.prog.stopsHeard)=true:=by kernel_rfl
theorem aNf:(Tryz.prog.mayEnter)=true:=by kernel_rfl
theorem aMW:((Rows.facesColumnRow.lifted == Tryz.prog.liftsFinal))=true:=by kernel_rfl
theorem aN2:((Tryz.prog.make == some Rows.facesColumnRow.make))=true:=by kernel_rfl
theorem aOa:((Rows.facesColumnRow.pinned == Rows.facesColumnRow.pinnedBy))=true:=by kernel_rfl
theorem aNe:((Rows.facesColumnRow.veiled == (Tryz.f5.params.toList++Rows.facesColumnSpec.plain.varTypes Tryz.prog++Tryz.f5.resultTypes.toList).any (Tryz.prog.veiledRec ·)))=true:=by kernel_rfl
theorem aMT:(Rows.facesColumnRow.veiledFits Tryz.prog Tryz.f5.params.toList (Tryz.f5.params.toList++Rows.facesColumnSpec.plain.varTypes Tryz.prog++Tryz.f5.resultTypes.toList))=true:=by kernel_rfl
end Go.Proofs.YticajjhjehljpaaGreat
end

noncomputable section
namespace Go.Aw
set_option maxRecDepth 100000
set_option maxHeartbeats 2000000
structure WA (h:Heap) (p:Nat) (l:List Pt) (m:List Ed) (n:Int):Prop where
 ok:aY l m n=true
 sm:l.length≤1000∧m.length≤1000
 ex:∃ k0 k1 kd kt kf nm c1 c2,wC h p k0 k1 kd kt kf nm l (aO l m m.length) (outs l m) m.length c1 c2 n (some ((aO l m m.length).length,(aO l m m.length).length)) ∧
  (∃ wr g sz cs,look h k1=some (.cells wr g sz cs)∧cs.take (flat dP.fl m).length=flat dP.fl m)∧(∃ wr g sz cs,look h kf=some (.cells wr g sz cs)∧cs.take (flat aR.fl (dE l m).face).length=flat aR.fl (dE l m).face)
theorem WA.ext {W h:Heap}{p:Nat}{l:List Pt}{m:List Ed}{n:Int}(hw:WA W p l m n)(hx:∀ k o,look W k=some o→look h k=some o):WA h p l m n:=by
 obtain⟨ok,sm,k0,k1,kd,kt,kf,nm,c1,c2,w,⟨w1,g1,s1,x1,a1,b1⟩,w2,g2,s2,x2,a2,b2⟩:=hw;obtain⟨⟨w3,g3,s3,a3⟩,⟨w4,g4,s4,x4,a4,b4⟩,⟨w5,g5,s5,x5,a5,b5⟩,⟨w6,g6,s6,a6⟩,h4⟩:=w;refine⟨ok,sm,k0,k1,kd,kt,kf,nm,c1,c2,⟨⟨_,_,_,hx _ _ a3⟩,⟨_,_,_,_,hx _ _ a4,b4⟩,⟨_,_,_,_,hx _ _ a5,b5⟩,⟨_,_,_,hx _ _ a6⟩,fun i hi h0=>?_⟩,⟨_,_,_,_,hx _ _ a1,b1⟩,_,_,_,_,hx _ _ a2,b2⟩;obtain⟨w7,g7,s7,x7,a7,b7⟩:=h4 i hi h0;exact⟨_,_,_,_,hx _ _ a7,b7⟩
def wH (nx:Nat)(l:List Pt)(m:List Ed)(c1 c2:Nat)(n:Int):Heap:=oP nx (ZH l m c1 c2 n)
theorem aJS {l:List Pt}{m:List Ed}{c1 c2:Nat}{n:Int}(hl:l.length≤1000){k:Nat}{o:bH}(hk:look (ZH l m c1 c2 n) k=some o):k<2004 :=
 (MJ hl k o (NW k o hk)).1
theorem aLn {nx:Nat}{l:List Pt}{m:List Ed}{c1 c2:Nat}{n:Int}(hl:l.length≤1000){k:Nat}{o:bH}(hk:look (wH nx l m c1 c2 n) k=some o):nx≤k∧k<nx+2004:=by
 obtain⟨j,o',e1,e2,_⟩:=lU _ hk;have:=aJS hl e2;omega
theorem aHp {nx:Nat}{l:List Pt}{m:List Ed}{c1 c2:Nat}{n:Int}(hl:l.length≤1000){k:Nat}(hk:k<nx∨nx+2004≤k):look (wH nx l m c1 c2 n) k=none:=by
 cases h:look (wH nx l m c1 c2 n) k with
 |none=>rfl
 |some o=>exfalso;have:=aLn hl h;omega
theorem FI {nx:Nat}{l:List Pt}{m:List Ed}{c1 c2:Nat}{n:Int}{j:Nat}{o:bH}(h:look (vO l m) j=some o)(h1:j≠4)(h2:j≠2000):look (wH nx l m c1 c2 n) (nx+(3+j))=some (YU nx (YU 3 o)):=by
 refine kE _ ?_;unfold ZH;rw [aU (by omega),aU (by omega)];exact kE _ h
theorem aLC {nx:Nat}{l:List Pt}{m:List Ed}{c1 c2:Nat}{n:Int}(ho:aY l m n=true)(hs:l.length≤1000∧m.length≤1000):WA (wH nx l m c1 c2 n) (nx+7) l m n:=by
 have hfl:∀ {α:Type} (E:El α) (x:List α) (k:Nat),(flat E.fl x).map (bJ fun i=>k+i)=flat E.fl x:=fun E x k=>a8 (aC E x);have hst:look (wH nx l m c1 c2 n) (nx+7)=some (.cells true false 1 (IH (nx+3) (nx+4) (nx+9) (nx+8) (nx+2003) l.length m.length (aO l m m.length).length (outs l m).length c1 c2 n (some ((aO l m m.length).length,(aO l m m.length).length)))):=by
  refine (kE _ (o:=N7 (ZX l m c1 c2 n) (.slice (some ⟨2003,0,none⟩) (aO l m m.length).length (aO l m m.length).length)) rfl).trans ?_;rfl
 refine⟨ho,hs,nx+3,nx+4,nx+9,nx+8,nx+2003,fun i=>nx+(3+(i+1000)),c1,c2,⟨⟨_,_,_,hst⟩,⟨_,_,_,_,FI (j:=0) rfl (by omega) (by omega),?_⟩,⟨_,_,_,_,FI (j:=6) rfl (by omega) (by omega),?_⟩,⟨true,false,1,?_⟩,fun i hi h0=>⟨true,false,1,flat aR.fl (bE (outs l m) i),?_,List.take_length⟩⟩,⟨_,_,_,_,FI (j:=1) rfl (by omega) (by omega),?_⟩,⟨true,false,1,flat aR.fl (dE l m).face,?_,List.take_length⟩⟩
 ·rw [hfl,hfl];exact List.take_length
 ·rw [hfl,hfl];exact List.take_length
 ·rw [FI (j:=5) (o:=.cells true false 1 (tC (outs l m).length (outs l m))) rfl (by omega) (by omega)];show some (bH.cells true false 1 (((tC (outs l m).length (outs l m)).map (bJ fun k=>3+k)).map (bJ fun k=>nx+k)))=_;unfold tC;rw [List.map_map,List.map_map];congr 2;refine List.map_congr_left fun i hi=>?_;show bJ _ (bJ _ (tV (tN (outs l m).length i) (bE (outs l m) i)))=_;rw [GG,GG];unfold tN;rw [if_neg (by have:=List.mem_range.1 hi;omega)]
 ·have hil:i<l.length:=(by rw [eZ] at hi;exact hi);have:look (vO l m) (i+1000)=some (ob (bE (outs l m) i)):=by
   unfold vO;rw [aU (by omega),aU (by omega),aU (by omega),aU (by omega)];exact kO (by omega) h0 hi
  rw [FI this (by omega) (by omega)];show some (bH.cells true false 1 (((flat aR.fl (bE (outs l m) i)).map (bJ fun k=>3+k)).map (bJ fun k=>nx+k)))=_;rw [hfl,hfl]
 ·rw [hfl,hfl];exact List.take_length
 refine (kE (ZH l m c1 c2 n) (j:=2003) (o:=.cells true false 1 (flat aR.fl (dE l m).face)) rfl).trans ?_;show some (bH.cells true false 1 ((flat aR.fl (dE l m).face).map (bJ fun k=>nx+k)))=_;rw [hfl]
def wN (nx:Nat)(l:List Pt)(m:List Ed)(c1 c2:Nat)(n:Int)(T:List Value)(W:Heap):Heap :=
 (nx+7,.cells true false 1 (IH (nx+3) (nx+4) (nx+9) (nx+8) (nx+2003) l.length m.length (aO l m m.length).length (outs l m).length c1 c2 n (some ((aO l m m.length).length,(aO l m m.length).length)))) ::
 (nx+2003,.cells true false 1 (flat aR.fl (dE l m).face))::(nx+9,.cells true false 5 (flat rP.fl (aO l m m.length)))::(nx+8,.cells true false 1 T)::(nx+3,.cells false true dC.sz (flat dC.fl l))::(nx+4,.cells false true dP.sz (flat dP.fl m))::W
def wTb (nx:Nat)(l:List Pt)(m:List Ed):List Value:=((tC (outs l m).length (outs l m)).map (bJ fun k=>3+k)).map (bJ fun k=>nx+k)
def wT (nx:Nat)(l:List Pt)(m:List Ed):Heap:=oP nx (oP 3 (tH (outs l m).length (outs l m) (outs l m).length))
theorem U9 {nx:Nat}{l:List Pt}{m:List Ed}{c1 c2:Nat}{n:Int}:wH nx l m c1 c2 n=wN nx l m c1 c2 n (wTb nx l m) (wT nx l m):=by
 have hfl:∀ {α:Type} (E:El α) (x:List α) (k:Nat),(flat E.fl x).map (bJ fun i=>k+i)=flat E.fl x:=fun E x k=>a8 (aC E x);unfold wN;rw [show IH (nx+3) (nx+4) (nx+9) (nx+8) (nx+2003) l.length m.length (aO l m m.length).length (outs l m).length c1 c2 n (some ((aO l m m.length).length,(aO l m m.length).length))=(IH 3 4 9 8 2003 l.length m.length (aO l m m.length).length (outs l m).length c1 c2 n (some ((aO l m m.length).length,(aO l m m.length).length))).map (bJ fun i=>nx+i) from rfl];have e1:=(hfl aR (dE l m).face nx).symm;have e2:flat rP.fl (aO l m m.length)=((flat rP.fl (aO l m m.length)).map (bJ fun i=>3+i)).map (bJ fun i=>nx+i):=(by rw [hfl,hfl]);have e3:flat dC.fl l=((flat dC.fl l).map (bJ fun i=>3+i)).map (bJ fun i=>nx+i):=(by rw [hfl,hfl]);have e4:flat dP.fl m=((flat dP.fl m).map (bJ fun i=>3+i)).map (bJ fun i=>nx+i):=(by rw [hfl,hfl]);rw [e1,e2,e3,e4];rfl
theorem aH7 {nx:Nat}{l:List Pt}{m:List Ed}{c1 c2:Nat}{n:Int}(ho:aY l m n=true)(hs:l.length≤1000∧m.length≤1000):WA (wN nx l m c1 c2 n (wTb nx l m) (wT nx l m)) (nx+7) l m n:=U9▸aLC ho hs
theorem aAW {nx:Nat}{l:List Pt}{m:List Ed}{c1 c2:Nat}{n:Int}(hl:l.length≤1000){k:Nat}(hk:k<nx∨nx+2004≤k):look (wN nx l m c1 c2 n (wTb nx l m) (wT nx l m)) k=none:=U9▸aHp hl hk
def aCP:Nat × XF:=(35,fun args h nx K=>∃ l m n p q,args=[mapA p q n]∧oM dC h p l∧oM dP h q m∧(l.length≤1000∧m.length≤1000) ∧
 ((aY l m n=true∧K (.tuple #[.pointer (some ⟨nx+7,0,none⟩),iv 0]) (app (eI h) (wN nx l m (pL p) (pL q) n (wTb nx l m) (wT nx l m))) (nx+2004))∨(aY l m n=false∧K (.tuple #[.pointer none,iv 1]) h nx)))
theorem ZP {ι:Nat→Loc}{B:Nat}{h h':Heap}{nx:Nat}{w:World}(H:aQ ι B h nx w)(e:∀ k,look h' k=look h k):aQ ι B h' nx w :=
 ⟨fun k o hk=>H.obj k o (by rw [← e];exact hk),fun k k' o o' hk hk'=>H.sep k k' o o' (by rw [← e];exact hk) (by rw [← e];exact hk'),fun k o hk=>H.low k o (by rw [← e];exact hk),H.size,fun k o hk=>H.sc k o (by rw [← e];exact hk)⟩
theorem aIR:dJ Go.Proofs.Tryz.prog aCP.1 aCP.2:=by
 refine⟨fun args h nx K hx ι B w H hs=>?_,fun args h nx K hx=>?_⟩
 ·obtain⟨l,m,n,p,q,rfl,hl,hm,hlm,hx⟩:=hx;rw [← U9] at hx;have h0:=aN1.1 [mapA p q n] h nx (fun v h' nx'=>∃ h'',(∀ k,look h'' k=look h' k)∧K v h'' nx') ⟨l,m,n,p,q,rfl,hl,hm,hlm,by
   rcases hx with ⟨ho,hx⟩|⟨ho,hx⟩
   ·refine .inl ⟨ho,_,fun k=>?_,hx⟩;rw [gV,gV,jX];cases e1:look h k with
    |none =>
     show look (wH nx l m (pL p) (pL q) n) k=_;cases e2:look (oP nx (ZH l m (pL p) (pL q) n)) k with
     |none=>exact e2
     |some o=>exact e2
    |some o =>
     have hlow:=H.low k o e1;have e2:look (oP nx (ZH l m (pL p) (pL q) n)) k=none:=aHp hlm.1 (.inl hlow);rw [e2];rfl
   exact .inr ⟨ho,_,fun k=>rfl,hx⟩⟩ ι B w H hs
  refine⟨h0.1,CallsIn.mono h0.2 fun e w' hr=>?_⟩;cases e with
  |returned u =>
   obtain⟨v,h1,nx1,ι1,⟨h2,e2,hk⟩,a1,a2,a3,a4,a5,a6⟩:=hr;exact⟨v,h2,nx1,ι1,hk,a1,ZP a2 e2,a3,a4,a5,a6⟩
  |_=>exact hr.elim
 obtain⟨l,m,n,p,q,rfl,hl,hm,hlm,hx⟩:=hx;rcases hx with ⟨ho,hx⟩|⟨ho,hx⟩
 ·exact⟨_,_,_,hx,fun K' hk=>⟨l,m,n,p,q,rfl,hl,hm,hlm,.inl ⟨ho,hk⟩⟩⟩
 exact⟨_,_,_,hx,fun K' hk=>⟨l,m,n,p,q,rfl,hl,hm,hlm,.inr ⟨ho,hk⟩⟩⟩
def foM (l:List Pt)(m:List Ed):Option (Nat × Nat):=some ((aO l m m.length).length,(aO l m m.length).length)
def J8 (l:List Pt)(m:List Ed)(n:Int)(c1 c2:Nat)(s:Nat):Heap :=
 (5,.cells false true dP.sz (flat dP.fl m))::(6,.cells false true 1 (flat aR.fl (dE l m).face))::fK l (aO l m m.length) (outs l m) m.length c1 c2 n (foM l m) s
theorem aD4 {h:Heap}{p:Nat}{l:List Pt}{m:List Ed}{n:Int}(hw:WA h p l m n)(k3 s:Nat):∃ c1 c2,∃ ρ:Nat→Nat,ρ 0=p∧ρ 3=k3 ∧
  ∀ k o,look (J8 l m n c1 c2 s) k=some o→k<2000∧∃ g sz cs0,o=.cells false g sz cs0∧sz≠0∧(g=true→dL cs0=true)∧(∀ v∈cs0,CC 2000 v)∧∃ wr g' sz' cs,look h (ρ k)=some (.cells wr g' sz' cs)∧cs.take cs0.length=cs0.map (bJ ρ):=by
 obtain⟨ok,sm,k0,k1,kd,kt,kf,nm,c1,c2,w,⟨w1,g1,s1,x1,a1,b1⟩,w2,g2,s2,x2,a2,b2⟩:=hw;refine⟨c1,c2,rhW p k0 k1 kd kt kf k3 nm s,rfl,rfl,fun k o hk=>?_⟩;unfold J8 at hk;rw [aB] at hk;split at hk
 ·rename_i hb;injection hk with hk;subst hk;have:=beq_true hb;subst this;exact⟨by omega,true,dP.sz,_,rfl,by decide,fun _=>aC dP m,fun v hv=>bY (aT (aC dP m) hv),w1,g1,s1,x1,a1,by rw [b1];exact (a8 (aC dP m)).symm⟩
 rw [aB] at hk;split at hk
 ·rename_i hb;injection hk with hk;subst hk;have:=beq_true hb;subst this;exact⟨by omega,true,1,_,rfl,by omega,fun _=>aC aR _,fun v hv=>bY (aT (aC aR _) hv),w2,g2,s2,x2,a2,by rw [b2];exact (a8 (aC aR _)).symm⟩
 exact M1 w (by rw [eZ];exact sm.1) s k o hk
theorem aKf {h:Heap}{p k3:Nat}{l:List Pt}{m:List Ed}{n:Int}(hw:WA h p l m n)(s:Nat){L:List Int}{c:Nat}(hL:∃ wr g sz cs,look h k3=some (.cells wr g sz cs)∧cs.take (flat aR.fl L).length=flat aR.fl L){nx:Nat} :
  ∃ c1 c2,In [.pointer (some ⟨0,0,none⟩),.slice (some ⟨3,0,none⟩) L.length c] ((3,.cells false true 1 (flat aR.fl L))::J8 l m n c1 c2 s) 2000 [.pointer (some ⟨p,0,none⟩),.slice (some ⟨k3,0,none⟩) L.length c] h nx:=by
 obtain⟨c1,c2,ρ,e0,e3,ho⟩:=aD4 hw k3 s;refine⟨c1,c2,nT ρ ?_ ?_ fun k o hk=>?_⟩
 ·show _=[Value.pointer (some ⟨ρ 0,0+0,none⟩),.slice (some ⟨ρ 3,0+0,none⟩) L.length c];rw [e0,e3]
 ·exact List.forall_mem_cons.2 ⟨⟨Nat.le_of_ble_eq_true rfl,rfl⟩,List.forall_mem_cons.2 ⟨⟨Nat.le_of_ble_eq_true rfl,fun h=>by cases h⟩,fun _ h=>(by cases h)⟩⟩
 rw [aB] at hk;split at hk
 ·rename_i hb;injection hk with hk;subst hk;have:=beq_true hb;subst this;obtain⟨wr,g,sz,cs,h1,h2⟩:=hL;exact⟨by omega,true,1,_,rfl,by omega,fun _=>aC aR L,fun v hv=>bY (aT (aC aR L) hv),wr,g,sz,cs,by rw [e3];exact h1,by rw [h2];exact (a8 (aC aR L)).symm⟩
 exact ho k o hk
def wcX (s:List Pt→List Ed→Int→List Value→Option (Bool × Value)):XF:=fun args h nx K =>
 ∃ p r l m n,args=.pointer (some ⟨p,0,none⟩)::r∧WA h p l m n∧(match s l m n r with|some pr=>dT pr.1 (K pr.2 h nx)|none=>False)
def aLl (s:List Pt→List Ed→Int→List Int→Option (Bool × Value)):XF:=fun args h nx K =>
 ∃ p k3 l m n L c,args=[.pointer (some ⟨p,0,none⟩),.slice (some ⟨k3,0,none⟩) L.length c]∧WA h p l m n∧(∃ wr g sz cs,look h k3=some (.cells wr g sz cs)∧cs.take (flat aR.fl L).length=flat aR.fl L)∧(match s l m n L with|some pr=>dT pr.1 (K pr.2 h nx)|none=>False)
theorem aFK {P:Program}{C:VC}{f:Nat}{s:List Pt→List Ed→Int→List Int→Option (Bool × Value)}(hC:bC P C)
  (hs:∀ l m n L v,s l m n L=some (true,v)→aY l m n=true→l.length≤1000∧m.length≤1000→gT v=true∧∃ s0,∀ c1 c2 c,C f [.pointer (some ⟨0,0,none⟩),.slice (some ⟨3,0,none⟩) L.length c] ((3,.cells false true 1 (flat aR.fl L))::J8 l m n c1 c2 s0) 2000 (fun u _ _=>u=v)):dJ P f (aLl s):=by
 refine (jD (S:=fun args0 h0 n0 v1 h1 k=>gT v1=true∧C f args0 h0 n0 (fun u _ _=>u=v1)∧h1=[]∧k=0) hC ?_).mono ?_ ?_
 ·rintro args0 h0 n0 v1 h1 k ⟨e2,e3,rfl,rfl⟩;exact⟨rfl,_,e3,fun v h nx e=>by rw [e];exact lJ e2⟩
 ·rintro args h nx K ⟨p,k3,l,m,n,L,c,rfl,hw,hL,hx⟩;split at hx
  case h_2=>exact hx.elim
  rename_i pr e1;obtain⟨bb,u⟩:=pr;obtain⟨rfl,hx⟩:=aD.1 hx;obtain⟨a2,s0,a4⟩:=hs l m n L u e1 hw.ok hw.sm;obtain⟨c1,c2,i⟩:=aKf hw s0 hL (c:=c) (nx:=nx);refine⟨_,_,2000,u,[],0,⟨a2,a4 c1 c2 c,rfl,rfl⟩,i,?_⟩;simp only [rZ,zL,oP,o5,iQ a2,Nat.add_zero];exact hx
 rintro args h nx K ⟨p,k3,l,m,n,L,c,rfl,hw,hL,hx⟩;split at hx
 case h_2=>exact hx.elim
 rename_i pr e1;obtain⟨hb,hx⟩:=aD.1 hx;exact⟨pr.2,h,nx,hx,fun K' hk=>⟨p,k3,l,m,n,L,c,rfl,hw,hL,by rw [e1];exact aJ hb hk⟩⟩
def aCj (nx:Nat):Heap→Bool
 |[]=>true
 |(k,_)::r=>Nat.blt k nx&&aCj nx r
theorem BU {nx:Nat}:∀ {H:Heap},aCj nx H=true→∀ k o,look H k=some o→k<nx
 |[],_,k,o,h=>by cases h
 |(j,q)::r,hl,k,o,h=>by
  simp only [aCj,Bool.and_eq_true] at hl;rw [aB] at h;split at h
  ·rename_i hb;rw [← beq_true hb];exact Nat.le_of_ble_eq_true hl.1
  exact BU hl.2 k o h
theorem TG {H W:Heap}{p nx:Nat}{l:List Pt}{m:List Ed}{n:Int}(hw:WA W p l m n)(hno:∀ k,k<nx→look W k=none)(hH:aCj nx H=true):WA (app H W) p l m n :=
 hw.ext fun k o hk=>by
  rw [gV];cases hh:look H k with
  |none=>exact hk
  |some o'=>rw [hno k (BU hH k o' hh)] at hk;cases hk
theorem NC {h:Heap}{p q:Nat}{v:bH}{l:List Pt}{m:List Ed}{n:Int}(hw:WA h p l m n)(hq:look h q=none):WA (cU h q v) p l m n:=hw.ext (ext_cons (fun _ _ h=>h) hq)
theorem NB {H W:Heap}{nx k:Nat}(hH:aCj nx H=true)(hk:nx≤k)(hW:look W k=none):look (app H W) k=none:=by
 rw [gV];cases hh:look H k with
 |none=>exact hW
 |some o'=>have:=BU hH k o' hh;omega
def aJU (xl:List (Nat × XF))(k:Nat):DC:={ aA with X:=look xl,M:=k }
theorem D3 {xl:List (Nat × XF)}(h:kG xl)(k:Nat):pA Go.Proofs.Tryz.prog (aJU xl k) where
 ar:=dV.ar
 tab:=dV.tab
 mixed:=dV.mixed
 funcs:=dV.funcs
 xs:=h.look
def I9 (n a:Int):Bool:=decide (0≤a)&&decide (a≤n)
def aCm (l:List Pt)(m:List Ed)(n:Int):List Int→Option (Bool × Value)
 |[a]=>some (true,.bool (I9 n a))
 |[a,b]=>some (true,.bool (I9 n a&&I9 n b))
 |_=>none
def aHQ:Nat × XF:=(41,aLl aCm)
theorem aN9:dJ Go.Proofs.Tryz.prog aHQ.1 aHQ.2:=aFK (f:=41) (s:=aCm) (jN (D3 (xl:=[]) .nil 4) 6).1 fun l m n L v hs ho hm=>by
 have:(∃ a,L=[a]∧v=.bool (I9 n a))∨(∃ a b,L=[a,b]∧v=.bool (I9 n a&&I9 n b)):=by
  unfold aCm at hs;split at hs
  ·injection hs with hs;injection hs with h1 h2;exact .inl ⟨_,rfl,h2.symm⟩
  ·injection hs with hs;injection hs with h1 h2;exact .inr ⟨_,_,rfl,h2.symm⟩
  ·cases hs
 clear hs;rcases this with ⟨a,rfl,rfl⟩|⟨a,b,rfl,rfl⟩
 ·refine⟨rfl,0,fun c1 c2 c=>?_⟩;unfold I9;unfold J8 fK IH
  repeat' (((conv=>whnf);apply bm<;>intro g))
  all_goals (conv=>whnf)
  all_goals (show Value.bool _=Value.bool _;congr 1;simp [aJU,aA,aF] at *;try omega)
 refine⟨rfl,0,fun c1 c2 c=>?_⟩;unfold I9;unfold J8 fK IH
 repeat' (((conv=>whnf);apply bm<;>intro g))
 all_goals (conv=>whnf)
 all_goals (show Value.bool _=Value.bool _;congr 1;simp [aJU,aA,aF] at *;try omega)
theorem cB {l:List Pt}{m:List Ed}{n:Int}(h:aY l m n=true):cM l m n=true:=by
 simp only [aY,gW,Bool.and_eq_true] at h;exact h.1.1
theorem aG6 {b:Nat}{ρ:Nat→Nat}(hρ:∀ k,k<b→ρ k=k){v:Value}(hn:x6 b v)(hi:fL id v=v):fL ρ v=v :=
 (GO (ι:=jR id) (ι':=jR ρ) (n:=b) (fun k hk=>by show Loc.lay _ _ _=Loc.lay _ _ _;rw [hρ k hk];rfl) hn).trans hi
def edV (e:Ed):Value:=.agg #[iv e.a,iv e.b,iv e.l,iv e.r,iv e.n]
def bS (P:Ed→Bool)(m:List Ed):Nat→List Int
 |0=>[]
 |i+1=>if P (cN m i)=true then bS P m i++[(i:Int)] else bS P m i
theorem BI {P:Ed→Bool}{m:List Ed}{i:Nat}(h:P (cN m i)=true):bS P m (i+1)=bS P m i++[(i:Int)]:=by
 show (if _ then _ else _)=_;rw [if_pos h]
theorem tW {P:Ed→Bool}{m:List Ed}{i:Nat}(h:P (cN m i)=false):bS P m (i+1)=bS P m i:=by
 show (if _ then _ else _)=_;rw [if_neg (by rw [h];decide)]
theorem pW (P:Ed→Bool)(m:List Ed):∀ i,(bS P m i).length≤i
 |0=>Nat.le_refl _
 |i+1=>by
  have:=pW P m i;unfold bS;split
  ·rw [List.length_append,List.length_singleton];omega
  omega
theorem EM {a b:Nat}(h:a≤b){v:Value}(hv:x6 a v):x6 b v:=qM (ι:=jR id) (ι':=jR id) h (fun _ _=>rfl) hv
theorem aJn {L:List (Nat × Nat)}{b k:Nat}(hL:∀ p∈L,b≤p.1)(hk:k<b):rn L k=k:=by
 unfold rn;split
 ·rename_i q hq;have:=hL _ (aW hq);simp only at this;omega
 rfl
def aNn (cl:List (Nat × XF))(m:List Ed)(H0:Heap)(g:Nat)(cap:List Value)(P:Ed→Bool):Prop:=∀ i,i<m.length→∀ (h':Heap) (nx':Nat) (K:KE),(∀ k o,look H0 k=some o→look h' k=some o)→K (.bool (P (cN m i))) h' nx'→CX (look cl) g (edV (cN m i)::cap) h' nx' K
def KG (R:Heap)(nP:Nat)(m:List Ed)(nD nL c1 c2:Nat)(n:Int)(fo:Option (Nat × Nat)):Heap:=(0,.cells false false 1 (IH 4 5 1 2 6 nP m.length nD nL c1 c2 n fo))::(5,.cells false true dP.sz (flat dP.fl m))::R
def pC (g:Nat)(cap:List Value):Value:=.func (.func g) #[] cap.toArray
structure S92 (cl:List (Nat × XF)) (args0:List Value) (h0:Heap) (R:Heap) (nP:Nat) (m:List Ed) (nD nL c1 c2:Nat) (n:Int) (fo:Option (Nat × Nat)) (g:Nat) (cap:List Value) (P:Ed→Bool):Prop where
 ea:args0=[.pointer (some ⟨0,0,none⟩),pC g cap]
 eh:h0=KG R nP m nD nL c1 c2 n fo
 sm:m.length≤1000
 hok:wO h0 2000
 nmF:x6 2000 (pC g cap)
 renF:fL id (pC g cap)=pC g cap
 cp:lC cap=true
 clo:aNn cl m h0 g cap P
def T92 (cl:List (Nat × XF))(args0:List Value)(h0:Heap)(n0:Nat)(out:List Int)(e:Option Int):Prop :=
 ∃ R nP m nD nL c1 c2 n fo g cap P,S92 cl args0 h0 R nP m nD nL c1 c2 n fo g cap P∧n0=2000∧out=bS P m m.length∧e=none
def V5 (F v:Value)(N c2:Nat)(j:Int):List (Nat × Value):=[(1,F),(5,v),(12,.slice (some ⟨5,0,none⟩) N c2),(13,iv N),(14,iv j)]
theorem w92 {cl:List (Nat × XF)}{args0:List Value}{h0:Heap}{n0:Nat}{out:List Int}{e:Option Int}(h:T92 cl args0 h0 n0 out e):body cl 61 args0 h0 n0 (Yields aR out e):=by
 obtain⟨R,nP,m,nD,nL,c1,c2,n,fo,g,cap,P,⟨rfl,rfl,sm,hok,nmF,renF,cp,clo⟩,rfl,rfl,rfl⟩:=h;have hN:∀ k,2000≤k→look (KG R nP m nD nL c1 c2 n fo) k=none:=fun k hk=>bP hok hk;have hrF:∀ L:List (Nat × Nat),(∀ p∈L,2000≤p.1)→fL (rn L) (pC g cap)=pC g cap:=fun L hL=>aG6 (b:=2000) (fun k hk=>aJn hL hk) nmF renF;(conv=>whnf)
 refine⟨fun q e h nx=>∃ (i:Nat) (j:Int),j=i∧i≤m.length∧q=m.length - i ∧
  ((bS P m i=[]∧e=V5 (pC g cap) (.slice none 0 0) m.length c2 j∧h=KG R nP m nD nL c1 c2 n fo∧nx=2000) ∨
   (0<(bS P m i).length∧e=V5 (pC g cap) (.slice (some ⟨2000,0,none⟩) (bS P m i).length (bS P m i).length) m.length c2 j∧h=[(2000,.cells true false 1 (flat aR.fl (bS P m i)))]++KG R nP m nD nL c1 c2 n fo∧nx=2001)),⟨m.length,?_⟩,?_⟩
 ·refine cC (P:=[]) (W:=KG R nP m nD nL c1 c2 n fo) (e0:=V5 (pC g cap) (.slice none 0 0) m.length c2 0) (n0:=2000) [] ⟨0,0,rfl,Nat.zero_le _,rfl,.inl ⟨rfl,rfl,rfl,rfl⟩⟩ ?_ hok (fun _ _ h=>h) (fun _ h=>by cases h) (fun _ h=>by cases h) (fun _ h=>by cases h) (by omega);unfold V5;refine List.forall_mem_cons.2 ⟨⟨by rw [hrF _ (fun _ h=>by cases h)];rfl,nmF⟩,?_⟩;((repeat' refine iE rfl rfl ?_);exact iN)
 rintro q e h nx ⟨i,j,hj,hi,rfl,hx⟩;rcases hx with ⟨hnil,rfl,rfl,rfl⟩|⟨hpos,rfl,rfl,rfl⟩
 ·unfold V5 KG;((conv=>whnf);apply bm<;>intro m1);rotate_left
  ·have hil:i=m.length:=(by simp [aA,aF] at m1;omega);(conv=>whnf);rw [hil] at hnil;rw [hnil];rfl
  have hil:i<m.length:=(by simp [aA,aF] at m1;omega);((conv=>whnf);apply bm<;>intro m2);rotate_left
  ·exfalso;simp [aA,aF] at m2;omega
  (conv=>whnf);refine JA (ZI m (i:=i) hil ?_) ?_
  ·show _+Int.toNat j*5=_;omega
  (conv=>whnf);rw [show lC cap.toArray.toList=true from cp];(conv=>whnf);refine clo i hil _ _ _ (c8 (aV (fun _ _ h=>h) (hN _ (by decide))) (hN _ (by decide))) ?_;((conv=>whnf);apply bm<;>intro p1);rotate_left
  ·have p1:P (cN m i)=false:=p1;have hf:bS P m (i+1)=[]:=(tW p1).trans hnil;((conv=>whnf);apply bm<;>intro m3)
   ·(conv=>whnf);refine⟨m.length - (i+1),by omega,?_⟩;refine cC (P:=[]) (W:=KG R nP m nD nL c1 c2 n fo) (e0:=V5 (pC g cap) (.slice none 0 0) m.length c2 (j+1)) (n0:=2000) [] ⟨i+1,j+1,by omega,by omega,rfl,.inl ⟨hf,rfl,rfl,rfl⟩⟩ ?_ hok ?_ (fun _ h=>by cases h) (fun _ h=>by cases h) (fun _ h=>by cases h) (by omega)
    ·unfold V5;refine List.forall_mem_cons.2 ⟨⟨by rw [hrF _ (fun _ h=>by cases h)];rfl,nmF⟩,?_⟩;((repeat' refine iE rfl rfl ?_);exact iN)
    exact c8 (aV (fun _ _ h=>h) (hN _ (by decide))) (hN _ (by decide))
   exfalso;simp [aA,aF,aH] at m3;omega
  have p1:P (cN m i)=true:=p1;have hf:bS P m (i+1)=[j]:=(by rw [BI p1,hnil,hj];rfl);((conv=>whnf);apply bm<;>intro m3);rotate_left
  ·exfalso;simp [aA,aF,aH] at m3;omega
  (conv=>whnf);refine⟨m.length - (i+1),by omega,?_⟩;refine cC (P:=[(2000,.cells true false 1 (flat aR.fl [j]))]) (W:=KG R nP m nD nL c1 c2 n fo) (e0:=V5 (pC g cap) (.slice (some ⟨2000,0,none⟩) 1 1) m.length c2 (j+1)) (n0:=2001) [(2000,2002)] ⟨i+1,j+1,by omega,by omega,rfl,.inr ⟨?_,?_,?_,rfl⟩⟩ ?_ hok ?_ ?_ ?_ ?_ (by omega)
  ·rw [hf];exact Nat.one_pos
  ·rw [hf];rfl
  ·rw [hf];rfl
  ·unfold V5;refine List.forall_mem_cons.2 ⟨⟨by rw [hrF _ (fun p h=>by rcases List.mem_cons.1 h with rfl|h;exact Nat.le_refl _;cases h)];rfl,EM (by omega) nmF⟩,?_⟩;((repeat' refine iE rfl rfl ?_);exact iN)
  ·repeat' first
    |exact fun _ _ h=>h
    |(refine aV ?_ (hN _ (by decide)))
    |(refine c8 ?_ (hN _ (by decide)))
  ·exact List.forall_mem_cons.2 ⟨⟨.inl ⟨Nat.le_of_ble_eq_true rfl,Nat.le_of_ble_eq_true rfl,Nat.le_of_ble_eq_true rfl⟩,_,rfl,bW (aC _ _) rfl⟩,fun _ h=>by cases h⟩
  ·show ∀ k∈[2000],∀ k'∈[2000],_;decide
  exact fun p h=>by rcases List.mem_cons.1 h with rfl|h;exact Nat.le_refl _;cases h
 unfold V5 KG;have hlen:(flat aR.fl (bS P m i)).length=(bS P m i).length:=(by rw [cJ];show _*1=_;omega);have hle:=pW P m i;((conv=>whnf);apply bm<;>intro m1);rotate_left
 ·have hil:i=m.length:=(by simp [aA,aF] at m1;omega);(conv=>whnf);rw [show bS P m m.length=bS P m i by rw [← hil]];have:=qU aR (l:=bS P m i) (e:=none) (h:=[(2000,.cells true false 1 (flat aR.fl (bS P m i)))]++KG R nP m nD nL c1 c2 n fo) (q:=2000) (nx:=2001) hpos rfl;exact this
 have hil:i<m.length:=(by simp [aA,aF] at m1;omega);((conv=>whnf);apply bm<;>intro m2);rotate_left
 ·exfalso;simp [aA,aF] at m2;omega
 (conv=>whnf);refine JA (ZI m (i:=i) hil ?_) ?_
 ·show _+Int.toNat j*5=_;omega
 (conv=>whnf);rw [show lC cap.toArray.toList=true from cp];(conv=>whnf);refine clo i hil _ _ _ (c8 (aV (ext_cons (fun _ _ h=>h) (hN _ (by decide))) (hN _ (by decide))) (hN _ (by decide))) ?_;((conv=>whnf);apply bm<;>intro p1);rotate_left
 ·have p1:P (cN m i)=false:=p1;have hf:bS P m (i+1)=bS P m i:=tW p1;((conv=>whnf);apply bm<;>intro m3)
  ·(conv=>whnf);refine⟨m.length - (i+1),by omega,?_⟩;refine cC (P:=[(2000,.cells true false 1 (flat aR.fl (bS P m i)))]) (W:=KG R nP m nD nL c1 c2 n fo) (e0:=V5 (pC g cap) (.slice (some ⟨2000,0,none⟩) (bS P m i).length (bS P m i).length) m.length c2 (j+1)) (n0:=2001) [] ⟨i+1,j+1,by omega,by omega,rfl,.inr ⟨?_,?_,?_,rfl⟩⟩ ?_ hok ?_ ?_ ?_ (fun _ h=>by cases h) (by omega)
   ·rw [hf];exact hpos
   ·rw [hf];rfl
   ·rw [hf];rfl
   ·unfold V5;refine List.forall_mem_cons.2 ⟨⟨by rw [hrF _ (fun _ h=>by cases h)];rfl,EM (by omega) nmF⟩,?_⟩;((repeat' refine iE rfl rfl ?_);exact iN)
   ·repeat' first
     |exact fun _ _ h=>h
     |(refine aV ?_ (hN _ (by decide)))
     |(refine c8 ?_ (hN _ (by decide)))
     |(refine ext_cons ?_ (hN _ (by decide)))
   ·exact List.forall_mem_cons.2 ⟨⟨.inl ⟨Nat.le_of_ble_eq_true rfl,Nat.le_of_ble_eq_true rfl,Nat.le_of_ble_eq_true rfl⟩,_,rfl,aG (aC _ _)⟩,fun _ h=>by cases h⟩
   show ∀ k∈[2000],∀ k'∈[2000],_;decide
  exfalso;simp [aA,aF,aH] at m3;omega
 have p1:P (cN m i)=true:=p1;have hf:bS P m (i+1)=bS P m i++[j]:=(by rw [BI p1,hj]);((conv=>whnf);apply bm<;>intro m4)
 ·exfalso;have:=Nat.le_of_ble_eq_true m4;omega
 ((conv=>whnf);apply bm<;>intro m5);rotate_left
 ·exact xY (s:=1) (by omega) (by omega) m5
 ((conv=>whnf);apply bm<;>intro m3);rotate_left
 ·exfalso;simp [aA,aF,aH] at m3;omega
 (conv=>whnf);refine⟨m.length - (i+1),by omega,?_⟩;refine cC (P:=[(2000,.cells true false 1 (flat aR.fl (bS P m i++[j])))]) (W:=KG R nP m nD nL c1 c2 n fo) (e0:=V5 (pC g cap) (.slice (some ⟨2000,0,none⟩) ((bS P m i).length+1) ((bS P m i).length+1)) m.length c2 (j+1)) (n0:=2001) [(2000,2003)] ⟨i+1,j+1,by omega,by omega,rfl,.inr ⟨?_,?_,?_,rfl⟩⟩ ?_ hok ?_ ?_ ?_ ?_ (by omega)
 ·rw [hf,List.length_append];exact Nat.succ_pos _
 ·rw [hf,List.length_append];rfl
 ·rw [hf];rfl
 ·unfold V5;refine List.forall_mem_cons.2 ⟨⟨by rw [hrF _ (fun p h=>by rcases List.mem_cons.1 h with rfl|h;exact Nat.le_refl _;cases h)];rfl,EM (by omega) nmF⟩,?_⟩;((repeat' refine iE rfl rfl ?_);exact iN)
 ·exact aV (gK (aV (c8 (aV (ext_cons (fun _ _ h=>h) (hN _ (by decide))) (hN _ (by decide))) (hN _ (by decide))) (hN _ (by decide))) (hN _ (by decide))) (hN _ (by decide))
 ·exact List.forall_mem_cons.2 ⟨⟨.inl ⟨Nat.le_of_ble_eq_true rfl,Nat.le_of_ble_eq_true rfl,Nat.le_of_ble_eq_true rfl⟩,_,rfl,bW (aC aR _) (nQ aR (bS P m i) j rfl)⟩,fun _ h=>by cases h⟩
 ·show ∀ k∈[2000],∀ k'∈[2000],_;decide
 exact fun p h=>by rcases List.mem_cons.1 h with rfl|h;exact Nat.le_refl _;cases h
def X92 (cl:List (Nat × XF)):Nat × XF:=(61,yOf aR (T92 cl))
theorem x92 {cl:List (Nat × XF)}(h:kG cl):dJ Go.Proofs.Tryz.prog (X92 cl).1 (X92 cl).2:=LB aR (aK h) fun _ _ _ _ _=>w92
section
variable {l:List Pt}{m:List Ed}{n:Int}
structure Hs (l:List Pt) (m:List Ed) (t:L6):Prop where
 seen:t.seen.length=2*m.length
 face:t.face.length=2*m.length
 cl:∀ i:Nat,i<2*m.length→cV t.seen i=true→cV t.seen (vU (aO l m m.length) (outs l m) i).toNat=true
 has:∀ f:Int,(1≤f∧f≤t.many)∨(f=0∧1≤t.out)→∃ i,i<2*m.length∧cV t.seen i=true∧aE t.face i=f
 low:0≤t.many
theorem vK {D:List Dt}{ls:List (List Int)}{d:Int}{t:Nat}(h:t<iT D ls d):aE (kS D ls d) t=jT D ls d t:=by
 unfold kS aE;rw [List.getD_eq_getElem?_getD,List.getElem?_map,List.getElem?_range h];rfl
theorem kZ {D:List Dt}{ls:List (List Int)}{d:Int}:(kS D ls d).length=iT D ls d:=by simp [kS]
theorem aFo (hok:cM l m n=true){t:L6}(h:Hs l m t){d:Nat}(hd:d<2*m.length):Hs l m (gI l (aO l m m.length) (outs l m) t d):=by
 unfold gI;cases hs:cV t.seen d with
 |true=>rw [if_pos rfl];exact h
 |false =>
  rw [if_neg (by decide)];simp only;have hin:=p9 hok (d:=(d:Int)) (by omega) (by omega);have hT:jT (aO l m m.length) (outs l m) d (iT (aO l m m.length) (outs l m) d)=d:=by
   have hw:=List.all_eq_true.1 (BY hok) d (List.mem_range.2 (by rw [a9];exact hd));exact of_decide_eq_true hw
  have hT1:1≤iT (aO l m m.length) (outs l m) d:=by
   have:=(jI (aO l m m.length) (outs l m) d (aO l m m.length).length 1).1;unfold iT;omega
  have hget:∀ k,k<iT (aO l m m.length) (outs l m) d→aE (kS (aO l m m.length) (outs l m) d) k=jT (aO l m m.length) (outs l m) d k:=fun k hk=>vK hk;have hlen:(kS (aO l m m.length) (outs l m) d).length=iT (aO l m m.length) (outs l m) d:=kZ;generalize kS (aO l m m.length) (outs l m) d=W at hget hlen ⊢;generalize iT (aO l m m.length) (outs l m) d=T at *;have hr:∀ k,k<W.length→(aE W k).toNat<2*m.length:=fun k hk=>by
   rw [hget k (by omega)];have:=hin k;omega
  -- what was seen lies in no walk of what was not
  have hdis:∀ k,k<W.length→cV t.seen (aE W k).toNat=true→False:=fun k hk hsk=>by
   rw [hget k (by omega)] at hsk;have hf:∀ j,cV t.seen (jT (aO l m m.length) (outs l m) d (k+j)).toNat=true:=by
    intro j
    induction j with
    |zero=>exact hsk
    |succ j ih =>
     have hi:=hin (k+j);have:=h.cl (jT (aO l m m.length) (outs l m) d (k+j)).toNat (by omega) ih;rw [Int.toNat_of_nonneg hi.1] at this;exact this
   have:=hf (T - k);rw [show k+(T - k)=T by omega,hT,Int.toNat_natCast,hs] at this;cases this
  generalize BH l (aO l m m.length) W W.length=A;have hsee:∀ i,(∃ k,k<W.length∧(aE W k).toNat=i)→cV (fF t.seen W W.length) i=true:=fun i hi=>(mT t.seen W (by rw [h.seen];exact hr) i _ (Nat.le_refl _)).1 hi;have hkeep:∀ i,cV t.seen i=true→cV (fF t.seen W W.length) i=true:=fun i hi=>by
   by_cases e:∃ k,k<W.length∧(aE W k).toNat=i
   ·exact hsee i e
   rw [(mT t.seen W (by rw [h.seen];exact hr) i _ (Nat.le_refl _)).2 e];exact hi
  have hold:∀ (fc f:Int),(∃ i,i<2*m.length∧cV t.seen i=true∧aE t.face i=f)→∃ i,i<2*m.length∧cV (fF t.seen W W.length) i=true∧aE (fI t.face W fc W.length) i=f:=fun fc f ⟨i,a1,a2,a3⟩=>by
   refine⟨i,a1,hkeep i a2,?_⟩;rw [(m8 t.face W fc (by rw [h.face];exact hr) i _ (Nat.le_refl _)).2 fun ⟨k,b1,b2⟩=>hdis k b1 (by rw [b2];exact a2)];exact a3
  have hd0:∃ k,k<W.length∧(aE W k).toNat=d:=⟨0,by omega,by rw [hget 0 (by omega)];rfl⟩;have hnew:∀ fc:Int,∃ i,i<2*m.length∧cV (fF t.seen W W.length) i=true∧aE (fI t.face W fc W.length) i=fc:=fun fc =>
   ⟨d,hd,hsee d hd0,(m8 t.face W fc (by rw [h.face];exact hr) d _ (Nat.le_refl _)).1 hd0⟩
  refine⟨by rw [kJ];exact h.seen,by rw [jJ];exact h.face,fun i hi hsi=>?_,fun f hf=>?_,?_⟩
  ·by_cases e:∃ k,k<W.length∧(aE W k).toNat=i
   ·obtain⟨k,b1,b2⟩:=e;have hk:=hin k;rw [hget k (by omega)] at b2;have e2:(i:Int)=jT (aO l m m.length) (outs l m) d k:=(by omega);rw [e2];show cV (fF t.seen W W.length) (jT (aO l m m.length) (outs l m) d (k+1)).toNat=true;by_cases hl:k+1=T
    ·rw [hl,hT,Int.toNat_natCast];exact hsee d hd0
    exact hsee _ ⟨k+1,by omega,by rw [hget (k+1) (by omega)]⟩
   have:=hsi;rw [(mT t.seen W (by rw [h.seen];exact hr) i _ (Nat.le_refl _)).2 e] at this;exact hkeep _ (h.cl i hi this)
  ·have hlow:=h.low;by_cases hA:0<A
   ·simp only [if_pos hA] at hf ⊢;rcases hf with ⟨f1,f2⟩|f2
    ·by_cases e:f=t.many+1
     ·rw [e];exact hnew _
     exact hold _ f (h.has f (.inl ⟨f1,by omega⟩))
    exact hold _ f (h.has f (.inr f2))
   simp only [if_neg hA] at hf ⊢;rcases hf with f2|⟨f1,f2⟩
   ·exact hold _ f (h.has f (.inl f2))
   rw [f1];exact hnew 0
  have:=h.low;show 0≤if 0<A then t.many+1 else t.many
  split <;> omega
theorem R9 (hok:cM l m n=true):∀ d,d≤2*m.length→Hs l m (bK l (aO l m m.length) (outs l m) d)
 |0,_=>by
  refine⟨by simp [bK,a9],by simp [bK,a9],fun i hi h=>?_,fun f hf=>?_,Int.le_refl 0⟩
  ·unfold bK cV at h;rw [List.getD_eq_getElem?_getD,List.getElem?_replicate,a9,if_pos hi] at h;cases h
  have hf:(1≤f∧f≤0)∨(f=0∧(1:Int)≤0):=hf;omega
 |d+1,h=>aFo hok (R9 hok d (by omega)) (by omega)
theorem OK (x:Int):∀ (L:List Int) (i:Nat),(∃ k,k<L.length∧aE L k=x)→∃ k,k<L.length∧aE L k=x∧(∀ j,j<k→aE L j≠x)∧tD x L i=((i+k:Nat):Int)
 |[],i,⟨k,h,_⟩=>by cases h
 |b::r,i,⟨k,h1,h2⟩=>by
  unfold tD;by_cases e:x=b
  ·rw [if_pos e];exact⟨0,Nat.succ_pos _,e.symm,fun j hj=>absurd hj (Nat.not_lt_zero j),rfl⟩
  rw [if_neg e];cases k with
  |zero=>exact absurd h2.symm e
  |succ k =>
   obtain⟨q,a1,a2,a3,a4⟩:=OK x r (i+1) ⟨k,by simpa using h1,h2⟩;refine⟨q+1,by simpa using a1,a2,fun j hj=>?_,by rw [a4];congr 1;omega⟩;cases j with
   |zero=>exact fun hb=>e hb.symm
   |succ j=>exact a3 j (by omega)
theorem aD5 (ho:aY l m n=true){f:Int}(h0:0≤f)(h1:f≤n):∃ k,k<2*m.length∧aE (dE l m).face k=f∧(∀ j,j<k→aE (dE l m).face j≠f)∧tD f (dE l m).face 0=(k:Int):=by
 have ho':=ho;simp only [aY,gW,Bool.and_eq_true,decide_eq_true_eq] at ho';obtain⟨⟨hok,_⟩,_,hn,hmn,_⟩:=ho';have hs:=R9 hok (2*m.length) (Nat.le_refl _);have e:bK l (aO l m m.length) (outs l m) (2*m.length)=dE l m:=(by unfold dE nmD;rw [a9]);rw [e] at hs;simp only [zY,Bool.and_eq_true,decide_eq_true_eq] at hn;obtain⟨i,a1,a2,a3⟩:=hs.has f (by
  by_cases e0:f=0
  ·exact .inr ⟨e0,by omega⟩
  exact .inl ⟨by omega,by omega⟩)
 obtain⟨k,b1,b2,b3,b4⟩:=OK f (dE l m).face 0 ⟨i,by rw [hs.face];exact a1,a3⟩;exact⟨k,by rw [hs.face] at b1;exact b1,b2,b3,by rw [b4,Nat.zero_add]⟩
end
def mRX (s:List Pt→List Ed→Int→List Value→Option (Bool × List Int × Option Int)):XF:=fun args h nx K=>∃ p q n r l m,args=mapA p q n::r∧oM dC h p l∧oM dP h q m ∧
 (match s l m n r with|some pr=>dT pr.1 (LR aR pr.2.1 pr.2.2 h nx K)|none=>False)
theorem aCR {P:Program}{C:VC}{f:Nat}{s:List Pt→List Ed→Int→List Value→Option (Bool × List Int × Option Int)}(hC:bC P C)
  (hs:∀ l m n r out e,s l m n r=some (true,out,e)→fN r=true∧∀ c1 c2,C f (l8 l.length m.length c1 c2 n::r) (bR dC dP l m) 2 (Yields aR out e)):dJ P f (mRX s):=by
 refine (LB aR (T:=fun args0 h0 n0 out e=>C f args0 h0 n0 (Yields aR out e)) hC ?_).mono ?_ ?_
 ·rintro args0 h0 n0 out e hc;exact hc
 ·rintro args h nx K ⟨p,q,n,r,l,m,rfl,hl,hm,hx⟩;split at hx
  case h_2=>exact hx.elim
  rename_i pr e1;obtain⟨bb,out,e⟩:=pr;obtain⟨rfl,hx⟩:=aD.1 hx;obtain⟨a1,a3⟩:=hs l m n r out e e1;obtain⟨c1,c2,i⟩:=aD2 (n:=n) (nx:=nx) dC dP a1 hl hm;exact AG aR (a3 c1 c2) i hx
 rintro args h nx K ⟨p,q,n,r,l,m,rfl,hl,hm,hx⟩;split at hx
 case h_2=>exact hx.elim
 rename_i pr e1;obtain⟨bb,out,e⟩:=pr;obtain⟨hb,hx⟩:=aD.1 hx;cases out with
 |nil=>exact⟨_,_,_,hx,fun K' hk'=>⟨p,q,n,r,l,m,rfl,hl,hm,by rw [e1];exact aJ hb hk'⟩⟩
 |cons a t=>exact⟨_,_,_,hx,fun K' hk'=>⟨p,q,n,r,l,m,rfl,hl,hm,by rw [e1];exact aJ hb hk'⟩⟩
theorem YO {l:List Pt}{m:List Ed}{c1 c2 b:Nat}{n:Int}{cs:List Value}(hc:dL cs=true):wO (eI (cU (cU (cU (bR dC dP l m) 2 (.cells true false 1 [.slice (some ⟨0,0,none⟩) l.length c1,.slice (some ⟨1,0,none⟩) m.length c2,iv n])) 3 (.cells true false 1 cs)) 4 (.cells true false 1 [.slice (some ⟨0,0,none⟩) l.length c1,.slice (some ⟨1,0,none⟩) m.length c2,iv n]))) (b+5):=by
 have hb:∀ {b},5≤b→bT id b (.cells true false 1 [.slice (some ⟨0,0,none⟩) l.length c1,.slice (some ⟨1,0,none⟩) m.length c2,iv n]) (.cells true false 1 [.slice (some ⟨0,0,none⟩) l.length c1,.slice (some ⟨1,0,none⟩) m.length c2,iv n]):=fun {b} h =>
  ⟨rfl,rfl,rfl,rfl,List.forall_mem_cons.2 ⟨⟨Nat.lt_of_lt_of_le (by decide:0<5) h,fun h=>by cases h⟩,List.forall_mem_cons.2 ⟨⟨Nat.lt_of_lt_of_le (by decide:1<5) h,fun h=>by cases h⟩,List.forall_mem_cons.2 ⟨bY rfl,fun _ h=>(by cases h)⟩⟩⟩⟩
 refine Q7 ?_ rfl;exact bG (bG (bG (bG (bG (fun k o hk=>by cases hk) (by omega) (aG (aC _ _))) (by omega) (aG (aC _ _))) (by omega) (hb (by omega))) (by omega) (aG hc)) (by omega) (hb (by omega))
theorem aJs {nx:Nat}{l:List Pt}{m:List Ed}{c1 c2:Nat}{n:Int}(hl:l.length≤1000):wO (wN nx l m c1 c2 n (wTb nx l m) (wT nx l m)) (nx+2004):=by
 rw [← U9];exact TF (n:=nx) (W:=ZH l m c1 c2 n) (b:=2004) (fun k o hk=>MJ hl k o (NW k o hk)) (BW 3 rM)
def H5 (l:List Pt)(m:List Ed)(n:Int)(c1 c2:Nat)(cs:List Value):Heap :=
 app (eI (cU (cU (cU (bR dC dP l m) 2 (.cells true false 1 [.slice (some ⟨0,0,none⟩) l.length c1,.slice (some ⟨1,0,none⟩) m.length c2,iv n])) 3 (.cells true false 1 cs)) 4 (.cells true false 1 [.slice (some ⟨0,0,none⟩) l.length c1,.slice (some ⟨1,0,none⟩) m.length c2,iv n]))) (wN 5 l m c1 c2 n (wTb 5 l m) (wT 5 l m))
theorem LZ {l:List Pt}{m:List Ed}{n:Int}{c1 c2:Nat}{cs:List Value}(hl:l.length≤1000)(hc:dL cs=true):wO (H5 l m n c1 c2 cs) 2009:=XH (YO (b:=2004) hc) (aJs (nx:=5) hl)
theorem aHL {l:List Pt}{m:List Ed}{n:Int}{c1 c2:Nat}{cs:List Value}(ho:aY l m n=true)(hs:l.length≤1000∧m.length≤1000):WA (H5 l m n c1 c2 cs) 12 l m n :=
 TG (nx:=5) (aH7 (nx:=5) ho hs) (fun k hk=>aAW hs.1 (.inl hk)) rfl
theorem WH {l:List Pt}{m:List Ed}{n:Int}{c1 c2:Nat}{cs:List Value}(hl:l.length≤1000){k:Nat}(hk:2009≤k):look (H5 l m n c1 c2 cs) k=none:=NB (nx:=5) rfl (by omega) (aAW hl (.inr hk))
theorem iP {v:Value}{H' h:Heap}{b n0 nx:Nat}(hv:fL id v=v)(hn:x6 n0 v)(hh:∀ k o,look H' k=some o→look h k=some o)(hok:wO H' n0)(hb:b≤n0):∃ ρ,kV b ρ [(0,v)] H' n0 [(0,v)] h nx:=by
 refine⟨id,fun t u hu=>?_,fun k o hk=>⟨(hok k o hk).1,o,hh k o hk,(hok k o hk).2⟩,fun _ _ _ _ _ _ e=>e,fun _ _=>rfl,hb⟩;have hm:=aW hu;simp only [List.mem_cons,List.not_mem_nil,or_false] at hm;injection hm with e1 e2;subst e1 e2;rw [hv];exact⟨rfl,hn⟩
structure A81 where
 l:List Pt
 m:List Ed
 n:Int
 c1:Nat
 c2:Nat
 f:Int
 b:Bool
def bx1 (a:Int):bH:=.cells false true 1 [iv a]
def JU (h:Heap)(k:Nat)(a:Int):Prop:=∃ wr g sz,look h k=some (.cells wr g sz [iv a])
def RP (a b:Int)(e:Ed):Bool:=(decide (e.l=a)&&decide (e.r=b)) || (decide (e.l=b)&&decide (e.r=a))
def X93:Nat × XF:=(62,fun args h nx K=>∃ e ka kb a b,args=[edV e,.pointer (some ⟨ka,0,none⟩),.pointer (some ⟨kb,0,none⟩)]∧JU h ka a∧JU h kb b∧K (.bool (RP a b e)) h nx)
theorem aGy {h:Heap}{nx ka kb:Nat}{a b:Int}(ha:JU h ka a)(hb:JU h kb b)(e:Ed):In [edV e,.pointer (some ⟨7,0,none⟩),.pointer (some ⟨8,0,none⟩)] [(7,bx1 a),(8,bx1 b)] 9 [edV e,.pointer (some ⟨ka,0,none⟩),.pointer (some ⟨kb,0,none⟩)] h nx:=by
 obtain⟨w1,g1,s1,h1⟩:=ha;obtain⟨w2,g2,s2,h2⟩:=hb;refine nT (fun k=>if k=7 then ka else kb) (by show [edV e,_,_]=[fL _ (edV e),fL _ _,fL _ _];rw [iQ (v:=edV e) rfl];rfl) ?_ fun k o hk=>?_
 ·exact List.forall_mem_cons.2 ⟨bU rfl,List.forall_mem_cons.2 ⟨gO rfl,List.forall_mem_cons.2 ⟨gO rfl,fun _ h=>by cases h⟩⟩⟩
 rw [aB] at hk;split at hk
 ·rename_i hq;injection hk with hk;subst hk;rw [← beq_true hq]
  exact⟨by decide,true,1,_,rfl,by decide,fun _=>rfl,cY rfl,w1,g1,s1,_,h1,rfl⟩
 rw [aB] at hk;split at hk
 ·rename_i hq;injection hk with hk;subst hk;rw [← beq_true hq]
  exact⟨by decide,true,1,_,rfl,by decide,fun _=>rfl,cY rfl,w2,g2,s2,_,h2,rfl⟩
 exact bZ hk
theorem x93:dJ Go.Proofs.Tryz.prog X93.1 X93.2:=by
 refine (jD (S:=fun args0 h0 n0 v1 h1 m=>∃ e a b,args0=[edV e,.pointer (some ⟨7,0,none⟩),.pointer (some ⟨8,0,none⟩)]∧h0=[(7,bx1 a),(8,bx1 b)]∧n0=9∧v1=.bool (RP a b e)∧h1=[]∧m=0) (aK (xl:=[]) .nil) ?_).mono ?_ ?_
 ·rintro args0 h0 n0 v1 h1 m ⟨e,a,b,rfl,rfl,rfl,rfl,rfl,rfl⟩;refine⟨rfl,fun u _ _=>u=.bool (RP a b e),?_,fun v h nx e=>by rw [e];exact lJ rfl⟩;unfold edV bx1
  repeat' (((conv=>whnf);apply bm<;>intro g))
  all_goals (conv=>whnf)
  all_goals (show Value.bool _=Value.bool _;congr 1;unfold RP;simp [aA,aF] at *;try simp_all)
 ·rintro args h nx K ⟨e,ka,kb,a,b,rfl,ha,hb,hx⟩;exact⟨_,_,9,_,[],0,⟨e,a,b,rfl,rfl,rfl,rfl,rfl,rfl⟩,aGy ha hb e,hx⟩
 rintro args h nx K ⟨e,ka,kb,a,b,rfl,ha,hb,hx⟩;exact⟨_,_,_,hx,fun K' hk=>⟨e,ka,kb,a,b,rfl,ha,hb,hk⟩⟩
def ovB (ρ:Nat→Nat)(ka kb:Nat)(k:Nat):Nat:=if k=7 then ka else if k=8 then kb else ρ k
theorem aMa {h:Heap}{p:Nat}{l:List Pt}{m:List Ed}{n:Int}(hw:WA h p l m n){R:Heap}{ka kb:Nat}{F F0:Value}{nx:Nat}(hF:∀ ρ:Nat→Nat,ρ 7=ka→ρ 8=kb→F=fL ρ F0)(hn:x6 2000 F0)
  (hR:∀ ρ:Nat→Nat,ρ 7=ka→ρ 8=kb→∀ k o,look R k=some o→k<2000∧∃ g sz cs0,o=.cells false g sz cs0∧sz≠0∧(g=true→dL cs0=true)∧(∀ v∈cs0,CC 2000 v)∧∃ wr g' sz' cs,look h (ρ k)=some (.cells wr g' sz' cs)∧cs.take cs0.length=cs0.map (bJ ρ)) :
  ∃ nP nD nL c1 c2 fo,In [.pointer (some ⟨0,0,none⟩),F0] (KG R nP m nD nL c1 c2 n fo) 2000 [.pointer (some ⟨p,0,none⟩),F] h nx:=by
 obtain⟨ok,sm,k0,k1,kd,kt,kf,nm,c1,c2,w,⟨w1,g1,s1,x1,a1,b1⟩,_⟩:=hw;obtain⟨wr,g,sz,hst⟩:=w.st;refine⟨l.length,(aO l m m.length).length,(outs l m).length,c1,c2,some ((aO l m m.length).length,(aO l m m.length).length),nT (ovB (rhW p k0 k1 kd kt kf 0 nm 0) ka kb) ?_ ?_ fun k o hk=>?_⟩
 ·show [Value.pointer (some ⟨p,0,none⟩),F]=[fL _ (.pointer (some ⟨0,0,none⟩)),fL _ F0];rw [← hF _ rfl rfl];rfl
 ·exact List.forall_mem_cons.2 ⟨gO rfl,List.forall_mem_cons.2 ⟨hn,fun _ h=>by cases h⟩⟩
 unfold KG at hk;rw [aB] at hk;split at hk
 ·rename_i hq;injection hk with hk;subst hk;rw [← beq_true hq]
  exact⟨by decide,false,1,_,rfl,by decide,(fun h=>by cases h),cY rfl,wr,g,sz,_,hst,rfl⟩
 rw [aB] at hk;split at hk
 ·rename_i hq;injection hk with hk;subst hk;rw [← beq_true hq]
  exact⟨by decide,true,dP.sz,_,rfl,by decide,fun _=>aC dP m,fun v hv=>bY (aT (aC dP m) hv),w1,g1,s1,x1,a1,by rw [b1];exact (a8 (aC dP m)).symm⟩
 exact hR _ rfl rfl k o hk
abbrev pV (k:Nat):Value:=.pointer (some ⟨k,0,none⟩)
theorem aAH {R:Heap}{nP:Nat}{m:List Ed}{nD nL c1 c2:Nat}{n:Int}{fo:Option (Nat × Nat)}(h:wO R 2000):wO (KG R nP m nD nL c1 c2 n fo) 2000:=by
 refine bG (bG h (by decide) (aG (aC _ _))) (by decide) ?_;refine aB2 ?_;exact List.forall_mem_cons.2 ⟨⟨rfl,mN rfl⟩,List.forall_mem_cons.2 ⟨⟨rfl,mN rfl⟩,List.forall_mem_cons.2 ⟨⟨rfl,mN rfl⟩,List.forall_mem_cons.2 ⟨⟨rfl,mN rfl⟩,List.forall_mem_cons.2 ⟨⟨rfl,mN rfl⟩,List.forall_mem_cons.2 ⟨⟨by cases fo <;> rfl,by cases fo <;> exact mN rfl⟩,fun _ h=>by cases h⟩⟩⟩⟩⟩⟩
theorem FK {α:Type}{E:El α}{out:List α}{e:Option Int}{h:Heap}{nx:Nat}{K:KE}(hx:LR E out e h nx K):∃ v h' nx',K v h' nx'∧∀ K':KE,K' v h' nx'→LR E out e h nx K':=by
 cases out with
 |nil=>exact⟨_,_,_,hx,fun K' hk=>hk⟩
 |cons a t=>exact⟨_,_,_,hx,fun K' hk=>hk⟩
def shB (l:List Pt)(m:List Ed)(n a b:Int):Bool:=aY l m n&&(I9 n a&&I9 n b)
def srP (l:List Pt)(m:List Ed)(n:Int):List Value→Option (Bool × List Int × Option Int)
 |[.int .i64 a,.int .i64 b]=>some (decide (l.length≤1000)&&decide (m.length≤1000),if shB l m n a b=true then bS (RP a b) m m.length else [],some (if shB l m n a b=true then 0 else 1))
 |_=>none
theorem aEr {l:List Pt}{m:List Ed}{n:Int}{r:List Value}{out:List Int}{e:Option Int}(hs:srP l m n r=some (true,out,e)):∃ a b,r=[iv a,iv b]∧(l.length≤1000∧m.length≤1000)∧out=(if shB l m n a b=true then bS (RP a b) m m.length else [])∧e=some (if shB l m n a b=true then 0 else 1):=by
 unfold srP at hs;split at hs
 ·injection hs with hs;injection hs with h1 h2;injection h2 with h2 h3;simp only [Bool.and_eq_true,decide_eq_true_eq] at h1;exact⟨_,_,rfl,h1,h2.symm,h3.symm⟩
 ·cases hs
def aGa:Nat × XF:=(24,mRX srP)
def aNK:List (Nat × XF):=[X93]
theorem aG7:kG aNK:=.cons x93 .nil
def aJV:Nat × XF:=(61,fun args h nx K=>∃ p l m n P,WA h p l m n∧LR aR (bS P m m.length) none h nx K ∧
 (∃ ka kb a b,args=[pV p,pC 62 [pV ka,pV kb]]∧JU h ka a∧JU h kb b∧P=RP a b))
theorem aO1:dJ Go.Proofs.Tryz.prog aJV.1 aJV.2:=by
 refine (x92 aG7).mono ?_ ?_
 ·rintro args h nx K ⟨p,l,m,n,P,hw,hk,ka,kb,a,b,rfl,ha,hb,rfl⟩;obtain⟨w1,g1,s1,h1⟩:=ha;obtain⟨w2,g2,s2,h2⟩:=hb
  obtain⟨nP,nD,nL,c1,c2,fo,hin⟩:=aMa (nx:=nx) hw (R:=[(7,bx1 a),(8,bx1 b)]) (ka:=ka) (kb:=kb) (F:=pC 62 [pV ka,pV kb]) (F0:=pC 62 [pV 7,pV 8])
   (fun ρ e1 e2=>by subst e1 e2;simp [pC,fL,tr,dW,bO,lM,dY,jR]) (gO rfl) (fun ρ e1 e2 k o hk=>by
    rw [aB] at hk;split at hk
    ·rename_i hq;injection hk with hk;subst hk;rw [← beq_true hq]
     exact⟨by decide,true,1,_,rfl,by decide,fun _=>rfl,cY rfl,w1,g1,s1,_,by rw [e1];exact h1,rfl⟩
    rw [aB] at hk;split at hk
    ·rename_i hq;injection hk with hk;subst hk;rw [← beq_true hq]
     exact⟨by decide,true,1,_,rfl,by decide,fun _=>rfl,cY rfl,w2,g2,s2,_,by rw [e2];exact h2,rfl⟩
    exact bZ hk)
  refine AG aR ⟨_,nP,m,nD,nL,c1,c2,n,fo,62,[pV 7,pV 8],RP a b,⟨rfl,rfl,hw.sm.2,?_,gO rfl,by simp [pC,fL,tr,dW,bO,lM,dY,jR],rfl,?_⟩,rfl,rfl,rfl⟩ hin hk
  ·exact aAH (bG (bG (fun k o hk=>by cases hk) (by decide) (aG rfl)) (by decide) (aG rfl))
  exact fun i _ h' nx' K hs hk=>⟨cN m i,7,8,a,b,rfl,⟨_,_,_,hs 7 _ rfl⟩,⟨_,_,_,hs 8 _ rfl⟩,hk⟩
 rintro args h nx K ⟨p,l,m,n,P,hw,hk,hc⟩;obtain⟨v,h',nx',h1,h2⟩:=FK hk;exact⟨v,h',nx',h1,fun K' hk'=>⟨p,l,m,n,P,hw,h2 K' hk',hc⟩⟩
theorem aLP:dJ Go.Proofs.Tryz.prog aGa.1 aGa.2:=aCR (jN (D3 (xl:=[aCP,aHQ,aJV]) (.cons aIR (.cons aN9 (.cons aO1 .nil))) 4) 6).1 fun l m n r out e hs=>by
 obtain⟨a,b,rfl,hlm,rfl,rfl⟩:=aEr hs;clear hs;refine⟨rfl,fun c1 c2=>?_⟩;(conv=>whnf);refine⟨l,m,n,.slice (some ⟨0,0,none⟩) l.length c1,.slice (some ⟨1,0,none⟩) m.length c2,rfl,bF dC rfl,bF dP rfl,hlm,?_⟩;have hfb:shB l m n a b=(aY l m n&&(I9 n a&&I9 n b)):=rfl;cases ho:aY l m n with
 |false =>
  rw [ho,Bool.false_and] at hfb;refine .inr ⟨rfl,?_⟩;rw [hfb];(conv=>whnf);rfl
 |true =>
  rw [ho,Bool.true_and] at hfb;refine .inl ⟨rfl,?_⟩;have hW:WA _ (2+1+1+1+1+7) l m n:=aH7 (nx:=2+1+1+1+1) (c1:=c1) (c2:=c2) ho hlm;have hno:∀ k,k<2+1+1+1+1∨_→_:=fun k hk=>aAW (nx:=2+1+1+1+1) (m:=m) (c1:=c1) (c2:=c2) (n:=n) hlm.1 hk;generalize wT _ l m=W at hW hno ⊢;generalize wTb _ l m=TB at hW hno ⊢;rw [hfb];(conv=>whnf);refine⟨_,_,l,m,n,[a,b],2,rfl,NC (TG hW (fun k hk=>hno k (.inl hk)) rfl) (NB (nx:=2+1+1+1+1) rfl (by decide) (hno _ (.inr (by decide)))),⟨_,_,_,_,rfl,rfl⟩,?_⟩;cases hab:(I9 n a&&I9 n b) with
  |false =>
   rw [show aCm l m n [a,b]=some (true,.bool (I9 n a&&I9 n b)) from rfl,hab];(conv=>whnf);rfl
  |true =>
   rw [show aCm l m n [a,b]=some (true,.bool (I9 n a&&I9 n b)) from rfl,hab];rw [if_pos rfl,if_pos rfl];generalize hO:bS (RP a b) m m.length=O;(conv=>whnf);refine⟨_,l,m,n,RP a b,NC (TG hW (fun k hk=>hno k (.inl hk)) rfl) (NB (nx:=2+1+1+1+1) rfl (by decide) (hno _ (.inr (by decide)))),?_,_,_,a,b,rfl,⟨_,_,_,rfl⟩,⟨_,_,_,rfl⟩,rfl⟩;rw [hO];cases O with
   |nil=>(conv=>whnf);rfl
   |cons x t =>
    (conv=>whnf);exact qU aR (l:=x::t) (e:=some 0) (nx:=0) (Nat.succ_pos _) rfl
end Go.Aw
end

noncomputable section
namespace Go.Aw
open Go.RowKit
def linB (ops:List Oper):List Oper→Nat→Bool
 |[],_=>true
 |o::r,i=>(gM o).all (fun j=>Nat.blt j i)&&linB ops r (i+1)
theorem linB_at {ops:List Oper}:∀ {l:List Oper} {i j:Nat} {o:Oper},linB ops l i=true→eL l j=some o→∀ k∈gM o,k<i+j
 |[],_,_,_,_,h=>by rw [dF] at h;simp at h
 |p::r,i,0,o,hb,h=>by
  simp only [linB,Bool.and_eq_true,List.all_eq_true] at hb;rw [dF] at h;simp at h;subst h;exact fun k hk=>nX (hb.1 k hk)
 |p::r,i,j+1,o,hb,h=>by
  simp only [linB,Bool.and_eq_true] at hb;have:=linB_at (j:=j) (o:=o) hb.2 (by rw [dF] at h ⊢;simpa using h);intro k hk;have:=this k hk;omega
theorem all_done {ops:List Oper}(hl:linB ops ops 0=true){done:List Nat}(hr:eG ops done ops 0=[]):∀ i,i<ops.length→i∈done:=by
 intro i
 induction i using Nat.strongRecOn with
 |_ i ih =>
  intro hi;refine Classical.byContradiction fun hn=>?_;have ho:eL ops i=some ops[i]:=(by rw [dF];simp [hi]);have:i∈eG ops done ops 0:=xJ.2 ⟨i,ops[i],by omega,ho,hn,fun x hx=>by
   have h1:=linB_at hl ho x hx;exact ih x (by omega) (by omega)⟩
  rw [hr] at this;cases this
def undone (L:Nat)(done:List Nat):List Nat:=(List.range L).filter fun i=>!memB i done
theorem undone_step {L i:Nat}{done:List Nat}(hi:i<L)(hn:i∉done):(undone L (i::done)).length<(undone L done).length:=by
 have e:undone L (i::done)=(undone L done).filter fun j=>!Nat.beq i j:=by
  unfold undone;rw [List.filter_filter];apply List.filter_congr;intro j _;have:memB j (i::done)=(Nat.beq i j || memB j done):=by
   simp only [memB];cases Nat.beq i j <;> rfl
  rw [this];cases Nat.beq i j <;> cases memB j done <;> rfl
 rw [e];refine Nat.lt_of_le_of_ne (List.length_filter_le _ _) fun h=>?_;have hm:memB i done=false:=by
  cases hm:memB i done with
  |false=>rfl
  |true=>exact absurd (dI.1 hm) hn
 have:=List.length_filter_eq_length_iff.1 h i (List.mem_filter.2 ⟨List.mem_range.2 hi,by rw [hm];rfl⟩);rw [Nat.beq_refl] at this;cases this
theorem vany_inv {A:Ar}{T:cQ}{C:VC}{Y:VY}(hC:dS C)(hY:dS Y){tn:Nat}{ops:List Oper}{K:KS}(hl:linB ops ops 0=true)(S:List Nat→KS)
  (hstep:∀ done i o e h nx,S done e h nx→i∉done→(∀ x∈gM o,x∈done)→eL ops i=some o→lZ A T C Y tn ops o e h nx (S (i::done))) (hend:∀ done e h nx,S done e h nx→(∀ i,i<ops.length→i∈done)→K e h nx) :
  ∀ (n:Nat) (done:List Nat) (e:List (Nat × Value)) (h:Heap) (nx:Nat),(undone ops.length done).length≤n→S done e h nx→vany A T C Y tn ops K n done e h nx:=by
 intro n
 induction n with
 |zero =>
  intro done e h nx hn hS;refine hend done e h nx hS fun i hi=>?_;refine Classical.byContradiction fun hni=>?_;have:=undone_step hi hni;omega
 |succ n ih =>
  intro done e h nx hn hS;simp only [vany];split
  ·rename_i hr;exact hend done e h nx hS (all_done hl hr)
  rename_i i0 r0 hr;rw [uE];intro j hj;rw [← hr] at hj;obtain⟨j',o,hjj,ho,hnj,hp⟩:=xJ.1 hj;have hjj:j=j':=(by omega);subst hjj;rw [ho];have hjl:j<ops.length:=by
   rw [dF] at ho;exact (List.getElem?_eq_some_iff.1 ho).1
  have hlt:=undone_step hjl hnj;obtain⟨e1,h1,n1,q1,q2⟩:=KB hC hY _ (hstep done j o e h nx hS hnj hp ho);exact q2 _ (ih (j::done) e1 h1 n1 (by omega) q1)
set_option maxRecDepth 100000
set_option maxHeartbeats 2000000
theorem TL {PL PL':Nat→Option fB}(h:∀ r,PL' r=none∨PL' r=PL r)(b:Code):cR PL b=true→cR PL' b=true:=by
 induction b with
 |region id ops draw =>
  intro hp;cases draw with
  |false=>rfl
  |true =>
   unfold cR at hp ⊢;rcases h id with e|e
   ·rw [e]
   rw [e];exact hp
 |seq a b iha ihb =>
  intro hp;simp only [cR,Bool.and_eq_true] at hp ⊢;exact⟨iha hp.1,ihb hp.2⟩
 |cond c a b iha ihb =>
  intro hp;simp only [cR,Bool.and_eq_true] at hp ⊢;exact⟨iha hp.1,ihb hp.2⟩
 |block id b ih=>intro hp;simp only [cR] at hp ⊢;exact ih hp
 |loop b ih=>intro hp;simp only [cR] at hp ⊢;exact ih hp
 |scope b ih=>intro hp;simp only [cR] at hp ⊢;exact ih hp
 |_=>intro _;rfl
set_option maxHeartbeats 4000000
section
variable {A:Ar}{T:cQ}{C:VC}{Y:VY}{tn:Nat}{ops:List Oper}
theorem mK {o:Oper}{e:List (Nat × Value)}{h:Heap}{nx d:Nat}{K:KS}(hg:o.guard=none)(hd:o.dst=some d)(hlt:Nat.blt d tn=true)(h1:pD A T C Y e h nx o.op (fun v h' nx'=>K (put e d v) h' nx')):lZ A T C Y tn ops o e h nx K:=by
 unfold lZ fC;rw [hg];show pD A T C Y e h nx o.op fun v h' nx'=>dZ tn e o.dst v fun e'=>K e' h' nx';simp only [hd,dZ,hlt];exact h1
theorem aK5 {n:Nat}{e:List (Nat × Value)}{h:Heap}{nx:Nat}{K:KS}(hC:dS C)(hY:dS Y)(hl:linB ops ops 0=true)(hn:Nat.ble ops.length n=true)(S:List Nat→KS)(h0:S [] e h nx)
  (hstep:∀ done i o e h nx,S done e h nx→i∉done→(∀ x∈gM o,x∈done)→eL ops i=some o→lZ A T C Y tn ops o e h nx (S (i::done))) (hend:∀ done e h nx,S done e h nx→(∀ i,i<ops.length→i∈done)→K e h nx):vany A T C Y tn ops K n [] e h nx:=by
 refine vany_inv hC hY hl S hstep hend _ _ _ _ _ ?_ h0;refine Nat.le_trans (List.length_filter_le _ _) ?_;rw [List.length_range];exact Nat.le_of_ble_eq_true hn
end
def HN:DC:={ aA with PL:=fun f r=>match Nat.beq f 5&&Nat.beq r 11 with|true=>none|false=>aA.PL f r }
theorem aEW:pA Go.Proofs.Tryz.prog HN where
 ar:=dV.ar
 tab:=dV.tab
 mixed:=dV.mixed
 funcs:=fun f fn h=>by
  obtain⟨a,b,c⟩:=dV.funcs f fn h;refine⟨a,b,fun bd hb=>TL (PL:=aA.PL f) (fun r=>?_) bd (c bd hb)⟩;show (match Nat.beq f 5&&Nat.beq r 11 with|true=>none|false=>aA.PL f r)=none∨(match Nat.beq f 5&&Nat.beq r 11 with|true=>none|false=>aA.PL f r)=aA.PL f r;cases Nat.beq f 5&&Nat.beq r 11
  ·exact .inr rfl
  exact .inl rfl
 xs:=dV.xs
def aGN (xl:List (Nat × XF)):VC:=rS HN none (CX (look xl)) noY
theorem ON {xl:List (Nat × XF)}(h:kG xl):bC Go.Proofs.Tryz.prog (aGN xl):=tL aEW (OI h.look) MA (A3 h.look) uR none
def tmR:Nat→Nat
 |0=>58|1=>59|2=>60|3=>61|4=>62|5=>63|6=>64|7=>65|8=>66|9=>67|10=>68|11=>57|12=>69|13=>70|14=>10|15=>11
 |_=>200
theorem aIS:∀ i,i<16→tmR i≠1∧tmR i≠2∧tmR i≠3∧tmR i≠7∧tmR i≠9∧∀ j,j<16→j≠i→tmR j≠tmR i:=by decide
def vvR (l:List Pt)(m:List Ed)(n:Int)(c1 c2:Nat)(O:List Int)(i:Nat)(j:Int)(N:Nat):Nat→Value
 |0=>l8 l.length m.length c1 c2 n
 |1=>.slice (some ⟨3,0,none⟩) O.length O.length
 |2=>iv j
 |3=>iv (j - 1)
 |4=>.pointer (some ⟨3,0+(j - 1).toNat*1,none⟩)
 |5=>iv (aE O (i - 1))
 |6=>.slice (some ⟨3,0,none⟩) O.length O.length
 |7=>iv j
 |8=>.pointer (some ⟨3,0+j.toNat*1,none⟩)
 |9=>iv (aE O i)
 |10=>.tuple #[.slice (some ⟨4,0,none⟩) N N,iv 0]
 |11=>.tuple #[.slice (some ⟨4,0,none⟩) N N,iv 0]
 |12=>.slice (some ⟨4,0,none⟩) N N
 |13=>iv 0
 |14=>.slice (some ⟨4,0,none⟩) N N
 |15=>iv 0
 |_=>undef
structure SR (f0:Nat→Option Value) (vv:Nat→Value) (H0 H1:Heap) (done:List Nat) (e:List (Nat × Value)) (h:Heap) (nx:Nat):Prop where
 fix:∀ t,(t=1∨t=2∨t=3∨t=7∨t=9)→look e t=f0 t
 val:∀ i,i∈done→i<16→look e (tmR i)=some (vv i)
 hp:(10∉done∧h=H0∧nx=4)∨(10∈done∧h=H1∧nx=5)
theorem SR.put {f0:Nat→Option Value}{vv:Nat→Value}{H0 H1:Heap}{done:List Nat}{e:List (Nat × Value)}{h h':Heap}{nx nx' i:Nat}(S:SR f0 vv H0 H1 done e h nx)(hi:i<16)(hn:i∉done)(hh:(10∉i::done∧h'=H0∧nx'=4)∨(10∈i::done∧h'=H1∧nx'=5)):SR f0 vv H0 H1 (i::done) (put e (tmR i) (vv i)) h' nx':=by
 obtain⟨n1,n2,n3,n7,n9,hne⟩:=aIS i hi;refine⟨fun t ht=>?_,fun k hk hk16=>?_,hh⟩
 ·rw [tY,if_neg (by omega)];exact S.fix t ht
 rw [tY];by_cases e:k=i
 ·rw [if_pos (by rw [e]),e]
 rw [if_neg (hne k hk16 e)];exact S.val k ((List.mem_cons.1 hk).resolve_left e) hk16
theorem SR.same {f0:Nat→Option Value}{vv:Nat→Value}{H0 H1:Heap}{done:List Nat}{e:List (Nat × Value)}{h:Heap}{nx i:Nat}(S:SR f0 vv H0 H1 done e h nx)(hi:i<16)(h10:i≠10)(hn:i∉done):SR f0 vv H0 H1 (i::done) (Go.Aw.put e (tmR i) (vv i)) h nx:=by
 refine S.put hi hn ?_;rcases S.hp with ⟨a,b,c⟩|⟨a,b,c⟩
 ·exact .inl ⟨fun hm=>(List.mem_cons.1 hm).elim (fun h=>h10 h.symm) a,b,c⟩
 exact .inr ⟨.tail _ a,b,c⟩
theorem aEC {l:List Int}{k:Nat}(h:k<l.length):aE l k∈l:=by rw [bX h];exact List.getElem_mem h
theorem aG1 {l:List Int}{x:Int}(h:x∈l):∃ k,k<l.length∧aE l k=x:=by
 obtain⟨k,hk,e⟩:=List.getElem_of_mem h;exact⟨k,hk,by rw [bX hk];exact e⟩
def hsS (l:List Int):List Value→Option (Bool × Value)
 |[.int .i64 x]=>some (decide (l.length≤1000000),.bool (decide (x∈l)))
 |_=>none
def e62 (l:List Int)(c:Nat)(x j:Int):List (Nat × Value):=[(0,.slice (some ⟨0,0,none⟩) l.length c),(1,iv x),(5,iv j)]
def h62 (l:List Int):Heap:=[(0,.cells false true 1 (flat aR.fl l))]
def X62:Nat × XF:=(25,lX aR hsS)
theorem x62:dJ Go.Proofs.Tryz.prog X62.1 X62.2:=CP aR (aK (xl:=[]) .nil) fun l r v hs=>by
 have:∃ x,r=[iv x]∧l.length≤1000000∧v=.bool (decide (x∈l)):=by
  unfold hsS at hs;split at hs
  ·injection hs with hs;injection hs with h1 h2;exact⟨_,rfl,of_decide_eq_true h1,h2.symm⟩
  ·cases hs
 obtain⟨x,rfl,hlen,rfl⟩:=this;clear hs;refine⟨rfl,rfl,fun c=>?_⟩;(conv=>whnf);refine⟨fun n e h nx=>∃ (i:Nat) (j:Int),j=i∧i≤l.length∧n=l.length - i∧(∀ k,k<i→aE l k≠x)∧e=e62 l c x j∧h=h62 l∧nx=1,⟨l.length,?_⟩,?_⟩
 ·refine cZ (e0:=e62 l c x 0) (h0:=h62 l) (n0:=1) ⟨0,0,rfl,Nat.zero_le _,rfl,fun k h=>absurd h (Nat.not_lt_zero k),rfl,rfl,rfl⟩ ?_ ?_ (by decide)
  ·unfold e62;((repeat' refine iE rfl rfl ?_);exact iN)
  unfold h62;((repeat'(first|refine iF rfl rfl ?_|refine iJ rfl rfl rfl rfl ?_));exact iN)
 rintro n e h nx ⟨i,j,hj,hi,rfl,hb,rfl,rfl,rfl⟩;unfold e62 h62;((conv=>whnf);apply bm<;>intro g1);rotate_left
 ·have hlt:i=l.length:=(by simp [aA,aF] at g1;omega);(conv=>whnf);show Value.bool false=.bool (decide (x∈l));rw [decide_eq_false];intro hx;obtain⟨k,hk,e⟩:=aG1 hx;exact hb k (by omega) e
 have hlt:i<l.length:=(by simp [aA,aF] at g1;omega);((conv=>whnf);apply bm<;>intro g2);rotate_left
 ·exfalso;simp [aA,aF] at g2;omega
 (conv=>whnf);refine kW (iY l hlt ?_) ?_
 ·show _+Int.toNat j*1=_;omega
 ((conv=>whnf);apply bm<;>intro g3)
 ·have g3:aE l i=x:=(by simpa [aA,aF] using g3);(conv=>whnf);show Value.bool true=.bool (decide (x∈l));rw [decide_eq_true (g3▸aEC hlt)]
 have g3:aE l i≠x:=(by simpa [aA,aF] using g3);((conv=>whnf);apply bm<;>intro g4)
 ·(conv=>whnf);refine⟨l.length - (i+1),by omega,?_⟩;refine cZ (e0:=e62 l c x (j+1)) (h0:=h62 l) (n0:=1) ⟨i+1,j+1,by omega,by omega,rfl,fun k hk=>?_,rfl,rfl,rfl⟩ ?_ ?_ (by decide)
  ·by_cases e:k=i
   ·rw [e];exact g3
   exact hb k (by omega)
  ·unfold e62;((repeat' refine iE rfl rfl ?_);exact iN)
  unfold h62;((repeat'(first|refine iF rfl rfl ?_|refine iJ rfl rfl rfl rfl ?_));exact iN)
 exfalso;simp [aA,aF,aH] at g4;omega
section
variable {l:List Pt}{m:List Ed}{n:Int}
theorem P6 (hok:cM l m n=true):∀ d,d≤2*m.length→∀ i,i<2*m.length→0≤aE (bK l (aO l m m.length) (outs l m) d).face i∧aE (bK l (aO l m m.length) (outs l m) d).face i≤(bK l (aO l m m.length) (outs l m) d).many
 |0,_,i,hi=>by
  unfold bK aE;rw [List.getD_eq_getElem?_getD,List.getElem?_replicate,a9,if_pos hi];exact⟨Int.le_refl _,Int.le_refl _⟩
 |d+1,h,i,hi=>by
  have ih:=P6 hok d (by omega) i hi;have hinv:=nJ l (aO l m m.length) (outs l m) d;rw [a9] at hinv;rw [show bK l (aO l m m.length) (outs l m) (d+1)=gI l (aO l m m.length) (outs l m) (bK l (aO l m m.length) (outs l m) d) d from rfl];generalize bK l (aO l m m.length) (outs l m) d=t at *;unfold gI;split
  ·exact ih
  simp only;have hin:=p9 hok (d:=(d:Int)) (by omega) (by omega);have hr:∀ k,k<(kS (aO l m m.length) (outs l m) d).length→(aE (kS (aO l m m.length) (outs l m) d) k).toNat<t.face.length:=fun k hk=>by
   rw [hinv.1];rw [kZ] at hk;rw [vK hk];have:=hin k;omega
  generalize kS (aO l m m.length) (outs l m) d=W at *;generalize BH l (aO l m m.length) W W.length=A;have hs:=m8 t.face W (if 0<A then t.many+1 else 0) hr i _ (Nat.le_refl _);by_cases hc:∃ k,k<W.length∧(aE W k).toNat=i
  ·rw [hs.1 hc];split <;> omega
  rw [hs.2 hc];split <;> omega
theorem GA (ho:aY l m n=true){i:Nat}(hi:i<2*m.length):0≤aE (dE l m).face i∧aE (dE l m).face i≤n:=by
 have ho':=ho;simp only [aY,gW,Bool.and_eq_true,decide_eq_true_eq] at ho';have:=P6 ho'.1.1 (2*m.length) (Nat.le_refl _) i hi;have e:bK l (aO l m m.length) (outs l m) (2*m.length)=dE l m:=(by unfold dE nmD;rw [a9]);rw [e,ho'.2.2.2.1] at this;exact this
theorem NI (ho:aY l m n=true){i:Nat}(hi:i<m.length):(cN m i).l=aE (dE l m).face (2*i)∧(cN m i).r=aE (dE l m).face (2*i+1):=by
 simp only [aY,Bool.and_eq_true] at ho;have:=dU ho.2.2.2.2 hi;simpa only [G3,Bool.and_eq_true,decide_eq_true_eq] using this
theorem aLz (ho:aY l m n=true):1≤n∧n≤100:=(dM (cB ho)).2.2.2.2.2
end
theorem LK (D:List Dt)(ls:List (List Int))(d:Int)(a:Nat):∀ b,jT D ls (jT D ls d a) b=jT D ls d (a+b)
 |0=>rfl
 |b+1=>by
  show vU D ls (jT D ls (jT D ls d a) b)=vU D ls (jT D ls d (a+b));rw [LK D ls d a b]
section
variable {l:List Pt}{m:List Ed}{n:Int}
structure Ow (l:List Pt) (m:List Ed) (t:L6):Prop where
 orb:∀ i j:Nat,i<2*m.length→j<2*m.length→cV t.seen i=true→cV t.seen j=true→aE t.face i=aE t.face j→(aE t.face i≠0∨(t.out≤1∧t.flat=false))→∃ k,jT (aO l m m.length) (outs l m) i k=j
 con:∀ i:Nat,i<2*m.length→cV t.seen i=true→aE t.face (vU (aO l m m.length) (outs l m) i).toNat=aE t.face i
 zer:∀ i:Nat,i<2*m.length→cV t.seen i=true→aE t.face i=0→1≤t.out∨t.flat=true
 rng:∀ i:Nat,i<2*m.length→aE t.face i≤t.many
theorem aF3 (hok:cM l m n=true){t:L6}(h:Hs l m t)(o:Ow l m t)(hout:0≤t.out){d:Nat}(hd:d<2*m.length):Ow l m (gI l (aO l m m.length) (outs l m) t d):=by
 unfold gI;cases hs:cV t.seen d with
 |true=>rw [if_pos rfl];exact o
 |false =>
  rw [if_neg (by decide)];simp only;have hin:=p9 hok (d:=(d:Int)) (by omega) (by omega);have hT:jT (aO l m m.length) (outs l m) d (iT (aO l m m.length) (outs l m) d)=d:=by
   have hw:=List.all_eq_true.1 (BY hok) d (List.mem_range.2 (by rw [a9];exact hd));exact of_decide_eq_true hw
  have hT1:1≤iT (aO l m m.length) (outs l m) d:=by
   have:=(jI (aO l m m.length) (outs l m) d (aO l m m.length).length 1).1;unfold iT;omega
  have hget:∀ k,k<iT (aO l m m.length) (outs l m) d→aE (kS (aO l m m.length) (outs l m) d) k=jT (aO l m m.length) (outs l m) d k:=fun k hk=>vK hk;have hlen:(kS (aO l m m.length) (outs l m) d).length=iT (aO l m m.length) (outs l m) d:=kZ;generalize kS (aO l m m.length) (outs l m) d=W at hget hlen ⊢;generalize iT (aO l m m.length) (outs l m) d=T at *;have hr:∀ k,k<W.length→(aE W k).toNat<2*m.length:=fun k hk=>by
   rw [hget k (by omega)];have:=hin k;omega
  have hdis:∀ k,k<W.length→cV t.seen (aE W k).toNat=true→False:=fun k hk hsk=>by
   rw [hget k (by omega)] at hsk;have hf:∀ j,cV t.seen (jT (aO l m m.length) (outs l m) d (k+j)).toNat=true:=by
    intro j
    induction j with
    |zero=>exact hsk
    |succ j ih =>
     have hi:=hin (k+j);have:=h.cl (jT (aO l m m.length) (outs l m) d (k+j)).toNat (by omega) ih;rw [Int.toNat_of_nonneg hi.1] at this;exact this
   have:=hf (T - k);rw [show k+(T - k)=T by omega,hT,Int.toNat_natCast,hs] at this;cases this
  generalize BH l (aO l m m.length) W W.length=A
  -- which darts lie in the walk
  have hsee:∀ i,cV (fF t.seen W W.length) i=true→(∃ k,k<W.length∧(aE W k).toNat=i)∨(cV t.seen i=true∧¬ ∃ k,k<W.length∧(aE W k).toNat=i):=fun i hi=>by
   by_cases e:∃ k,k<W.length∧(aE W k).toNat=i
   ·exact .inl e
   rw [(mT t.seen W (by rw [h.seen];exact hr) i _ (Nat.le_refl _)).2 e] at hi;exact .inr ⟨hi,e⟩
  have hnew:∀ (fc:Int) i,(∃ k,k<W.length∧(aE W k).toNat=i)→aE (fI t.face W fc W.length) i=fc:=fun fc i hi=>(m8 t.face W fc (by rw [h.face];exact hr) i _ (Nat.le_refl _)).1 hi;have hold:∀ (fc:Int) i,(¬ ∃ k,k<W.length∧(aE W k).toNat=i)→aE (fI t.face W fc W.length) i=aE t.face i:=fun fc i hi=>(m8 t.face W fc (by rw [h.face];exact hr) i _ (Nat.le_refl _)).2 hi;have hwi:∀ i:Nat,(∃ k,k<W.length∧(aE W k).toNat=i)→∃ k,k<T∧jT (aO l m m.length) (outs l m) d k=i:=fun i ⟨k,b1,b2⟩=>by
   refine⟨k,by omega,?_⟩;rw [hget k (by omega)] at b2;have:=hin k;omega
  have hiw:∀ k,k≤T→∃ q,q<W.length∧(aE W q).toNat=(jT (aO l m m.length) (outs l m) d k).toNat:=fun k hk=>by
   rcases Nat.lt_or_ge k T with hk2|hk2
   ·exact⟨k,by omega,by rw [hget k hk2]⟩
   refine⟨0,by omega,?_⟩;rw [hget 0 (by omega),show k=T by omega,hT];rfl
  have hmany:=h.low;refine⟨fun i j hi hj hsi hsj hf hc=>?_,fun i hi hsi=>?_,fun i hi hsi hz=>?_,fun i hi=>?_⟩
  ·rcases hsee i hsi with ei|⟨oi,ni⟩ <;> rcases hsee j hsj with ej|⟨oj,nj⟩
   ·obtain⟨a,a1,a2⟩:=hwi i ei;obtain⟨b,b1,b2⟩:=hwi j ej;refine⟨T - a+b,?_⟩;rw [← a2,LK,show a+(T - a+b)=T+b by omega,← LK,hT,b2]
   ·exfalso;simp only at hf hc;rw [hnew _ i ei] at hf hc;rw [hold _ j nj] at hf;have:=o.rng j hj;have hz:=o.zer j hj oj;by_cases hA:0<A
    ·rw [if_pos hA] at hf;omega
    rw [if_neg hA] at hf hc;simp only [if_neg hA] at hc;have hz:=hz hf.symm;rcases hc with hc|⟨c1,c2⟩
    ·exact hc rfl
    by_cases hA2:A<0
    ·rw [if_pos hA2] at c1 c2;rcases hz with hz|hz
     ·omega
     rw [hz] at c2;cases c2
    rw [if_neg hA2] at c2;cases c2
   ·exfalso;simp only at hf hc;rw [hnew _ j ej] at hf;rw [hold _ i ni] at hf hc;have:=o.rng i hi;have hz:=o.zer i hi oi;by_cases hA:0<A
    ·rw [if_pos hA] at hf;omega
    rw [if_neg hA] at hf;simp only [if_neg hA] at hc;have hz:=hz hf;rcases hc with hc|⟨c1,c2⟩
    ·exact hc hf
    by_cases hA2:A<0
    ·rw [if_pos hA2] at c1 c2;rcases hz with hz|hz
     ·omega
     rw [hz] at c2;cases c2
    rw [if_neg hA2] at c2;cases c2
   simp only at hf hc;rw [hold _ i ni] at hf hc;rw [hold _ j nj] at hf;refine o.orb i j hi hj oi oj hf ?_;rcases hc with hc|⟨c1,c2⟩
   ·exact .inl hc
   refine .inr ?_;by_cases hA:0<A
   ·rw [if_pos hA] at c1 c2;exact⟨c1,c2⟩
   rw [if_neg hA] at c1 c2;by_cases hA2:A<0
   ·rw [if_pos hA2] at c1 c2;exact⟨by omega,c2⟩
   rw [if_neg hA2] at c2;cases c2
  ·rcases hsee i hsi with ei|⟨oi,ni⟩
   ·have e1:=hnew (if 0<A then t.many+1 else 0) i ei;simp only;rw [e1];obtain⟨a,a1,a2⟩:=hwi i ei;refine hnew _ _ ?_;have:=hiw (a+1) (by omega);rw [show jT (aO l m m.length) (outs l m) d (a+1)=vU (aO l m m.length) (outs l m) i from by rw [← a2];rfl] at this;exact this
   simp only;rw [hold _ i ni,← o.con i hi oi];refine hold _ _ fun ⟨k,b1,b2⟩=>?_;have hc:=h.cl i hi oi;rw [← b2] at hc;exact hdis k b1 hc
  ·simp only at hz ⊢;rcases hsee i hsi with ei|⟨oi,ni⟩
   ·rw [hnew _ i ei] at hz;by_cases hA:0<A
    ·rw [if_pos hA] at hz;omega
    rw [if_neg hA,if_neg hA];by_cases hA2:A<0
    ·rw [if_pos hA2];exact .inl (by omega)
    rw [if_neg hA2,if_neg hA2];exact .inr rfl
   rw [hold _ i ni] at hz;have hz:=o.zer i hi oi hz;by_cases hA:0<A
   ·rw [if_pos hA,if_pos hA];exact hz
   rw [if_neg hA,if_neg hA];by_cases hA2:A<0
   ·rw [if_pos hA2,if_pos hA2];exact hz.imp (fun h=>by omega) id
   rw [if_neg hA2,if_neg hA2];exact .inr rfl
  simp only;by_cases ei:∃ k,k<W.length∧(aE W k).toNat=i
  ·rw [hnew _ i ei];split <;> omega
  rw [hold _ i ei];have:=o.rng i hi;split <;> omega
theorem aC6 (hok:cM l m n=true):∀ d,d≤2*m.length→Ow l m (bK l (aO l m m.length) (outs l m) d)
 |0,_=>by
  have hz:∀ i,cV (bK l (aO l m m.length) (outs l m) 0).seen i=true→False:=fun i h=>by
   unfold bK cV at h;rw [List.getD_eq_getElem?_getD,List.getElem?_replicate] at h;split at h <;> cases h
  refine⟨fun i j _ _ hs=>(hz i hs).elim,fun i _ hs=>(hz i hs).elim,fun i _ hs=>(hz i hs).elim,fun i hi=>?_⟩;unfold bK aE;rw [List.getD_eq_getElem?_getD,List.getElem?_replicate,a9,if_pos hi];exact Int.le_refl _
 |d+1,h=>aF3 hok (R9 hok d (by omega)) (aC6 hok d (by omega)) (nJ l (aO l m m.length) (outs l m) d).2.2.2.2.1 (by omega)
end
abbrev Pq:=Int × Int
def onW (N x y:Int)(p q:Pq):Prop:=∃ α β:Int,0≤α∧0≤β∧α+β=N∧x=α*p.1+β*q.1∧y=α*p.2+β*q.2
def okP (e f:Pq × Pq):Prop:=∀ N x y:Int,0<N→onW N x y e.1 e.2→onW N x y f.1 f.2→∃ z:Pq,(z=e.1∨z=e.2)∧(z=f.1∨z=f.2)∧x=N*z.1∧y=N*z.2
theorem L8 {N x y:Int}{p q:Pq}(h:onW N x y p q):onW N x y q p:=by
 obtain⟨α,β,h1,h2,h3,h4,h5⟩:=h;exact⟨β,α,h2,h1,by omega,by omega,by omega⟩
theorem FN {e f:Pq × Pq}(h:okP e f):okP f e:=fun N x y hN he hf=>by
 obtain⟨z,h1,h2,h3⟩:=h N x y hN hf he;exact⟨z,h2,h1,h3⟩
theorem XK {e f:Pq × Pq}(h:okP e f):okP (e.2,e.1) f:=fun N x y hN he hf=>by
 obtain⟨z,h1,h2,h3⟩:=h N x y hN (L8 he) hf;exact⟨z,h1.symm,h2,h3⟩
def e3 (F:Int × Int × Int)(N x y:Int):Int:=F.1*N+F.2.1*x+F.2.2*y
theorem cX {a b:Int}(h:a*b=0):a=0∨b=0:=Int.mul_eq_zero.1 h
def pe:List Pq→List (Pq × Pq)
 |a::b::r=>(a,b)::pe (b::r)
 |_=>[]
def cl:List Pq→List (Pq × Pq)
 |[]=>[]
 |p::r=>pe (p::r++[p])
def bI (p q:Pq):Int:=p.1*q.2 - q.1*p.2
def aLR:List (Pq × Pq)→Int
 |[]=>0
 |e::r=>bI e.1 e.2+aLR r
def ar (P:List Pq):Int:=aLR (cl P)
theorem aEZ (p q:Pq):bI p q = -bI q p:=by
 unfold bI;omega
def lxp (x y:Int):Prop:=0<x∨(x=0∧0<y)
def lx (p q:Pq):Prop:=lxp (q.1 - p.1) (q.2 - p.2)
theorem V4 {w a b:Pq}{N k:Int}(h0:0≤k)(h1:k≤N)(e1:N*(a.1 - w.1)=k*(b.1 - w.1))(e2:N*(a.2 - w.2)=k*(b.2 - w.2)):onW N (N*a.1) (N*a.2) w b :=
 ⟨N - k,k,by omega,h0,by omega,by grind,by grind⟩
def hd (L:List Pq)(z:Pq):Pq:=match L with
 |[]=>z
 |x::_=>x
def lI (f:Pq × Pq→Int):List (Pq × Pq)→Int
 |[]=>0
 |e::r=>f e+lI f r
def fs (f:Pq × Pq→Int)(P:List Pq):Int:=lI f (cl P)
theorem QH (f:Pq × Pq→Int):∀ (A B:List (Pq × Pq)),lI f (A++B)=lI f A+lI f B
 |[],B=>by simp [lI]
 |e::A,B=>by
  have:=QH f A B;simp only [List.cons_append,lI];omega
def rI (A B α:Int):Int:=if A≤0∧0<B then (if 0<α then 1 else 0) else if 0<A∧B≤0 then (if α<0 then -1 else 0) else 0
def vec (N:Int)(p a:Pq):Pq:=(N*a.1 - p.1,N*a.2 - p.2)
def wn (u:Pq)(N:Int)(p:Pq)(e:Pq × Pq):Int:=rI (bI u (vec N p e.1)) (bI u (vec N p e.2)) (bI (vec N p e.1) (vec N p e.2))
theorem C3 (a:Int):0≤a*a:=by
 rcases Int.le_total 0 a with h|h
 ·exact Int.mul_nonneg h h
 exact Int.mul_nonneg_of_nonpos_of_nonpos h h
theorem sq_pos {x y:Int}(h:¬ (x=0∧y=0)):0<x*x+y*y:=by
 by_cases hx:x=0
 ·have hy:y≠0:=fun e=>h ⟨hx,e⟩;have:=C3 x;have h2:0<y*y:=by
   rcases Int.lt_or_lt_of_ne hy with g|g
   ·exact Int.mul_pos_of_neg_of_neg g g
   exact Int.mul_pos g g
  omega
 have:=C3 y;have h2:0<x*x:=by
  rcases Int.lt_or_lt_of_ne hx with g|g
  ·exact Int.mul_pos_of_neg_of_neg g g
  exact Int.mul_pos g g
 omega
def lf (f:Pq)(a z:Pq):Int:=f.1*(z.1 - a.1)+f.2*(z.2 - a.2)
def pos (f g a z:Pq):Prop:=lxp (lf f a z) (lf g a z)
theorem OH {s:Sg}(h:dR s=true):∃ a b:Pq,((a=s.1∧b=s.2)∨(a=s.2∧b=s.1))∧key a<key b∧bD s=(a,b)∧aI a=true∧aI b=true:=by
 obtain⟨r1,r2,ns⟩:=nH h;have nk:key s.1≠key s.2:=(H3 r1 r2).1 ((iD _ _).2 ns);unfold bD;simp only [gJ r1 r2,TM];by_cases hk:key s.2<key s.1
 ·rw [if_pos hk];exact⟨s.2,s.1,.inr ⟨rfl,rfl⟩,hk,rfl,r2,r1⟩
 rw [if_neg hk];exact⟨s.1,s.2,.inl ⟨rfl,rfl⟩,by omega,rfl,r1,r2⟩
theorem ZT {s t:Sg}(h:aS s.1 s.2 t.1=0∧aS s.1 s.2 t.2=0){a b c d:Pq}(hs:bD s=(a,b))(ht:bD t=(c,d))(ra:aI a=true)(rb:aI b=true)(rc:aI c=true)(rd:aI d=true) :
  fR s t=if (if key a<key c then key c else key a)<(if key d<key b then key d else key b) then 4 else if (if key a<key c then key c else key a)=(if key d<key b then key d else key b) then 1 else 0:=by
 unfold fR;rw [if_pos h];unfold GM sJ;rw [hs,ht];simp only [gJ ra rc,gJ rd rb,UP];by_cases h1:key a<key c
 ·by_cases h2:key d<key b
  ·simp only [if_pos h1,if_pos h2];rw [gJ rc rd,zD]
  simp only [if_pos h1,if_neg h2];rw [gJ rc rb,zD]
 by_cases h2:key d<key b
 ·simp only [if_neg h1,if_pos h2];rw [gJ ra rd,zD]
 simp only [if_neg h1,if_neg h2];rw [gJ ra rb,zD]
theorem O3 {N x y:Int}{s:Sg}{a b:Pq}(h:(a=s.1∧b=s.2)∨(a=s.2∧b=s.1)):onW N x y s.1 s.2↔onW N x y a b:=by
 rcases h with ⟨rfl,rfl⟩|⟨rfl,rfl⟩
 ·exact Iff.rfl
 exact⟨L8,L8⟩
theorem WY {N x y:Int}{a b:Pq}(h:onW N x y a b)(hk:key a≤key b):N*key a≤x*100000+y∧x*100000+y≤N*key b:=by
 obtain⟨α,β,h1,h2,h3,h4,h5⟩:=h;have e:x*100000+y=α*key a+β*key b:=by
  unfold key;rw [h4,h5]
  grind
 have m1:=Int.mul_le_mul_of_nonneg_left hk h1;have m2:=Int.mul_le_mul_of_nonneg_left hk h2;rw [e,← h3,Int.add_mul,Int.add_mul];omega
theorem XS {N x y:Int}{a b:Pq}(h:onW N x y a b)(hk:key a<key b)(e:x*100000+y=N*key a):x=N*a.1∧y=N*a.2:=by
 obtain⟨α,β,h1,h2,h3,h4,h5⟩:=h;have e2:x*100000+y=α*key a+β*key b:=by
  unfold key;rw [h4,h5]
  grind
 rw [e,← h3,Int.add_mul] at e2;have e3:β*(key b - key a)=0:=(by rw [Int.mul_sub];omega);have hb:β=0:=(cX e3).resolve_right (by omega);subst hb;rw [Int.add_zero] at h3;subst h3;simp only [Int.zero_mul,Int.add_zero] at h4 h5;exact⟨h4,h5⟩
theorem Q1 {N x y:Int}{a b:Pq}(h:onW N x y a b)(hk:key a<key b)(e:x*100000+y=N*key b):x=N*b.1∧y=N*b.2:=by
 obtain⟨α,β,h1,h2,h3,h4,h5⟩:=h;have e2:x*100000+y=α*key a+β*key b:=by
  unfold key;rw [h4,h5]
  grind
 rw [e,← h3,Int.add_mul] at e2;have e3:α*(key b - key a)=0:=(by rw [Int.mul_sub];omega);have hb:α=0:=(cX e3).resolve_right (by omega);subst hb;rw [Int.zero_add] at h3;subst h3;simp only [Int.zero_mul,Int.zero_add] at h4 h5;exact⟨h4,h5⟩
theorem B3 {N:Int}(hN:0<N){p q:Pq}(h1:N*p.1=N*q.1)(h2:N*p.2=N*q.2):p=q :=
 Prod.ext (Int.eq_of_mul_eq_mul_left (by omega) h1) (Int.eq_of_mul_eq_mul_left (by omega) h2)
theorem QT {N x y α β:Int}{p q a b:Pq}(h3:α+β=N)(h4:x=α*p.1+β*q.1)(h5:y=α*p.2+β*q.2) :
  α*aL a b p+β*aL a b q=(b.1 - a.1)*(y - N*a.2) - (b.2 - a.2)*(x - N*a.1):=by
 subst h3 h4 h5;unfold aL
 grind
theorem KH {N x y:Int}{a b:Pq}(h:onW N x y a b):(b.1 - a.1)*(y - N*a.2) - (b.2 - a.2)*(x - N*a.1)=0:=by
 obtain⟨α,β,h1,h2,h3,h4,h5⟩:=h;subst h3 h4 h5
 grind
theorem PJ (A B:Int):0<C8 A*C8 B↔0<A*B:=by
 unfold C8;by_cases a0:A<0
 ·by_cases b0:B<0
  ·have:=Int.mul_pos_of_neg_of_neg a0 b0;simp [a0,b0];omega
  by_cases b1:0<B
  ·have:=Int.mul_neg_of_neg_of_pos a0 b1;simp [a0,b0,b1];omega
  have:B=0:=(by omega);subst this;simp [a0]
 by_cases a1:0<A
 ·by_cases b0:B<0
  ·have:=Int.mul_neg_of_pos_of_neg a1 b0;simp [a0,a1,b0];omega
  by_cases b1:0<B
  ·have:=Int.mul_pos a1 b1;simp [a0,a1,b0,b1];omega
  have:B=0:=(by omega);subst this;simp [a0,a1]
 have:A=0:=(by omega);subst this;simp
theorem PW {γ δ A B N:Int}(h1:0≤γ)(h2:0≤δ)(h3:γ+δ=N)(hN:0<N)(h:γ*A+δ*B=0)(hp:0<A*B):False:=by
 rcases Int.lt_or_lt_of_ne (show A≠0 from fun e=>by rw [e,Int.zero_mul] at hp;omega) with hA|hA
 ·have hB:B<0:=Int.not_le.1 fun hB=>by
   have:=Int.mul_nonpos_of_nonpos_of_nonneg (show A≤0 by omega) hB;omega
  have m1:γ*A≤0:=Int.mul_nonpos_of_nonneg_of_nonpos h1 (by omega);have m2:δ*B≤0:=Int.mul_nonpos_of_nonneg_of_nonpos h2 (by omega);have g0:=(cX (show γ*A=0 by omega)).resolve_right (by omega);have d0:=(cX (show δ*B=0 by omega)).resolve_right (by omega);omega
 have hB:0<B:=Int.not_le.1 fun hB=>by
  have:=Int.mul_nonpos_of_nonneg_of_nonpos (show 0≤A by omega) hB;omega
 have m1:0≤γ*A:=Int.mul_nonneg h1 (by omega);have m2:0≤δ*B:=Int.mul_nonneg h2 (by omega);have g0:=(cX (show γ*A=0 by omega)).resolve_right (by omega);have d0:=(cX (show δ*B=0 by omega)).resolve_right (by omega);omega
theorem QB {γ δ A B N x y:Int}{p q:Pq}(h3:γ+δ=N)(hx:x=γ*p.1+δ*q.1)(hy:y=γ*p.2+δ*q.2)(h:γ*A+δ*B=0)(h0:A=0∨B=0)(hn:¬ (A=0∧B=0)):∃ z:Pq,(z=p∨z=q)∧x=N*z.1∧y=N*z.2:=by
 rcases h0 with rfl|rfl
 ·have hd:=(cX (show δ*B=0 by omega)).resolve_right (fun e=>hn ⟨rfl,e⟩);subst hd;refine⟨p,.inl rfl,?_,?_⟩
  ·rw [hx,← h3];grind
  rw [hy,← h3];grind
 have hd:=(cX (show γ*A=0 by omega)).resolve_right (fun e=>hn ⟨e,rfl⟩);subst hd;refine⟨q,.inr rfl,?_,?_⟩
 ·rw [hx,← h3];grind
 rw [hy,← h3];grind
theorem aGm {s t:Sg}(hs:dR s=true)(ht:dR t=true)(h:fR s t=0∨fR s t=1):okP s t:=by
 intro N x y hN h1 h2;by_cases hl:aS s.1 s.2 t.1=0∧aS s.1 s.2 t.2=0
 ·obtain⟨a,b,eab,kab,esa,ra,rb⟩:=OH hs;obtain⟨c,d,ecd,kcd,esc,rc,rd⟩:=OH ht;rw [ZT hl esa esc ra rb rc rd] at h;have o1:=(O3 eab).1 h1;have o2:=(O3 ecd).1 h2;obtain⟨k1,k2⟩:=WY o1 (Int.le_of_lt kab);obtain⟨k3,k4⟩:=WY o2 (Int.le_of_lt kcd);have i1:key a≤key d:=Int.le_of_mul_le_mul_left (Int.le_trans k1 k4) hN;have i2:key c≤key b:=Int.le_of_mul_le_mul_left (Int.le_trans k3 k2) hN;have sa:a=s.1∨a=s.2:=eab.elim (fun e=>.inl e.1) (fun e=>.inr e.1);have sb:b=s.1∨b=s.2:=eab.elim (fun e=>.inr e.2) (fun e=>.inl e.2);have tc:c=t.1∨c=t.2:=ecd.elim (fun e=>.inl e.1) (fun e=>.inr e.1);have td:d=t.1∨d=t.2:=ecd.elim (fun e=>.inr e.2) (fun e=>.inl e.2);have q:key a=key d∨key c=key b:=by
   by_cases g1:key a<key c <;> by_cases g2:key d<key b <;> simp only [g1,g2,if_true,if_false] at h <;> split at h <;> (try split at h) <;> omega
  rcases q with q|q
  ·obtain⟨x1,y1⟩:=XS o1 kab (by rw [q] at k1 ⊢;omega);obtain⟨x2,y2⟩:=Q1 o2 kcd (by rw [q] at k1;omega);have e:=B3 hN (x1.symm.trans x2) (y1.symm.trans y2);exact⟨a,sa,by rw [e];exact td,x1,y1⟩
  obtain⟨x1,y1⟩:=Q1 o1 kab (by rw [q] at k3;omega);obtain⟨x2,y2⟩:=XS o2 kcd (by rw [q] at k3 ⊢;omega);have e:=B3 hN (x1.symm.trans x2) (y1.symm.trans y2);exact⟨b,sb,by rw [e];exact tc,x1,y1⟩
 have hl':¬ (aS t.1 t.2 s.1=0∧aS t.1 t.2 s.2=0):=fun g=>hl (A7 s t (nH ht).2.2 g);rw [fR,if_neg hl] at h;have c1:=KH h1;have c2:=KH h2;obtain⟨α,β,p1,p2,p3,p4,p5⟩:=h1;obtain⟨γ,δ,q1,q2,q3,q4,q5⟩:=h2;have m1:=QT (a:=t.1) (b:=t.2) p3 p4 p5;have m2:=QT (a:=s.1) (b:=s.2) q3 q4 q5;rw [c2] at m1;rw [c1] at m2;unfold RN at h;by_cases g:0<aS s.1 s.2 t.1*aS s.1 s.2 t.2∨0<aS t.1 t.2 s.1*aS t.1 t.2 s.2
 ·exfalso;rcases g with g|g
  ·exact PW q1 q2 q3 hN m2 ((PJ _ _).1 g)
  exact PW p1 p2 p3 hN m1 ((PJ _ _).1 g)
 rw [if_neg g] at h;by_cases g2:(aS t.1 t.2 s.1=0∨aS t.1 t.2 s.2=0)∧(aS s.1 s.2 t.1=0∨aS s.1 s.2 t.2=0)
 ·simp only [kN] at g2 hl hl';obtain⟨z,z1,z2,z3⟩:=QB p3 p4 p5 m1 g2.1 hl';obtain⟨w,w1,w2,w3⟩:=QB q3 q4 q5 m2 g2.2 hl;have e:=B3 hN (z2.symm.trans w2) (z3.symm.trans w3);exact⟨z,z1,by rw [e];exact w1,z2,z3⟩
 rw [if_neg g2] at h;split at h <;> omega
def xD (A A':Int):Int:=if 0<A∧A'≤0 then 1 else 0
theorem aCJ {A B A' B' C D:Int}(hD:0<D)(h:D*C=A*B' - B*A')(h0:C=0→(0<A↔0<B)∧(0<A'↔0<B')):rI A B C - rI A' B' C=xD B B' - xD A A':=by
 have k1:A≤0→0<B→A'≤0→B'≤0→0<C:=fun a b a' b'=>Int.not_le.1 fun hc=>by
  have m1:=Int.mul_nonneg_of_nonpos_of_nonpos a b';have m2:=Int.mul_nonpos_of_nonneg_of_nonpos (Int.le_of_lt b) a';have m3:=Int.mul_nonpos_of_nonneg_of_nonpos (Int.le_of_lt hD) hc;have:C=0:=(cX (show D*C=0 by omega)).resolve_left (by omega);have:=h0 this;omega
 have k2:A≤0→0<B→0<A'→0<B'→C<0:=fun a b a' b'=>Int.not_le.1 fun hc=>by
  have m1:=Int.mul_nonpos_of_nonpos_of_nonneg a (Int.le_of_lt b');have m2:=Int.mul_pos b a';have m3:=Int.mul_nonneg (Int.le_of_lt hD) hc;omega
 have k3:0<A→B≤0→A'≤0→B'≤0→C<0:=fun a b a' b'=>Int.not_le.1 fun hc=>by
  have m1:=Int.mul_nonpos_of_nonneg_of_nonpos (Int.le_of_lt a) b';have m2:=Int.mul_nonneg_of_nonpos_of_nonpos b a';have m3:=Int.mul_nonneg (Int.le_of_lt hD) hc;have:C=0:=(cX (show D*C=0 by omega)).resolve_left (by omega);have:=h0 this;omega
 have k4:0<A→B≤0→0<A'→0<B'→0<C:=fun a b a' b'=>Int.not_le.1 fun hc=>by
  have m1:=Int.mul_pos a b';have m2:=Int.mul_nonpos_of_nonpos_of_nonneg b (Int.le_of_lt a');have m3:=Int.mul_nonpos_of_nonneg_of_nonpos (Int.le_of_lt hD) hc;omega
 have k5:A≤0→B≤0→A'≤0→0<B'→C≤0:=fun a b a' b'=>Int.not_lt.1 fun hc=>by
  have m1:=Int.mul_nonpos_of_nonpos_of_nonneg a (Int.le_of_lt b');have m2:=Int.mul_nonneg_of_nonpos_of_nonpos b a';have m3:=Int.mul_pos hD hc;omega
 have k6:A≤0→B≤0→0<A'→B'≤0→0≤C:=fun a b a' b'=>Int.not_lt.1 fun hc=>by
  have m1:=Int.mul_nonneg_of_nonpos_of_nonpos a b';have m2:=Int.mul_nonpos_of_nonpos_of_nonneg b (Int.le_of_lt a');have m3:=Int.mul_neg_of_pos_of_neg hD hc;omega
 have k7:0<A→0<B→A'≤0→0<B'→0<C:=fun a b a' b'=>Int.not_le.1 fun hc=>by
  have m1:=Int.mul_pos a b';have m2:=Int.mul_nonpos_of_nonneg_of_nonpos (Int.le_of_lt b) a';have m3:=Int.mul_nonpos_of_nonneg_of_nonpos (Int.le_of_lt hD) hc;omega
 have k8:0<A→0<B→0<A'→B'≤0→C<0:=fun a b a' b'=>Int.not_le.1 fun hc=>by
  have m1:=Int.mul_nonpos_of_nonneg_of_nonpos (Int.le_of_lt a) b';have m2:=Int.mul_pos b a';have m3:=Int.mul_nonneg (Int.le_of_lt hD) hc;omega
 have k0:C=0∨C<0∨0<C:=(by omega);clear h;unfold rI xD
 by_cases a:0<A <;> by_cases b:0<B <;> by_cases a':0<A' <;> by_cases b':0<B' <;>
  simp only [a,b,a',b',← Int.not_lt,not_true_eq_false,not_false_eq_true,and_true,and_false,true_and,false_and,and_self,if_true,if_false,forall_const,true_implies,false_implies,iff_true,true_iff,iff_false,false_iff,imp_false] at*<;>
  (repeat' split) <;> omega
def R0 (N:Int)(p:Pq)(e:Pq × Pq):Prop:=¬ ∃ M:Int,0<M∧onW (M*N) (M*p.1) (M*p.2) e.1 e.2
theorem pR {N:Int}(hN:0<N){p a b:Pq}(hoff:R0 N p (a,b))(h0:bI (vec N p a) (vec N p b)=0)(u:Pq):(0<bI u (vec N p a)↔0<bI u (vec N p b)):=by
 -- the point is beyond both,on their line
 have key:¬ (vec N p a).1*(vec N p b).1+(vec N p a).2*(vec N p b).2≤0:=fun hle=>hoff (by
  by_cases ha:vec N p a=(0,0)
  ·refine⟨1,by decide,N,0,by omega,by decide,by omega,?_,?_⟩
   ·have:=congrArg Prod.fst ha;simp only [vec] at this;simp only;omega
   have:=congrArg Prod.snd ha;simp only [vec] at this;simp only;omega
  have hpos:0<(vec N p a).1*(vec N p a).1+(vec N p a).2*(vec N p a).2:=sq_pos fun g=>ha (Prod.ext g.1 g.2);generalize hS:(vec N p a).1*(vec N p a).1+(vec N p a).2*(vec N p a).2=S at hpos;generalize hk:(vec N p a).1*(vec N p b).1+(vec N p a).2*(vec N p b).2=k at hle;refine⟨S - k,by omega,N * -k,N*S,Int.mul_nonneg (by omega) (by omega),Int.mul_nonneg (by omega) (by omega),by rw [← Int.mul_add,Int.mul_comm,Int.sub_eq_add_neg,Int.add_comm],?_,?_⟩
  ·have e1:S*(vec N p b).1=k*(vec N p a).1:=by
    rw [← hS,← hk];unfold bI at h0;clear hoff hS hk;generalize (vec N p a).1=x1 at *;generalize (vec N p a).2=x2 at *;generalize (vec N p b).1=y1 at *;generalize (vec N p b).2=y2 at *
    grind
   simp only [vec] at e1;simp only;clear hS hk hoff h0
   grind
  have e1:S*(vec N p b).2=k*(vec N p a).2:=by
   rw [← hS,← hk];unfold bI at h0;clear hoff hS hk;generalize (vec N p a).1=x1 at *;generalize (vec N p a).2=x2 at *;generalize (vec N p b).1=y1 at *;generalize (vec N p b).2=y2 at *
   grind
  simp only [vec] at e1;simp only;clear hS hk hoff h0
  grind)
 have hk:0<(vec N p a).1*(vec N p b).1+(vec N p a).2*(vec N p b).2:=(by omega);generalize vec N p a=x at *;generalize vec N p b=y at *;have e:(x.1*y.1+x.2*y.2)*bI u x=(x.1*x.1+x.2*x.2)*bI u y:=by
  unfold bI at *;clear key hk
  grind
 have hx:0<x.1*x.1+x.2*x.2:=sq_pos fun g=>(by rw [g.1,g.2] at hk;simp at hk);constructor
 ·intro h;have:=Int.mul_pos hk h;exact Int.not_le.1 fun g=>by
   have:=Int.mul_nonpos_of_nonneg_of_nonpos (Int.le_of_lt hx) g;omega
 intro h;have:=Int.mul_pos hx h;exact Int.not_le.1 fun g=>by
  have:=Int.mul_nonpos_of_nonneg_of_nonpos (Int.le_of_lt hk) g;omega
end Go.Aw
end
