/-
  Parts of the proof, put together. No condition.
-/
import Derived.Test.YtjahkcbdecgbhaaGreatQBn
import Derived.Test.YtjahkcbdecgbhaaGreatQBo
import Derived.Test.YtjahkcbdecgbhaaGreatChecked
import Derived.Test.YtjahkcbdecgbhaaGreatRows
import Derived.ProofKit
import Derived.Lib.SmallJoins
import Derived.Deep.Slices
import Derived.Deep.Fields
set_option linter.unusedSimpArgs false
set_option linter.unusedVariables false
noncomputable section
namespace Go.Proofs.YtjahkcbdecgbhaaGreat
open Go.ChangeShapes Go.WideShapes Go.ChangeAt Go.RowKit Go.Joins
theorem eD {a b:Bool}(ha:a=true)(hb:b=true):(a&&b)=true:=by rw [ha,hb];rfl
theorem jf0:(Rows.facesEdgesRow.wf (OpenSpec.ofChange Rows.facesEdgesSpec))=true:=by kernel_rfl
theorem jf1:(laidOutB Tryz.prog)=true:=by kernel_rfl
theorem jf2:(mapsRowed Tryz.prog)=true:=by kernel_rfl
theorem jf3:(Tryz.f6.params.all (Tryz.prog.readableRec ·))=true:=by kernel_rfl
theorem jf4:(namedTie Tryz.prog Rows.facesEdgesRow.named Rows.facesEdgesSpec.vars)=true:=by kernel_rfl
theorem jf5:((Rows.facesEdgesRow.stops == []))=true:=by kernel_rfl
theorem jf6:((Tryz.prog.stops == []))=true:=by kernel_rfl
theorem jf7:((Rows.facesEdgesRow.knobs == []))=true:=by kernel_rfl
theorem jf8:((Tryz.prog.stopKnobs == []))=true:=by kernel_rfl
theorem jf9:((Rows.facesEdgesRow.inPlace == Tryz.prog.inPlace 6))=true:=by kernel_rfl
theorem aK4:((Rows.facesEdgesRow.unfollowed == Tryz.prog.unfollowed 6))=true:=by kernel_rfl
theorem aKg:((Rows.facesEdgesRow.recurses == Tryz.prog.recurses 6))=true:=by kernel_rfl
theorem aKl:((Rows.facesEdgesRow.named == Tryz.prog.varsNamed 6))=true:=by kernel_rfl
theorem aJL:((Rows.facesEdgesRow.maps == (Tryz.f6.params.toList++Rows.facesEdgesSpec.plain.varTypes Tryz.prog).any (Tryz.prog.mapsRec ·)))=true:=by kernel_rfl
theorem aJU:((Rows.facesEdgesRow.ifaces == (Tryz.f6.params.toList++Rows.facesEdgesSpec.plain.varTypes Tryz.prog).any (Tryz.prog.ifacesRec ·)))=true:=by kernel_rfl
theorem aK0:((Rows.facesEdgesRow.mapsOut == Tryz.prog.mapsAmong Tryz.f6.resultTypes.toList))=true:=by kernel_rfl
theorem aKt:((Rows.facesEdgesRow.loops == (Tryz.f6.params.toList++Rows.facesEdgesSpec.plain.varTypes Tryz.prog).any (Tryz.prog.loopsFrom ·)))=true:=by kernel_rfl
theorem aK9:((Rows.facesEdgesRow.wideKeys == (Tryz.f6.params.toList++Rows.facesEdgesSpec.plain.varTypes Tryz.prog++Tryz.f6.resultTypes.toList).any (Tryz.prog.wideKeysFrom ·)))=true:=by kernel_rfl
theorem aKH:(Rows.facesEdgesSpec.vars.all (Tryz.prog.varReadable ·))=true:=by kernel_rfl
theorem aL6:(Tryz.f6.resultTypes.all (fun t=>Tryz.prog.readableRec t&&decide (t<Tryz.prog.types.size)))=true:=by kernel_rfl
theorem aJY:((Rows.facesEdgesRow.ifacesOut == Tryz.f6.resultTypes.toList.any (Tryz.prog.ifacesRec ·)))=true:=by kernel_rfl
theorem aKO:((Rows.facesEdgesRow.loopsOut == Tryz.f6.resultTypes.toList.any (Tryz.prog.loopsFrom ·)))=true:=by kernel_rfl
theorem aKb:((Rows.facesEdgesRow.plainKeys == Tryz.prog.plainKeys))=true:=by kernel_rfl
theorem aLq:(Rows.facesEdgesRow.shortTexts.isNone)=true:=by kernel_rfl
theorem aJH:(Tryz.prog.stopsHeard)=true:=by kernel_rfl
theorem aKk:(Tryz.prog.mayEnter)=true:=by kernel_rfl
theorem aLk:((Rows.facesEdgesRow.lifted == Tryz.prog.liftsFinal))=true:=by kernel_rfl
theorem aKQ:((Tryz.prog.make == some Rows.facesEdgesRow.make))=true:=by kernel_rfl
theorem aJM:((Rows.facesEdgesRow.pinned == Rows.facesEdgesRow.pinnedBy))=true:=by kernel_rfl
theorem aKP:((Rows.facesEdgesRow.veiled == (Tryz.f6.params.toList++Rows.facesEdgesSpec.plain.varTypes Tryz.prog++Tryz.f6.resultTypes.toList).any (Tryz.prog.veiledRec ·)))=true:=by kernel_rfl
theorem aKI:(Rows.facesEdgesRow.veiledFits Tryz.prog Tryz.f6.params.toList (Tryz.f6.params.toList++Rows.facesEdgesSpec.plain.varTypes Tryz.prog++Tryz.f6.resultTypes.toList))=true:=by kernel_rfl
end Go.Proofs.YtjahkcbdecgbhaaGreat
end

noncomputable section
namespace Go.Aw
set_option maxRecDepth 100000
set_option maxHeartbeats 2000000
structure WA (h:Heap) (p:Nat) (l:List Pt) (m:List Ed) (n:Int):Prop where
 ok:dE l m n=true
 sm:l.length≤1000∧m.length≤1000
 ex:∃ k0 k1 kd kt kf nm c1 c2,vL h p k0 k1 kd kt kf nm l (a9 l m m.length) (outs l m) m.length c1 c2 n (some ((a9 l m m.length).length,(a9 l m m.length).length)) ∧
  (∃ wr g sz cs,look h k1=some (.cells wr g sz cs)∧cs.take (flat aR.fl m).length=flat aR.fl m)∧(∃ wr g sz cs,look h kf=some (.cells wr g sz cs)∧cs.take (flat aO.fl (dO l m).face).length=flat aO.fl (dO l m).face)
theorem WA.ext {W h:Heap}{p:Nat}{l:List Pt}{m:List Ed}{n:Int}(hw:WA W p l m n)(hx:∀ k o,look W k=some o→look h k=some o):WA h p l m n:=by
 obtain⟨ok,sm,k0,k1,kd,kt,kf,nm,c1,c2,w,⟨w1,g1,s1,x1,a1,b1⟩,w2,g2,s2,x2,a2,b2⟩:=hw;obtain⟨⟨w3,g3,s3,a3⟩,⟨w4,g4,s4,x4,a4,b4⟩,⟨w5,g5,s5,x5,a5,b5⟩,⟨w6,g6,s6,a6⟩,h4⟩:=w;refine⟨ok,sm,k0,k1,kd,kt,kf,nm,c1,c2,⟨⟨_,_,_,hx _ _ a3⟩,⟨_,_,_,_,hx _ _ a4,b4⟩,⟨_,_,_,_,hx _ _ a5,b5⟩,⟨_,_,_,hx _ _ a6⟩,fun i hi h0=>?_⟩,⟨_,_,_,_,hx _ _ a1,b1⟩,_,_,_,_,hx _ _ a2,b2⟩;obtain⟨w7,g7,s7,x7,a7,b7⟩:=h4 i hi h0;exact⟨_,_,_,_,hx _ _ a7,b7⟩
def wH (nx:Nat)(l:List Pt)(m:List Ed)(c1 c2:Nat)(n:Int):Heap:=mZ nx (WD l m c1 c2 n)
theorem aH9 {l:List Pt}{m:List Ed}{c1 c2:Nat}{n:Int}(hl:l.length≤1000){k:Nat}{o:aV}(hk:look (WD l m c1 c2 n) k=some o):k<2004 :=
 (J4 hl k o (LO k o hk)).1
theorem aIF {nx:Nat}{l:List Pt}{m:List Ed}{c1 c2:Nat}{n:Int}(hl:l.length≤1000){k:Nat}{o:aV}(hk:look (wH nx l m c1 c2 n) k=some o):nx≤k∧k<nx+2004:=by
 obtain⟨j,o',e1,e2,_⟩:=lQ _ hk;have:=aH9 hl e2;omega
theorem aEL {nx:Nat}{l:List Pt}{m:List Ed}{c1 c2:Nat}{n:Int}(hl:l.length≤1000){k:Nat}(hk:k<nx∨nx+2004≤k):look (wH nx l m c1 c2 n) k=none:=by
 cases h:look (wH nx l m c1 c2 n) k with
 |none=>rfl
 |some o=>exfalso;have:=aIF hl h;omega
theorem D1 {nx:Nat}{l:List Pt}{m:List Ed}{c1 c2:Nat}{n:Int}{j:Nat}{o:aV}(h:look (vA l m) j=some o)(h1:j≠4)(h2:j≠2000):look (wH nx l m c1 c2 n) (nx+(3+j))=some (U5 nx (U5 3 o)):=by
 refine gM _ ?_;unfold WD;rw [bB (by omega),bB (by omega)];exact gM _ h
theorem aIp {nx:Nat}{l:List Pt}{m:List Ed}{c1 c2:Nat}{n:Int}(ho:dE l m n=true)(hs:l.length≤1000∧m.length≤1000):WA (wH nx l m c1 c2 n) (nx+7) l m n:=by
 have hfl:∀ {α:Type} (E:El α) (x:List α) (k:Nat),(flat E.fl x).map (bN fun i=>k+i)=flat E.fl x:=fun E x k=>bZ (aI E x);have hst:look (wH nx l m c1 c2 n) (nx+7)=some (.cells true false 1 (GN (nx+3) (nx+4) (nx+9) (nx+8) (nx+2003) l.length m.length (a9 l m m.length).length (outs l m).length c1 c2 n (some ((a9 l m m.length).length,(a9 l m m.length).length)))):=by
  refine (gM _ (o:=OW (VM l m c1 c2 n) (.slice (some ⟨2003,0,none⟩) (a9 l m m.length).length (a9 l m m.length).length)) rfl).trans ?_;rfl
 refine⟨ho,hs,nx+3,nx+4,nx+9,nx+8,nx+2003,fun i=>nx+(3+(i+1000)),c1,c2,⟨⟨_,_,_,hst⟩,⟨_,_,_,_,D1 (j:=0) rfl (by omega) (by omega),?_⟩,⟨_,_,_,_,D1 (j:=6) rfl (by omega) (by omega),?_⟩,⟨true,false,1,?_⟩,fun i hi h0=>⟨true,false,1,flat aO.fl (bK (outs l m) i),?_,List.take_length⟩⟩,⟨_,_,_,_,D1 (j:=1) rfl (by omega) (by omega),?_⟩,⟨true,false,1,flat aO.fl (dO l m).face,?_,List.take_length⟩⟩
 ·rw [hfl,hfl];exact List.take_length
 ·rw [hfl,hfl];exact List.take_length
 ·rw [D1 (j:=5) (o:=.cells true false 1 (tC (outs l m).length (outs l m))) rfl (by omega) (by omega)];show some (aV.cells true false 1 (((tC (outs l m).length (outs l m)).map (bN fun k=>3+k)).map (bN fun k=>nx+k)))=_;unfold tC;rw [List.map_map,List.map_map];congr 2;refine List.map_congr_left fun i hi=>?_;show bN _ (bN _ (tV (tN (outs l m).length i) (bK (outs l m) i)))=_;rw [FF,FF];unfold tN;rw [if_neg (by have:=List.mem_range.1 hi;omega)]
 ·have hil:i<l.length:=(by rw [eY] at hi;exact hi);have:look (vA l m) (i+1000)=some (ob (bK (outs l m) i)):=by
   unfold vA;rw [bB (by omega),bB (by omega),bB (by omega),bB (by omega)];exact kD (by omega) h0 hi
  rw [D1 this (by omega) (by omega)];show some (aV.cells true false 1 (((flat aO.fl (bK (outs l m) i)).map (bN fun k=>3+k)).map (bN fun k=>nx+k)))=_;rw [hfl,hfl]
 ·rw [hfl,hfl];exact List.take_length
 ·refine (gM (WD l m c1 c2 n) (j:=2003) (o:=.cells true false 1 (flat aO.fl (dO l m).face)) rfl).trans ?_;show some (aV.cells true false 1 ((flat aO.fl (dO l m).face).map (bN fun k=>nx+k)))=_;rw [hfl]
def wN (nx:Nat)(l:List Pt)(m:List Ed)(c1 c2:Nat)(n:Int)(T:List Value)(W:Heap):Heap :=
 (nx+7,.cells true false 1 (GN (nx+3) (nx+4) (nx+9) (nx+8) (nx+2003) l.length m.length (a9 l m m.length).length (outs l m).length c1 c2 n (some ((a9 l m m.length).length,(a9 l m m.length).length)))) ::
 (nx+2003,.cells true false 1 (flat aO.fl (dO l m).face))::(nx+9,.cells true false 5 (flat rN.fl (a9 l m m.length)))::(nx+8,.cells true false 1 T)::(nx+3,.cells false true aP.sz (flat aP.fl l))::(nx+4,.cells false true aR.sz (flat aR.fl m))::W
def wTb (nx:Nat)(l:List Pt)(m:List Ed):List Value:=((tC (outs l m).length (outs l m)).map (bN fun k=>3+k)).map (bN fun k=>nx+k)
def wT (nx:Nat)(l:List Pt)(m:List Ed):Heap:=mZ nx (mZ 3 (tH (outs l m).length (outs l m) (outs l m).length))
theorem UU {nx:Nat}{l:List Pt}{m:List Ed}{c1 c2:Nat}{n:Int}:wH nx l m c1 c2 n=wN nx l m c1 c2 n (wTb nx l m) (wT nx l m):=by
 have hfl:∀ {α:Type} (E:El α) (x:List α) (k:Nat),(flat E.fl x).map (bN fun i=>k+i)=flat E.fl x:=fun E x k=>bZ (aI E x);unfold wN;rw [show GN (nx+3) (nx+4) (nx+9) (nx+8) (nx+2003) l.length m.length (a9 l m m.length).length (outs l m).length c1 c2 n (some ((a9 l m m.length).length,(a9 l m m.length).length))=(GN 3 4 9 8 2003 l.length m.length (a9 l m m.length).length (outs l m).length c1 c2 n (some ((a9 l m m.length).length,(a9 l m m.length).length))).map (bN fun i=>nx+i) from rfl];have e1:=(hfl aO (dO l m).face nx).symm;have e2:flat rN.fl (a9 l m m.length)=((flat rN.fl (a9 l m m.length)).map (bN fun i=>3+i)).map (bN fun i=>nx+i):=(by rw [hfl,hfl]);have e3:flat aP.fl l=((flat aP.fl l).map (bN fun i=>3+i)).map (bN fun i=>nx+i):=(by rw [hfl,hfl]);have e4:flat aR.fl m=((flat aR.fl m).map (bN fun i=>3+i)).map (bN fun i=>nx+i):=(by rw [hfl,hfl]);rw [e1,e2,e3,e4];rfl
theorem aEz {nx:Nat}{l:List Pt}{m:List Ed}{c1 c2:Nat}{n:Int}(ho:dE l m n=true)(hs:l.length≤1000∧m.length≤1000):WA (wN nx l m c1 c2 n (wTb nx l m) (wT nx l m)) (nx+7) l m n:=UU▸aIp ho hs
theorem aEE {nx:Nat}{l:List Pt}{m:List Ed}{c1 c2:Nat}{n:Int}(hl:l.length≤1000){k:Nat}(hk:k<nx∨nx+2004≤k):look (wN nx l m c1 c2 n (wTb nx l m) (wT nx l m)) k=none:=UU▸aEL hl hk
def YB:Nat × XF:=(69,fun args h nx K=>∃ l m n p q,args=[mapA p q n]∧gZ aP h p l∧gZ aR h q m∧(l.length≤1000∧m.length≤1000) ∧
 ((dE l m n=true∧K (.tuple #[.pointer (some ⟨nx+7,0,none⟩),iv 0]) (app (eJ h) (wN nx l m (oV p) (oV q) n (wTb nx l m) (wT nx l m))) (nx+2004))∨(dE l m n=false∧K (.tuple #[.pointer none,iv 1]) h nx)))
theorem XL {ι:Nat→Loc}{B:Nat}{h h':Heap}{nx:Nat}{w:World}(H:aS ι B h nx w)(e:∀ k,look h' k=look h k):aS ι B h' nx w :=
 ⟨fun k o hk=>H.obj k o (by rw [← e];exact hk),fun k k' o o' hk hk'=>H.sep k k' o o' (by rw [← e];exact hk) (by rw [← e];exact hk'),fun k o hk=>H.low k o (by rw [← e];exact hk),H.size,fun k o hk=>H.sc k o (by rw [← e];exact hk)⟩
theorem aGH:cJ Go.Proofs.Tryz.prog YB.1 YB.2:=by
 refine⟨fun args h nx K hx ι B w H hs=>?_,fun args h nx K hx=>?_⟩
 ·obtain⟨l,m,n,p,q,rfl,hl,hm,hlm,hx⟩:=hx;rw [← UU] at hx;have h0:=aJG.1 [mapA p q n] h nx (fun v h' nx'=>∃ h'',(∀ k,look h'' k=look h' k)∧K v h'' nx') ⟨l,m,n,p,q,rfl,hl,hm,hlm,by
   rcases hx with ⟨ho,hx⟩|⟨ho,hx⟩
   ·refine .inl ⟨ho,_,fun k=>?_,hx⟩;rw [gK,gK,gB];cases e1:look h k with
    |none =>
     show look (wH nx l m (oV p) (oV q) n) k=_;cases e2:look (mZ nx (WD l m (oV p) (oV q) n)) k with
     |none=>exact e2
     |some o=>exact e2
    |some o =>
     have hlow:=H.low k o e1;have e2:look (mZ nx (WD l m (oV p) (oV q) n)) k=none:=aEL hlm.1 (.inl hlow);rw [e2];rfl
   ·exact .inr ⟨ho,_,fun k=>rfl,hx⟩⟩ ι B w H hs
  refine⟨h0.1,CallsIn.mono h0.2 fun e w' hr=>?_⟩;cases e with
  |returned u =>
   obtain⟨v,h1,nx1,ι1,⟨h2,e2,hk⟩,a1,a2,a3,a4,a5,a6⟩:=hr;exact⟨v,h2,nx1,ι1,hk,a1,XL a2 e2,a3,a4,a5,a6⟩
  |_=>exact hr.elim
 ·obtain⟨l,m,n,p,q,rfl,hl,hm,hlm,hx⟩:=hx;rcases hx with ⟨ho,hx⟩|⟨ho,hx⟩
  ·exact⟨_,_,_,hx,fun K' hk=>⟨l,m,n,p,q,rfl,hl,hm,hlm,.inl ⟨ho,hk⟩⟩⟩
  ·exact⟨_,_,_,hx,fun K' hk=>⟨l,m,n,p,q,rfl,hl,hm,hlm,.inr ⟨ho,hk⟩⟩⟩
def foM (l:List Pt)(m:List Ed):Option (Nat × Nat):=some ((a9 l m m.length).length,(a9 l m m.length).length)
def JC (l:List Pt)(m:List Ed)(n:Int)(c1 c2:Nat)(s:Nat):Heap :=
 (5,.cells false true aR.sz (flat aR.fl m))::(6,.cells false true 1 (flat aO.fl (dO l m).face))::fK l (a9 l m m.length) (outs l m) m.length c1 c2 n (foM l m) s
theorem Z4 {h:Heap}{p:Nat}{l:List Pt}{m:List Ed}{n:Int}(hw:WA h p l m n)(k3 s:Nat):∃ c1 c2,∃ ρ:Nat→Nat,ρ 0=p∧ρ 3=k3 ∧
  ∀ k o,look (JC l m n c1 c2 s) k=some o→k<2000∧∃ g sz cs0,o=.cells false g sz cs0∧sz≠0∧(g=true→c9 cs0=true)∧(∀ v∈cs0,A8 2000 v)∧∃ wr g' sz' cs,look h (ρ k)=some (.cells wr g' sz' cs)∧cs.take cs0.length=cs0.map (bN ρ):=by
 obtain⟨ok,sm,k0,k1,kd,kt,kf,nm,c1,c2,w,⟨w1,g1,s1,x1,a1,b1⟩,w2,g2,s2,x2,a2,b2⟩:=hw;refine⟨c1,c2,rhW p k0 k1 kd kt kf k3 nm s,rfl,rfl,fun k o hk=>?_⟩;unfold JC at hk;rw [aE] at hk;split at hk
 ·rename_i hb;injection hk with hk;subst hk;have:=beq_true hb;subst this;exact⟨by omega,true,aR.sz,_,rfl,by decide,fun _=>aI aR m,fun v hv=>cR (a8 (aI aR m) hv),w1,g1,s1,x1,a1,by rw [b1];exact (bZ (aI aR m)).symm⟩
 ·rw [aE] at hk;split at hk
  ·rename_i hb;injection hk with hk;subst hk;have:=beq_true hb;subst this;exact⟨by omega,true,1,_,rfl,by omega,fun _=>aI aO _,fun v hv=>cR (a8 (aI aO _) hv),w2,g2,s2,x2,a2,by rw [b2];exact (bZ (aI aO _)).symm⟩
  ·exact K1 w (by rw [eY];exact sm.1) s k o hk
theorem aFH {h:Heap}{p k3:Nat}{l:List Pt}{m:List Ed}{n:Int}(hw:WA h p l m n)(s:Nat){L:List Int}{c:Nat}(hL:∃ wr g sz cs,look h k3=some (.cells wr g sz cs)∧cs.take (flat aO.fl L).length=flat aO.fl L){nx:Nat} :
  ∃ c1 c2,In [.pointer (some ⟨0,0,none⟩),.slice (some ⟨3,0,none⟩) L.length c] ((3,.cells false true 1 (flat aO.fl L))::JC l m n c1 c2 s) 2000 [.pointer (some ⟨p,0,none⟩),.slice (some ⟨k3,0,none⟩) L.length c] h nx:=by
 obtain⟨c1,c2,ρ,e0,e3,ho⟩:=Z4 hw k3 s;refine⟨c1,c2,wQ ρ ?_ ?_ fun k o hk=>?_⟩
 ·show _=[Value.pointer (some ⟨ρ 0,0+0,none⟩),.slice (some ⟨ρ 3,0+0,none⟩) L.length c];rw [e0,e3]
 ·exact List.forall_mem_cons.2 ⟨⟨Nat.le_of_ble_eq_true rfl,rfl⟩,List.forall_mem_cons.2 ⟨⟨Nat.le_of_ble_eq_true rfl,fun h=>by cases h⟩,fun _ h=>(by cases h)⟩⟩
 ·rw [aE] at hk;split at hk
  ·rename_i hb;injection hk with hk;subst hk;have:=beq_true hb;subst this;obtain⟨wr,g,sz,cs,h1,h2⟩:=hL;exact⟨by omega,true,1,_,rfl,by omega,fun _=>aI aO L,fun v hv=>cR (a8 (aI aO L) hv),wr,g,sz,cs,by rw [e3];exact h1,by rw [h2];exact (bZ (aI aO L)).symm⟩
  ·exact ho k o hk
def wcX (s:List Pt→List Ed→Int→List Value→Option (Bool × Value)):XF:=fun args h nx K =>
 ∃ p r l m n,args=.pointer (some ⟨p,0,none⟩)::r∧WA h p l m n∧(match s l m n r with|some pr=>dI pr.1 (K pr.2 h nx)|none=>False)
def aJb (s:List Pt→List Ed→Int→List Int→Option (Bool × Value)):XF:=fun args h nx K =>
 ∃ p k3 l m n L c,args=[.pointer (some ⟨p,0,none⟩),.slice (some ⟨k3,0,none⟩) L.length c]∧WA h p l m n∧(∃ wr g sz cs,look h k3=some (.cells wr g sz cs)∧cs.take (flat aO.fl L).length=flat aO.fl L)∧(match s l m n L with|some pr=>dI pr.1 (K pr.2 h nx)|none=>False)
theorem aDG {P:Program}{C:VC}{f:Nat}{s:List Pt→List Ed→Int→List Int→Option (Bool × Value)}(hC:bI P C)
  (hs:∀ l m n L v,s l m n L=some (true,v)→dE l m n=true→l.length≤1000∧m.length≤1000→gT v=true∧∃ s0,∀ c1 c2 c,C f [.pointer (some ⟨0,0,none⟩),.slice (some ⟨3,0,none⟩) L.length c] ((3,.cells false true 1 (flat aO.fl L))::JC l m n c1 c2 s0) 2000 (fun u _ _=>u=v)):cJ P f (aJb s):=by
 refine (gF (S:=fun args0 h0 n0 v1 h1 k=>gT v1=true∧C f args0 h0 n0 (fun u _ _=>u=v1)∧h1=[]∧k=0) hC ?_).mono ?_ ?_
 ·rintro args0 h0 n0 v1 h1 k ⟨e2,e3,rfl,rfl⟩;exact⟨rfl,_,e3,fun v h nx e=>by rw [e];exact kK e2⟩
 ·rintro args h nx K ⟨p,k3,l,m,n,L,c,rfl,hw,hL,hx⟩;split at hx
  case h_2=>exact hx.elim
  rename_i pr e1;obtain⟨bb,u⟩:=pr;obtain⟨rfl,hx⟩:=aG.1 hx;obtain⟨a2,s0,a4⟩:=hs l m n L u e1 hw.ok hw.sm;obtain⟨c1,c2,i⟩:=aFH hw s0 hL (c:=c) (nx:=nx);refine⟨_,_,2000,u,[],0,⟨a2,a4 c1 c2 c,rfl,rfl⟩,i,?_⟩;simp only [pB,sN,mZ,lJ,kT a2,Nat.add_zero];exact hx
 ·rintro args h nx K ⟨p,k3,l,m,n,L,c,rfl,hw,hL,hx⟩;split at hx
  case h_2=>exact hx.elim
  rename_i pr e1;obtain⟨hb,hx⟩:=aG.1 hx;exact⟨pr.2,h,nx,hx,fun K' hk=>⟨p,k3,l,m,n,L,c,rfl,hw,hL,by rw [e1];exact aJ hb hk⟩⟩
def ZC (nx:Nat):Heap→Bool
 |[]=>true
 |(k,_)::r=>Nat.blt k nx&&ZC nx r
theorem zT {nx:Nat}:∀ {H:Heap},ZC nx H=true→∀ k o,look H k=some o→k<nx
 |[],_,k,o,h=>by cases h
 |(j,q)::r,hl,k,o,h=>by
  simp only [ZC,Bool.and_eq_true] at hl;rw [aE] at h;split at h
  ·rename_i hb;rw [← beq_true hb];exact Nat.le_of_ble_eq_true hl.1
  ·exact zT hl.2 k o h
theorem R0 {H W:Heap}{p nx:Nat}{l:List Pt}{m:List Ed}{n:Int}(hw:WA W p l m n)(hno:∀ k,k<nx→look W k=none)(hH:ZC nx H=true):WA (app H W) p l m n :=
 hw.ext fun k o hk=>by
  rw [gK];cases hh:look H k with
  |none=>exact hk
  |some o'=>rw [hno k (zT hH k o' hh)] at hk;cases hk
theorem aBq {h:Heap}{p q:Nat}{v:aV}{l:List Pt}{m:List Ed}{n:Int}(hw:WA h p l m n)(hq:look h q=none):WA (bV h q v) p l m n:=hw.ext (ext_cons (fun _ _ h=>h) hq)
theorem T1 {H W:Heap}{nx k:Nat}(hH:ZC nx H=true)(hk:nx≤k)(hW:look W k=none):look (app H W) k=none:=by
 rw [gK];cases hh:look H k with
 |none=>exact hW
 |some o'=>have:=zT hH k o' hh;omega
def aBA (xl:List (Nat × XF))(k:Nat):ET:={ aA with X:=look xl,M:=k }
theorem C3 {xl:List (Nat × XF)}(h:nQ xl)(k:Nat):rP Go.Proofs.Tryz.prog (aBA xl k) where
 ar:=lI.ar
 tab:=lI.tab
 mixed:=lI.mixed
 funcs:=lI.funcs
 xs:=h.look
def zX (n a:Int):Bool:=decide (0≤a)&&decide (a≤n)
def aAN (l:List Pt)(m:List Ed)(n:Int):List Int→Option (Bool × Value)
 |[a]=>some (true,.bool (zX n a))
 |[a,b]=>some (true,.bool (zX n a&&zX n b))
 |_=>none
def aGG:Nat × XF:=(82,aJb aAN)
theorem aKE:cJ Go.Proofs.Tryz.prog aGG.1 aGG.2:=aDG (f:=82) (s:=aAN) (kG (C3 (xl:=[]) .nil 4) 6).1 fun l m n L v hs ho hm=>by
 have:(∃ a,L=[a]∧v=.bool (zX n a))∨(∃ a b,L=[a,b]∧v=.bool (zX n a&&zX n b)):=by
  unfold aAN at hs;split at hs
  ·injection hs with hs;injection hs with h1 h2;exact .inl ⟨_,rfl,h2.symm⟩
  ·injection hs with hs;injection hs with h1 h2;exact .inr ⟨_,_,rfl,h2.symm⟩
  ·cases hs
 clear hs;rcases this with ⟨a,rfl,rfl⟩|⟨a,b,rfl,rfl⟩
 ·refine⟨rfl,0,fun c1 c2 c=>?_⟩;unfold zX;unfold JC fK GN
  repeat' (((conv=>whnf);refine bm (fun g=>?_) (fun g=>?_)))
  all_goals (conv=>whnf)
  all_goals (show Value.bool _=Value.bool _;congr 1;simp [aBA,aA,aB] at *;try omega)
 ·refine⟨rfl,0,fun c1 c2 c=>?_⟩;unfold zX;unfold JC fK GN
  repeat' (((conv=>whnf);refine bm (fun g=>?_) (fun g=>?_)))
  all_goals (conv=>whnf)
  all_goals (show Value.bool _=Value.bool _;congr 1;simp [aBA,aA,aB] at *;try omega)
theorem qR {l:List Pt}{m:List Ed}{n:Int}(h:dE l m n=true):cY l m n=true:=by
 simp only [dE,iA,Bool.and_eq_true] at h;exact h.1.1
def aEf (l:List Pt)(m:List Ed)(n d:Int):Bool:=dE l m n&&(decide (0≤d)&&decide (d<2*m.length))
def nxP (l:List Pt)(m:List Ed)(n:Int):List Value→Option (Bool × Value)
 |[.int .i64 d]=>some (decide (l.length≤1000)&&decide (m.length≤1000),.tuple #[iv (if aEf l m n d=true then BZ (a9 l m m.length) (outs l m) d else 0),iv (if aEf l m n d=true then 0 else 1)])
 |_=>none
def aJO:Nat × XF:=(22,mX aP aR nxP)
theorem aDS {b:Nat}{ρ:Nat→Nat}(hρ:∀ k,k<b→ρ k=k){v:Value}(hn:wJ b v)(hi:fV id v=v):fV ρ v=v :=
 (BX (ι:=kA id) (ι':=kA ρ) (n:=b) (fun k hk=>by show Loc.lay _ _ _=Loc.lay _ _ _;rw [hρ k hk];rfl) hn).trans hi
def WC (e:Ed):Value:=.agg #[iv e.a,iv e.b,iv e.l,iv e.r,iv e.n]
def bL (P:Ed→Bool)(m:List Ed):Nat→List Int
 |0=>[]
 |i+1=>if P (cN m i)=true then bL P m i++[(i:Int)] else bL P m i
theorem AO {P:Ed→Bool}{m:List Ed}{i:Nat}(h:P (cN m i)=true):bL P m (i+1)=bL P m i++[(i:Int)]:=by
 show (if _ then _ else _)=_;rw [if_pos h]
theorem AQ {P:Ed→Bool}{m:List Ed}{i:Nat}(h:P (cN m i)=false):bL P m (i+1)=bL P m i:=by
 show (if _ then _ else _)=_;rw [if_neg (by rw [h];decide)]
theorem qG (P:Ed→Bool)(m:List Ed):∀ i,(bL P m i).length≤i
 |0=>Nat.le_refl _
 |i+1=>by
  have:=qG P m i;unfold bL;split
  ·rw [List.length_append,List.length_singleton];omega
  ·omega
theorem EY {a b:Nat}(h:a≤b){v:Value}(hv:wJ a v):wJ b v:=n7 (ι:=kA id) (ι':=kA id) h (fun _ _=>rfl) hv
theorem aFn {L:List (Nat × Nat)}{b k:Nat}(hL:∀ p∈L,b≤p.1)(hk:k<b):rn L k=k:=by
 unfold rn;split
 ·rename_i q hq;have:=hL _ (aZ hq);simp only at this;omega
 ·rfl
def aLv (cl:List (Nat × XF))(H0:Heap)(g:Nat)(cap:List Value)(P:Ed→Bool):Prop:=∀ (e:Ed) (h':Heap) (nx':Nat) (K:KE),(∀ k o,look H0 k=some o→look h' k=some o)→K (.bool (P e)) h' nx'→CX (look cl) g (WC e::cap) h' nx' K
def PM (R:Heap)(nP:Nat)(m:List Ed)(nD nL c1 c2:Nat)(n:Int)(fo:Option (Nat × Nat)):Heap:=(0,.cells false false 1 (GN 4 5 1 2 6 nP m.length nD nL c1 c2 n fo))::(5,.cells false true aR.sz (flat aR.fl m))::R
def nB (g:Nat)(cap:List Value):Value:=.func (.func g) #[] cap.toArray
structure S92 (cl:List (Nat × XF)) (args0:List Value) (h0:Heap) (R:Heap) (nP:Nat) (m:List Ed) (nD nL c1 c2:Nat) (n:Int) (fo:Option (Nat × Nat)) (g:Nat) (cap:List Value) (P:Ed→Bool):Prop where
 ea:args0=[.pointer (some ⟨0,0,none⟩),nB g cap]
 eh:h0=PM R nP m nD nL c1 c2 n fo
 sm:m.length≤1000
 hok:xO h0 2000
 nmF:wJ 2000 (nB g cap)
 renF:fV id (nB g cap)=nB g cap
 cp:lV cap=true
 clo:aLv cl h0 g cap P
def T92 (cl:List (Nat × XF))(args0:List Value)(h0:Heap)(n0:Nat)(out:List Int)(e:Option Int):Prop :=
 ∃ R nP m nD nL c1 c2 n fo g cap P,S92 cl args0 h0 R nP m nD nL c1 c2 n fo g cap P∧n0=2000∧out=bL P m m.length∧e=none
def UO (F v:Value)(N c2:Nat)(j:Int):List (Nat × Value):=[(1,F),(5,v),(12,.slice (some ⟨5,0,none⟩) N c2),(13,iv N),(14,iv j)]
theorem w92 {cl:List (Nat × XF)}{args0:List Value}{h0:Heap}{n0:Nat}{out:List Int}{e:Option Int}(h:T92 cl args0 h0 n0 out e):body cl 92 args0 h0 n0 (Yields aO out e):=by
 obtain⟨R,nP,m,nD,nL,c1,c2,n,fo,g,cap,P,⟨rfl,rfl,sm,hok,nmF,renF,cp,clo⟩,rfl,rfl,rfl⟩:=h;have hN:∀ k,2000≤k→look (PM R nP m nD nL c1 c2 n fo) k=none:=fun k hk=>bM hok hk;have hrF:∀ L:List (Nat × Nat),(∀ p∈L,2000≤p.1)→fV (rn L) (nB g cap)=nB g cap:=fun L hL=>aDS (b:=2000) (fun k hk=>aFn hL hk) nmF renF;(conv=>whnf)
 refine⟨fun q e h nx=>∃ (i:Nat) (j:Int),j=i∧i≤m.length∧q=m.length - i ∧
  ((bL P m i=[]∧e=UO (nB g cap) (.slice none 0 0) m.length c2 j∧h=PM R nP m nD nL c1 c2 n fo∧nx=2000) ∨
   (0<(bL P m i).length∧e=UO (nB g cap) (.slice (some ⟨2000,0,none⟩) (bL P m i).length (bL P m i).length) m.length c2 j∧h=[(2000,.cells true false 1 (flat aO.fl (bL P m i)))]++PM R nP m nD nL c1 c2 n fo∧nx=2001)),⟨m.length,?_⟩,?_⟩
 ·refine eK (P:=[]) (W:=PM R nP m nD nL c1 c2 n fo) (e0:=UO (nB g cap) (.slice none 0 0) m.length c2 0) (n0:=2000) [] ⟨0,0,rfl,Nat.zero_le _,rfl,.inl ⟨rfl,rfl,rfl,rfl⟩⟩ ?_ hok (fun _ _ h=>h) (fun _ h=>by cases h) (fun _ h=>by cases h) (fun _ h=>by cases h) (by omega);unfold UO;refine List.forall_mem_cons.2 ⟨⟨by rw [hrF _ (fun _ h=>by cases h)];rfl,nmF⟩,?_⟩;((repeat' refine iE rfl rfl ?_);exact iN)
 ·rintro q e h nx ⟨i,j,hj,hi,rfl,hx⟩;rcases hx with ⟨hnil,rfl,rfl,rfl⟩|⟨hpos,rfl,rfl,rfl⟩
  ·unfold UO PM;((conv=>whnf);refine bm (fun m1=>?_) (fun m1=>?_))
   ·have hil:i<m.length:=(by simp [aA,aB] at m1;omega);((conv=>whnf);refine bm (fun m2=>?_) (fun m2=>?_))
    ·(conv=>whnf);refine mR (A4 m (i:=i) hil ?_) ?_
     ·show _+Int.toNat j*5=_;omega
     (conv=>whnf);rw [show lV cap.toArray.toList=true from cp];(conv=>whnf);refine clo (cN m i) _ _ _ (fZ (cU (fun _ _ h=>h) (hN _ (by decide))) (hN _ (by decide))) ?_;((conv=>whnf);refine bm (fun p1=>?_) (fun p1=>?_))
     ·have p1:P (cN m i)=true:=p1;have hf:bL P m (i+1)=[j]:=(by rw [AO p1,hnil,hj];rfl);((conv=>whnf);refine bm (fun m3=>?_) (fun m3=>?_))
      ·(conv=>whnf);refine⟨m.length - (i+1),by omega,?_⟩;refine eK (P:=[(2000,.cells true false 1 (flat aO.fl [j]))]) (W:=PM R nP m nD nL c1 c2 n fo) (e0:=UO (nB g cap) (.slice (some ⟨2000,0,none⟩) 1 1) m.length c2 (j+1)) (n0:=2001) [(2000,2002)] ⟨i+1,j+1,by omega,by omega,rfl,.inr ⟨?_,?_,?_,rfl⟩⟩ ?_ hok ?_ ?_ ?_ ?_ (by omega)
       ·rw [hf];exact Nat.one_pos
       ·rw [hf];rfl
       ·rw [hf];rfl
       ·unfold UO;refine List.forall_mem_cons.2 ⟨⟨by rw [hrF _ (fun p h=>by rcases List.mem_cons.1 h with rfl|h;exact Nat.le_refl _;cases h)];rfl,EY (by omega) nmF⟩,?_⟩;((repeat' refine iE rfl rfl ?_);exact iN)
       ·repeat' first
         |exact fun _ _ h=>h
         |(refine cU ?_ (hN _ (by decide)))
         |(refine fZ ?_ (hN _ (by decide)))
       ·exact List.forall_mem_cons.2 ⟨⟨.inl ⟨Nat.le_of_ble_eq_true rfl,Nat.le_of_ble_eq_true rfl,Nat.le_of_ble_eq_true rfl⟩,_,rfl,bD (aI _ _) rfl⟩,fun _ h=>by cases h⟩
       ·show ∀ k∈[2000],∀ k'∈[2000],_;decide
       ·exact fun p h=>by rcases List.mem_cons.1 h with rfl|h;exact Nat.le_refl _;cases h
      ·exfalso;simp [aA,aB,aH] at m3;omega
     ·have p1:P (cN m i)=false:=p1;have hf:bL P m (i+1)=[]:=(AQ p1).trans hnil;((conv=>whnf);refine bm (fun m3=>?_) (fun m3=>?_))
      ·(conv=>whnf);refine⟨m.length - (i+1),by omega,?_⟩;refine eK (P:=[]) (W:=PM R nP m nD nL c1 c2 n fo) (e0:=UO (nB g cap) (.slice none 0 0) m.length c2 (j+1)) (n0:=2000) [] ⟨i+1,j+1,by omega,by omega,rfl,.inl ⟨hf,rfl,rfl,rfl⟩⟩ ?_ hok ?_ (fun _ h=>by cases h) (fun _ h=>by cases h) (fun _ h=>by cases h) (by omega)
       ·unfold UO;refine List.forall_mem_cons.2 ⟨⟨by rw [hrF _ (fun _ h=>by cases h)];rfl,nmF⟩,?_⟩;((repeat' refine iE rfl rfl ?_);exact iN)
       ·exact fZ (cU (fun _ _ h=>h) (hN _ (by decide))) (hN _ (by decide))
      ·exfalso;simp [aA,aB,aH] at m3;omega
    ·exfalso;simp [aA,aB] at m2;omega
   ·have hil:i=m.length:=(by simp [aA,aB] at m1;omega);(conv=>whnf);rw [hil] at hnil;rw [hnil];rfl
  ·unfold UO PM;have hlen:(flat aO.fl (bL P m i)).length=(bL P m i).length:=(by rw [bF];show _*1=_;omega);have hle:=qG P m i;((conv=>whnf);refine bm (fun m1=>?_) (fun m1=>?_))
   ·have hil:i<m.length:=(by simp [aA,aB] at m1;omega);((conv=>whnf);refine bm (fun m2=>?_) (fun m2=>?_))
    ·(conv=>whnf);refine mR (A4 m (i:=i) hil ?_) ?_
     ·show _+Int.toNat j*5=_;omega
     (conv=>whnf);rw [show lV cap.toArray.toList=true from cp];(conv=>whnf);refine clo (cN m i) _ _ _ (fZ (cU (ext_cons (fun _ _ h=>h) (hN _ (by decide))) (hN _ (by decide))) (hN _ (by decide))) ?_;((conv=>whnf);refine bm (fun p1=>?_) (fun p1=>?_))
     ·have p1:P (cN m i)=true:=p1;have hf:bL P m (i+1)=bL P m i++[j]:=(by rw [AO p1,hj]);((conv=>whnf);refine bm (fun m4=>?_) (fun m4=>?_))
      ·exfalso;have:=Nat.le_of_ble_eq_true m4;omega
      ·((conv=>whnf);refine bm (fun m5=>?_) (fun m5=>?_))
       ·((conv=>whnf);refine bm (fun m3=>?_) (fun m3=>?_))
        ·(conv=>whnf);refine⟨m.length - (i+1),by omega,?_⟩;refine eK (P:=[(2000,.cells true false 1 (flat aO.fl (bL P m i++[j])))]) (W:=PM R nP m nD nL c1 c2 n fo) (e0:=UO (nB g cap) (.slice (some ⟨2000,0,none⟩) ((bL P m i).length+1) ((bL P m i).length+1)) m.length c2 (j+1)) (n0:=2001) [(2000,2003)] ⟨i+1,j+1,by omega,by omega,rfl,.inr ⟨?_,?_,?_,rfl⟩⟩ ?_ hok ?_ ?_ ?_ ?_ (by omega)
         ·rw [hf,List.length_append];exact Nat.succ_pos _
         ·rw [hf,List.length_append];rfl
         ·rw [hf];rfl
         ·unfold UO;refine List.forall_mem_cons.2 ⟨⟨by rw [hrF _ (fun p h=>by rcases List.mem_cons.1 h with rfl|h;exact Nat.le_refl _;cases h)];rfl,EY (by omega) nmF⟩,?_⟩;((repeat' refine iE rfl rfl ?_);exact iN)
         ·exact cU (LF (cU (fZ (cU (ext_cons (fun _ _ h=>h) (hN _ (by decide))) (hN _ (by decide))) (hN _ (by decide))) (hN _ (by decide))) (hN _ (by decide))) (hN _ (by decide))
         ·exact List.forall_mem_cons.2 ⟨⟨.inl ⟨Nat.le_of_ble_eq_true rfl,Nat.le_of_ble_eq_true rfl,Nat.le_of_ble_eq_true rfl⟩,_,rfl,bD (aI aO _) (fA aO (bL P m i) j rfl)⟩,fun _ h=>by cases h⟩
         ·show ∀ k∈[2000],∀ k'∈[2000],_;decide
         ·exact fun p h=>by rcases List.mem_cons.1 h with rfl|h;exact Nat.le_refl _;cases h
        ·exfalso;simp [aA,aB,aH] at m3;omega
       ·exact oZ (s:=1) (by omega) (by omega) m5
     ·have p1:P (cN m i)=false:=p1;have hf:bL P m (i+1)=bL P m i:=AQ p1;((conv=>whnf);refine bm (fun m3=>?_) (fun m3=>?_))
      ·(conv=>whnf);refine⟨m.length - (i+1),by omega,?_⟩;refine eK (P:=[(2000,.cells true false 1 (flat aO.fl (bL P m i)))]) (W:=PM R nP m nD nL c1 c2 n fo) (e0:=UO (nB g cap) (.slice (some ⟨2000,0,none⟩) (bL P m i).length (bL P m i).length) m.length c2 (j+1)) (n0:=2001) [] ⟨i+1,j+1,by omega,by omega,rfl,.inr ⟨?_,?_,?_,rfl⟩⟩ ?_ hok ?_ ?_ ?_ (fun _ h=>by cases h) (by omega)
       ·rw [hf];exact hpos
       ·rw [hf];rfl
       ·rw [hf];rfl
       ·unfold UO;refine List.forall_mem_cons.2 ⟨⟨by rw [hrF _ (fun _ h=>by cases h)];rfl,EY (by omega) nmF⟩,?_⟩;((repeat' refine iE rfl rfl ?_);exact iN)
       ·repeat' first
         |exact fun _ _ h=>h
         |(refine cU ?_ (hN _ (by decide)))
         |(refine fZ ?_ (hN _ (by decide)))
         |(refine ext_cons ?_ (hN _ (by decide)))
       ·exact List.forall_mem_cons.2 ⟨⟨.inl ⟨Nat.le_of_ble_eq_true rfl,Nat.le_of_ble_eq_true rfl,Nat.le_of_ble_eq_true rfl⟩,_,rfl,aM (aI _ _)⟩,fun _ h=>by cases h⟩
       ·show ∀ k∈[2000],∀ k'∈[2000],_;decide
      ·exfalso;simp [aA,aB,aH] at m3;omega
    ·exfalso;simp [aA,aB] at m2;omega
   ·have hil:i=m.length:=(by simp [aA,aB] at m1;omega);(conv=>whnf);rw [show bL P m m.length=bL P m i by rw [← hil]];have:=j0 aO (l:=bL P m i) (e:=none) (h:=[(2000,.cells true false 1 (flat aO.fl (bL P m i)))]++PM R nP m nD nL c1 c2 n fo) (q:=2000) (nx:=2001) hpos rfl;exact this
def X92 (cl:List (Nat × XF)):Nat × XF:=(92,yOf aO (T92 cl))
theorem x92 {cl:List (Nat × XF)}(h:nQ cl):cJ Go.Proofs.Tryz.prog (X92 cl).1 (X92 cl).2:=X9 aO (aK h) fun _ _ _ _ _=>w92
end Go.Aw
end

noncomputable section
namespace Go.Aw
set_option maxRecDepth 100000
section
variable {l:List Pt}{m:List Ed}{n:Int}
structure Hs (l:List Pt) (m:List Ed) (t:PA):Prop where
 seen:t.seen.length=2*m.length
 face:t.face.length=2*m.length
 cl:∀ i:Nat,i<2*m.length→cV t.seen i=true→cV t.seen (BZ (a9 l m m.length) (outs l m) i).toNat=true
 has:∀ f:Int,(1≤f∧f≤t.many)∨(f=0∧1≤t.out)→∃ i,i<2*m.length∧cV t.seen i=true∧aN t.face i=f
 low:0≤t.many
theorem aDw {D:List Dt}{ls:List (List Int)}{d:Int}{t:Nat}(h:t<o6 D ls d):aN (xB D ls d) t=pH D ls d t:=by
 unfold xB aN;rw [List.getD_eq_getElem?_getD,List.getElem?_map,List.getElem?_range h];rfl
theorem QE {D:List Dt}{ls:List (List Int)}{d:Int}:(xB D ls d).length=o6 D ls d:=by simp [xB]
theorem aCc (hok:cY l m n=true){t:PA}(h:Hs l m t){d:Nat}(hd:d<2*m.length):Hs l m (nF l (a9 l m m.length) (outs l m) t d):=by
 unfold nF;cases hs:cV t.seen d with
 |true=>rw [if_pos rfl];exact h
 |false =>
  rw [if_neg (by decide)];simp only;have hin:=BL hok (d:=(d:Int)) (by omega) (by omega);have hT:pH (a9 l m m.length) (outs l m) d (o6 (a9 l m m.length) (outs l m) d)=d:=by
   have hw:=List.all_eq_true.1 (KZ hok) d (List.mem_range.2 (by rw [bP];exact hd));exact of_decide_eq_true hw
  have hT1:1≤o6 (a9 l m m.length) (outs l m) d:=by
   have:=(oA (a9 l m m.length) (outs l m) d (a9 l m m.length).length 1).1;unfold o6;omega
  have hget:∀ k,k<o6 (a9 l m m.length) (outs l m) d→aN (xB (a9 l m m.length) (outs l m) d) k=pH (a9 l m m.length) (outs l m) d k:=fun k hk=>aDw hk;have hlen:(xB (a9 l m m.length) (outs l m) d).length=o6 (a9 l m m.length) (outs l m) d:=QE;generalize xB (a9 l m m.length) (outs l m) d=W at hget hlen ⊢;generalize o6 (a9 l m m.length) (outs l m) d=T at *;have hr:∀ k,k<W.length→(aN W k).toNat<2*m.length:=fun k hk=>by
   rw [hget k (by omega)];have:=hin k;omega
  -- what was seen lies in no walk of what was not
  have hdis:∀ k,k<W.length→cV t.seen (aN W k).toNat=true→False:=fun k hk hsk=>by
   rw [hget k (by omega)] at hsk;have hf:∀ j,cV t.seen (pH (a9 l m m.length) (outs l m) d (k+j)).toNat=true:=by
    intro j
    induction j with
    |zero=>exact hsk
    |succ j ih =>
     have hi:=hin (k+j);have:=h.cl (pH (a9 l m m.length) (outs l m) d (k+j)).toNat (by omega) ih;rw [Int.toNat_of_nonneg hi.1] at this;exact this
   have:=hf (T - k);rw [show k+(T - k)=T by omega,hT,Int.toNat_natCast,hs] at this;cases this
  generalize I6 l (a9 l m m.length) W W.length=A;have hsee:∀ i,(∃ k,k<W.length∧(aN W k).toNat=i)→cV (fL t.seen W W.length) i=true:=fun i hi=>(rK t.seen W (by rw [h.seen];exact hr) i _ (Nat.le_refl _)).1 hi;have hkeep:∀ i,cV t.seen i=true→cV (fL t.seen W W.length) i=true:=fun i hi=>by
   by_cases e:∃ k,k<W.length∧(aN W k).toNat=i
   ·exact hsee i e
   ·rw [(rK t.seen W (by rw [h.seen];exact hr) i _ (Nat.le_refl _)).2 e];exact hi
  have hold:∀ (fc f:Int),(∃ i,i<2*m.length∧cV t.seen i=true∧aN t.face i=f)→∃ i,i<2*m.length∧cV (fL t.seen W W.length) i=true∧aN (dN t.face W fc W.length) i=f:=fun fc f ⟨i,a1,a2,a3⟩=>by
   refine⟨i,a1,hkeep i a2,?_⟩;rw [(zD t.face W fc (by rw [h.face];exact hr) i _ (Nat.le_refl _)).2 fun ⟨k,b1,b2⟩=>hdis k b1 (by rw [b2];exact a2)];exact a3
  have hd0:∃ k,k<W.length∧(aN W k).toNat=d:=⟨0,by omega,by rw [hget 0 (by omega)];rfl⟩;have hnew:∀ fc:Int,∃ i,i<2*m.length∧cV (fL t.seen W W.length) i=true∧aN (dN t.face W fc W.length) i=fc:=fun fc =>
   ⟨d,hd,hsee d hd0,(zD t.face W fc (by rw [h.face];exact hr) d _ (Nat.le_refl _)).1 hd0⟩
  refine⟨by rw [kN];exact h.seen,by rw [eX];exact h.face,fun i hi hsi=>?_,fun f hf=>?_,?_⟩
  ·by_cases e:∃ k,k<W.length∧(aN W k).toNat=i
   ·obtain⟨k,b1,b2⟩:=e;have hk:=hin k;rw [hget k (by omega)] at b2;have e2:(i:Int)=pH (a9 l m m.length) (outs l m) d k:=(by omega);rw [e2];show cV (fL t.seen W W.length) (pH (a9 l m m.length) (outs l m) d (k+1)).toNat=true;by_cases hl:k+1=T
    ·rw [hl,hT,Int.toNat_natCast];exact hsee d hd0
    ·exact hsee _ ⟨k+1,by omega,by rw [hget (k+1) (by omega)]⟩
   ·have:=hsi;rw [(rK t.seen W (by rw [h.seen];exact hr) i _ (Nat.le_refl _)).2 e] at this;exact hkeep _ (h.cl i hi this)
  ·have hlow:=h.low;by_cases hA:0<A
   ·simp only [if_pos hA] at hf ⊢;rcases hf with ⟨f1,f2⟩|f2
    ·by_cases e:f=t.many+1
     ·rw [e];exact hnew _
     ·exact hold _ f (h.has f (.inl ⟨f1,by omega⟩))
    ·exact hold _ f (h.has f (.inr f2))
   ·simp only [if_neg hA] at hf ⊢;rcases hf with f2|⟨f1,f2⟩
    ·exact hold _ f (h.has f (.inl f2))
    ·rw [f1];exact hnew 0
  ·have:=h.low;show 0≤if 0<A then t.many+1 else t.many
   split <;> omega
theorem aBx (hok:cY l m n=true):∀ d,d≤2*m.length→Hs l m (c8 l (a9 l m m.length) (outs l m) d)
 |0,_=>by
  refine⟨by simp [c8,bP],by simp [c8,bP],fun i hi h=>?_,fun f hf=>?_,Int.le_refl 0⟩
  ·unfold c8 cV at h;rw [List.getD_eq_getElem?_getD,List.getElem?_replicate,bP,if_pos hi] at h;cases h
  ·have hf:(1≤f∧f≤0)∨(f=0∧(1:Int)≤0):=hf;omega
 |d+1,h=>aCc hok (aBx hok d (by omega)) (by omega)
theorem MQ (x:Int):∀ (L:List Int) (i:Nat),(∃ k,k<L.length∧aN L k=x)→∃ k,k<L.length∧aN L k=x∧(∀ j,j<k→aN L j≠x)∧rE x L i=((i+k:Nat):Int)
 |[],i,⟨k,h,_⟩=>by cases h
 |b::r,i,⟨k,h1,h2⟩=>by
  unfold rE;by_cases e:x=b
  ·rw [if_pos e];exact⟨0,Nat.succ_pos _,e.symm,fun j hj=>absurd hj (Nat.not_lt_zero j),rfl⟩
  ·rw [if_neg e];cases k with
   |zero=>exact absurd h2.symm e
   |succ k =>
    obtain⟨q,a1,a2,a3,a4⟩:=MQ x r (i+1) ⟨k,by simpa using h1,h2⟩;refine⟨q+1,by simpa using a1,a2,fun j hj=>?_,by rw [a4];congr 1;omega⟩;cases j with
    |zero=>exact fun hb=>e hb.symm
    |succ j=>exact a3 j (by omega)
theorem ZQ (ho:dE l m n=true){f:Int}(h0:0≤f)(h1:f≤n):∃ k,k<2*m.length∧aN (dO l m).face k=f∧(∀ j,j<k→aN (dO l m).face j≠f)∧rE f (dO l m).face 0=(k:Int):=by
 have ho':=ho;simp only [dE,iA,Bool.and_eq_true,decide_eq_true_eq] at ho';obtain⟨⟨hok,_⟩,_,hn,hmn,_⟩:=ho';have hs:=aBx hok (2*m.length) (Nat.le_refl _);have e:c8 l (a9 l m m.length) (outs l m) (2*m.length)=dO l m:=(by unfold dO nmD;rw [bP]);rw [e] at hs;simp only [A0,Bool.and_eq_true,decide_eq_true_eq] at hn;obtain⟨i,a1,a2,a3⟩:=hs.has f (by
  by_cases e0:f=0
  ·exact .inr ⟨e0,by omega⟩
  ·exact .inl ⟨by omega,by omega⟩)
 obtain⟨k,b1,b2,b3,b4⟩:=MQ f (dO l m).face 0 ⟨i,by rw [hs.face];exact a1,a3⟩;exact⟨k,by rw [hs.face] at b1;exact b1,b2,b3,by rw [b4,Nat.zero_add]⟩
end
end Go.Aw
end
