/-
  Parts of a proof. No condition.
-/
import Derived.Test.YtjahkcbdecgbhaaGreatQAp
import Derived.Test.YtjahkcbdecgbhaaGreatQAq
import Derived.Test.YtjahkcbdecgbhaaGreatQBc
import Derived.Test.YtjahkcbdecgbhaaGreatQBd
import Derived.Test.YtjahkcbdecgbhaaGreatQBl
import Derived.Test.YtjahkcbdecgbhaaGreatChecked
import Derived.Test.YtjahkcbdecgbhaaGreatRows
import Derived.ProofKit
import Derived.Lib.SmallJoins
import Derived.Deep.Slices
import Derived.Deep.Fields
set_option linter.unusedSimpArgs false
set_option linter.unusedVariables false
noncomputable section
namespace Go.Proofs.YtjahkcbdecgbhaaGreat
open Go.ChangeShapes Go.WideShapes Go.ChangeAt Go.RowKit Go.Joins
theorem eE {a b:Bool}(ha:a=true)(hb:b=true):(a&&b)=true:=by rw [ha,hb];rfl
theorem jf0:(Rows.facesShortestRow.wf (OpenSpec.ofChange Rows.facesShortestSpec))=true:=by kernel_rfl
theorem jf1:(laidOutB Tryz.prog)=true:=by kernel_rfl
theorem jf2:(mapsRowed Tryz.prog)=true:=by kernel_rfl
theorem jf3:(Tryz.f12.params.all (Tryz.prog.readableRec ·))=true:=by kernel_rfl
theorem jf4:(namedTie Tryz.prog Rows.facesShortestRow.named Rows.facesShortestSpec.vars)=true:=by kernel_rfl
theorem jf5:((Rows.facesShortestRow.stops == []))=true:=by kernel_rfl
theorem jf6:((Tryz.prog.stops == []))=true:=by kernel_rfl
theorem jf7:((Rows.facesShortestRow.knobs == []))=true:=by kernel_rfl
theorem jf8:((Tryz.prog.stopKnobs == []))=true:=by kernel_rfl
theorem jf9:((Rows.facesShortestRow.inPlace == Tryz.prog.inPlace 12))=true:=by kernel_rfl
theorem aL7:((Rows.facesShortestRow.unfollowed == Tryz.prog.unfollowed 12))=true:=by kernel_rfl
theorem aJN:((Rows.facesShortestRow.recurses == Tryz.prog.recurses 12))=true:=by kernel_rfl
theorem aK9:((Rows.facesShortestRow.named == Tryz.prog.varsNamed 12))=true:=by kernel_rfl
theorem aKM:((Rows.facesShortestRow.maps == (Tryz.f12.params.toList++Rows.facesShortestSpec.plain.varTypes Tryz.prog).any (Tryz.prog.mapsRec ·)))=true:=by kernel_rfl
theorem aKz:((Rows.facesShortestRow.ifaces == (Tryz.f12.params.toList++Rows.facesShortestSpec.plain.varTypes Tryz.prog).any (Tryz.prog.ifacesRec ·)))=true:=by kernel_rfl
theorem aL0:((Rows.facesShortestRow.mapsOut == Tryz.prog.mapsAmong Tryz.f12.resultTypes.toList))=true:=by kernel_rfl
theorem aKy:((Rows.facesShortestRow.loops == (Tryz.f12.params.toList++Rows.facesShortestSpec.plain.varTypes Tryz.prog).any (Tryz.prog.loopsFrom ·)))=true:=by kernel_rfl
theorem aL8:((Rows.facesShortestRow.wideKeys == (Tryz.f12.params.toList++Rows.facesShortestSpec.plain.varTypes Tryz.prog++Tryz.f12.resultTypes.toList).any (Tryz.prog.wideKeysFrom ·)))=true:=by kernel_rfl
theorem aKp:(Rows.facesShortestSpec.vars.all (Tryz.prog.varReadable ·))=true:=by kernel_rfl
theorem aKL:(Tryz.f12.resultTypes.all (fun t=>Tryz.prog.readableRec t&&decide (t<Tryz.prog.types.size)))=true:=by kernel_rfl
theorem aKf:((Rows.facesShortestRow.ifacesOut == Tryz.f12.resultTypes.toList.any (Tryz.prog.ifacesRec ·)))=true:=by kernel_rfl
theorem aKT:((Rows.facesShortestRow.loopsOut == Tryz.f12.resultTypes.toList.any (Tryz.prog.loopsFrom ·)))=true:=by kernel_rfl
theorem aJK:((Rows.facesShortestRow.plainKeys == Tryz.prog.plainKeys))=true:=by kernel_rfl
theorem aKP:(Rows.facesShortestRow.shortTexts.isNone)=true:=by kernel_rfl
theorem aJD:(Tryz.prog.stopsHeard)=true:=by kernel_rfl
theorem aKj:(Tryz.prog.mayEnter)=true:=by kernel_rfl
theorem aJO:((Rows.facesShortestRow.lifted == Tryz.prog.liftsFinal))=true:=by kernel_rfl
theorem aJQ:((Tryz.prog.make == some Rows.facesShortestRow.make))=true:=by kernel_rfl
theorem aJL:((Rows.facesShortestRow.pinned == Rows.facesShortestRow.pinnedBy))=true:=by kernel_rfl
theorem aKe:((Rows.facesShortestRow.veiled == (Tryz.f12.params.toList++Rows.facesShortestSpec.plain.varTypes Tryz.prog++Tryz.f12.resultTypes.toList).any (Tryz.prog.veiledRec ·)))=true:=by kernel_rfl
theorem aJE:(Rows.facesShortestRow.veiledFits Tryz.prog Tryz.f12.params.toList (Tryz.f12.params.toList++Rows.facesShortestSpec.plain.varTypes Tryz.prog++Tryz.f12.resultTypes.toList))=true:=by kernel_rfl
end Go.Proofs.YtjahkcbdecgbhaaGreat
end

noncomputable section
namespace Go.Aw
set_option maxRecDepth 100000
set_option maxHeartbeats 2000000
structure WA (h:Heap) (p:Nat) (l:List Pt) (m:List Ed) (n:Int):Prop where
 ok:cN l m n=true
 sm:l.length≤1000∧m.length≤1000
 ex:∃ k0 k1 kd kt kf nm c1 c2,uP h p k0 k1 kd kt kf nm l (aV l m m.length) (outs l m) m.length c1 c2 n (some ((aV l m m.length).length,(aV l m m.length).length)) ∧
  (∃ wr g sz cs,look h k1=some (.cells wr g sz cs)∧cs.take (flat aY.fl m).length=flat aY.fl m)∧(∃ wr g sz cs,look h kf=some (.cells wr g sz cs)∧cs.take (flat aL.fl (dD l m).face).length=flat aL.fl (dD l m).face)
theorem WA.ext {W h:Heap}{p:Nat}{l:List Pt}{m:List Ed}{n:Int}(hw:WA W p l m n)(hx:∀ k o,look W k=some o→look h k=some o):WA h p l m n:=by
 obtain⟨ok,sm,k0,k1,kd,kt,kf,nm,c1,c2,w,⟨w1,g1,s1,x1,a1,b1⟩,w2,g2,s2,x2,a2,b2⟩:=hw;obtain⟨⟨w3,g3,s3,a3⟩,⟨w4,g4,s4,x4,a4,b4⟩,⟨w5,g5,s5,x5,a5,b5⟩,⟨w6,g6,s6,a6⟩,h4⟩:=w;refine⟨ok,sm,k0,k1,kd,kt,kf,nm,c1,c2,⟨⟨_,_,_,hx _ _ a3⟩,⟨_,_,_,_,hx _ _ a4,b4⟩,⟨_,_,_,_,hx _ _ a5,b5⟩,⟨_,_,_,hx _ _ a6⟩,fun i hi h0=>?_⟩,⟨_,_,_,_,hx _ _ a1,b1⟩,_,_,_,_,hx _ _ a2,b2⟩;obtain⟨w7,g7,s7,x7,a7,b7⟩:=h4 i hi h0;exact⟨_,_,_,_,hx _ _ a7,b7⟩
def wH (nx:Nat)(l:List Pt)(m:List Ed)(c1 c2:Nat)(n:Int):Heap:=lT nx (YU l m c1 c2 n)
theorem aHh {l:List Pt}{m:List Ed}{c1 c2:Nat}{n:Int}(hl:l.length≤1000){k:Nat}{o:aT}(hk:look (YU l m c1 c2 n) k=some o):k<2004 :=
 (QZ hl k o (UL k o hk)).1
theorem aJe {nx:Nat}{l:List Pt}{m:List Ed}{c1 c2:Nat}{n:Int}(hl:l.length≤1000){k:Nat}{o:aT}(hk:look (wH nx l m c1 c2 n) k=some o):nx≤k∧k<nx+2004:=by
 obtain⟨j,o',e1,e2,_⟩:=jV _ hk;have:=aHh hl e2;omega
theorem aFi {nx:Nat}{l:List Pt}{m:List Ed}{c1 c2:Nat}{n:Int}(hl:l.length≤1000){k:Nat}(hk:k<nx∨nx+2004≤k):look (wH nx l m c1 c2 n) k=none:=by
 cases h:look (wH nx l m c1 c2 n) k with
 |none=>rfl
 |some o=>exfalso;have:=aJe hl h;omega
theorem E0 {nx:Nat}{l:List Pt}{m:List Ed}{c1 c2:Nat}{n:Int}{j:Nat}{o:aT}(h:look (uG l m) j=some o)(h1:j≠4)(h2:j≠2000):look (wH nx l m c1 c2 n) (nx+(3+j))=some (SI nx (SI 3 o)):=by
 refine fJ _ ?_;unfold YU;rw [bA (by omega),bA (by omega)];exact fJ _ h
theorem aIW {nx:Nat}{l:List Pt}{m:List Ed}{c1 c2:Nat}{n:Int}(ho:cN l m n=true)(hs:l.length≤1000∧m.length≤1000):WA (wH nx l m c1 c2 n) (nx+7) l m n:=by
 have hfl:∀ {α:Type} (E:El α) (x:List α) (k:Nat),(flat E.fl x).map (bR fun i=>k+i)=flat E.fl x:=fun E x k=>bW (aE E x);have hst:look (wH nx l m c1 c2 n) (nx+7)=some (.cells true false 1 (AJ (nx+3) (nx+4) (nx+9) (nx+8) (nx+2003) l.length m.length (aV l m m.length).length (outs l m).length c1 c2 n (some ((aV l m m.length).length,(aV l m m.length).length)))):=by
  refine (fJ _ (o:=N5 (WD l m c1 c2 n) (.slice (some ⟨2003,0,none⟩) (aV l m m.length).length (aV l m m.length).length)) rfl).trans ?_;rfl
 refine⟨ho,hs,nx+3,nx+4,nx+9,nx+8,nx+2003,fun i=>nx+(3+(i+1000)),c1,c2,⟨⟨_,_,_,hst⟩,⟨_,_,_,_,E0 (j:=0) rfl (by omega) (by omega),?_⟩,⟨_,_,_,_,E0 (j:=6) rfl (by omega) (by omega),?_⟩,⟨true,false,1,?_⟩,fun i hi h0=>⟨true,false,1,flat aL.fl (bK (outs l m) i),?_,List.take_length⟩⟩,⟨_,_,_,_,E0 (j:=1) rfl (by omega) (by omega),?_⟩,⟨true,false,1,flat aL.fl (dD l m).face,?_,List.take_length⟩⟩
 ·rw [hfl,hfl];exact List.take_length
 ·rw [hfl,hfl];exact List.take_length
 ·rw [E0 (j:=5) (o:=.cells true false 1 (tC (outs l m).length (outs l m))) rfl (by omega) (by omega)];show some (aT.cells true false 1 (((tC (outs l m).length (outs l m)).map (bR fun k=>3+k)).map (bR fun k=>nx+k)))=_;unfold tC;rw [List.map_map,List.map_map];congr 2;refine List.map_congr_left fun i hi=>?_;show bR _ (bR _ (tV (tN (outs l m).length i) (bK (outs l m) i)))=_;rw [DN,DN];unfold tN;rw [if_neg (by have:=List.mem_range.1 hi;omega)]
 ·have hil:i<l.length:=(by rw [eL] at hi;exact hi);have:look (uG l m) (i+1000)=some (ob (bK (outs l m) i)):=by
   unfold uG;rw [bA (by omega),bA (by omega),bA (by omega),bA (by omega)];exact jW (by omega) h0 hi
  rw [E0 this (by omega) (by omega)];show some (aT.cells true false 1 (((flat aL.fl (bK (outs l m) i)).map (bR fun k=>3+k)).map (bR fun k=>nx+k)))=_;rw [hfl,hfl]
 ·rw [hfl,hfl];exact List.take_length
 ·refine (fJ (YU l m c1 c2 n) (j:=2003) (o:=.cells true false 1 (flat aL.fl (dD l m).face)) rfl).trans ?_;show some (aT.cells true false 1 ((flat aL.fl (dD l m).face).map (bR fun k=>nx+k)))=_;rw [hfl]
def wN (nx:Nat)(l:List Pt)(m:List Ed)(c1 c2:Nat)(n:Int)(T:List Value)(W:Heap):Heap :=
 (nx+7,.cells true false 1 (AJ (nx+3) (nx+4) (nx+9) (nx+8) (nx+2003) l.length m.length (aV l m m.length).length (outs l m).length c1 c2 n (some ((aV l m m.length).length,(aV l m m.length).length)))) ::
 (nx+2003,.cells true false 1 (flat aL.fl (dD l m).face))::(nx+9,.cells true false 5 (flat qQ.fl (aV l m m.length)))::(nx+8,.cells true false 1 T)::(nx+3,.cells false true aZ.sz (flat aZ.fl l))::(nx+4,.cells false true aY.sz (flat aY.fl m))::W
def wTb (nx:Nat)(l:List Pt)(m:List Ed):List Value:=((tC (outs l m).length (outs l m)).map (bR fun k=>3+k)).map (bR fun k=>nx+k)
def wT (nx:Nat)(l:List Pt)(m:List Ed):Heap:=lT nx (lT 3 (tH (outs l m).length (outs l m) (outs l m).length))
theorem aAI {nx:Nat}{l:List Pt}{m:List Ed}{c1 c2:Nat}{n:Int}:wH nx l m c1 c2 n=wN nx l m c1 c2 n (wTb nx l m) (wT nx l m):=by
 have hfl:∀ {α:Type} (E:El α) (x:List α) (k:Nat),(flat E.fl x).map (bR fun i=>k+i)=flat E.fl x:=fun E x k=>bW (aE E x);unfold wN;rw [show AJ (nx+3) (nx+4) (nx+9) (nx+8) (nx+2003) l.length m.length (aV l m m.length).length (outs l m).length c1 c2 n (some ((aV l m m.length).length,(aV l m m.length).length))=(AJ 3 4 9 8 2003 l.length m.length (aV l m m.length).length (outs l m).length c1 c2 n (some ((aV l m m.length).length,(aV l m m.length).length))).map (bR fun i=>nx+i) from rfl];have e1:=(hfl aL (dD l m).face nx).symm;have e2:flat qQ.fl (aV l m m.length)=((flat qQ.fl (aV l m m.length)).map (bR fun i=>3+i)).map (bR fun i=>nx+i):=(by rw [hfl,hfl]);have e3:flat aZ.fl l=((flat aZ.fl l).map (bR fun i=>3+i)).map (bR fun i=>nx+i):=(by rw [hfl,hfl]);have e4:flat aY.fl m=((flat aY.fl m).map (bR fun i=>3+i)).map (bR fun i=>nx+i):=(by rw [hfl,hfl]);rw [e1,e2,e3,e4];rfl
theorem aIt {nx:Nat}{l:List Pt}{m:List Ed}{c1 c2:Nat}{n:Int}(ho:cN l m n=true)(hs:l.length≤1000∧m.length≤1000):WA (wN nx l m c1 c2 n (wTb nx l m) (wT nx l m)) (nx+7) l m n:=aAI▸aIW ho hs
theorem aHW {nx:Nat}{l:List Pt}{m:List Ed}{c1 c2:Nat}{n:Int}(hl:l.length≤1000){k:Nat}(hk:k<nx∨nx+2004≤k):look (wN nx l m c1 c2 n (wTb nx l m) (wT nx l m)) k=none:=aAI▸aFi hl hk
def aEo:Nat × XF:=(69,fun args h nx K=>∃ l m n p q,args=[mapA p q n]∧jQ aZ h p l∧jQ aY h q m∧(l.length≤1000∧m.length≤1000) ∧
 ((cN l m n=true∧K (.tuple #[.pointer (some ⟨nx+7,0,none⟩),iv 0]) (app (eG h) (wN nx l m (oL p) (oL q) n (wTb nx l m) (wT nx l m))) (nx+2004))∨(cN l m n=false∧K (.tuple #[.pointer none,iv 1]) h nx)))
theorem YM {ι:Nat→Loc}{B:Nat}{h h':Heap}{nx:Nat}{w:World}(H:aQ ι B h nx w)(e:∀ k,look h' k=look h k):aQ ι B h' nx w :=
 ⟨fun k o hk=>H.obj k o (by rw [← e];exact hk),fun k k' o o' hk hk'=>H.sep k k' o o' (by rw [← e];exact hk) (by rw [← e];exact hk'),fun k o hk=>H.low k o (by rw [← e];exact hk),H.size,fun k o hk=>H.sc k o (by rw [← e];exact hk)⟩
theorem aHL:dM Go.Proofs.Tryz.prog aEo.1 aEo.2:=by
 refine⟨fun args h nx K hx ι B w H hs=>?_,fun args h nx K hx=>?_⟩
 ·obtain⟨l,m,n,p,q,rfl,hl,hm,hlm,hx⟩:=hx;rw [← aAI] at hx;have h0:=aIy.1 [mapA p q n] h nx (fun v h' nx'=>∃ h'',(∀ k,look h'' k=look h' k)∧K v h'' nx') ⟨l,m,n,p,q,rfl,hl,hm,hlm,by
   rcases hx with ⟨ho,hx⟩|⟨ho,hx⟩
   ·refine .inl ⟨ho,_,fun k=>?_,hx⟩;rw [fY,fY,fV];cases e1:look h k with
    |none =>
     show look (wH nx l m (oL p) (oL q) n) k=_;cases e2:look (lT nx (YU l m (oL p) (oL q) n)) k with
     |none=>exact e2
     |some o=>exact e2
    |some o =>
     have hlow:=H.low k o e1;have e2:look (lT nx (YU l m (oL p) (oL q) n)) k=none:=aFi hlm.1 (.inl hlow);rw [e2];rfl
   ·exact .inr ⟨ho,_,fun k=>rfl,hx⟩⟩ ι B w H hs
  refine⟨h0.1,CallsIn.mono h0.2 fun e w' hr=>?_⟩;cases e with
  |returned u =>
   obtain⟨v,h1,nx1,ι1,⟨h2,e2,hk⟩,a1,a2,a3,a4,a5,a6⟩:=hr;exact⟨v,h2,nx1,ι1,hk,a1,YM a2 e2,a3,a4,a5,a6⟩
  |_=>exact hr.elim
 ·obtain⟨l,m,n,p,q,rfl,hl,hm,hlm,hx⟩:=hx;rcases hx with ⟨ho,hx⟩|⟨ho,hx⟩
  ·exact⟨_,_,_,hx,fun K' hk=>⟨l,m,n,p,q,rfl,hl,hm,hlm,.inl ⟨ho,hk⟩⟩⟩
  ·exact⟨_,_,_,hx,fun K' hk=>⟨l,m,n,p,q,rfl,hl,hm,hlm,.inr ⟨ho,hk⟩⟩⟩
def foM (l:List Pt)(m:List Ed):Option (Nat × Nat):=some ((aV l m m.length).length,(aV l m m.length).length)
def HV (l:List Pt)(m:List Ed)(n:Int)(c1 c2:Nat)(s:Nat):Heap :=
 (5,.cells false true aY.sz (flat aY.fl m))::(6,.cells false true 1 (flat aL.fl (dD l m).face))::fG l (aV l m m.length) (outs l m) m.length c1 c2 n (foM l m) s
theorem aBS {h:Heap}{p:Nat}{l:List Pt}{m:List Ed}{n:Int}(hw:WA h p l m n)(k3 s:Nat):∃ c1 c2,∃ ρ:Nat→Nat,ρ 0=p∧ρ 3=k3 ∧
  ∀ k o,look (HV l m n c1 c2 s) k=some o→k<2000∧∃ g sz cs0,o=.cells false g sz cs0∧sz≠0∧(g=true→c9 cs0=true)∧(∀ v∈cs0,AB 2000 v)∧∃ wr g' sz' cs,look h (ρ k)=some (.cells wr g' sz' cs)∧cs.take cs0.length=cs0.map (bR ρ):=by
 obtain⟨ok,sm,k0,k1,kd,kt,kf,nm,c1,c2,w,⟨w1,g1,s1,x1,a1,b1⟩,w2,g2,s2,x2,a2,b2⟩:=hw;refine⟨c1,c2,rhW p k0 k1 kd kt kf k3 nm s,rfl,rfl,fun k o hk=>?_⟩;unfold HV at hk;rw [aC] at hk;split at hk
 ·rename_i hb;injection hk with hk;subst hk;have:=beq_true hb;subst this;exact⟨by omega,true,aY.sz,_,rfl,by decide,fun _=>aE aY m,fun v hv=>cA (aU (aE aY m) hv),w1,g1,s1,x1,a1,by rw [b1];exact (bW (aE aY m)).symm⟩
 ·rw [aC] at hk;split at hk
  ·rename_i hb;injection hk with hk;subst hk;have:=beq_true hb;subst this;exact⟨by omega,true,1,_,rfl,by omega,fun _=>aE aL _,fun v hv=>cA (aU (aE aL _) hv),w2,g2,s2,x2,a2,by rw [b2];exact (bW (aE aL _)).symm⟩
  ·exact LP w (by rw [eL];exact sm.1) s k o hk
theorem aFK {h:Heap}{p k3:Nat}{l:List Pt}{m:List Ed}{n:Int}(hw:WA h p l m n)(s:Nat){L:List Int}{c:Nat}(hL:∃ wr g sz cs,look h k3=some (.cells wr g sz cs)∧cs.take (flat aL.fl L).length=flat aL.fl L){nx:Nat} :
  ∃ c1 c2,In [.pointer (some ⟨0,0,none⟩),.slice (some ⟨3,0,none⟩) L.length c] ((3,.cells false true 1 (flat aL.fl L))::HV l m n c1 c2 s) 2000 [.pointer (some ⟨p,0,none⟩),.slice (some ⟨k3,0,none⟩) L.length c] h nx:=by
 obtain⟨c1,c2,ρ,e0,e3,ho⟩:=aBS hw k3 s;refine⟨c1,c2,rP ρ ?_ ?_ fun k o hk=>?_⟩
 ·show _=[Value.pointer (some ⟨ρ 0,0+0,none⟩),.slice (some ⟨ρ 3,0+0,none⟩) L.length c];rw [e0,e3]
 ·exact List.forall_mem_cons.2 ⟨⟨Nat.le_of_ble_eq_true rfl,rfl⟩,List.forall_mem_cons.2 ⟨⟨Nat.le_of_ble_eq_true rfl,fun h=>by cases h⟩,fun _ h=>(by cases h)⟩⟩
 ·rw [aC] at hk;split at hk
  ·rename_i hb;injection hk with hk;subst hk;have:=beq_true hb;subst this;obtain⟨wr,g,sz,cs,h1,h2⟩:=hL;exact⟨by omega,true,1,_,rfl,by omega,fun _=>aE aL L,fun v hv=>cA (aU (aE aL L) hv),wr,g,sz,cs,by rw [e3];exact h1,by rw [h2];exact (bW (aE aL L)).symm⟩
  ·exact ho k o hk
def wcX (s:List Pt→List Ed→Int→List Value→Option (Bool × Value)):XF:=fun args h nx K =>
 ∃ p r l m n,args=.pointer (some ⟨p,0,none⟩)::r∧WA h p l m n∧(match s l m n r with|some pr=>dP pr.1 (K pr.2 h nx)|none=>False)
def aI0 (s:List Pt→List Ed→Int→List Int→Option (Bool × Value)):XF:=fun args h nx K =>
 ∃ p k3 l m n L c,args=[.pointer (some ⟨p,0,none⟩),.slice (some ⟨k3,0,none⟩) L.length c]∧WA h p l m n∧(∃ wr g sz cs,look h k3=some (.cells wr g sz cs)∧cs.take (flat aL.fl L).length=flat aL.fl L)∧(match s l m n L with|some pr=>dP pr.1 (K pr.2 h nx)|none=>False)
theorem aD0 {P:Program}{C:VC}{f:Nat}{s:List Pt→List Ed→Int→List Int→Option (Bool × Value)}(hC:bL P C)
  (hs:∀ l m n L v,s l m n L=some (true,v)→cN l m n=true→l.length≤1000∧m.length≤1000→gT v=true∧∃ s0,∀ c1 c2 c,C f [.pointer (some ⟨0,0,none⟩),.slice (some ⟨3,0,none⟩) L.length c] ((3,.cells false true 1 (flat aL.fl L))::HV l m n c1 c2 s0) 2000 (fun u _ _=>u=v)):dM P f (aI0 s):=by
 refine (jX (S:=fun args0 h0 n0 v1 h1 k=>gT v1=true∧C f args0 h0 n0 (fun u _ _=>u=v1)∧h1=[]∧k=0) hC ?_).mono ?_ ?_
 ·rintro args0 h0 n0 v1 h1 k ⟨e2,e3,rfl,rfl⟩;exact⟨rfl,_,e3,fun v h nx e=>by rw [e];exact mI e2⟩
 ·rintro args h nx K ⟨p,k3,l,m,n,L,c,rfl,hw,hL,hx⟩;split at hx
  case h_2=>exact hx.elim
  rename_i pr e1;obtain⟨bb,u⟩:=pr;obtain⟨rfl,hx⟩:=aG.1 hx;obtain⟨a2,s0,a4⟩:=hs l m n L u e1 hw.ok hw.sm;obtain⟨c1,c2,i⟩:=aFK hw s0 hL (c:=c) (nx:=nx);refine⟨_,_,2000,u,[],0,⟨a2,a4 c1 c2 c,rfl,rfl⟩,i,?_⟩;simp only [qW,w8,lT,nQ,r5 a2,Nat.add_zero];exact hx
 ·rintro args h nx K ⟨p,k3,l,m,n,L,c,rfl,hw,hL,hx⟩;split at hx
  case h_2=>exact hx.elim
  rename_i pr e1;obtain⟨hb,hx⟩:=aG.1 hx;exact⟨pr.2,h,nx,hx,fun K' hk=>⟨p,k3,l,m,n,L,c,rfl,hw,hL,by rw [e1];exact aJ hb hk⟩⟩
def ZR (nx:Nat):Heap→Bool
 |[]=>true
 |(k,_)::r=>Nat.blt k nx&&ZR nx r
theorem z7 {nx:Nat}:∀ {H:Heap},ZR nx H=true→∀ k o,look H k=some o→k<nx
 |[],_,k,o,h=>by cases h
 |(j,q)::r,hl,k,o,h=>by
  simp only [ZR,Bool.and_eq_true] at hl;rw [aC] at h;split at h
  ·rename_i hb;rw [← beq_true hb];exact Nat.le_of_ble_eq_true hl.1
  ·exact z7 hl.2 k o h
theorem Y1 {H W:Heap}{p nx:Nat}{l:List Pt}{m:List Ed}{n:Int}(hw:WA W p l m n)(hno:∀ k,k<nx→look W k=none)(hH:ZR nx H=true):WA (app H W) p l m n :=
 hw.ext fun k o hk=>by
  rw [fY];cases hh:look H k with
  |none=>exact hk
  |some o'=>rw [hno k (z7 hH k o' hh)] at hk;cases hk
theorem aAM {h:Heap}{p q:Nat}{v:aT}{l:List Pt}{m:List Ed}{n:Int}(hw:WA h p l m n)(hq:look h q=none):WA (cV h q v) p l m n:=hw.ext (ext_cons (fun _ _ h=>h) hq)
theorem U5 {H W:Heap}{nx k:Nat}(hH:ZR nx H=true)(hk:nx≤k)(hW:look W k=none):look (app H W) k=none:=by
 rw [fY];cases hh:look H k with
 |none=>exact hW
 |some o'=>have:=z7 hH k o' hh;omega
def X3 (xl:List (Nat × XF))(k:Nat):CP:={ aA with X:=look xl,M:=k }
theorem xO {xl:List (Nat × XF)}(h:m7 xl)(k:Nat):o8 Go.Proofs.Tryz.prog (X3 xl k) where
 ar:=jD.ar
 tab:=jD.tab
 mixed:=jD.mixed
 funcs:=jD.funcs
 xs:=h.look
def oJ (n a:Int):Bool:=decide (0≤a)&&decide (a≤n)
def NZ (l:List Pt)(m:List Ed)(n:Int):List Int→Option (Bool × Value)
 |[a]=>some (true,.bool (oJ n a))
 |[a,b]=>some (true,.bool (oJ n a&&oJ n b))
 |_=>none
def aFG:Nat × XF:=(82,aI0 NZ)
theorem aJJ:dM Go.Proofs.Tryz.prog aFG.1 aFG.2:=aD0 (f:=82) (s:=NZ) (iU (xO (xl:=[]) .nil 4) 6).1 fun l m n L v hs ho hm=>by
 have:(∃ a,L=[a]∧v=.bool (oJ n a))∨(∃ a b,L=[a,b]∧v=.bool (oJ n a&&oJ n b)):=by
  unfold NZ at hs;split at hs
  ·injection hs with hs;injection hs with h1 h2;exact .inl ⟨_,rfl,h2.symm⟩
  ·injection hs with hs;injection hs with h1 h2;exact .inr ⟨_,_,rfl,h2.symm⟩
  ·cases hs
 clear hs;rcases this with ⟨a,rfl,rfl⟩|⟨a,b,rfl,rfl⟩
 ·refine⟨rfl,0,fun c1 c2 c=>?_⟩;unfold oJ;unfold HV fG AJ
  repeat' (((conv=>whnf);refine bm (fun g=>?_) (fun g=>?_)))
  all_goals (conv=>whnf)
  all_goals (show Value.bool _=Value.bool _;congr 1;simp [X3,aA,aF] at *;try omega)
 ·refine⟨rfl,0,fun c1 c2 c=>?_⟩;unfold oJ;unfold HV fG AJ
  repeat' (((conv=>whnf);refine bm (fun g=>?_) (fun g=>?_)))
  all_goals (conv=>whnf)
  all_goals (show Value.bool _=Value.bool _;congr 1;simp [X3,aA,aF] at *;try omega)
theorem wC {l:List Pt}{m:List Ed}{n:Int}(h:cN l m n=true):dH l m n=true:=by
 simp only [cN,mE,Bool.and_eq_true] at h;exact h.1.1
def aF1 (l:List Pt)(m:List Ed)(n d:Int):Bool:=cN l m n&&(decide (0≤d)&&decide (d<2*m.length))
def nxP (l:List Pt)(m:List Ed)(n:Int):List Value→Option (Bool × Value)
 |[.int .i64 d]=>some (decide (l.length≤1000)&&decide (m.length≤1000),.tuple #[iv (if aF1 l m n d=true then BF (aV l m m.length) (outs l m) d else 0),iv (if aF1 l m n d=true then 0 else 1)])
 |_=>none
def aK0:Nat × XF:=(22,mX aZ aY nxP)
end Go.Aw
end

noncomputable section
namespace Go.Aw
set_option maxRecDepth 100000
section
variable {l:List Pt}{m:List Ed}{n:Int}
structure Hs (l:List Pt) (m:List Ed) (t:P7):Prop where
 seen:t.seen.length=2*m.length
 face:t.face.length=2*m.length
 cl:∀ i:Nat,i<2*m.length→dF t.seen i=true→dF t.seen (BF (aV l m m.length) (outs l m) i).toNat=true
 has:∀ f:Int,(1≤f∧f≤t.many)∨(f=0∧1≤t.out)→∃ i,i<2*m.length∧dF t.seen i=true∧aB t.face i=f
 low:0≤t.many
theorem UI {D:List Dt}{ls:List (List Int)}{d:Int}{t:Nat}(h:t<n9 D ls d):aB (uJ D ls d) t=oN D ls d t:=by
 unfold uJ aB;rw [List.getD_eq_getElem?_getD,List.getElem?_map,List.getElem?_range h];rfl
theorem EV {D:List Dt}{ls:List (List Int)}{d:Int}:(uJ D ls d).length=n9 D ls d:=by simp [uJ]
theorem aEg (hok:dH l m n=true){t:P7}(h:Hs l m t){d:Nat}(hd:d<2*m.length):Hs l m (kK l (aV l m m.length) (outs l m) t d):=by
 unfold kK;cases hs:dF t.seen d with
 |true=>rw [if_pos rfl];exact h
 |false =>
  rw [if_neg (by decide)];simp only;have hin:=yE hok (d:=(d:Int)) (by omega) (by omega);have hT:oN (aV l m m.length) (outs l m) d (n9 (aV l m m.length) (outs l m) d)=d:=by
   have hw:=List.all_eq_true.1 (J9 hok) d (List.mem_range.2 (by rw [bM];exact hd));exact of_decide_eq_true hw
  have hT1:1≤n9 (aV l m m.length) (outs l m) d:=by
   have:=(mF (aV l m m.length) (outs l m) d (aV l m m.length).length 1).1;unfold n9;omega
  have hget:∀ k,k<n9 (aV l m m.length) (outs l m) d→aB (uJ (aV l m m.length) (outs l m) d) k=oN (aV l m m.length) (outs l m) d k:=fun k hk=>UI hk;have hlen:(uJ (aV l m m.length) (outs l m) d).length=n9 (aV l m m.length) (outs l m) d:=EV;generalize uJ (aV l m m.length) (outs l m) d=W at hget hlen ⊢;generalize n9 (aV l m m.length) (outs l m) d=T at *;have hr:∀ k,k<W.length→(aB W k).toNat<2*m.length:=fun k hk=>by
   rw [hget k (by omega)];have:=hin k;omega
  -- what was seen lies in no walk of what was not
  have hdis:∀ k,k<W.length→dF t.seen (aB W k).toNat=true→False:=fun k hk hsk=>by
   rw [hget k (by omega)] at hsk;have hf:∀ j,dF t.seen (oN (aV l m m.length) (outs l m) d (k+j)).toNat=true:=by
    intro j
    induction j with
    |zero=>exact hsk
    |succ j ih =>
     have hi:=hin (k+j);have:=h.cl (oN (aV l m m.length) (outs l m) d (k+j)).toNat (by omega) ih;rw [Int.toNat_of_nonneg hi.1] at this;exact this
   have:=hf (T - k);rw [show k+(T - k)=T by omega,hT,Int.toNat_natCast,hs] at this;cases this
  generalize G0 l (aV l m m.length) W W.length=A;have hsee:∀ i,(∃ k,k<W.length∧(aB W k).toNat=i)→dF (fD t.seen W W.length) i=true:=fun i hi=>(pO t.seen W (by rw [h.seen];exact hr) i _ (Nat.le_refl _)).1 hi;have hkeep:∀ i,dF t.seen i=true→dF (fD t.seen W W.length) i=true:=fun i hi=>by
   by_cases e:∃ k,k<W.length∧(aB W k).toNat=i
   ·exact hsee i e
   ·rw [(pO t.seen W (by rw [h.seen];exact hr) i _ (Nat.le_refl _)).2 e];exact hi
  have hold:∀ (fc f:Int),(∃ i,i<2*m.length∧dF t.seen i=true∧aB t.face i=f)→∃ i,i<2*m.length∧dF (fD t.seen W W.length) i=true∧aB (fO t.face W fc W.length) i=f:=fun fc f ⟨i,a1,a2,a3⟩=>by
   refine⟨i,a1,hkeep i a2,?_⟩;rw [(tM t.face W fc (by rw [h.face];exact hr) i _ (Nat.le_refl _)).2 fun ⟨k,b1,b2⟩=>hdis k b1 (by rw [b2];exact a2)];exact a3
  have hd0:∃ k,k<W.length∧(aB W k).toNat=d:=⟨0,by omega,by rw [hget 0 (by omega)];rfl⟩;have hnew:∀ fc:Int,∃ i,i<2*m.length∧dF (fD t.seen W W.length) i=true∧aB (fO t.face W fc W.length) i=fc:=fun fc =>
   ⟨d,hd,hsee d hd0,(tM t.face W fc (by rw [h.face];exact hr) d _ (Nat.le_refl _)).1 hd0⟩
  refine⟨by rw [j4];exact h.seen,by rw [jA];exact h.face,fun i hi hsi=>?_,fun f hf=>?_,?_⟩
  ·by_cases e:∃ k,k<W.length∧(aB W k).toNat=i
   ·obtain⟨k,b1,b2⟩:=e;have hk:=hin k;rw [hget k (by omega)] at b2;have e2:(i:Int)=oN (aV l m m.length) (outs l m) d k:=(by omega);rw [e2];show dF (fD t.seen W W.length) (oN (aV l m m.length) (outs l m) d (k+1)).toNat=true;by_cases hl:k+1=T
    ·rw [hl,hT,Int.toNat_natCast];exact hsee d hd0
    ·exact hsee _ ⟨k+1,by omega,by rw [hget (k+1) (by omega)]⟩
   ·have:=hsi;rw [(pO t.seen W (by rw [h.seen];exact hr) i _ (Nat.le_refl _)).2 e] at this;exact hkeep _ (h.cl i hi this)
  ·have hlow:=h.low;by_cases hA:0<A
   ·simp only [if_pos hA] at hf ⊢;rcases hf with ⟨f1,f2⟩|f2
    ·by_cases e:f=t.many+1
     ·rw [e];exact hnew _
     ·exact hold _ f (h.has f (.inl ⟨f1,by omega⟩))
    ·exact hold _ f (h.has f (.inr f2))
   ·simp only [if_neg hA] at hf ⊢;rcases hf with f2|⟨f1,f2⟩
    ·exact hold _ f (h.has f (.inl f2))
    ·rw [f1];exact hnew 0
  ·have:=h.low;show 0≤if 0<A then t.many+1 else t.many
   split <;> omega
theorem ZB (hok:dH l m n=true):∀ d,d≤2*m.length→Hs l m (cE l (aV l m m.length) (outs l m) d)
 |0,_=>by
  refine⟨by simp [cE,bM],by simp [cE,bM],fun i hi h=>?_,fun f hf=>?_,Int.le_refl 0⟩
  ·unfold cE dF at h;rw [List.getD_eq_getElem?_getD,List.getElem?_replicate,bM,if_pos hi] at h;cases h
  ·have hf:(1≤f∧f≤0)∨(f=0∧(1:Int)≤0):=hf;omega
 |d+1,h=>aEg hok (ZB hok d (by omega)) (by omega)
theorem O9 (x:Int):∀ (L:List Int) (i:Nat),(∃ k,k<L.length∧aB L k=x)→∃ k,k<L.length∧aB L k=x∧(∀ j,j<k→aB L j≠x)∧pU x L i=((i+k:Nat):Int)
 |[],i,⟨k,h,_⟩=>by cases h
 |b::r,i,⟨k,h1,h2⟩=>by
  unfold pU;by_cases e:x=b
  ·rw [if_pos e];exact⟨0,Nat.succ_pos _,e.symm,fun j hj=>absurd hj (Nat.not_lt_zero j),rfl⟩
  ·rw [if_neg e];cases k with
   |zero=>exact absurd h2.symm e
   |succ k =>
    obtain⟨q,a1,a2,a3,a4⟩:=O9 x r (i+1) ⟨k,by simpa using h1,h2⟩;refine⟨q+1,by simpa using a1,a2,fun j hj=>?_,by rw [a4];congr 1;omega⟩;cases j with
    |zero=>exact fun hb=>e hb.symm
    |succ j=>exact a3 j (by omega)
theorem aA5 (ho:cN l m n=true){f:Int}(h0:0≤f)(h1:f≤n):∃ k,k<2*m.length∧aB (dD l m).face k=f∧(∀ j,j<k→aB (dD l m).face j≠f)∧pU f (dD l m).face 0=(k:Int):=by
 have ho':=ho;simp only [cN,mE,Bool.and_eq_true,decide_eq_true_eq] at ho';obtain⟨⟨hok,_⟩,_,hn,hmn,_⟩:=ho';have hs:=ZB hok (2*m.length) (Nat.le_refl _);have e:cE l (aV l m m.length) (outs l m) (2*m.length)=dD l m:=(by unfold dD nmD;rw [bM]);rw [e] at hs;simp only [AO,Bool.and_eq_true,decide_eq_true_eq] at hn;obtain⟨i,a1,a2,a3⟩:=hs.has f (by
  by_cases e0:f=0
  ·exact .inr ⟨e0,by omega⟩
  ·exact .inl ⟨by omega,by omega⟩)
 obtain⟨k,b1,b2,b3,b4⟩:=O9 f (dD l m).face 0 ⟨i,by rw [hs.face];exact a1,a3⟩;exact⟨k,by rw [hs.face] at b1;exact b1,b2,b3,by rw [b4,Nat.zero_add]⟩
end
end Go.Aw
end

noncomputable section
namespace Go.Aw
set_option maxRecDepth 100000
set_option maxHeartbeats 2000000
def WV (l:List Pt)(m:List Ed)(f:Int):List Int:=uJ (aV l m m.length) (outs l m) (pU f (dD l m).face 0)
def lO (l:List Pt)(m:List Ed)(n f:Int):Bool:=cN l m n&&(decide (0≤f)&&decide (f≤n))
def a2P (l:List Pt)(m:List Ed)(n:Int):List Value→Option (Bool × Value)
 |[.int .i64 f]=>some (decide (l.length≤1000)&&decide (m.length≤1000),.tuple #[iv (if lO l m n f=true then G0 l (aV l m m.length) (WV l m f) (WV l m f).length else 0),iv (if lO l m n f=true then 0 else 1)])
 |_=>none
theorem aHM {l:List Pt}{m:List Ed}{n f:Int}(ho:cN l m n=true)(h0:0≤f)(h1:f≤n):∃ d:Int,pU f (dD l m).face 0=d∧0≤d∧d<2*m.length∧uL l (aV l m m.length) (outs l m)=true∧oN (aV l m m.length) (outs l m) d (n9 (aV l m m.length) (outs l m) d)=d∧eO (aV l m m.length) (uJ (aV l m m.length) (outs l m) d)=true∧1≤(uJ (aV l m m.length) (outs l m) d).length∧(uJ (aV l m m.length) (outs l m) d).length≤2*m.length+1:=by
 obtain⟨k,b1,b2,b3,b4⟩:=aA5 ho h0 h1;have hok:=wC ho;have hw:=List.all_eq_true.1 (J9 hok) k (List.mem_range.2 (by rw [bM];exact b1));have w:=SN (l:=l) (KW hok) (d:=k) (by rw [bM];exact b1);have p:=mF (aV l m m.length) (outs l m) k (aV l m m.length).length 1;refine⟨k,b4,by omega,by omega,KW hok,of_decide_eq_true hw,w.1,?_,?_⟩
 ·exact w.2.2
 ·have:=w.2.1;rw [bM] at this;exact this
def aKx:Nat × XF:=(26,mX aZ aY a2P)
def mRX (s:List Pt→List Ed→Int→List Value→Option (Bool × List Int × Option Int)):XF:=fun args h nx K=>∃ p q n r l m,args=mapA p q n::r∧jQ aZ h p l∧jQ aY h q m ∧
 (match s l m n r with|some pr=>dP pr.1 (MI aL pr.2.1 pr.2.2 h nx K)|none=>False)
theorem ZD {P:Program}{C:VC}{f:Nat}{s:List Pt→List Ed→Int→List Value→Option (Bool × List Int × Option Int)}(hC:bL P C)
  (hs:∀ l m n r out e,s l m n r=some (true,out,e)→fC r=true∧∀ c1 c2,C f (aD l.length m.length c1 c2 n::r) (aH aZ aY l m) 2 (Yields aL out e)):dM P f (mRX s):=by
 refine (JY aL (T:=fun args0 h0 n0 out e=>C f args0 h0 n0 (Yields aL out e)) hC ?_).mono ?_ ?_
 ·rintro args0 h0 n0 out e hc;exact hc
 ·rintro args h nx K ⟨p,q,n,r,l,m,rfl,hl,hm,hx⟩;split at hx
  case h_2=>exact hx.elim
  rename_i pr e1;obtain⟨bb,out,e⟩:=pr;obtain⟨rfl,hx⟩:=aG.1 hx;obtain⟨a1,a3⟩:=hs l m n r out e e1;obtain⟨c1,c2,i⟩:=QX (n:=n) (nx:=nx) aZ aY a1 hl hm;exact CZ aL (a3 c1 c2) i hx
 ·rintro args h nx K ⟨p,q,n,r,l,m,rfl,hl,hm,hx⟩;split at hx
  case h_2=>exact hx.elim
  rename_i pr e1;obtain⟨bb,out,e⟩:=pr;obtain⟨hb,hx⟩:=aG.1 hx;cases out with
  |nil=>exact⟨_,_,_,hx,fun K' hk'=>⟨p,q,n,r,l,m,rfl,hl,hm,by rw [e1];exact aJ hb hk'⟩⟩
  |cons a t=>exact⟨_,_,_,hx,fun K' hk'=>⟨p,q,n,r,l,m,rfl,hl,hm,by rw [e1];exact aJ hb hk'⟩⟩
def frL (D:List Dt)(L:List Int):Nat→List Int
 |0=>L
 |i+1=>(frL D L i).set i (bV D (aB L i).toNat).fr
theorem TQ (D:List Dt)(L:List Int):∀ i,(frL D L i).length=L.length
 |0=>rfl
 |i+1=>by unfold frL;rw [List.length_set];exact TQ D L i
def wlI (l:List Pt)(m:List Ed)(f:Int):List Int:=frL (aV l m m.length) (WV l m f) (WV l m f).length
def wlP (l:List Pt)(m:List Ed)(n:Int):List Value→Option (Bool × List Int × Option Int)
 |[.int .i64 f]=>some (decide (l.length≤1000)&&decide (m.length≤1000),if lO l m n f=true then wlI l m f else [],some (if lO l m n f=true then 0 else 1))
 |_=>none
def aKB:Nat × XF:=(24,mRX wlP)
theorem smB {l:List Pt}{m:List Ed}(h:l.length≤1000∧m.length≤1000):(decide (l.length≤1000)&&decide (m.length≤1000))=true:=by
 rw [decide_eq_true h.1,decide_eq_true h.2];rfl
def aKN:Nat × XF:=(23,mX aZ aY nxP)
def aK5:Nat × XF:=(27,mX aZ aY a2P)
theorem aIU {l:List Pt}{m:List Ed}{n f:Int}(ho:cN l m n=true)(hb:oJ n f=true):aKn m (WV l m f)=true∧1≤(WV l m f).length∧(WV l m f).length≤10000∧NL l m (WV l m f) (WV l m f).length=G0 l (aV l m m.length) (WV l m f) (WV l m f).length:=by
 have hb2:=hb;simp only [oJ,Bool.and_eq_true,decide_eq_true_eq] at hb2;obtain⟨d,e1,e2,e3,e4,e5,e6,e7,e8⟩:=aHM ho hb2.1 hb2.2;obtain⟨hM,h3,h1l,h400,m400,_,_⟩:=kN (wC ho);have e:WV l m f=uJ (aV l m m.length) (outs l m) d:=(by unfold WV;rw [e1]);rw [e];refine⟨List.all_eq_true.2 fun x hx=>?_,e7,by omega,KT l m e6 _ (Nat.le_refl _)⟩;obtain⟨i,hi,rfl⟩:=List.getElem_of_mem hx;have:=iS e6 hi;rw [dK hi,bM] at this;simp only [inD,Bool.and_eq_true,decide_eq_true_eq];omega
def aK4:Nat × XF:=(25,mRX wlP)
def smI (l1 l2:List Int):Bool:=decide (l1=l2)
def smS (l1 l2:List Int):Option (Bool × Value):=some (decide (l1.length≤1000000),.bool (smI l1 l2))
def aK6:Nat × XF:=(21,l2X aL smS)
theorem aAp {l:List Pt}{m:List Ed}(h1:(!(decide ((l.length:Int)≤60)&&decide ((m.length:Int)≤60)))=false):l.length≤1000∧m.length≤1000:=by
 have h1:(decide ((l.length:Int)≤60)&&decide ((m.length:Int)≤60))=true:=(by simpa using h1);simp only [Bool.and_eq_true,decide_eq_true_eq] at h1;omega
theorem w5 (l:List Pt)(m:List Ed)(n:Int)(c1 c2:Nat)(d f:Int):body [aAi,X16,aK6,aK0,aKN,aKB,aK4,aKx,aK5] 5 [aD l.length m.length c1 c2 n,iv d,iv f] (aH aZ aY l m) 2 (fun v _ _=>v=.bool true):=by
 (conv=>whnf);refine⟨l,m,aM aZ rfl,aM aY rfl,?_⟩;((conv=>whnf);refine bm (fun h1=>?_) (fun h1=>?_))
 ·(conv=>whnf)
 ·have hlm:l.length≤1000∧m.length≤1000:=aAp h1;have hsm:=smB hlm;obtain⟨O,hO⟩:∃ O,(if lO l m n f=true then wlI l m f else [])=O:=⟨_,rfl⟩;have hOl:O.length≤1000000:=by
   rw [← hO];split
   ·rename_i hf;have hf:(cN l m n&&oJ n f)=true:=hf;simp only [Bool.and_eq_true] at hf;have:=(aIU hf.1 hf.2).2.2.1;unfold wlI;rw [TQ];omega
   ·exact Nat.zero_le _
  have hsame:smI O O=true:=decide_eq_true rfl;(conv=>whnf);refine⟨l,m,aM aZ rfl,aM aY rfl,?_⟩;refine aJ hsm ?_;(conv=>whnf);refine⟨l,m,aM aZ rfl,aM aY rfl,?_⟩;refine aJ hsm ?_;(conv=>whnf);refine⟨_,_,_,[iv f],l,m,rfl,aM aZ rfl,aM aY rfl,?_⟩;refine aJ hsm ?_;rw [hO];cases O with
  |nil =>
   (conv=>whnf);refine⟨_,_,_,[iv f],l,m,rfl,aM aZ rfl,aM aY rfl,?_⟩;refine aJ hsm ?_;rw [hO];(conv=>whnf);refine⟨l,m,aM aZ rfl,aM aY rfl,?_⟩;refine aJ hsm ?_;(conv=>whnf);refine⟨l,m,aM aZ rfl,aM aY rfl,?_⟩;refine aJ hsm ?_
   repeat' (((conv=>whnf);refine bm (fun g=>?_) (fun g=>?_)))
   all_goals (conv=>whnf)
   all_goals first
    |(exfalso;simp [aA,aF] at g;done)
    |(refine⟨[],[],⟨rfl,rfl,rfl⟩,⟨rfl,rfl,rfl⟩,?_⟩
      refine aJ (decide_eq_true hOl) ?_;rw [hsame];(conv=>whnf))
  |cons a t =>
   (conv=>whnf);refine⟨_,_,_,[iv f],l,m,rfl,aM aZ rfl,aM aY rfl,?_⟩;refine aJ hsm ?_;rw [hO];(conv=>whnf);refine⟨l,m,aM aZ rfl,aM aY rfl,?_⟩;refine aJ hsm ?_;(conv=>whnf);refine⟨l,m,aM aZ rfl,aM aY rfl,?_⟩;refine aJ hsm ?_
   repeat' (((conv=>whnf);refine bm (fun g=>?_) (fun g=>?_)))
   all_goals (conv=>whnf)
   all_goals first
    |(exfalso;simp [aA,aF] at g;done)
    |(refine⟨a::t,a::t,aM aL rfl,aM aL rfl,?_⟩
      refine aJ (decide_eq_true hOl) ?_;rw [hsame];(conv=>whnf))
end Go.Aw
end
