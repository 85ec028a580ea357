/-
  Parts of a proof. No condition.
-/
import Derived.Test.YtjahkcbdecgbhaaGreatQBh
import Derived.Test.YtjahkcbdecgbhaaGreatQBi
import Derived.Test.YtjahkcbdecgbhaaGreatChecked
import Derived.Test.YtjahkcbdecgbhaaGreatRows
import Derived.ProofKit
import Derived.Lib.SmallJoins
import Derived.Deep.Slices
import Derived.Deep.Fields
set_option linter.unusedSimpArgs false
set_option linter.unusedVariables false
noncomputable section
namespace Go.Proofs.YtjahkcbdecgbhaaGreat
open Go.ChangeShapes Go.WideShapes Go.ChangeAt Go.RowKit Go.Joins
theorem eM {a b:Bool}(ha:a=true)(hb:b=true):(a&&b)=true:=by rw [ha,hb];rfl
theorem jf0:(Rows.facesBesideRow.wf (OpenSpec.ofChange Rows.facesBesideSpec))=true:=by kernel_rfl
theorem jf1:(laidOutB Tryz.prog)=true:=by kernel_rfl
theorem jf2:(mapsRowed Tryz.prog)=true:=by kernel_rfl
theorem jf3:(Tryz.f11.params.all (Tryz.prog.readableRec ·))=true:=by kernel_rfl
theorem jf4:(namedTie Tryz.prog Rows.facesBesideRow.named Rows.facesBesideSpec.vars)=true:=by kernel_rfl
theorem jf5:((Rows.facesBesideRow.stops == []))=true:=by kernel_rfl
theorem jf6:((Tryz.prog.stops == []))=true:=by kernel_rfl
theorem jf7:((Rows.facesBesideRow.knobs == []))=true:=by kernel_rfl
theorem jf8:((Tryz.prog.stopKnobs == []))=true:=by kernel_rfl
theorem jf9:((Rows.facesBesideRow.inPlace == Tryz.prog.inPlace 11))=true:=by kernel_rfl
theorem aLL:((Rows.facesBesideRow.unfollowed == Tryz.prog.unfollowed 11))=true:=by kernel_rfl
theorem aNb:((Rows.facesBesideRow.recurses == Tryz.prog.recurses 11))=true:=by kernel_rfl
theorem aNv:((Rows.facesBesideRow.named == Tryz.prog.varsNamed 11))=true:=by kernel_rfl
theorem aLz:((Rows.facesBesideRow.maps == (Tryz.f11.params.toList++Rows.facesBesideSpec.plain.varTypes Tryz.prog).any (Tryz.prog.mapsRec ·)))=true:=by kernel_rfl
theorem aNu:((Rows.facesBesideRow.ifaces == (Tryz.f11.params.toList++Rows.facesBesideSpec.plain.varTypes Tryz.prog).any (Tryz.prog.ifacesRec ·)))=true:=by kernel_rfl
theorem aNd:((Rows.facesBesideRow.mapsOut == Tryz.prog.mapsAmong Tryz.f11.resultTypes.toList))=true:=by kernel_rfl
theorem aMp:((Rows.facesBesideRow.loops == (Tryz.f11.params.toList++Rows.facesBesideSpec.plain.varTypes Tryz.prog).any (Tryz.prog.loopsFrom ·)))=true:=by kernel_rfl
theorem aNs:((Rows.facesBesideRow.wideKeys == (Tryz.f11.params.toList++Rows.facesBesideSpec.plain.varTypes Tryz.prog++Tryz.f11.resultTypes.toList).any (Tryz.prog.wideKeysFrom ·)))=true:=by kernel_rfl
theorem aM9:(Rows.facesBesideSpec.vars.all (Tryz.prog.varReadable ·))=true:=by kernel_rfl
theorem aMi:(Tryz.f11.resultTypes.all (fun t=>Tryz.prog.readableRec t&&decide (t<Tryz.prog.types.size)))=true:=by kernel_rfl
theorem aMu:((Rows.facesBesideRow.ifacesOut == Tryz.f11.resultTypes.toList.any (Tryz.prog.ifacesRec ·)))=true:=by kernel_rfl
theorem aMl:((Rows.facesBesideRow.loopsOut == Tryz.f11.resultTypes.toList.any (Tryz.prog.loopsFrom ·)))=true:=by kernel_rfl
theorem aM5:((Rows.facesBesideRow.plainKeys == Tryz.prog.plainKeys))=true:=by kernel_rfl
theorem aM6:(Rows.facesBesideRow.shortTexts.isNone)=true:=by kernel_rfl
theorem aMq:(Tryz.prog.stopsHeard)=true:=by kernel_rfl
theorem aNr:(Tryz.prog.mayEnter)=true:=by kernel_rfl
theorem aMy:((Rows.facesBesideRow.lifted == Tryz.prog.liftsFinal))=true:=by kernel_rfl
theorem aMN:((Tryz.prog.make == some Rows.facesBesideRow.make))=true:=by kernel_rfl
theorem aLX:((Rows.facesBesideRow.pinned == Rows.facesBesideRow.pinnedBy))=true:=by kernel_rfl
theorem aLN:((Rows.facesBesideRow.veiled == (Tryz.f11.params.toList++Rows.facesBesideSpec.plain.varTypes Tryz.prog++Tryz.f11.resultTypes.toList).any (Tryz.prog.veiledRec ·)))=true:=by kernel_rfl
theorem aMw:(Rows.facesBesideRow.veiledFits Tryz.prog Tryz.f11.params.toList (Tryz.f11.params.toList++Rows.facesBesideSpec.plain.varTypes Tryz.prog++Tryz.f11.resultTypes.toList))=true:=by kernel_rfl
end Go.Proofs.YtjahkcbdecgbhaaGreat
end

noncomputable section
namespace Go.Aw
set_option maxRecDepth 100000
set_option maxHeartbeats 2000000
structure WA (h:Heap) (p:Nat) (l:List Pt) (m:List Ed) (n:Int):Prop where
 ok:cF l m n=true
 sm:l.length≤1000∧m.length≤1000
 ex:∃ k0 k1 kd kt kf nm c1 c2,wP h p k0 k1 kd kt kf nm l (aR l m m.length) (outs l m) m.length c1 c2 n (some ((aR l m m.length).length,(aR l m m.length).length)) ∧
  (∃ wr g sz cs,look h k1=some (.cells wr g sz cs)∧cs.take (flat aS.fl m).length=flat aS.fl m)∧(∃ wr g sz cs,look h kf=some (.cells wr g sz cs)∧cs.take (flat aN.fl (cE l m).face).length=flat aN.fl (cE l m).face)
theorem WA.ext {W h:Heap}{p:Nat}{l:List Pt}{m:List Ed}{n:Int}(hw:WA W p l m n)(hx:∀ k o,look W k=some o→look h k=some o):WA h p l m n:=by
 obtain⟨ok,sm,k0,k1,kd,kt,kf,nm,c1,c2,w,⟨w1,g1,s1,x1,a1,b1⟩,w2,g2,s2,x2,a2,b2⟩:=hw;obtain⟨⟨w3,g3,s3,a3⟩,⟨w4,g4,s4,x4,a4,b4⟩,⟨w5,g5,s5,x5,a5,b5⟩,⟨w6,g6,s6,a6⟩,h4⟩:=w;refine⟨ok,sm,k0,k1,kd,kt,kf,nm,c1,c2,⟨⟨_,_,_,hx _ _ a3⟩,⟨_,_,_,_,hx _ _ a4,b4⟩,⟨_,_,_,_,hx _ _ a5,b5⟩,⟨_,_,_,hx _ _ a6⟩,fun i hi h0=>?_⟩,⟨_,_,_,_,hx _ _ a1,b1⟩,_,_,_,_,hx _ _ a2,b2⟩;obtain⟨w7,g7,s7,x7,a7,b7⟩:=h4 i hi h0;exact⟨_,_,_,_,hx _ _ a7,b7⟩
def wH (nx:Nat)(l:List Pt)(m:List Ed)(c1 c2:Nat)(n:Int):Heap:=kQ nx (T7 l m c1 c2 n)
theorem aI9 {l:List Pt}{m:List Ed}{c1 c2:Nat}{n:Int}(hl:l.length≤1000){k:Nat}{o:aX}(hk:look (T7 l m c1 c2 n) k=some o):k<2004 :=
 (K7 hl k o (LR k o hk)).1
theorem aL0 {nx:Nat}{l:List Pt}{m:List Ed}{c1 c2:Nat}{n:Int}(hl:l.length≤1000){k:Nat}{o:aX}(hk:look (wH nx l m c1 c2 n) k=some o):nx≤k∧k<nx+2004:=by
 obtain⟨j,o',e1,e2,_⟩:=iU _ hk;have:=aI9 hl e2;omega
theorem aGl {nx:Nat}{l:List Pt}{m:List Ed}{c1 c2:Nat}{n:Int}(hl:l.length≤1000){k:Nat}(hk:k<nx∨nx+2004≤k):look (wH nx l m c1 c2 n) k=none:=by
 cases h:look (wH nx l m c1 c2 n) k with
 |none=>rfl
 |some o=>exfalso;have:=aL0 hl h;omega
theorem FF {nx:Nat}{l:List Pt}{m:List Ed}{c1 c2:Nat}{n:Int}{j:Nat}{o:aX}(h:look (tX l m) j=some o)(h1:j≠4)(h2:j≠2000):look (wH nx l m c1 c2 n) (nx+(3+j))=some (LY nx (LY 3 o)):=by
 refine fC _ ?_;unfold T7;rw [bC (by omega),bC (by omega)];exact fC _ h
theorem aJK {nx:Nat}{l:List Pt}{m:List Ed}{c1 c2:Nat}{n:Int}(ho:cF l m n=true)(hs:l.length≤1000∧m.length≤1000):WA (wH nx l m c1 c2 n) (nx+7) l m n:=by
 have hfl:∀ {α:Type} (E:El α) (x:List α) (k:Nat),(flat E.fl x).map (bP fun i=>k+i)=flat E.fl x:=fun E x k=>bW (aG E x);have hst:look (wH nx l m c1 c2 n) (nx+7)=some (.cells true false 1 (xO (nx+3) (nx+4) (nx+9) (nx+8) (nx+2003) l.length m.length (aR l m m.length).length (outs l m).length c1 c2 n (some ((aR l m m.length).length,(aR l m m.length).length)))):=by
  refine (fC _ (o:=NF (WJ l m c1 c2 n) (.slice (some ⟨2003,0,none⟩) (aR l m m.length).length (aR l m m.length).length)) rfl).trans ?_;rfl
 refine⟨ho,hs,nx+3,nx+4,nx+9,nx+8,nx+2003,fun i=>nx+(3+(i+1000)),c1,c2,⟨⟨_,_,_,hst⟩,⟨_,_,_,_,FF (j:=0) rfl (by omega) (by omega),?_⟩,⟨_,_,_,_,FF (j:=6) rfl (by omega) (by omega),?_⟩,⟨true,false,1,?_⟩,fun i hi h0=>⟨true,false,1,flat aN.fl (bO (outs l m) i),?_,List.take_length⟩⟩,⟨_,_,_,_,FF (j:=1) rfl (by omega) (by omega),?_⟩,⟨true,false,1,flat aN.fl (cE l m).face,?_,List.take_length⟩⟩
 ·rw [hfl,hfl];exact List.take_length
 ·rw [hfl,hfl];exact List.take_length
 ·rw [FF (j:=5) (o:=.cells true false 1 (tC (outs l m).length (outs l m))) rfl (by omega) (by omega)];show some (aX.cells true false 1 (((tC (outs l m).length (outs l m)).map (bP fun k=>3+k)).map (bP fun k=>nx+k)))=_;unfold tC;rw [List.map_map,List.map_map];congr 2;refine List.map_congr_left fun i hi=>?_;show bP _ (bP _ (tV (tN (outs l m).length i) (bO (outs l m) i)))=_;rw [F9,F9];unfold tN;rw [if_neg (by have:=List.mem_range.1 hi;omega)]
 ·have hil:i<l.length:=(by rw [fF] at hi;exact hi);have:look (tX l m) (i+1000)=some (ob (bO (outs l m) i)):=by
   unfold tX;rw [bC (by omega),bC (by omega),bC (by omega),bC (by omega)];exact lB (by omega) h0 hi
  rw [FF this (by omega) (by omega)];show some (aX.cells true false 1 (((flat aN.fl (bO (outs l m) i)).map (bP fun k=>3+k)).map (bP fun k=>nx+k)))=_;rw [hfl,hfl]
 ·rw [hfl,hfl];exact List.take_length
 ·refine (fC (T7 l m c1 c2 n) (j:=2003) (o:=.cells true false 1 (flat aN.fl (cE l m).face)) rfl).trans ?_;show some (aX.cells true false 1 ((flat aN.fl (cE l m).face).map (bP fun k=>nx+k)))=_;rw [hfl]
def wN (nx:Nat)(l:List Pt)(m:List Ed)(c1 c2:Nat)(n:Int)(T:List Value)(W:Heap):Heap :=
 (nx+7,.cells true false 1 (xO (nx+3) (nx+4) (nx+9) (nx+8) (nx+2003) l.length m.length (aR l m m.length).length (outs l m).length c1 c2 n (some ((aR l m m.length).length,(aR l m m.length).length)))) ::
 (nx+2003,.cells true false 1 (flat aN.fl (cE l m).face))::(nx+9,.cells true false 5 (flat pS.fl (aR l m m.length)))::(nx+8,.cells true false 1 T)::(nx+3,.cells false true aP.sz (flat aP.fl l))::(nx+4,.cells false true aS.sz (flat aS.fl m))::W
def SG (nx:Nat)(l:List Pt)(m:List Ed):List Value:=((tC (outs l m).length (outs l m)).map (bP fun k=>3+k)).map (bP fun k=>nx+k)
def wT (nx:Nat)(l:List Pt)(m:List Ed):Heap:=kQ nx (kQ 3 (tH (outs l m).length (outs l m) (outs l m).length))
theorem QN {nx:Nat}{l:List Pt}{m:List Ed}{c1 c2:Nat}{n:Int}:wH nx l m c1 c2 n=wN nx l m c1 c2 n (SG nx l m) (wT nx l m):=by
 have hfl:∀ {α:Type} (E:El α) (x:List α) (k:Nat),(flat E.fl x).map (bP fun i=>k+i)=flat E.fl x:=fun E x k=>bW (aG E x);unfold wN;rw [show xO (nx+3) (nx+4) (nx+9) (nx+8) (nx+2003) l.length m.length (aR l m m.length).length (outs l m).length c1 c2 n (some ((aR l m m.length).length,(aR l m m.length).length))=(xO 3 4 9 8 2003 l.length m.length (aR l m m.length).length (outs l m).length c1 c2 n (some ((aR l m m.length).length,(aR l m m.length).length))).map (bP fun i=>nx+i) from rfl];have e1:=(hfl aN (cE l m).face nx).symm;have e2:flat pS.fl (aR l m m.length)=((flat pS.fl (aR l m m.length)).map (bP fun i=>3+i)).map (bP fun i=>nx+i):=(by rw [hfl,hfl]);have e3:flat aP.fl l=((flat aP.fl l).map (bP fun i=>3+i)).map (bP fun i=>nx+i):=(by rw [hfl,hfl]);have e4:flat aS.fl m=((flat aS.fl m).map (bP fun i=>3+i)).map (bP fun i=>nx+i):=(by rw [hfl,hfl]);rw [e1,e2,e3,e4];rfl
theorem aKO {nx:Nat}{l:List Pt}{m:List Ed}{c1 c2:Nat}{n:Int}(ho:cF l m n=true)(hs:l.length≤1000∧m.length≤1000):WA (wN nx l m c1 c2 n (SG nx l m) (wT nx l m)) (nx+7) l m n:=QN▸aJK ho hs
theorem aGA {nx:Nat}{l:List Pt}{m:List Ed}{c1 c2:Nat}{n:Int}(hl:l.length≤1000){k:Nat}(hk:k<nx∨nx+2004≤k):look (wN nx l m c1 c2 n (SG nx l m) (wT nx l m)) k=none:=QN▸aGl hl hk
def aIO:Nat × XF:=(69,fun args h nx K=>∃ l m n p q,args=[mapA p q n]∧eO aP h p l∧eO aS h q m∧(l.length≤1000∧m.length≤1000) ∧
 ((cF l m n=true∧K (.tuple #[.pointer (some ⟨nx+7,0,none⟩),iv 0]) (app (eU h) (wN nx l m (gW p) (gW q) n (SG nx l m) (wT nx l m))) (nx+2004))∨(cF l m n=false∧K (.tuple #[.pointer none,iv 1]) h nx)))
theorem KD {ι:Nat→Loc}{B:Nat}{h h':Heap}{nx:Nat}{w:World}(H:aT ι B h nx w)(e:∀ k,look h' k=look h k):aT ι B h' nx w :=
 ⟨fun k o hk=>H.obj k o (by rw [← e];exact hk),fun k k' o o' hk hk'=>H.sep k k' o o' (by rw [← e];exact hk) (by rw [← e];exact hk'),fun k o hk=>H.low k o (by rw [← e];exact hk),H.size,fun k o hk=>H.sc k o (by rw [← e];exact hk)⟩
theorem aMg:cH Go.Proofs.Tryz.prog aIO.1 aIO.2:=by
 refine⟨fun args h nx K hx ι B w H hs=>?_,fun args h nx K hx=>?_⟩
 ·obtain⟨l,m,n,p,q,rfl,hl,hm,hlm,hx⟩:=hx;rw [← QN] at hx;have h0:=aN8.1 [mapA p q n] h nx (fun v h' nx'=>∃ h'',(∀ k,look h'' k=look h' k)∧K v h'' nx') ⟨l,m,n,p,q,rfl,hl,hm,hlm,by
   rcases hx with ⟨ho,hx⟩|⟨ho,hx⟩
   ·refine .inl ⟨ho,_,fun k=>?_,hx⟩;rw [fD,fD,gO];cases e1:look h k with
    |none =>
     show look (wH nx l m (gW p) (gW q) n) k=_;cases e2:look (kQ nx (T7 l m (gW p) (gW q) n)) k with
     |none=>exact e2
     |some o=>exact e2
    |some o =>
     have hlow:=H.low k o e1;have e2:look (kQ nx (T7 l m (gW p) (gW q) n)) k=none:=aGl hlm.1 (.inl hlow);rw [e2];rfl
   ·exact .inr ⟨ho,_,fun k=>rfl,hx⟩⟩ ι B w H hs
  refine⟨h0.1,CallsIn.mono h0.2 fun e w' hr=>?_⟩;cases e with
  |returned u =>
   obtain⟨v,h1,nx1,ι1,⟨h2,e2,hk⟩,a1,a2,a3,a4,a5,a6⟩:=hr;exact⟨v,h2,nx1,ι1,hk,a1,KD a2 e2,a3,a4,a5,a6⟩
  |_=>exact hr.elim
 ·obtain⟨l,m,n,p,q,rfl,hl,hm,hlm,hx⟩:=hx;rcases hx with ⟨ho,hx⟩|⟨ho,hx⟩
  ·exact⟨_,_,_,hx,fun K' hk=>⟨l,m,n,p,q,rfl,hl,hm,hlm,.inl ⟨ho,hk⟩⟩⟩
  ·exact⟨_,_,_,hx,fun K' hk=>⟨l,m,n,p,q,rfl,hl,hm,hlm,.inr ⟨ho,hk⟩⟩⟩
def foM (l:List Pt)(m:List Ed):Option (Nat × Nat):=some ((aR l m m.length).length,(aR l m m.length).length)
def KA (l:List Pt)(m:List Ed)(n:Int)(c1 c2:Nat)(s:Nat):Heap :=
 (5,.cells false true aS.sz (flat aS.fl m))::(6,.cells false true 1 (flat aN.fl (cE l m).face))::fZ l (aR l m m.length) (outs l m) m.length c1 c2 n (foM l m) s
theorem aAu {h:Heap}{p:Nat}{l:List Pt}{m:List Ed}{n:Int}(hw:WA h p l m n)(k3 s:Nat):∃ c1 c2,∃ ρ:Nat→Nat,ρ 0=p∧ρ 3=k3 ∧
  ∀ k o,look (KA l m n c1 c2 s) k=some o→k<2000∧∃ g sz cs0,o=.cells false g sz cs0∧sz≠0∧(g=true→dG cs0=true)∧(∀ v∈cs0,B3 2000 v)∧∃ wr g' sz' cs,look h (ρ k)=some (.cells wr g' sz' cs)∧cs.take cs0.length=cs0.map (bP ρ):=by
 obtain⟨ok,sm,k0,k1,kd,kt,kf,nm,c1,c2,w,⟨w1,g1,s1,x1,a1,b1⟩,w2,g2,s2,x2,a2,b2⟩:=hw;refine⟨c1,c2,rhW p k0 k1 kd kt kf k3 nm s,rfl,rfl,fun k o hk=>?_⟩;unfold KA at hk;rw [aE] at hk;split at hk
 ·rename_i hb;injection hk with hk;subst hk;have:=beq_true hb;subst this;exact⟨by omega,true,aS.sz,_,rfl,by decide,fun _=>aG aS m,fun v hv=>cL (aW (aG aS m) hv),w1,g1,s1,x1,a1,by rw [b1];exact (bW (aG aS m)).symm⟩
 ·rw [aE] at hk;split at hk
  ·rename_i hb;injection hk with hk;subst hk;have:=beq_true hb;subst this;exact⟨by omega,true,1,_,rfl,by omega,fun _=>aG aN _,fun v hv=>cL (aW (aG aN _) hv),w2,g2,s2,x2,a2,by rw [b2];exact (bW (aG aN _)).symm⟩
  ·exact LJ w (by rw [fF];exact sm.1) s k o hk
theorem aJ7 {h:Heap}{p k3:Nat}{l:List Pt}{m:List Ed}{n:Int}(hw:WA h p l m n)(s:Nat){L:List Int}{c:Nat}(hL:∃ wr g sz cs,look h k3=some (.cells wr g sz cs)∧cs.take (flat aN.fl L).length=flat aN.fl L){nx:Nat} :
  ∃ c1 c2,In [.pointer (some ⟨0,0,none⟩),.slice (some ⟨3,0,none⟩) L.length c] ((3,.cells false true 1 (flat aN.fl L))::KA l m n c1 c2 s) 2000 [.pointer (some ⟨p,0,none⟩),.slice (some ⟨k3,0,none⟩) L.length c] h nx:=by
 obtain⟨c1,c2,ρ,e0,e3,ho⟩:=aAu hw k3 s;refine⟨c1,c2,xK ρ ?_ ?_ fun k o hk=>?_⟩
 ·show _=[Value.pointer (some ⟨ρ 0,0+0,none⟩),.slice (some ⟨ρ 3,0+0,none⟩) L.length c];rw [e0,e3]
 ·exact List.forall_mem_cons.2 ⟨⟨Nat.le_of_ble_eq_true rfl,rfl⟩,List.forall_mem_cons.2 ⟨⟨Nat.le_of_ble_eq_true rfl,fun h=>by cases h⟩,fun _ h=>(by cases h)⟩⟩
 ·rw [aE] at hk;split at hk
  ·rename_i hb;injection hk with hk;subst hk;have:=beq_true hb;subst this;obtain⟨wr,g,sz,cs,h1,h2⟩:=hL;exact⟨by omega,true,1,_,rfl,by omega,fun _=>aG aN L,fun v hv=>cL (aW (aG aN L) hv),wr,g,sz,cs,by rw [e3];exact h1,by rw [h2];exact (bW (aG aN L)).symm⟩
  ·exact ho k o hk
def wcX (s:List Pt→List Ed→Int→List Value→Option (Bool × Value)):XF:=fun args h nx K =>
 ∃ p r l m n,args=.pointer (some ⟨p,0,none⟩)::r∧WA h p l m n∧(match s l m n r with|some pr=>dJ pr.1 (K pr.2 h nx)|none=>False)
def aKP (s:List Pt→List Ed→Int→List Int→Option (Bool × Value)):XF:=fun args h nx K =>
 ∃ p k3 l m n L c,args=[.pointer (some ⟨p,0,none⟩),.slice (some ⟨k3,0,none⟩) L.length c]∧WA h p l m n∧(∃ wr g sz cs,look h k3=some (.cells wr g sz cs)∧cs.take (flat aN.fl L).length=flat aN.fl L)∧(match s l m n L with|some pr=>dJ pr.1 (K pr.2 h nx)|none=>False)
theorem aEg {P:Program}{C:VC}{f:Nat}{s:List Pt→List Ed→Int→List Int→Option (Bool × Value)}(hC:bH P C)
  (hs:∀ l m n L v,s l m n L=some (true,v)→cF l m n=true→l.length≤1000∧m.length≤1000→gT v=true∧∃ s0,∀ c1 c2 c,C f [.pointer (some ⟨0,0,none⟩),.slice (some ⟨3,0,none⟩) L.length c] ((3,.cells false true 1 (flat aN.fl L))::KA l m n c1 c2 s0) 2000 (fun u _ _=>u=v)):cH P f (aKP s):=by
 refine (gC (S:=fun args0 h0 n0 v1 h1 k=>gT v1=true∧C f args0 h0 n0 (fun u _ _=>u=v1)∧h1=[]∧k=0) hC ?_).mono ?_ ?_
 ·rintro args0 h0 n0 v1 h1 k ⟨e2,e3,rfl,rfl⟩;exact⟨rfl,_,e3,fun v h nx e=>by rw [e];exact kD e2⟩
 ·rintro args h nx K ⟨p,k3,l,m,n,L,c,rfl,hw,hL,hx⟩;split at hx
  case h_2=>exact hx.elim
  rename_i pr e1;obtain⟨bb,u⟩:=pr;obtain⟨rfl,hx⟩:=aH.1 hx;obtain⟨a2,s0,a4⟩:=hs l m n L u e1 hw.ok hw.sm;obtain⟨c1,c2,i⟩:=aJ7 hw s0 hL (c:=c) (nx:=nx);refine⟨_,_,2000,u,[],0,⟨a2,a4 c1 c2 c,rfl,rfl⟩,i,?_⟩;simp only [mY,lD,kQ,j7,mA a2,Nat.add_zero];exact hx
 ·rintro args h nx K ⟨p,k3,l,m,n,L,c,rfl,hw,hL,hx⟩;split at hx
  case h_2=>exact hx.elim
  rename_i pr e1;obtain⟨hb,hx⟩:=aH.1 hx;exact⟨pr.2,h,nx,hx,fun K' hk=>⟨p,k3,l,m,n,L,c,rfl,hw,hL,by rw [e1];exact aJ hb hk⟩⟩
def aCH (nx:Nat):Heap→Bool
 |[]=>true
 |(k,_)::r=>Nat.blt k nx&&aCH nx r
theorem BM {nx:Nat}:∀ {H:Heap},aCH nx H=true→∀ k o,look H k=some o→k<nx
 |[],_,k,o,h=>by cases h
 |(j,q)::r,hl,k,o,h=>by
  simp only [aCH,Bool.and_eq_true] at hl;rw [aE] at h;split at h
  ·rename_i hb;rw [← beq_true hb];exact Nat.le_of_ble_eq_true hl.1
  ·exact BM hl.2 k o h
theorem aAq {H W:Heap}{p nx:Nat}{l:List Pt}{m:List Ed}{n:Int}(hw:WA W p l m n)(hno:∀ k,k<nx→look W k=none)(hH:aCH nx H=true):WA (app H W) p l m n :=
 hw.ext fun k o hk=>by
  rw [fD];cases hh:look H k with
  |none=>exact hk
  |some o'=>rw [hno k (BM hH k o' hh)] at hk;cases hk
theorem aAW {h:Heap}{p q:Nat}{v:aX}{l:List Pt}{m:List Ed}{n:Int}(hw:WA h p l m n)(hq:look h q=none):WA (bQ h q v) p l m n:=hw.ext (ext_cons (fun _ _ h=>h) hq)
theorem V3 {H W:Heap}{nx k:Nat}(hH:aCH nx H=true)(hk:nx≤k)(hW:look W k=none):look (app H W) k=none:=by
 rw [fD];cases hh:look H k with
 |none=>exact hW
 |some o'=>have:=BM hH k o' hh;omega
def S6 (xl:List (Nat × XF))(k:Nat):C0:={ aA with X:=look xl,M:=k }
theorem zL {xl:List (Nat × XF)}(h:nZ xl)(k:Nat):o7 Go.Proofs.Tryz.prog (S6 xl k) where
 ar:=fI.ar
 tab:=fI.tab
 mixed:=fI.mixed
 funcs:=fI.funcs
 xs:=h.look
def pT (n a:Int):Bool:=decide (0≤a)&&decide (a≤n)
def OW (l:List Pt)(m:List Ed)(n:Int):List Int→Option (Bool × Value)
 |[a]=>some (true,.bool (pT n a))
 |[a,b]=>some (true,.bool (pT n a&&pT n b))
 |_=>none
def aH8:Nat × XF:=(82,aKP OW)
theorem aMG:cH Go.Proofs.Tryz.prog aH8.1 aH8.2:=aEg (f:=82) (s:=OW) (j3 (zL (xl:=[]) .nil 4) 6).1 fun l m n L v hs ho hm=>by
 have:(∃ a,L=[a]∧v=.bool (pT n a))∨(∃ a b,L=[a,b]∧v=.bool (pT n a&&pT n b)):=by
  unfold OW at hs;split at hs
  ·injection hs with hs;injection hs with h1 h2;exact .inl ⟨_,rfl,h2.symm⟩
  ·injection hs with hs;injection hs with h1 h2;exact .inr ⟨_,_,rfl,h2.symm⟩
  ·cases hs
 clear hs;rcases this with ⟨a,rfl,rfl⟩|⟨a,b,rfl,rfl⟩
 ·refine⟨rfl,0,fun c1 c2 c=>?_⟩;unfold pT;unfold KA fZ xO
  repeat' (((conv=>whnf);refine bm (fun g=>?_) (fun g=>?_)))
  all_goals (conv=>whnf)
  all_goals (show Value.bool _=Value.bool _;congr 1;simp [S6,aA,aB] at *;try omega)
 ·refine⟨rfl,0,fun c1 c2 c=>?_⟩;unfold pT;unfold KA fZ xO
  repeat' (((conv=>whnf);refine bm (fun g=>?_) (fun g=>?_)))
  all_goals (conv=>whnf)
  all_goals (show Value.bool _=Value.bool _;congr 1;simp [S6,aA,aB] at *;try omega)
theorem aCv (l:List Pt)(m:List Ed):(cE l m).face.length=(aR l m m.length).length:=(nK l (aR l m m.length) (outs l m) (aR l m m.length).length).1
theorem lL {l:List Pt}{m:List Ed}{n:Int}(h:cF l m n=true):cX l m n=true:=by
 simp only [cF,gG,Bool.and_eq_true] at h;exact h.1.1
def aGf (l:List Pt)(m:List Ed)(n d:Int):Bool:=cF l m n&&(decide (0≤d)&&decide (d<2*m.length))
def nxP (l:List Pt)(m:List Ed)(n:Int):List Value→Option (Bool × Value)
 |[.int .i64 d]=>some (decide (l.length≤1000)&&decide (m.length≤1000),.tuple #[iv (if aGf l m n d=true then yB (aR l m m.length) (outs l m) d else 0),iv (if aGf l m n d=true then 0 else 1)])
 |_=>none
def aMm:Nat × XF:=(22,mX aP aS nxP)
end Go.Aw
end

noncomputable section
namespace Go.Aw
set_option maxRecDepth 100000
section
variable {l:List Pt}{m:List Ed}{n:Int}
structure Hs (l:List Pt) (m:List Ed) (t:NB):Prop where
 seen:t.seen.length=2*m.length
 face:t.face.length=2*m.length
 cl:∀ i:Nat,i<2*m.length→cG t.seen i=true→cG t.seen (yB (aR l m m.length) (outs l m) i).toNat=true
 has:∀ f:Int,(1≤f∧f≤t.many)∨(f=0∧1≤t.out)→∃ i,i<2*m.length∧cG t.seen i=true∧aK t.face i=f
 low:0≤t.many
theorem MD {D:List Dt}{ls:List (List Int)}{d:Int}{t:Nat}(h:t<kB D ls d):aK (qT D ls d) t=kP D ls d t:=by
 unfold qT aK;rw [List.getD_eq_getElem?_getD,List.getElem?_map,List.getElem?_range h];rfl
theorem xB {D:List Dt}{ls:List (List Int)}{d:Int}:(qT D ls d).length=kB D ls d:=by simp [qT]
theorem aDZ (hok:cX l m n=true){t:NB}(h:Hs l m t){d:Nat}(hd:d<2*m.length):Hs l m (kG l (aR l m m.length) (outs l m) t d):=by
 unfold kG;cases hs:cG t.seen d with
 |true=>rw [if_pos rfl];exact h
 |false =>
  rw [if_neg (by decide)];simp only;have hin:=tL hok (d:=(d:Int)) (by omega) (by omega);have hT:kP (aR l m m.length) (outs l m) d (kB (aR l m m.length) (outs l m) d)=d:=by
   have hw:=List.all_eq_true.1 (xX hok) d (List.mem_range.2 (by rw [bI];exact hd));exact of_decide_eq_true hw
  have hT1:1≤kB (aR l m m.length) (outs l m) d:=by
   have:=(kZ (aR l m m.length) (outs l m) d (aR l m m.length).length 1).1;unfold kB;omega
  have hget:∀ k,k<kB (aR l m m.length) (outs l m) d→aK (qT (aR l m m.length) (outs l m) d) k=kP (aR l m m.length) (outs l m) d k:=fun k hk=>MD hk;have hlen:(qT (aR l m m.length) (outs l m) d).length=kB (aR l m m.length) (outs l m) d:=xB;generalize qT (aR l m m.length) (outs l m) d=W at hget hlen ⊢;generalize kB (aR l m m.length) (outs l m) d=T at *;have hr:∀ k,k<W.length→(aK W k).toNat<2*m.length:=fun k hk=>by
   rw [hget k (by omega)];have:=hin k;omega
  -- what was seen lies in no walk of what was not
  have hdis:∀ k,k<W.length→cG t.seen (aK W k).toNat=true→False:=fun k hk hsk=>by
   rw [hget k (by omega)] at hsk;have hf:∀ j,cG t.seen (kP (aR l m m.length) (outs l m) d (k+j)).toNat=true:=by
    intro j
    induction j with
    |zero=>exact hsk
    |succ j ih =>
     have hi:=hin (k+j);have:=h.cl (kP (aR l m m.length) (outs l m) d (k+j)).toNat (by omega) ih;rw [Int.toNat_of_nonneg hi.1] at this;exact this
   have:=hf (T - k);rw [show k+(T - k)=T by omega,hT,Int.toNat_natCast,hs] at this;cases this
  generalize HR l (aR l m m.length) W W.length=A;have hsee:∀ i,(∃ k,k<W.length∧(aK W k).toNat=i)→cG (fS t.seen W W.length) i=true:=fun i hi=>(o6 t.seen W (by rw [h.seen];exact hr) i _ (Nat.le_refl _)).1 hi;have hkeep:∀ i,cG t.seen i=true→cG (fS t.seen W W.length) i=true:=fun i hi=>by
   by_cases e:∃ k,k<W.length∧(aK W k).toNat=i
   ·exact hsee i e
   ·rw [(o6 t.seen W (by rw [h.seen];exact hr) i _ (Nat.le_refl _)).2 e];exact hi
  have hold:∀ (fc f:Int),(∃ i,i<2*m.length∧cG t.seen i=true∧aK t.face i=f)→∃ i,i<2*m.length∧cG (fS t.seen W W.length) i=true∧aK (dN t.face W fc W.length) i=f:=fun fc f ⟨i,a1,a2,a3⟩=>by
   refine⟨i,a1,hkeep i a2,?_⟩;rw [(oP t.face W fc (by rw [h.face];exact hr) i _ (Nat.le_refl _)).2 fun ⟨k,b1,b2⟩=>hdis k b1 (by rw [b2];exact a2)];exact a3
  have hd0:∃ k,k<W.length∧(aK W k).toNat=d:=⟨0,by omega,by rw [hget 0 (by omega)];rfl⟩;have hnew:∀ fc:Int,∃ i,i<2*m.length∧cG (fS t.seen W W.length) i=true∧aK (dN t.face W fc W.length) i=fc:=fun fc =>
   ⟨d,hd,hsee d hd0,(oP t.face W fc (by rw [h.face];exact hr) d _ (Nat.le_refl _)).1 hd0⟩
  refine⟨by rw [lA];exact h.seen,by rw [fE];exact h.face,fun i hi hsi=>?_,fun f hf=>?_,?_⟩
  ·by_cases e:∃ k,k<W.length∧(aK W k).toNat=i
   ·obtain⟨k,b1,b2⟩:=e;have hk:=hin k;rw [hget k (by omega)] at b2;have e2:(i:Int)=kP (aR l m m.length) (outs l m) d k:=(by omega);rw [e2];show cG (fS t.seen W W.length) (kP (aR l m m.length) (outs l m) d (k+1)).toNat=true;by_cases hl:k+1=T
    ·rw [hl,hT,Int.toNat_natCast];exact hsee d hd0
    ·exact hsee _ ⟨k+1,by omega,by rw [hget (k+1) (by omega)]⟩
   ·have:=hsi;rw [(o6 t.seen W (by rw [h.seen];exact hr) i _ (Nat.le_refl _)).2 e] at this;exact hkeep _ (h.cl i hi this)
  ·have hlow:=h.low;by_cases hA:0<A
   ·simp only [if_pos hA] at hf ⊢;rcases hf with ⟨f1,f2⟩|f2
    ·by_cases e:f=t.many+1
     ·rw [e];exact hnew _
     ·exact hold _ f (h.has f (.inl ⟨f1,by omega⟩))
    ·exact hold _ f (h.has f (.inr f2))
   ·simp only [if_neg hA] at hf ⊢;rcases hf with f2|⟨f1,f2⟩
    ·exact hold _ f (h.has f (.inl f2))
    ·rw [f1];exact hnew 0
  ·have:=h.low;show 0≤if 0<A then t.many+1 else t.many
   split <;> omega
theorem TX (hok:cX l m n=true):∀ d,d≤2*m.length→Hs l m (cC l (aR l m m.length) (outs l m) d)
 |0,_=>by
  refine⟨by simp [cC,bI],by simp [cC,bI],fun i hi h=>?_,fun f hf=>?_,Int.le_refl 0⟩
  ·unfold cC cG at h;rw [List.getD_eq_getElem?_getD,List.getElem?_replicate,bI,if_pos hi] at h;cases h
  ·have hf:(1≤f∧f≤0)∨(f=0∧(1:Int)≤0):=hf;omega
 |d+1,h=>aDZ hok (TX hok d (by omega)) (by omega)
theorem QZ (x:Int):∀ (L:List Int) (i:Nat),(∃ k,k<L.length∧aK L k=x)→∃ k,k<L.length∧aK L k=x∧(∀ j,j<k→aK L j≠x)∧rS x L i=((i+k:Nat):Int)
 |[],i,⟨k,h,_⟩=>by cases h
 |b::r,i,⟨k,h1,h2⟩=>by
  unfold rS;by_cases e:x=b
  ·rw [if_pos e];exact⟨0,Nat.succ_pos _,e.symm,fun j hj=>absurd hj (Nat.not_lt_zero j),rfl⟩
  ·rw [if_neg e];cases k with
   |zero=>exact absurd h2.symm e
   |succ k =>
    obtain⟨q,a1,a2,a3,a4⟩:=QZ x r (i+1) ⟨k,by simpa using h1,h2⟩;refine⟨q+1,by simpa using a1,a2,fun j hj=>?_,by rw [a4];congr 1;omega⟩;cases j with
    |zero=>exact fun hb=>e hb.symm
    |succ j=>exact a3 j (by omega)
theorem FQ (ho:cF l m n=true){f:Int}(h0:0≤f)(h1:f≤n):∃ k,k<2*m.length∧aK (cE l m).face k=f∧(∀ j,j<k→aK (cE l m).face j≠f)∧rS f (cE l m).face 0=(k:Int):=by
 have ho':=ho;simp only [cF,gG,Bool.and_eq_true,decide_eq_true_eq] at ho';obtain⟨⟨hok,_⟩,_,hn,hmn,_⟩:=ho';have hs:=TX hok (2*m.length) (Nat.le_refl _);have e:cC l (aR l m m.length) (outs l m) (2*m.length)=cE l m:=(by unfold cE nmD;rw [bI]);rw [e] at hs;simp only [y0,Bool.and_eq_true,decide_eq_true_eq] at hn;obtain⟨i,a1,a2,a3⟩:=hs.has f (by
  by_cases e0:f=0
  ·exact .inr ⟨e0,by omega⟩
  ·exact .inl ⟨by omega,by omega⟩)
 obtain⟨k,b1,b2,b3,b4⟩:=QZ f (cE l m).face 0 ⟨i,by rw [hs.face];exact a1,a3⟩;exact⟨k,by rw [hs.face] at b1;exact b1,b2,b3,by rw [b4,Nat.zero_add]⟩
end
end Go.Aw
end

noncomputable section
namespace Go.Aw
set_option maxRecDepth 100000
set_option maxHeartbeats 2000000
def vS (l:List Pt)(m:List Ed)(f:Int):List Int:=qT (aR l m m.length) (outs l m) (rS f (cE l m).face 0)
def j5 (l:List Pt)(m:List Ed)(n f:Int):Bool:=cF l m n&&(decide (0≤f)&&decide (f≤n))
def a2P (l:List Pt)(m:List Ed)(n:Int):List Value→Option (Bool × Value)
 |[.int .i64 f]=>some (decide (l.length≤1000)&&decide (m.length≤1000),.tuple #[iv (if j5 l m n f=true then HR l (aR l m m.length) (vS l m f) (vS l m f).length else 0),iv (if j5 l m n f=true then 0 else 1)])
 |_=>none
theorem aKV {l:List Pt}{m:List Ed}{n f:Int}(ho:cF l m n=true)(h0:0≤f)(h1:f≤n):∃ d:Int,rS f (cE l m).face 0=d∧0≤d∧d<2*m.length∧vW l (aR l m m.length) (outs l m)=true∧kP (aR l m m.length) (outs l m) d (kB (aR l m m.length) (outs l m) d)=d∧fH (aR l m m.length) (qT (aR l m m.length) (outs l m) d)=true∧1≤(qT (aR l m m.length) (outs l m) d).length∧(qT (aR l m m.length) (outs l m) d).length≤2*m.length+1:=by
 obtain⟨k,b1,b2,b3,b4⟩:=FQ ho h0 h1;have hok:=lL ho;have hw:=List.all_eq_true.1 (xX hok) k (List.mem_range.2 (by rw [bI];exact b1));have w:=RL (l:=l) (HP hok) (d:=k) (by rw [bI];exact b1);have p:=kZ (aR l m m.length) (outs l m) k (aR l m m.length).length 1;refine⟨k,b4,by omega,by omega,HP hok,of_decide_eq_true hw,w.1,?_,?_⟩
 ·exact w.2.2
 ·have:=w.2.1;rw [bI] at this;exact this
def aMk:Nat × XF:=(26,mX aP aS a2P)
def mRX (s:List Pt→List Ed→Int→List Value→Option (Bool × List Int × Option Int)):XF:=fun args h nx K=>∃ p q n r l m,args=mapA p q n::r∧eO aP h p l∧eO aS h q m ∧
 (match s l m n r with|some pr=>dJ pr.1 (KW aN pr.2.1 pr.2.2 h nx K)|none=>False)
theorem BH {P:Program}{C:VC}{f:Nat}{s:List Pt→List Ed→Int→List Value→Option (Bool × List Int × Option Int)}(hC:bH P C)
  (hs:∀ l m n r out e,s l m n r=some (true,out,e)→dW r=true∧∀ c1 c2,C f (aF l.length m.length c1 c2 n::r) (aD aP aS l m) 2 (Yields aN out e)):cH P f (mRX s):=by
 refine (TI aN (T:=fun args0 h0 n0 out e=>C f args0 h0 n0 (Yields aN out e)) hC ?_).mono ?_ ?_
 ·rintro args0 h0 n0 out e hc;exact hc
 ·rintro args h nx K ⟨p,q,n,r,l,m,rfl,hl,hm,hx⟩;split at hx
  case h_2=>exact hx.elim
  rename_i pr e1;obtain⟨bb,out,e⟩:=pr;obtain⟨rfl,hx⟩:=aH.1 hx;obtain⟨a1,a3⟩:=hs l m n r out e e1;obtain⟨c1,c2,i⟩:=KN (n:=n) (nx:=nx) aP aS a1 hl hm;exact ML aN (a3 c1 c2) i hx
 ·rintro args h nx K ⟨p,q,n,r,l,m,rfl,hl,hm,hx⟩;split at hx
  case h_2=>exact hx.elim
  rename_i pr e1;obtain⟨bb,out,e⟩:=pr;obtain⟨hb,hx⟩:=aH.1 hx;cases out with
  |nil=>exact⟨_,_,_,hx,fun K' hk'=>⟨p,q,n,r,l,m,rfl,hl,hm,by rw [e1];exact aJ hb hk'⟩⟩
  |cons a t=>exact⟨_,_,_,hx,fun K' hk'=>⟨p,q,n,r,l,m,rfl,hl,hm,by rw [e1];exact aJ hb hk'⟩⟩
theorem aIj {nx:Nat}{l:List Pt}{m:List Ed}{c1 c2:Nat}{n:Int}(hl:l.length≤1000):xC (wN nx l m c1 c2 n (SG nx l m) (wT nx l m)) (nx+2004):=by
 rw [← QN];exact T5 (n:=nx) (W:=T7 l m c1 c2 n) (b:=2004) (fun k o hk=>K7 hl k o (LR k o hk)) (A4 3 rV)
theorem FG {v:Value}{H' h:Heap}{b n0 nx:Nat}(hv:iQ id v=v)(hn:BB n0 v)(hh:∀ k o,look H' k=some o→look h k=some o)(hok:xC H' n0)(hb:b≤n0):∃ ρ,qH b ρ [(0,v)] H' n0 [(0,v)] h nx:=by
 refine⟨id,fun t u hu=>?_,fun k o hk=>⟨(hok k o hk).1,o,hh k o hk,(hok k o hk).2⟩,fun _ _ _ _ _ _ e=>e,fun _ _=>rfl,hb⟩;have hm:=bA hu;simp only [List.mem_cons,List.not_mem_nil,or_false] at hm;injection hm with e1 e2;subst e1 e2;rw [hv];exact⟨rfl,hn⟩
def frL (D:List Dt)(L:List Int):Nat→List Int
 |0=>L
 |i+1=>(frL D L i).set i (bY D (aK L i).toNat).fr
theorem VQ (D:List Dt)(L:List Int):∀ i,(frL D L i).length=L.length
 |0=>rfl
 |i+1=>by unfold frL;rw [List.length_set];exact VQ D L i
def wlI (l:List Pt)(m:List Ed)(f:Int):List Int:=frL (aR l m m.length) (vS l m f) (vS l m f).length
def wlP (l:List Pt)(m:List Ed)(n:Int):List Value→Option (Bool × List Int × Option Int)
 |[.int .i64 f]=>some (decide (l.length≤1000)&&decide (m.length≤1000),if j5 l m n f=true then wlI l m f else [],some (if j5 l m n f=true then 0 else 1))
 |_=>none
def aLV:Nat × XF:=(24,mRX wlP)
def voS (l:List Pt)(m:List Ed)(n:Int):List Value→Option (Bool × Value)
 |[]=>some (decide (l.length≤1000)&&decide (m.length≤1000),.bool (cF l m n))
 |_=>none
def aDF:Nat × XF:=(70,mX aP aS voS)
theorem aKp:cH Go.Proofs.Tryz.prog aDF.1 aDF.2:=by
 have e:voS=vaS:=by
  funext l m n r;cases r with
  |nil=>show some (_,Value.bool (cF l m n))=some (_,Value.bool (IJ l m n));rw [aCV]
  |cons a r=>rfl
 show cH _ 70 (mX aP aS voS);rw [e];exact aN1
def X85:Nat × XF:=(85,mX aP aS (sMD fun l m n f=>(true,.bool (pT n f))))
theorem x85:cH Go.Proofs.Tryz.prog X85.1 X85.2:=rY aP aS (aL (xl:=[]) .nil) fun l m n r v hs=>by
 obtain⟨f,rfl,_,rfl⟩:=uV hs;refine⟨rfl,rfl,fun c1 c2=>?_⟩;unfold pT;((conv=>whnf);refine bm (fun h1=>?_) (fun h1=>?_))
 ·have h1:decide (0≤f)=true:=by
   have h1:(decide (0≤f) == true)=true:=h1;simpa using h1
  (conv=>whnf);rw [h1,Bool.true_and];rfl
 ·have h1:decide (0≤f)=false:=by
   have h1:(decide (0≤f) == true)=false:=h1;simpa using h1
  (conv=>whnf);rw [h1,Bool.false_and]
def fcI (m:List Ed)(d:Int):Int:=if d % 2=0 then (cO m (d / 2).toNat).l else (cO m (d / 2).toNat).r
def aIc:Nat × XF:=(143,mX aP aS (sMD fun l m n d=>(mE m d,iv (fcI m d))))
theorem aMK:cH Go.Proofs.Tryz.prog aIc.1 aIc.2:=rY aP aS (aL (xl:=[]) .nil) fun l m n r v hs=>by
 obtain⟨d,rfl,hd,rfl⟩:=uV hs;simp only [mE,Bool.and_eq_true,decide_eq_true_eq] at hd;have q1:d.tdiv 2=d / 2:=Int.tdiv_eq_ediv_of_nonneg hd.1.1;have q2:d.tmod 2=d % 2:=Int.tmod_eq_emod_of_nonneg hd.1.1;refine⟨rfl,rfl,fun c1 c2=>?_⟩;((conv=>whnf);refine bm (fun h4=>?_) (fun h4=>?_))
 ·have h4:decide (d.tmod 2=0)=true:=h4;simp only [q2,decide_eq_true_eq] at h4;((conv=>whnf);refine bm (fun h1=>?_) (fun h1=>?_))
  ·((conv=>whnf);refine bm (fun h2=>?_) (fun h2=>?_))
   ·(conv=>whnf);refine gI (IV m 2 (i:=(d / 2).toNat) (by omega) rfl (by decide) ?_) ?_
    ·show _+Int.toNat (d.tdiv 2)*5+2=_;rw [q1];omega
    (conv=>whnf);simp only [fcI,if_pos h4]
   ·exfalso;simp only [aA,aB,q1] at h2;simp at h2;omega
  ·exfalso;simp only [aA,aB,q1,aI] at h1;simp at h1;omega
 ·have h4:decide (d.tmod 2=0)=false:=h4;simp only [q2,decide_eq_false_iff_not] at h4;((conv=>whnf);refine bm (fun h1=>?_) (fun h1=>?_))
  ·((conv=>whnf);refine bm (fun h2=>?_) (fun h2=>?_))
   ·(conv=>whnf);refine gI (IV m 3 (i:=(d / 2).toNat) (by omega) rfl (by decide) ?_) ?_
    ·show _+Int.toNat (d.tdiv 2)*5+3=_;rw [q1];omega
    (conv=>whnf);simp only [fcI,if_neg h4]
   ·exfalso;simp only [aA,aB,q1] at h2;simp at h2;omega
  ·exfalso;simp only [aA,aB,q1,aI] at h1;simp at h1;omega
theorem aEl {l:List Pt}{m:List Ed}{n:Int}(ho:cF l m n=true){k:Nat}(hk:k<2*m.length):fcI m k=aK (cE l m).face k:=by
 simp only [cF,gG,Bool.and_eq_true,decide_eq_true_eq] at ho;have h:=fG ho.2.2.2.2 (i:=k / 2) (by omega);simp only [DA,Bool.and_eq_true,decide_eq_true_eq] at h;unfold fcI;by_cases e:(k:Int) % 2=0
 ·rw [if_pos e,show ((k:Int) / 2).toNat=k / 2 by omega,h.1,show 2*(k / 2)=k by omega]
 ·rw [if_neg e,show ((k:Int) / 2).toNat=k / 2 by omega,h.2,show 2*(k / 2)+1=k by omega]
theorem S9 {PL PL':Nat→Option eZ}(h:∀ r,PL' r=none∨PL' r=PL r)(b:Code):cN PL b=true→cN PL' b=true:=by
 induction b with
 |region id ops draw =>
  intro hp;cases draw with
  |false=>rfl
  |true =>
   unfold cN at hp ⊢;rcases h id with e|e
   ·rw [e]
   ·rw [e];exact hp
 |seq a b iha ihb =>
  intro hp;simp only [cN,Bool.and_eq_true] at hp ⊢;exact⟨iha hp.1,ihb hp.2⟩
 |cond c a b iha ihb =>
  intro hp;simp only [cN,Bool.and_eq_true] at hp ⊢;exact⟨iha hp.1,ihb hp.2⟩
 |block id b ih=>intro hp;simp only [cN] at hp ⊢;exact ih hp
 |loop b ih=>intro hp;simp only [cN] at hp ⊢;exact ih hp
 |scope b ih=>intro hp;simp only [cN] at hp ⊢;exact ih hp
 |_=>intro _;rfl
def WD (f r:Nat):Bool:=(Nat.beq f 86&&Nat.beq r 5) || (Nat.beq f 23&&Nat.beq r 4) || (Nat.beq f 27&&Nat.beq r 4)
def RX:C0:={ aA with PL:=fun f r=>match WD f r with|true=>none|false=>aA.PL f r }
theorem aFu:o7 Go.Proofs.Tryz.prog RX where
 ar:=fI.ar
 tab:=fI.tab
 mixed:=fI.mixed
 funcs:=fun f fn h=>by
  obtain⟨a,b,c⟩:=fI.funcs f fn h;refine⟨a,b,fun bd hb=>S9 (PL:=aA.PL f) (fun r=>?_) bd (c bd hb)⟩;show (match WD f r with|true=>none|false=>aA.PL f r)=none∨(match WD f r with|true=>none|false=>aA.PL f r)=aA.PL f r;cases WD f r
  ·exact .inr rfl
  ·exact .inl rfl
 xs:=fI.xs
def aL5 (xl:List (Nat × XF)):VC:=sE RX none (CX (look xl)) noY
theorem P0 {xl:List (Nat × XF)}(h:nZ xl):bH Go.Proofs.Tryz.prog (aL5 xl):=uK aFu (WC h.look) M7 (HA h.look) yW none
def wkR (l:List Pt)(m:List Ed)(n:Int):List Value→YS Int
 |[.int .i64 f]=>some (cF l m n&&pT n f,vS l m f,[])
 |_=>none
def e86 (f j:Int):List (Nat × Value):=[(1,iv f),(2,.pointer (some ⟨2,0,none⟩)),(5,iv j)]
def aGS:Nat × XF:=(86,mYX aP aS aN wkR)
theorem aLG:cH Go.Proofs.Tryz.prog aGS.1 aGS.2:=SY aP aS aN (P0 (xl:=[aDI,VT,aIc]) (.cons aK0 (.cons aG6 (.cons aMK .nil)))) fun l m n r out rest hs=>by
 have:∃ f,r=[iv f]∧cF l m n=true∧pT n f=true∧out=vS l m f∧rest=[]:=by
  unfold wkR at hs;split at hs
  ·injection hs with hs;injection hs with h1 h2;injection h2 with h2 h3;simp only [Bool.and_eq_true] at h1;exact⟨_,rfl,h1.1,h1.2,h2.symm,h3.symm⟩
  ·cases hs
 obtain⟨f,rfl,ho,hb,rfl,rfl⟩:=this;clear hs;have hb2:=hb;simp only [pT,Bool.and_eq_true,decide_eq_true_eq] at hb2;have hlst:=lL ho;obtain⟨hM,h3,h1l,h400,m400,_,_⟩:=iI hlst;have hp:gG l m n=true:=(by simp only [cF,Bool.and_eq_true] at ho;exact ho.1);obtain⟨k,b1,b2,b3,b4⟩:=FQ ho hb2.1 hb2.2;have hfw:vS l m f=jU l m (List.replicate (2*m.length) true) k:=by
  unfold vS;rw [b4,NU hp b1]
 refine⟨rfl,rfl,fun c1 c2=>?_⟩;rw [hfw];(conv=>whnf);refine⟨fun q e h nx=>∃ (i:Nat) (j:Int),j=i∧i≤k∧q=k - i∧e=e86 f j∧h=h80 l m c1 c2 n∧nx=3,⟨k,?_⟩,?_⟩
 ·refine aM (e0:=e86 f 0) (h0:=h80 l m c1 c2 n) (n0:=3) ⟨0,0,rfl,Nat.zero_le _,rfl,rfl,rfl,rfl⟩ ?_ ?_ (by decide)
  ·unfold e86;((repeat' refine iE rfl rfl ?_);exact iN)
  ·unfold h80 aY aD;((repeat'(first|refine iF rfl rfl ?_|refine iC rfl rfl rfl ?_|refine iJ rfl rfl rfl rfl ?_));exact iN)
 ·rintro q e h nx ⟨i,j,hj,hi,rfl,rfl,rfl,rfl⟩;unfold e86 h80 aY aD;((conv=>whnf);refine bm (fun h2=>?_) (fun h2=>?_))
  ·((conv=>whnf);refine bm (fun h3=>?_) (fun h3=>?_))
   ·have hij:mE m j=true:=(by simp only [mE,Bool.and_eq_true,decide_eq_true_eq];omega);(conv=>whnf);refine⟨l,m,aC aP rfl,aC aS rfl,?_⟩;((conv=>whnf);refine bm (fun h4=>?_) (fun h4=>?_))
    ·have hfi:=aEl ho (k:=i) (by omega);((conv=>whnf);refine bm (fun h5=>?_) (fun h5=>?_))
     ·have h5:fcI m j=f:=(by simpa [RX,aA,aB] using h5);rw [hj,hfi] at h5;have hik:i=k:=by
       rcases Nat.lt_or_ge i k with h|h
       ·exact absurd h5 (b3 i h)
       ·omega
      (conv=>whnf);have h6t:(decide (1≤m.length)&&decide (m.length≤1000))=true:=by
       rw [decide_eq_true (show 1≤m.length by omega),decide_eq_true (show m.length≤1000 by omega)];rfl
      have h7t:(oG l m&&mE m j&&decide ((List.replicate (2*m.length) true).length=2*m.length))=true:=by
       rw [hM,hij,List.length_replicate,decide_eq_true rfl];rfl
      have hkj:(k:Int)=j:=(by omega);rw [hkj];generalize hL:jU l m (List.replicate (2*m.length) true) j=L;refine⟨fun e h nx=>e=[(4,.slice (some ⟨4,0,none⟩) L.length L.length)]∧h=[(4,.cells true false 1 (flat aN.fl L))]∧nx=5,?_,?_⟩
      ·(conv=>whnf)
       repeat' first
        |(refine And.intro ?_ ?_ <;> (conv=>whnf))
        |(refine⟨_,_,_,[],l,m,rfl,aC aP rfl,aC aS rfl,?_⟩
          (conv=>whnf);refine bm (fun g6=>?_) (fun g6=>?_) <;> (conv=>whnf))
        |(refine⟨_,_,_,[iv j],_,l,m,List.replicate (2*m.length) true,rfl,aC aP rfl,aC aS rfl,aC eH rfl,?_⟩
          rw [show rnS l m n (List.replicate (2*m.length) true) [iv j]=some (oG l m&&mE m j&&decide ((List.replicate (2*m.length) true).length=2*m.length),L,[]) from by rw [← hL];rfl];(conv=>whnf);refine bm (fun g7=>?_) (fun g7=>?_) <;> (conv=>whnf))
        |(exact Bool.false_ne_true (g6.symm.trans h6t))
        |(exact Bool.false_ne_true (g7.symm.trans h7t))
        |(refine aM (e0:=[(4,.slice (some ⟨4,0,none⟩) L.length L.length)]) (h0:=[(4,.cells true false 1 (flat aN.fl L))]) (n0:=5) ⟨rfl,rfl,rfl⟩ (by ((repeat' refine iE rfl rfl ?_);exact iN)) (by ((repeat'(first|refine iF rfl rfl ?_|refine iJ rfl rfl rfl rfl ?_));exact iN)) (by decide))
      ·rintro e h nx ⟨rfl,rfl,rfl⟩;(conv=>whnf);exact⟨4,rfl,rfl⟩
     ·have h5:¬ fcI m j=f:=(by simpa [RX,aA,aB] using h5);have hik:i≠k:=fun e=>h5 (by rw [hj,hfi,e,b2]);((conv=>whnf);refine bm (fun h6=>?_) (fun h6=>?_))
      ·(conv=>whnf);refine⟨k - (i+1),by omega,?_⟩;refine aM (e0:=e86 f (j+1)) (h0:=h80 l m c1 c2 n) (n0:=3) ⟨i+1,j+1,by omega,by omega,rfl,rfl,rfl,rfl⟩ ?_ ?_ (by decide)
       ·unfold e86;((repeat' refine iE rfl rfl ?_);exact iN)
       ·unfold h80 aY aD;((repeat'(first|refine iF rfl rfl ?_|refine iC rfl rfl rfl ?_|refine iJ rfl rfl rfl rfl ?_));exact iN)
      ·exfalso;simp [RX,aA,aB,aI] at h6;omega
    ·exfalso;have h4:mE m j=false:=h4;rw [hij] at h4;cases h4
   ·exfalso;simp [RX,aA,aB] at h3;omega
  ·exfalso;simp [RX,aA,aB,aI] at h2;omega
theorem smB {l:List Pt}{m:List Ed}(h:l.length≤1000∧m.length≤1000):(decide (l.length≤1000)&&decide (m.length≤1000))=true:=by
 rw [decide_eq_true h.1,decide_eq_true h.2];rfl
def aMX:Nat × XF:=(23,mX aP aS nxP)
def aNo:Nat × XF:=(27,mX aP aS a2P)
theorem QL {l:List Pt}{m:List Ed}{n f:Int}(ho:cF l m n=true)(hb:pT n f=true):SD m (vS l m f)=true∧1≤(vS l m f).length∧(vS l m f).length≤10000∧mR l m (vS l m f) (vS l m f).length=HR l (aR l m m.length) (vS l m f) (vS l m f).length:=by
 have hb2:=hb;simp only [pT,Bool.and_eq_true,decide_eq_true_eq] at hb2;obtain⟨d,e1,e2,e3,e4,e5,e6,e7,e8⟩:=aKV ho hb2.1 hb2.2;obtain⟨hM,h3,h1l,h400,m400,_,_⟩:=iI (lL ho);have e:vS l m f=qT (aR l m m.length) (outs l m) d:=(by unfold vS;rw [e1]);rw [e];refine⟨List.all_eq_true.2 fun x hx=>?_,e7,by omega,KO l m e6 _ (Nat.le_refl _)⟩;obtain⟨i,hi,rfl⟩:=List.getElem_of_mem hx;have:=jV e6 hi;rw [dR hi,bI] at this;simp only [mE,Bool.and_eq_true,decide_eq_true_eq];omega
def aM2:Nat × XF:=(25,mRX wlP)
end Go.Aw
end
