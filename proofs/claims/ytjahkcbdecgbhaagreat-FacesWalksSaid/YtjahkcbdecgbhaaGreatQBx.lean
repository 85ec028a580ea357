/-
  Parts of the proof, put together. No condition.
-/
import Derived.Test.YtjahkcbdecgbhaaGreatQBn
import Derived.Test.YtjahkcbdecgbhaaGreatQBo
import Derived.Test.YtjahkcbdecgbhaaGreatChecked
import Derived.Test.YtjahkcbdecgbhaaGreatRows
import Derived.ProofKit
import Derived.Lib.SmallJoins
import Derived.Deep.Slices
import Derived.Deep.Fields
set_option linter.unusedSimpArgs false
set_option linter.unusedVariables false
noncomputable section
namespace Go.Proofs.YtjahkcbdecgbhaaGreat
open Go.ChangeShapes Go.WideShapes Go.ChangeAt Go.RowKit Go.Joins
theorem eD {a b:Bool}(ha:a=true)(hb:b=true):(a&&b)=true:=by rw [ha,hb];rfl
theorem jf0:(Rows.facesWalksRow.wf (OpenSpec.ofChange Rows.facesWalksSpec))=true:=by kernel_rfl
theorem jf1:(laidOutB Tryz.prog)=true:=by kernel_rfl
theorem jf2:(mapsRowed Tryz.prog)=true:=by kernel_rfl
theorem jf3:(Tryz.f5.params.all (Tryz.prog.readableRec ·))=true:=by kernel_rfl
theorem jf4:(namedTie Tryz.prog Rows.facesWalksRow.named Rows.facesWalksSpec.vars)=true:=by kernel_rfl
theorem jf5:((Rows.facesWalksRow.stops == []))=true:=by kernel_rfl
theorem jf6:((Tryz.prog.stops == []))=true:=by kernel_rfl
theorem jf7:((Rows.facesWalksRow.knobs == []))=true:=by kernel_rfl
theorem jf8:((Tryz.prog.stopKnobs == []))=true:=by kernel_rfl
theorem jf9:((Rows.facesWalksRow.inPlace == Tryz.prog.inPlace 5))=true:=by kernel_rfl
theorem aKi:((Rows.facesWalksRow.unfollowed == Tryz.prog.unfollowed 5))=true:=by kernel_rfl
theorem aKe:((Rows.facesWalksRow.recurses == Tryz.prog.recurses 5))=true:=by kernel_rfl
theorem aKu:((Rows.facesWalksRow.named == Tryz.prog.varsNamed 5))=true:=by kernel_rfl
theorem aKb:((Rows.facesWalksRow.maps == (Tryz.f5.params.toList++Rows.facesWalksSpec.plain.varTypes Tryz.prog).any (Tryz.prog.mapsRec ·)))=true:=by kernel_rfl
theorem aJi:((Rows.facesWalksRow.ifaces == (Tryz.f5.params.toList++Rows.facesWalksSpec.plain.varTypes Tryz.prog).any (Tryz.prog.ifacesRec ·)))=true:=by kernel_rfl
theorem aK1:((Rows.facesWalksRow.mapsOut == Tryz.prog.mapsAmong Tryz.f5.resultTypes.toList))=true:=by kernel_rfl
theorem aJb:((Rows.facesWalksRow.loops == (Tryz.f5.params.toList++Rows.facesWalksSpec.plain.varTypes Tryz.prog).any (Tryz.prog.loopsFrom ·)))=true:=by kernel_rfl
theorem aJT:((Rows.facesWalksRow.wideKeys == (Tryz.f5.params.toList++Rows.facesWalksSpec.plain.varTypes Tryz.prog++Tryz.f5.resultTypes.toList).any (Tryz.prog.wideKeysFrom ·)))=true:=by kernel_rfl
theorem aKF:(Rows.facesWalksSpec.vars.all (Tryz.prog.varReadable ·))=true:=by kernel_rfl
theorem aK3:(Tryz.f5.resultTypes.all (fun t=>Tryz.prog.readableRec t&&decide (t<Tryz.prog.types.size)))=true:=by kernel_rfl
theorem aK6:((Rows.facesWalksRow.ifacesOut == Tryz.f5.resultTypes.toList.any (Tryz.prog.ifacesRec ·)))=true:=by kernel_rfl
theorem aJa:((Rows.facesWalksRow.loopsOut == Tryz.f5.resultTypes.toList.any (Tryz.prog.loopsFrom ·)))=true:=by kernel_rfl
theorem aJz:((Rows.facesWalksRow.plainKeys == Tryz.prog.plainKeys))=true:=by kernel_rfl
theorem aJR:(Rows.facesWalksRow.shortTexts.isNone)=true:=by kernel_rfl
theorem aJj:(Tryz.prog.stopsHeard)=true:=by kernel_rfl
theorem aK7:(Tryz.prog.mayEnter)=true:=by kernel_rfl
theorem aJS:((Rows.facesWalksRow.lifted == Tryz.prog.liftsFinal))=true:=by kernel_rfl
theorem aKA:((Tryz.prog.make == some Rows.facesWalksRow.make))=true:=by kernel_rfl
theorem aJW:((Rows.facesWalksRow.pinned == Rows.facesWalksRow.pinnedBy))=true:=by kernel_rfl
theorem aJe:((Rows.facesWalksRow.veiled == (Tryz.f5.params.toList++Rows.facesWalksSpec.plain.varTypes Tryz.prog++Tryz.f5.resultTypes.toList).any (Tryz.prog.veiledRec ·)))=true:=by kernel_rfl
theorem aKy:(Rows.facesWalksRow.veiledFits Tryz.prog Tryz.f5.params.toList (Tryz.f5.params.toList++Rows.facesWalksSpec.plain.varTypes Tryz.prog++Tryz.f5.resultTypes.toList))=true:=by kernel_rfl
end Go.Proofs.YtjahkcbdecgbhaaGreat
end

noncomputable section
namespace Go.Aw
set_option maxRecDepth 100000
set_option maxHeartbeats 2000000
structure WA (h:Heap) (p:Nat) (l:List Pt) (m:List Ed) (n:Int):Prop where
 ok:cX l m n=true
 sm:l.length≤1000∧m.length≤1000
 ex:∃ k0 k1 kd kt kf nm c1 c2,vI h p k0 k1 kd kt kf nm l (aW l m m.length) (outs l m) m.length c1 c2 n (some ((aW l m m.length).length,(aW l m m.length).length)) ∧
  (∃ wr g sz cs,look h k1=some (.cells wr g sz cs)∧cs.take (flat aU.fl m).length=flat aU.fl m)∧(∃ wr g sz cs,look h kf=some (.cells wr g sz cs)∧cs.take (flat aP.fl (c9 l m).face).length=flat aP.fl (c9 l m).face)
theorem WA.ext {W h:Heap}{p:Nat}{l:List Pt}{m:List Ed}{n:Int}(hw:WA W p l m n)(hx:∀ k o,look W k=some o→look h k=some o):WA h p l m n:=by
 obtain⟨ok,sm,k0,k1,kd,kt,kf,nm,c1,c2,w,⟨w1,g1,s1,x1,a1,b1⟩,w2,g2,s2,x2,a2,b2⟩:=hw;obtain⟨⟨w3,g3,s3,a3⟩,⟨w4,g4,s4,x4,a4,b4⟩,⟨w5,g5,s5,x5,a5,b5⟩,⟨w6,g6,s6,a6⟩,h4⟩:=w;refine⟨ok,sm,k0,k1,kd,kt,kf,nm,c1,c2,⟨⟨_,_,_,hx _ _ a3⟩,⟨_,_,_,_,hx _ _ a4,b4⟩,⟨_,_,_,_,hx _ _ a5,b5⟩,⟨_,_,_,hx _ _ a6⟩,fun i hi h0=>?_⟩,⟨_,_,_,_,hx _ _ a1,b1⟩,_,_,_,_,hx _ _ a2,b2⟩;obtain⟨w7,g7,s7,x7,a7,b7⟩:=h4 i hi h0;exact⟨_,_,_,_,hx _ _ a7,b7⟩
def wH (nx:Nat)(l:List Pt)(m:List Ed)(c1 c2:Nat)(n:Int):Heap:=l8 nx (WU l m c1 c2 n)
theorem aFx {l:List Pt}{m:List Ed}{c1 c2:Nat}{n:Int}(hl:l.length≤1000){k:Nat}{o:aV}(hk:look (WU l m c1 c2 n) k=some o):k<2004 :=
 (KX hl k o (K3 k o hk)).1
theorem aHU {nx:Nat}{l:List Pt}{m:List Ed}{c1 c2:Nat}{n:Int}(hl:l.length≤1000){k:Nat}{o:aV}(hk:look (wH nx l m c1 c2 n) k=some o):nx≤k∧k<nx+2004:=by
 obtain⟨j,o',e1,e2,_⟩:=lJ _ hk;have:=aFx hl e2;omega
theorem aEp {nx:Nat}{l:List Pt}{m:List Ed}{c1 c2:Nat}{n:Int}(hl:l.length≤1000){k:Nat}(hk:k<nx∨nx+2004≤k):look (wH nx l m c1 c2 n) k=none:=by
 cases h:look (wH nx l m c1 c2 n) k with
 |none=>rfl
 |some o=>exfalso;have:=aHU hl h;omega
theorem F0 {nx:Nat}{l:List Pt}{m:List Ed}{c1 c2:Nat}{n:Int}{j:Nat}{o:aV}(h:look (u6 l m) j=some o)(h1:j≠4)(h2:j≠2000):look (wH nx l m c1 c2 n) (nx+(3+j))=some (R8 nx (R8 3 o)):=by
 refine gC _ ?_;unfold WU;rw [a9 (by omega),a9 (by omega)];exact gC _ h
theorem aHT {nx:Nat}{l:List Pt}{m:List Ed}{c1 c2:Nat}{n:Int}(ho:cX l m n=true)(hs:l.length≤1000∧m.length≤1000):WA (wH nx l m c1 c2 n) (nx+7) l m n:=by
 have hfl:∀ {α:Type} (E:El α) (x:List α) (k:Nat),(flat E.fl x).map (bO fun i=>k+i)=flat E.fl x:=fun E x k=>cB (aI E x);have hst:look (wH nx l m c1 c2 n) (nx+7)=some (.cells true false 1 (F6 (nx+3) (nx+4) (nx+9) (nx+8) (nx+2003) l.length m.length (aW l m m.length).length (outs l m).length c1 c2 n (some ((aW l m m.length).length,(aW l m m.length).length)))):=by
  refine (gC _ (o:=MP (WS l m c1 c2 n) (.slice (some ⟨2003,0,none⟩) (aW l m m.length).length (aW l m m.length).length)) rfl).trans ?_;rfl
 refine⟨ho,hs,nx+3,nx+4,nx+9,nx+8,nx+2003,fun i=>nx+(3+(i+1000)),c1,c2,⟨⟨_,_,_,hst⟩,⟨_,_,_,_,F0 (j:=0) rfl (by omega) (by omega),?_⟩,⟨_,_,_,_,F0 (j:=6) rfl (by omega) (by omega),?_⟩,⟨true,false,1,?_⟩,fun i hi h0=>⟨true,false,1,flat aP.fl (bK (outs l m) i),?_,List.take_length⟩⟩,⟨_,_,_,_,F0 (j:=1) rfl (by omega) (by omega),?_⟩,⟨true,false,1,flat aP.fl (c9 l m).face,?_,List.take_length⟩⟩
 ·rw [hfl,hfl];exact List.take_length
 ·rw [hfl,hfl];exact List.take_length
 ·rw [F0 (j:=5) (o:=.cells true false 1 (tC (outs l m).length (outs l m))) rfl (by omega) (by omega)];show some (aV.cells true false 1 (((tC (outs l m).length (outs l m)).map (bO fun k=>3+k)).map (bO fun k=>nx+k)))=_;unfold tC;rw [List.map_map,List.map_map];congr 2;refine List.map_congr_left fun i hi=>?_;show bO _ (bO _ (tV (tN (outs l m).length i) (bK (outs l m) i)))=_;rw [E9,E9];unfold tN;rw [if_neg (by have:=List.mem_range.1 hi;omega)]
 ·have hil:i<l.length:=(by rw [eP] at hi;exact hi);have:look (u6 l m) (i+1000)=some (ob (bK (outs l m) i)):=by
   unfold u6;rw [a9 (by omega),a9 (by omega),a9 (by omega),a9 (by omega)];exact kD (by omega) h0 hi
  rw [F0 this (by omega) (by omega)];show some (aV.cells true false 1 (((flat aP.fl (bK (outs l m) i)).map (bO fun k=>3+k)).map (bO fun k=>nx+k)))=_;rw [hfl,hfl]
 ·rw [hfl,hfl];exact List.take_length
 ·refine (gC (WU l m c1 c2 n) (j:=2003) (o:=.cells true false 1 (flat aP.fl (c9 l m).face)) rfl).trans ?_;show some (aV.cells true false 1 ((flat aP.fl (c9 l m).face).map (bO fun k=>nx+k)))=_;rw [hfl]
def wN (nx:Nat)(l:List Pt)(m:List Ed)(c1 c2:Nat)(n:Int)(T:List Value)(W:Heap):Heap :=
 (nx+7,.cells true false 1 (F6 (nx+3) (nx+4) (nx+9) (nx+8) (nx+2003) l.length m.length (aW l m m.length).length (outs l m).length c1 c2 n (some ((aW l m m.length).length,(aW l m m.length).length)))) ::
 (nx+2003,.cells true false 1 (flat aP.fl (c9 l m).face))::(nx+9,.cells true false 5 (flat rC.fl (aW l m m.length)))::(nx+8,.cells true false 1 T)::(nx+3,.cells false true aR.sz (flat aR.fl l))::(nx+4,.cells false true aU.sz (flat aU.fl m))::W
def wTb (nx:Nat)(l:List Pt)(m:List Ed):List Value:=((tC (outs l m).length (outs l m)).map (bO fun k=>3+k)).map (bO fun k=>nx+k)
def wT (nx:Nat)(l:List Pt)(m:List Ed):Heap:=l8 nx (l8 3 (tH (outs l m).length (outs l m) (outs l m).length))
theorem TH {nx:Nat}{l:List Pt}{m:List Ed}{c1 c2:Nat}{n:Int}:wH nx l m c1 c2 n=wN nx l m c1 c2 n (wTb nx l m) (wT nx l m):=by
 have hfl:∀ {α:Type} (E:El α) (x:List α) (k:Nat),(flat E.fl x).map (bO fun i=>k+i)=flat E.fl x:=fun E x k=>cB (aI E x);unfold wN;rw [show F6 (nx+3) (nx+4) (nx+9) (nx+8) (nx+2003) l.length m.length (aW l m m.length).length (outs l m).length c1 c2 n (some ((aW l m m.length).length,(aW l m m.length).length))=(F6 3 4 9 8 2003 l.length m.length (aW l m m.length).length (outs l m).length c1 c2 n (some ((aW l m m.length).length,(aW l m m.length).length))).map (bO fun i=>nx+i) from rfl];have e1:=(hfl aP (c9 l m).face nx).symm;have e2:flat rC.fl (aW l m m.length)=((flat rC.fl (aW l m m.length)).map (bO fun i=>3+i)).map (bO fun i=>nx+i):=(by rw [hfl,hfl]);have e3:flat aR.fl l=((flat aR.fl l).map (bO fun i=>3+i)).map (bO fun i=>nx+i):=(by rw [hfl,hfl]);have e4:flat aU.fl m=((flat aU.fl m).map (bO fun i=>3+i)).map (bO fun i=>nx+i):=(by rw [hfl,hfl]);rw [e1,e2,e3,e4];rfl
theorem aAk {nx:Nat}{l:List Pt}{m:List Ed}{c1 c2:Nat}{n:Int}(ho:cX l m n=true)(hs:l.length≤1000∧m.length≤1000):WA (wN nx l m c1 c2 n (wTb nx l m) (wT nx l m)) (nx+7) l m n:=TH▸aHT ho hs
theorem S1 {nx:Nat}{l:List Pt}{m:List Ed}{c1 c2:Nat}{n:Int}(hl:l.length≤1000){k:Nat}(hk:k<nx∨nx+2004≤k):look (wN nx l m c1 c2 n (wTb nx l m) (wT nx l m)) k=none:=TH▸aEp hl hk
def X2:Nat × XF:=(69,fun args h nx K=>∃ l m n p q,args=[mapA p q n]∧gP aR h p l∧gP aU h q m∧(l.length≤1000∧m.length≤1000) ∧
 ((cX l m n=true∧K (.tuple #[.pointer (some ⟨nx+7,0,none⟩),iv 0]) (app (dW h) (wN nx l m (oN p) (oN q) n (wTb nx l m) (wT nx l m))) (nx+2004))∨(cX l m n=false∧K (.tuple #[.pointer none,iv 1]) h nx)))
theorem VX {ι:Nat→Loc}{B:Nat}{h h':Heap}{nx:Nat}{w:World}(H:aQ ι B h nx w)(e:∀ k,look h' k=look h k):aQ ι B h' nx w :=
 ⟨fun k o hk=>H.obj k o (by rw [← e];exact hk),fun k k' o o' hk hk'=>H.sep k k' o o' (by rw [← e];exact hk) (by rw [← e];exact hk'),fun k o hk=>H.low k o (by rw [← e];exact hk),H.size,fun k o hk=>H.sc k o (by rw [← e];exact hk)⟩
theorem aFX:cE Go.Proofs.Tryz.prog X2.1 X2.2:=by
 refine⟨fun args h nx K hx ι B w H hs=>?_,fun args h nx K hx=>?_⟩
 ·obtain⟨l,m,n,p,q,rfl,hl,hm,hlm,hx⟩:=hx;rw [← TH] at hx;have h0:=aKC.1 [mapA p q n] h nx (fun v h' nx'=>∃ h'',(∀ k,look h'' k=look h' k)∧K v h'' nx') ⟨l,m,n,p,q,rfl,hl,hm,hlm,by
   rcases hx with ⟨ho,hx⟩|⟨ho,hx⟩
   ·refine .inl ⟨ho,_,fun k=>?_,hx⟩;rw [fY,fY,fT];cases e1:look h k with
    |none =>
     show look (wH nx l m (oN p) (oN q) n) k=_;cases e2:look (l8 nx (WU l m (oN p) (oN q) n)) k with
     |none=>exact e2
     |some o=>exact e2
    |some o =>
     have hlow:=H.low k o e1;have e2:look (l8 nx (WU l m (oN p) (oN q) n)) k=none:=aEp hlm.1 (.inl hlow);rw [e2];rfl
   ·exact .inr ⟨ho,_,fun k=>rfl,hx⟩⟩ ι B w H hs
  refine⟨h0.1,CallsIn.mono h0.2 fun e w' hr=>?_⟩;cases e with
  |returned u =>
   obtain⟨v,h1,nx1,ι1,⟨h2,e2,hk⟩,a1,a2,a3,a4,a5,a6⟩:=hr;exact⟨v,h2,nx1,ι1,hk,a1,VX a2 e2,a3,a4,a5,a6⟩
  |_=>exact hr.elim
 ·obtain⟨l,m,n,p,q,rfl,hl,hm,hlm,hx⟩:=hx;rcases hx with ⟨ho,hx⟩|⟨ho,hx⟩
  ·exact⟨_,_,_,hx,fun K' hk=>⟨l,m,n,p,q,rfl,hl,hm,hlm,.inl ⟨ho,hk⟩⟩⟩
  ·exact⟨_,_,_,hx,fun K' hk=>⟨l,m,n,p,q,rfl,hl,hm,hlm,.inr ⟨ho,hk⟩⟩⟩
def foM (l:List Pt)(m:List Ed):Option (Nat × Nat):=some ((aW l m m.length).length,(aW l m m.length).length)
def xM (l:List Pt)(m:List Ed)(n:Int)(c1 c2:Nat)(s:Nat):Heap :=
 (5,.cells false true aU.sz (flat aU.fl m))::(6,.cells false true 1 (flat aP.fl (c9 l m).face))::eZ l (aW l m m.length) (outs l m) m.length c1 c2 n (foM l m) s
theorem NI {h:Heap}{p:Nat}{l:List Pt}{m:List Ed}{n:Int}(hw:WA h p l m n)(k3 s:Nat):∃ c1 c2,∃ ρ:Nat→Nat,ρ 0=p∧ρ 3=k3 ∧
  ∀ k o,look (xM l m n c1 c2 s) k=some o→k<2000∧∃ g sz cs0,o=.cells false g sz cs0∧sz≠0∧(g=true→c7 cs0=true)∧(∀ v∈cs0,CS 2000 v)∧∃ wr g' sz' cs,look h (ρ k)=some (.cells wr g' sz' cs)∧cs.take cs0.length=cs0.map (bO ρ):=by
 obtain⟨ok,sm,k0,k1,kd,kt,kf,nm,c1,c2,w,⟨w1,g1,s1,x1,a1,b1⟩,w2,g2,s2,x2,a2,b2⟩:=hw;refine⟨c1,c2,rhW p k0 k1 kd kt kf k3 nm s,rfl,rfl,fun k o hk=>?_⟩;unfold xM at hk;rw [aD] at hk;split at hk
 ·rename_i hb;injection hk with hk;subst hk;have:=beq_true hb;subst this;exact⟨by omega,true,aU.sz,_,rfl,by decide,fun _=>aI aU m,fun v hv=>cM (bA (aI aU m) hv),w1,g1,s1,x1,a1,by rw [b1];exact (cB (aI aU m)).symm⟩
 ·rw [aD] at hk;split at hk
  ·rename_i hb;injection hk with hk;subst hk;have:=beq_true hb;subst this;exact⟨by omega,true,1,_,rfl,by omega,fun _=>aI aP _,fun v hv=>cM (bA (aI aP _) hv),w2,g2,s2,x2,a2,by rw [b2];exact (cB (aI aP _)).symm⟩
  ·exact I7 w (by rw [eP];exact sm.1) s k o hk
theorem aI9 {h:Heap}{p:Nat}{l:List Pt}{m:List Ed}{n:Int}(hw:WA h p l m n)(s:Nat){r:List Value}(hr:dU r=true){nx:Nat}:∃ c1 c2,In (.pointer (some ⟨0,0,none⟩)::r) (xM l m n c1 c2 s) 2000 (.pointer (some ⟨p,0,none⟩)::r) h nx:=by
 obtain⟨c1,c2,ρ,e0,_,ho⟩:=NI hw 0 s;refine⟨c1,c2,AU ρ ?_ ?_ ho⟩
 ·rw [List.map_cons];congr 1
  ·show _=Value.pointer (some ⟨ρ 0,0+0,none⟩);rw [e0]
  ·conv=>lhs;rw [← List.map_id r]
   exact List.map_congr_left fun v hv=>by rw [jH,gJ (bY hr hv)];rfl
 ·exact List.forall_mem_cons.2 ⟨⟨Nat.le_of_ble_eq_true rfl,rfl⟩,fun v hv=>dL (bY hr hv)⟩
theorem aGj {h:Heap}{p k3:Nat}{l:List Pt}{m:List Ed}{n:Int}(hw:WA h p l m n)(s:Nat){L:List Int}{c:Nat}(hL:∃ wr g sz cs,look h k3=some (.cells wr g sz cs)∧cs.take (flat aP.fl L).length=flat aP.fl L){nx:Nat} :
  ∃ c1 c2,In [.pointer (some ⟨0,0,none⟩),.slice (some ⟨3,0,none⟩) L.length c] ((3,.cells false true 1 (flat aP.fl L))::xM l m n c1 c2 s) 2000 [.pointer (some ⟨p,0,none⟩),.slice (some ⟨k3,0,none⟩) L.length c] h nx:=by
 obtain⟨c1,c2,ρ,e0,e3,ho⟩:=NI hw k3 s;refine⟨c1,c2,AU ρ ?_ ?_ fun k o hk=>?_⟩
 ·show _=[Value.pointer (some ⟨ρ 0,0+0,none⟩),.slice (some ⟨ρ 3,0+0,none⟩) L.length c];rw [e0,e3]
 ·exact List.forall_mem_cons.2 ⟨⟨Nat.le_of_ble_eq_true rfl,rfl⟩,List.forall_mem_cons.2 ⟨⟨Nat.le_of_ble_eq_true rfl,fun h=>by cases h⟩,fun _ h=>(by cases h)⟩⟩
 ·rw [aD] at hk;split at hk
  ·rename_i hb;injection hk with hk;subst hk;have:=beq_true hb;subst this;obtain⟨wr,g,sz,cs,h1,h2⟩:=hL;exact⟨by omega,true,1,_,rfl,by omega,fun _=>aI aP L,fun v hv=>cM (bA (aI aP L) hv),wr,g,sz,cs,by rw [e3];exact h1,by rw [h2];exact (cB (aI aP L)).symm⟩
  ·exact ho k o hk
def wcX (s:List Pt→List Ed→Int→List Value→Option (Bool × Value)):XF:=fun args h nx K =>
 ∃ p r l m n,args=.pointer (some ⟨p,0,none⟩)::r∧WA h p l m n∧(match s l m n r with|some pr=>dE pr.1 (K pr.2 h nx)|none=>False)
theorem aFk {P:Program}{C:VC}{f:Nat}{s:List Pt→List Ed→Int→List Value→Option (Bool × Value)}(hC:bE P C)
  (hs:∀ l m n r v,s l m n r=some (true,v)→cX l m n=true→l.length≤1000∧m.length≤1000→dU r=true∧gT v=true∧∃ s0,∀ c1 c2,C f (.pointer (some ⟨0,0,none⟩)::r) (xM l m n c1 c2 s0) 2000 (fun u _ _=>u=v)):cE P f (wcX s):=by
 refine (gF (S:=fun args0 h0 n0 v1 h1 k=>gT v1=true∧C f args0 h0 n0 (fun u _ _=>u=v1)∧h1=[]∧k=0) hC ?_).mono ?_ ?_
 ·rintro args0 h0 n0 v1 h1 k ⟨e2,e3,rfl,rfl⟩;exact⟨rfl,_,e3,fun v h nx e=>by rw [e];exact kP e2⟩
 ·rintro args h nx K ⟨p,r,l,m,n,rfl,hw,hx⟩;split at hx
  case h_2=>exact hx.elim
  rename_i pr e1;obtain⟨bb,u⟩:=pr;obtain⟨rfl,hx⟩:=aF.1 hx;obtain⟨a1,a2,s0,a4⟩:=hs l m n r u e1 hw.ok hw.sm;obtain⟨c1,c2,i⟩:=aI9 hw s0 a1 (nx:=nx);refine⟨_,_,2000,u,[],0,⟨a2,a4 c1 c2,rfl,rfl⟩,i,?_⟩;simp only [nT,rI,l8,kC,pQ a2,Nat.add_zero];exact hx
 ·rintro args h nx K ⟨p,r,l,m,n,rfl,hw,hx⟩;split at hx
  case h_2=>exact hx.elim
  rename_i pr e1;obtain⟨hb,hx⟩:=aF.1 hx;exact⟨pr.2,h,nx,hx,fun K' hk=>⟨p,r,l,m,n,rfl,hw,by rw [e1];exact aJ hb hk⟩⟩
def aBL (s:List Pt→List Ed→Int→List Int→Option (Bool × Value)):XF:=fun args h nx K =>
 ∃ p k3 l m n L c,args=[.pointer (some ⟨p,0,none⟩),.slice (some ⟨k3,0,none⟩) L.length c]∧WA h p l m n∧(∃ wr g sz cs,look h k3=some (.cells wr g sz cs)∧cs.take (flat aP.fl L).length=flat aP.fl L)∧(match s l m n L with|some pr=>dE pr.1 (K pr.2 h nx)|none=>False)
theorem aDm {P:Program}{C:VC}{f:Nat}{s:List Pt→List Ed→Int→List Int→Option (Bool × Value)}(hC:bE P C)
  (hs:∀ l m n L v,s l m n L=some (true,v)→cX l m n=true→l.length≤1000∧m.length≤1000→gT v=true∧∃ s0,∀ c1 c2 c,C f [.pointer (some ⟨0,0,none⟩),.slice (some ⟨3,0,none⟩) L.length c] ((3,.cells false true 1 (flat aP.fl L))::xM l m n c1 c2 s0) 2000 (fun u _ _=>u=v)):cE P f (aBL s):=by
 refine (gF (S:=fun args0 h0 n0 v1 h1 k=>gT v1=true∧C f args0 h0 n0 (fun u _ _=>u=v1)∧h1=[]∧k=0) hC ?_).mono ?_ ?_
 ·rintro args0 h0 n0 v1 h1 k ⟨e2,e3,rfl,rfl⟩;exact⟨rfl,_,e3,fun v h nx e=>by rw [e];exact kP e2⟩
 ·rintro args h nx K ⟨p,k3,l,m,n,L,c,rfl,hw,hL,hx⟩;split at hx
  case h_2=>exact hx.elim
  rename_i pr e1;obtain⟨bb,u⟩:=pr;obtain⟨rfl,hx⟩:=aF.1 hx;obtain⟨a2,s0,a4⟩:=hs l m n L u e1 hw.ok hw.sm;obtain⟨c1,c2,i⟩:=aGj hw s0 hL (c:=c) (nx:=nx);refine⟨_,_,2000,u,[],0,⟨a2,a4 c1 c2 c,rfl,rfl⟩,i,?_⟩;simp only [nT,rI,l8,kC,pQ a2,Nat.add_zero];exact hx
 ·rintro args h nx K ⟨p,k3,l,m,n,L,c,rfl,hw,hL,hx⟩;split at hx
  case h_2=>exact hx.elim
  rename_i pr e1;obtain⟨hb,hx⟩:=aF.1 hx;exact⟨pr.2,h,nx,hx,fun K' hk=>⟨p,k3,l,m,n,L,c,rfl,hw,hL,by rw [e1];exact aJ hb hk⟩⟩
theorem aDt {s:List Pt→List Ed→Int→List Value→Option (Bool × Value)}:∀ args h nx,eS (wcX s args h nx):=by
 rintro args h nx K ⟨p,r,l,m,n,rfl,hw,hx⟩;split at hx
 case h_2=>exact hx.elim
 rename_i pr e1;obtain⟨hb,hx⟩:=aF.1 hx;exact⟨pr.2,h,nx,hx,fun K' hk=>⟨p,r,l,m,n,rfl,hw,by rw [e1];exact aJ hb hk⟩⟩
def ofW {ρ:Type}(s:List Pt→List Dt→List (List Int)→ρ):List Pt→List Ed→Int→ρ:=fun l m _=>s l (aW l m m.length) (outs l m)
theorem aGd {P:Program}{f:Nat}{s:List Pt→List Dt→List (List Int)→List Value→Option (Bool × Value)}(h:cE P f (wbX s)):cE P f (wcX (ofW s)):=by
 refine h.mono ?_ aDt;rintro args h nx K ⟨p,r,l,m,n,rfl,hw,hx⟩;obtain⟨ok,sm,k0,k1,kd,kt,kf,nm,c1,c2,w,_⟩:=hw;exact⟨p,r,k0,k1,kd,kt,kf,nm,l,_,_,_,c1,c2,n,_,rfl,w,hx⟩
theorem aBG {P:Program}{f:Nat}{s:List Pt→List Dt→List (List Int)→List Int→Option (Bool × Value)}(h:cE P f (aFj s)):cE P f (aBL (ofW s)):=by
 refine h.mono ?_ ?_
 ·rintro args h nx K ⟨p,k3,l,m,n,L,c,rfl,hw,hL,hx⟩;obtain⟨ok,sm,k0,k1,kd,kt,kf,nm,c1,c2,w,_⟩:=hw;exact⟨p,k3,k0,k1,kd,kt,kf,nm,l,_,_,_,c1,c2,n,_,L,c,rfl,w,hL,hx⟩
 ·rintro args h nx K ⟨p,k3,l,m,n,L,c,rfl,hw,hL,hx⟩;split at hx
  case h_2=>exact hx.elim
  rename_i pr e1;obtain⟨hb,hx⟩:=aF.1 hx;exact⟨pr.2,h,nx,hx,fun K' hk=>⟨p,k3,l,m,n,L,c,rfl,hw,hL,by rw [e1];exact aJ hb hk⟩⟩
def aHH (s:List Pt→List Ed→Int→List Value→YS Int):XF:=fun args h nx K =>
 ∃ p r l m n,args=.pointer (some ⟨p,0,none⟩)::r∧WA h p l m n∧(match s l m n r with|some pr=>dE pr.1 (K (S4 pr.2.1 pr.2.2 nx) (bM h nx (.cells true false 1 (flat aP.fl pr.2.1))) (nx+1))|none=>False)
theorem aDz {P:Program}{f:Nat}{s:List Pt→List Dt→List (List Int)→List Value→YS Int}(h:cE P f (aGy s)):cE P f (aHH (ofW s)):=by
 refine h.mono ?_ ?_
 ·rintro args h nx K ⟨p,r,l,m,n,rfl,hw,hx⟩;obtain⟨ok,sm,k0,k1,kd,kt,kf,nm,c1,c2,w,_⟩:=hw;exact⟨p,r,k0,k1,kd,kt,kf,nm,l,_,_,_,c1,c2,n,_,rfl,w,hx⟩
 ·rintro args h nx K ⟨p,r,l,m,n,rfl,hw,hx⟩;split at hx
  case h_2=>exact hx.elim
  rename_i pr e1;obtain⟨hb,hx⟩:=aF.1 hx;exact⟨_,_,_,hx,fun K' hk=>⟨p,r,l,m,n,rfl,hw,by rw [e1];exact aJ hb hk⟩⟩
def Y5 (nx:Nat):Heap→Bool
 |[]=>true
 |(k,_)::r=>Nat.blt k nx&&Y5 nx r
theorem zV {nx:Nat}:∀ {H:Heap},Y5 nx H=true→∀ k o,look H k=some o→k<nx
 |[],_,k,o,h=>by cases h
 |(j,q)::r,hl,k,o,h=>by
  simp only [Y5,Bool.and_eq_true] at hl;rw [aD] at h;split at h
  ·rename_i hb;rw [← beq_true hb];exact Nat.le_of_ble_eq_true hl.1
  ·exact zV hl.2 k o h
theorem AM {H W:Heap}{p nx:Nat}{l:List Pt}{m:List Ed}{n:Int}(hw:WA W p l m n)(hno:∀ k,k<nx→look W k=none)(hH:Y5 nx H=true):WA (app H W) p l m n :=
 hw.ext fun k o hk=>by
  rw [fY];cases hh:look H k with
  |none=>exact hk
  |some o'=>rw [hno k (zV hH k o' hh)] at hk;cases hk
theorem sM {h:Heap}{p q:Nat}{v:aV}{l:List Pt}{m:List Ed}{n:Int}(hw:WA h p l m n)(hq:look h q=none):WA (bM h q v) p l m n:=hw.ext (ext_cons (fun _ _ h=>h) hq)
theorem tO {H W:Heap}{nx k:Nat}(hH:Y5 nx H=true)(hk:nx≤k)(hW:look W k=none):look (app H W) k=none:=by
 rw [fY];cases hh:look H k with
 |none=>exact hW
 |some o'=>have:=zV hH k o' hh;omega
theorem aDe {h:Heap}{q k:Nat}{v:aV}(hk:q≠k)(hW:look h k=none):look (bM h q v) k=none:=by
 show look ((q,v)::h) k=none;rw [a9 hk];exact hW
def O7 (xl:List (Nat × XF))(k:Nat):CC:={ aA with X:=look xl,M:=k }
theorem y6 {xl:List (Nat × XF)}(h:nU xl)(k:Nat):pF Go.Proofs.Tryz.prog (O7 xl k) where
 ar:=fV.ar
 tab:=fV.tab
 mixed:=fV.mixed
 funcs:=fV.funcs
 xs:=h.look
def qG (n a:Int):Bool:=decide (0≤a)&&decide (a≤n)
def aFA (l:List Pt)(m:List Ed)(n:Int):List Int→Option (Bool × Value)
 |[a]=>some (true,.bool (qG n a))
 |[a,b]=>some (true,.bool (qG n a&&qG n b))
 |_=>none
def aAI:Nat × XF:=(82,aBL aFA)
theorem aHM:cE Go.Proofs.Tryz.prog aAI.1 aAI.2:=aDm (f:=82) (s:=aFA) (jR (y6 (xl:=[]) .nil 4) 6).1 fun l m n L v hs ho hm=>by
 have:(∃ a,L=[a]∧v=.bool (qG n a))∨(∃ a b,L=[a,b]∧v=.bool (qG n a&&qG n b)):=by
  unfold aFA at hs;split at hs
  ·injection hs with hs;injection hs with h1 h2;exact .inl ⟨_,rfl,h2.symm⟩
  ·injection hs with hs;injection hs with h1 h2;exact .inr ⟨_,_,rfl,h2.symm⟩
  ·cases hs
 clear hs;rcases this with ⟨a,rfl,rfl⟩|⟨a,b,rfl,rfl⟩
 ·refine⟨rfl,0,fun c1 c2 c=>?_⟩;unfold qG;unfold xM eZ F6
  repeat' (((conv=>whnf);refine bm (fun g=>?_) (fun g=>?_)))
  all_goals (conv=>whnf)
  all_goals (show Value.bool _=Value.bool _;congr 1;simp [O7,aA,aC] at *;try omega)
 ·refine⟨rfl,0,fun c1 c2 c=>?_⟩;unfold qG;unfold xM eZ F6
  repeat' (((conv=>whnf);refine bm (fun g=>?_) (fun g=>?_)))
  all_goals (conv=>whnf)
  all_goals (show Value.bool _=Value.bool _;congr 1;simp [O7,aA,aC] at *;try omega)
theorem YY (l:List Pt)(m:List Ed):(c9 l m).face.length=(aW l m m.length).length:=(tM l (aW l m m.length) (outs l m) (aW l m m.length).length).1
def lsS (l:List Pt)(m:List Ed)(n:Int):List Value→Option (Bool × Value)
 |[.int .i64 f]=>some (true,iv (oX f (c9 l m).face 0))
 |_=>none
def Y8:Nat × XF:=(84,wcX lsS)
theorem aHL:cE Go.Proofs.Tryz.prog Y8.1 Y8.2:=aFk (f:=84) (s:=lsS) (jR (y6 (xl:=[rH]) (.cons aDY .nil) 4) 6).1 fun l m n r v hs ho hm=>by
 have:∃ f,r=[iv f]∧v=iv (oX f (c9 l m).face 0):=by
  unfold lsS at hs;split at hs
  ·injection hs with hs;injection hs with h1 h2;exact⟨_,rfl,h2.symm⟩
  ·cases hs
 obtain⟨f,rfl,rfl⟩:=this;refine⟨rfl,rfl,0,fun c1 c2=>?_⟩;have hl:=YY l m;have hd:=bI l m m.length;unfold xM eZ F6 foM;rw [← hl];(conv=>whnf);refine⟨(c9 l m).face,aG aP rfl,?_⟩;((conv=>whnf);refine bm (fun g=>?_) (fun g=>?_))
 ·(conv=>whnf)
 ·exfalso;have g:decide ((c9 l m).face.length≤1000000)=false:=g;rw [decide_eq_true (by omega)] at g;cases g
theorem jS {l:List Pt}{m:List Ed}{n:Int}(h:cX l m n=true):cV l m n=true:=by
 simp only [cX,fS,Bool.and_eq_true] at h;exact h.1.1
def aFL:Nat × XF:=(78,wcX (ofW nxS))
theorem aKv:cE Go.Proofs.Tryz.prog aFL.1 aFL.2:=aGd aIm
def AX (l:List Pt)(m:List Ed)(n d:Int):Bool:=cX l m n&&(decide (0≤d)&&decide (d<2*m.length))
def nxP (l:List Pt)(m:List Ed)(n:Int):List Value→Option (Bool × Value)
 |[.int .i64 d]=>some (decide (l.length≤1000)&&decide (m.length≤1000),.tuple #[iv (if AX l m n d=true then yL (aW l m m.length) (outs l m) d else 0),iv (if AX l m n d=true then 0 else 1)])
 |_=>none
def aGb:Nat × XF:=(22,mX aR aU nxP)
theorem aJK:cE Go.Proofs.Tryz.prog aGb.1 aGb.2:=l7 aR aU (jR (y6 (xl:=[X2,aFL]) (.cons aFX (.cons aKv .nil)) 4) 6).1 fun l m n r v hs=>by
 have:∃ d,r=[iv d]∧(l.length≤1000∧m.length≤1000)∧v=.tuple #[iv (if AX l m n d=true then yL (aW l m m.length) (outs l m) d else 0),iv (if AX l m n d=true then 0 else 1)]:=by
  unfold nxP at hs;split at hs
  ·injection hs with hs;injection hs with h1 h2;simp only [Bool.and_eq_true,decide_eq_true_eq] at h1;exact⟨_,rfl,h1,h2.symm⟩
  ·cases hs
 obtain⟨d,rfl,hlm,rfl⟩:=this;clear hs;refine⟨rfl,rfl,fun c1 c2=>?_⟩;(conv=>whnf);refine⟨l,m,n,.slice (some ⟨0,0,none⟩) l.length c1,.slice (some ⟨1,0,none⟩) m.length c2,rfl,aG aR rfl,aG aU rfl,hlm,?_⟩;have hlst:=fun ho=>EZ (jS (l:=l) (m:=m) (n:=n) ho);have hd:=bI l m m.length;have hnb:AX l m n d=(cX l m n&&(decide (0≤d)&&decide (d<2*m.length))):=rfl;cases ho:cX l m n with
 |false =>
  rw [ho,Bool.false_and] at hnb;refine .inr ⟨rfl,?_⟩;(conv=>whnf);rw [hnb];rfl
 |true =>
  rw [ho,Bool.true_and] at hnb;have hw:=hlst ho;refine .inl ⟨rfl,?_⟩;have hW:WA _ (2+1+1+1+7) l m n:=aAk (nx:=2+1+1+1) (c1:=c1) (c2:=c2) ho hlm;have hno:∀ k,k<2+1+1+1→_:=fun k hk=>S1 (nx:=2+1+1+1) (m:=m) (c1:=c1) (c2:=c2) (n:=n) hlm.1 (.inl hk);generalize wT _ l m=W at hW hno ⊢;generalize wTb _ l m=TB at hW hno ⊢;((conv=>whnf);refine bm (fun g1=>?_) (fun g1=>?_))
  ·have g1:0≤d:=(by simp [O7,aA,aC] at g1;omega);((conv=>whnf);refine bm (fun g2=>?_) (fun g2=>?_))
   ·have g2:2*(m.length:Int)≤d:=(by simp [O7,aA,aC,hd] at g2;omega);(conv=>whnf);rw [hnb,decide_eq_false (show ¬ d<2*(m.length:Int) by omega),Bool.and_false];rfl
   ·have g2:d<2*(m.length:Int):=(by simp [O7,aA,aC,hd] at g2;omega);(conv=>whnf);refine⟨_,_,l,m,n,rfl,AM hW hno rfl,?_⟩;((conv=>whnf);refine bm (fun g3=>?_) (fun g3=>?_))
    ·(conv=>whnf);rw [hnb,decide_eq_true g1,decide_eq_true g2];rfl
    ·exfalso;have g3:nxB (aW l m m.length) (outs l m) d=false:=g3;rw [(C5 hw g1 (by rw [hd];omega)).1] at g3;cases g3
  ·have g1:d<0:=(by simp [O7,aA,aC] at g1;omega);(conv=>whnf);rw [hnb,decide_eq_false (show ¬ 0≤d by omega),Bool.false_and];rfl
end Go.Aw
end

noncomputable section
namespace Go.Aw
set_option maxRecDepth 100000
section
variable {l:List Pt}{m:List Ed}{n:Int}
structure Hs (l:List Pt) (m:List Ed) (t:OO):Prop where
 seen:t.seen.length=2*m.length
 face:t.face.length=2*m.length
 cl:∀ i:Nat,i<2*m.length→cQ t.seen i=true→cQ t.seen (yL (aW l m m.length) (outs l m) i).toNat=true
 has:∀ f:Int,(1≤f∧f≤t.many)∨(f=0∧1≤t.out)→∃ i,i<2*m.length∧cQ t.seen i=true∧aN t.face i=f
 low:0≤t.many
theorem aDn {D:List Dt}{ls:List (List Int)}{d:Int}{t:Nat}(h:t<mZ D ls d):aN (uJ D ls d) t=oA D ls d t:=by
 unfold uJ aN;rw [List.getD_eq_getElem?_getD,List.getElem?_map,List.getElem?_range h];rfl
theorem RM {D:List Dt}{ls:List (List Int)}{d:Int}:(uJ D ls d).length=mZ D ls d:=by simp [uJ]
theorem aBj (hok:cV l m n=true){t:OO}(h:Hs l m t){d:Nat}(hd:d<2*m.length):Hs l m (mR l (aW l m m.length) (outs l m) t d):=by
 unfold mR;cases hs:cQ t.seen d with
 |true=>rw [if_pos rfl];exact h
 |false =>
  rw [if_neg (by decide)];simp only;have hin:=BG hok (d:=(d:Int)) (by omega) (by omega);have hT:oA (aW l m m.length) (outs l m) d (mZ (aW l m m.length) (outs l m) d)=d:=by
   have hw:=List.all_eq_true.1 (J3 hok) d (List.mem_range.2 (by rw [bI];exact hd));exact of_decide_eq_true hw
  have hT1:1≤mZ (aW l m m.length) (outs l m) d:=by
   have:=(m7 (aW l m m.length) (outs l m) d (aW l m m.length).length 1).1;unfold mZ;omega
  have hget:∀ k,k<mZ (aW l m m.length) (outs l m) d→aN (uJ (aW l m m.length) (outs l m) d) k=oA (aW l m m.length) (outs l m) d k:=fun k hk=>aDn hk;have hlen:(uJ (aW l m m.length) (outs l m) d).length=mZ (aW l m m.length) (outs l m) d:=RM;generalize uJ (aW l m m.length) (outs l m) d=W at hget hlen ⊢;generalize mZ (aW l m m.length) (outs l m) d=T at *;have hr:∀ k,k<W.length→(aN W k).toNat<2*m.length:=fun k hk=>by
   rw [hget k (by omega)];have:=hin k;omega
  -- what was seen lies in no walk of what was not
  have hdis:∀ k,k<W.length→cQ t.seen (aN W k).toNat=true→False:=fun k hk hsk=>by
   rw [hget k (by omega)] at hsk;have hf:∀ j,cQ t.seen (oA (aW l m m.length) (outs l m) d (k+j)).toNat=true:=by
    intro j
    induction j with
    |zero=>exact hsk
    |succ j ih =>
     have hi:=hin (k+j);have:=h.cl (oA (aW l m m.length) (outs l m) d (k+j)).toNat (by omega) ih;rw [Int.toNat_of_nonneg hi.1] at this;exact this
   have:=hf (T - k);rw [show k+(T - k)=T by omega,hT,Int.toNat_natCast,hs] at this;cases this
  generalize F5 l (aW l m m.length) W W.length=A;have hsee:∀ i,(∃ k,k<W.length∧(aN W k).toNat=i)→cQ (fH t.seen W W.length) i=true:=fun i hi=>(qP t.seen W (by rw [h.seen];exact hr) i _ (Nat.le_refl _)).1 hi;have hkeep:∀ i,cQ t.seen i=true→cQ (fH t.seen W W.length) i=true:=fun i hi=>by
   by_cases e:∃ k,k<W.length∧(aN W k).toNat=i
   ·exact hsee i e
   ·rw [(qP t.seen W (by rw [h.seen];exact hr) i _ (Nat.le_refl _)).2 e];exact hi
  have hold:∀ (fc f:Int),(∃ i,i<2*m.length∧cQ t.seen i=true∧aN t.face i=f)→∃ i,i<2*m.length∧cQ (fH t.seen W W.length) i=true∧aN (dM t.face W fc W.length) i=f:=fun fc f ⟨i,a1,a2,a3⟩=>by
   refine⟨i,a1,hkeep i a2,?_⟩;rw [(yT t.face W fc (by rw [h.face];exact hr) i _ (Nat.le_refl _)).2 fun ⟨k,b1,b2⟩=>hdis k b1 (by rw [b2];exact a2)];exact a3
  have hd0:∃ k,k<W.length∧(aN W k).toNat=d:=⟨0,by omega,by rw [hget 0 (by omega)];rfl⟩;have hnew:∀ fc:Int,∃ i,i<2*m.length∧cQ (fH t.seen W W.length) i=true∧aN (dM t.face W fc W.length) i=fc:=fun fc =>
   ⟨d,hd,hsee d hd0,(yT t.face W fc (by rw [h.face];exact hr) d _ (Nat.le_refl _)).1 hd0⟩
  refine⟨by rw [kB];exact h.seen,by rw [eV];exact h.face,fun i hi hsi=>?_,fun f hf=>?_,?_⟩
  ·by_cases e:∃ k,k<W.length∧(aN W k).toNat=i
   ·obtain⟨k,b1,b2⟩:=e;have hk:=hin k;rw [hget k (by omega)] at b2;have e2:(i:Int)=oA (aW l m m.length) (outs l m) d k:=(by omega);rw [e2];show cQ (fH t.seen W W.length) (oA (aW l m m.length) (outs l m) d (k+1)).toNat=true;by_cases hl:k+1=T
    ·rw [hl,hT,Int.toNat_natCast];exact hsee d hd0
    ·exact hsee _ ⟨k+1,by omega,by rw [hget (k+1) (by omega)]⟩
   ·have:=hsi;rw [(qP t.seen W (by rw [h.seen];exact hr) i _ (Nat.le_refl _)).2 e] at this;exact hkeep _ (h.cl i hi this)
  ·have hlow:=h.low;by_cases hA:0<A
   ·simp only [if_pos hA] at hf ⊢;rcases hf with ⟨f1,f2⟩|f2
    ·by_cases e:f=t.many+1
     ·rw [e];exact hnew _
     ·exact hold _ f (h.has f (.inl ⟨f1,by omega⟩))
    ·exact hold _ f (h.has f (.inr f2))
   ·simp only [if_neg hA] at hf ⊢;rcases hf with f2|⟨f1,f2⟩
    ·exact hold _ f (h.has f (.inl f2))
    ·rw [f1];exact hnew 0
  ·have:=h.low;show 0≤if 0<A then t.many+1 else t.many
   split <;> omega
theorem aB0 (hok:cV l m n=true):∀ d,d≤2*m.length→Hs l m (c8 l (aW l m m.length) (outs l m) d)
 |0,_=>by
  refine⟨by simp [c8,bI],by simp [c8,bI],fun i hi h=>?_,fun f hf=>?_,Int.le_refl 0⟩
  ·unfold c8 cQ at h;rw [List.getD_eq_getElem?_getD,List.getElem?_replicate,bI,if_pos hi] at h;cases h
  ·have hf:(1≤f∧f≤0)∨(f=0∧(1:Int)≤0):=hf;omega
 |d+1,h=>aBj hok (aB0 hok d (by omega)) (by omega)
theorem MO (x:Int):∀ (L:List Int) (i:Nat),(∃ k,k<L.length∧aN L k=x)→∃ k,k<L.length∧aN L k=x∧(∀ j,j<k→aN L j≠x)∧oX x L i=((i+k:Nat):Int)
 |[],i,⟨k,h,_⟩=>by cases h
 |b::r,i,⟨k,h1,h2⟩=>by
  unfold oX;by_cases e:x=b
  ·rw [if_pos e];exact⟨0,Nat.succ_pos _,e.symm,fun j hj=>absurd hj (Nat.not_lt_zero j),rfl⟩
  ·rw [if_neg e];cases k with
   |zero=>exact absurd h2.symm e
   |succ k =>
    obtain⟨q,a1,a2,a3,a4⟩:=MO x r (i+1) ⟨k,by simpa using h1,h2⟩;refine⟨q+1,by simpa using a1,a2,fun j hj=>?_,by rw [a4];congr 1;omega⟩;cases j with
    |zero=>exact fun hb=>e hb.symm
    |succ j=>exact a3 j (by omega)
theorem N7 (ho:cX l m n=true){f:Int}(h0:0≤f)(h1:f≤n):∃ k,k<2*m.length∧aN (c9 l m).face k=f∧(∀ j,j<k→aN (c9 l m).face j≠f)∧oX f (c9 l m).face 0=(k:Int):=by
 have ho':=ho;simp only [cX,fS,Bool.and_eq_true,decide_eq_true_eq] at ho';obtain⟨⟨hok,_⟩,_,hn,hmn,_⟩:=ho';have hs:=aB0 hok (2*m.length) (Nat.le_refl _);have e:c8 l (aW l m m.length) (outs l m) (2*m.length)=c9 l m:=(by unfold c9 nmD;rw [bI]);rw [e] at hs;simp only [zU,Bool.and_eq_true,decide_eq_true_eq] at hn;obtain⟨i,a1,a2,a3⟩:=hs.has f (by
  by_cases e0:f=0
  ·exact .inr ⟨e0,by omega⟩
  ·exact .inl ⟨by omega,by omega⟩)
 obtain⟨k,b1,b2,b3,b4⟩:=MO f (c9 l m).face 0 ⟨i,by rw [hs.face];exact a1,a3⟩;exact⟨k,by rw [hs.face] at b1;exact b1,b2,b3,by rw [b4,Nat.zero_add]⟩
end
end Go.Aw
end
