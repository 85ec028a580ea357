/-
  Parts of a proof. No condition.
-/
import Derived.Test.YtjahkcbdecgbhaaGreatQAp
import Derived.Test.YtjahkcbdecgbhaaGreatQAv
import Derived.Test.YtjahkcbdecgbhaaGreatQBh
import Derived.Test.YtjahkcbdecgbhaaGreatQBi
import Derived.Test.YtjahkcbdecgbhaaGreatQBq
import Derived.Test.YtjahkcbdecgbhaaGreatChecked
import Derived.Test.YtjahkcbdecgbhaaGreatRows
import Derived.ProofKit
import Derived.Lib.SmallJoins
import Derived.Deep.Slices
import Derived.Deep.Fields
set_option linter.unusedSimpArgs false
set_option linter.unusedVariables false
noncomputable section
namespace Go.Proofs.YtjahkcbdecgbhaaGreat
open Go.ChangeShapes Go.WideShapes Go.ChangeAt Go.RowKit Go.Joins
theorem eM {a b:Bool}(ha:a=true)(hb:b=true):(a&&b)=true:=by rw [ha,hb];rfl
theorem jf0:(Rows.facesColumnsRow.wf (OpenSpec.ofChange Rows.facesColumnsSpec))=true:=by kernel_rfl
theorem jf1:(laidOutB Tryz.prog)=true:=by kernel_rfl
theorem jf2:(mapsRowed Tryz.prog)=true:=by kernel_rfl
theorem jf3:(Tryz.f4.params.all (Tryz.prog.readableRec ·))=true:=by kernel_rfl
theorem jf4:(namedTie Tryz.prog Rows.facesColumnsRow.named Rows.facesColumnsSpec.vars)=true:=by kernel_rfl
theorem jf5:((Rows.facesColumnsRow.stops == []))=true:=by kernel_rfl
theorem jf6:((Tryz.prog.stops == []))=true:=by kernel_rfl
theorem jf7:((Rows.facesColumnsRow.knobs == []))=true:=by kernel_rfl
theorem jf8:((Tryz.prog.stopKnobs == []))=true:=by kernel_rfl
theorem jf9:((Rows.facesColumnsRow.inPlace == Tryz.prog.inPlace 4))=true:=by kernel_rfl
theorem aLp:((Rows.facesColumnsRow.unfollowed == Tryz.prog.unfollowed 4))=true:=by kernel_rfl
theorem aKB:((Rows.facesColumnsRow.recurses == Tryz.prog.recurses 4))=true:=by kernel_rfl
theorem aKL:((Rows.facesColumnsRow.named == Tryz.prog.varsNamed 4))=true:=by kernel_rfl
theorem aKz:((Rows.facesColumnsRow.maps == (Tryz.f4.params.toList++Rows.facesColumnsSpec.plain.varTypes Tryz.prog).any (Tryz.prog.mapsRec ·)))=true:=by kernel_rfl
theorem aLO:((Rows.facesColumnsRow.ifaces == (Tryz.f4.params.toList++Rows.facesColumnsSpec.plain.varTypes Tryz.prog).any (Tryz.prog.ifacesRec ·)))=true:=by kernel_rfl
theorem aLT:((Rows.facesColumnsRow.mapsOut == Tryz.prog.mapsAmong Tryz.f4.resultTypes.toList))=true:=by kernel_rfl
theorem aKU:((Rows.facesColumnsRow.loops == (Tryz.f4.params.toList++Rows.facesColumnsSpec.plain.varTypes Tryz.prog).any (Tryz.prog.loopsFrom ·)))=true:=by kernel_rfl
theorem aKG:((Rows.facesColumnsRow.wideKeys == (Tryz.f4.params.toList++Rows.facesColumnsSpec.plain.varTypes Tryz.prog++Tryz.f4.resultTypes.toList).any (Tryz.prog.wideKeysFrom ·)))=true:=by kernel_rfl
theorem aKO:(Rows.facesColumnsSpec.vars.all (Tryz.prog.varReadable ·))=true:=by kernel_rfl
theorem aKr:(Tryz.f4.resultTypes.all (fun t=>Tryz.prog.readableRec t&&decide (t<Tryz.prog.types.size)))=true:=by kernel_rfl
theorem aLL:((Rows.facesColumnsRow.ifacesOut == Tryz.f4.resultTypes.toList.any (Tryz.prog.ifacesRec ·)))=true:=by kernel_rfl
theorem aLe:((Rows.facesColumnsRow.loopsOut == Tryz.f4.resultTypes.toList.any (Tryz.prog.loopsFrom ·)))=true:=by kernel_rfl
theorem aM1:((Rows.facesColumnsRow.plainKeys == Tryz.prog.plainKeys))=true:=by kernel_rfl
theorem aLU:(Rows.facesColumnsRow.shortTexts.isNone)=true:=by kernel_rfl
theorem aLG:(Tryz.prog.stopsHeard)=true:=by kernel_rfl
theorem aLb:(Tryz.prog.mayEnter)=true:=by kernel_rfl
theorem aLR:((Rows.facesColumnsRow.lifted == Tryz.prog.liftsFinal))=true:=by kernel_rfl
theorem aL4:((Tryz.prog.make == some Rows.facesColumnsRow.make))=true:=by kernel_rfl
theorem aKp:((Rows.facesColumnsRow.pinned == Rows.facesColumnsRow.pinnedBy))=true:=by kernel_rfl
theorem aLg:((Rows.facesColumnsRow.veiled == (Tryz.f4.params.toList++Rows.facesColumnsSpec.plain.varTypes Tryz.prog++Tryz.f4.resultTypes.toList).any (Tryz.prog.veiledRec ·)))=true:=by kernel_rfl
theorem aLF:(Rows.facesColumnsRow.veiledFits Tryz.prog Tryz.f4.params.toList (Tryz.f4.params.toList++Rows.facesColumnsSpec.plain.varTypes Tryz.prog++Tryz.f4.resultTypes.toList))=true:=by kernel_rfl
end Go.Proofs.YtjahkcbdecgbhaaGreat
end

noncomputable section
namespace Go.Aw
set_option maxRecDepth 100000
set_option maxHeartbeats 2000000
structure WA (h:Heap) (p:Nat) (l:List Pt) (m:List Ed) (n:Int):Prop where
 ok:eK l m n=true
 sm:l.length≤1000∧m.length≤1000
 ex:∃ k0 k1 kd kt kf nm c1 c2,vR h p k0 k1 kd kt kf nm l (bC l m m.length) (outs l m) m.length c1 c2 n (some ((bC l m m.length).length,(bC l m m.length).length)) ∧
  (∃ wr g sz cs,look h k1=some (.cells wr g sz cs)∧cs.take (flat aU.fl m).length=flat aU.fl m)∧(∃ wr g sz cs,look h kf=some (.cells wr g sz cs)∧cs.take (flat aO.fl (dR l m).face).length=flat aO.fl (dR l m).face)
theorem WA.ext {W h:Heap}{p:Nat}{l:List Pt}{m:List Ed}{n:Int}(hw:WA W p l m n)(hx:∀ k o,look W k=some o→look h k=some o):WA h p l m n:=by
 obtain⟨ok,sm,k0,k1,kd,kt,kf,nm,c1,c2,w,⟨w1,g1,s1,x1,a1,b1⟩,w2,g2,s2,x2,a2,b2⟩:=hw;obtain⟨⟨w3,g3,s3,a3⟩,⟨w4,g4,s4,x4,a4,b4⟩,⟨w5,g5,s5,x5,a5,b5⟩,⟨w6,g6,s6,a6⟩,h4⟩:=w;refine⟨ok,sm,k0,k1,kd,kt,kf,nm,c1,c2,⟨⟨_,_,_,hx _ _ a3⟩,⟨_,_,_,_,hx _ _ a4,b4⟩,⟨_,_,_,_,hx _ _ a5,b5⟩,⟨_,_,_,hx _ _ a6⟩,fun i hi h0=>?_⟩,⟨_,_,_,_,hx _ _ a1,b1⟩,_,_,_,_,hx _ _ a2,b2⟩;obtain⟨w7,g7,s7,x7,a7,b7⟩:=h4 i hi h0;exact⟨_,_,_,_,hx _ _ a7,b7⟩
def wH (nx:Nat)(l:List Pt)(m:List Ed)(c1 c2:Nat)(n:Int):Heap:=mU nx (X2 l m c1 c2 n)
theorem aHi {l:List Pt}{m:List Ed}{c1 c2:Nat}{n:Int}(hl:l.length≤1000){k:Nat}{o:aV}(hk:look (X2 l m c1 c2 n) k=some o):k<2004 :=
 (J7 hl k o (KM k o hk)).1
theorem aJM {nx:Nat}{l:List Pt}{m:List Ed}{c1 c2:Nat}{n:Int}(hl:l.length≤1000){k:Nat}{o:aV}(hk:look (wH nx l m c1 c2 n) k=some o):nx≤k∧k<nx+2004:=by
 obtain⟨j,o',e1,e2,_⟩:=lK _ hk;have:=aHi hl e2;omega
theorem aEZ {nx:Nat}{l:List Pt}{m:List Ed}{c1 c2:Nat}{n:Int}(hl:l.length≤1000){k:Nat}(hk:k<nx∨nx+2004≤k):look (wH nx l m c1 c2 n) k=none:=by
 cases h:look (wH nx l m c1 c2 n) k with
 |none=>rfl
 |some o=>exfalso;have:=aJM hl h;omega
theorem EJ {nx:Nat}{l:List Pt}{m:List Ed}{c1 c2:Nat}{n:Int}{j:Nat}{o:aV}(h:look (u6 l m) j=some o)(h1:j≠4)(h2:j≠2000):look (wH nx l m c1 c2 n) (nx+(3+j))=some (TR nx (TR 3 o)):=by
 refine j3 _ ?_;unfold X2;rw [bD (by omega),bD (by omega)];exact j3 _ h
theorem aIx {nx:Nat}{l:List Pt}{m:List Ed}{c1 c2:Nat}{n:Int}(ho:eK l m n=true)(hs:l.length≤1000∧m.length≤1000):WA (wH nx l m c1 c2 n) (nx+7) l m n:=by
 have hfl:∀ {α:Type} (E:El α) (x:List α) (k:Nat),(flat E.fl x).map (bS fun i=>k+i)=flat E.fl x:=fun E x k=>bL (aF E x);have hst:look (wH nx l m c1 c2 n) (nx+7)=some (.cells true false 1 (IA (nx+3) (nx+4) (nx+9) (nx+8) (nx+2003) l.length m.length (bC l m m.length).length (outs l m).length c1 c2 n (some ((bC l m m.length).length,(bC l m m.length).length)))):=by
  refine (j3 _ (o:=OM (XU l m c1 c2 n) (.slice (some ⟨2003,0,none⟩) (bC l m m.length).length (bC l m m.length).length)) rfl).trans ?_;rfl
 refine⟨ho,hs,nx+3,nx+4,nx+9,nx+8,nx+2003,fun i=>nx+(3+(i+1000)),c1,c2,⟨⟨_,_,_,hst⟩,⟨_,_,_,_,EJ (j:=0) rfl (by omega) (by omega),?_⟩,⟨_,_,_,_,EJ (j:=6) rfl (by omega) (by omega),?_⟩,⟨true,false,1,?_⟩,fun i hi h0=>⟨true,false,1,flat aO.fl (bK (outs l m) i),?_,List.take_length⟩⟩,⟨_,_,_,_,EJ (j:=1) rfl (by omega) (by omega),?_⟩,⟨true,false,1,flat aO.fl (dR l m).face,?_,List.take_length⟩⟩
 ·rw [hfl,hfl];exact List.take_length
 ·rw [hfl,hfl];exact List.take_length
 ·rw [EJ (j:=5) (o:=.cells true false 1 (tC (outs l m).length (outs l m))) rfl (by omega) (by omega)];show some (aV.cells true false 1 (((tC (outs l m).length (outs l m)).map (bS fun k=>3+k)).map (bS fun k=>nx+k)))=_;unfold tC;rw [List.map_map,List.map_map];congr 2;refine List.map_congr_left fun i hi=>?_;show bS _ (bS _ (tV (tN (outs l m).length i) (bK (outs l m) i)))=_;rw [D6,D6];unfold tN;rw [if_neg (by have:=List.mem_range.1 hi;omega)]
 ·have hil:i<l.length:=(by rw [fK] at hi;exact hi);have:look (u6 l m) (i+1000)=some (ob (bK (outs l m) i)):=by
   unfold u6;rw [bD (by omega),bD (by omega),bD (by omega),bD (by omega)];exact kB (by omega) h0 hi
  rw [EJ this (by omega) (by omega)];show some (aV.cells true false 1 (((flat aO.fl (bK (outs l m) i)).map (bS fun k=>3+k)).map (bS fun k=>nx+k)))=_;rw [hfl,hfl]
 ·rw [hfl,hfl];exact List.take_length
 ·refine (j3 (X2 l m c1 c2 n) (j:=2003) (o:=.cells true false 1 (flat aO.fl (dR l m).face)) rfl).trans ?_;show some (aV.cells true false 1 ((flat aO.fl (dR l m).face).map (bS fun k=>nx+k)))=_;rw [hfl]
def wN (nx:Nat)(l:List Pt)(m:List Ed)(c1 c2:Nat)(n:Int)(T:List Value)(W:Heap):Heap :=
 (nx+7,.cells true false 1 (IA (nx+3) (nx+4) (nx+9) (nx+8) (nx+2003) l.length m.length (bC l m m.length).length (outs l m).length c1 c2 n (some ((bC l m m.length).length,(bC l m m.length).length)))) ::
 (nx+2003,.cells true false 1 (flat aO.fl (dR l m).face))::(nx+9,.cells true false 5 (flat rK.fl (bC l m m.length)))::(nx+8,.cells true false 1 T)::(nx+3,.cells false true aQ.sz (flat aQ.fl l))::(nx+4,.cells false true aU.sz (flat aU.fl m))::W
def wTb (nx:Nat)(l:List Pt)(m:List Ed):List Value:=((tC (outs l m).length (outs l m)).map (bS fun k=>3+k)).map (bS fun k=>nx+k)
def wT (nx:Nat)(l:List Pt)(m:List Ed):Heap:=mU nx (mU 3 (tH (outs l m).length (outs l m) (outs l m).length))
theorem TI {nx:Nat}{l:List Pt}{m:List Ed}{c1 c2:Nat}{n:Int}:wH nx l m c1 c2 n=wN nx l m c1 c2 n (wTb nx l m) (wT nx l m):=by
 have hfl:∀ {α:Type} (E:El α) (x:List α) (k:Nat),(flat E.fl x).map (bS fun i=>k+i)=flat E.fl x:=fun E x k=>bL (aF E x);unfold wN;rw [show IA (nx+3) (nx+4) (nx+9) (nx+8) (nx+2003) l.length m.length (bC l m m.length).length (outs l m).length c1 c2 n (some ((bC l m m.length).length,(bC l m m.length).length))=(IA 3 4 9 8 2003 l.length m.length (bC l m m.length).length (outs l m).length c1 c2 n (some ((bC l m m.length).length,(bC l m m.length).length))).map (bS fun i=>nx+i) from rfl];have e1:=(hfl aO (dR l m).face nx).symm;have e2:flat rK.fl (bC l m m.length)=((flat rK.fl (bC l m m.length)).map (bS fun i=>3+i)).map (bS fun i=>nx+i):=(by rw [hfl,hfl]);have e3:flat aQ.fl l=((flat aQ.fl l).map (bS fun i=>3+i)).map (bS fun i=>nx+i):=(by rw [hfl,hfl]);have e4:flat aU.fl m=((flat aU.fl m).map (bS fun i=>3+i)).map (bS fun i=>nx+i):=(by rw [hfl,hfl]);rw [e1,e2,e3,e4];rfl
theorem aIO {nx:Nat}{l:List Pt}{m:List Ed}{c1 c2:Nat}{n:Int}(ho:eK l m n=true)(hs:l.length≤1000∧m.length≤1000):WA (wN nx l m c1 c2 n (wTb nx l m) (wT nx l m)) (nx+7) l m n:=TI▸aIx ho hs
theorem aED {nx:Nat}{l:List Pt}{m:List Ed}{c1 c2:Nat}{n:Int}(hl:l.length≤1000){k:Nat}(hk:k<nx∨nx+2004≤k):look (wN nx l m c1 c2 n (wTb nx l m) (wT nx l m)) k=none:=TI▸aEZ hl hk
def aHc:Nat × XF:=(69,fun args h nx K=>∃ l m n p q,args=[mapA p q n]∧gZ aQ h p l∧gZ aU h q m∧(l.length≤1000∧m.length≤1000) ∧
 ((eK l m n=true∧K (.tuple #[.pointer (some ⟨nx+7,0,none⟩),iv 0]) (app (eD h) (wN nx l m (pB p) (pB q) n (wTb nx l m) (wT nx l m))) (nx+2004))∨(eK l m n=false∧K (.tuple #[.pointer none,iv 1]) h nx)))
theorem YE {ι:Nat→Loc}{B:Nat}{h h':Heap}{nx:Nat}{w:World}(H:aR ι B h nx w)(e:∀ k,look h' k=look h k):aR ι B h' nx w :=
 ⟨fun k o hk=>H.obj k o (by rw [← e];exact hk),fun k k' o o' hk hk'=>H.sep k k' o o' (by rw [← e];exact hk) (by rw [← e];exact hk'),fun k o hk=>H.low k o (by rw [← e];exact hk),H.size,fun k o hk=>H.sc k o (by rw [← e];exact hk)⟩
theorem aLf:cO Go.Proofs.Tryz.prog aHc.1 aHc.2:=by
 refine⟨fun args h nx K hx ι B w H hs=>?_,fun args h nx K hx=>?_⟩
 ·obtain⟨l,m,n,p,q,rfl,hl,hm,hlm,hx⟩:=hx;rw [← TI] at hx;have h0:=aLS.1 [mapA p q n] h nx (fun v h' nx'=>∃ h'',(∀ k,look h'' k=look h' k)∧K v h'' nx') ⟨l,m,n,p,q,rfl,hl,hm,hlm,by
   rcases hx with ⟨ho,hx⟩|⟨ho,hx⟩
   ·refine .inl ⟨ho,_,fun k=>?_,hx⟩;rw [gF,gF,jV];cases e1:look h k with
    |none =>
     show look (wH nx l m (pB p) (pB q) n) k=_;cases e2:look (mU nx (X2 l m (pB p) (pB q) n)) k with
     |none=>exact e2
     |some o=>exact e2
    |some o =>
     have hlow:=H.low k o e1;have e2:look (mU nx (X2 l m (pB p) (pB q) n)) k=none:=aEZ hlm.1 (.inl hlow);rw [e2];rfl
   ·exact .inr ⟨ho,_,fun k=>rfl,hx⟩⟩ ι B w H hs
  refine⟨h0.1,CallsIn.mono h0.2 fun e w' hr=>?_⟩;cases e with
  |returned u =>
   obtain⟨v,h1,nx1,ι1,⟨h2,e2,hk⟩,a1,a2,a3,a4,a5,a6⟩:=hr;exact⟨v,h2,nx1,ι1,hk,a1,YE a2 e2,a3,a4,a5,a6⟩
  |_=>exact hr.elim
 ·obtain⟨l,m,n,p,q,rfl,hl,hm,hlm,hx⟩:=hx;rcases hx with ⟨ho,hx⟩|⟨ho,hx⟩
  ·exact⟨_,_,_,hx,fun K' hk=>⟨l,m,n,p,q,rfl,hl,hm,hlm,.inl ⟨ho,hk⟩⟩⟩
  ·exact⟨_,_,_,hx,fun K' hk=>⟨l,m,n,p,q,rfl,hl,hm,hlm,.inr ⟨ho,hk⟩⟩⟩
def aAv (nx:Nat):Heap→Bool
 |[]=>true
 |(k,_)::r=>Nat.blt k nx&&aAv nx r
theorem zT {nx:Nat}:∀ {H:Heap},aAv nx H=true→∀ k o,look H k=some o→k<nx
 |[],_,k,o,h=>by cases h
 |(j,q)::r,hl,k,o,h=>by
  simp only [aAv,Bool.and_eq_true] at hl;rw [aD] at h;split at h
  ·rename_i hb;rw [← beq_true hb];exact Nat.le_of_ble_eq_true hl.1
  ·exact zT hl.2 k o h
theorem aHu {H W:Heap}{p nx:Nat}{l:List Pt}{m:List Ed}{n:Int}(hw:WA W p l m n)(hno:∀ k,k<nx→look W k=none)(hH:aAv nx H=true):WA (app H W) p l m n :=
 hw.ext fun k o hk=>by
  rw [gF];cases hh:look H k with
  |none=>exact hk
  |some o'=>rw [hno k (zT hH k o' hh)] at hk;cases hk
theorem aGi {h:Heap}{p q:Nat}{v:aV}{l:List Pt}{m:List Ed}{n:Int}(hw:WA h p l m n)(hq:look h q=none):WA (bO h q v) p l m n:=hw.ext (ext_cons (fun _ _ h=>h) hq)
theorem aE3 {H W:Heap}{nx k:Nat}(hH:aAv nx H=true)(hk:nx≤k)(hW:look W k=none):look (app H W) k=none:=by
 rw [gF];cases hh:look H k with
 |none=>exact hW
 |some o'=>have:=zT hH k o' hh;omega
def aKg (xl:List (Nat × XF))(k:Nat):CM:={ aA with X:=look xl,M:=k }
theorem aEt {xl:List (Nat × XF)}(h:kM xl)(k:Nat):pU Go.Proofs.Tryz.prog (aKg xl k) where
 ar:=gE.ar
 tab:=gE.tab
 mixed:=gE.mixed
 funcs:=gE.funcs
 xs:=h.look
def isB (n a:Int):Bool:=decide (0≤a)&&decide (a≤n)
theorem kR {l:List Pt}{m:List Ed}{n:Int}(h:eK l m n=true):cX l m n=true:=by
 simp only [eK,gI,Bool.and_eq_true] at h;exact h.1.1
def aF4 (l:List Pt)(m:List Ed)(n d:Int):Bool:=eK l m n&&(decide (0≤d)&&decide (d<2*m.length))
def nxP (l:List Pt)(m:List Ed)(n:Int):List Value→Option (Bool × Value)
 |[.int .i64 d]=>some (decide (l.length≤1000)&&decide (m.length≤1000),.tuple #[iv (if aF4 l m n d=true then A8 (bC l m m.length) (outs l m) d else 0),iv (if aF4 l m n d=true then 0 else 1)])
 |_=>none
def aKk:Nat × XF:=(22,mX aQ aU nxP)
end Go.Aw
end

noncomputable section
namespace Go.Aw
set_option maxRecDepth 100000
section
variable {l:List Pt}{m:List Ed}{n:Int}
structure Hs (l:List Pt) (m:List Ed) (t:PO):Prop where
 seen:t.seen.length=2*m.length
 face:t.face.length=2*m.length
 cl:∀ i:Nat,i<2*m.length→cU t.seen i=true→cU t.seen (A8 (bC l m m.length) (outs l m) i).toNat=true
 has:∀ f:Int,(1≤f∧f≤t.many)∨(f=0∧1≤t.out)→∃ i,i<2*m.length∧cU t.seen i=true∧aM t.face i=f
 low:0≤t.many
theorem aDE {D:List Dt}{ls:List (List Int)}{d:Int}{t:Nat}(h:t<o9 D ls d):aM (xA D ls d) t=pI D ls d t:=by
 unfold xA aM;rw [List.getD_eq_getElem?_getD,List.getElem?_map,List.getElem?_range h];rfl
theorem RP {D:List Dt}{ls:List (List Int)}{d:Int}:(xA D ls d).length=o9 D ls d:=by simp [xA]
theorem aCn (hok:cX l m n=true){t:PO}(h:Hs l m t){d:Nat}(hd:d<2*m.length):Hs l m (m9 l (bC l m m.length) (outs l m) t d):=by
 unfold m9;cases hs:cU t.seen d with
 |true=>rw [if_pos rfl];exact h
 |false =>
  rw [if_neg (by decide)];simp only;have hin:=BN hok (d:=(d:Int)) (by omega) (by omega);have hT:pI (bC l m m.length) (outs l m) d (o9 (bC l m m.length) (outs l m) d)=d:=by
   have hw:=List.all_eq_true.1 (KG hok) d (List.mem_range.2 (by rw [bR];exact hd));exact of_decide_eq_true hw
  have hT1:1≤o9 (bC l m m.length) (outs l m) d:=by
   have:=(nY (bC l m m.length) (outs l m) d (bC l m m.length).length 1).1;unfold o9;omega
  have hget:∀ k,k<o9 (bC l m m.length) (outs l m) d→aM (xA (bC l m m.length) (outs l m) d) k=pI (bC l m m.length) (outs l m) d k:=fun k hk=>aDE hk;have hlen:(xA (bC l m m.length) (outs l m) d).length=o9 (bC l m m.length) (outs l m) d:=RP;generalize xA (bC l m m.length) (outs l m) d=W at hget hlen ⊢;generalize o9 (bC l m m.length) (outs l m) d=T at *;have hr:∀ k,k<W.length→(aM W k).toNat<2*m.length:=fun k hk=>by
   rw [hget k (by omega)];have:=hin k;omega
  -- what was seen lies in no walk of what was not
  have hdis:∀ k,k<W.length→cU t.seen (aM W k).toNat=true→False:=fun k hk hsk=>by
   rw [hget k (by omega)] at hsk;have hf:∀ j,cU t.seen (pI (bC l m m.length) (outs l m) d (k+j)).toNat=true:=by
    intro j
    induction j with
    |zero=>exact hsk
    |succ j ih =>
     have hi:=hin (k+j);have:=h.cl (pI (bC l m m.length) (outs l m) d (k+j)).toNat (by omega) ih;rw [Int.toNat_of_nonneg hi.1] at this;exact this
   have:=hf (T - k);rw [show k+(T - k)=T by omega,hT,Int.toNat_natCast,hs] at this;cases this
  generalize JB l (bC l m m.length) W W.length=A;have hsee:∀ i,(∃ k,k<W.length∧(aM W k).toNat=i)→cU (fJ t.seen W W.length) i=true:=fun i hi=>(qJ t.seen W (by rw [h.seen];exact hr) i _ (Nat.le_refl _)).1 hi;have hkeep:∀ i,cU t.seen i=true→cU (fJ t.seen W W.length) i=true:=fun i hi=>by
   by_cases e:∃ k,k<W.length∧(aM W k).toNat=i
   ·exact hsee i e
   ·rw [(qJ t.seen W (by rw [h.seen];exact hr) i _ (Nat.le_refl _)).2 e];exact hi
  have hold:∀ (fc f:Int),(∃ i,i<2*m.length∧cU t.seen i=true∧aM t.face i=f)→∃ i,i<2*m.length∧cU (fJ t.seen W W.length) i=true∧aM (dQ t.face W fc W.length) i=f:=fun fc f ⟨i,a1,a2,a3⟩=>by
   refine⟨i,a1,hkeep i a2,?_⟩;rw [(yH t.face W fc (by rw [h.face];exact hr) i _ (Nat.le_refl _)).2 fun ⟨k,b1,b2⟩=>hdis k b1 (by rw [b2];exact a2)];exact a3
  have hd0:∃ k,k<W.length∧(aM W k).toNat=d:=⟨0,by omega,by rw [hget 0 (by omega)];rfl⟩;have hnew:∀ fc:Int,∃ i,i<2*m.length∧cU (fJ t.seen W W.length) i=true∧aM (dQ t.face W fc W.length) i=fc:=fun fc =>
   ⟨d,hd,hsee d hd0,(yH t.face W fc (by rw [h.face];exact hr) d _ (Nat.le_refl _)).1 hd0⟩
  refine⟨by rw [kC];exact h.seen,by rw [eX];exact h.face,fun i hi hsi=>?_,fun f hf=>?_,?_⟩
  ·by_cases e:∃ k,k<W.length∧(aM W k).toNat=i
   ·obtain⟨k,b1,b2⟩:=e;have hk:=hin k;rw [hget k (by omega)] at b2;have e2:(i:Int)=pI (bC l m m.length) (outs l m) d k:=(by omega);rw [e2];show cU (fJ t.seen W W.length) (pI (bC l m m.length) (outs l m) d (k+1)).toNat=true;by_cases hl:k+1=T
    ·rw [hl,hT,Int.toNat_natCast];exact hsee d hd0
    ·exact hsee _ ⟨k+1,by omega,by rw [hget (k+1) (by omega)]⟩
   ·have:=hsi;rw [(qJ t.seen W (by rw [h.seen];exact hr) i _ (Nat.le_refl _)).2 e] at this;exact hkeep _ (h.cl i hi this)
  ·have hlow:=h.low;by_cases hA:0<A
   ·simp only [if_pos hA] at hf ⊢;rcases hf with ⟨f1,f2⟩|f2
    ·by_cases e:f=t.many+1
     ·rw [e];exact hnew _
     ·exact hold _ f (h.has f (.inl ⟨f1,by omega⟩))
    ·exact hold _ f (h.has f (.inr f2))
   ·simp only [if_neg hA] at hf ⊢;rcases hf with f2|⟨f1,f2⟩
    ·exact hold _ f (h.has f (.inl f2))
    ·rw [f1];exact hnew 0
  ·have:=h.low;show 0≤if 0<A then t.many+1 else t.many
   split <;> omega
theorem ZQ (hok:cX l m n=true):∀ d,d≤2*m.length→Hs l m (dC l (bC l m m.length) (outs l m) d)
 |0,_=>by
  refine⟨by simp [dC,bR],by simp [dC,bR],fun i hi h=>?_,fun f hf=>?_,Int.le_refl 0⟩
  ·unfold dC cU at h;rw [List.getD_eq_getElem?_getD,List.getElem?_replicate,bR,if_pos hi] at h;cases h
  ·have hf:(1≤f∧f≤0)∨(f=0∧(1:Int)≤0):=hf;omega
 |d+1,h=>aCn hok (ZQ hok d (by omega)) (by omega)
theorem OS (x:Int):∀ (L:List Int) (i:Nat),(∃ k,k<L.length∧aM L k=x)→∃ k,k<L.length∧aM L k=x∧(∀ j,j<k→aM L j≠x)∧qV x L i=((i+k:Nat):Int)
 |[],i,⟨k,h,_⟩=>by cases h
 |b::r,i,⟨k,h1,h2⟩=>by
  unfold qV;by_cases e:x=b
  ·rw [if_pos e];exact⟨0,Nat.succ_pos _,e.symm,fun j hj=>absurd hj (Nat.not_lt_zero j),rfl⟩
  ·rw [if_neg e];cases k with
   |zero=>exact absurd h2.symm e
   |succ k =>
    obtain⟨q,a1,a2,a3,a4⟩:=OS x r (i+1) ⟨k,by simpa using h1,h2⟩;refine⟨q+1,by simpa using a1,a2,fun j hj=>?_,by rw [a4];congr 1;omega⟩;cases j with
    |zero=>exact fun hb=>e hb.symm
    |succ j=>exact a3 j (by omega)
theorem aA1 (ho:eK l m n=true){f:Int}(h0:0≤f)(h1:f≤n):∃ k,k<2*m.length∧aM (dR l m).face k=f∧(∀ j,j<k→aM (dR l m).face j≠f)∧qV f (dR l m).face 0=(k:Int):=by
 have ho':=ho;simp only [eK,gI,Bool.and_eq_true,decide_eq_true_eq] at ho';obtain⟨⟨hok,_⟩,_,hn,hmn,_⟩:=ho';have hs:=ZQ hok (2*m.length) (Nat.le_refl _);have e:dC l (bC l m m.length) (outs l m) (2*m.length)=dR l m:=(by unfold dR nmD;rw [bR]);rw [e] at hs;simp only [zU,Bool.and_eq_true,decide_eq_true_eq] at hn;obtain⟨i,a1,a2,a3⟩:=hs.has f (by
  by_cases e0:f=0
  ·exact .inr ⟨e0,by omega⟩
  ·exact .inl ⟨by omega,by omega⟩)
 obtain⟨k,b1,b2,b3,b4⟩:=OS f (dR l m).face 0 ⟨i,by rw [hs.face];exact a1,a3⟩;exact⟨k,by rw [hs.face] at b1;exact b1,b2,b3,by rw [b4,Nat.zero_add]⟩
end
end Go.Aw
end

noncomputable section
namespace Go.Aw
set_option maxRecDepth 100000
set_option maxHeartbeats 2000000
def WW (l:List Pt)(m:List Ed)(f:Int):List Int:=xA (bC l m m.length) (outs l m) (qV f (dR l m).face 0)
def MI (l:List Pt)(m:List Ed)(n f:Int):Bool:=eK l m n&&(decide (0≤f)&&decide (f≤n))
def a2P (l:List Pt)(m:List Ed)(n:Int):List Value→Option (Bool × Value)
 |[.int .i64 f]=>some (decide (l.length≤1000)&&decide (m.length≤1000),.tuple #[iv (if MI l m n f=true then JB l (bC l m m.length) (WW l m f) (WW l m f).length else 0),iv (if MI l m n f=true then 0 else 1)])
 |_=>none
theorem aJc {l:List Pt}{m:List Ed}{n f:Int}(ho:eK l m n=true)(h0:0≤f)(h1:f≤n):∃ d:Int,qV f (dR l m).face 0=d∧0≤d∧d<2*m.length∧vC l (bC l m m.length) (outs l m)=true∧pI (bC l m m.length) (outs l m) d (o9 (bC l m m.length) (outs l m) d)=d∧YL (bC l m m.length) (xA (bC l m m.length) (outs l m) d)=true∧1≤(xA (bC l m m.length) (outs l m) d).length∧(xA (bC l m m.length) (outs l m) d).length≤2*m.length+1:=by
 obtain⟨k,b1,b2,b3,b4⟩:=aA1 ho h0 h1;have hok:=kR ho;have hw:=List.all_eq_true.1 (KG hok) k (List.mem_range.2 (by rw [bR];exact b1));have w:=QM (l:=l) (L7 hok) (d:=k) (by rw [bR];exact b1);have p:=nY (bC l m m.length) (outs l m) k (bC l m m.length).length 1;refine⟨k,b4,by omega,by omega,L7 hok,of_decide_eq_true hw,w.1,?_,?_⟩
 ·exact w.2.2
 ·have:=w.2.1;rw [bR] at this;exact this
def aKC:Nat × XF:=(26,mX aQ aU a2P)
def mRX (s:List Pt→List Ed→Int→List Value→Option (Bool × List Int × Option Int)):XF:=fun args h nx K=>∃ p q n r l m,args=mapA p q n::r∧gZ aQ h p l∧gZ aU h q m ∧
 (match s l m n r with|some pr=>dK pr.1 (PB aO pr.2.1 pr.2.2 h nx K)|none=>False)
theorem aBH {P:Program}{C:VC}{f:Nat}{s:List Pt→List Ed→Int→List Value→Option (Bool × List Int × Option Int)}(hC:bG P C)
  (hs:∀ l m n r out e,s l m n r=some (true,out,e)→eH r=true∧∀ c1 c2,C f (aE l.length m.length c1 c2 n::r) (aB aQ aU l m) 2 (Yields aO out e)):cO P f (mRX s):=by
 refine (Q6 aO (T:=fun args0 h0 n0 out e=>C f args0 h0 n0 (Yields aO out e)) hC ?_).mono ?_ ?_
 ·rintro args0 h0 n0 out e hc;exact hc
 ·rintro args h nx K ⟨p,q,n,r,l,m,rfl,hl,hm,hx⟩;split at hx
  case h_2=>exact hx.elim
  rename_i pr e1;obtain⟨bb,out,e⟩:=pr;obtain⟨rfl,hx⟩:=aG.1 hx;obtain⟨a1,a3⟩:=hs l m n r out e e1;obtain⟨c1,c2,i⟩:=K6 (n:=n) (nx:=nx) aQ aU a1 hl hm;exact K1 aO (a3 c1 c2) i hx
 ·rintro args h nx K ⟨p,q,n,r,l,m,rfl,hl,hm,hx⟩;split at hx
  case h_2=>exact hx.elim
  rename_i pr e1;obtain⟨bb,out,e⟩:=pr;obtain⟨hb,hx⟩:=aG.1 hx;cases out with
  |nil=>exact⟨_,_,_,hx,fun K' hk'=>⟨p,q,n,r,l,m,rfl,hl,hm,by rw [e1];exact aJ hb hk'⟩⟩
  |cons a t=>exact⟨_,_,_,hx,fun K' hk'=>⟨p,q,n,r,l,m,rfl,hl,hm,by rw [e1];exact aJ hb hk'⟩⟩
theorem WM {l:List Pt}{m:List Ed}{c1 c2 b:Nat}{n:Int}{cs:List Value}(hc:dF cs=true):vB (eD (bO (bO (bO (aB aQ aU l m) 2 (.cells true false 1 [.slice (some ⟨0,0,none⟩) l.length c1,.slice (some ⟨1,0,none⟩) m.length c2,iv n])) 3 (.cells true false 1 cs)) 4 (.cells true false 1 [.slice (some ⟨0,0,none⟩) l.length c1,.slice (some ⟨1,0,none⟩) m.length c2,iv n]))) (b+5):=by
 have hb:∀ {b},5≤b→bX id b (.cells true false 1 [.slice (some ⟨0,0,none⟩) l.length c1,.slice (some ⟨1,0,none⟩) m.length c2,iv n]) (.cells true false 1 [.slice (some ⟨0,0,none⟩) l.length c1,.slice (some ⟨1,0,none⟩) m.length c2,iv n]):=fun {b} h =>
  ⟨rfl,rfl,rfl,rfl,List.forall_mem_cons.2 ⟨⟨Nat.lt_of_lt_of_le (by decide:0<5) h,fun h=>by cases h⟩,List.forall_mem_cons.2 ⟨⟨Nat.lt_of_lt_of_le (by decide:1<5) h,fun h=>by cases h⟩,List.forall_mem_cons.2 ⟨cG rfl,fun _ h=>(by cases h)⟩⟩⟩⟩
 refine MP ?_ rfl;exact bY (bY (bY (bY (bY (fun k o hk=>by cases hk) (by omega) (aN (aF _ _))) (by omega) (aN (aF _ _))) (by omega) (hb (by omega))) (by omega) (aN hc)) (by omega) (hb (by omega))
theorem aGd {nx:Nat}{l:List Pt}{m:List Ed}{c1 c2:Nat}{n:Int}(hl:l.length≤1000):vB (wN nx l m c1 c2 n (wTb nx l m) (wT nx l m)) (nx+2004):=by
 rw [← TI];exact QR (n:=nx) (W:=X2 l m c1 c2 n) (b:=2004) (fun k o hk=>J7 hl k o (KM k o hk)) (AI 3 rD)
def H5 (l:List Pt)(m:List Ed)(n:Int)(c1 c2:Nat)(cs:List Value):Heap :=
 app (eD (bO (bO (bO (aB aQ aU l m) 2 (.cells true false 1 [.slice (some ⟨0,0,none⟩) l.length c1,.slice (some ⟨1,0,none⟩) m.length c2,iv n])) 3 (.cells true false 1 cs)) 4 (.cells true false 1 [.slice (some ⟨0,0,none⟩) l.length c1,.slice (some ⟨1,0,none⟩) m.length c2,iv n]))) (wN 5 l m c1 c2 n (wTb 5 l m) (wT 5 l m))
theorem aG7 {l:List Pt}{m:List Ed}{n:Int}{c1 c2:Nat}{cs:List Value}(hl:l.length≤1000)(hc:dF cs=true):vB (H5 l m n c1 c2 cs) 2009:=S4 (WM (b:=2004) hc) (aGd (nx:=5) hl)
theorem aJa {l:List Pt}{m:List Ed}{n:Int}{c1 c2:Nat}{cs:List Value}(ho:eK l m n=true)(hs:l.length≤1000∧m.length≤1000):WA (H5 l m n c1 c2 cs) 12 l m n :=
 aHu (nx:=5) (aIO (nx:=5) ho hs) (fun k hk=>aED hs.1 (.inl hk)) rfl
theorem aIU {l:List Pt}{m:List Ed}{n:Int}{c1 c2:Nat}{cs:List Value}(hl:l.length≤1000){k:Nat}(hk:2009≤k):look (H5 l m n c1 c2 cs) k=none:=aE3 (nx:=5) rfl (by omega) (aED hl (.inr hk))
theorem GL {v:Value}{H' h:Heap}{b n0 nx:Nat}(hv:gP id v=v)(hn:xD n0 v)(hh:∀ k o,look H' k=some o→look h k=some o)(hok:vB H' n0)(hb:b≤n0):∃ ρ,oM b ρ [(0,v)] H' n0 [(0,v)] h nx:=by
 refine⟨id,fun t u hu=>?_,fun k o hk=>⟨(hok k o hk).1,o,hh k o hk,(hok k o hk).2⟩,fun _ _ _ _ _ _ e=>e,fun _ _=>rfl,hb⟩;have hm:=a8 hu;simp only [List.mem_cons,List.not_mem_nil,or_false] at hm;injection hm with e1 e2;subst e1 e2;rw [hv];exact⟨rfl,hn⟩
structure A81 where
 l:List Pt
 m:List Ed
 n:Int
 c1:Nat
 c2:Nat
 f:Int
 b:Bool
def frL (D:List Dt)(L:List Int):Nat→List Int
 |0=>L
 |i+1=>(frL D L i).set i (cA D (aM L i).toNat).fr
theorem TN (D:List Dt)(L:List Int):∀ i,(frL D L i).length=L.length
 |0=>rfl
 |i+1=>by unfold frL;rw [List.length_set];exact TN D L i
def wlI (l:List Pt)(m:List Ed)(f:Int):List Int:=frL (bC l m m.length) (WW l m f) (WW l m f).length
def wlP (l:List Pt)(m:List Ed)(n:Int):List Value→Option (Bool × List Int × Option Int)
 |[.int .i64 f]=>some (decide (l.length≤1000)&&decide (m.length≤1000),if MI l m n f=true then wlI l m f else [],some (if MI l m n f=true then 0 else 1))
 |_=>none
def aKE:Nat × XF:=(24,mRX wlP)
def voS (l:List Pt)(m:List Ed)(n:Int):List Value→Option (Bool × Value)
 |[]=>some (decide (l.length≤1000)&&decide (m.length≤1000),.bool (eK l m n))
 |_=>none
def aHI:Nat × XF:=(70,mX aQ aU voS)
theorem aKh:cO Go.Proofs.Tryz.prog aHI.1 aHI.2:=by
 have e:voS=vaS:=by
  funext l m n r;cases r with
  |nil=>show some (_,Value.bool (eK l m n))=some (_,Value.bool (HW l m n));rw [aB0]
  |cons a r=>rfl
 show cO _ 70 (mX aQ aU voS);rw [e];exact aLA
theorem smB {l:List Pt}{m:List Ed}(h:l.length≤1000∧m.length≤1000):(decide (l.length≤1000)&&decide (m.length≤1000))=true:=by
 rw [decide_eq_true h.1,decide_eq_true h.2];rfl
def aLk:Nat × XF:=(23,mX aQ aU nxP)
def aLP:Nat × XF:=(27,mX aQ aU a2P)
theorem aIV {l:List Pt}{m:List Ed}{n f:Int}(ho:eK l m n=true)(hb:isB n f=true):QY m (WW l m f)=true∧1≤(WW l m f).length∧(WW l m f).length≤10000∧mE l m (WW l m f) (WW l m f).length=JB l (bC l m m.length) (WW l m f) (WW l m f).length:=by
 have hb2:=hb;simp only [isB,Bool.and_eq_true,decide_eq_true_eq] at hb2;obtain⟨d,e1,e2,e3,e4,e5,e6,e7,e8⟩:=aJc ho hb2.1 hb2.2;obtain⟨hM,h3,h1l,h400,m400,_,_⟩:=jF (kR ho);have e:WW l m f=xA (bC l m m.length) (outs l m) d:=(by unfold WW;rw [e1]);rw [e];refine⟨List.all_eq_true.2 fun x hx=>?_,e7,by omega,LV l m e6 _ (Nat.le_refl _)⟩;obtain⟨i,hi,rfl⟩:=List.getElem_of_mem hx;have:=rE e6 hi;rw [dD hi,bR] at this;simp only [pF,Bool.and_eq_true,decide_eq_true_eq];omega
def aKJ:Nat × XF:=(25,mRX wlP)
def smI (l1 l2:List Int):Bool:=decide (l1=l2)
def smS (l1 l2:List Int):Option (Bool × Value):=some (decide (l1.length≤1000000),.bool (smI l1 l2))
def e21 (l1 l2:List Int)(c1 c2:Nat)(j:Int):List (Nat × Value):=[(0,.slice (some ⟨0,0,none⟩) l1.length c1),(1,.slice (some ⟨1,0,none⟩) l2.length c2),(5,iv j)]
def h21 (l1 l2:List Int):Heap:=[(0,.cells false true 1 (flat aO.fl l1)),(1,.cells false true 1 (flat aO.fl l2))]
theorem aHk {l1 l2:List Int}(hl:l1.length=l2.length)(h:∀ k,k<l1.length→aM l1 k=aM l2 k):l1=l2:=by
 refine List.ext_getElem hl fun k h1 h2=>?_;have:=h k h1;rw [dD h1,dD h2] at this;exact this
def aCQ:Nat × XF:=(21,l2X aO smS)
theorem aLu:cO Go.Proofs.Tryz.prog aCQ.1 aCQ.2:=aFN aO (f:=21) (s:=smS) (aL (xl:=[]) .nil) fun l1 l2 v hs=>by
 have hs':l1.length≤1000000∧v=.bool (smI l1 l2):=by
  unfold smS at hs;injection hs with hs;injection hs with h1 h2;exact⟨by simpa using h1,h2.symm⟩
 obtain⟨hlen,rfl⟩:=hs';refine⟨rfl,fun c1 c2=>?_⟩;((conv=>whnf);refine bm (fun h1=>?_) (fun h1=>?_))
 ·(conv=>whnf);have hne:l1≠l2:=by
   intro e;simp [aA,aC,e] at h1
  show Value.bool false=.bool (decide (l1=l2));rw [decide_eq_false hne]
 ·have hll:l1.length=l2.length:=(by simp [aA,aC] at h1;omega);(conv=>whnf);refine⟨fun n e h nx=>∃ (i:Nat) (j:Int),j=i∧i≤l1.length∧n=l1.length - i∧(∀ k,k<i→aM l1 k=aM l2 k)∧e=e21 l1 l2 c1 c2 j∧h=h21 l1 l2∧nx=2,⟨l1.length,?_⟩,?_⟩
  ·refine aK (e0:=e21 l1 l2 c1 c2 0) (h0:=h21 l1 l2) (n0:=2) ⟨0,0,rfl,Nat.zero_le _,rfl,fun k h=>absurd h (Nat.not_lt_zero k),rfl,rfl,rfl⟩ ?_ ?_ (by decide)
   ·unfold e21;((repeat' refine iE rfl rfl ?_);exact iN)
   ·unfold h21;((repeat'(first|refine iF rfl rfl ?_|refine iJ rfl rfl rfl rfl ?_));exact iN)
  ·rintro n e h nx ⟨i,j,hj,hi,rfl,hb,rfl,rfl,rfl⟩;unfold e21 h21;((conv=>whnf);refine bm (fun g1=>?_) (fun g1=>?_))
   ·have hlt:i<l1.length:=(by simp [aA,aC] at g1;omega);((conv=>whnf);refine bm (fun g2=>?_) (fun g2=>?_))
    ·(conv=>whnf);refine iB (fN l1 hlt ?_) ?_
     ·show _+Int.toNat j*1=_;omega
     ((conv=>whnf);refine bm (fun g3=>?_) (fun g3=>?_))
     ·(conv=>whnf);refine iB (fN l2 (i:=i) (by omega) ?_) ?_
      ·show _+Int.toNat j*1=_;omega
      ((conv=>whnf);refine bm (fun g4=>?_) (fun g4=>?_))
      ·(conv=>whnf);have hne:l1≠l2:=by
        intro e;simp [aA,aC,e] at g4
       show Value.bool false=.bool (decide (l1=l2));rw [decide_eq_false hne]
      ·have g4:aM l1 i=aM l2 i:=(by simpa [aA,aC] using g4);((conv=>whnf);refine bm (fun g5=>?_) (fun g5=>?_))
       ·(conv=>whnf);refine⟨l1.length - (i+1),by omega,?_⟩;refine aK (e0:=e21 l1 l2 c1 c2 (j+1)) (h0:=h21 l1 l2) (n0:=2) ⟨i+1,j+1,by omega,hlt,rfl,fun k hk=>?_,rfl,rfl,rfl⟩ ?_ ?_ (by decide)
        ·by_cases hki:k=i
         ·rw [hki];exact g4
         ·exact hb k (by omega)
        ·unfold e21;((repeat' refine iE rfl rfl ?_);exact iN)
        ·unfold h21;((repeat'(first|refine iF rfl rfl ?_|refine iJ rfl rfl rfl rfl ?_));exact iN)
       ·exfalso;simp [aA,aC,aH] at g5;omega
     ·exfalso;simp [aA,aC] at g3;omega
    ·exfalso;simp [aA,aC] at g2;omega
   ·have hge:i=l1.length:=(by simp [aA,aC] at g1;omega);(conv=>whnf);show Value.bool true=.bool (decide (l1=l2));rw [decide_eq_true (aHk hll fun k hk=>hb k (by omega))]
theorem aBf {l:List Pt}{m:List Ed}(h1:(!(decide ((l.length:Int)≤60)&&decide ((m.length:Int)≤60)))=false):l.length≤1000∧m.length≤1000:=by
 have h1:(decide ((l.length:Int)≤60)&&decide ((m.length:Int)≤60))=true:=(by simpa using h1);simp only [Bool.and_eq_true,decide_eq_true_eq] at h1;omega
theorem w5 (l:List Pt)(m:List Ed)(n:Int)(c1 c2:Nat)(d f:Int):body [aBC,X16,aCQ,aKk,aLk,aKE,aKJ,aKC,aLP] 5 [aE l.length m.length c1 c2 n,iv d,iv f] (aB aQ aU l m) 2 (fun v _ _=>v=.bool true):=by
 (conv=>whnf);refine⟨l,m,aI aQ rfl,aI aU rfl,?_⟩;((conv=>whnf);refine bm (fun h1=>?_) (fun h1=>?_))
 ·(conv=>whnf)
 ·have hlm:l.length≤1000∧m.length≤1000:=aBf h1;have hsm:=smB hlm;obtain⟨O,hO⟩:∃ O,(if MI l m n f=true then wlI l m f else [])=O:=⟨_,rfl⟩;have hOl:O.length≤1000000:=by
   rw [← hO];split
   ·rename_i hf;have hf:(eK l m n&&isB n f)=true:=hf;simp only [Bool.and_eq_true] at hf;have:=(aIV hf.1 hf.2).2.2.1;unfold wlI;rw [TN];omega
   ·exact Nat.zero_le _
  have hsame:smI O O=true:=decide_eq_true rfl;(conv=>whnf);refine⟨l,m,aI aQ rfl,aI aU rfl,?_⟩;refine aJ hsm ?_;(conv=>whnf);refine⟨l,m,aI aQ rfl,aI aU rfl,?_⟩;refine aJ hsm ?_;(conv=>whnf);refine⟨_,_,_,[iv f],l,m,rfl,aI aQ rfl,aI aU rfl,?_⟩;refine aJ hsm ?_;rw [hO];cases O with
  |nil =>
   (conv=>whnf);refine⟨_,_,_,[iv f],l,m,rfl,aI aQ rfl,aI aU rfl,?_⟩;refine aJ hsm ?_;rw [hO];(conv=>whnf);refine⟨l,m,aI aQ rfl,aI aU rfl,?_⟩;refine aJ hsm ?_;(conv=>whnf);refine⟨l,m,aI aQ rfl,aI aU rfl,?_⟩;refine aJ hsm ?_
   repeat' (((conv=>whnf);refine bm (fun g=>?_) (fun g=>?_)))
   all_goals (conv=>whnf)
   all_goals first
    |(exfalso;simp [aA,aC] at g;done)
    |(refine⟨[],[],⟨rfl,rfl,rfl⟩,⟨rfl,rfl,rfl⟩,?_⟩
      refine aJ (decide_eq_true hOl) ?_;rw [hsame];(conv=>whnf))
  |cons a t =>
   (conv=>whnf);refine⟨_,_,_,[iv f],l,m,rfl,aI aQ rfl,aI aU rfl,?_⟩;refine aJ hsm ?_;rw [hO];(conv=>whnf);refine⟨l,m,aI aQ rfl,aI aU rfl,?_⟩;refine aJ hsm ?_;(conv=>whnf);refine⟨l,m,aI aQ rfl,aI aU rfl,?_⟩;refine aJ hsm ?_
   repeat' (((conv=>whnf);refine bm (fun g=>?_) (fun g=>?_)))
   all_goals (conv=>whnf)
   all_goals first
    |(exfalso;simp [aA,aC] at g;done)
    |(refine⟨a::t,a::t,aI aO rfl,aI aO rfl,?_⟩
      refine aJ (decide_eq_true hOl) ?_;rw [hsame];(conv=>whnf))
end Go.Aw
end
