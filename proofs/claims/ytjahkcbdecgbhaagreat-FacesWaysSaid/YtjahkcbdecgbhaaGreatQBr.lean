/-
  Parts of a proof. No condition.
-/
import Derived.Test.YtjahkcbdecgbhaaGreatQAp
import Derived.Test.YtjahkcbdecgbhaaGreatQAv
import Derived.Test.YtjahkcbdecgbhaaGreatQBh
import Derived.Test.YtjahkcbdecgbhaaGreatQBi
import Derived.Test.YtjahkcbdecgbhaaGreatQBq
import Derived.Test.YtjahkcbdecgbhaaGreatChecked
import Derived.Test.YtjahkcbdecgbhaaGreatRows
import Derived.ProofKit
import Derived.Lib.SmallJoins
import Derived.Deep.Slices
import Derived.Deep.Fields
set_option linter.unusedSimpArgs false
set_option linter.unusedVariables false
noncomputable section
namespace Go.Proofs.YtjahkcbdecgbhaaGreat
open Go.ChangeShapes Go.WideShapes Go.ChangeAt Go.RowKit Go.Joins
theorem eP {a b:Bool}(ha:a=true)(hb:b=true):(a&&b)=true:=by rw [ha,hb];rfl
theorem jf0:(Rows.facesWaysRow.wf (OpenSpec.ofChange Rows.facesWaysSpec))=true:=by kernel_rfl
theorem jf1:(laidOutB Tryz.prog)=true:=by kernel_rfl
theorem jf2:(mapsRowed Tryz.prog)=true:=by kernel_rfl
theorem jf3:(Tryz.f10.params.all (Tryz.prog.readableRec ·))=true:=by kernel_rfl
theorem jf4:(namedTie Tryz.prog Rows.facesWaysRow.named Rows.facesWaysSpec.vars)=true:=by kernel_rfl
theorem jf5:((Rows.facesWaysRow.stops == []))=true:=by kernel_rfl
theorem jf6:((Tryz.prog.stops == []))=true:=by kernel_rfl
theorem jf7:((Rows.facesWaysRow.knobs == []))=true:=by kernel_rfl
theorem jf8:((Tryz.prog.stopKnobs == []))=true:=by kernel_rfl
theorem jf9:((Rows.facesWaysRow.inPlace == Tryz.prog.inPlace 10))=true:=by kernel_rfl
theorem aLd:((Rows.facesWaysRow.unfollowed == Tryz.prog.unfollowed 10))=true:=by kernel_rfl
theorem aMH:((Rows.facesWaysRow.recurses == Tryz.prog.recurses 10))=true:=by kernel_rfl
theorem aLq:((Rows.facesWaysRow.named == Tryz.prog.varsNamed 10))=true:=by kernel_rfl
theorem aLS:((Rows.facesWaysRow.maps == (Tryz.f10.params.toList++Rows.facesWaysSpec.plain.varTypes Tryz.prog).any (Tryz.prog.mapsRec ·)))=true:=by kernel_rfl
theorem aMO:((Rows.facesWaysRow.ifaces == (Tryz.f10.params.toList++Rows.facesWaysSpec.plain.varTypes Tryz.prog).any (Tryz.prog.ifacesRec ·)))=true:=by kernel_rfl
theorem aM6:((Rows.facesWaysRow.mapsOut == Tryz.prog.mapsAmong Tryz.f10.resultTypes.toList))=true:=by kernel_rfl
theorem aMJ:((Rows.facesWaysRow.loops == (Tryz.f10.params.toList++Rows.facesWaysSpec.plain.varTypes Tryz.prog).any (Tryz.prog.loopsFrom ·)))=true:=by kernel_rfl
theorem aLM:((Rows.facesWaysRow.wideKeys == (Tryz.f10.params.toList++Rows.facesWaysSpec.plain.varTypes Tryz.prog++Tryz.f10.resultTypes.toList).any (Tryz.prog.wideKeysFrom ·)))=true:=by kernel_rfl
theorem aM5:(Rows.facesWaysSpec.vars.all (Tryz.prog.varReadable ·))=true:=by kernel_rfl
theorem aM9:(Tryz.f10.resultTypes.all (fun t=>Tryz.prog.readableRec t&&decide (t<Tryz.prog.types.size)))=true:=by kernel_rfl
theorem aMN:((Rows.facesWaysRow.ifacesOut == Tryz.f10.resultTypes.toList.any (Tryz.prog.ifacesRec ·)))=true:=by kernel_rfl
theorem aL7:((Rows.facesWaysRow.loopsOut == Tryz.f10.resultTypes.toList.any (Tryz.prog.loopsFrom ·)))=true:=by kernel_rfl
theorem aLT:((Rows.facesWaysRow.plainKeys == Tryz.prog.plainKeys))=true:=by kernel_rfl
theorem aLt:(Rows.facesWaysRow.shortTexts.isNone)=true:=by kernel_rfl
theorem aLG:(Tryz.prog.stopsHeard)=true:=by kernel_rfl
theorem aMz:(Tryz.prog.mayEnter)=true:=by kernel_rfl
theorem aLw:((Rows.facesWaysRow.lifted == Tryz.prog.liftsFinal))=true:=by kernel_rfl
theorem aMM:((Tryz.prog.make == some Rows.facesWaysRow.make))=true:=by kernel_rfl
theorem aMn:((Rows.facesWaysRow.pinned == Rows.facesWaysRow.pinnedBy))=true:=by kernel_rfl
theorem aM1:((Rows.facesWaysRow.veiled == (Tryz.f10.params.toList++Rows.facesWaysSpec.plain.varTypes Tryz.prog++Tryz.f10.resultTypes.toList).any (Tryz.prog.veiledRec ·)))=true:=by kernel_rfl
theorem aLp:(Rows.facesWaysRow.veiledFits Tryz.prog Tryz.f10.params.toList (Tryz.f10.params.toList++Rows.facesWaysSpec.plain.varTypes Tryz.prog++Tryz.f10.resultTypes.toList))=true:=by kernel_rfl
end Go.Proofs.YtjahkcbdecgbhaaGreat
end

noncomputable section
namespace Go.Aw
set_option maxRecDepth 100000
set_option maxHeartbeats 2000000
def wH (nx:Nat)(l:List Pt)(m:List Ed)(c1 c2:Nat)(n:Int):Heap:=mR nx (D6 l m c1 c2 n)
theorem aGY {l:List Pt}{m:List Ed}{c1 c2:Nat}{n:Int}(hl:l.length≤1000){k:Nat}{o:a8}(hk:look (D6 l m c1 c2 n) k=some o):k<2004 :=
 (UK hl k o (XH k o hk)).1
theorem aJp {nx:Nat}{l:List Pt}{m:List Ed}{c1 c2:Nat}{n:Int}(hl:l.length≤1000){k:Nat}{o:a8}(hk:look (wH nx l m c1 c2 n) k=some o):nx≤k∧k<nx+2004:=by
 obtain⟨j,o',e1,e2,_⟩:=kY _ hk;have:=aGY hl e2;omega
theorem aKj {nx:Nat}{l:List Pt}{m:List Ed}{c1 c2:Nat}{n:Int}(hl:l.length≤1000){k:Nat}(hk:k<nx∨nx+2004≤k):look (wH nx l m c1 c2 n) k=none:=by
 cases h:look (wH nx l m c1 c2 n) k with
 |none=>rfl
 |some o=>exfalso;have:=aJp hl h;omega
def wN (nx:Nat)(l:List Pt)(m:List Ed)(c1 c2:Nat)(n:Int)(T:List Value)(W:Heap):Heap :=
 (nx+7,.cells true false 1 (EC (nx+3) (nx+4) (nx+9) (nx+8) (nx+2003) l.length m.length (bD l m m.length).length (outs l m).length c1 c2 n (some ((bD l m m.length).length,(bD l m m.length).length)))) ::
 (nx+2003,.cells true false 1 (flat aP.fl (dY l m).face))::(nx+9,.cells true false 5 (flat sH.fl (bD l m m.length)))::(nx+8,.cells true false 1 T)::(nx+3,.cells false true aT.sz (flat aT.fl l))::(nx+4,.cells false true aW.sz (flat aW.fl m))::W
def wTb (nx:Nat)(l:List Pt)(m:List Ed):List Value:=((tC (outs l m).length (outs l m)).map (cD fun k=>3+k)).map (cD fun k=>nx+k)
def wT (nx:Nat)(l:List Pt)(m:List Ed):Heap:=mR nx (mR 3 (tH (outs l m).length (outs l m) (outs l m).length))
theorem aJW {nx:Nat}{l:List Pt}{m:List Ed}{c1 c2:Nat}{n:Int}:wH nx l m c1 c2 n=wN nx l m c1 c2 n (wTb nx l m) (wT nx l m):=by
 have hfl:∀ {α:Type} (E:El α) (x:List α) (k:Nat),(flat E.fl x).map (cD fun i=>k+i)=flat E.fl x:=fun E x k=>cZ (aH E x);unfold wN;rw [show EC (nx+3) (nx+4) (nx+9) (nx+8) (nx+2003) l.length m.length (bD l m m.length).length (outs l m).length c1 c2 n (some ((bD l m m.length).length,(bD l m m.length).length))=(EC 3 4 9 8 2003 l.length m.length (bD l m m.length).length (outs l m).length c1 c2 n (some ((bD l m m.length).length,(bD l m m.length).length))).map (cD fun i=>nx+i) from rfl];have e1:=(hfl aP (dY l m).face nx).symm;have e2:flat sH.fl (bD l m m.length)=((flat sH.fl (bD l m m.length)).map (cD fun i=>3+i)).map (cD fun i=>nx+i):=(by rw [hfl,hfl]);have e3:flat aT.fl l=((flat aT.fl l).map (cD fun i=>3+i)).map (cD fun i=>nx+i):=(by rw [hfl,hfl]);have e4:flat aW.fl m=((flat aW.fl m).map (cD fun i=>3+i)).map (cD fun i=>nx+i):=(by rw [hfl,hfl]);rw [e1,e2,e3,e4];rfl
def aIo:Nat × XF:=(69,fun args h nx K=>∃ l m n p q,args=[mapA p q n]∧iQ aT h p l∧iQ aW h q m∧(l.length≤1000∧m.length≤1000) ∧
 ((c9 l m n=true∧K (.tuple #[.pointer (some ⟨nx+7,0,none⟩),iv 0]) (app (eY h) (wN nx l m (pE p) (pE q) n (wTb nx l m) (wT nx l m))) (nx+2004))∨(c9 l m n=false∧K (.tuple #[.pointer none,iv 1]) h nx)))
theorem aAb {ι:Nat→Loc}{B:Nat}{h h':Heap}{nx:Nat}{w:World}(H:aV ι B h nx w)(e:∀ k,look h' k=look h k):aV ι B h' nx w :=
 ⟨fun k o hk=>H.obj k o (by rw [← e];exact hk),fun k k' o o' hk hk'=>H.sep k k' o o' (by rw [← e];exact hk) (by rw [← e];exact hk'),fun k o hk=>H.low k o (by rw [← e];exact hk),H.size,fun k o hk=>H.sc k o (by rw [← e];exact hk)⟩
theorem aMQ:cT Go.Proofs.Tryz.prog aIo.1 aIo.2:=by
 refine⟨fun args h nx K hx ι B w H hs=>?_,fun args h nx K hx=>?_⟩
 ·obtain⟨l,m,n,p,q,rfl,hl,hm,hlm,hx⟩:=hx;rw [← aJW] at hx;have h0:=aMo.1 [mapA p q n] h nx (fun v h' nx'=>∃ h'',(∀ k,look h'' k=look h' k)∧K v h'' nx') ⟨l,m,n,p,q,rfl,hl,hm,hlm,by
   rcases hx with ⟨ho,hx⟩|⟨ho,hx⟩
   ·refine .inl ⟨ho,_,fun k=>?_,hx⟩;rw [j1,j1,gV];cases e1:look h k with
    |none =>
     show look (wH nx l m (pE p) (pE q) n) k=_;cases e2:look (mR nx (D6 l m (pE p) (pE q) n)) k with
     |none=>exact e2
     |some o=>exact e2
    |some o =>
     have hlow:=H.low k o e1;have e2:look (mR nx (D6 l m (pE p) (pE q) n)) k=none:=aKj hlm.1 (.inl hlow);rw [e2];rfl
   exact .inr ⟨ho,_,fun k=>rfl,hx⟩⟩ ι B w H hs
  refine⟨h0.1,CallsIn.mono h0.2 fun e w' hr=>?_⟩;cases e with
  |returned u =>
   obtain⟨v,h1,nx1,ι1,⟨h2,e2,hk⟩,a1,a2,a3,a4,a5,a6⟩:=hr;exact⟨v,h2,nx1,ι1,hk,a1,aAb a2 e2,a3,a4,a5,a6⟩
  |_=>exact hr.elim
 obtain⟨l,m,n,p,q,rfl,hl,hm,hlm,hx⟩:=hx;rcases hx with ⟨ho,hx⟩|⟨ho,hx⟩
 ·exact⟨_,_,_,hx,fun K' hk=>⟨l,m,n,p,q,rfl,hl,hm,hlm,.inl ⟨ho,hk⟩⟩⟩
 exact⟨_,_,_,hx,fun K' hk=>⟨l,m,n,p,q,rfl,hl,hm,hlm,.inr ⟨ho,hk⟩⟩⟩
def aEh (xl:List (Nat × XF))(k:Nat):FH:={ aA with X:=look xl,M:=k }
theorem NF {xl:List (Nat × XF)}(h:pF xl)(k:Nat):sK Go.Proofs.Tryz.prog (aEh xl k) where
 ar:=lV.ar
 tab:=lV.tab
 mixed:=lV.mixed
 funcs:=lV.funcs
 xs:=h.look
def sU (n a:Int):Bool:=decide (0≤a)&&decide (a≤n)
def aGW (l:List Pt)(m:List Ed)(n:Int):List Int→Option (Bool × Value)
 |[a]=>some (true,.bool (sU n a))
 |[a,b]=>some (true,.bool (sU n a&&sU n b))
 |_=>none
theorem xR {l:List Pt}{m:List Ed}{n:Int}(h:c9 l m n=true):dG l m n=true:=by
 simp only [c9,iD,Bool.and_eq_true] at h;exact h.1.1
def aFW (l:List Pt)(m:List Ed)(n d:Int):Bool:=c9 l m n&&(decide (0≤d)&&decide (d<2*m.length))
def nxP (l:List Pt)(m:List Ed)(n:Int):List Value→Option (Bool × Value)
 |[.int .i64 d]=>some (decide (l.length≤1000)&&decide (m.length≤1000),.tuple #[iv (if aFW l m n d=true then CO (bD l m m.length) (outs l m) d else 0),iv (if aFW l m n d=true then 0 else 1)])
 |_=>none
def aLB:Nat × XF:=(22,mX aT aW nxP)
end Go.Aw
end

noncomputable section
namespace Go.Aw
set_option maxRecDepth 100000
section
variable {l:List Pt}{m:List Ed}{n:Int}
structure Hs (l:List Pt) (m:List Ed) (t:RL):Prop where
 seen:t.seen.length=2*m.length
 face:t.face.length=2*m.length
 cl:∀ i:Nat,i<2*m.length→dD t.seen i=true→dD t.seen (CO (bD l m m.length) (outs l m) i).toNat=true
 has:∀ f:Int,(1≤f∧f≤t.many)∨(f=0∧1≤t.out)→∃ i,i<2*m.length∧dD t.seen i=true∧aD t.face i=f
 low:0≤t.many
theorem X8 {D:List Dt}{ls:List (List Int)}{d:Int}{t:Nat}(h:t<pG D ls d):aD (wO D ls d) t=pX D ls d t:=by
 unfold wO aD;rw [List.getD_eq_getElem?_getD,List.getElem?_map,List.getElem?_range h];rfl
theorem FG {D:List Dt}{ls:List (List Int)}{d:Int}:(wO D ls d).length=pG D ls d:=by simp [wO]
theorem aEP (hok:dG l m n=true){t:RL}(h:Hs l m t){d:Nat}(hd:d<2*m.length):Hs l m (lG l (bD l m m.length) (outs l m) t d):=by
 unfold lG;cases hs:dD t.seen d with
 |true=>rw [if_pos rfl];exact h
 |false =>
  rw [if_neg (by decide)];simp only;have hin:=y6 hok (d:=(d:Int)) (by omega) (by omega);have hT:pX (bD l m m.length) (outs l m) d (pG (bD l m m.length) (outs l m) d)=d:=by
   have hw:=List.all_eq_true.1 (LK hok) d (List.mem_range.2 (by rw [bP];exact hd));exact of_decide_eq_true hw
  have hT1:1≤pG (bD l m m.length) (outs l m) d:=by
   have:=(nT (bD l m m.length) (outs l m) d (bD l m m.length).length 1).1;unfold pG;omega
  have hget:∀ k,k<pG (bD l m m.length) (outs l m) d→aD (wO (bD l m m.length) (outs l m) d) k=pX (bD l m m.length) (outs l m) d k:=fun k hk=>X8 hk;have hlen:(wO (bD l m m.length) (outs l m) d).length=pG (bD l m m.length) (outs l m) d:=FG;generalize wO (bD l m m.length) (outs l m) d=W at hget hlen ⊢;generalize pG (bD l m m.length) (outs l m) d=T at *;have hr:∀ k,k<W.length→(aD W k).toNat<2*m.length:=fun k hk=>by
   rw [hget k (by omega)];have:=hin k;omega
  -- what was seen lies in no walk of what was not
  have hdis:∀ k,k<W.length→dD t.seen (aD W k).toNat=true→False:=fun k hk hsk=>by
   rw [hget k (by omega)] at hsk;have hf:∀ j,dD t.seen (pX (bD l m m.length) (outs l m) d (k+j)).toNat=true:=by
    intro j
    induction j with
    |zero=>exact hsk
    |succ j ih =>
     have hi:=hin (k+j);have:=h.cl (pX (bD l m m.length) (outs l m) d (k+j)).toNat (by omega) ih;rw [Int.toNat_of_nonneg hi.1] at this;exact this
   have:=hf (T - k);rw [show k+(T - k)=T by omega,hT,Int.toNat_natCast,hs] at this;cases this
  generalize IN l (bD l m m.length) W W.length=A;have hsee:∀ i,(∃ k,k<W.length∧(aD W k).toNat=i)→dD (fW t.seen W W.length) i=true:=fun i hi=>(rA t.seen W (by rw [h.seen];exact hr) i _ (Nat.le_refl _)).1 hi;have hkeep:∀ i,dD t.seen i=true→dD (fW t.seen W W.length) i=true:=fun i hi=>by
   by_cases e:∃ k,k<W.length∧(aD W k).toNat=i
   ·exact hsee i e
   rw [(rA t.seen W (by rw [h.seen];exact hr) i _ (Nat.le_refl _)).2 e];exact hi
  have hold:∀ (fc f:Int),(∃ i,i<2*m.length∧dD t.seen i=true∧aD t.face i=f)→∃ i,i<2*m.length∧dD (fW t.seen W W.length) i=true∧aD (dW t.face W fc W.length) i=f:=fun fc f ⟨i,a1,a2,a3⟩=>by
   refine⟨i,a1,hkeep i a2,?_⟩;rw [(vV t.face W fc (by rw [h.face];exact hr) i _ (Nat.le_refl _)).2 fun ⟨k,b1,b2⟩=>hdis k b1 (by rw [b2];exact a2)];exact a3
  have hd0:∃ k,k<W.length∧(aD W k).toNat=d:=⟨0,by omega,by rw [hget 0 (by omega)];rfl⟩;have hnew:∀ fc:Int,∃ i,i<2*m.length∧dD (fW t.seen W W.length) i=true∧aD (dW t.face W fc W.length) i=fc:=fun fc =>
   ⟨d,hd,hsee d hd0,(vV t.face W fc (by rw [h.face];exact hr) d _ (Nat.le_refl _)).1 hd0⟩
  refine⟨by rw [kO];exact h.seen,by rw [fE];exact h.face,fun i hi hsi=>?_,fun f hf=>?_,?_⟩
  ·by_cases e:∃ k,k<W.length∧(aD W k).toNat=i
   ·obtain⟨k,b1,b2⟩:=e;have hk:=hin k;rw [hget k (by omega)] at b2;have e2:(i:Int)=pX (bD l m m.length) (outs l m) d k:=(by omega);rw [e2];show dD (fW t.seen W W.length) (pX (bD l m m.length) (outs l m) d (k+1)).toNat=true;by_cases hl:k+1=T
    ·rw [hl,hT,Int.toNat_natCast];exact hsee d hd0
    exact hsee _ ⟨k+1,by omega,by rw [hget (k+1) (by omega)]⟩
   have:=hsi;rw [(rA t.seen W (by rw [h.seen];exact hr) i _ (Nat.le_refl _)).2 e] at this;exact hkeep _ (h.cl i hi this)
  ·have hlow:=h.low;by_cases hA:0<A
   ·simp only [if_pos hA] at hf ⊢;rcases hf with ⟨f1,f2⟩|f2
    ·by_cases e:f=t.many+1
     ·rw [e];exact hnew _
     exact hold _ f (h.has f (.inl ⟨f1,by omega⟩))
    exact hold _ f (h.has f (.inr f2))
   simp only [if_neg hA] at hf ⊢;rcases hf with f2|⟨f1,f2⟩
   ·exact hold _ f (h.has f (.inl f2))
   rw [f1];exact hnew 0
  have:=h.low;show 0≤if 0<A then t.many+1 else t.many
  split <;> omega
theorem aBz (hok:dG l m n=true):∀ d,d≤2*m.length→Hs l m (cK l (bD l m m.length) (outs l m) d)
 |0,_=>by
  refine⟨by simp [cK,bP],by simp [cK,bP],fun i hi h=>?_,fun f hf=>?_,Int.le_refl 0⟩
  ·unfold cK dD at h;rw [List.getD_eq_getElem?_getD,List.getElem?_replicate,bP,if_pos hi] at h;cases h
  have hf:(1≤f∧f≤0)∨(f=0∧(1:Int)≤0):=hf;omega
 |d+1,h=>aEP hok (aBz hok d (by omega)) (by omega)
theorem PB (x:Int):∀ (L:List Int) (i:Nat),(∃ k,k<L.length∧aD L k=x)→∃ k,k<L.length∧aD L k=x∧(∀ j,j<k→aD L j≠x)∧r6 x L i=((i+k:Nat):Int)
 |[],i,⟨k,h,_⟩=>by cases h
 |b::r,i,⟨k,h1,h2⟩=>by
  unfold r6;by_cases e:x=b
  ·rw [if_pos e];exact⟨0,Nat.succ_pos _,e.symm,fun j hj=>absurd hj (Nat.not_lt_zero j),rfl⟩
  rw [if_neg e];cases k with
  |zero=>exact absurd h2.symm e
  |succ k =>
   obtain⟨q,a1,a2,a3,a4⟩:=PB x r (i+1) ⟨k,by simpa using h1,h2⟩;refine⟨q+1,by simpa using a1,a2,fun j hj=>?_,by rw [a4];congr 1;omega⟩;cases j with
   |zero=>exact fun hb=>e hb.symm
   |succ j=>exact a3 j (by omega)
theorem aAr (ho:c9 l m n=true){f:Int}(h0:0≤f)(h1:f≤n):∃ k,k<2*m.length∧aD (dY l m).face k=f∧(∀ j,j<k→aD (dY l m).face j≠f)∧r6 f (dY l m).face 0=(k:Int):=by
 have ho':=ho;simp only [c9,iD,Bool.and_eq_true,decide_eq_true_eq] at ho';obtain⟨⟨hok,_⟩,_,hn,hmn,_⟩:=ho';have hs:=aBz hok (2*m.length) (Nat.le_refl _);have e:cK l (bD l m m.length) (outs l m) (2*m.length)=dY l m:=(by unfold dY nmD;rw [bP]);rw [e] at hs;simp only [BY,Bool.and_eq_true,decide_eq_true_eq] at hn;obtain⟨i,a1,a2,a3⟩:=hs.has f (by
  by_cases e0:f=0
  ·exact .inr ⟨e0,by omega⟩
  exact .inl ⟨by omega,by omega⟩)
 obtain⟨k,b1,b2,b3,b4⟩:=PB f (dY l m).face 0 ⟨i,by rw [hs.face];exact a1,a3⟩;exact⟨k,by rw [hs.face] at b1;exact b1,b2,b3,by rw [b4,Nat.zero_add]⟩
end
end Go.Aw
end

noncomputable section
namespace Go.Aw
set_option maxRecDepth 100000
set_option maxHeartbeats 2000000
def ZN (l:List Pt)(m:List Ed)(f:Int):List Int:=wO (bD l m m.length) (outs l m) (r6 f (dY l m).face 0)
def QR (l:List Pt)(m:List Ed)(n f:Int):Bool:=c9 l m n&&(decide (0≤f)&&decide (f≤n))
def a2P (l:List Pt)(m:List Ed)(n:Int):List Value→Option (Bool × Value)
 |[.int .i64 f]=>some (decide (l.length≤1000)&&decide (m.length≤1000),.tuple #[iv (if QR l m n f=true then IN l (bD l m m.length) (ZN l m f) (ZN l m f).length else 0),iv (if QR l m n f=true then 0 else 1)])
 |_=>none
theorem aJz {l:List Pt}{m:List Ed}{n f:Int}(ho:c9 l m n=true)(h0:0≤f)(h1:f≤n):∃ d:Int,r6 f (dY l m).face 0=d∧0≤d∧d<2*m.length∧wJ l (bD l m m.length) (outs l m)=true∧pX (bD l m m.length) (outs l m) d (pG (bD l m m.length) (outs l m) d)=d∧fI (bD l m m.length) (wO (bD l m m.length) (outs l m) d)=true∧1≤(wO (bD l m m.length) (outs l m) d).length∧(wO (bD l m m.length) (outs l m) d).length≤2*m.length+1:=by
 obtain⟨k,b1,b2,b3,b4⟩:=aAr ho h0 h1;have hok:=xR ho;have hw:=List.all_eq_true.1 (LK hok) k (List.mem_range.2 (by rw [bP];exact b1));have w:=TV (l:=l) (LV hok) (d:=k) (by rw [bP];exact b1);have p:=nT (bD l m m.length) (outs l m) k (bD l m m.length).length 1;refine⟨k,b4,by omega,by omega,LV hok,of_decide_eq_true hw,w.1,?_,?_⟩
 ·exact w.2.2
 have:=w.2.1;rw [bP] at this;exact this
def aLD:Nat × XF:=(26,mX aT aW a2P)
def mRX (s:List Pt→List Ed→Int→List Value→Option (Bool × List Int × Option Int)):XF:=fun args h nx K=>∃ p q n r l m,args=mapA p q n::r∧iQ aT h p l∧iQ aW h q m ∧
 (match s l m n r with|some pr=>dT pr.1 (MV aP pr.2.1 pr.2.2 h nx K)|none=>False)
theorem LO {P:Program}{C:VC}{f:Nat}{s:List Pt→List Ed→Int→List Value→Option (Bool × List Int × Option Int)}(hC:bN P C)
  (hs:∀ l m n r out e,s l m n r=some (true,out,e)→eT r=true∧∀ c1 c2,C f (aG l.length m.length c1 c2 n::r) (aB aT aW l m) 2 (Yields aP out e)):cT P f (mRX s):=by
 refine (TB aP (T:=fun args0 h0 n0 out e=>C f args0 h0 n0 (Yields aP out e)) hC ?_).mono ?_ ?_
 ·rintro args0 h0 n0 out e hc;exact hc
 ·rintro args h nx K ⟨p,q,n,r,l,m,rfl,hl,hm,hx⟩;split at hx
  case h_2=>exact hx.elim
  rename_i pr e1;obtain⟨bb,out,e⟩:=pr;obtain⟨rfl,hx⟩:=aI.1 hx;obtain⟨a1,a3⟩:=hs l m n r out e e1;obtain⟨c1,c2,i⟩:=M7 (n:=n) (nx:=nx) aT aW a1 hl hm;exact MA aP (a3 c1 c2) i hx
 rintro args h nx K ⟨p,q,n,r,l,m,rfl,hl,hm,hx⟩;split at hx
 case h_2=>exact hx.elim
 rename_i pr e1;obtain⟨bb,out,e⟩:=pr;obtain⟨hb,hx⟩:=aI.1 hx;cases out with
 |nil=>exact⟨_,_,_,hx,fun K' hk'=>⟨p,q,n,r,l,m,rfl,hl,hm,by rw [e1];exact aM hb hk'⟩⟩
 |cons a t=>exact⟨_,_,_,hx,fun K' hk'=>⟨p,q,n,r,l,m,rfl,hl,hm,by rw [e1];exact aM hb hk'⟩⟩
def frL (D:List Dt)(L:List Int):Nat→List Int
 |0=>L
 |i+1=>(frL D L i).set i (cB D (aD L i).toNat).fr
theorem VZ (D:List Dt)(L:List Int):∀ i,(frL D L i).length=L.length
 |0=>rfl
 |i+1=>by unfold frL;rw [List.length_set];exact VZ D L i
def wlI (l:List Pt)(m:List Ed)(f:Int):List Int:=frL (bD l m m.length) (ZN l m f) (ZN l m f).length
def wlP (l:List Pt)(m:List Ed)(n:Int):List Value→Option (Bool × List Int × Option Int)
 |[.int .i64 f]=>some (decide (l.length≤1000)&&decide (m.length≤1000),if QR l m n f=true then wlI l m f else [],some (if QR l m n f=true then 0 else 1))
 |_=>none
def aLP:Nat × XF:=(24,mRX wlP)
def voS (l:List Pt)(m:List Ed)(n:Int):List Value→Option (Bool × Value)
 |[]=>some (decide (l.length≤1000)&&decide (m.length≤1000),.bool (c9 l m n))
 |_=>none
def aHu:Nat × XF:=(70,mX aT aW voS)
theorem aLi:cT Go.Proofs.Tryz.prog aHu.1 aHu.2:=by
 have e:voS=vaS:=by
  funext l m n r;cases r with
  |nil=>show some (_,Value.bool (c9 l m n))=some (_,Value.bool (IG l m n));rw [aBC]
  |cons a r=>rfl
 show cT _ 70 (mX aT aW voS);rw [e];exact aLO
def X85:Nat × XF:=(85,mX aT aW (sMD fun l m n f=>(true,.bool (sU n f))))
theorem x85:cT Go.Proofs.Tryz.prog X85.1 X85.2:=uG aT aW (aL (xl:=[]) .nil) fun l m n r v hs=>by
 obtain⟨f,rfl,_,rfl⟩:=AV hs;refine⟨rfl,rfl,fun c1 c2=>?_⟩;unfold sU;((conv=>whnf);apply bm<;>intro h1)
 ·have h1:decide (0≤f)=true:=by
   have h1:(decide (0≤f) == true)=true:=h1;simpa using h1
  (conv=>whnf);rw [h1,Bool.true_and];rfl
 have h1:decide (0≤f)=false:=by
  have h1:(decide (0≤f) == true)=false:=h1;simpa using h1
 (conv=>whnf);rw [h1,Bool.false_and]
theorem smB {l:List Pt}{m:List Ed}(h:l.length≤1000∧m.length≤1000):(decide (l.length≤1000)&&decide (m.length≤1000))=true:=by
 rw [decide_eq_true h.1,decide_eq_true h.2];rfl
def aMx:Nat × XF:=(23,mX aT aW nxP)
def aLr:Nat × XF:=(27,mX aT aW a2P)
theorem aJS {l:List Pt}{m:List Ed}{n f:Int}(ho:c9 l m n=true)(hb:sU n f=true):T6 m (ZN l m f)=true∧1≤(ZN l m f).length∧(ZN l m f).length≤10000∧mV l m (ZN l m f) (ZN l m f).length=IN l (bD l m m.length) (ZN l m f) (ZN l m f).length:=by
 have hb2:=hb;simp only [sU,Bool.and_eq_true,decide_eq_true_eq] at hb2;obtain⟨d,e1,e2,e3,e4,e5,e6,e7,e8⟩:=aJz ho hb2.1 hb2.2;obtain⟨hM,h3,h1l,h400,m400,_,_⟩:=kW (xR ho);have e:ZN l m f=wO (bD l m m.length) (outs l m) d:=(by unfold ZN;rw [e1]);rw [e];refine⟨List.all_eq_true.2 fun x hx=>?_,e7,by omega,MB l m e6 _ (Nat.le_refl _)⟩;obtain⟨i,hi,rfl⟩:=List.getElem_of_mem hx;have:=jY e6 hi;rw [dM hi,bP] at this;simp only [pD,Bool.and_eq_true,decide_eq_true_eq];omega
def aLU:Nat × XF:=(25,mRX wlP)
def smI (l1 l2:List Int):Bool:=decide (l1=l2)
def smS (l1 l2:List Int):Option (Bool × Value):=some (decide (l1.length≤1000000),.bool (smI l1 l2))
def e21 (l1 l2:List Int)(c1 c2:Nat)(j:Int):List (Nat × Value):=[(0,.slice (some ⟨0,0,none⟩) l1.length c1),(1,.slice (some ⟨1,0,none⟩) l2.length c2),(5,iv j)]
def h21 (l1 l2:List Int):Heap:=[(0,.cells false true 1 (flat aP.fl l1)),(1,.cells false true 1 (flat aP.fl l2))]
theorem aHg {l1 l2:List Int}(hl:l1.length=l2.length)(h:∀ k,k<l1.length→aD l1 k=aD l2 k):l1=l2:=by
 refine List.ext_getElem hl fun k h1 h2=>?_;have:=h k h1;rw [dM h1,dM h2] at this;exact this
def aDO:Nat × XF:=(21,l2X aP smS)
theorem aLx:cT Go.Proofs.Tryz.prog aDO.1 aDO.2:=aGZ aP (f:=21) (s:=smS) (aL (xl:=[]) .nil) fun l1 l2 v hs=>by
 have hs':l1.length≤1000000∧v=.bool (smI l1 l2):=by
  unfold smS at hs;injection hs with hs;injection hs with h1 h2;exact⟨by simpa using h1,h2.symm⟩
 obtain⟨hlen,rfl⟩:=hs';refine⟨rfl,fun c1 c2=>?_⟩;((conv=>whnf);apply bm<;>intro h1)
 ·(conv=>whnf);have hne:l1≠l2:=by
   intro e;simp [aA,aC,e] at h1
  show Value.bool false=.bool (decide (l1=l2));rw [decide_eq_false hne]
 have hll:l1.length=l2.length:=(by simp [aA,aC] at h1;omega);(conv=>whnf);refine⟨fun n e h nx=>∃ (i:Nat) (j:Int),j=i∧i≤l1.length∧n=l1.length - i∧(∀ k,k<i→aD l1 k=aD l2 k)∧e=e21 l1 l2 c1 c2 j∧h=h21 l1 l2∧nx=2,⟨l1.length,?_⟩,?_⟩
 ·refine aO (e0:=e21 l1 l2 c1 c2 0) (h0:=h21 l1 l2) (n0:=2) ⟨0,0,rfl,Nat.zero_le _,rfl,fun k h=>absurd h (Nat.not_lt_zero k),rfl,rfl,rfl⟩ ?_ ?_ (by decide)
  ·unfold e21;((repeat' refine iE rfl rfl ?_);exact iN)
  unfold h21;((repeat'(first|refine iF rfl rfl ?_|refine iJ rfl rfl rfl rfl ?_));exact iN)
 rintro n e h nx ⟨i,j,hj,hi,rfl,hb,rfl,rfl,rfl⟩;unfold e21 h21;((conv=>whnf);apply bm<;>intro g1);rotate_left
 ·have hge:i=l1.length:=(by simp [aA,aC] at g1;omega);(conv=>whnf);show Value.bool true=.bool (decide (l1=l2));rw [decide_eq_true (aHg hll fun k hk=>hb k (by omega))]
 have hlt:i<l1.length:=(by simp [aA,aC] at g1;omega);((conv=>whnf);apply bm<;>intro g2);rotate_left
 ·exfalso;simp [aA,aC] at g2;omega
 (conv=>whnf);refine eC (bY l1 hlt ?_) ?_
 ·show _+Int.toNat j*1=_;omega
 ((conv=>whnf);apply bm<;>intro g3);rotate_left
 ·exfalso;simp [aA,aC] at g3;omega
 (conv=>whnf);refine eC (bY l2 (i:=i) (by omega) ?_) ?_
 ·show _+Int.toNat j*1=_;omega
 ((conv=>whnf);apply bm<;>intro g4)
 ·(conv=>whnf);have hne:l1≠l2:=by
   intro e;simp [aA,aC,e] at g4
  show Value.bool false=.bool (decide (l1=l2));rw [decide_eq_false hne]
 have g4:aD l1 i=aD l2 i:=(by simpa [aA,aC] using g4);((conv=>whnf);apply bm<;>intro g5)
 ·(conv=>whnf);refine⟨l1.length - (i+1),by omega,?_⟩;refine aO (e0:=e21 l1 l2 c1 c2 (j+1)) (h0:=h21 l1 l2) (n0:=2) ⟨i+1,j+1,by omega,hlt,rfl,fun k hk=>?_,rfl,rfl,rfl⟩ ?_ ?_ (by decide)
  ·by_cases hki:k=i
   ·rw [hki];exact g4
   exact hb k (by omega)
  ·unfold e21;((repeat' refine iE rfl rfl ?_);exact iN)
  unfold h21;((repeat'(first|refine iF rfl rfl ?_|refine iJ rfl rfl rfl rfl ?_));exact iN)
 exfalso;simp [aA,aC,aF] at g5;omega
theorem aBM {l:List Pt}{m:List Ed}(h1:(!(decide ((l.length:Int)≤60)&&decide ((m.length:Int)≤60)))=false):l.length≤1000∧m.length≤1000:=by
 have h1:(decide ((l.length:Int)≤60)&&decide ((m.length:Int)≤60))=true:=(by simpa using h1);simp only [Bool.and_eq_true,decide_eq_true_eq] at h1;omega
theorem w5 (l:List Pt)(m:List Ed)(n:Int)(c1 c2:Nat)(d f:Int):body [aAA,X16,aDO,aLB,aMx,aLP,aLU,aLD,aLr] 5 [aG l.length m.length c1 c2 n,iv d,iv f] (aB aT aW l m) 2 (fun v _ _=>v=.bool true):=by
 (conv=>whnf);refine⟨l,m,aJ aT rfl,aJ aW rfl,?_⟩;((conv=>whnf);apply bm<;>intro h1)
 ·(conv=>whnf)
 have hlm:l.length≤1000∧m.length≤1000:=aBM h1;have hsm:=smB hlm;obtain⟨O,hO⟩:∃ O,(if QR l m n f=true then wlI l m f else [])=O:=⟨_,rfl⟩;have hOl:O.length≤1000000:=by
  rw [← hO];split
  ·rename_i hf;have hf:(c9 l m n&&sU n f)=true:=hf;simp only [Bool.and_eq_true] at hf;have:=(aJS hf.1 hf.2).2.2.1;unfold wlI;rw [VZ];omega
  exact Nat.zero_le _
 have hsame:smI O O=true:=decide_eq_true rfl;(conv=>whnf);refine⟨l,m,aJ aT rfl,aJ aW rfl,?_⟩;refine aM hsm ?_;(conv=>whnf);refine⟨l,m,aJ aT rfl,aJ aW rfl,?_⟩;refine aM hsm ?_;(conv=>whnf);refine⟨_,_,_,[iv f],l,m,rfl,aJ aT rfl,aJ aW rfl,?_⟩;refine aM hsm ?_;rw [hO];cases O with
 |nil =>
  (conv=>whnf);refine⟨_,_,_,[iv f],l,m,rfl,aJ aT rfl,aJ aW rfl,?_⟩;refine aM hsm ?_;rw [hO];(conv=>whnf);refine⟨l,m,aJ aT rfl,aJ aW rfl,?_⟩;refine aM hsm ?_;(conv=>whnf);refine⟨l,m,aJ aT rfl,aJ aW rfl,?_⟩;refine aM hsm ?_
  repeat' (((conv=>whnf);apply bm<;>intro g))
  all_goals (conv=>whnf)
  all_goals first
   |(exfalso;simp [aA,aC] at g;done)
   |(refine⟨[],[],⟨rfl,rfl,rfl⟩,⟨rfl,rfl,rfl⟩,?_⟩
     refine aM (decide_eq_true hOl) ?_;rw [hsame];(conv=>whnf))
 |cons a t =>
  (conv=>whnf);refine⟨_,_,_,[iv f],l,m,rfl,aJ aT rfl,aJ aW rfl,?_⟩;refine aM hsm ?_;rw [hO];(conv=>whnf);refine⟨l,m,aJ aT rfl,aJ aW rfl,?_⟩;refine aM hsm ?_;(conv=>whnf);refine⟨l,m,aJ aT rfl,aJ aW rfl,?_⟩;refine aM hsm ?_
  repeat' (((conv=>whnf);apply bm<;>intro g))
  all_goals (conv=>whnf)
  all_goals first
   |(exfalso;simp [aA,aC] at g;done)
   |(refine⟨a::t,a::t,aJ aP rfl,aJ aP rfl,?_⟩
     refine aM (decide_eq_true hOl) ?_;rw [hsame];(conv=>whnf))
end Go.Aw
end
