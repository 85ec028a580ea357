/-
  Parts of a proof. No condition.
-/
import Derived.Test.YthgjfhncomhofaaGreatQAp
import Derived.Test.YthgjfhncomhofaaGreatQAq
import Derived.Test.YthgjfhncomhofaaGreatQAx
import Derived.ProofKit
import Derived.Lib.SmallJoins
import Derived.Deep.Slices
import Derived.Deep.Fields
set_option linter.unusedSimpArgs false
set_option linter.unusedVariables false
noncomputable section
namespace Go.Aw
open Proofs
set_option maxRecDepth 100000
set_option maxHeartbeats 2000000
def X16:Nat × XF:=(11,gX (s0 (.bool true)))
theorem x16:c7 Tryz.prog X16.1 X16.2 :=
 AF (kA aIF 60).1 fun args v hs=>by
  have:args=[]/\v=.bool true:=by
   unfold s0 at hs;split at hs
   ·injection hs with hs;injection hs with _ h2;exact⟨rfl,h2.symm⟩
   ·cases hs
  obtain⟨rfl,rfl⟩:=this;exact⟨rfl,rfl,tO (MR rfl) 60 false 11 [] [] 0 _ (fun u _ _=>u=.bool true) (fun u h nx e=>J4 e) aGn⟩
def fwS (l:List Pt)(m:List Ed)(n:Int):List Value->Option (Bool × Value)
 |[.int .i64 k]=>some (true,.bool (decide ((l.length:Int)<=k)&&decide ((m.length:Int)<=k)))
 |_=>none
def aNT:Nat × XF:=(37,mX aX bS fwS)
theorem aSu:c7 Tryz.prog aNT.1 aNT.2:=xF aX bS (aL (xl:=[]) .nil) fun l m n r v hs=>by
 have:∃ k,r=[iv k]/\v=.bool (decide ((l.length:Int)<=k)&&decide ((m.length:Int)<=k)):=by
  unfold fwS at hs;split at hs
  ·rename_i k;injection hs with hs;injection hs with h1 h2;exact⟨k,rfl,h2.symm⟩
  ·cases hs
 obtain⟨k,rfl,rfl⟩:=this;refine⟨rfl,rfl,fun c1 c2=>?_⟩;((conv=>whnf);apply bm<;>intro h1)
 ·have h1:decide ((l.length:Int)<=k)=true:=by
   have h1:(decide ((l.length:Int)<=k) == true)=true:=h1;simpa using h1
  (conv=>whnf);rw[h1,Bool.true_and];rfl
 have h1:decide ((l.length:Int)<=k)=false:=by
  have h1:(decide ((l.length:Int)<=k) == true)=false:=h1;simpa using h1
 (conv=>whnf);rw[h1,Bool.false_and]
def aQ8 (l:List Pt)(m:List Ed)(n:Int):List Value->Option (Bool × Value)
 |[]=>some (true,.bool (decide ((l.length:Int)<=60)&&decide ((m.length:Int)<=60)))
 |_=>none
def aN8:Nat × XF:=(10,mX aX bS aQ8)
theorem aRK:c7 Tryz.prog aN8.1 aN8.2:=xF aX bS (aL (xl:=[aNT]) (.cons aSu .nil)) fun l m n r v hs=>by
 have:r=[]/\v=.bool (decide ((l.length:Int)<=60)&&decide ((m.length:Int)<=60)):=by
  unfold aQ8 at hs;split at hs
  ·injection hs with hs;injection hs with h1 h2;exact⟨rfl,h2.symm⟩
  ·cases hs
 obtain⟨rfl,rfl⟩:=this;refine⟨rfl,rfl,fun c1 c2=>?_⟩;(conv=>whnf);refine⟨l,m,aP aX rfl,aP bS rfl,?_⟩;(conv=>whnf)
end Go.Aw
end

noncomputable section
namespace Go.Proofs.YthgjfhncomhofaaGreat
open Go.ChangeShapes Go.WideShapes Go.ChangeAt Go.RowKit Go.Aw Go.Joins
theorem Tryz.own:ownKnob Tryz.prog.godebug=none:=by kernel_rfl
theorem Tryz.laidOut:laidOutB Tryz.prog=true:=by kernel_rfl
theorem Tryz.yQ:Tryz.prog.cellsOf 3=1:=by kernel_rfl
theorem Tryz.aK2:Tryz.prog.cellsOf 22=1:=by kernel_rfl
theorem Tryz.aJS:Tryz.prog.cellsOf 23=1:=by kernel_rfl
theorem Tryz.aIk:Tryz.prog.cellsOf 25=3:=by kernel_rfl
theorem Tryz.aAs:Tryz.prog.cellsOf 59=2:=by kernel_rfl
theorem Tryz.aAf:Tryz.prog.cellsOf 65=5:=by kernel_rfl
theorem aEB {H:Type}{enc:TypeId × Value->H}{W:World}{base:Nat}{sp:Nat->Bool}{held:Bool}(b:Bool):DataW.Trod enc Tryz.prog W base sp held 4 (.bool b) (.lit (.bool b)) []:=⟨1,by simp[DataW.trod,Value.cells,Tryz.underlying4]⟩
theorem aG3 {α:Type}(E:El α)(l:List α)(i j:Nat)(hi:i<l.length)(hj:j<E.sz):(flat E.fl l)[i*E.sz+j]? = (E.fl l[i])[j]? := by
 have h1:=R4 E l i hi;rw[<- h1,List.getElem?_take_of_lt hj,List.getElem?_drop]
theorem aBu {ι ι':Nat->Go.Aw.Loc}{B:Nat}{w:World}{sz:Nat}{cs:List Value}{loc:Go.Aw.Loc}(hg:dT cs=true)(h:m3 ι B w (.cells false true sz cs) loc):m3 ι' B w (.cells false true sz cs) loc:=by
 cases loc with
 |nil p=>exact h
 |lay b o e =>
  obtain⟨x1,x2,x3⟩:=h;exact⟨x1,x2,fun i v hv=>by rw[x3 i v hv,oI (a9 hg (List.mem_of_getElem? hv)),oI (a9 hg (List.mem_of_getElem? hv))]⟩
theorem VX {f:Nat}{xl:List (Nat × XF)}(hx:lA xl){r:List Value}(hr:fI r=true){l:List Pt}{m:List Ed}{c1 c2:Nat}{n:Int}(hb:body xl f (fH l.length m.length c1 c2 n::r) (aS aX bS l m) 2 (fun u _ _=>u=.bool true)){W:World}{v a b:Value}{loc1 loc2:Go.Aw.Loc}
  (hv:v=.agg #[a,b,.int .i64 n]) (ha:a=tr (fun _=>loc1) (ak 0 l.length c1)) (hb':b=tr (fun _=>loc2) (ak 0 m.length c2)) (hn1:loc1.jD=false->l.length=0/\c1=0) (hn2:loc2.jD=false->m.length=0/\c2=0)
  (ho1:m3 (fun _=>loc1) W.heap.size W (.cells false true aX.sz (flat aX.fl l)) loc1) (ho2:m3 (fun _=>loc2) W.heap.size W (.cells false true bS.sz (flat bS.fl m)) loc2) :
  Calls Tryz.prog f (v::r).toArray W (fun e W'=>e=.returned (.bool true)/\Below W.heap.size W W'):=by
 have hcase:∀(k:Nat) (o:bV),Go.Aw.aw (aS aX bS l m) k=some o->(k=0/\o=.cells false true aX.sz (flat aX.fl l))\/(k=1/\o=.cells false true bS.sz (flat bS.fl m)):=by
  intro k o hk;have:=aT hk;unfold aS at this;simp only[List.mem_cons,List.not_mem_nil,or_false]at this;rcases this with h|h <;> (injection h with e1 e2)
  ·exact .inl ⟨e1,e2⟩
  exact .inr ⟨e1,e2⟩
 have R:aY (fun k=>if k=0 then loc1 else loc2) W.heap.size (aS aX bS l m) 2 W:=by
  refine⟨fun k o hk=>?_,fun k k' o o' hk hk' hne ha=>?_,fun k o hk=>?_,ah _,fun k o hk=>?_⟩
  ·rcases hcase k o hk with⟨rfl,rfl⟩|⟨rfl,rfl⟩
   ·exact aBu (aC _ _) ho1
   exact aBu (aC _ _) ho2
  ·rcases hcase k o hk with⟨rfl,rfl⟩|⟨rfl,rfl⟩
   ·cases ha
   ·cases ha
  ·rcases hcase k o hk with⟨rfl,rfl⟩|⟨rfl,rfl⟩
   ·omega
   omega
  ·rcases hcase k o hk with⟨rfl,rfl⟩|⟨rfl,rfl⟩
   ·exact fun v hv=>bM (a9 (aC aX l) hv)
   exact fun v hv=>bM (a9 (aC bS m) hv)
 obtain⟨_,h⟩:=aL hx f _ _ 2 _ hb (fun k=>if k=0 then loc1 else loc2) W.heap.size W R (fun u hu=>by
  rcases List.mem_cons.1 hu with hu|hu
  case inr=>exact c9 (cD hr hu)
  subst hu;intro u hu;simp only[List.mem_cons,List.not_mem_nil,or_false]at hu;rcases hu with rfl|rfl|rfl
  ·exact⟨by show 0<2;omega,hn1⟩
  ·exact⟨by show 1<2;omega,hn2⟩
  exact bM rfl)
 have hr2:r.map (tr (fun k=>if k=0 then loc1 else loc2))=r:=by
  conv=>rhs;rw[<- List.map_id r]
  exact List.map_congr_left fun v hv=>by rw[iU (cD hr hv)];rfl
 have he:((fH l.length m.length c1 c2 n::r).map (tr (fun k=>if k=0 then loc1 else loc2))).toArray=(v::r).toArray:=by
  rw[hv,ha,hb',List.map_cons,hr2];simp[fH,tr,eK,cF,eM]
 rw[he]at h;refine callsIn_wide.1 (CallsIn.mono h fun e W' hr=>?_);cases e with
 |returned u =>
  obtain⟨v,h',nx',ι',rfl,_,_,hb2,_,_,rfl⟩:=hr;exact⟨rfl,hb2.kit⟩
 |_=>exact hr.elim
section
variable {H:Type}{enc:TypeId × Value->H}{W:World}{held:Bool}
theorem aPm {α:Type}{l:List α}(h:l.length=2):∃ a b,l=[a,b]:=by
 match l,h with
 |[a,b],_=>exact⟨a,b,rfl⟩
theorem aOI {α:Type}{l:List α}(h:l.length=3):∃ a b c,l=[a,b,c]:=by
 match l,h with
 |[a,b,c],_=>exact⟨a,b,c,rfl⟩
theorem aOj {α:Type}{l:List α}(h:l.length=5):∃ a b c d e,l=[a,b,c,d,e]:=by
 match l,h with
 |[a,b,c,d,e],_=>exact⟨a,b,c,d,e,rfl⟩
theorem oF {fuel:Nat}{c:Value}{x:DataW H × List MemPlace}(h:DataW.trod enc Tryz.prog W 0 (fun _=>true) held fuel 3 [c]=some x):∃ a:Int,c=.int .i64 a:=by
 obtain⟨a,ea,_⟩:=DataW.trod_int Tryz.underlying3 h;simp at ea;exact⟨a,ea⟩
theorem aPu {fuel:Nat}{cs:List Value}{x:DataW H × List MemPlace}(h:DataW.trod enc Tryz.prog W 0 (fun _=>true) held fuel 59 cs=some x):∃ a,cs=aX.fl a:=by
 obtain⟨xs,n,_,_,hlen,hxl,hf⟩:=DataW.trod_struct Tryz.underlying59 h;rw[Tryz.aAs]at hlen;obtain⟨c0,c1,rfl⟩:=aPm hlen;obtain⟨x0,x1,rfl⟩:=aPm hxl;obtain⟨a,ea⟩:=oF (show DataW.trod enc Tryz.prog W 0 (fun _=>true) held n 3 [c0]=some x0 by simpa[Tryz.yQ]using hf 0 _ rfl);obtain⟨b,eb⟩:=oF (show DataW.trod enc Tryz.prog W 0 (fun _=>true) held n 3 [c1]=some x1 by simpa[Tryz.yQ]using hf 1 _ rfl);exact⟨(a,b),by rw[ea,eb];rfl⟩
theorem aPd {fuel:Nat}{cs:List Value}{x:DataW H × List MemPlace}(h:DataW.trod enc Tryz.prog W 0 (fun _=>true) held fuel 65 cs=some x):∃ a,cs=bS.fl a:=by
 obtain⟨xs,n,_,_,hlen,hxl,hf⟩:=DataW.trod_struct Tryz.underlying65 h;rw[Tryz.aAf]at hlen;obtain⟨c0,c1,c2,c3,c4,rfl⟩:=aOj hlen;obtain⟨x0,x1,x2,x3,x4,rfl⟩:=aOj hxl;obtain⟨a0,e0⟩:=oF (show DataW.trod enc Tryz.prog W 0 (fun _=>true) held n 3 [c0]=some x0 by simpa[Tryz.yQ]using hf 0 _ rfl);obtain⟨a1,e1⟩:=oF (show DataW.trod enc Tryz.prog W 0 (fun _=>true) held n 3 [c1]=some x1 by simpa[Tryz.yQ]using hf 1 _ rfl);obtain⟨a2,e2⟩:=oF (show DataW.trod enc Tryz.prog W 0 (fun _=>true) held n 3 [c2]=some x2 by simpa[Tryz.yQ]using hf 2 _ rfl);obtain⟨a3,e3⟩:=oF (show DataW.trod enc Tryz.prog W 0 (fun _=>true) held n 3 [c3]=some x3 by simpa[Tryz.yQ]using hf 3 _ rfl);obtain⟨a4,e4⟩:=oF (show DataW.trod enc Tryz.prog W 0 (fun _=>true) held n 3 [c4]=some x4 by simpa[Tryz.yQ]using hf 4 _ rfl);exact⟨⟨a0,a1,a2,a3,a4⟩,by rw[e0,e1,e2,e3,e4];rfl⟩
set_option maxRecDepth 100000 in
theorem O2 {α:Type}(E:El α)(hsz:0<E.sz){t e:TypeId}(ht:Tryz.prog.underlying t=some (.slice e))(hC:Tryz.prog.cellsOf e=E.sz)
  (hcells:∀{fuel:Nat} {cs:List Value} {x:DataW H × List MemPlace},DataW.trod enc Tryz.prog W 0 (fun _=>true) held fuel e cs=some x->∃ a,cs=E.fl a)
  {v:Value} {fuel:Nat} {x:DataW H × List MemPlace} (hf:DataW.trod enc Tryz.prog W 0 (fun _=>true) held fuel t [v]=some x) :
  ∃(l:List α) (c:Nat) (loc:Go.Aw.Loc),v=tr (fun _=>loc) (ak 0 l.length c)/\(loc.jD=false->l.length=0/\c=0)/\m3 (fun _=>loc) W.heap.size W (.cells false true E.sz (flat E.fl l)) loc:=by
 rcases Go.Deep.open_slice ht hf with⟨hcs,_⟩|⟨a,len,cap,m,n,D,Pl,hcs,_,hl,_,hm,_,hi⟩
 ·simp only[List.cons.injEq,and_true]at hcs;subst hcs;exact⟨[],0,.nil none,rfl,fun _=>⟨rfl,rfl⟩,rfl,fun h=>h.elim (fun h=>absurd h E.pos) (fun h=>by cases h)⟩
 simp only[List.cons.injEq,and_true]at hcs;subst hcs;simp only[if_true]at hm;rw[hC,hm]at hi;by_cases h0:cap=0
 ·subst h0;have:len=0:=aa;subst this;exact⟨[],0,.nil (some a),rfl,fun _=>⟨rfl,rfl⟩,rfl,fun _=>rfl⟩
 have hp:∀ i,i<cap->∃ q:α,∀ j,j<E.sz->W.cell? ((a.add (i*E.sz)).add j)=(E.fl q)[j]? := by
  intro i him;obtain⟨cs',hc,ht'⟩:=hi i him;obtain⟨q,rfl⟩:=hcells ht';obtain⟨_,_,hat⟩:=World.cells?_some hc;exact⟨q,hat⟩
 obtain⟨q0,hq0⟩:=hp 0 aa;have hall:∀ i,∃ q:α,i<cap->∀ j,j<E.sz->W.cell? ((a.add (i*E.sz)).add j)=(E.fl q)[j]? := fun i=>by
  by_cases him:i<cap
  ·obtain⟨q,hq⟩:=hp i him;exact⟨q,fun _=>hq⟩
  exact⟨q0,fun h=>absurd h him⟩
 obtain⟨F,hF⟩:=Classical.axiomOfChoice hall;have hsome:∃ u,W.cell? a=some u:=by
  have:=hq0 0 hsz;simp only[Nat.zero_mul,Addr.add,if_true]at this;have hlen:=E.len q0;rw[this,List.getElem?_eq_getElem aa];exact⟨_,rfl⟩
 obtain⟨u0,hu0⟩:=hsome;obtain⟨b,off,spot⟩:=a;have hspot:spot=none:=World.cell?_spot hu0;subst hspot;have hbW:b<W.heap.size:=by
  unfold World.cell? at hu0;cases hb:W.heap[b]? with
  |none=>simp[hb]at hu0
  |some o=>exact(Array.getElem?_eq_some_iff.1 hb).1
 refine⟨(List.range len).map F,cap,.lay b off 0,?_,(fun h=>by cases h),hbW,fun _=>aC E _,fun i v hv=>?_⟩
 ·simp[tr,eK,cF,eM]
 have hlt:=(List.getElem?_eq_some_iff.1 hv).1;rw[aO]at hlt;have hi1:i / E.sz<((List.range len).map F).length:=Nat.div_lt_of_lt_mul (by rw[Nat.mul_comm];exact hlt);have hj1:i % E.sz<E.sz:=Nat.mod_lt _ hsz;have hdm:i / E.sz*E.sz+i % E.sz=i:=Nat.div_add_mod' _ _;have hfi:=aG3 E ((List.range len).map F) (i / E.sz) (i % E.sz) hi1 hj1;rw[hdm,hv]at hfi;simp only[List.length_map,List.length_range]at hi1;rw[show((List.range len).map F)[i / E.sz]=F (i / E.sz) by simp]at hfi;have:=hF (i / E.sz) aa (i % E.sz) hj1;rw[<- hfi]at this;rw[oI (a9 (E.gr _) (List.mem_of_getElem? hfi.symm)),<- this];congr 1;rw[Addr.add_lit,Addr.add_lit];simp only[Addr.mk.injEq,and_true,true_and];omega
end
end Go.Proofs.YthgjfhncomhofaaGreat
end
