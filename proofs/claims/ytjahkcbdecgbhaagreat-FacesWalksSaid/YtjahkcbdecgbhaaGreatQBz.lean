/-
  FacesWalks returns true, for every map and all numbers. No condition.
-/
import Derived.Test.YtjahkcbdecgbhaaGreatQAt
import Derived.Test.YtjahkcbdecgbhaaGreatQBa
import Derived.Test.YtjahkcbdecgbhaaGreatQBw
import Derived.Test.YtjahkcbdecgbhaaGreatQBx
import Derived.Test.YtjahkcbdecgbhaaGreatQBy
set_option linter.unusedSimpArgs false
set_option linter.unusedVariables false
noncomputable section
namespace Go.Aw
set_option maxRecDepth 100000
set_option maxHeartbeats 2000000
def pR (g:Int→Int)(L:List Int):Nat→List Int
 |0=>[]
 |i+1=>pR g L i++[g (aN L i)]
theorem pT (g:Int→Int)(L:List Int):∀ i,(pR g L i).length=i
 |0=>rfl
 |i+1=>by unfold pR;rw [List.length_append,pT g L i];rfl
theorem MX (g:Int→Int)(L:List Int):∀ i,i≤L.length→pR g L i=(L.map g).take i
 |0,_=>rfl
 |i+1,h=>by
  unfold pR;rw [MX g L i (by omega),List.take_add_one,List.getElem?_map,List.getElem?_eq_getElem (by omega),gK (by omega)];rfl
theorem aAA (D:List Dt)(L:List Int):∀ i,i≤L.length→JE D L i=(L.map fun x=>(bR D x.toNat).fr).take i++L.drop i
 |0,_=>rfl
 |i+1,h=>by
  unfold JE;rw [aAA D L i (by omega)];apply List.ext_getElem?;intro k;rw [List.getElem?_set];have hlen:((L.map fun x=>(bR D x.toNat).fr).take i).length=i:=(by rw [List.length_take,List.length_map];omega);have hlen':((L.map fun x=>(bR D x.toNat).fr).take (i+1)).length=i+1:=(by rw [List.length_take,List.length_map];omega);by_cases e:i=k
  ·subst e;rw [if_pos rfl,if_pos (by rw [List.length_append,hlen,List.length_drop];omega),List.getElem?_append_left (by omega),List.getElem?_take_of_lt (by omega),List.getElem?_map,List.getElem?_eq_getElem (by omega),gK (by omega)];rfl
  ·rw [if_neg e];by_cases h2:k<i
   ·rw [List.getElem?_append_left (by omega),List.getElem?_append_left (by omega),List.getElem?_take_of_lt h2,List.getElem?_take_of_lt (by omega)]
   ·rw [List.getElem?_append_right (by omega),List.getElem?_append_right (by omega),hlen,hlen',List.getElem?_drop,List.getElem?_drop];congr 1;omega
theorem aHO {l:List Pt}{m:List Ed}{n f:Int}(ho:cX l m n=true)(hb:qG n f=true):GW l m f=pR (bL m) (zE l m f) (zE l m f).length:=by
 obtain⟨q1,q2,q3,q4⟩:=TO ho hb;unfold GW;rw [aAA _ _ _ (Nat.le_refl _),MX _ _ _ (Nat.le_refl _),List.drop_length,List.append_nil,List.take_of_length_le (by simp),List.take_of_length_le (by simp)];refine List.map_congr_left fun x hx=>?_;have:=List.all_eq_true.1 q1 x hx;simp only [kM,Bool.and_eq_true,decide_eq_true_eq] at this;exact (yX l m this.1.1 (by omega)).1.symm
def e25 (N:Nat)(v:Value)(j:Int):List (Nat × Value):=[(2,.pointer (some ⟨2,0,none⟩)),(7,.slice (some ⟨3,0,none⟩) N N),(8,v),(9,iv j)]
def h25 (l:List Pt)(m:List Ed)(c1 c2:Nat)(n:Int)(L:List Int):Heap:=(3,.cells true false 1 (flat aP.fl L))::(2,aX l.length m.length c1 c2 n)::aB aR aU l m
def JA (l:List Pt)(m:List Ed)(c1 c2:Nat)(n:Int)(L o:List Int):Heap:=(4,.cells true false 1 (flat aP.fl o))::(3,.cells true false 1 (flat aP.fl L))::(2,aX l.length m.length c1 c2 n)::aB aR aU l m
def aF9:Nat × XF:=(25,mRX wlP)
theorem aKd:cE Go.Proofs.Tryz.prog aF9.1 aF9.2:=Z5 (aK (xl:=[ZK,X85,aCN,X87]) (.cons aGK (.cons x85 (.cons aIe (.cons x87 .nil))))) fun l m n r out e hs=>by
 have:∃ f,r=[iv f]∧(l.length≤1000∧m.length≤1000)∧out=(if j8 l m n f=true then GW l m f else [])∧e=some (if j8 l m n f=true then 0 else 1):=by
  unfold wlP at hs;split at hs
  ·injection hs with hs;injection hs with h1 h2;injection h2 with h2 h3;simp only [Bool.and_eq_true,decide_eq_true_eq] at h1;exact⟨_,rfl,h1,h2.symm,h3.symm⟩
  ·cases hs
 obtain⟨f,rfl,hlm,rfl,rfl⟩:=this;clear hs;have hfb:j8 l m n f=(cX l m n&&qG n f):=rfl;refine⟨rfl,fun c1 c2=>?_⟩;generalize hQ:Yields aP (if j8 l m n f=true then GW l m f else []) (some (if j8 l m n f=true then 0 else 1))=Q;(conv=>whnf);refine⟨l,m,aG aR rfl,aG aU rfl,?_⟩;refine aJ (smB hlm) ?_;cases ho:cX l m n with
 |false =>
  rw [ho,Bool.false_and] at hfb;(conv=>whnf);rw [← hQ,hfb];rfl
 |true =>
  rw [ho,Bool.true_and] at hfb;obtain⟨hM,h3,h1l,h400,m400,_,_⟩:=gY (jS ho);(conv=>whnf);refine⟨l,m,aG aR rfl,aG aU rfl,?_⟩;(conv=>whnf);cases hb:qG n f with
  |false =>
   rw [hb] at hfb;(conv=>whnf);rw [← hQ,hfb];rfl
  |true =>
   rw [hb] at hfb;obtain⟨q1,q2,q3,q4⟩:=TO ho hb;have hwl:=aHO ho hb;rw [hfb,if_pos rfl,if_pos rfl,hwl] at hQ;have h6t:(cX l m n&&qG n f)=true:=(by rw [ho,hb];rfl);(conv=>whnf);refine⟨_,_,_,[iv f],l,m,rfl,aG aR rfl,aG aU rfl,?_⟩;refine aJ h6t ?_;generalize hL:zE l m f=L at *;(conv=>whnf)
   refine⟨fun q e h nx=>∃ (i:Nat) (j:Int),j=i∧i≤L.length∧q=L.length - i ∧
    ((i=0∧e=e25 L.length (.slice none 0 0) j∧h=h25 l m c1 c2 n L∧nx=4)∨(0<i∧e=e25 L.length (.slice (some ⟨4,0,none⟩) i i) j∧h=JA l m c1 c2 n L (pR (bL m) L i)∧nx=5)),⟨L.length,?_⟩,?_⟩
   ·refine aL (e0:=e25 L.length (.slice none 0 0) 0) (h0:=h25 l m c1 c2 n L) (n0:=4) ⟨0,0,rfl,Nat.zero_le _,rfl,.inl ⟨rfl,rfl,rfl,rfl⟩⟩ ?_ ?_ (by decide)
    ·unfold e25;((repeat' refine iE rfl rfl ?_);exact iN)
    ·unfold h25 aX aB;((repeat'(first|refine iF rfl rfl ?_|refine iC rfl rfl rfl ?_|refine iJ rfl rfl rfl rfl ?_));exact iN)
   ·rintro q e h nx ⟨i,j,hj,hi,rfl,⟨hi0,rfl,rfl,rfl⟩|⟨hip,rfl,rfl,rfl⟩⟩
    ·subst hi0;unfold e25 h25 aX aB;((conv=>whnf);refine bm (fun m1=>?_) (fun m1=>?_))
     ·((conv=>whnf);refine bm (fun m2=>?_) (fun m2=>?_))
      ·(conv=>whnf);refine iL (fP L (i:=0) (by omega) ?_) ?_
       ·show _+Int.toNat j*1=_;omega
       (conv=>whnf);refine⟨l,m,aG aR rfl,aG aU rfl,?_⟩;refine aJ (pY q1 (i:=0) (by omega)) ?_;((conv=>whnf);refine bm (fun m3=>?_) (fun m3=>?_))
       ·(conv=>whnf);refine⟨L.length - 1,by omega,?_⟩;refine iU (e0:=e25 L.length (.slice (some ⟨4,0,none⟩) 1 1) (j+1)) (h0:=JA l m c1 c2 n L [bL m (aN L 0)]) (n0:=5) 4 5 (by decide) (by decide) ⟨1,j+1,by omega,by omega,rfl,.inr ⟨Nat.one_pos,rfl,rfl,rfl⟩⟩ ?_ ?_ ?_
        ·unfold e25;((repeat' refine iE rfl rfl ?_);exact iN)
        ·unfold JA aX aB;((repeat'(first|refine iF rfl rfl ?_|refine iC rfl rfl rfl ?_|refine iJ rfl rfl rfl rfl ?_));exact iN)
        ·unfold JA;((repeat' refine iK rfl ?_);exact iN)
       ·exfalso;simp [aA,aC,aH] at m3;omega
      ·exfalso;simp [aA,aC] at m2;omega
     ·exfalso;simp [aA,aC] at m1;omega
    ·unfold e25 JA aX aB;have hll:(flat aP.fl (pR (bL m) L i)).length=i:=(by rw [bD,pT];show i*1=i;omega);((conv=>whnf);refine bm (fun m1=>?_) (fun m1=>?_))
     ·have hlt:i<L.length:=(by simp [aA,aC] at m1;omega);((conv=>whnf);refine bm (fun m2=>?_) (fun m2=>?_))
      ·(conv=>whnf);refine iL (fP L (i:=i) hlt ?_) ?_
       ·show _+Int.toNat j*1=_;omega
       (conv=>whnf);refine⟨l,m,aG aR rfl,aG aU rfl,?_⟩;refine aJ (pY q1 (i:=i) hlt) ?_;((conv=>whnf);refine bm (fun m3=>?_) (fun m3=>?_))
       ·exfalso;have:=Nat.le_of_ble_eq_true m3;omega
       ·((conv=>whnf);refine bm (fun m4=>?_) (fun m4=>?_))
        ·((conv=>whnf);refine bm (fun m5=>?_) (fun m5=>?_))
         ·(conv=>whnf);refine⟨L.length - (i+1),by omega,?_⟩
          refine iU (e0:=e25 L.length (.slice (some ⟨4,0,none⟩) (i+1) (i+1)) (j+1)) (h0:=JA l m c1 c2 n L (pR (bL m) L i++[bL m (aN L i)])) (n0:=5) 4 6 (by decide) (by decide)
           ⟨i+1,j+1,by omega,by omega,rfl,.inr ⟨Nat.succ_pos _,rfl,rfl,rfl⟩⟩ ?_ ?_ ?_
          ·unfold e25;((repeat' refine iE rfl rfl ?_);exact iN)
          ·unfold JA aX aB;((repeat'(first|refine iW rfl rfl (bG (aI aP _) (gV aP (pR (bL m) L i) (bL m (aN L i)) (pT _ _ _).symm)) ?_|refine iF rfl rfl ?_|refine iC rfl rfl rfl ?_|refine iJ rfl rfl rfl rfl ?_));exact iN)
          ·unfold JA;((repeat' refine iK rfl ?_);exact iN)
         ·exfalso;simp [aA,aC,aH] at m5;omega
        ·exact sJ (s:=1) (by omega) (by omega) m4
      ·exfalso;simp [aA,aC] at m2;omega
     ·have hge:i=L.length:=(by simp [aA,aC] at m1;omega);(conv=>whnf);rw [← hQ,← hge];have hpos:0<(pR (bL m) L i).length:=(by rw [pT];omega);have:=v7 aP (l:=pR (bL m) L i) (e:=some 0) (h:=JA l m c1 c2 n L (pR (bL m) L i)) (q:=4) (nx:=5) hpos rfl;rw [pT] at this;exact this
def smI (l1 l2:List Int):Bool:=decide (l1=l2)
def smS (l1 l2:List Int):Option (Bool × Value):=some (decide (l1.length≤1000000),.bool (smI l1 l2))
def e21 (l1 l2:List Int)(c1 c2:Nat)(j:Int):List (Nat × Value):=[(0,.slice (some ⟨0,0,none⟩) l1.length c1),(1,.slice (some ⟨1,0,none⟩) l2.length c2),(5,iv j)]
def h21 (l1 l2:List Int):Heap:=[(0,.cells false true 1 (flat aP.fl l1)),(1,.cells false true 1 (flat aP.fl l2))]
theorem aFM {l1 l2:List Int}(hl:l1.length=l2.length)(h:∀ k,k<l1.length→aN l1 k=aN l2 k):l1=l2:=by
 refine List.ext_getElem hl fun k h1 h2=>?_;have:=h k h1;rw [gK h1,gK h2] at this;exact this
def aFz:Nat × XF:=(21,l2X aP smS)
theorem aKm:cE Go.Proofs.Tryz.prog aFz.1 aFz.2:=aEF aP (f:=21) (s:=smS) (aK (xl:=[]) .nil) fun l1 l2 v hs=>by
 have hs':l1.length≤1000000∧v=.bool (smI l1 l2):=by
  unfold smS at hs;injection hs with hs;injection hs with h1 h2;exact⟨by simpa using h1,h2.symm⟩
 obtain⟨hlen,rfl⟩:=hs';refine⟨rfl,fun c1 c2=>?_⟩;((conv=>whnf);refine bm (fun h1=>?_) (fun h1=>?_))
 ·(conv=>whnf);have hne:l1≠l2:=by
   intro e;simp [aA,aC,e] at h1
  show Value.bool false=.bool (decide (l1=l2));rw [decide_eq_false hne]
 ·have hll:l1.length=l2.length:=(by simp [aA,aC] at h1;omega);(conv=>whnf);refine⟨fun n e h nx=>∃ (i:Nat) (j:Int),j=i∧i≤l1.length∧n=l1.length - i∧(∀ k,k<i→aN l1 k=aN l2 k)∧e=e21 l1 l2 c1 c2 j∧h=h21 l1 l2∧nx=2,⟨l1.length,?_⟩,?_⟩
  ·refine aL (e0:=e21 l1 l2 c1 c2 0) (h0:=h21 l1 l2) (n0:=2) ⟨0,0,rfl,Nat.zero_le _,rfl,fun k h=>absurd h (Nat.not_lt_zero k),rfl,rfl,rfl⟩ ?_ ?_ (by decide)
   ·unfold e21;((repeat' refine iE rfl rfl ?_);exact iN)
   ·unfold h21;((repeat'(first|refine iF rfl rfl ?_|refine iJ rfl rfl rfl rfl ?_));exact iN)
  ·rintro n e h nx ⟨i,j,hj,hi,rfl,hb,rfl,rfl,rfl⟩;unfold e21 h21;((conv=>whnf);refine bm (fun g1=>?_) (fun g1=>?_))
   ·have hlt:i<l1.length:=(by simp [aA,aC] at g1;omega);((conv=>whnf);refine bm (fun g2=>?_) (fun g2=>?_))
    ·(conv=>whnf);refine iL (fP l1 hlt ?_) ?_
     ·show _+Int.toNat j*1=_;omega
     ((conv=>whnf);refine bm (fun g3=>?_) (fun g3=>?_))
     ·(conv=>whnf);refine iL (fP l2 (i:=i) (by omega) ?_) ?_
      ·show _+Int.toNat j*1=_;omega
      ((conv=>whnf);refine bm (fun g4=>?_) (fun g4=>?_))
      ·(conv=>whnf);have hne:l1≠l2:=by
        intro e;simp [aA,aC,e] at g4
       show Value.bool false=.bool (decide (l1=l2));rw [decide_eq_false hne]
      ·have g4:aN l1 i=aN l2 i:=(by simpa [aA,aC] using g4);((conv=>whnf);refine bm (fun g5=>?_) (fun g5=>?_))
       ·(conv=>whnf);refine⟨l1.length - (i+1),by omega,?_⟩;refine aL (e0:=e21 l1 l2 c1 c2 (j+1)) (h0:=h21 l1 l2) (n0:=2) ⟨i+1,j+1,by omega,hlt,rfl,fun k hk=>?_,rfl,rfl,rfl⟩ ?_ ?_ (by decide)
        ·by_cases hki:k=i
         ·rw [hki];exact g4
         ·exact hb k (by omega)
        ·unfold e21;((repeat' refine iE rfl rfl ?_);exact iN)
        ·unfold h21;((repeat'(first|refine iF rfl rfl ?_|refine iJ rfl rfl rfl rfl ?_));exact iN)
       ·exfalso;simp [aA,aC,aH] at g5;omega
     ·exfalso;simp [aA,aC] at g3;omega
    ·exfalso;simp [aA,aC] at g2;omega
   ·have hge:i=l1.length:=(by simp [aA,aC] at g1;omega);(conv=>whnf);show Value.bool true=.bool (decide (l1=l2));rw [decide_eq_true (aFM hll fun k hk=>hb k (by omega))]
theorem aFF {l:List Pt}{m:List Ed}(h1:(!(decide ((l.length:Int)≤60)&&decide ((m.length:Int)≤60)))=false):l.length≤1000∧m.length≤1000:=by
 have h1:(decide ((l.length:Int)≤60)&&decide ((m.length:Int)≤60))=true:=(by simpa using h1);simp only [Bool.and_eq_true,decide_eq_true_eq] at h1;omega
theorem w5 (l:List Pt)(m:List Ed)(n:Int)(c1 c2:Nat)(d f:Int):body [aBQ,X16,aFz,aGb,aFN,aGO,aF9,aFd,aGh] 5 [aE l.length m.length c1 c2 n,iv d,iv f] (aB aR aU l m) 2 (fun v _ _=>v=.bool true):=by
 (conv=>whnf);refine⟨l,m,aG aR rfl,aG aU rfl,?_⟩;((conv=>whnf);refine bm (fun h1=>?_) (fun h1=>?_))
 ·(conv=>whnf)
 ·have hlm:l.length≤1000∧m.length≤1000:=aFF h1;have hsm:=smB hlm;obtain⟨O,hO⟩:∃ O,(if j8 l m n f=true then GW l m f else [])=O:=⟨_,rfl⟩;have hOl:O.length≤1000000:=by
   rw [← hO];split
   ·rename_i hf;have hf:(cX l m n&&qG n f)=true:=hf;simp only [Bool.and_eq_true] at hf;have:=(TO hf.1 hf.2).2.2.1;unfold GW;rw [wZ];omega
   ·exact Nat.zero_le _
  have hsame:smI O O=true:=decide_eq_true rfl;(conv=>whnf);refine⟨l,m,aG aR rfl,aG aU rfl,?_⟩;refine aJ hsm ?_;(conv=>whnf);refine⟨l,m,aG aR rfl,aG aU rfl,?_⟩;refine aJ hsm ?_;(conv=>whnf);refine⟨_,_,_,[iv f],l,m,rfl,aG aR rfl,aG aU rfl,?_⟩;refine aJ hsm ?_;rw [hO];cases O with
  |nil =>
   (conv=>whnf);refine⟨_,_,_,[iv f],l,m,rfl,aG aR rfl,aG aU rfl,?_⟩;refine aJ hsm ?_;rw [hO];(conv=>whnf);refine⟨l,m,aG aR rfl,aG aU rfl,?_⟩;refine aJ hsm ?_;(conv=>whnf);refine⟨l,m,aG aR rfl,aG aU rfl,?_⟩;refine aJ hsm ?_
   repeat' (((conv=>whnf);refine bm (fun g=>?_) (fun g=>?_)))
   all_goals (conv=>whnf)
   all_goals first
    |(exfalso;simp [aA,aC] at g;done)
    |(refine⟨[],[],⟨rfl,rfl,rfl⟩,⟨rfl,rfl,rfl⟩,?_⟩
      refine aJ (decide_eq_true hOl) ?_;rw [hsame];(conv=>whnf))
  |cons a t =>
   (conv=>whnf);refine⟨_,_,_,[iv f],l,m,rfl,aG aR rfl,aG aU rfl,?_⟩;refine aJ hsm ?_;rw [hO];(conv=>whnf);refine⟨l,m,aG aR rfl,aG aU rfl,?_⟩;refine aJ hsm ?_;(conv=>whnf);refine⟨l,m,aG aR rfl,aG aU rfl,?_⟩;refine aJ hsm ?_
   repeat' (((conv=>whnf);refine bm (fun g=>?_) (fun g=>?_)))
   all_goals (conv=>whnf)
   all_goals first
    |(exfalso;simp [aA,aC] at g;done)
    |(refine⟨a::t,a::t,aG aP rfl,aG aP rfl,?_⟩
      refine aJ (decide_eq_true hOl) ?_;rw [hsame];(conv=>whnf))
end Go.Aw
end

noncomputable section
namespace Go.Proofs.YtjahkcbdecgbhaaGreat
open Go.ChangeShapes Go.WideShapes Go.ChangeAt Go.RowKit Go.Aw Go.Joins
set_option maxRecDepth 100000 in
theorem J6 (os:Os)(started:os.Started)(H:Type)(enc:TypeId × Value→H) :
  ReturnsInHanded {} Tryz.checked os 5 .any (Rows.facesWalksSpec.pre6 enc Tryz.prog Tryz.f5 Rows.facesWalksRow.domain false) (Rows.facesWalksSpec.post enc Tryz.prog Tryz.f5 false true false false):=by
 refine returnsInHanded_of_change (C:=Tryz.checked) Tryz.own started (by kernel_rfl) Tryz.func5
  (ChangeSpec.witness6 (enc:=enc) (C:=Tryz.checked) false ⟨#[],#[.agg #[.slice none 0 0,.slice none 0 0,.int .i64 0],.int .i64 0,.int .i64 0],[]⟩ 3 (by kernel_rfl) (by kernel_rfl) (by kernel_rfl) (by kernel_rfl)) ?_
 intro W base args ds gs before hval0 hW hcnd _;have hval:∀ (j:Nat) t v,Tryz.f5.params[j]? = some t→args[j]? = some v→Value.okWide Tryz.prog W .any base t v:=hval0;have hW':=hW;obtain⟨p,q,hA0,hV,rfl,hfz,hnd⟩:=hW;have hA:DataW.TrodAll enc Tryz.prog W 0 (fun _=>true) true Tryz.f5.params.toList args.toList ds p:=hA0;rw [Tryz.params5] at hA hval;obtain⟨v0,v1,v2,d0,d1,d2,p0,p1,p2,rfl,rfl,rfl,h0,h1,h2⟩:=trodAll_three hA;obtain⟨rfl,rfl⟩:=trodVars_none hV;obtain⟨cs,rfl,hsz⟩:=okWide_struct Tryz.underlying25 (hval 0 25 v0 rfl rfl);have h0':=h0;obtain⟨fuel,hf0⟩:=h0';obtain⟨xs,fu,_,_,hlen,hxl,hf⟩:=DataW.trod_struct Tryz.underlying25 hf0;rw [Tryz.aCP] at hlen;have hcs:∃ a b c,cs.toList=[a,b,c]:=aIt hlen;obtain⟨a,b,c,hcs⟩:=hcs;have ecs:cs=#[a,b,c]:=Array.ext' hcs;subst ecs;obtain⟨x0,x1,x2,rfl⟩:=aIt hxl;obtain⟨l,c1,loc1,a1,a2,a3⟩:=IH aR (by decide) Tryz.underlying22 Tryz.UF aI6 (show DataW.trod enc Tryz.prog W 0 (fun _=>true) true fu 22 [a]=some x0 by simpa [Tryz.aBZ,Value.cells] using hf 0 _ rfl);obtain⟨m,c2,loc2,b1,b2,b3⟩:=IH aU (by decide) Tryz.underlying23 Tryz.SC aHF (show DataW.trod enc Tryz.prog W 0 (fun _=>true) true fu 23 [b]=some x1 by simpa [Tryz.aCH,Value.cells] using hf 1 _ rfl);obtain⟨n,e1⟩:=lD (show DataW.trod enc Tryz.prog W 0 (fun _=>true) true fu 3 [c]=some x2 by simpa [Tryz.rW,Value.cells] using hf 2 _ rfl);subst e1;obtain⟨z0,rfl⟩:=okWide_int Tryz.underlying3 (hval 1 3 v1 rfl rfl);obtain⟨z1,rfl⟩:=okWide_int Tryz.underlying3 (hval 2 3 v2 rfl rfl);clear hA0 hval0;simp only [List.append_nil,List.append_assoc] at hW';have hlt:∀ x∈p0++(p1++p2),x.block<W.heap.size:=fun x hx=>(by simpa using hW'.lt x hx);refine (OD (r:=[iv z0,iv z1]) (.cons aKI (.cons x16 (.cons aKm (.cons aJK (.cons aKf (.cons aJL (.cons aKd (.cons aKo (.cons aJP .nil))))))))) rfl (w5 l m n c1 c2 z0 z1) rfl a1 b1 a2 b2 a3 b3).mono fun e W' ⟨he,hb⟩=>?_;subst he;refine⟨_,rfl,_,_,_,[],p0++(p1++p2),[],hW',trodAll_mk1 (aAZ true),?_,rfl,hb.frame _,fun h=>by cases h⟩;exact trodAll_mk3 (Below.trod Tryz.laidOut (by kernel_rfl) (of_decide_eq_true (by kernel_rfl)) h0 hb (fun x hx=>hlt x (List.mem_append.2 (.inl hx)))) (Below.trod Tryz.laidOut (by kernel_rfl) (of_decide_eq_true (by kernel_rfl)) h1 hb (fun x hx=>hlt x (List.mem_append.2 (.inr (List.mem_append.2 (.inl hx)))))) (Below.trod Tryz.laidOut (by kernel_rfl) (of_decide_eq_true (by kernel_rfl)) h2 hb (fun x hx=>hlt x (List.mem_append.2 (.inr (List.mem_append.2 (.inr hx))))))
set_option maxRecDepth 100000 in
theorem jf:joinedFacts Tryz.prog 5 Tryz.f5 Rows.facesWalksSpec Rows.facesWalksRow=true:=by
 unfold joinedFacts;exact (eD (eD (eD (eD (eD (eD (eD (eD (eD (eD (eD (eD (eD (eD (eD (eD (eD (eD (eD (eD (eD (eD (eD (eD (eD (eD (eD (eD (eD (eD (eD jf0 jf1) jf2) jf3) jf4) jf5) jf6) jf7) jf8) jf9) aKi) aKe) aKu) aKb) aJi) aK1) aJb) aJT) aKF) aK3) aK6) aJa) aJz) aJR) aJj) aK7) aJS) aKA) (by kernel_rfl)) aJW) aJe) aKy)
theorem walks_holds:Rows.FacesWalksSaid :=
 OpenClaim.holds_of_wide 5 Tryz.f5 rfl rfl rfl rfl rfl rfl rfl ⟨rfl,rfl,rfl,rfl,rfl⟩ rfl rfl rfl rfl rfl (by kernel_rfl) Tryz.func5 jf
  (of_decide_eq_true (by kernel_rfl)) (by unfold Func.isWrapper;first|(rw [if_pos (by decide +kernel)];kernel_rfl)|(rw [if_neg (by decide +kernel)];exact⟨rfl,rfl⟩))
  (fun os started H enc _=>J6 os started H enc)
#print axioms walks_holds
end Go.Proofs.YtjahkcbdecgbhaaGreat
end
