/-
  FacesShortest No condition.
-/
import Derived.Test.YtjahkcbdecgbhaaGreatQBc
import Derived.Test.YtjahkcbdecgbhaaGreatQBl
import Derived.Test.YtjahkcbdecgbhaaGreatQBm
import Derived.Test.YtjahkcbdecgbhaaGreatQBo
import Derived.Test.YtjahkcbdecgbhaaGreatQBq
import Derived.Carry
set_option linter.unusedSimpArgs false
set_option linter.unusedVariables false
noncomputable section
namespace Go.Aw
set_option maxRecDepth 100000
def xJ (m:List Ed)(F:List Int)(b:Int):Nat→Int→List Int
 |0,f=>[f]
 |k+1,f=>if f=b then [f] else f::xJ m F b k (CB F f b (c7 m f) (c7 m f).length)
theorem O7 {m:List Ed}{F:List Int}{b:Int}:∀ (k:Nat) (f:Int) (o:List Int),CC m F b k f (o++[f])=o++xJ m F b k f
 |0,f,o=>rfl
 |k+1,f,o=>by
  unfold CC xJ;split
  ·rfl
  ·rw [O7 k _ (o++[f]),List.append_assoc];rfl
def Lds (m:List Ed)(n:Int):List Int→Prop
 |[]=>True
 |[_]=>True
 |f::g::r=>oJ n f=true∧g∈c7 m f∧(r=[]∨g≠0)∧Lds m n (g::r)
section
variable {l:List Pt}{m:List Ed}{n b:Int}
theorem IS (F:List Int)(k:Nat)(f:Int):∃ r,xJ m F b k f=f::r:=by
 cases k with
 |zero=>exact⟨[],rfl⟩
 |succ k =>
  unfold xJ;split
  ·exact⟨[],rfl⟩
  ·exact⟨_,rfl⟩
theorem aB7 (F:List Int)(k:Nat):xJ m F b k b=[b]:=by
 cases k with
 |zero=>rfl
 |succ k=>unfold xJ;rw [if_pos rfl]
theorem aJY (ho:cN l m n=true)(hb:0≤b∧b≤n){f:Int}(hf:0≤f∧f≤n)(hne:f≠b)(h0:0≤aB (fF m n b) f.toNat):CB (fF m n b) f b (c7 m f) (c7 m f).length∈c7 m f∧(CB (fF m n b) f b (c7 m f) (c7 m f).length≠0∨CB (fF m n b) f b (c7 m f) (c7 m f).length=b):=by
 have hE:C1 m n:=fun i hi=>sH ho hi;obtain⟨g1,_,_,_⟩:=SS ho hb hf hne h0;rcases x9 (F:=fF m n b) (f:=f) (b:=b) (fun t ht=>(fR hE ht).1) (c7 m f).length (Nat.le_refl _) with ⟨e,_⟩|⟨u,hu,e1,e2,_⟩
 ·omega
 ·rw [e1];simp only [fOk,Bool.and_eq_true,Bool.or_eq_true,decide_eq_true_eq] at e2;exact⟨tJ hu,e2.2⟩
theorem UP (ho:cN l m n=true)(hb:0≤b∧b≤n):∀ (k:Nat) (f:Int),0≤f∧f≤n→0≤aB (fF m n b) f.toNat→Lds m n (xJ m (fF m n b) b k f)∧(aB (fF m n b) f.toNat+1≤k→(xJ m (fF m n b) b k f).getLast? = some b∧((xJ m (fF m n b) b k f).length:Int)=aB (fF m n b) f.toNat+1)
 |0,f,hf,h0=>⟨trivial,fun h=>by omega⟩
 |k+1,f,hf,h0=>by
  by_cases hfb:f=b
  ·have hz:=(EP rfl (oT ho hb).1 (oT ho hb).2.1 (oT ho hb).2.2 (g:=f.toNat) (by have:=(oT ho hb).1;omega) (n+1).toNat).2 (by omega);have e:xJ m (fF m n b) b (k+1) f=[b]:=(by rw [hfb];exact aB7 _ _);rw [e];refine⟨trivial,fun _=>⟨rfl,?_⟩⟩;have:aB (fF m n b) f.toNat=0:=hz;rw [this];rfl
  ·obtain⟨g1,g2,g3,g4⟩:=SS ho hb hf hfb h0;obtain⟨g5,g6⟩:=aJY ho hb hf hfb h0;have e:xJ m (fF m n b) b (k+1) f=f::xJ m (fF m n b) b k (CB (fF m n b) f b (c7 m f) (c7 m f).length):=by
    show (if _ then _ else _)=_;rw [if_neg hfb]
   rw [e];generalize CB (fF m n b) f b (c7 m f) (c7 m f).length=g at *;obtain⟨i1,i2⟩:=UP ho hb k g g1 (by omega);obtain⟨r,hr⟩:=IS (m:=m) (b:=b) (fF m n b) k g;rw [hr] at i1 i2 ⊢;refine⟨⟨by unfold oJ;rw [decide_eq_true hf.1,decide_eq_true hf.2];rfl,g5,?_,i1⟩,fun h=>?_⟩
   ·rcases g6 with h|h
    ·exact .inr h
    ·rw [h,aB7] at hr;injection hr with _ hr;exact .inl hr.symm
   ·obtain⟨j1,j2⟩:=i2 (by omega);refine⟨by rw [List.getLast?_cons_cons];exact j1,?_⟩;simp only [List.length_cons] at j2 ⊢;omega
theorem aJb (ho:cN l m n=true)(hb:0≤b∧b≤n){g:Nat}(hg:g<(n+1).toNat):aB (fF m n b) g<n+1:=by
 obtain⟨hTn,hE,hb2⟩:=oT ho hb;have h1:=(LO rfl hTn hE hb2 (n+1).toNat).2.1 g hg;have h2:=((KI rfl hTn hE hb2 (n+1).toNat).rng g hg).2;rw [h1] at h2;unfold fF;omega
theorem aGJ (ho:cN l m n=true)(hb:0≤b∧b≤n){f g:Int}(hf:0≤f∧f≤n)(hg:0≤g∧g≤n)(h0:0≤aB (fF m n b) g.toNat)(hp:¬ (g=0∧g≠b))(hn:f∈c7 m g):0≤aB (fF m n b) f.toNat∧aB (fF m n b) f.toNat≤aB (fF m n b) g.toNat+1:=by
 have hlt:=aJb ho hb (g:=g.toNat) (by have:=(oT ho hb).1;omega);obtain⟨hTn,hE,hb2⟩:=oT ho hb;obtain⟨z,hz⟩:∃ z:Nat,aB (fF m n b) g.toNat=z:=⟨(aB (fF m n b) g.toNat).toNat,by omega⟩;rw [hz] at hlt ⊢;unfold fF at hz ⊢;obtain⟨d,hd⟩:∃ d,(n+1).toNat=z+1+d:=⟨(n+1).toNat - (z+1),by omega⟩;have hgz:aB (gD m n b z) g.toNat=z:=by
  have:=oD rfl hTn hE hb2 (g:=g.toNat) (by omega) z (1+d);rw [show z+(1+d)=(n+1).toNat by omega] at this;omega
 have hs:=(GK rfl hTn hE (EN rfl hTn hE hb2 z)).2 f.toNat (by omega);have hr:=H6 rfl hTn hE hb2 (g:=f.toNat) (by omega) z;have hu:=oD rfl hTn hE hb2 (g:=f.toNat) (by omega) (z+1) d;rw [← hd] at hu;by_cases hc:aB (gD m n b z) f.toNat<0
 ·rw [if_pos ⟨hc,g,⟨hg.1,by omega,hgz⟩,hp,by rw [Int.toNat_of_nonneg hf.1];exact hn⟩] at hs;omega
 ·rw [if_neg (fun h=>hc h.1)] at hs;omega
theorem IT (ho:cN l m n=true)(hb:0≤b∧b≤n):∀ (L:List Int) (f:Int),0≤f∧f≤n→Lds m n (f::L)→(f::L).getLast? = some b→0≤aB (fF m n b) f.toNat∧aB (fF m n b) f.toNat+1≤((f::L).length:Int)
 |[],f,hf,_,hl=>by
  obtain⟨hTn,hE,hb2⟩:=oT ho hb;have hfb:f=b:=(by simpa using hl);have hz:=(EP rfl hTn hE hb2 (g:=f.toNat) (by omega) (n+1).toNat).2 (by omega);have:aB (fF m n b) f.toNat=0:=hz;rw [this];exact⟨Int.le_refl _,by simp⟩
 |g::r,f,hf,hL,hl=>by
  obtain⟨h1,h2,h3,h4⟩:=hL;have hE:C1 m n:=fun i hi=>sH ho hi;obtain⟨t,ht,et⟩:=uC h2;have hg:=fR hE ht;rw [et] at hg;rw [List.getLast?_cons_cons] at hl;obtain⟨i1,i2⟩:=IT ho hb r g hg h4 hl;have hp:¬ (g=0∧g≠b):=by
   rcases h3 with h|h
   ·subst h;have:g=b:=(by simpa using hl);exact fun h=>h.2 this
   ·exact fun h'=>h h'.1
  obtain⟨j1,j2⟩:=aGJ ho hb hf hg i1 hp (VB h2);refine⟨j1,?_⟩;simp only [List.length_cons] at i2 ⊢;omega
end
def OX (l:List Pt)(m:List Ed)(n:Int)(L:List Int)(i:Nat):Bool:=lO l m n (aB L i)&&(decide (aB L (i+1)∈c7 m (aB L i))&&(decide (L.length≤i+2) || decide (aB L (i+1)≠0)))
def ldG (l:List Pt)(m:List Ed)(n:Int)(L:List Int):Nat→Bool
 |0=>true
 |i+1=>ldG l m n L i&&OX l m n L i
def ldH (n:Int)(L:List Int)(a b:Int):Bool:=decide (0<L.length)&&(decide (aB L 0=a)&&(decide (aB L (L.length - 1)=b)&&(decide (0≤a)&&(decide (a≤n)&&(decide (L.length≠1) || decide (a=b))))))
def P5 (l:List Pt)(m:List Ed)(n:Int)(L:List Int)(a b:Int):Bool:=ldH n L a b&&ldG l m n L (L.length - 1)
def ldS (l:List Pt)(m:List Ed)(n:Int)(L:List Int):List Value→Option (Bool × Value)
 |[.int .i64 a,.int .i64 b]=>some (decide (l.length≤1000)&&decide (m.length≤1000)&&decide (L.length≤1000000),.bool (P5 l m n L a b))
 |_=>none
theorem aBe {l:List Pt}{m:List Ed}{n:Int}{L:List Int}{i:Nat}(h:OX l m n L i=false):∀ {k:Nat},i<k→ldG l m n L k=false
 |0,hk=>by omega
 |k+1,hk=>by
  unfold ldG;by_cases e:i=k
  ·rw [← e,h,Bool.and_false]
  ·rw [aBe h (show i<k by omega),Bool.false_and]
theorem K0 {l:List Pt}{m:List Ed}{n:Int}{L:List Int}:∀ {k:Nat},ldG l m n L k=true↔∀ i,i<k→OX l m n L i=true
 |0=>⟨fun _ i h=>absurd h (Nat.not_lt_zero i),fun _=>rfl⟩
 |k+1=>by
  unfold ldG;rw [Bool.and_eq_true,K0];constructor
  ·rintro ⟨h1,h2⟩ i hi;by_cases e:i=k
   ·rw [e];exact h2
   ·exact h1 i (by omega)
  ·intro h;exact⟨fun i hi=>h i (by omega),h k (by omega)⟩
theorem LL {l:List Pt}{m:List Ed}{n:Int}(ho:cN l m n=true):∀ (L:List Int),Lds m n L↔∀ i,i+1<L.length→OX l m n L i=true
 |[]=>⟨fun _ i h=>absurd h (Nat.not_lt_zero _),fun _=>trivial⟩
 |[x]=>⟨fun _ i h=>by simp at h,fun _=>trivial⟩
 |f::g::r=>by
  have ih:=LL ho (g::r);have h0:OX l m n (f::g::r) 0=(oJ n f&&(decide (g∈c7 m f)&&(decide (r=[]) || decide (g≠0)))):=by
   unfold OX lO;rw [ho,Bool.true_and];show (oJ n f&&(decide (g∈c7 m f)&&(decide ((f::g::r).length≤2) || decide (g≠0))))=_;cases r with
   |nil=>rfl
   |cons y t=>rw [decide_eq_false (show ¬ (f::g::y::t).length≤2 by simp),decide_eq_false (show ¬ (y::t=[]) by simp)]
  have hs:∀ i,OX l m n (f::g::r) (i+1)=OX l m n (g::r) i:=fun i=>by
   unfold OX;rw [show aB (f::g::r) (i+1)=aB (g::r) i from rfl,show aB (f::g::r) (i+1+1)=aB (g::r) (i+1) from rfl];congr 3;rw [decide_eq_decide];simp only [List.length_cons];omega
  show (oJ n f=true∧g∈c7 m f∧(r=[]∨g≠0)∧Lds m n (g::r))↔_;rw [ih];constructor
  ·rintro ⟨h1,h2,h3,h4⟩ i hi;cases i with
   |zero =>
    rw [h0,h1,decide_eq_true h2];simp only [Bool.true_and,Bool.or_eq_true,decide_eq_true_eq];exact h3
   |succ i =>
    rw [hs];exact h4 i (by simp only [List.length_cons] at hi ⊢;omega)
  ·intro h;have h1:=h 0 (by simp);rw [h0] at h1;simp only [Bool.and_eq_true,Bool.or_eq_true,decide_eq_true_eq] at h1;exact⟨h1.1,h1.2.1,h1.2.2,fun i hi=>by rw [← hs];exact h (i+1) (by simp only [List.length_cons] at hi ⊢;omega)⟩
theorem TP {L:List Int}{b:Int}(h:0<L.length):L.getLast? = some b↔aB L (L.length - 1)=b:=by
 rw [List.getLast?_eq_getElem?,List.getElem?_eq_getElem (by omega),dK (by omega)];constructor
 ·intro h;injection h
 ·intro h;rw [h]
theorem JF {l:List Pt}{m:List Ed}{n a b:Int}(ho:cN l m n=true)(h:LC m n a b=0):P5 l m n (KF m n a b) a b=true∧((KF m n a b).length:Int)=aB (fF m n b) a.toNat+1∧0≤aB (fF m n b) a.toNat:=by
 obtain⟨e1,e2⟩:=LQ (b:=b) ho a;rw [e2] at h;rw [e1];unfold rwE at h;unfold rwL;split at h
 ·rename_i hab;rw [if_pos hab];simp only [oJ,Bool.and_eq_true,decide_eq_true_eq] at hab;obtain⟨ha,hb⟩:=hab;split at h
  ·cases h
  ·rename_i hF;rw [if_neg hF];have hTn:=(oT ho hb).1;have hlt:=aJb ho hb (g:=a.toNat) (by omega);have hr:CC m (fF m n b) b ((n+1).toNat+1) a [a]=xJ m (fF m n b) b ((n+1).toNat+1) a:=by
    have:=O7 (m:=m) (F:=fF m n b) (b:=b) ((n+1).toNat+1) a [];rw [List.nil_append,List.nil_append] at this;exact this
   rw [hr];obtain⟨i1,i2⟩:=UP ho hb ((n+1).toNat+1) a ha (by omega);obtain⟨j1,j2⟩:=i2 (by omega);obtain⟨r,hh⟩:=IS (m:=m) (b:=b) (fF m n b) ((n+1).toNat+1) a;refine⟨?_,j2,by omega⟩;rw [hh] at i1 j1 j2 ⊢;unfold P5;rw [Bool.and_eq_true,K0];refine⟨?_,fun i hi=>(LL ho _).1 i1 i (by omega)⟩;have hl:=(TP (L:=a::r) (by simp)).1 j1;unfold ldH;simp only [Bool.and_eq_true,Bool.or_eq_true,decide_eq_true_eq];refine⟨by simp,rfl,hl,ha.1,ha.2,?_⟩;cases r with
   |nil=>exact .inr hl
   |cons y t=>exact .inl (by simp)
 ·cases h
theorem W9 {l:List Pt}{m:List Ed}{n a b:Int}{L:List Int}(ho:cN l m n=true)(h:P5 l m n L a b=true):LC m n a b=0∧(KF m n a b).length≤L.length:=by
 unfold P5 at h;rw [Bool.and_eq_true,K0] at h;obtain⟨h1,h2⟩:=h;unfold ldH at h1;simp only [Bool.and_eq_true,Bool.or_eq_true,decide_eq_true_eq] at h1;obtain⟨g1,g2,g3,g4,g5,g6⟩:=h1;have hE:C1 m n:=fun i hi=>sH ho hi;have hL:=(LL ho L).2 fun i hi=>h2 i (by omega);have hl:=(TP g1).2 g3;cases L with
 |nil=>simp at g1
 |cons f r =>
  have hfa:f=a:=g2;subst hfa
  -- b is a face
  have hb:0≤b∧b≤n:=by
   by_cases hr:r=[]
   ·subst hr;have:f=b:=g3;omega
   ·have hpos:0<r.length:=List.length_pos_iff.2 hr;have hd:=h2 ((f::r).length - 2) (by simp only [List.length_cons];omega);unfold OX at hd;simp only [Bool.and_eq_true,decide_eq_true_eq] at hd;have hm:=hd.2.1;rw [show (f::r).length - 2+1=(f::r).length - 1 by simp only [List.length_cons];omega,g3] at hm;obtain⟨t,ht,et⟩:=uC hm;have:=fR hE ht;rw [et] at this;exact this
  obtain⟨i1,i2⟩:=IT ho hb r f ⟨g4,g5⟩ hL hl;have hE0:LC m n f b=0:=by
   rw [(LQ (b:=b) ho f).2];unfold rwE;rw [if_pos (by unfold oJ;rw [decide_eq_true g4,decide_eq_true g5,decide_eq_true hb.1,decide_eq_true hb.2];rfl),if_neg (by omega)]
  have:=(JF ho hE0).2.1;refine⟨hE0,?_⟩;omega
end Go.Aw
end

noncomputable section
namespace Go.Aw
set_option maxRecDepth 100000
set_option maxHeartbeats 2000000
theorem aDi {x y x' y':Value}{r0 r:List Value}{h0:Heap}{n0:Nat}{h:Heap}{nx:Nat}(i:In (x::(r0++[y])) h0 n0 (x'::(r++[y'])) h nx):In (x::y::r0) h0 n0 (x'::y'::r) h nx:=by
 intro ι B w H hs;obtain⟨ι1,e1,k1,R1⟩:=i ι B w H (fun v hv=>hs v (by
  simp only [List.mem_cons,List.mem_append,List.not_mem_nil,or_false] at hv ⊢;rcases hv with h|h|h
  ·exact .inl h
  ·exact .inr (.inr h)
  ·exact .inr (.inl h)))
 refine⟨ι1,?_,fun v hv=>k1 v (by
  simp only [List.mem_cons,List.mem_append,List.not_mem_nil,or_false] at hv ⊢;rcases hv with h|h|h
  ·exact .inl h
  ·exact .inr (.inr h)
  ·exact .inr (.inl h)),R1⟩
 simp only [List.map_cons,List.map_append,List.map_nil] at e1 ⊢;injection e1 with e1 e2;obtain⟨e3,e4⟩:=List.append_inj' e2 rfl;injection e4 with e4 _;rw [e1,e3,e4]
section
variable {α β γ:Type}(E:El α)(G:El β)(J:El γ)
def mLV (s:List α→List β→Int→List γ→List Value→Option (Bool × Value)):XF:=fun args h nx K =>
 ∃ p q n r o l m k,args=mapA p q n::o::r∧jQ E h p l∧jQ G h q m∧jQ J h o k∧(match s l m n k r with|some pr=>dP pr.1 (K pr.2 h nx)|none=>False)
theorem aH8 {P:Program}{C:VC}{f:Nat}{s:List α→List β→Int→List γ→List Value→Option (Bool × Value)}(hC:bL P C)
  (hs:∀ l m n k r v,s l m n k r=some (true,v)→fC r=true∧gT v=true∧∀ c1 c2 c3,C f (aD l.length m.length c1 c2 n::.slice (some ⟨2,0,none⟩) k.length c3::r) (j9 E G J l m k) 3 (fun u _ _=>u=v)):dM P f (mLV E G J s):=by
 refine (jX (S:=fun args0 h0 n0 v1 h1 j=>∃ l m n k r c1 c2 c3,s l m n k r=some (true,v1)∧args0=aD l.length m.length c1 c2 n::.slice (some ⟨2,0,none⟩) k.length c3::r∧h0=j9 E G J l m k∧n0=3∧h1=[]∧j=0) hC ?_).mono ?_ ?_
 ·rintro args0 h0 n0 v1 h1 j ⟨l,m,n,k,r,c1,c2,c3,e1,rfl,rfl,rfl,rfl,rfl⟩;obtain⟨a1,a2,a3⟩:=hs l m n k r v1 e1;exact⟨rfl,_,a3 c1 c2 c3,fun v h nx e=>by rw [e];exact mI a2⟩
 ·rintro args h nx K ⟨p,q,n,r,o,l,m,k,rfl,hl,hm,hk,hx⟩;split at hx
  case h_2=>exact hx.elim
  rename_i pr e1;obtain⟨bb,u⟩:=pr;obtain⟨rfl,hx⟩:=aG.1 hx;obtain⟨a1,a2,a3⟩:=hs l m n k r u e1;obtain⟨c1,c2,c3,i⟩:=aCo (n:=n) (nx:=nx) E G J a1 hl hm hk;refine⟨_,_,3,u,[],0,⟨l,m,n,k,r,c1,c2,c3,e1,rfl,rfl,rfl,rfl,rfl⟩,aDi i,?_⟩;simp only [qW,w8,lT,nQ,r5 a2,Nat.add_zero];exact hx
 ·rintro args h nx K ⟨p,q,n,r,o,l,m,k,rfl,hl,hm,hk,hx⟩;split at hx
  case h_2=>exact hx.elim
  rename_i pr e1;obtain⟨hb,hx⟩:=aG.1 hx;exact⟨pr.2,h,nx,hx,fun K' hk'=>⟨p,q,n,r,o,l,m,k,rfl,hl,hm,hk,by rw [e1];exact aJ hb hk'⟩⟩
end
theorem aDn {l:List Pt}{m:List Ed}{n:Int}{L:List Int}{r:List Value}{v:Value}(hs:ldS l m n L r=some (true,v)):∃ a b,r=[iv a,iv b]∧(l.length≤1000∧m.length≤1000)∧L.length≤1000000∧v=.bool (P5 l m n L a b):=by
 unfold ldS at hs;split at hs
 ·injection hs with hs;injection hs with h1 h2;simp only [Bool.and_eq_true,decide_eq_true_eq] at h1;exact⟨_,_,rfl,h1.1,h1.2,h2.symm⟩
 ·cases hs
def sL:CP:={ aA with FT:=fun f=>(match Nat.beq f 51 with|true=>some Go.Proofs.Tryz.f51|false=>none),PL:=fun _ _=>none }
theorem Z3:(match Go.Proofs.Tryz.f51.body with|some b=>dR (fun _=>none) b|none=>true)=true:=by decide +kernel
theorem aCg:o8 Go.Proofs.Tryz.prog sL where
 ar:=rfl
 tab:=jD.tab
 mixed:=jD.mixed
 funcs:=fun f fn h=>by
  have h:(match Nat.beq f 51 with|true=>some Go.Proofs.Tryz.f51|false=>none)=some fn:=h;split at h
  ·rename_i e;have e:=Nat.eq_of_beq_eq_true e;subst e;injection h with h;subst h;refine⟨Go.Proofs.Tryz.func51,by decide +kernel,fun b hb=>?_⟩;have:=Z3;rw [hb] at this;exact this
  ·cases h
 xs:=fun _ _ h=>by cases h
def aHX (xl:List (Nat × XF)):VC:=rX sL none (CX (look xl)) noY
theorem NS {xl:List (Nat × XF)}(h:m7 xl):bL Go.Proofs.Tryz.prog (aHX xl):=xY aCg (aBq h.look) RL (LA h.look) CO none
def B4 (N c3:Nat)(j:Int)(v:Value)(r:Int):List (Nat × Value):=[(1,.slice (some ⟨2,0,none⟩) N c3),(4,pV 3),(9,iv j),(10,v),(11,iv r)]
def e51 (N c3:Nat)(j:Int):List (Nat × Value):=[(1,.slice (some ⟨2,0,none⟩) N c3),(4,pV 3),(9,iv j)]
def X51:Nat × XF:=(51,mLV aZ aY aL ldS)
theorem x51:dM Go.Proofs.Tryz.prog X51.1 X51.2:=aH8 aZ aY aL (NS (xl:=[aGw,X62]) (.cons aL3 (.cons x62 .nil))) fun l m n L r v hs=>by
 obtain⟨a,b,rfl,hlm,hL,rfl⟩:=aDn hs;clear hs;refine⟨rfl,rfl,fun c1 c2 c3=>?_⟩;cases hH:ldH n L a b with
 |false =>
  have hB:P5 l m n L a b=false:=(by unfold P5;rw [hH,Bool.false_and]);rw [hB];unfold ldH at hH;rw [← Bool.not_eq_true] at hH;simp only [Bool.and_eq_true,Bool.or_eq_true,decide_eq_true_eq] at hH;clear hB
  repeat' first
   |(((conv=>whnf);refine bm (fun c=>?_) (fun c=>?_)))
   |((conv=>whnf)
     refine eP (cF L (i:=0) ?_ ?_) ?_
     ·simp [sL,aA,aF] at *;omega
     ·rfl)
   |((conv=>whnf)
     refine eP (cF L (i:=L.length - 1) ?_ ?_) ?_
     ·simp [sL,aA,aF] at *;omega
     ·show 0+Int.toNat ((L.length:Int) - 1)*1=_;omega)
  all_goals (conv=>whnf)
  all_goals first
   |rfl
   |(exfalso;clear hlm;simp [sL,aA,aF,aI] at*<;> first|omega|(simp_all;done)|(simp_all;omega))
 |true =>
  have hB:P5 l m n L a b=ldG l m n L (L.length - 1):=(by unfold P5;rw [hH,Bool.true_and]);rw [hB];unfold ldH at hH;simp only [Bool.and_eq_true,Bool.or_eq_true,decide_eq_true_eq] at hH;clear hB
  repeat' first
   |(((conv=>whnf);refine bm (fun c=>?_) (fun c=>?_)))
   |((conv=>whnf)
     refine eP (cF L (i:=0) ?_ ?_) ?_
     ·simp [sL,aA,aF] at *;omega
     ·rfl)
   |((conv=>whnf)
     refine eP (cF L (i:=L.length - 1) ?_ ?_) ?_
     ·simp [sL,aA,aF] at *;omega
     ·show 0+Int.toNat ((L.length:Int) - 1)*1=_;omega)
  all_goals (conv=>whnf)
  all_goals first
   |(exfalso;clear hlm;simp [sL,aA,aF,aI] at*<;> first|omega|(simp_all;done)|(simp_all;omega))
   |skip
  all_goals (
   refine⟨fun q e h nx=>∃ (i:Nat) (j:Int),j=i+1∧i+1≤L.length∧q=L.length - (i+1)∧ldG l m n L i=true∧e=e51 L.length c3 j∧h=MJ l m c1 c2 n L∧nx=4,⟨L.length - 1,?_⟩,?_⟩
   ·refine cO (e0:=e51 L.length c3 1) (h0:=MJ l m c1 c2 n L) (n0:=4) ⟨0,1,rfl,by omega,rfl,rfl,rfl,rfl,rfl⟩ ?_ ?_ (by decide)
    ·unfold e51;((repeat' refine iE rfl rfl ?_);exact iN)
    ·unfold MJ bP j9;((repeat'(first|refine iF rfl rfl ?_|refine iC rfl rfl rfl ?_|refine iJ rfl rfl rfl rfl ?_));exact iN)
   ·rintro q e h nx ⟨i,j,hj,hi,rfl,hG,rfl,rfl,rfl⟩;have hGs:ldG l m n L (i+1)=OX l m n L i:=(by show (ldG l m n L i&&_)=_;rw [hG,Bool.true_and]);have hno:=fun (h:OX l m n L i=false) (h2:i+1<L.length)=>aBe h (k:=L.length - 1) (by omega);have hEq:OX l m n L i=(lO l m n (aB L i)&&(decide (aB L (i+1)∈c7 m (aB L i))&&(decide (L.length≤i+2) || decide (aB L (i+1)≠0)))):=rfl;unfold e51 MJ bP j9;((conv=>whnf);refine bm (fun g1=>?_) (fun g1=>?_))
    ·have hil:i+1<L.length:=(by simp [sL,aA,aF] at g1;omega);have hno:=fun h=>hno h hil;have hnbl:(c7 m (aB L i)).length≤1000000:=(by have:=xQ m (aB L i);omega);have hnp:nbP l m n ([iv (aB L i)])=some (true,if lO l m n (aB L i)=true then c7 m (aB L i) else [],some (if lO l m n (aB L i)=true then 0 else 1)):=(by unfold nbP;rw [smB hlm];rfl);generalize c7 m (aB L i)=nb at *;(conv=>whnf);cases hf:lO l m n (aB L i) with
     |false =>
      have hEf:OX l m n L i=false:=(by rw [hEq,hf,Bool.false_and]);rw [hf,if_neg (by decide),if_neg (by decide)] at hnp;refine⟨fun e h nx=>e=B4 L.length c3 j (.slice none 0 0) 1∧h=MJ l m c1 c2 n L∧nx=4,?_,?_⟩
      ·(conv=>whnf)
       repeat' first
        |(refine And.intro ?_ ?_ <;> (conv=>whnf))
        |(refine bm (fun g=>?_) (fun g=>?_) <;> (conv=>whnf))
        |(refine eP (cF L (i:=i) (by omega) ?_) ?_
          ·show 0+Int.toNat (j - 1)*1=_;omega
          (conv=>whnf))
        |(refine⟨_,_,_,[iv (aB L i)],l,m,rfl,aM aZ rfl,aM aY rfl,?_⟩
          rw [hnp];refine aJ rfl ?_;(conv=>whnf))
       all_goals first
        |(refine cO (e0:=B4 L.length c3 j (.slice none 0 0) 1) (h0:=MJ l m c1 c2 n L) (n0:=4) ⟨rfl,rfl,rfl⟩ ?_ ?_ (by decide)
          ·unfold B4;((repeat' refine iE rfl rfl ?_);exact iN)
          ·unfold MJ bP j9;((repeat'(first|refine iF rfl rfl ?_|refine iC rfl rfl rfl ?_|refine iJ rfl rfl rfl rfl ?_));exact iN))
        |(exfalso;clear hlm hno hnp hEq hH hGs;simp [sL,aA,aF,aI] at*<;> first|omega|(simp_all;done)|(simp_all;omega))
      ·rintro e h nx ⟨rfl,rfl,rfl⟩;unfold B4 MJ bP j9;(conv=>whnf);rw [hno hEf]
     |true =>
      rw [hf,if_pos rfl,if_pos rfl] at hnp;rw [hf,Bool.true_and] at hEq;have hfin:∀ y:Int,y=aB L (i+1)→decide (y∈nb)=false→OX l m n L i=false:=fun y e h=>(by rw [hEq,← e,h,Bool.false_and]);have hEm:decide (aB L (i+1)∈nb)=true→OX l m n L i=(decide (L.length≤i+2) || decide (aB L (i+1)≠0)):=fun h=>(by rw [hEq,h,Bool.true_and]);cases nb with
      |nil =>
       refine⟨fun e h nx=>e=B4 L.length c3 j (.slice none 0 0) 0∧h=MJ l m c1 c2 n L∧nx=4,?_,?_⟩
       ·(conv=>whnf)
        repeat' first
         |(refine And.intro ?_ ?_ <;> (conv=>whnf))
         |(refine bm (fun g=>?_) (fun g=>?_) <;> (conv=>whnf))
         |(refine eP (cF L (i:=i) (by omega) ?_) ?_
           ·show 0+Int.toNat (j - 1)*1=_;omega
           (conv=>whnf))
         |(refine⟨_,_,_,[iv (aB L i)],l,m,rfl,aM aZ rfl,aM aY rfl,?_⟩
           rw [hnp];refine aJ rfl ?_;(conv=>whnf))
        all_goals first
         |(refine cO (e0:=B4 L.length c3 j (.slice none 0 0) 0) (h0:=MJ l m c1 c2 n L) (n0:=4) ⟨rfl,rfl,rfl⟩ ?_ ?_ (by decide)
           ·unfold B4;((repeat' refine iE rfl rfl ?_);exact iN)
           ·unfold MJ bP j9;((repeat'(first|refine iF rfl rfl ?_|refine iC rfl rfl rfl ?_|refine iJ rfl rfl rfl rfl ?_));exact iN))
         |(exfalso;clear hlm hno hnp hEq hH hGs hfin hEm;simp [sL,aA,aF,aI] at*<;> first|omega|(simp_all;done)|(simp_all;omega))
       ·rintro e h nx ⟨rfl,rfl,rfl⟩;unfold B4 MJ bP j9;((conv=>whnf);refine bm (fun g4=>?_) (fun g4=>?_))
        ·(conv=>whnf);refine eP (cF L (i:=i+1) hil ?_) ?_
         ·show 0+Int.toNat j*1=_;omega
         (conv=>whnf);refine⟨[],⟨rfl,rfl,rfl⟩,?_⟩;refine aJ rfl ?_;have hEf:=hfin _ rfl (decide_eq_false (List.not_mem_nil));rw [decide_eq_false (List.not_mem_nil)];(conv=>whnf);rw [hno hEf]
        ·exfalso;simp [sL,aA,aF] at g4;omega
      |cons x t =>
       refine⟨fun e h nx=>e=B4 L.length c3 j (.slice (some ⟨4,0,none⟩) (t.length+1) (t.length+1)) 0∧h=(4,.cells true false 1 (flat aL.fl (x::t)))::MJ l m c1 c2 n L∧nx=5,?_,?_⟩
       ·(conv=>whnf)
        repeat' first
         |(refine And.intro ?_ ?_ <;> (conv=>whnf))
         |(refine bm (fun g=>?_) (fun g=>?_) <;> (conv=>whnf))
         |(refine eP (cF L (i:=i) (by omega) ?_) ?_
           ·show 0+Int.toNat (j - 1)*1=_;omega
           (conv=>whnf))
         |(refine⟨_,_,_,[iv (aB L i)],l,m,rfl,aM aZ rfl,aM aY rfl,?_⟩
           rw [hnp];refine aJ rfl ?_;(conv=>whnf))
        all_goals first
         |(refine cO (e0:=B4 L.length c3 j (.slice (some ⟨4,0,none⟩) (t.length+1) (t.length+1)) 0) (h0:=(4,.cells true false 1 (flat aL.fl (x::t)))::MJ l m c1 c2 n L) (n0:=5) ⟨rfl,rfl,rfl⟩ ?_ ?_ (by decide)
           ·unfold B4;((repeat' refine iE rfl rfl ?_);exact iN)
           ·unfold MJ bP j9;((repeat'(first|refine iF rfl rfl ?_|refine iC rfl rfl rfl ?_|refine iJ rfl rfl rfl rfl ?_));exact iN))
         |(exfalso;clear hlm hno hnp hEq hH hGs hfin hEm;simp [sL,aA,aF,aI] at*<;> first|omega|(simp_all;done)|(simp_all;omega))
       ·rintro e h nx ⟨rfl,rfl,rfl⟩;unfold B4 MJ bP j9;((conv=>whnf);refine bm (fun g4=>?_) (fun g4=>?_))
        ·(conv=>whnf);refine eP (cF L (i:=i+1) hil ?_) ?_
         ·show 0+Int.toNat j*1=_;omega
         (conv=>whnf);refine⟨x::t,(show jQ aL _ (.slice (some ⟨4,0,none⟩) (x::t).length (x::t).length) (x::t) from aM aL rfl),?_⟩;refine aJ (decide_eq_true hnbl) ?_;cases hmem:decide (aB L (i+1)∈x::t) with
         |false =>
          have hEf:=hfin _ rfl hmem;(conv=>whnf);rw [hno hEf]
         |true =>
          have hEm:=hEm hmem;clear hfin hEq hH hnp;cases hE:OX l m n L i with
          |false =>
           have hno:=hno hE;rw [hE] at hEm;have hEm:=hEm.symm;simp only [Bool.or_eq_false_iff,decide_eq_false_iff_not] at hEm
           repeat' first
            |(((conv=>whnf);refine bm (fun c=>?_) (fun c=>?_)))
            |((conv=>whnf)
              refine eP (cF L (i:=i+1) hil ?_) ?_
              ·show 0+Int.toNat j*1=_;omega)
           all_goals (conv=>whnf)
           all_goals first
            |(rw [hno];done)
            |(exfalso;clear hlm hno hGs hG hE hmem hf;simp [sL,aA,aF,aI] at*<;> first|omega|(simp_all;done)|(simp_all;omega))
          |true =>
           rw [hE] at hEm hGs;have hEm:=hEm.symm;simp only [Bool.or_eq_true,decide_eq_true_eq] at hEm
           repeat' first
            |(((conv=>whnf);refine bm (fun c=>?_) (fun c=>?_)))
            |((conv=>whnf)
              refine eP (cF L (i:=i+1) hil ?_) ?_
              ·show 0+Int.toNat j*1=_;omega)
           all_goals (conv=>whnf)
           all_goals first
            |(refine⟨L.length - (i+2),by omega,?_⟩
              refine cO (e0:=e51 L.length c3 (j+1)) (h0:=MJ l m c1 c2 n L) (n0:=4) ⟨i+1,j+1,by omega,by omega,rfl,hGs,rfl,rfl,rfl⟩ ?_ ?_ (by decide)
              ·unfold e51;((repeat' refine iE rfl rfl ?_);exact iN)
              ·unfold MJ bP j9;((repeat'(first|refine iF rfl rfl ?_|refine iC rfl rfl rfl ?_|refine iJ rfl rfl rfl rfl ?_));exact iN))
            |(exfalso;clear hlm hno hGs hG hE hmem hf;simp [sL,aA,aF,aI] at*<;> first|omega|(simp_all;done)|(simp_all;omega))
        ·exfalso;simp [sL,aA,aF] at g4;omega
    ·have hil:i+1=L.length:=(by simp [sL,aA,aF] at g1;omega);rw [show L.length - 1=i by omega,hG];(conv=>whnf))
theorem w12 (l:List Pt)(m:List Ed)(n:Int)(c1 c2:Nat)(a b:Int)(L:List Int)(c3:Nat):body [aAi,X16,aEe,aHs,X51] 12 (aD l.length m.length c1 c2 n::([iv a,iv b]++[.slice (some ⟨2,0,none⟩) L.length c3])) (j9 aZ aY aL l m L) 3 (fun v _ _=>v=.bool true):=by
 (conv=>whnf);refine⟨l,m,aM aZ rfl,aM aY rfl,?_⟩;((conv=>whnf);refine bm (fun h1=>?_) (fun h1=>?_))
 ·((conv=>whnf);refine bm (fun h2=>?_) (fun h2=>?_))
  ·(conv=>whnf)
  ·have h1':(!(decide ((l.length:Int)≤60)&&decide ((m.length:Int)≤60)))=false:=(by simpa [aA,aF] using h1);have hlm:l.length≤1000∧m.length≤1000:=aAp h1';have hL:L.length≤40:=(by simp [aA,aF] at h2;omega);have hsm:=smB hlm;obtain⟨O,hO⟩:∃ O,(if cN l m n=true then KF m n a b else [])=O:=⟨_,rfl⟩;obtain⟨E,hEE⟩:∃ E,(if cN l m n=true then LC m n a b else 1)=E:=⟨_,rfl⟩;have hOl:O.length≤1000000:=by
    rw [← hO];split
    ·rename_i ho;rw [(LQ (b:=b) ho a).1];have:=aCW (m:=m) (a:=a) (b:=b) (UN ho).2;omega
    ·exact Nat.zero_le _
   have h43:wyP l m n [iv a,iv b]=some (decide (l.length≤1000)&&decide (m.length≤1000),O,some E):=by
    show some (_,(if cN l m n=true then KF m n a b else []),some (if cN l m n=true then LC m n a b else 1))=_;rw [hO,hEE]
   have f1:E=0→P5 l m n O a b=true:=fun h=>by
    rw [← hEE] at h;split at h
    ·rename_i ho;rw [← hO,if_pos ho];exact (JF ho h).1
    ·cases h
   have f2:cN l m n=true→P5 l m n L a b=true→E=0∧O.length≤L.length:=fun ho hl=>by
    rw [← hEE,← hO,if_pos ho,if_pos ho];exact W9 ho hl
   have f3:E≠0→O=[]:=fun h=>by
    rw [← hEE] at h;rw [← hO];split
    ·rename_i ho;rw [if_pos ho] at h;exact aAd h
    ·rfl
   have k1:ldS l m n O [iv a,iv b]=some (true,.bool (P5 l m n O a b)):=(by unfold ldS;rw [hsm,decide_eq_true hOl];rfl);have k2:ldS l m n L [iv a,iv b]=some (true,.bool (P5 l m n L a b)):=(by unfold ldS;rw [hsm,decide_eq_true (show L.length≤1000000 by omega)];rfl);have k3:ckP l m n []=some (true,iv (if cN l m n=true then 0 else 1)):=(by unfold ckP;rw [hsm]);clear hO hEE;generalize P5 l m n O a b=u at *;generalize P5 l m n L a b=w at *;generalize cN l m n=op at *;(conv=>whnf);refine⟨_,_,_,[iv a,iv b],l,m,rfl,aM aZ rfl,aM aY rfl,?_⟩;rw [h43];refine aJ hsm ?_;cases O with
   |nil =>
    repeat' first
     |(((conv=>whnf);refine bm (fun c=>?_) (fun c=>?_)))
     |((conv=>whnf)
       refine⟨_,_,_,[iv a,iv b],_,l,m,L,rfl,aM aZ rfl,aM aY rfl,aM aL rfl,?_⟩;rw [k2];refine aJ rfl ?_;cases w)
     |((conv=>whnf)
       refine⟨_,_,_,[iv a,iv b],_,l,m,[],rfl,aM aZ rfl,aM aY rfl,⟨rfl,rfl,rfl⟩,?_⟩;rw [k1];refine aJ rfl ?_;cases u)
     |((conv=>whnf)
       refine⟨l,m,aM aZ rfl,aM aY rfl,?_⟩;rw [show ckP l m n ([].append #[].toList)=some (true,iv (if op=true then 0 else 1)) from k3];refine aJ rfl ?_;cases op)
    all_goals (conv=>whnf)
    all_goals first
     |done
     |rfl
     |(exfalso;clear h1 h1' hsm h43 k1 k2 k3;simp [aA,aF] at*<;> first|omega|(simp_all;done)|(simp_all;omega))
   |cons x t =>
    repeat' first
     |(((conv=>whnf);refine bm (fun c=>?_) (fun c=>?_)))
     |((conv=>whnf)
       refine⟨_,_,_,[iv a,iv b],_,l,m,L,rfl,aM aZ rfl,aM aY rfl,aM aL rfl,?_⟩;rw [k2];refine aJ rfl ?_;cases w)
     |((conv=>whnf)
       refine⟨_,_,_,[iv a,iv b],_,l,m,x::t,rfl,aM aZ rfl,aM aY rfl,aM aL rfl,?_⟩;rw [k1];refine aJ rfl ?_;cases u)
     |((conv=>whnf)
       refine⟨l,m,aM aZ rfl,aM aY rfl,?_⟩;rw [show ckP l m n ([].append #[].toList)=some (true,iv (if op=true then 0 else 1)) from k3];refine aJ rfl ?_;cases op)
    all_goals (conv=>whnf)
    all_goals first
     |done
     |rfl
     |(exfalso;clear h1 h1' hsm h43 k1 k2 k3;simp [aA,aF] at*<;> first|omega|(simp_all;done)|(simp_all;omega))
 ·(conv=>whnf)
end Go.Aw
end

noncomputable section
namespace Go.Proofs.YtjahkcbdecgbhaaGreat
open Go.ChangeShapes Go.WideShapes Go.ChangeAt Go.RowKit Go.Aw Go.Joins
set_option maxRecDepth 100000 in
theorem BS (os:Os)(started:os.Started)(H:Type)(enc:TypeId × Value→H) :
  ReturnsInHanded {} Tryz.checked os 12 .any (Rows.facesShortestSpec.pre6 enc Tryz.prog Tryz.f12 Rows.facesShortestRow.domain false) (Rows.facesShortestSpec.post enc Tryz.prog Tryz.f12 false true false false):=by
 refine returnsInHanded_of_change (C:=Tryz.checked) Tryz.own started (by kernel_rfl) Tryz.func12
  (ChangeSpec.witness6 (enc:=enc) (C:=Tryz.checked) false ⟨#[],#[.agg #[.slice none 0 0,.slice none 0 0,.int .i64 0],.int .i64 0,.int .i64 0,.slice none 0 0],[]⟩ 3 (by kernel_rfl) (by kernel_rfl) (by kernel_rfl) (by kernel_rfl)) ?_
 intro W base args ds gs before hval0 hW hcnd _;have hval:∀ (j:Nat) t v,Tryz.f12.params[j]? = some t→args[j]? = some v→Value.okWide Tryz.prog W .any base t v:=hval0;have hW':=hW;obtain⟨p,q,hA0,hV,rfl,hfz,hnd⟩:=hW;have hA:DataW.TrodAll enc Tryz.prog W 0 (fun _=>true) true Tryz.f12.params.toList args.toList ds p:=hA0;rw [Tryz.params12] at hA hval;obtain⟨v0,v1,v2,v3,d0,d1,d2,d3,p0,p1,p2,p3,rfl,rfl,rfl,h0,h1,h2,h3⟩:=trodAll_four hA;obtain⟨rfl,rfl⟩:=trodVars_none hV;obtain⟨cs,rfl,hsz⟩:=okWide_struct Tryz.underlying25 (hval 0 25 v0 rfl rfl);have h0':=h0;obtain⟨fuel,hf0⟩:=h0';obtain⟨xs,fu,_,_,hlen,hxl,hf⟩:=DataW.trod_struct Tryz.underlying25 hf0;rw [Tryz.aEf] at hlen;have hcs:∃ a b c,cs.toList=[a,b,c]:=aHN hlen;obtain⟨a,b,c,hcs⟩:=hcs;have ecs:cs=#[a,b,c]:=Array.ext' hcs;subst ecs;obtain⟨x0,x1,x2,rfl⟩:=aHN hxl;obtain⟨l,c1,loc1,a1,a2,a3⟩:=AF aZ (by decide) Tryz.underlying22 Tryz.UD aI6 (show DataW.trod enc Tryz.prog W 0 (fun _=>true) true fu 22 [a]=some x0 by simpa [Tryz.aCw,Value.cells] using hf 0 _ rfl);obtain⟨m,c2,loc2,b1,b2,b3⟩:=AF aY (by decide) Tryz.underlying23 Tryz.UY aIr (show DataW.trod enc Tryz.prog W 0 (fun _=>true) true fu 23 [b]=some x1 by simpa [Tryz.aD1,Value.cells] using hf 1 _ rfl);obtain⟨n,e1⟩:=lA (show DataW.trod enc Tryz.prog W 0 (fun _=>true) true fu 3 [c]=some x2 by simpa [Tryz.pW,Value.cells] using hf 2 _ rfl);subst e1;obtain⟨z0,rfl⟩:=okWide_int Tryz.underlying3 (hval 1 3 v1 rfl rfl);obtain⟨z1,rfl⟩:=okWide_int Tryz.underlying3 (hval 2 3 v2 rfl rfl);obtain⟨s0,sl,sc,rfl⟩:=okWide_slice Tryz.underlying30 (hval 3 30 v3 rfl rfl);have hl':=h3;obtain⟨fl,hfl⟩:=hl';obtain⟨L,c3,loc3,l1,l2,l3⟩:=AF aL (by decide) Tryz.underlying30 Tryz.pW aGT hfl;clear hA0 hval0;simp only [List.append_nil,List.append_assoc] at hW';have hlt:∀ x∈p0++(p1++(p2++p3)),x.block<W.heap.size:=fun x hx=>(by simpa using hW'.lt x hx);refine (MZ (r:=[iv z0,iv z1]) (.cons aL2 (.cons x16 (.cons aKb (.cons aKQ (.cons x51 .nil))))) rfl (w12 l m n c1 c2 z0 z1 L c3) rfl a1 b1 l1 a2 b2 l2 a3 b3 l3).mono fun e W' ⟨he,hb⟩=>?_;subst he;refine⟨_,rfl,_,_,_,[],p0++(p1++(p2++p3)),[],hW',trodAll_mk1 (aBA true),?_,rfl,hb.frame _,fun h=>by cases h⟩;exact trodAll_mk4 (Below.trod Tryz.laidOut (by kernel_rfl) (of_decide_eq_true (by kernel_rfl)) h0 hb (fun x hx=>hlt x (List.mem_append.2 (.inl hx)))) (Below.trod Tryz.laidOut (by kernel_rfl) (of_decide_eq_true (by kernel_rfl)) h1 hb (fun x hx=>hlt x (List.mem_append.2 (.inr (List.mem_append.2 (.inl hx)))))) (Below.trod Tryz.laidOut (by kernel_rfl) (of_decide_eq_true (by kernel_rfl)) h2 hb (fun x hx=>hlt x (List.mem_append.2 (.inr (List.mem_append.2 (.inr (List.mem_append.2 (.inl hx)))))))) (Below.trod Tryz.laidOut (by kernel_rfl) (of_decide_eq_true (by kernel_rfl)) h3 hb (fun x hx=>hlt x (List.mem_append.2 (.inr (List.mem_append.2 (.inr (List.mem_append.2 (.inr hx))))))))
set_option maxRecDepth 100000 in
theorem jf:joinedFacts Tryz.prog 12 Tryz.f12 Rows.facesShortestSpec Rows.facesShortestRow=true:=by
 unfold joinedFacts;exact (eE (eE (eE (eE (eE (eE (eE (eE (eE (eE (eE (eE (eE (eE (eE (eE (eE (eE (eE (eE (eE (eE (eE (eE (eE (eE (eE (eE (eE (eE (eE jf0 jf1) jf2) jf3) jf4) jf5) jf6) jf7) jf8) jf9) aL7) aJN) aK9) aKM) aKz) aL0) aKy) aL8) aKp) aKL) aKf) aKT) aJK) aKP) aJD) aKj) aJO) aJQ) (by kernel_rfl)) aJL) aKe) aJE)
theorem shortest_holds:Rows.FacesShortestSaid :=
 OpenClaim.holds_of_wide 12 Tryz.f12 rfl rfl rfl rfl rfl rfl rfl ⟨rfl,rfl,rfl,rfl,rfl⟩ rfl rfl rfl rfl rfl (by kernel_rfl) Tryz.func12 jf
  (of_decide_eq_true (by kernel_rfl)) (by unfold Func.isWrapper;first|(rw [if_pos (by decide +kernel)];kernel_rfl)|(rw [if_neg (by decide +kernel)];exact⟨rfl,rfl⟩))
  (fun os started H enc _=>BS os started H enc)
#print axioms shortest_holds
end Go.Proofs.YtjahkcbdecgbhaaGreat
end
