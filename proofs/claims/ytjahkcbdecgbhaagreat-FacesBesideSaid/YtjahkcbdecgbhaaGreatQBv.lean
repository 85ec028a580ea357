/-
  FacesBeside No condition.
-/
import Derived.Test.YtjahkcbdecgbhaaGreatQBq
import Derived.Test.YtjahkcbdecgbhaaGreatQBr
import Derived.Test.YtjahkcbdecgbhaaGreatQBs
import Derived.Test.YtjahkcbdecgbhaaGreatQBt
import Derived.Test.YtjahkcbdecgbhaaGreatQBu
import Derived.Carry
set_option linter.unusedSimpArgs false
set_option linter.unusedVariables false
noncomputable section
namespace Go.Aw
set_option maxRecDepth 100000
set_option maxHeartbeats 2000000
theorem aKA:cH Go.Proofs.Tryz.prog 128 aKg:=UF (aL (xl:=[W5]) (.cons aL4 .nil)) fun a ⟨ho,hlm,hL⟩=>aLZ a.l a.m a.n a.c1 a.c2 a.L a.c3 ho hlm hL
def spS (l:List Pt)(m:List Ed)(n:Int)(L:List Int):List Value→Option (Bool × Value)
 |[]=>some (decide (l.length≤1000)&&decide (m.length≤1000)&&decide (L.length≤1000000),.tuple #[iv (if cF l m n=true then (NC l m n L).1 else 0),iv (if cF l m n=true then (NC l m n L).2 else 0),iv (if cF l m n=true then PH n L else 1)])
 |_=>none
theorem V4 {l:List Pt}{m:List Ed}{n:Int}{L:List Int}{r:List Value}{v:Value}(hs:spS l m n L r=some (true,v)):r=[]∧(l.length≤1000∧m.length≤1000)∧L.length≤1000000∧v=.tuple #[iv (if cF l m n=true then (NC l m n L).1 else 0),iv (if cF l m n=true then (NC l m n L).2 else 0),iv (if cF l m n=true then PH n L else 1)]:=by
 unfold spS at hs;split at hs
 ·injection hs with hs;injection hs with h1 h2;simp only [Bool.and_eq_true,decide_eq_true_eq] at h1;exact⟨rfl,h1.1,h1.2,h2.symm⟩
 ·cases hs
theorem WM {l:List Pt}{m:List Ed}{n:Int}{L:List Int}(h:PH n L≠0):NC l m n L=(0,0):=by
 unfold PH at h;unfold NC;split
 ·rfl
 ·rename_i h1;rw [if_neg h1] at h;split
  ·rfl
  ·rename_i h2;rw [if_neg h2] at h;exact absurd rfl h
def aIu:Nat × XF:=(49,mLX aP aS aN spS)
theorem aML:cH Go.Proofs.Tryz.prog aIu.1 aIu.2:=SB aP aS aN (j3 (zL (xl:=[aGZ,(128,aKg)]) (.cons aLA (.cons aKA .nil)) 4) 6).1 fun l m n L r v hs=>by
 obtain⟨rfl,hlm,hL,rfl⟩:=V4 hs;clear hs;refine⟨rfl,rfl,fun c1 c2 c3=>?_⟩;(conv=>whnf);refine⟨l,m,n,.slice (some ⟨0,0,none⟩) l.length c1,.slice (some ⟨1,0,none⟩) m.length c2,rfl,aC aP rfl,aC aS rfl,hlm,?_⟩;cases ho:cF l m n with
 |false =>
  refine .inr ⟨rfl,?_⟩;(conv=>whnf);rfl
 |true =>
  refine .inl ⟨rfl,?_⟩;rw [if_pos rfl,if_pos rfl,if_pos rfl];have hve:=WM (l:=l) (m:=m) (n:=n) (L:=L);(conv=>whnf);refine⟨⟨l,m,n,c1,c2,L,c3⟩,⟨ho,hlm,hL⟩,rfl,rfl,rfl,?_⟩;((conv=>whnf);refine bm (fun g1=>?_) (fun g1=>?_))
  ·have g1:¬ PH n L=0:=(by simpa [S6,aA,aB] using g1);rw [hve g1];(conv=>whnf);rfl
  ·have g1:PH n L=0:=(by simpa [S6,aA,aB] using g1);rw [g1];(conv=>whnf);rfl
end Go.Aw
end

noncomputable section
namespace Go.Aw
set_option maxRecDepth 100000
theorem mnA (a b:Int):aA.A.min a b=if a≤b then a else b:=by simp [aA,aB];try omega
theorem mxA (a b:Int):aA.A.max a b=if a≤b then b else a:=by simp [aA,aB];try omega
theorem UJ {n:Int}{L:List Int}{i:Nat}(h:yC n L (i+1)=0):yC n L i=0:=by
 by_cases h0:yC n L i=0
 ·exact h0
 ·rw [qK h0 (i+1) (Nat.le_succ i)] at h;exact h
theorem D2 {n:Int}{L:List Int}:∀ i,i≤L.length→yC n L i=0→∀ x,0≤x→x≤n→(cG (AP n L i) x.toNat=true↔x∈L.take i)
 |0,_,_,x,h0,h1=>by
  constructor
  ·intro h;unfold AP cG at h;rw [List.getD_eq_getElem?_getD,List.getElem?_replicate] at h;split at h <;> cases h
  ·intro h;simp at h
 |i+1,hi,he,x,h0,h1=>by
  have hp:=UJ he;have ih:=D2 i (by omega) hp x h0 h1;rw [KT hp] at he;have hb:pT n (aK L i)=true:=by
   cases hb:pT n (aK L i) with
   |true=>rfl
   |false=>unfold Z9 at he;rw [if_pos hb] at he;exact absurd he (by decide)
  simp only [pT,Bool.and_eq_true,decide_eq_true_eq] at hb;have hlt:(aK L i).toNat<(AP n L i).length:=(by rw [o9];omega);show cG ((AP n L i).set (aK L i).toNat true) x.toNat=true↔_;rw [oO _ _ _ _ hlt,List.take_succ_eq_append_getElem (by omega),List.mem_append,List.mem_singleton,← dR (by omega)];by_cases e:x.toNat=(aK L i).toNat
  ·have:x=aK L i:=(by omega);rw [if_pos e];exact⟨fun _=>.inr this,fun _=>rfl⟩
  ·have:x≠aK L i:=fun h=>e (by rw [h]);rw [if_neg e,ih];exact⟨.inl,fun h=>h.resolve_right this⟩
theorem aEf {n:Int}{L:List Int}{i:Nat}(hi:i≤L.length)(he:yC n L i=0):Z9 n L i=if pT n (aK L i)=false then 1 else if aK L i∈L.take i then 6 else 0:=by
 unfold Z9;cases hb:pT n (aK L i) with
 |false=>rfl
 |true =>
  have hb2:=hb;simp only [pT,Bool.and_eq_true,decide_eq_true_eq] at hb2;have:=D2 i hi he (aK L i) hb2.1 hb2.2;have e:∀ A B:Int,(if true=false then A else B)=B:=fun A B=>if_neg (by decide);rw [e,e];by_cases h:cG (AP n L i) (aK L i).toNat=true
  ·rw [if_pos h,if_pos (this.1 h)]
  ·rw [if_neg h,if_neg fun h'=>h (this.2 h')]
def rsK (l:List Pt)(m:List Ed)(W:List Int)(s:Int × Int):Nat→Int × Int
 |0=>s
 |k+1=>(aA.A.min (rsK l m W s k).1 (yD l m (aK W k).toNat),aA.A.max (rsK l m W s k).2 (yD l m (aK W k).toNat))
def rsF (l:List Pt)(m:List Ed)(L:List Int):Nat→Int × Int
 |0=>(10000,0)
 |i+1=>rsK l m (vS l m (aK L i)) (rsF l m L i) (vS l m (aK L i)).length
def ZC (A:Int→Prop)(s:Int × Int):Prop:=(∀ y,A y→s.1≤y∧y≤s.2)∧s.1≤10000∧0≤s.2∧(s.1=10000∨A s.1)∧(s.2=0∨A s.2)
theorem ZC.eq {A:Int→Prop}{s t:Int × Int}(hs:ZC A s)(ht:ZC A t):s=t:=by
 obtain⟨a1,a2,a3,a4,a5⟩:=hs;obtain⟨b1,b2,b3,b4,b5⟩:=ht;have e1:s.1=t.1:=by
  have h1:t.1≤s.1:=by rcases a4 with h|h
                      ·omega
                      ·exact (b1 _ h).1
  have h2:s.1≤t.1:=by rcases b4 with h|h
                      ·omega
                      ·exact (a1 _ h).1
  omega
 have e2:s.2=t.2:=by
  have h1:s.2≤t.2:=by rcases a5 with h|h
                      ·omega
                      ·exact (b1 _ h).2
  have h2:t.2≤s.2:=by rcases b5 with h|h
                      ·omega
                      ·exact (a1 _ h).2
  omega
 exact Prod.ext e1 e2
theorem ZC.put {A:Int→Prop}{s:Int × Int}(hs:ZC A s)(y:Int):ZC (fun x=>A x∨x=y) (aA.A.min s.1 y,aA.A.max s.2 y):=by
 obtain⟨a1,a2,a3,a4,a5⟩:=hs;rw [mnA,mxA];refine⟨fun x hx=>?_,?_,?_,?_,?_⟩
 ·rcases hx with hx|rfl
  ·have:=a1 x hx;dsimp only;split <;> split <;> omega
  ·dsimp only;split <;> split <;> omega
 ·dsimp only;split <;> omega
 ·dsimp only;split <;> omega
 ·dsimp only;split
  ·exact a4.imp id .inl
  ·exact .inr (.inr rfl)
 ·dsimp only;split
  ·exact .inr (.inr rfl)
  ·exact a5.imp id .inl
theorem ZC.congr {A B:Int→Prop}{s:Int × Int}(hs:ZC A s)(h:∀ x,A x↔B x):ZC B s:=by
 have:A=B:=funext fun x=>propext (h x);rw [← this];exact hs
theorem V7 {l:List Pt}{m:List Ed}{W:List Int}{s:Int × Int}{A:Int→Prop}(hs:ZC A s):∀ k,ZC (fun y=>A y∨∃ i,i<k∧y=yD l m (aK W i).toNat) (rsK l m W s k)
 |0=>hs.congr fun x=>⟨.inl,fun h=>h.elim id fun ⟨i,h1,_⟩=>absurd h1 (Nat.not_lt_zero i)⟩
 |k+1=>((V7 hs k).put (yD l m (aK W k).toNat)).congr fun x=>by
  constructor
  ·rintro ((h|⟨i,h1,h2⟩)|h)
   ·exact .inl h
   ·exact .inr ⟨i,by omega,h2⟩
   ·exact .inr ⟨k,by omega,h⟩
  ·rintro (h|⟨i,h1,h2⟩)
   ·exact .inl (.inl h)
   ·rcases Nat.lt_or_ge i k with h3|h3
    ·exact .inl (.inr ⟨i,h3,h2⟩)
    ·exact .inr (by rw [h2,show i=k by omega])
theorem WY {l:List Pt}{m:List Ed}{L:List Int}:∀ i,ZC (fun y=>∃ j,j<i∧∃ k,k<(vS l m (aK L j)).length∧y=yD l m (aK (vS l m (aK L j)) k).toNat) (rsF l m L i)
 |0=>⟨fun y ⟨j,h,_⟩=>absurd h (Nat.not_lt_zero j),Int.le_refl _,Int.le_refl _,.inl rfl,.inl rfl⟩
 |i+1=>(V7 (WY i) (vS l m (aK L i)).length).congr fun x=>by
  constructor
  ·rintro (⟨j,h1,h2⟩|⟨k,h1,h2⟩)
   ·exact⟨j,by omega,h2⟩
   ·exact⟨i,by omega,k,h1,h2⟩
  ·rintro ⟨j,h1,k,h2,h3⟩;rcases Nat.lt_or_ge j i with h4|h4
   ·exact .inl ⟨j,h4,k,h2,h3⟩
   ·have:j=i:=(by omega);subst this;exact .inr ⟨k,h2,h3⟩
theorem M1 {l:List Pt}{m:List Ed}{S:List Bool}:∀ d,ZC (fun y=>∃ j,j<d∧cG S (aK (cE l m).face j).toNat=true∧y=yD l m j) (D0 l m S d)
 |0=>⟨fun y ⟨j,h,_⟩=>absurd h (Nat.not_lt_zero j),Int.le_refl _,Int.le_refl _,.inl rfl,.inl rfl⟩
 |d+1=>by
  cases h:cG S (aK (cE l m).face d).toNat with
  |true =>
   rw [aGh h];refine ((M1 d).put (yD l m d)).congr fun x=>?_;constructor
   ·rintro (⟨j,h1,h2⟩|h1)
    ·exact⟨j,by omega,h2⟩
    ·exact⟨d,by omega,h,h1⟩
   ·rintro ⟨j,h1,h2,h3⟩;rcases Nat.lt_or_ge j d with h4|h4
    ·exact .inl ⟨j,h4,h2,h3⟩
    ·exact .inr (by rw [h3,show j=d by omega])
  |false =>
   rw [aG2 h];refine (M1 d).congr fun x=>?_;constructor
   ·rintro ⟨j,h1,h2⟩;exact⟨j,by omega,h2⟩
   ·rintro ⟨j,h1,h2,h3⟩;rcases Nat.lt_or_ge j d with h4|h4
    ·exact⟨j,h4,h2,h3⟩
    ·rw [show j=d by omega,h] at h2;cases h2
theorem RW {n:Int}{L:List Int}:∀ i,yC n L i=0→∀ j,j<i→pT n (aK L j)=true
 |0,_,j,h=>absurd h (Nat.not_lt_zero j)
 |i+1,he,j,h=>by
  have hp:=UJ he;rcases Nat.lt_or_ge j i with h1|h1
  ·exact RW i hp j h1
  ·rw [show j=i by omega];rw [KT hp] at he;cases hb:pT n (aK L i) with
   |true=>rfl
   |false=>unfold Z9 at he;rw [if_pos hb] at he;exact absurd he (by decide)
theorem aFw {l:List Pt}{m:List Ed}{n:Int}{L:List Int}(ho:cF l m n=true)(he:yC n L L.length=0):D0 l m (AP n L L.length) (2*m.length)=rsF l m L L.length:=by
 refine ((M1 (2*m.length)).congr fun y=>?_).eq (WY L.length);constructor
 ·rintro ⟨d,h1,h2,h3⟩;have hr:=rI ho h1;rw [D2 L.length (Nat.le_refl _) he _ hr.1 hr.2,List.take_length] at h2;obtain⟨j,hj,e⟩:=DH h2;have hm:=(aBf ho hr.1 hr.2 h1).2 rfl;obtain⟨k,hk,e2⟩:=DH hm;refine⟨j,hj,k,by rw [e];exact hk,?_⟩;rw [h3,e,e2];rfl
 ·rintro ⟨j,hj,k,hk,e⟩;have hb:=RW _ he j hj;have hb2:=hb;simp only [pT,Bool.and_eq_true,decide_eq_true_eq] at hb2;have hin:=(QL ho hb).1;have hd:=rE hin hk;simp only [mE,Bool.and_eq_true,decide_eq_true_eq] at hd;have hc:((aK (vS l m (aK L j)) k).toNat:Int)=aK (vS l m (aK L j)) k:=(by omega);have hlt:(aK (vS l m (aK L j)) k).toNat<2*m.length:=(by omega);have hmem:(((aK (vS l m (aK L j)) k).toNat:Nat):Int)∈vS l m (aK L j):=(by rw [hc];exact DT hk);have hf:=(aBf ho hb2.1 hb2.2 hlt).1 hmem;refine⟨_,hlt,?_,e⟩;rw [hf,D2 L.length (Nat.le_refl _) he _ hb2.1 hb2.2,List.take_length];exact DT hj
end Go.Aw
end

noncomputable section
namespace Go.Aw
set_option maxRecDepth 100000
set_option maxHeartbeats 2000000
def hsS (l:List Int):List Value→Option (Bool × Value)
 |[.int .i64 x]=>some (decide (l.length≤1000000),.bool (decide (x∈l)))
 |_=>none
def e62 (l:List Int)(c:Nat)(x j:Int):List (Nat × Value):=[(0,.slice (some ⟨0,0,none⟩) l.length c),(1,iv x),(5,iv j)]
def h62 (l:List Int):Heap:=[(0,.cells false true 1 (flat aN.fl l))]
def aGW:Nat × XF:=(135,lX aN hsS)
theorem aMz:cH Go.Proofs.Tryz.prog aGW.1 aGW.2:=PI aN (aL (xl:=[]) .nil) fun l r v hs=>by
 have:∃ x,r=[iv x]∧l.length≤1000000∧v=.bool (decide (x∈l)):=by
  unfold hsS at hs;split at hs
  ·injection hs with hs;injection hs with h1 h2;exact⟨_,rfl,of_decide_eq_true h1,h2.symm⟩
  ·cases hs
 obtain⟨x,rfl,hlen,rfl⟩:=this;clear hs;refine⟨rfl,rfl,fun c=>?_⟩;(conv=>whnf);refine⟨fun n e h nx=>∃ (i:Nat) (j:Int),j=i∧i≤l.length∧n=l.length - i∧(∀ k,k<i→aK l k≠x)∧e=e62 l c x j∧h=h62 l∧nx=1,⟨l.length,?_⟩,?_⟩
 ·refine aM (e0:=e62 l c x 0) (h0:=h62 l) (n0:=1) ⟨0,0,rfl,Nat.zero_le _,rfl,fun k h=>absurd h (Nat.not_lt_zero k),rfl,rfl,rfl⟩ ?_ ?_ (by decide)
  ·unfold e62;((repeat' refine iE rfl rfl ?_);exact iN)
  ·unfold h62;((repeat'(first|refine iF rfl rfl ?_|refine iJ rfl rfl rfl rfl ?_));exact iN)
 ·rintro n e h nx ⟨i,j,hj,hi,rfl,hb,rfl,rfl,rfl⟩;unfold e62 h62;((conv=>whnf);refine bm (fun g1=>?_) (fun g1=>?_))
  ·have hlt:i<l.length:=(by simp [aA,aB] at g1;omega);((conv=>whnf);refine bm (fun g2=>?_) (fun g2=>?_))
   ·(conv=>whnf);refine gI (eK l hlt ?_) ?_
    ·show _+Int.toNat j*1=_;omega
    ((conv=>whnf);refine bm (fun g3=>?_) (fun g3=>?_))
    ·have g3:aK l i=x:=(by simpa [aA,aB] using g3);(conv=>whnf);show Value.bool true=.bool (decide (x∈l));rw [decide_eq_true (g3▸DT hlt)]
    ·have g3:aK l i≠x:=(by simpa [aA,aB] using g3);((conv=>whnf);refine bm (fun g4=>?_) (fun g4=>?_))
     ·(conv=>whnf);refine⟨l.length - (i+1),by omega,?_⟩;refine aM (e0:=e62 l c x (j+1)) (h0:=h62 l) (n0:=1) ⟨i+1,j+1,by omega,by omega,rfl,fun k hk=>?_,rfl,rfl,rfl⟩ ?_ ?_ (by decide)
      ·by_cases e:k=i
       ·rw [e];exact g3
       ·exact hb k (by omega)
      ·unfold e62;((repeat' refine iE rfl rfl ?_);exact iN)
      ·unfold h62;((repeat'(first|refine iF rfl rfl ?_|refine iJ rfl rfl rfl rfl ?_));exact iN)
     ·exfalso;simp [aA,aB,aI] at g4;omega
   ·exfalso;simp [aA,aB] at g2;omega
  ·have hlt:i=l.length:=(by simp [aA,aB] at g1;omega);(conv=>whnf);show Value.bool false=.bool (decide (x∈l));rw [decide_eq_false];intro hx;obtain⟨k,hk,e⟩:=DH hx;exact hb k (by omega) e
theorem aBu {L:List Int}{i c k t:Nat}{h:Heap}(ht:t=i)(hi:i≤L.length)(hk:look h k=some (.cells false true 1 (flat aN.fl L))):eO aN h (.slice (some ⟨k,0,none⟩) t c) (L.take i):=by
 subst ht;refine⟨by rw [List.length_take];omega,false,true,1,_,hk,?_⟩;have hf:∀ M:List Int,flat aN.fl M=M.map iv:=fun M=>by
  induction M with
  |nil=>rfl
  |cons a r ih=>show [iv a]++flat aN.fl r=_;rw [ih];rfl
 rw [hf,hf,List.length_map,List.map_take,List.length_take,Nat.min_eq_left hi];rfl
section
variable {α β γ:Type}(E:El α)(G:El β)(J:El γ)
theorem aAQ {p q o:Value}{n:Int}{r:List Value}(hr:dW r=true){h:Heap}{nx:Nat}{l:List α}{m:List β}{k:List γ}(hl:eO E h p l)(hm:eO G h q m)(hk:eO J h o k) :
  In (aF l.length m.length (gW p) (gW q) n::(r++[.slice (some ⟨2,0,none⟩) k.length (gW o)])) (dE E G J l m k) 3 (mapA p q n::(r++[o])) h nx:=by
 refine aB7 (vM (n:=n) (nx:=nx) E G hr hl hm) (aG J k) (RR (nx:=nx) J hk) fun j ob hj=>?_;unfold aD at hj;rw [aE] at hj;split at hj
 ·injection hj with hj;subst hj;rfl
 ·rw [aE] at hj;split at hj
  ·injection hj with hj;subst hj;rfl
  ·exact bV hj
def mCX (s:List α→List β→Int→List γ→List Value→Option (Bool × Value)):XF:=fun args h nx K =>
 ∃ p q n r o l m k,args=mapA p q n::(r++[o])∧eO E h p l∧eO G h q m∧eO J h o k∧k.length≤gW o∧(match s l m n k r with|some pr=>dJ pr.1 (K pr.2 h nx)|none=>False)
theorem aCy {P:Program}{C:VC}{f:Nat}{s:List α→List β→Int→List γ→List Value→Option (Bool × Value)}(hC:bH P C)
  (hs:∀ l m n k r v,s l m n k r=some (true,v)→dW r=true∧gT v=true∧∀ c1 c2 c3,k.length≤c3→C f (aF l.length m.length c1 c2 n::(r++[.slice (some ⟨2,0,none⟩) k.length c3])) (dE E G J l m k) 3 (fun u _ _=>u=v)):cH P f (mCX E G J s):=by
 refine (gC (S:=fun args0 h0 n0 v1 h1 j=>∃ l m n k r c1 c2 c3,s l m n k r=some (true,v1)∧k.length≤c3∧args0=aF l.length m.length c1 c2 n::(r++[.slice (some ⟨2,0,none⟩) k.length c3])∧h0=dE E G J l m k∧n0=3∧h1=[]∧j=0) hC ?_).mono ?_ ?_
 ·rintro args0 h0 n0 v1 h1 j ⟨l,m,n,k,r,c1,c2,c3,e1,hc,rfl,rfl,rfl,rfl,rfl⟩;obtain⟨a1,a2,a3⟩:=hs l m n k r v1 e1;exact⟨rfl,_,a3 c1 c2 c3 hc,fun v h nx e=>by rw [e];exact kD a2⟩
 ·rintro args h nx K ⟨p,q,n,r,o,l,m,k,rfl,hl,hm,hk,hc,hx⟩;split at hx
  case h_2=>exact hx.elim
  rename_i pr e1;obtain⟨bb,u⟩:=pr;obtain⟨rfl,hx⟩:=aH.1 hx;obtain⟨a1,a2,a3⟩:=hs l m n k r u e1;refine⟨_,_,3,u,[],0,⟨l,m,n,k,r,gW p,gW q,gW o,e1,hc,rfl,rfl,rfl,rfl,rfl⟩,aAQ (n:=n) (nx:=nx) E G J a1 hl hm hk,?_⟩;simp only [mY,lD,kQ,j7,mA a2,Nat.add_zero];exact hx
 ·rintro args h nx K ⟨p,q,n,r,o,l,m,k,rfl,hl,hm,hk,hc,hx⟩;split at hx
  case h_2=>exact hx.elim
  rename_i pr e1;obtain⟨bb,hx⟩:=aH.1 hx;exact⟨_,_,_,hx,fun K' hk'=>⟨p,q,n,r,o,l,m,k,rfl,hl,hm,hk,hc,by rw [e1];exact aJ bb hk'⟩⟩
end
def sxS (l:List Pt)(m:List Ed)(n:Int)(L:List Int):List Value→Option (Bool × Value)
 |[]=>some (decide (l.length≤1000)&&decide (m.length≤1000)&&decide (L.length≤1000000),iv (if cF l m n=true then yC n L L.length else 1))
 |_=>none
def ZT (N c3:Nat)(j:Int):List (Nat × Value):=[(1,.slice (some ⟨2,0,none⟩) N c3),(2,pV 3),(6,iv j)]
def vR (l:List Pt)(m:List Ed)(c1 c2:Nat)(n:Int)(L:List Int):Heap:=(3,aY l.length m.length c1 c2 n)::dE aP aS aN l m L
def aB1:Nat × XF:=(130,mCX aP aS aN sxS)
theorem aKG:cH Go.Proofs.Tryz.prog aB1.1 aB1.2:=aCy aP aS aN (aL (xl:=[aDF,X85,aGW]) (.cons aKp (.cons x85 (.cons aMz .nil)))) fun l m n L r v hs=>by
 have:r=[]∧(l.length≤1000∧m.length≤1000)∧L.length≤1000000∧v=iv (if cF l m n=true then yC n L L.length else 1):=by
  unfold sxS at hs;split at hs
  ·injection hs with hs;injection hs with h1 h2;simp only [Bool.and_eq_true,decide_eq_true_eq] at h1;exact⟨rfl,h1.1,h1.2,h2.symm⟩
  ·cases hs
 obtain⟨rfl,hlm,hL,rfl⟩:=this;clear hs;refine⟨rfl,rfl,fun c1 c2 c3 hc3=>?_⟩;(conv=>whnf);refine⟨l,m,aC aP rfl,aC aS rfl,?_⟩;refine aJ (smB hlm) ?_;cases ho:cF l m n with
 |false =>
  (conv=>whnf);rfl
 |true =>
  rw [if_pos rfl];(conv=>whnf);refine⟨fun q e h nx=>∃ (i:Nat) (j:Int),j=i∧i≤L.length∧q=L.length - i∧yC n L i=0∧e=ZT L.length c3 j∧h=vR l m c1 c2 n L∧nx=4,⟨L.length,?_⟩,?_⟩
  ·refine aM (e0:=ZT L.length c3 0) (h0:=vR l m c1 c2 n L) (n0:=4) ⟨0,0,rfl,Nat.zero_le _,rfl,rfl,rfl,rfl,rfl⟩ ?_ ?_ (by decide)
   ·unfold ZT;((repeat' refine iE rfl rfl ?_);exact iN)
   ·unfold vR aY dE;((repeat'(first|refine iF rfl rfl ?_|refine iC rfl rfl rfl ?_|refine iJ rfl rfl rfl rfl ?_));exact iN)
  ·rintro q e h nx ⟨i,j,hj,hi,rfl,he,rfl,rfl,rfl⟩;unfold ZT vR aY dE;((conv=>whnf);refine bm (fun m1=>?_) (fun m1=>?_))
   ·have hil:i<L.length:=(by simp [aA,aB] at m1;omega);have hst:=KT he;rw [aEf hi he] at hst;((conv=>whnf);refine bm (fun m2=>?_) (fun m2=>?_))
    ·(conv=>whnf);refine gI (eK L (i:=i) hil ?_) ?_
     ·show _+Int.toNat j*1=_;omega
     (conv=>whnf);refine⟨l,m,aC aP rfl,aC aS rfl,?_⟩;(conv=>whnf);cases hb:pT n (aK L i) with
     |false =>
      rw [if_pos hb] at hst;have h2:=qK (n:=n) (L:=L) (i:=i+1) (by rw [hst];decide) L.length (by omega);rw [hst] at h2;rw [h2];(conv=>whnf);rfl
     |true =>
      rw [if_neg (by rw [hb];decide)] at hst
      repeat' first
       |(((conv=>whnf);refine bm (fun m3=>?_) (fun m3=>?_)))
       |((conv=>whnf)
         refine gI (eK L (i:=i) hil ?_) ?_
         ·show _+Int.toNat j*1=_;omega)
      all_goals first
       |(exfalso;simp [aA,aB] at m3;omega)
       |skip
      (conv=>whnf);refine⟨L.take i,aBu (k:=2) (t:=Int.toNat j) (by omega) (by omega) rfl,?_⟩;refine aJ (show decide ((L.take i).length≤1000000)=true from decide_eq_true (by rw [List.length_take];omega)) ?_;(conv=>whnf);((conv=>whnf);refine bm (fun m5=>?_) (fun m5=>?_))
      ·have m5:aK L i∈L.take i:=of_decide_eq_true m5;rw [if_pos m5] at hst;have h2:=qK (n:=n) (L:=L) (i:=i+1) (by rw [hst];decide) L.length (by omega);rw [hst] at h2;rw [h2];(conv=>whnf);rfl
      ·have m5:¬ aK L i∈L.take i:=of_decide_eq_false m5;rw [if_neg m5] at hst;((conv=>whnf);refine bm (fun m6=>?_) (fun m6=>?_))
       ·(conv=>whnf);refine⟨L.length - (i+1),by omega,?_⟩;refine aM (e0:=ZT L.length c3 (j+1)) (h0:=vR l m c1 c2 n L) (n0:=4) ⟨i+1,j+1,by omega,by omega,rfl,hst,rfl,rfl,rfl⟩ ?_ ?_ (by decide)
        ·unfold ZT;((repeat' refine iE rfl rfl ?_);exact iN)
        ·unfold vR aY dE;((repeat'(first|refine iF rfl rfl ?_|refine iC rfl rfl rfl ?_|refine iJ rfl rfl rfl rfl ?_));exact iN)
       ·exfalso;simp [aA,aB,aI] at m6;omega
    ·exfalso;simp [aA,aB] at m2;omega
   ·have hil:i=L.length:=(by simp [aA,aB] at m1;omega);(conv=>whnf);rw [← hil,he];rfl
def e50 (N c3:Nat)(lo hi j:Int):List (Nat × Value):=[(1,.slice (some ⟨2,0,none⟩) N c3),(2,pV 3),(8,iv lo),(9,iv hi),(10,iv j)]
def YC (N c3 W:Nat)(lo hi j z:Int):List (Nat × Value):=(11,.slice (some ⟨4,0,none⟩) W W)::(12,iv z)::e50 N c3 lo hi j
def X7 (l:List Pt)(m:List Ed)(c1 c2:Nat)(n:Int)(L W:List Int):Heap:=(4,.cells true false 1 (flat aN.fl W))::vR l m c1 c2 n L
def aGj (r:Nat):Option eZ:=match Nat.beq r 11 with
 |true=>some ⟨[0,1,2,3,4],[],[(5,false),(6,false)],[]⟩
 |false=>(match Nat.beq r 15 with|true=>some ⟨[0,1,2,3,4,5,6,7,8,9,10,11],[],[],[]⟩|false=>none)
def xI:C0:={ aA with FT:=fun f=>(match Nat.beq f 50 with|true=>some Go.Proofs.Tryz.f50|false=>none),PL:=fun _ r=>aGj r }
theorem aCW:(match Go.Proofs.Tryz.f50.body with|some b=>cN aGj b|none=>true)=true:=by decide +kernel
theorem aDE:o7 Go.Proofs.Tryz.prog xI where
 ar:=rfl
 tab:=fI.tab
 mixed:=fI.mixed
 funcs:=fun f fn h=>by
  have h:(match Nat.beq f 50 with|true=>some Go.Proofs.Tryz.f50|false=>none)=some fn:=h;split at h
  ·rename_i e;have e:=Nat.eq_of_beq_eq_true e;subst e;injection h with h;subst h;refine⟨Go.Proofs.Tryz.func50,by decide +kernel,fun b hb=>?_⟩;have:=aCW;rw [hb] at this;exact this
  ·cases h
 xs:=fun _ _ h=>by cases h
def aK6 (xl:List (Nat × XF)):VC:=sE xI none (CX (look xl)) noY
theorem Q5 {xl:List (Nat × XF)}(h:nZ xl):bH Go.Proofs.Tryz.prog (aK6 xl):=uK aDE (WC h.look) M7 (HA h.look) yW none
def aJ3:Nat × XF:=(50,mCX aP aS aN spS)
theorem aNk:cH Go.Proofs.Tryz.prog aJ3.1 aJ3.2:=aCy aP aS aN (Q5 (xl:=[aB1,aGS,X87]) (.cons aKG (.cons aLG (.cons x87 .nil)))) fun l m n L r v hs=>by
 obtain⟨rfl,hlm,hL,rfl⟩:=V4 hs;clear hs;refine⟨rfl,rfl,fun c1 c2 c3 hc3=>?_⟩;(conv=>whnf);refine⟨_,_,n,[],_,l,m,L,rfl,aC aP rfl,aC aS rfl,aC aN rfl,hc3,?_⟩;refine aJ (show (decide (l.length≤1000)&&decide (m.length≤1000)&&decide (L.length≤1000000))=true by rw [smB hlm,decide_eq_true hL];rfl) ?_;cases ho:cF l m n with
 |false =>
  (conv=>whnf);rfl
 |true =>
  rw [if_pos rfl,if_pos rfl,if_pos rfl,if_pos rfl];((conv=>whnf);refine bm (fun m0=>?_) (fun m0=>?_))
  ·have m0:yC n L L.length≠0:=(by simpa [xI,aA,aB] using m0);have hv:PH n L=yC n L L.length:=(by unfold PH;rw [if_pos m0]);rw [WM (by rw [hv];exact m0),hv];(conv=>whnf);rfl
  ·have m0:yC n L L.length=0:=(by simpa [xI,aA,aB] using m0);have hv:PH n L=if L.length=0 then 5 else 0:=by unfold PH;rw [if_neg (by rw [m0];decide)]
   have hw:NC l m n L=if L.length=0 then (0,0) else rsF l m L L.length:=by unfold NC;rw [if_neg (by rw [m0];decide),aFw ho m0]
   have his:=RW _ m0;rw [hv,hw];clear hv hw;obtain⟨hM,h3,h1l,h400,m400,hn1,hn2⟩:=iI (lL ho);((conv=>whnf);refine bm (fun m1=>?_) (fun m1=>?_))
   ·have m1:L.length=0:=(by simpa [xI,aA,aB] using m1);rw [if_pos m1,if_pos m1];(conv=>whnf);rfl
   ·have m1:¬ L.length=0:=(by simpa [xI,aA,aB] using m1);rw [if_neg m1,if_neg m1];(conv=>whnf);refine⟨fun q e h nx=>∃ (i:Nat) (j lo hi:Int),j=i∧i≤L.length∧q=L.length - i∧lo=(rsF l m L i).1∧hi=(rsF l m L i).2∧e=e50 L.length c3 lo hi j∧h=vR l m c1 c2 n L∧nx=4,⟨L.length,?_⟩,?_⟩
    ·refine aM (e0:=e50 L.length c3 10000 0 0) (h0:=vR l m c1 c2 n L) (n0:=4) ⟨0,0,_,_,rfl,Nat.zero_le _,rfl,rfl,rfl,rfl,rfl,rfl⟩ ?_ ?_ (by decide)
     ·unfold e50;((repeat' refine iE rfl rfl ?_);exact iN)
     ·unfold vR aY dE;((repeat'(first|refine iF rfl rfl ?_|refine iC rfl rfl rfl ?_|refine iJ rfl rfl rfl rfl ?_));exact iN)
    ·rintro q e h nx ⟨i,j,lo,hi,hj,hi',rfl,hlo,hhi,rfl,rfl,rfl⟩;unfold e50 vR aY dE;((conv=>whnf);refine bm (fun m2=>?_) (fun m2=>?_))
     ·have hil:i<L.length:=(by simp [xI,aA,aB] at m2;omega);have hb:=his i hil;have hin:=(QL ho hb).1;((conv=>whnf);refine bm (fun m3=>?_) (fun m3=>?_))
      ·(conv=>whnf);refine gI (eK L (i:=i) hil ?_) ?_
       ·show _+Int.toNat j*1=_;omega
       (conv=>whnf);refine⟨_,_,_,[iv (aK L i)],l,m,rfl,aC aP rfl,aC aS rfl,?_⟩;refine aJ (show (cF l m n&&pT n (aK L i))=true by rw [ho,hb];rfl) ?_;have hnx:rsF l m L (i+1)=rsK l m (vS l m (aK L i)) (rsF l m L i) (vS l m (aK L i)).length:=rfl;have hfl:=(QL ho hb).2.1;have hfu:=(QL ho hb).2.2.1;generalize vS l m (aK L i)=W at *;(conv=>whnf);refine⟨fun q e h nx=>∃ (k:Nat) (z lo hi:Int),z=k∧k≤W.length∧q=W.length - k∧lo=(rsK l m W (rsF l m L i) k).1∧hi=(rsK l m W (rsF l m L i) k).2∧e=YC L.length c3 W.length lo hi j z∧h=X7 l m c1 c2 n L W∧nx=5,⟨W.length,?_⟩,?_⟩
       ·refine aM (e0:=YC L.length c3 W.length lo hi j 0) (h0:=X7 l m c1 c2 n L W) (n0:=5) ⟨0,0,_,_,rfl,Nat.zero_le _,rfl,hlo,hhi,rfl,rfl,rfl⟩ ?_ ?_ (by decide)
        ·unfold YC e50;((repeat' refine iE rfl rfl ?_);exact iN)
        ·unfold X7 vR aY dE;((repeat'(first|refine iF rfl rfl ?_|refine iC rfl rfl rfl ?_|refine iJ rfl rfl rfl rfl ?_));exact iN)
       ·clear hlo hhi;rintro q e h nx ⟨k,z,lo,hi,hz,hk,rfl,hlo,hhi,rfl,rfl,rfl⟩;unfold YC e50 X7 vR aY dE;((conv=>whnf);refine bm (fun q1=>?_) (fun q1=>?_))
        ·have hkl:k<W.length:=(by simp [xI,aA,aB] at q1;omega);have hd:=rE hin hkl;have hd2:=hd;simp only [mE,Bool.and_eq_true,decide_eq_true_eq] at hd2;have hfr:=u6 l m hd2.1.1 (by omega);have hfl2:=aCY hM (d:=(aK W k).toNat) (by omega);rw [← hfr.1] at hfl2;have hy:yD l m (aK W k).toNat=(iB l (bS m (aK W k)).toNat).2:=(by unfold yD;rw [hfr.1]);have hs:rsK l m W (rsF l m L i) (k+1)=(aA.A.min lo (yD l m (aK W k).toNat),aA.A.max hi (yD l m (aK W k).toNat)):=(by rw [hlo,hhi];rfl);((conv=>whnf);refine bm (fun q2=>?_) (fun q2=>?_))
         ·(conv=>whnf);refine gI (eK W (i:=k) hkl ?_) ?_
          ·show _+Int.toNat z*1=_;omega
          (conv=>whnf);refine⟨l,m,aC aP rfl,aC aS rfl,?_⟩;refine aJ hd ?_;((conv=>whnf);refine bm (fun q3=>?_) (fun q3=>?_))
          ·(conv=>whnf);refine gI (aFT l (i:=(bS m (aK W k)).toNat) (by omega) ?_) ?_
           ·show _+Int.toNat (bS m (aK W k))*2+1=_;omega
           ((conv=>whnf);refine bm (fun q4=>?_) (fun q4=>?_))
           ·(conv=>whnf);refine⟨W.length - (k+1),by omega,?_⟩;refine aM (e0:=YC L.length c3 W.length (aA.A.min lo (iB l (bS m (aK W k)).toNat).2) (aA.A.max hi (iB l (bS m (aK W k)).toNat).2) j (z+1)) (h0:=X7 l m c1 c2 n L W) (n0:=5) ⟨k+1,z+1,_,_,by omega,by omega,rfl,by rw [hs,hy],by rw [hs,hy],rfl,rfl,rfl⟩ ?_ ?_ (by decide)
            ·unfold YC e50;((repeat' refine iE rfl rfl ?_);exact iN)
            ·unfold X7 vR aY dE;((repeat'(first|refine iF rfl rfl ?_|refine iC rfl rfl rfl ?_|refine iJ rfl rfl rfl rfl ?_));exact iN)
           ·exfalso;simp [xI,aA,aB,aI] at q4;omega
          ·exfalso;simp [xI,aA,aB] at q3;omega
         ·exfalso;simp [xI,aA,aB] at q2;omega
        ·have hkl:k=W.length:=(by simp [xI,aA,aB] at q1;omega);((conv=>whnf);refine bm (fun q2=>?_) (fun q2=>?_))
         ·(conv=>whnf);refine⟨L.length - (i+1),by omega,?_⟩;refine aM (e0:=e50 L.length c3 lo hi (j+1)) (h0:=vR l m c1 c2 n L) (n0:=4) ⟨i+1,j+1,_,_,by omega,by omega,rfl,by rw [hnx,← hkl];exact hlo,by rw [hnx,← hkl];exact hhi,rfl,rfl,rfl⟩ ?_ ?_ (by decide)
          ·unfold e50;((repeat' refine iE rfl rfl ?_);exact iN)
          ·unfold vR aY dE;((repeat'(first|refine iF rfl rfl ?_|refine iC rfl rfl rfl ?_|refine iJ rfl rfl rfl rfl ?_));exact iN)
         ·exfalso;simp [xI,aA,aB,aI] at q2;omega
      ·exfalso;simp [xI,aA,aB] at m3;omega
     ·have hil:i=L.length:=(by simp [xI,aA,aB] at m2;omega);(conv=>whnf);rw [← hil,← hlo,← hhi];rfl
end Go.Aw
end

noncomputable section
namespace Go.Aw
set_option maxRecDepth 100000
set_option maxHeartbeats 4000000
theorem aC5 {l:List Pt}{m:List Ed}{n f:Int}:(if j5 l m n f=true then RT m f else []).length≤1000000:=by
 split
 ·rename_i h;simp only [j5,Bool.and_eq_true] at h;rw [aFU h.1];have:=KJ m f (n+1).toNat;have:=(aAR h.1).2;show (vZ m f (n+1).toNat).length≤_;omega
 ·exact Nat.zero_le _
theorem w11 (l:List Pt)(m:List Ed)(n:Int)(c1 c2:Nat)(a:Int)(L:List Int)(c3:Nat)(hc3:L.length≤c3):body [aD8,X16,aEm,aDu,aFd,aIr,aHU,aIu,aJ3] 11 (aF l.length m.length c1 c2 n::([iv a]++[.slice (some ⟨2,0,none⟩) L.length c3])) (dE aP aS aN l m L) 3 (fun v _ _=>v=.bool true):=by
 (conv=>whnf);refine⟨l,m,aC aP rfl,aC aS rfl,?_⟩;((conv=>whnf);refine bm (fun h1=>?_) (fun h1=>?_))
 ·((conv=>whnf);refine bm (fun h2=>?_) (fun h2=>?_))
  ·(conv=>whnf)
  ·have h1':(!(decide ((l.length:Int)≤60)&&decide ((m.length:Int)≤60)))=false:=(by simpa [aA,aB] using h1);have hlm:l.length≤1000∧m.length≤1000:=aAp h1';have hL:L.length≤40:=(by simp [aA,aB] at h2;omega);have hsm:=smB hlm;have hsL:(decide (l.length≤1000)&&decide (m.length≤1000)&&decide (L.length≤1000000))=true:=(by rw [hsm,decide_eq_true (by omega)];rfl);obtain⟨O,hO⟩:∃ O,(if j5 l m n a=true then RT m a else [])=O:=⟨_,rfl⟩;obtain⟨E,hE⟩:∃ E:Int,(if j5 l m n a=true then 0 else 1)=E:=⟨_,rfl⟩;obtain⟨Z,hZ⟩:∃ O,(if j5 l m n 0=true then RT m 0 else [])=O:=⟨_,rfl⟩;obtain⟨G,hG⟩:∃ E:Int,(if j5 l m n 0=true then 0 else 1)=E:=⟨_,rfl⟩;have hOl:O.length≤1000000:=hO▸aC5;have hZl:Z.length≤1000000:=hZ▸aC5;have k1:nbP l m n [iv a]=some (decide (l.length≤1000)&&decide (m.length≤1000),O,some E):=(by rw [← hO,← hE];rfl);have k2:tcP l m n []=some (decide (l.length≤1000)&&decide (m.length≤1000),Z,some G):=(by rw [← hZ,← hG];rfl);obtain⟨s1,hs1⟩:∃ s:Int,(if cF l m n=true then (NC l m n L).1 else 0)=s:=⟨_,rfl⟩;obtain⟨s2,hs2⟩:∃ s:Int,(if cF l m n=true then (NC l m n L).2 else 0)=s:=⟨_,rfl⟩;obtain⟨s3,hs3⟩:∃ s:Int,(if cF l m n=true then PH n L else 1)=s:=⟨_,rfl⟩;have k3:spS l m n L []=some (true,.tuple #[iv s1,iv s2,iv s3]):=by
    show some (_,_)=_;rw [hsL,hs1,hs2,hs3]
   clear hO hE hZ hG hs1 hs2 hs3;have hsO:smI O O=true:=decide_eq_true rfl;have hsZ:smI Z Z=true:=decide_eq_true rfl;(conv=>whnf);refine⟨_,_,_,[iv a],l,m,rfl,aC aP rfl,aC aS rfl,?_⟩;rw [k1];refine aJ hsm ?_;cases O with
   |nil =>
    (conv=>whnf);refine⟨_,_,_,[iv a],l,m,rfl,aC aP rfl,aC aS rfl,?_⟩;rw [k1];refine aJ hsm ?_;(conv=>whnf);refine⟨_,_,_,[],l,m,rfl,aC aP rfl,aC aS rfl,?_⟩;rw [k2];refine aJ hsm ?_;cases Z with
    |nil =>
     (conv=>whnf);refine⟨_,_,_,[],l,m,rfl,aC aP rfl,aC aS rfl,?_⟩;rw [k2];refine aJ hsm ?_;(conv=>whnf);refine⟨_,_,_,[],_,l,m,L,rfl,aC aP rfl,aC aS rfl,aC aN rfl,?_⟩;rw [k3];refine aJ rfl ?_;(conv=>whnf);refine⟨_,_,_,[],_,l,m,L,rfl,aC aP rfl,aC aS rfl,aC aN rfl,hc3,?_⟩;rw [k3];refine aJ rfl ?_
     repeat' (((conv=>whnf);refine bm (fun g=>?_) (fun g=>?_)))
     all_goals (conv=>whnf)
     all_goals first
      |(exfalso;simp [aA,aB] at g;done)
      |(refine⟨[],[],⟨rfl,rfl,rfl⟩,⟨rfl,rfl,rfl⟩,?_⟩
        refine aJ (decide_eq_true hOl) ?_;rw [hsO];(conv=>whnf);refine⟨[],[],⟨rfl,rfl,rfl⟩,⟨rfl,rfl,rfl⟩,?_⟩;refine aJ (decide_eq_true hZl) ?_;rw [hsZ];(conv=>whnf))
    |cons y u =>
     (conv=>whnf);refine⟨_,_,_,[],l,m,rfl,aC aP rfl,aC aS rfl,?_⟩;rw [k2];refine aJ hsm ?_;(conv=>whnf);refine⟨_,_,_,[],_,l,m,L,rfl,aC aP rfl,aC aS rfl,aC aN rfl,?_⟩;rw [k3];refine aJ rfl ?_;(conv=>whnf);refine⟨_,_,_,[],_,l,m,L,rfl,aC aP rfl,aC aS rfl,aC aN rfl,hc3,?_⟩;rw [k3];refine aJ rfl ?_
     repeat' (((conv=>whnf);refine bm (fun g=>?_) (fun g=>?_)))
     all_goals (conv=>whnf)
     all_goals first
      |(exfalso;simp [aA,aB] at g;done)
      |(refine⟨[],[],⟨rfl,rfl,rfl⟩,⟨rfl,rfl,rfl⟩,?_⟩
        refine aJ (decide_eq_true hOl) ?_;rw [hsO];(conv=>whnf);refine⟨y::u,y::u,aC aN rfl,aC aN rfl,?_⟩;refine aJ (decide_eq_true hZl) ?_;rw [hsZ];(conv=>whnf))
   |cons x t =>
    (conv=>whnf);refine⟨_,_,_,[iv a],l,m,rfl,aC aP rfl,aC aS rfl,?_⟩;rw [k1];refine aJ hsm ?_;(conv=>whnf);refine⟨_,_,_,[],l,m,rfl,aC aP rfl,aC aS rfl,?_⟩;rw [k2];refine aJ hsm ?_;cases Z with
    |nil =>
     (conv=>whnf);refine⟨_,_,_,[],l,m,rfl,aC aP rfl,aC aS rfl,?_⟩;rw [k2];refine aJ hsm ?_;(conv=>whnf);refine⟨_,_,_,[],_,l,m,L,rfl,aC aP rfl,aC aS rfl,aC aN rfl,?_⟩;rw [k3];refine aJ rfl ?_;(conv=>whnf);refine⟨_,_,_,[],_,l,m,L,rfl,aC aP rfl,aC aS rfl,aC aN rfl,hc3,?_⟩;rw [k3];refine aJ rfl ?_
     repeat' (((conv=>whnf);refine bm (fun g=>?_) (fun g=>?_)))
     all_goals (conv=>whnf)
     all_goals first
      |(exfalso;simp [aA,aB] at g;done)
      |(refine⟨x::t,x::t,aC aN rfl,aC aN rfl,?_⟩
        refine aJ (decide_eq_true hOl) ?_;rw [hsO];(conv=>whnf);refine⟨[],[],⟨rfl,rfl,rfl⟩,⟨rfl,rfl,rfl⟩,?_⟩;refine aJ (decide_eq_true hZl) ?_;rw [hsZ];(conv=>whnf))
    |cons y u =>
     (conv=>whnf);refine⟨_,_,_,[],l,m,rfl,aC aP rfl,aC aS rfl,?_⟩;rw [k2];refine aJ hsm ?_;(conv=>whnf);refine⟨_,_,_,[],_,l,m,L,rfl,aC aP rfl,aC aS rfl,aC aN rfl,?_⟩;rw [k3];refine aJ rfl ?_;(conv=>whnf);refine⟨_,_,_,[],_,l,m,L,rfl,aC aP rfl,aC aS rfl,aC aN rfl,hc3,?_⟩;rw [k3];refine aJ rfl ?_
     repeat' (((conv=>whnf);refine bm (fun g=>?_) (fun g=>?_)))
     all_goals (conv=>whnf)
     all_goals first
      |(exfalso;simp [aA,aB] at g;done)
      |(refine⟨x::t,x::t,aC aN rfl,aC aN rfl,?_⟩
        refine aJ (decide_eq_true hOl) ?_;rw [hsO];(conv=>whnf);refine⟨y::u,y::u,aC aN rfl,aC aN rfl,?_⟩;refine aJ (decide_eq_true hZl) ?_;rw [hsZ];(conv=>whnf))
 ·(conv=>whnf)
end Go.Aw
end

noncomputable section
namespace Go.Proofs.YtjahkcbdecgbhaaGreat
open Go.ChangeShapes Go.WideShapes Go.ChangeAt Go.RowKit Go.Aw Go.Joins
theorem aAs {H:Type}{enc:TypeId × Value→H}{W:World}{held:Bool}{t e:TypeId}(ht:Tryz.prog.underlying t=some (.slice e)){a0:Option Addr}{n0 c0:Nat}{fuel:Nat}{x:DataW H × List MemPlace}(hf:DataW.trod enc Tryz.prog W 0 (fun _=>true) held fuel t [.slice a0 n0 c0]=some x):n0≤c0:=by
 rcases Go.Deep.open_slice ht hf with ⟨hcs,_⟩|⟨a,len,cap,m,n,D,Pl,hcs,_,hl,_,hm,_,hi⟩
 ·simp only [List.cons.injEq,and_true] at hcs;injection hcs with e1 e2 e3;omega
 ·simp only [List.cons.injEq,and_true] at hcs;injection hcs with e1 e2 e3;omega
theorem ZF {H:Type}{enc:TypeId × Value→H}{W:World}{t e:TypeId}(ht:Tryz.prog.underlying t=some (.slice e)){a0:Option Addr}{n0 c0:Nat}{fuel:Nat}{x:DataW H × List MemPlace}(hf:DataW.trod enc Tryz.prog W 0 (fun _=>true) true fuel t [.slice a0 n0 c0]=some x)
  (h:∃ (l:List Int) (c:Nat) (loc:Go.Aw.Loc),Value.slice a0 n0 c0=tr (fun _=>loc) (.slice (some ⟨0,0,none⟩) l.length c)∧(loc.fP=false→l.length=0∧c=0)∧jZ (fun _=>loc) W.heap.size W (.cells false true aN.sz (flat aN.fl l)) loc) :
  ∃ (l:List Int) (c:Nat) (loc:Go.Aw.Loc),Value.slice a0 n0 c0=tr (fun _=>loc) (.slice (some ⟨0,0,none⟩) l.length c)∧(loc.fP=false→l.length=0∧c=0)∧jZ (fun _=>loc) W.heap.size W (.cells false true aN.sz (flat aN.fl l)) loc∧l.length≤c:=by
 have hq:=aAs ht hf;obtain⟨l,c,loc,h1,h2,h3⟩:=h;cases loc with
 |nil p=>exact⟨l,c,.nil p,h1,h2,h3,by have:=h2 rfl;omega⟩
 |lay b o e =>
  have h4:Value.slice a0 n0 c0=.slice (some ⟨b,o+0,none⟩) l.length (c+e):=h1;injection h4 with e1 e2 e3;refine⟨l,c+e,.lay b o 0,?_,(fun h=>by cases h),DW (aG _ _) h3,by omega⟩;rw [h1];rfl
set_option maxRecDepth 100000 in
theorem IP (os:Os)(started:os.Started)(H:Type)(enc:TypeId × Value→H) :
  ReturnsInHanded {} Tryz.checked os 11 .any (Rows.facesBesideSpec.pre6 enc Tryz.prog Tryz.f11 Rows.facesBesideRow.domain false) (Rows.facesBesideSpec.post enc Tryz.prog Tryz.f11 false true false false):=by
 refine returnsInHanded_of_change (C:=Tryz.checked) Tryz.own started (by kernel_rfl) Tryz.func11
  (ChangeSpec.witness6 (enc:=enc) (C:=Tryz.checked) false ⟨#[],#[.agg #[.slice none 0 0,.slice none 0 0,.int .i64 0],.int .i64 0,.slice none 0 0],[]⟩ 3 (by kernel_rfl) (by kernel_rfl) (by kernel_rfl) (by kernel_rfl)) ?_
 intro W base args ds gs before hval0 hW hcnd _;have hval:∀ (j:Nat) t v,Tryz.f11.params[j]? = some t→args[j]? = some v→Value.okWide Tryz.prog W .any base t v:=hval0;have hW':=hW;obtain⟨p,q,hA0,hV,rfl,hfz,hnd⟩:=hW;have hA:DataW.TrodAll enc Tryz.prog W 0 (fun _=>true) true Tryz.f11.params.toList args.toList ds p:=hA0;rw [Tryz.params11] at hA hval;obtain⟨v0,v1,v2,d0,d1,d2,p0,p1,p2,rfl,rfl,rfl,h0,h1,h2⟩:=trodAll_three hA;obtain⟨rfl,rfl⟩:=trodVars_none hV;obtain⟨cs,rfl,hsz⟩:=okWide_struct Tryz.underlying25 (hval 0 25 v0 rfl rfl);have h0':=h0;obtain⟨fuel,hf0⟩:=h0';obtain⟨xs,fu,_,_,hlen,hxl,hf⟩:=DataW.trod_struct Tryz.underlying25 hf0;rw [Tryz.aEv] at hlen;have hcs:∃ a b c,cs.toList=[a,b,c]:=aKH hlen;obtain⟨a,b,c,hcs⟩:=hcs;have ecs:cs=#[a,b,c]:=Array.ext' hcs;subst ecs;obtain⟨x0,x1,x2,rfl⟩:=aKH hxl;obtain⟨l,c1,loc1,a1,a2,a3⟩:=A2 aP (by decide) Tryz.underlying22 Tryz.U5 aKo (show DataW.trod enc Tryz.prog W 0 (fun _=>true) true fu 22 [a]=some x0 by simpa [Tryz.aDJ,Value.cells] using hf 0 _ rfl);obtain⟨m,c2,loc2,b1,b2,b3⟩:=A2 aS (by decide) Tryz.underlying23 Tryz.UL aKz (show DataW.trod enc Tryz.prog W 0 (fun _=>true) true fu 23 [b]=some x1 by simpa [Tryz.aE6,Value.cells] using hf 1 _ rfl);obtain⟨n,e1⟩:=l8 (show DataW.trod enc Tryz.prog W 0 (fun _=>true) true fu 3 [c]=some x2 by simpa [Tryz.rN,Value.cells] using hf 2 _ rfl);subst e1;obtain⟨z0,rfl⟩:=okWide_int Tryz.underlying3 (hval 1 3 v1 rfl rfl);obtain⟨s0,sl,sc,rfl⟩:=okWide_slice Tryz.underlying30 (hval 2 30 v2 rfl rfl);have hl':=h2;obtain⟨fl,hfl⟩:=hl';obtain⟨L,c3,loc3,l1,l2,l3,hc3⟩:=ZF Tryz.underlying30 hfl (A2 aN (by decide) Tryz.underlying30 Tryz.rN aIG hfl);clear hA0 hval0;simp only [List.append_nil,List.append_assoc] at hW';have hlt:∀ x∈p0++(p1++p2),x.block<W.heap.size:=fun x hx=>(by simpa using hW'.lt x hx);refine (OR (r:=[iv z0]) (.cons aNm (.cons x16 (.cons aNc (.cons aKD (.cons aKB (.cons aLR (.cons aMA (.cons aML (.cons aNk .nil))))))))) rfl (w11 l m n c1 c2 z0 L c3 hc3) rfl a1 b1 l1 a2 b2 l2 a3 b3 l3).mono fun e W' ⟨he,hb⟩=>?_;subst he;refine⟨_,rfl,_,_,_,[],p0++(p1++p2),[],hW',trodAll_mk1 (aD4 true),?_,rfl,hb.frame _,fun h=>by cases h⟩;exact trodAll_mk3 (Below.trod Tryz.laidOut (by kernel_rfl) (of_decide_eq_true (by kernel_rfl)) h0 hb (fun x hx=>hlt x (List.mem_append.2 (.inl hx)))) (Below.trod Tryz.laidOut (by kernel_rfl) (of_decide_eq_true (by kernel_rfl)) h1 hb (fun x hx=>hlt x (List.mem_append.2 (.inr (List.mem_append.2 (.inl hx)))))) (Below.trod Tryz.laidOut (by kernel_rfl) (of_decide_eq_true (by kernel_rfl)) h2 hb (fun x hx=>hlt x (List.mem_append.2 (.inr (List.mem_append.2 (.inr hx))))))
set_option maxRecDepth 100000 in
theorem jf:joinedFacts Tryz.prog 11 Tryz.f11 Rows.facesBesideSpec Rows.facesBesideRow=true:=by
 unfold joinedFacts;exact (eM (eM (eM (eM (eM (eM (eM (eM (eM (eM (eM (eM (eM (eM (eM (eM (eM (eM (eM (eM (eM (eM (eM (eM (eM (eM (eM (eM (eM (eM (eM jf0 jf1) jf2) jf3) jf4) jf5) jf6) jf7) jf8) jf9) aLL) aNb) aNv) aLz) aNu) aNd) aMp) aNs) aM9) aMi) aMu) aMl) aM5) aM6) aMq) aNr) aMy) aMN) (by kernel_rfl)) aLX) aLN) aMw)
theorem beside_holds:Rows.FacesBesideSaid :=
 OpenClaim.holds_of_wide 11 Tryz.f11 rfl rfl rfl rfl rfl rfl rfl ⟨rfl,rfl,rfl,rfl,rfl⟩ rfl rfl rfl rfl rfl (by kernel_rfl) Tryz.func11 jf
  (of_decide_eq_true (by kernel_rfl)) (by unfold Func.isWrapper;first|(rw [if_pos (by decide +kernel)];kernel_rfl)|(rw [if_neg (by decide +kernel)];exact⟨rfl,rfl⟩))
  (fun os started H enc _=>IP os started H enc)
#print axioms beside_holds
end Go.Proofs.YtjahkcbdecgbhaaGreat
end
