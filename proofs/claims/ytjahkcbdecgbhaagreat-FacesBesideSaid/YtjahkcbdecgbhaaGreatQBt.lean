/-
  Parts of a proof. No condition.
-/
import Derived.Test.YtjahkcbdecgbhaaGreatQBr
import Derived.Test.YtjahkcbdecgbhaaGreatQBs
set_option linter.unusedSimpArgs false
set_option linter.unusedVariables false
noncomputable section
namespace Go.Aw
set_option maxRecDepth 100000
set_option maxHeartbeats 2000000
def XY (f:Int)(e:Ed):List Int:=if e.l=f∧e.r≠f then [e.r] else if e.r=f∧e.l≠f then [e.l] else []
def AF (m:List Ed)(f:Int):Nat→List Int
 |0=>[]
 |i+1=>AF m f i++XY f (cO m i)
theorem UD (m:List Ed)(f:Int)(i:Nat):AF m f (i+1)=AF m f i++XY f (cO m i):=rfl
theorem aDQ (f:Int)(e:Ed):(XY f e).length≤1:=by
 unfold XY;split
 ·exact Nat.le_refl _
 ·split
  ·exact Nat.le_refl _
  ·exact Nat.zero_le _
theorem UQ (m:List Ed)(f:Int):∀ i,(AF m f i).length≤i
 |0=>Nat.le_refl _
 |i+1=>by
  have:=UQ m f i;have:=aDQ f (cO m i);rw [UD,List.length_append];omega
theorem ZP:kU []=[]:=by unfold kU;simp
theorem UK (l:List Int):∀ {p},0<p→0<(iS l p).length
 |1,_=>by show 0<([]++_).length;rw [if_pos (.inl rfl)];exact Nat.one_pos
 |p+2,_=>by
  have:=UK l (p:=p+1) (Nat.succ_pos _);show 0<(iS l (p+1)++_).length;rw [List.length_append];omega
def RT (m:List Ed)(f:Int):List Int:=iS (kU (AF m f m.length)) (kU (AF m f m.length)).length
def aKa (args0:List Value)(h0:Heap)(n0:Nat)(out:List Int)(e:Option Int):Prop :=
 ∃ nP m nD nL c1 c2 n fo f,args0=[pV 0,iv f]∧h0=OX [] nP m nD nL c1 c2 n fo∧n0=2000∧out=RT m f∧e=none∧m.length≤1000
def sH (f:Int)(v:Value)(N c2:Nat)(j:Int):List (Nat × Value):=[(1,iv f),(5,v),(12,.slice (some ⟨5,0,none⟩) N c2),(13,iv N),(14,iv j)]
theorem aNl {args0:List Value}{h0:Heap}{n0:Nat}{out:List Int}{e:Option Int}(h:aKa args0 h0 n0 out e):body [(134,sIn),(202,cIn)] 124 args0 h0 n0 (Yields aN out e):=by
 obtain⟨nP,m,nD,nL,c1,c2,n,fo,f,rfl,rfl,rfl,rfl,rfl,sm⟩:=h;have hok:xC (OX [] nP m nD nL c1 c2 n fo) 2000:=aHj (fun k o hk=>by cases hk);have hN:∀ k,2000≤k→look (OX [] nP m nD nL c1 c2 n fo) k=none:=fun k hk=>bN hok hk;(conv=>whnf)
 refine⟨fun q e h nx=>∃ (i:Nat) (j:Int),j=i∧i≤m.length∧q=m.length - i ∧
  ((AF m f i=[]∧e=sH f (.slice none 0 0) m.length c2 j∧h=OX [] nP m nD nL c1 c2 n fo∧nx=2000) ∨
   (0<(AF m f i).length∧e=sH f (.slice (some ⟨2000,0,none⟩) (AF m f i).length (AF m f i).length) m.length c2 j∧h=[(2000,.cells true false 1 (flat aN.fl (AF m f i)))]++OX [] nP m nD nL c1 c2 n fo∧nx=2001)),⟨m.length,?_⟩,?_⟩
 ·refine dI (P:=[]) (W:=OX [] nP m nD nL c1 c2 n fo) (e0:=sH f (.slice none 0 0) m.length c2 0) (n0:=2000) [] ⟨0,0,rfl,Nat.zero_le _,rfl,.inl ⟨rfl,rfl,rfl,rfl⟩⟩ ?_ hok (fun _ _ h=>h) (fun _ h=>by cases h) (fun _ h=>by cases h) (fun _ h=>by cases h) (by omega);unfold sH;((repeat' refine iE rfl rfl ?_);exact iN)
 ·rintro q e h nx ⟨i,j,hj,hi,rfl,hx⟩;rcases hx with ⟨hnil,rfl,rfl,rfl⟩|⟨hpos,rfl,rfl,rfl⟩
  ·unfold sH OX;((conv=>whnf);refine bm (fun m1=>?_) (fun m1=>?_))
   ·have hil:i<m.length:=(by simp [aA,aB] at m1;omega);((conv=>whnf);refine bm (fun m2=>?_) (fun m2=>?_))
    ·(conv=>whnf);refine nV (BS m (i:=i) hil ?_) ?_
     ·show _+Int.toNat j*5=_;omega
     have hs:=UD m f i;rw [hnil,List.nil_append] at hs;generalize cO m i=E at *;by_cases h1:E.l=f∧E.r≠f
     ·have hf:AF m f (i+1)=[E.r]:=by rw [hs];unfold XY;rw [if_pos h1]
      repeat' (((conv=>whnf);refine bm (fun g=>?_) (fun g=>?_)))
      all_goals (conv=>whnf)
      all_goals first
       |(refine⟨m.length - (i+1),by omega,?_⟩
         refine dI (P:=[(2000,.cells true false 1 (flat aN.fl [E.r]))]) (W:=OX [] nP m nD nL c1 c2 n fo) (e0:=sH f (.slice (some ⟨2000,0,none⟩) 1 1) m.length c2 (j+1)) (n0:=2001) [(2000,2002)] ⟨i+1,j+1,by omega,by omega,rfl,.inr ⟨by rw [hf];exact Nat.one_pos,by rw [hf];rfl,by rw [hf];rfl,rfl⟩⟩ ?_ hok ?_ ?_ ?_ ?_ (by omega)
         ·unfold sH;((repeat' refine iE rfl rfl ?_);exact iN)
         ·exact bJ (bJ (dT (bJ (fun _ _ h=>h) (hN _ (by decide))) (hN _ (by decide))) (hN _ (by decide))) (hN _ (by decide))
         ·exact List.forall_mem_cons.2 ⟨⟨.inl ⟨Nat.le_of_ble_eq_true rfl,Nat.le_of_ble_eq_true rfl,Nat.le_of_ble_eq_true rfl⟩,_,rfl,aZ (aG _ _) rfl⟩,fun _ h=>by cases h⟩
         ·show ∀ k∈[2000],∀ k'∈[2000],_;decide
         ·exact fun p h=>by rcases List.mem_cons.1 h with rfl|h;exact Nat.le_refl _;cases h)
       |(exfalso;clear hs;simp [aA,aB,aI] at *;first|omega|(simp_all;done)|(simp_all;omega))
     ·by_cases h2:E.r=f∧E.l≠f
      ·have hf:AF m f (i+1)=[E.l]:=by rw [hs];unfold XY;rw [if_neg h1,if_pos h2]
       repeat' (((conv=>whnf);refine bm (fun g=>?_) (fun g=>?_)))
       all_goals (conv=>whnf)
       all_goals first
        |(refine⟨m.length - (i+1),by omega,?_⟩
          refine dI (P:=[(2000,.cells true false 1 (flat aN.fl [E.l]))]) (W:=OX [] nP m nD nL c1 c2 n fo) (e0:=sH f (.slice (some ⟨2000,0,none⟩) 1 1) m.length c2 (j+1)) (n0:=2001) [(2000,2002)] ⟨i+1,j+1,by omega,by omega,rfl,.inr ⟨by rw [hf];exact Nat.one_pos,by rw [hf];rfl,by rw [hf];rfl,rfl⟩⟩ ?_ hok ?_ ?_ ?_ ?_ (by omega)
          ·unfold sH;((repeat' refine iE rfl rfl ?_);exact iN)
          ·exact bJ (bJ (dT (bJ (fun _ _ h=>h) (hN _ (by decide))) (hN _ (by decide))) (hN _ (by decide))) (hN _ (by decide))
          ·exact List.forall_mem_cons.2 ⟨⟨.inl ⟨Nat.le_of_ble_eq_true rfl,Nat.le_of_ble_eq_true rfl,Nat.le_of_ble_eq_true rfl⟩,_,rfl,aZ (aG _ _) rfl⟩,fun _ h=>by cases h⟩
          ·show ∀ k∈[2000],∀ k'∈[2000],_;decide
          ·exact fun p h=>by rcases List.mem_cons.1 h with rfl|h;exact Nat.le_refl _;cases h)
        |(exfalso;clear hs;simp [aA,aB,aI] at *;first|omega|(simp_all;done)|(simp_all;omega))
      ·have hf:AF m f (i+1)=[]:=by rw [hs];unfold XY;rw [if_neg h1,if_neg h2]
       repeat' (((conv=>whnf);refine bm (fun g=>?_) (fun g=>?_)))
       all_goals (conv=>whnf)
       all_goals first
        |(refine⟨m.length - (i+1),by omega,?_⟩
          refine dI (P:=[]) (W:=OX [] nP m nD nL c1 c2 n fo) (e0:=sH f (.slice none 0 0) m.length c2 (j+1)) (n0:=2000) [] ⟨i+1,j+1,by omega,by omega,rfl,.inl ⟨hf,rfl,rfl,rfl⟩⟩ ?_ hok ?_ (fun _ h=>by cases h) (fun _ h=>by cases h) (fun _ h=>by cases h) (by omega)
          ·unfold sH;((repeat' refine iE rfl rfl ?_);exact iN)
          ·exact dT (bJ (fun _ _ h=>h) (hN _ (by decide))) (hN _ (by decide)))
        |(exfalso;clear hs;simp [aA,aB,aI] at *;first|omega|(simp_all;done)|(simp_all;omega))
    ·exfalso;simp [aA,aB] at m2;omega
   ·have hil:i=m.length:=(by simp [aA,aB] at m1;omega);have ho:RT m f=[]:=(by unfold RT;rw [← hil,hnil,ZP];rfl);rw [ho];(conv=>whnf);refine .inr ?_;(conv=>whnf);refine .inr ?_;(conv=>whnf);rfl
  ·unfold sH OX;have hlen:(flat aN.fl (AF m f i)).length=(AF m f i).length:=(by rw [bD];show _*1=_;omega);have hle:=UQ m f i;((conv=>whnf);refine bm (fun m1=>?_) (fun m1=>?_))
   ·have hil:i<m.length:=(by simp [aA,aB] at m1;omega);((conv=>whnf);refine bm (fun m2=>?_) (fun m2=>?_))
    ·(conv=>whnf);refine nV (BS m (i:=i) hil ?_) ?_
     ·show _+Int.toNat j*5=_;omega
     have hs:=UD m f i;generalize AF m f i=X at *;generalize cO m i=E at *;by_cases h1:E.l=f∧E.r≠f
     ·have hf:AF m f (i+1)=X++[E.r]:=by rw [hs];unfold XY;rw [if_pos h1]
      repeat' (((conv=>whnf);refine bm (fun g=>?_) (fun g=>?_)))
      all_goals (conv=>whnf)
      all_goals first
       |(refine⟨m.length - (i+1),by omega,?_⟩
         refine dI (P:=[(2000,.cells true false 1 (flat aN.fl (X++[E.r])))]) (W:=OX [] nP m nD nL c1 c2 n fo) (e0:=sH f (.slice (some ⟨2000,0,none⟩) (X.length+1) (X.length+1)) m.length c2 (j+1)) (n0:=2001) [(2000,2003)] ⟨i+1,j+1,by omega,by omega,rfl,.inr ⟨by rw [hf,List.length_append];exact Nat.succ_pos _,by rw [hf,List.length_append];rfl,by rw [hf];rfl,rfl⟩⟩ ?_ hok ?_ ?_ ?_ ?_ (by omega)
         ·unfold sH;((repeat' refine iE rfl rfl ?_);exact iN)
         ·exact bJ (EF (bJ (dT (bJ (ext_cons (fun _ _ h=>h) (hN _ (by decide))) (hN _ (by decide))) (hN _ (by decide))) (hN _ (by decide))) (hN _ (by decide))) (hN _ (by decide))
         ·exact List.forall_mem_cons.2 ⟨⟨.inl ⟨Nat.le_of_ble_eq_true rfl,Nat.le_of_ble_eq_true rfl,Nat.le_of_ble_eq_true rfl⟩,_,rfl,aZ (aG aN _) (eL aN X _ rfl)⟩,fun _ h=>by cases h⟩
         ·show ∀ k∈[2000],∀ k'∈[2000],_;decide
         ·exact fun p h=>by rcases List.mem_cons.1 h with rfl|h;exact Nat.le_refl _;cases h)
       |exact nW (s:=1) (by omega) (by omega) (by assumption)
       |(exfalso;rename_i g;have:=Nat.le_of_ble_eq_true g;omega)
       |(exfalso;clear hs;simp [aA,aB,aI] at *;first|omega|(simp_all;done)|(simp_all;omega))
     ·by_cases h2:E.r=f∧E.l≠f
      ·have hf:AF m f (i+1)=X++[E.l]:=by rw [hs];unfold XY;rw [if_neg h1,if_pos h2]
       repeat' (((conv=>whnf);refine bm (fun g=>?_) (fun g=>?_)))
       all_goals (conv=>whnf)
       all_goals first
        |(refine⟨m.length - (i+1),by omega,?_⟩
          refine dI (P:=[(2000,.cells true false 1 (flat aN.fl (X++[E.l])))]) (W:=OX [] nP m nD nL c1 c2 n fo) (e0:=sH f (.slice (some ⟨2000,0,none⟩) (X.length+1) (X.length+1)) m.length c2 (j+1)) (n0:=2001) [(2000,2003)] ⟨i+1,j+1,by omega,by omega,rfl,.inr ⟨by rw [hf,List.length_append];exact Nat.succ_pos _,by rw [hf,List.length_append];rfl,by rw [hf];rfl,rfl⟩⟩ ?_ hok ?_ ?_ ?_ ?_ (by omega)
          ·unfold sH;((repeat' refine iE rfl rfl ?_);exact iN)
          ·exact bJ (EF (bJ (dT (bJ (ext_cons (fun _ _ h=>h) (hN _ (by decide))) (hN _ (by decide))) (hN _ (by decide))) (hN _ (by decide))) (hN _ (by decide))) (hN _ (by decide))
          ·exact List.forall_mem_cons.2 ⟨⟨.inl ⟨Nat.le_of_ble_eq_true rfl,Nat.le_of_ble_eq_true rfl,Nat.le_of_ble_eq_true rfl⟩,_,rfl,aZ (aG aN _) (eL aN X _ rfl)⟩,fun _ h=>by cases h⟩
          ·show ∀ k∈[2000],∀ k'∈[2000],_;decide
          ·exact fun p h=>by rcases List.mem_cons.1 h with rfl|h;exact Nat.le_refl _;cases h)
        |exact nW (s:=1) (by omega) (by omega) (by assumption)
        |(exfalso;rename_i g;have:=Nat.le_of_ble_eq_true g;omega)
        |(exfalso;clear hs;simp [aA,aB,aI] at *;first|omega|(simp_all;done)|(simp_all;omega))
      ·have hf:AF m f (i+1)=X:=by rw [hs];unfold XY;rw [if_neg h1,if_neg h2,List.append_nil]
       repeat' (((conv=>whnf);refine bm (fun g=>?_) (fun g=>?_)))
       all_goals (conv=>whnf)
       all_goals first
        |(refine⟨m.length - (i+1),by omega,?_⟩
          refine dI (P:=[(2000,.cells true false 1 (flat aN.fl X))]) (W:=OX [] nP m nD nL c1 c2 n fo) (e0:=sH f (.slice (some ⟨2000,0,none⟩) X.length X.length) m.length c2 (j+1)) (n0:=2001) [] ⟨i+1,j+1,by omega,by omega,rfl,.inr ⟨by rw [hf];exact hpos,by rw [hf];rfl,by rw [hf];rfl,rfl⟩⟩ ?_ hok ?_ ?_ ?_ (fun _ h=>by cases h) (by omega)
          ·unfold sH;((repeat' refine iE rfl rfl ?_);exact iN)
          ·exact dT (bJ (ext_cons (fun _ _ h=>h) (hN _ (by decide))) (hN _ (by decide))) (hN _ (by decide))
          ·exact List.forall_mem_cons.2 ⟨⟨.inl ⟨Nat.le_of_ble_eq_true rfl,Nat.le_of_ble_eq_true rfl,Nat.le_of_ble_eq_true rfl⟩,_,rfl,aO (aG _ _)⟩,fun _ h=>by cases h⟩
          ·show ∀ k∈[2000],∀ k'∈[2000],_;decide)
        |(exfalso;clear hs;simp [aA,aB,aI] at *;first|omega|(simp_all;done)|(simp_all;omega))
    ·exfalso;simp [aA,aB] at m2;omega
   ·have hil:i=m.length:=(by simp [aA,aB] at m1;omega);have ho:RT m f=iS (kU (AF m f i)) (kU (AF m f i)).length:=(by unfold RT;rw [← hil]);rw [ho];(conv=>whnf);refine .inl ⟨AF m f i,rfl,rfl,by omega,hpos,?_⟩;have hsl:=KG (AF m f i);generalize kU (AF m f i)=Z at *;rw [← hsl];(conv=>whnf);refine .inl ⟨Z,rfl,rfl,rfl,rfl,by omega,by omega,?_⟩;(conv=>whnf);have hd:0<(iS Z Z.length).length:=UK Z (by omega);exact gP aN (e:=none) (nx:=0) hd rfl
def aAk:Nat × XF:=(124,fun args h nx K=>∃ p l m n f,args=[pV p,iv f]∧WA h p l m n∧KW aN (RT m f) none h nx K)
theorem aKs:cH Go.Proofs.Tryz.prog aAk.1 aAk.2:=by
 have h0:cH Go.Proofs.Tryz.prog 124 (yOf aN aKa):=TI aN (aL (xl:=[(134,sIn),(202,cIn)]) (.cons aMJ (.cons aLQ .nil))) fun _ _ _ _ _=>aNl;refine h0.mono ?_ ?_
 ·rintro args h nx K ⟨p,l,m,n,f,rfl,hw,hk⟩;obtain⟨nP,nD,nL,c1,c2,fo,hin⟩:=aJL (nx:=nx) hw (R:=[]) (ka:=0) (kb:=0) (F:=iv f) (F0:=iv f) (fun ρ e1 e2=>(mA rfl).symm) (rU rfl) (fun ρ e1 e2 k o hk=>bV hk);exact ML aN ⟨nP,m,nD,nL,c1,c2,n,fo,f,rfl,rfl,rfl,rfl,rfl,hw.sm.2⟩ hin hk
 ·rintro args h nx K ⟨p,l,m,n,f,rfl,hw,hk⟩;obtain⟨v,h',nx',h1,h2⟩:=O7 hk;exact⟨v,h',nx',h1,fun K' hk'=>⟨p,l,m,n,f,rfl,hw,h2 K' hk'⟩⟩
def nbP (l:List Pt)(m:List Ed)(n:Int):List Value→Option (Bool × List Int × Option Int)
 |[.int .i64 f]=>some (decide (l.length≤1000)&&decide (m.length≤1000),if j5 l m n f=true then RT m f else [],some (if j5 l m n f=true then 0 else 1))
 |_=>none
theorem EE {l:List Pt}{m:List Ed}{n:Int}{r:List Value}{out:List Int}{e:Option Int}(hs:nbP l m n r=some (true,out,e)):∃ f,r=[iv f]∧(l.length≤1000∧m.length≤1000)∧out=(if j5 l m n f=true then RT m f else [])∧e=some (if j5 l m n f=true then 0 else 1):=by
 unfold nbP at hs;split at hs
 ·injection hs with hs;injection hs with h1 h2;injection h2 with h2 h3;simp only [Bool.and_eq_true,decide_eq_true_eq] at h1;exact⟨_,rfl,h1,h2.symm,h3.symm⟩
 ·cases hs
def aDu:Nat × XF:=(45,mRX nbP)
theorem aKD:cH Go.Proofs.Tryz.prog aDu.1 aDu.2:=BH (j3 (zL (xl:=[aIO,aH8,aAk]) (.cons aMg (.cons aMG (.cons aKs .nil))) 4) 6).1 fun l m n r out e hs=>by
 obtain⟨f,rfl,hlm,rfl,rfl⟩:=EE hs;clear hs;refine⟨rfl,fun c1 c2=>?_⟩;(conv=>whnf);refine⟨l,m,n,.slice (some ⟨0,0,none⟩) l.length c1,.slice (some ⟨1,0,none⟩) m.length c2,rfl,aC aP rfl,aC aS rfl,hlm,?_⟩;have hfb:j5 l m n f=(cF l m n&&pT n f):=rfl;cases ho:cF l m n with
 |false =>
  rw [ho,Bool.false_and] at hfb;refine .inr ⟨rfl,?_⟩;rw [hfb];(conv=>whnf);rfl
 |true =>
  rw [ho,Bool.true_and] at hfb;refine .inl ⟨rfl,?_⟩;have hW:WA _ (2+1+1+1+7) l m n:=aKO (nx:=2+1+1+1) (c1:=c1) (c2:=c2) ho hlm;have hno:∀ k,k<2+1+1+1∨_→_:=fun k hk=>aGA (nx:=2+1+1+1) (m:=m) (c1:=c1) (c2:=c2) (n:=n) hlm.1 hk;generalize wT _ l m=W at hW hno ⊢;generalize SG _ l m=TB at hW hno ⊢;rw [hfb];(conv=>whnf);refine⟨_,_,l,m,n,[f],1,rfl,aAW (aAq hW (fun k hk=>hno k (.inl hk)) rfl) (V3 (nx:=2+1+1+1) rfl (by decide) (hno _ (.inr (by decide)))),⟨_,_,_,_,rfl,rfl⟩,?_⟩;cases hb:pT n f with
  |false =>
   rw [show OW l m n [f]=some (true,.bool (pT n f)) from rfl,hb];(conv=>whnf);rfl
  |true =>
   rw [show OW l m n [f]=some (true,.bool (pT n f)) from rfl,hb];rw [if_pos rfl,if_pos rfl];generalize hO:RT m f=O;(conv=>whnf);refine⟨_,l,m,n,f,rfl,aAW (aAq hW (fun k hk=>hno k (.inl hk)) rfl) (V3 (nx:=2+1+1+1) rfl (by decide) (hno _ (.inr (by decide)))),?_⟩;rw [hO];cases O with
   |nil=>(conv=>whnf);rfl
   |cons x t =>
    (conv=>whnf);exact gP aN (l:=x::t) (e:=some 0) (nx:=0) (Nat.succ_pos _) rfl
def tcP (l:List Pt)(m:List Ed)(n:Int):List Value→Option (Bool × List Int × Option Int)
 |[]=>nbP l m n [iv 0]
 |_=>none
def aIr:Nat × XF:=(47,mRX tcP)
theorem aLR:cH Go.Proofs.Tryz.prog aIr.1 aIr.2:=BH (aL (xl:=[aDu]) (.cons aKD .nil)) fun l m n r out e hs=>by
 cases r with
 |cons a t=>cases hs
 |nil =>
  refine⟨rfl,fun c1 c2=>?_⟩;(conv=>whnf);refine⟨_,_,_,[iv 0],l,m,rfl,aC aP rfl,aC aS rfl,?_⟩;rw [show nbP l m n [iv 0]=some (true,out,e) from hs];refine aJ rfl ?_;obtain⟨f,_,_,_,he⟩:=EE (show nbP l m n [iv 0]=some (true,out,e) from hs);subst he;cases out with
  |nil=>(conv=>whnf);rfl
  |cons x t =>
   (conv=>whnf);exact gP aN (l:=x::t) (e:=some (if j5 l m n f=true then 0 else 1)) (nx:=0) (Nat.succ_pos _) rfl
def s94 (l:List Pt)(m:List Ed)(n:Int):List Value→Option (Bool × List Int × Option Int)
 |[.int .i64 a,.int .i64 b]=>some (decide (m.length≤1000),jR (vP a b) m m.length,none)
 |_=>none
def UG (a b:Int)(v:Value)(j:Int):List (Nat × Value):=[(1,iv a),(2,iv b),(3,.pointer (some ⟨2,0,none⟩)),(7,v),(8,iv j)]
def r6 (l:List Pt)(m:List Ed)(c1 c2:Nat)(n:Int):Heap:=(2,aY l.length m.length c1 c2 n)::aD aP aS l m
def aHY:Nat × XF:=(94,mRX s94)
theorem aLH:cH Go.Proofs.Tryz.prog aHY.1 aHY.2:=BH (aL (xl:=[]) .nil) fun l m n r out e hs=>by
 have:∃ a b,r=[iv a,iv b]∧m.length≤1000∧out=jR (vP a b) m m.length∧e=none:=by
  unfold s94 at hs;split at hs
  ·injection hs with hs;injection hs with h1 h2;injection h2 with h2 h3;exact⟨_,_,rfl,of_decide_eq_true h1,h2.symm,h3.symm⟩
  ·cases hs
 obtain⟨a,b,rfl,hm,rfl,rfl⟩:=this;clear hs;refine⟨rfl,fun c1 c2=>?_⟩;(conv=>whnf)
 refine⟨fun q e h nx=>∃ (i:Nat) (j:Int),j=i∧i≤m.length∧q=m.length - i ∧
  ((jR (vP a b) m i=[]∧e=UG a b (.slice none 0 0) j∧h=r6 l m c1 c2 n∧nx=3) ∨
   (0<(jR (vP a b) m i).length∧e=UG a b (.slice (some ⟨3,0,none⟩) (jR (vP a b) m i).length (jR (vP a b) m i).length) j∧h=(3,.cells true false 1 (flat aN.fl (jR (vP a b) m i)))::r6 l m c1 c2 n∧nx=4)),⟨m.length,?_⟩,?_⟩
 ·refine aM (e0:=UG a b (.slice none 0 0) 0) (h0:=r6 l m c1 c2 n) (n0:=3) ⟨0,0,rfl,Nat.zero_le _,rfl,.inl ⟨rfl,rfl,rfl,rfl⟩⟩ ?_ ?_ (by decide)
  ·unfold UG;((repeat' refine iE rfl rfl ?_);exact iN)
  ·unfold r6 aY aD;((repeat'(first|refine iF rfl rfl ?_|refine iC rfl rfl rfl ?_|refine iJ rfl rfl rfl rfl ?_));exact iN)
 ·rintro q e h nx ⟨i,j,hj,hi,rfl,hx⟩;rcases hx with ⟨hnil,rfl,rfl,rfl⟩|⟨hpos,rfl,rfl,rfl⟩
  ·unfold UG r6 aY aD;((conv=>whnf);refine bm (fun m1=>?_) (fun m1=>?_))
   ·have hil:i<m.length:=(by simp [aA,aB] at m1;omega);((conv=>whnf);refine bm (fun m2=>?_) (fun m2=>?_))
    ·(conv=>whnf);refine nV (BS m (i:=i) hil ?_) ?_
     ·show _+Int.toNat j*5=_;omega
     cases hp:vP a b (cO m i) with
     |true =>
      have hf:jR (vP a b) m (i+1)=[j]:=by rw [TH hp,hnil,hj];rfl
      repeat' (((conv=>whnf);refine bm (fun g=>?_) (fun g=>?_)))
      all_goals (conv=>whnf)
      all_goals first
       |(refine⟨m.length - (i+1),by omega,?_⟩
         refine gM (e0:=UG a b (.slice (some ⟨3,0,none⟩) 1 1) (j+1)) (h0:=(3,.cells true false 1 (flat aN.fl [j]))::r6 l m c1 c2 n) (n0:=4) 3 5 (by decide) (by decide) ⟨i+1,j+1,by omega,by omega,rfl,.inr ⟨by rw [hf];exact Nat.one_pos,by rw [hf];rfl,by rw [hf];rfl,rfl⟩⟩ ?_ ?_ ?_
         ·unfold UG;((repeat' refine iE rfl rfl ?_);exact iN)
         ·unfold r6 aY aD;((repeat'(first|refine iF rfl rfl ?_|refine iC rfl rfl rfl ?_|refine iJ rfl rfl rfl rfl ?_));exact iN)
         ·unfold r6;((repeat' refine iK rfl ?_);exact iN))
       |(exfalso;clear hf;unfold vP at hp;simp [aA,aB,aI] at *;first|omega|(simp_all;done)|(simp_all;omega))
     |false =>
      have hf:jR (vP a b) m (i+1)=[]:=(SJ hp).trans hnil
      repeat' (((conv=>whnf);refine bm (fun g=>?_) (fun g=>?_)))
      all_goals (conv=>whnf)
      all_goals first
       |(refine⟨m.length - (i+1),by omega,?_⟩
         refine aM (e0:=UG a b (.slice none 0 0) (j+1)) (h0:=r6 l m c1 c2 n) (n0:=3) ⟨i+1,j+1,by omega,by omega,rfl,.inl ⟨hf,rfl,rfl,rfl⟩⟩ ?_ ?_ (by decide)
         ·unfold UG;((repeat' refine iE rfl rfl ?_);exact iN)
         ·unfold r6 aY aD;((repeat'(first|refine iF rfl rfl ?_|refine iC rfl rfl rfl ?_|refine iJ rfl rfl rfl rfl ?_));exact iN))
       |(exfalso;clear hf;unfold vP at hp;simp [aA,aB,aI] at *;first|omega|(simp_all;done)|(simp_all;omega))
    ·exfalso;simp [aA,aB] at m2;omega
   ·have hil:i=m.length:=(by simp [aA,aB] at m1;omega);(conv=>whnf);rw [hil] at hnil;rw [hnil];rfl
  ·unfold UG r6 aY aD;have hlen:(flat aN.fl (jR (vP a b) m i)).length=(jR (vP a b) m i).length:=(by rw [bD];show _*1=_;omega);have hle:=N6 (vP a b) m i;((conv=>whnf);refine bm (fun m1=>?_) (fun m1=>?_))
   ·have hil:i<m.length:=(by simp [aA,aB] at m1;omega);((conv=>whnf);refine bm (fun m2=>?_) (fun m2=>?_))
    ·(conv=>whnf);refine nV (BS m (i:=i) hil ?_) ?_
     ·show _+Int.toNat j*5=_;omega
     cases hp:vP a b (cO m i) with
     |true =>
      have hf:jR (vP a b) m (i+1)=jR (vP a b) m i++[j]:=(by rw [TH hp,hj]);generalize jR (vP a b) m i=L at *
      repeat' (((conv=>whnf);refine bm (fun g=>?_) (fun g=>?_)))
      all_goals (conv=>whnf)
      all_goals first
       |(refine⟨m.length - (i+1),by omega,?_⟩
         refine gM (e0:=UG a b (.slice (some ⟨3,0,none⟩) (L.length+1) (L.length+1)) (j+1)) (h0:=(3,.cells true false 1 (flat aN.fl (L++[j])))::r6 l m c1 c2 n) (n0:=4) 3 6 (by decide) (by decide) ⟨i+1,j+1,by omega,by omega,rfl,.inr ⟨by rw [hf,List.length_append];exact Nat.succ_pos _,by rw [hf,List.length_append];rfl,by rw [hf];rfl,rfl⟩⟩ ?_ ?_ ?_
         ·unfold UG;((repeat' refine iE rfl rfl ?_);exact iN)
         ·unfold r6 aY aD;((repeat'(first|refine iW rfl rfl (aZ (aG aN _) (eL aN L j rfl)) ?_|refine iF rfl rfl ?_|refine iC rfl rfl rfl ?_|refine iJ rfl rfl rfl rfl ?_));exact iN)
         ·unfold r6;((repeat' refine iK rfl ?_);exact iN))
       |exact nW (s:=1) (by omega) (by omega) (by assumption)
       |(exfalso;rename_i g;have:=Nat.le_of_ble_eq_true g;omega)
       |(exfalso;clear hf;unfold vP at hp;simp [aA,aB,aI] at *;first|omega|(simp_all;done)|(simp_all;omega))
     |false =>
      have hf:jR (vP a b) m (i+1)=jR (vP a b) m i:=SJ hp;generalize jR (vP a b) m i=L at *
      repeat' (((conv=>whnf);refine bm (fun g=>?_) (fun g=>?_)))
      all_goals (conv=>whnf)
      all_goals first
       |(refine⟨m.length - (i+1),by omega,?_⟩
         refine aM (e0:=UG a b (.slice (some ⟨3,0,none⟩) L.length L.length) (j+1)) (h0:=(3,.cells true false 1 (flat aN.fl L))::r6 l m c1 c2 n) (n0:=4) ⟨i+1,j+1,by omega,by omega,rfl,.inr ⟨by rw [hf];exact hpos,by rw [hf];rfl,by rw [hf];rfl,rfl⟩⟩ ?_ ?_ (by decide)
         ·unfold UG;((repeat' refine iE rfl rfl ?_);exact iN)
         ·unfold r6 aY aD;((repeat'(first|refine iF rfl rfl ?_|refine iC rfl rfl rfl ?_|refine iJ rfl rfl rfl rfl ?_));exact iN))
       |(exfalso;clear hf;unfold vP at hp;simp [aA,aB,aI] at *;first|omega|(simp_all;done)|(simp_all;omega))
    ·exfalso;simp [aA,aB] at m2;omega
   ·have hil:i=m.length:=(by simp [aA,aB] at m1;omega);(conv=>whnf);rw [show jR (vP a b) m m.length=jR (vP a b) m i by rw [← hil]];have:=gP aN (l:=jR (vP a b) m i) (e:=none) (h:=(3,.cells true false 1 (flat aN.fl (jR (vP a b) m i)))::r6 l m c1 c2 n) (q:=3) (nx:=4) hpos rfl;exact this
def ND (m:List Ed)(f g:Int):Bool:=decide (g≠f)&&decide (0<(jR (vP g f) m m.length).length)
def vZ (m:List Ed)(f:Int):Nat→List Int
 |0=>[]
 |i+1=>if ND m f i=true then vZ m f i++[(i:Int)] else vZ m f i
theorem aBl {m:List Ed}{f:Int}{i:Nat}(h:ND m f i=true):vZ m f (i+1)=vZ m f i++[(i:Int)]:=by
 show (if _ then _ else _)=_;rw [if_pos h]
theorem QB {m:List Ed}{f:Int}{i:Nat}(h:ND m f i=false):vZ m f (i+1)=vZ m f i:=by
 show (if _ then _ else _)=_;rw [if_neg (by rw [h];decide)]
theorem KJ (m:List Ed)(f:Int):∀ i,(vZ m f i).length≤i
 |0=>Nat.le_refl _
 |i+1=>by
  have:=KJ m f i;unfold vZ;split
  ·rw [List.length_append,List.length_singleton];omega
  ·omega
def rnO (m:List Ed)(n f:Int):List Int:=vZ m f (n+1).toNat
def aHT (l:List Pt)(m:List Ed)(n:Int):List Value→Option (Bool × List Int × Option Int)
 |[.int .i64 f]=>some (decide (m.length≤1000)&&decide (0≤n)&&decide (n≤1000),rnO m n f,none)
 |_=>none
def sK (f:Int)(v:Value)(j:Int):List (Nat × Value):=[(1,iv f),(2,pV 2),(5,v),(6,iv j)]
def aCt:Nat × XF:=(125,mRX aHT)
theorem aJY:cH Go.Proofs.Tryz.prog aCt.1 aCt.2:=BH (aL (xl:=[aHY]) (.cons aLH .nil)) fun l m n r out e hs=>by
 have:∃ f,r=[iv f]∧m.length≤1000∧0≤n∧n≤1000∧out=rnO m n f∧e=none:=by
  unfold aHT at hs;split at hs
  ·injection hs with hs;injection hs with h1 h2;injection h2 with h2 h3;simp only [Bool.and_eq_true,decide_eq_true_eq] at h1;exact⟨_,rfl,h1.1.1,h1.1.2,h1.2,h2.symm,h3.symm⟩
  ·cases hs
 obtain⟨f,rfl,hm,hn0,hn,rfl,rfl⟩:=this;clear hs;obtain⟨T,hT⟩:∃ T:Nat,(n+1).toNat=T:=⟨_,rfl⟩;have hTn:(T:Int)=n+1:=(by omega);refine⟨rfl,fun c1 c2=>?_⟩;unfold rnO;rw [hT];(conv=>whnf)
 refine⟨fun q e h nx=>∃ (i:Nat) (j:Int),j=i∧i≤T∧q=T - i ∧
  ((vZ m f i=[]∧e=sK f (.slice none 0 0) j∧h=r6 l m c1 c2 n∧nx=3) ∨
   (0<(vZ m f i).length∧e=sK f (.slice (some ⟨3,0,none⟩) (vZ m f i).length (vZ m f i).length) j∧h=(3,.cells true false 1 (flat aN.fl (vZ m f i)))::r6 l m c1 c2 n∧nx=4)),⟨T,?_⟩,?_⟩
 ·refine aM (e0:=sK f (.slice none 0 0) 0) (h0:=r6 l m c1 c2 n) (n0:=3) ⟨0,0,rfl,Nat.zero_le _,rfl,.inl ⟨rfl,rfl,rfl,rfl⟩⟩ ?_ ?_ (by decide)
  ·unfold sK;((repeat' refine iE rfl rfl ?_);exact iN)
  ·unfold r6 aY aD;((repeat'(first|refine iF rfl rfl ?_|refine iC rfl rfl rfl ?_|refine iJ rfl rfl rfl rfl ?_));exact iN)
 ·rintro q e h nx ⟨i,j,hj,hi,rfl,hx⟩;have hle:=KJ m f i;rcases hx with ⟨hnil,rfl,rfl,rfl⟩|⟨hpos,rfl,rfl,rfl⟩
  ·unfold sK r6 aY aD;((conv=>whnf);refine bm (fun m1=>?_) (fun m1=>?_))
   ·have m1:j≤n:=(by simp [aA,aB] at m1;omega);((conv=>whnf);refine bm (fun m2=>?_) (fun m2=>?_))
    ·have m2:j≠f:=(by simpa [aA,aB] using m2);(conv=>whnf);refine⟨_,_,_,[iv j,iv f],l,m,rfl,aC aP rfl,aC aS rfl,?_⟩;refine aJ (decide_eq_true hm) ?_;cases hO:jR (vP j f) m m.length with
     |nil =>
      have hr:ND m f i=false:=(by unfold ND;rw [← hj,hO];exact Bool.and_false _);have hf:vZ m f (i+1)=[]:=(QB hr).trans hnil;(conv=>whnf);((conv=>whnf);refine bm (fun m3=>?_) (fun m3=>?_))
      ·(conv=>whnf);refine⟨T - (i+1),by omega,?_⟩;refine aM (e0:=sK f (.slice none 0 0) (j+1)) (h0:=r6 l m c1 c2 n) (n0:=3) ⟨i+1,j+1,by omega,by omega,rfl,.inl ⟨hf,rfl,rfl,rfl⟩⟩ ?_ ?_ (by decide)
       ·unfold sK;((repeat' refine iE rfl rfl ?_);exact iN)
       ·unfold r6 aY aD;((repeat'(first|refine iF rfl rfl ?_|refine iC rfl rfl rfl ?_|refine iJ rfl rfl rfl rfl ?_));exact iN)
      ·exfalso;simp [aA,aB,aI] at m3;omega
     |cons x t =>
      have hr:ND m f i=true:=(by unfold ND;rw [← hj,hO,decide_eq_true m2];rfl);have hf:vZ m f (i+1)=[j]:=(by rw [aBl hr,hnil,hj];rfl);(conv=>whnf)
      repeat' (((conv=>whnf);refine bm (fun g=>?_) (fun g=>?_)))
      all_goals (conv=>whnf)
      all_goals first
       |(refine⟨T - (i+1),by omega,?_⟩
         refine gM (e0:=sK f (.slice (some ⟨3,0,none⟩) 1 1) (j+1)) (h0:=(3,.cells true false 1 (flat aN.fl [j]))::r6 l m c1 c2 n) (n0:=4) 3 5 (by decide) (by decide) ⟨i+1,j+1,by omega,by omega,rfl,.inr ⟨by rw [hf];exact Nat.one_pos,by rw [hf];rfl,by rw [hf];rfl,rfl⟩⟩ ?_ ?_ ?_
         ·unfold sK;((repeat' refine iE rfl rfl ?_);exact iN)
         ·unfold r6 aY aD;((repeat'(first|refine iF rfl rfl ?_|refine iC rfl rfl rfl ?_|refine iJ rfl rfl rfl rfl ?_));exact iN)
         ·unfold r6;((repeat' refine iK rfl ?_);exact iN))
       |(exfalso;clear hf;simp [aA,aB,aI] at*<;> first|omega|(simp_all;done)|(simp_all;omega))
    ·have m2:j=f:=(by simpa [aA,aB] using m2);have hr:ND m f i=false:=(by unfold ND;rw [← hj,decide_eq_false (by omega)];rfl);have hf:vZ m f (i+1)=[]:=(QB hr).trans hnil;((conv=>whnf);refine bm (fun m3=>?_) (fun m3=>?_))
     ·(conv=>whnf);refine⟨T - (i+1),by omega,?_⟩;refine aM (e0:=sK f (.slice none 0 0) (j+1)) (h0:=r6 l m c1 c2 n) (n0:=3) ⟨i+1,j+1,by omega,by omega,rfl,.inl ⟨hf,rfl,rfl,rfl⟩⟩ ?_ ?_ (by decide)
      ·unfold sK;((repeat' refine iE rfl rfl ?_);exact iN)
      ·unfold r6 aY aD;((repeat'(first|refine iF rfl rfl ?_|refine iC rfl rfl rfl ?_|refine iJ rfl rfl rfl rfl ?_));exact iN)
     ·exfalso;simp [aA,aB,aI] at m3;omega
   ·have hil:i=T:=(by simp [aA,aB] at m1;omega);(conv=>whnf);rw [← hil,hnil];rfl
  ·unfold sK r6 aY aD;have hlen:(flat aN.fl (vZ m f i)).length=(vZ m f i).length:=(by rw [bD];show _*1=_;omega);((conv=>whnf);refine bm (fun m1=>?_) (fun m1=>?_))
   ·have m1:j≤n:=(by simp [aA,aB] at m1;omega);((conv=>whnf);refine bm (fun m2=>?_) (fun m2=>?_))
    ·have m2:j≠f:=(by simpa [aA,aB] using m2);(conv=>whnf);refine⟨_,_,_,[iv j,iv f],l,m,rfl,aC aP rfl,aC aS rfl,?_⟩;refine aJ (decide_eq_true hm) ?_;cases hO:jR (vP j f) m m.length with
     |nil =>
      have hr:ND m f i=false:=(by unfold ND;rw [← hj,hO];exact Bool.and_false _);have hf:vZ m f (i+1)=vZ m f i:=QB hr;generalize vZ m f i=X at *;(conv=>whnf);((conv=>whnf);refine bm (fun m3=>?_) (fun m3=>?_))
      ·(conv=>whnf);refine⟨T - (i+1),by omega,?_⟩;refine aM (e0:=sK f (.slice (some ⟨3,0,none⟩) X.length X.length) (j+1)) (h0:=(3,.cells true false 1 (flat aN.fl X))::r6 l m c1 c2 n) (n0:=4) ⟨i+1,j+1,by omega,by omega,rfl,.inr ⟨by rw [hf];exact hpos,by rw [hf];rfl,by rw [hf];rfl,rfl⟩⟩ ?_ ?_ (by decide)
       ·unfold sK;((repeat' refine iE rfl rfl ?_);exact iN)
       ·unfold r6 aY aD;((repeat'(first|refine iF rfl rfl ?_|refine iC rfl rfl rfl ?_|refine iJ rfl rfl rfl rfl ?_));exact iN)
      ·exfalso;simp [aA,aB,aI] at m3;omega
     |cons x t =>
      have hr:ND m f i=true:=(by unfold ND;rw [← hj,hO,decide_eq_true m2];rfl);have hf:vZ m f (i+1)=vZ m f i++[j]:=(by rw [aBl hr,hj]);generalize vZ m f i=X at *;(conv=>whnf)
      repeat' (((conv=>whnf);refine bm (fun g=>?_) (fun g=>?_)))
      all_goals (conv=>whnf)
      all_goals first
       |(refine⟨T - (i+1),by omega,?_⟩
         refine gM (e0:=sK f (.slice (some ⟨3,0,none⟩) (X.length+1) (X.length+1)) (j+1)) (h0:=(3,.cells true false 1 (flat aN.fl (X++[j])))::r6 l m c1 c2 n) (n0:=4) 3 6 (by decide) (by decide) ⟨i+1,j+1,by omega,by omega,rfl,.inr ⟨by rw [hf,List.length_append];exact Nat.succ_pos _,by rw [hf,List.length_append];rfl,by rw [hf];rfl,rfl⟩⟩ ?_ ?_ ?_
         ·unfold sK;((repeat' refine iE rfl rfl ?_);exact iN)
         ·unfold r6 aY aD;((repeat'(first|refine iW rfl rfl (aZ (aG aN _) (eL aN X j rfl)) ?_|refine iF rfl rfl ?_|refine iC rfl rfl rfl ?_|refine iJ rfl rfl rfl rfl ?_));exact iN)
         ·unfold r6;((repeat' refine iK rfl ?_);exact iN))
       |exact nW (s:=1) (by omega) (by omega) (by assumption)
       |(exfalso;rename_i g;have:=Nat.le_of_ble_eq_true g;omega)
       |(exfalso;clear hf;simp [aA,aB,aI] at*<;> first|omega|(simp_all;done)|(simp_all;omega))
    ·have m2:j=f:=(by simpa [aA,aB] using m2);have hr:ND m f i=false:=(by unfold ND;rw [← hj,decide_eq_false (by omega)];rfl);have hf:vZ m f (i+1)=vZ m f i:=QB hr;generalize vZ m f i=X at *;((conv=>whnf);refine bm (fun m3=>?_) (fun m3=>?_))
     ·(conv=>whnf);refine⟨T - (i+1),by omega,?_⟩;refine aM (e0:=sK f (.slice (some ⟨3,0,none⟩) X.length X.length) (j+1)) (h0:=(3,.cells true false 1 (flat aN.fl X))::r6 l m c1 c2 n) (n0:=4) ⟨i+1,j+1,by omega,by omega,rfl,.inr ⟨by rw [hf];exact hpos,by rw [hf];rfl,by rw [hf];rfl,rfl⟩⟩ ?_ ?_ (by decide)
      ·unfold sK;((repeat' refine iE rfl rfl ?_);exact iN)
      ·unfold r6 aY aD;((repeat'(first|refine iF rfl rfl ?_|refine iC rfl rfl rfl ?_|refine iJ rfl rfl rfl rfl ?_));exact iN)
     ·exfalso;simp [aA,aB,aI] at m3;omega
   ·have hil:i=T:=(by simp [aA,aB] at m1;omega);(conv=>whnf);rw [← hil];have:=gP aN (l:=vZ m f i) (e:=none) (h:=(3,.cells true false 1 (flat aN.fl (vZ m f i)))::r6 l m c1 c2 n) (q:=3) (nx:=4) hpos rfl;exact this
end Go.Aw
end

noncomputable section
namespace Go.Aw
set_option maxRecDepth 100000
theorem WH:∀ {a b:List Int},a.Pairwise (·<·)→b.Pairwise (·<·)→(∀ x,x∈a↔x∈b)→a=b
 |[],[],_,_,_=>rfl
 |[],y::s,_,_,h=>by have:=(h y).2 (.head _);cases this
 |x::r,[],_,_,h=>by have:=(h x).1 (.head _);cases this
 |x::r,y::s,ha,hb,h=>by
  obtain⟨a1,a2⟩:=List.pairwise_cons.1 ha;obtain⟨b1,b2⟩:=List.pairwise_cons.1 hb;have e:x=y:=by
   have hx:=(h x).1 (.head _);have hy:=(h y).2 (.head _);rcases List.mem_cons.1 hx with e|hx
   ·exact e
   ·rcases List.mem_cons.1 hy with e|hy
    ·exact e.symm
    ·have:=b1 x hx;have:=a1 y hy;omega
  subst e;rw [WH a2 b2 fun z=>?_];constructor
  ·intro hz;rcases List.mem_cons.1 ((h z).1 (.tail _ hz)) with e|h2
   ·have:=a1 z hz;omega
   ·exact h2
  ·intro hz;rcases List.mem_cons.1 ((h z).2 (.tail _ hz)) with e|h2
   ·have:=b1 z hz;omega
   ·exact h2
theorem DT {l:List Int}{k:Nat}(h:k<l.length):aK l k∈l:=by rw [dR h];exact List.getElem_mem h
theorem DH {l:List Int}{x:Int}(h:x∈l):∃ k,k<l.length∧aK l k=x:=by
 obtain⟨k,hk,e⟩:=List.getElem_of_mem h;exact⟨k,hk,by rw [dR hk];exact e⟩
theorem W8 {Z:List Int}(hZ:Z.Pairwise (·≤·)):∀ p,p≤Z.length→(iS Z p).Pairwise (·<·)∧(∀ x∈iS Z p,∃ k,k<p∧aK Z k=x)∧(∀ k,k<p→aK Z k∈iS Z p)
 |0,_=>⟨.nil,fun _ h=>by (cases h),fun k h=>by omega⟩
 |p+1,hp=>by
  obtain⟨h1,h2,h3⟩:=W8 hZ p (by omega);have hle:∀ k,k<p→aK Z k≤aK Z p:=fun k hk=>by
   rw [dR (show k<Z.length by omega),dR (show p<Z.length by omega)];exact List.pairwise_iff_getElem.1 hZ k p (by omega) (by omega) hk
  by_cases hc:p=0∨MO (aK Z p) (aK Z (p - 1))=false
  ·have e:iS Z (p+1)=iS Z p++[aK Z p]:=(by conv=>lhs;unfold iS;rw [if_pos hc]);rw [e];refine⟨List.pairwise_append.2 ⟨h1,List.pairwise_singleton _ _,fun a ha b hb=>?_⟩,fun x hx=>?_,fun k hk=>?_⟩
   ·simp only [List.mem_cons,List.not_mem_nil,or_false] at hb;subst hb;obtain⟨k,hk,rfl⟩:=h2 a ha;rcases hc with hc|hc
    ·omega
    ·have hne:aK Z p≠aK Z (p - 1):=of_decide_eq_false hc;have e1:=hle (p - 1) (by omega);have e2:aK Z k≤aK Z (p - 1):=by
      rcases Nat.lt_or_ge k (p - 1) with hk2|hk2
      ·rw [dR (show k<Z.length by omega),dR (show p - 1<Z.length by omega)];exact List.pairwise_iff_getElem.1 hZ k (p - 1) (by omega) (by omega) hk2
      ·rw [show k=p - 1 by omega];exact Int.le_refl _
     omega
   ·rcases List.mem_append.1 hx with hx|hx
    ·obtain⟨k,hk,e2⟩:=h2 x hx;exact⟨k,by omega,e2⟩
    ·simp only [List.mem_cons,List.not_mem_nil,or_false] at hx;exact⟨p,by omega,hx.symm⟩
   ·by_cases e2:k=p
    ·subst e2;exact List.mem_append_right _ (.head _)
    ·exact List.mem_append_left _ (h3 k (by omega))
  ·have hc1:0<p:=by
    rcases Nat.eq_zero_or_pos p with h|h
    ·exact absurd (.inl h) hc
    ·exact h
   have hc2:MO (aK Z p) (aK Z (p - 1))=true:=by
    cases hb:MO (aK Z p) (aK Z (p - 1)) with
    |true=>rfl
    |false=>exact absurd (.inr hb) hc
   rw [FV hc1 hc2];refine⟨h1,fun x hx=>?_,fun k hk=>?_⟩
   ·obtain⟨k,hk,e2⟩:=h2 x hx;exact⟨k,by omega,e2⟩
   ·by_cases e2:k=p
    ·subst e2;rw [show aK Z k=aK Z (k - 1) from of_decide_eq_true hc2];exact h3 (k - 1) (by omega)
    ·exact h3 k (by omega)
theorem aCO (l:List Int):(iS (kU l) (kU l).length).Pairwise (·<·)∧∀ x,x∈iS (kU l) (kU l).length↔x∈l:=by
 obtain⟨h1,h2,h3⟩:=W8 (LX l) _ (Nat.le_refl _);refine⟨h1,fun x=>?_⟩;rw [← (S4 l).mem_iff];constructor
 ·intro hx;obtain⟨k,hk,rfl⟩:=h2 x hx;exact DT hk
 ·intro hx;obtain⟨k,hk,rfl⟩:=DH hx;exact h3 k hk
theorem N7 {P:Ed→Bool}{m:List Ed}:∀ i,i≤m.length→(0<(jR P m i).length↔∃ k,k<i∧P (cO m k)=true)
 |0,_=>by constructor <;> intro h;(exact absurd h (Nat.lt_irrefl 0));(obtain⟨k,hk,_⟩:=h;omega)
 |i+1,h=>by
  have ih:=N7 (P:=P) (m:=m) i (by omega);cases hp:P (cO m i) with
  |true =>
   rw [TH hp,List.length_append];exact⟨fun _=>⟨i,by omega,hp⟩,fun _=>Nat.succ_pos _⟩
  |false =>
   rw [SJ hp,ih];constructor
   ·rintro ⟨k,hk,h2⟩;exact⟨k,by omega,h2⟩
   ·rintro ⟨k,hk,h2⟩;refine⟨k,?_,h2⟩;rcases Nat.lt_or_ge k i with h3|h3
    ·exact h3
    ·rw [show k=i by omega,hp] at h2;cases h2
theorem WR {m:List Ed}{f x:Int}:∀ i,(x∈AF m f i↔∃ k,k<i∧x∈XY f (cO m k))
 |0=>by constructor <;> intro h;(cases h);(obtain⟨k,hk,_⟩:=h;omega)
 |i+1=>by
  rw [UD,List.mem_append,WR i];constructor
  ·rintro (⟨k,hk,h⟩|h)
   ·exact⟨k,by omega,h⟩
   ·exact⟨i,by omega,h⟩
  ·rintro ⟨k,hk,h⟩;rcases Nat.lt_or_ge k i with h3|h3
   ·exact .inl ⟨k,h3,h⟩
   ·rw [show k=i by omega] at h;exact .inr h
theorem V6 {f x:Int}{e:Ed}:x∈XY f e↔(x≠f∧vP x f e=true):=by
 unfold XY vP;simp only [Bool.or_eq_true,Bool.and_eq_true,decide_eq_true_eq];split
 ·rename_i h;simp only [List.mem_cons,List.not_mem_nil,or_false];omega
 ·split
  ·rename_i h1 h;simp only [List.mem_cons,List.not_mem_nil,or_false];omega
  ·rename_i h1 h2;simp only [List.not_mem_nil,false_iff];omega
theorem V1 (m:List Ed)(f:Int):∀ i,(vZ m f i).Pairwise (·<·)∧∀ x:Int,x∈vZ m f i↔(0≤x∧x<i∧ND m f x=true)
 |0=>⟨.nil,fun x=>by constructor;(intro h;cases h);(rintro ⟨h1,h2,_⟩;omega)⟩
 |i+1=>by
  obtain⟨h1,h2⟩:=V1 m f i;cases hr:ND m f i with
  |true =>
   rw [aBl hr];refine⟨List.pairwise_append.2 ⟨h1,List.pairwise_singleton _ _,fun a ha b hb=>?_⟩,fun x=>?_⟩
   ·simp only [List.mem_cons,List.not_mem_nil,or_false] at hb;subst hb;exact ((h2 a).1 ha).2.1
   ·rw [List.mem_append,h2];simp only [List.mem_cons,List.not_mem_nil,or_false];constructor
    ·rintro (⟨a1,a2,a3⟩|rfl)
     ·exact⟨a1,by omega,a3⟩
     ·exact⟨by omega,by omega,hr⟩
    ·rintro ⟨a1,a2,a3⟩;by_cases e:x=i
     ·exact .inr e
     ·exact .inl ⟨a1,by omega,a3⟩
  |false =>
   rw [QB hr];refine⟨h1,fun x=>?_⟩;rw [h2];constructor
   ·rintro ⟨a1,a2,a3⟩;exact⟨a1,by omega,a3⟩
   ·rintro ⟨a1,a2,a3⟩;refine⟨a1,?_,a3⟩;by_cases e:x=i
    ·rw [e,hr] at a3;cases a3
    ·omega
section
variable {l:List Pt}{m:List Ed}{n:Int}
theorem QC (hok:cX l m n=true):∀ d,d≤2*m.length→∀ i,i<2*m.length→0≤aK (cC l (aR l m m.length) (outs l m) d).face i∧aK (cC l (aR l m m.length) (outs l m) d).face i≤(cC l (aR l m m.length) (outs l m) d).many
 |0,_,i,hi=>by
  unfold cC aK;rw [List.getD_eq_getElem?_getD,List.getElem?_replicate,bI,if_pos hi];exact⟨Int.le_refl _,Int.le_refl _⟩
 |d+1,h,i,hi=>by
  have ih:=QC hok d (by omega) i hi;have hinv:=nK l (aR l m m.length) (outs l m) d;rw [bI] at hinv;rw [show cC l (aR l m m.length) (outs l m) (d+1)=kG l (aR l m m.length) (outs l m) (cC l (aR l m m.length) (outs l m) d) d from rfl];generalize cC l (aR l m m.length) (outs l m) d=t at *;unfold kG;split
  ·exact ih
  ·simp only;have hin:=tL hok (d:=(d:Int)) (by omega) (by omega);have hr:∀ k,k<(qT (aR l m m.length) (outs l m) d).length→(aK (qT (aR l m m.length) (outs l m) d) k).toNat<t.face.length:=fun k hk=>by
    rw [hinv.1];rw [xB] at hk;rw [MD hk];have:=hin k;omega
   generalize qT (aR l m m.length) (outs l m) d=W at *;generalize HR l (aR l m m.length) W W.length=A;have hs:=oP t.face W (if 0<A then t.many+1 else 0) hr i _ (Nat.le_refl _);by_cases hc:∃ k,k<W.length∧(aK W k).toNat=i
   ·rw [hs.1 hc];split <;> omega
   ·rw [hs.2 hc];split <;> omega
theorem rI (ho:cF l m n=true){i:Nat}(hi:i<2*m.length):0≤aK (cE l m).face i∧aK (cE l m).face i≤n:=by
 have ho':=ho;simp only [cF,gG,Bool.and_eq_true,decide_eq_true_eq] at ho';have:=QC ho'.1.1 (2*m.length) (Nat.le_refl _) i hi;have e:cC l (aR l m m.length) (outs l m) (2*m.length)=cE l m:=(by unfold cE nmD;rw [bI]);rw [e,ho'.2.2.2.1] at this;exact this
theorem aDO (ho:cF l m n=true){i:Nat}(hi:i<m.length):(cO m i).l=aK (cE l m).face (2*i)∧(cO m i).r=aK (cE l m).face (2*i+1):=by
 simp only [cF,Bool.and_eq_true] at ho;have:=fG ho.2.2.2.2 hi;simpa only [DA,Bool.and_eq_true,decide_eq_true_eq] using this
theorem aA5 (ho:cF l m n=true){i:Nat}(hi:i<m.length):(0≤(cO m i).l∧(cO m i).l≤n)∧(0≤(cO m i).r∧(cO m i).r≤n):=by
 obtain⟨e1,e2⟩:=aDO ho hi;rw [e1,e2];exact⟨rI ho (by omega),rI ho (by omega)⟩
theorem aAR (ho:cF l m n=true):1≤n∧n≤100:=(iI (lL ho)).2.2.2.2.2
theorem aFU (ho:cF l m n=true)(f:Int):RT m f=rnO m n f:=by
 have hn:=aAR ho;obtain⟨d1,d2⟩:=aCO (AF m f m.length);obtain⟨r1,r2⟩:=V1 m f (n+1).toNat;refine WH d1 r1 fun x=>?_;unfold rnO;rw [show (x∈RT m f)=(x∈iS (kU (AF m f m.length)) (kU (AF m f m.length)).length) from rfl,d2,WR,r2];simp only [ND,Bool.and_eq_true,decide_eq_true_eq,N7 m.length (Nat.le_refl _)];constructor
 ·rintro ⟨k,hk,hx⟩;obtain⟨a1,a2⟩:=V6.1 hx;obtain⟨b1,b2⟩:=aA5 ho hk;have a3:=a2;simp only [vP,Bool.or_eq_true,Bool.and_eq_true,decide_eq_true_eq] at a3;exact⟨by omega,by omega,a1,k,hk,a2⟩
 ·rintro ⟨h1,h2,h3,k,hk,h4⟩;exact⟨k,hk,V6.2 ⟨h3,h4⟩⟩
end
end Go.Aw
end

noncomputable section
namespace Go.Aw
set_option maxRecDepth 100000
set_option maxHeartbeats 2000000
def aFd:Nat × XF:=(46,mRX nbP)
theorem aKB:cH Go.Proofs.Tryz.prog aFd.1 aFd.2:=BH (aL (xl:=[aDF,X85,aCt]) (.cons aKp (.cons x85 (.cons aJY .nil)))) fun l m n r out e hs=>by
 obtain⟨f,rfl,hlm,rfl,rfl⟩:=EE hs;clear hs;have hfb:j5 l m n f=(cF l m n&&pT n f):=rfl;refine⟨rfl,fun c1 c2=>?_⟩;generalize hQ:Yields aN (if j5 l m n f=true then RT m f else []) (some (if j5 l m n f=true then 0 else 1))=Q;(conv=>whnf);refine⟨l,m,aC aP rfl,aC aS rfl,?_⟩;refine aJ (smB hlm) ?_;cases ho:cF l m n with
 |false =>
  rw [ho,Bool.false_and] at hfb;(conv=>whnf);rw [← hQ,hfb];rfl
 |true =>
  rw [ho,Bool.true_and] at hfb;have hn:=aAR ho;(conv=>whnf);refine⟨l,m,aC aP rfl,aC aS rfl,?_⟩;(conv=>whnf);cases hb:pT n f with
  |false =>
   rw [hb] at hfb;(conv=>whnf);rw [← hQ,hfb];rfl
  |true =>
   rw [hb] at hfb;rw [hfb,if_pos rfl,if_pos rfl,aFU ho] at hQ;generalize hO:rnO m n f=O at *;(conv=>whnf);refine⟨_,_,_,[iv f],l,m,rfl,aC aP rfl,aC aS rfl,?_⟩;rw [show aHT l m n [iv f]=some (decide (m.length≤1000)&&decide (0≤n)&&decide (n≤1000),O,none) from by rw [← hO];rfl];refine aJ (by rw [decide_eq_true hlm.2,decide_eq_true (by omega),decide_eq_true (by omega)];rfl) ?_;cases O with
   |nil=>(conv=>whnf);rw [← hQ];rfl
   |cons x t =>
    (conv=>whnf);rw [← hQ];exact gP aN (l:=x::t) (e:=some 0) (nx:=0) (Nat.succ_pos _) rfl
def aHU:Nat × XF:=(48,mRX tcP)
theorem aMA:cH Go.Proofs.Tryz.prog aHU.1 aHU.2:=BH (aL (xl:=[aFd]) (.cons aKB .nil)) fun l m n r out e hs=>by
 cases r with
 |cons a t=>cases hs
 |nil =>
  refine⟨rfl,fun c1 c2=>?_⟩;(conv=>whnf);refine⟨_,_,_,[iv 0],l,m,rfl,aC aP rfl,aC aS rfl,?_⟩;rw [show nbP l m n [iv 0]=some (true,out,e) from hs];refine aJ rfl ?_;obtain⟨f,_,_,_,he⟩:=EE (show nbP l m n [iv 0]=some (true,out,e) from hs);subst he;cases out with
  |nil=>(conv=>whnf);rfl
  |cons x t =>
   (conv=>whnf);exact gP aN (l:=x::t) (e:=some (if j5 l m n f=true then 0 else 1)) (nx:=0) (Nat.succ_pos _) rfl
end Go.Aw
end
