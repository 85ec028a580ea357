/-
  Parts of a proof. No condition.
-/
import Derived.Test.YtjahkcbdecgbhaaGreatQBm
import Derived.Test.YtjahkcbdecgbhaaGreatQBn
set_option linter.unusedSimpArgs false
set_option linter.unusedVariables false
noncomputable section
namespace Go.Aw
set_option maxRecDepth 100000
set_option maxHeartbeats 2000000
def UB (f:Int)(e:Ed):List Int:=if e.l=f∧e.r≠f then [e.r] else if e.r=f∧e.l≠f then [e.l] else []
def wD (m:List Ed)(f:Int):Nat→List Int
 |0=>[]
 |i+1=>wD m f i++UB f (cX m i)
theorem VL (m:List Ed)(f:Int)(i:Nat):wD m f (i+1)=wD m f i++UB f (cX m i):=rfl
theorem aDA (f:Int)(e:Ed):(UB f e).length≤1:=by
 unfold UB;split
 ·exact Nat.le_refl _
 ·split
  ·exact Nat.le_refl _
  ·exact Nat.zero_le _
theorem K9 (m:List Ed)(f:Int):∀ i,(wD m f i).length≤i
 |0=>Nat.le_refl _
 |i+1=>by
  have:=K9 m f i;have:=aDA f (cX m i);rw [VL,List.length_append];omega
theorem XK:j0 []=[]:=by unfold j0;simp
theorem TY (l:List Int):∀ {p},0<p→0<(gV l p).length
 |1,_=>by show 0<([]++_).length;rw [if_pos (.inl rfl)];exact Nat.one_pos
 |p+2,_=>by
  have:=TY l (p:=p+1) (Nat.succ_pos _);show 0<(gV l (p+1)++_).length;rw [List.length_append];omega
def c7 (m:List Ed)(f:Int):List Int:=gV (j0 (wD m f m.length)) (j0 (wD m f m.length)).length
def aGH (args0:List Value)(h0:Heap)(n0:Nat)(out:List Int)(e:Option Int):Prop :=
 ∃ nP m nD nL c1 c2 n fo f,args0=[pV 0,iv f]∧h0=fA [] nP m nD nL c1 c2 n fo∧n0=2000∧out=c7 m f∧e=none∧m.length≤1000
def qR (f:Int)(v:Value)(N c2:Nat)(j:Int):List (Nat × Value):=[(1,iv f),(5,v),(12,.slice (some ⟨5,0,none⟩) N c2),(13,iv N),(14,iv j)]
theorem aIK {args0:List Value}{h0:Heap}{n0:Nat}{out:List Int}{e:Option Int}(h:aGH args0 h0 n0 out e):body [(134,sIn),(202,cIn)] 124 args0 h0 n0 (Yields aL out e):=by
 obtain⟨nP,m,nD,nL,c1,c2,n,fo,f,rfl,rfl,rfl,rfl,rfl,sm⟩:=h;have hok:y6 (fA [] nP m nD nL c1 c2 n fo) 2000:=Y9 (fun k o hk=>by cases hk);have hN:∀ k,2000≤k→look (fA [] nP m nD nL c1 c2 n fo) k=none:=fun k hk=>bQ hok hk;(conv=>whnf)
 refine⟨fun q e h nx=>∃ (i:Nat) (j:Int),j=i∧i≤m.length∧q=m.length - i ∧
  ((wD m f i=[]∧e=qR f (.slice none 0 0) m.length c2 j∧h=fA [] nP m nD nL c1 c2 n fo∧nx=2000) ∨
   (0<(wD m f i).length∧e=qR f (.slice (some ⟨2000,0,none⟩) (wD m f i).length (wD m f i).length) m.length c2 j∧h=[(2000,.cells true false 1 (flat aL.fl (wD m f i)))]++fA [] nP m nD nL c1 c2 n fo∧nx=2001)),⟨m.length,?_⟩,?_⟩
 ·refine aW (P:=[]) (W:=fA [] nP m nD nL c1 c2 n fo) (e0:=qR f (.slice none 0 0) m.length c2 0) (n0:=2000) [] ⟨0,0,rfl,Nat.zero_le _,rfl,.inl ⟨rfl,rfl,rfl,rfl⟩⟩ ?_ hok (fun _ _ h=>h) (fun _ h=>by cases h) (fun _ h=>by cases h) (fun _ h=>by cases h) (by omega);unfold qR;((repeat' refine iE rfl rfl ?_);exact iN)
 ·rintro q e h nx ⟨i,j,hj,hi,rfl,hx⟩;rcases hx with ⟨hnil,rfl,rfl,rfl⟩|⟨hpos,rfl,rfl,rfl⟩
  ·unfold qR fA;((conv=>whnf);refine bm (fun m1=>?_) (fun m1=>?_))
   ·have hil:i<m.length:=(by simp [aA,aF] at m1;omega);((conv=>whnf);refine bm (fun m2=>?_) (fun m2=>?_))
    ·(conv=>whnf);refine IF (YH m (i:=i) hil ?_) ?_
     ·show _+Int.toNat j*5=_;omega
     have hs:=VL m f i;rw [hnil,List.nil_append] at hs;generalize cX m i=E at *;by_cases h1:E.l=f∧E.r≠f
     ·have hf:wD m f (i+1)=[E.r]:=by rw [hs];unfold UB;rw [if_pos h1]
      repeat' (((conv=>whnf);refine bm (fun g=>?_) (fun g=>?_)))
      all_goals (conv=>whnf)
      all_goals first
       |(refine⟨m.length - (i+1),by omega,?_⟩
         refine aW (P:=[(2000,.cells true false 1 (flat aL.fl [E.r]))]) (W:=fA [] nP m nD nL c1 c2 n fo) (e0:=qR f (.slice (some ⟨2000,0,none⟩) 1 1) m.length c2 (j+1)) (n0:=2001) [(2000,2002)] ⟨i+1,j+1,by omega,by omega,rfl,.inr ⟨by rw [hf];exact Nat.one_pos,by rw [hf];rfl,by rw [hf];rfl,rfl⟩⟩ ?_ hok ?_ ?_ ?_ ?_ (by omega)
         ·unfold qR;((repeat' refine iE rfl rfl ?_);exact iN)
         ·exact aN (aN (a8 (aN (fun _ _ h=>h) (hN _ (by decide))) (hN _ (by decide))) (hN _ (by decide))) (hN _ (by decide))
         ·exact List.forall_mem_cons.2 ⟨⟨.inl ⟨Nat.le_of_ble_eq_true rfl,Nat.le_of_ble_eq_true rfl,Nat.le_of_ble_eq_true rfl⟩,_,rfl,bG (aE _ _) rfl⟩,fun _ h=>by cases h⟩
         ·show ∀ k∈[2000],∀ k'∈[2000],_;decide
         ·exact fun p h=>by rcases List.mem_cons.1 h with rfl|h;exact Nat.le_refl _;cases h)
       |(exfalso;clear hs;simp [aA,aF,aI] at *;first|omega|(simp_all;done)|(simp_all;omega))
     ·by_cases h2:E.r=f∧E.l≠f
      ·have hf:wD m f (i+1)=[E.l]:=by rw [hs];unfold UB;rw [if_neg h1,if_pos h2]
       repeat' (((conv=>whnf);refine bm (fun g=>?_) (fun g=>?_)))
       all_goals (conv=>whnf)
       all_goals first
        |(refine⟨m.length - (i+1),by omega,?_⟩
          refine aW (P:=[(2000,.cells true false 1 (flat aL.fl [E.l]))]) (W:=fA [] nP m nD nL c1 c2 n fo) (e0:=qR f (.slice (some ⟨2000,0,none⟩) 1 1) m.length c2 (j+1)) (n0:=2001) [(2000,2002)] ⟨i+1,j+1,by omega,by omega,rfl,.inr ⟨by rw [hf];exact Nat.one_pos,by rw [hf];rfl,by rw [hf];rfl,rfl⟩⟩ ?_ hok ?_ ?_ ?_ ?_ (by omega)
          ·unfold qR;((repeat' refine iE rfl rfl ?_);exact iN)
          ·exact aN (aN (a8 (aN (fun _ _ h=>h) (hN _ (by decide))) (hN _ (by decide))) (hN _ (by decide))) (hN _ (by decide))
          ·exact List.forall_mem_cons.2 ⟨⟨.inl ⟨Nat.le_of_ble_eq_true rfl,Nat.le_of_ble_eq_true rfl,Nat.le_of_ble_eq_true rfl⟩,_,rfl,bG (aE _ _) rfl⟩,fun _ h=>by cases h⟩
          ·show ∀ k∈[2000],∀ k'∈[2000],_;decide
          ·exact fun p h=>by rcases List.mem_cons.1 h with rfl|h;exact Nat.le_refl _;cases h)
        |(exfalso;clear hs;simp [aA,aF,aI] at *;first|omega|(simp_all;done)|(simp_all;omega))
      ·have hf:wD m f (i+1)=[]:=by rw [hs];unfold UB;rw [if_neg h1,if_neg h2]
       repeat' (((conv=>whnf);refine bm (fun g=>?_) (fun g=>?_)))
       all_goals (conv=>whnf)
       all_goals first
        |(refine⟨m.length - (i+1),by omega,?_⟩
          refine aW (P:=[]) (W:=fA [] nP m nD nL c1 c2 n fo) (e0:=qR f (.slice none 0 0) m.length c2 (j+1)) (n0:=2000) [] ⟨i+1,j+1,by omega,by omega,rfl,.inl ⟨hf,rfl,rfl,rfl⟩⟩ ?_ hok ?_ (fun _ h=>by cases h) (fun _ h=>by cases h) (fun _ h=>by cases h) (by omega)
          ·unfold qR;((repeat' refine iE rfl rfl ?_);exact iN)
          ·exact a8 (aN (fun _ _ h=>h) (hN _ (by decide))) (hN _ (by decide)))
        |(exfalso;clear hs;simp [aA,aF,aI] at *;first|omega|(simp_all;done)|(simp_all;omega))
    ·exfalso;simp [aA,aF] at m2;omega
   ·have hil:i=m.length:=(by simp [aA,aF] at m1;omega);have ho:c7 m f=[]:=(by unfold c7;rw [← hil,hnil,XK];rfl);rw [ho];(conv=>whnf);refine .inr ?_;(conv=>whnf);refine .inr ?_;(conv=>whnf);rfl
  ·unfold qR fA;have hlen:(flat aL.fl (wD m f i)).length=(wD m f i).length:=(by rw [bJ];show _*1=_;omega);have hle:=K9 m f i;((conv=>whnf);refine bm (fun m1=>?_) (fun m1=>?_))
   ·have hil:i<m.length:=(by simp [aA,aF] at m1;omega);((conv=>whnf);refine bm (fun m2=>?_) (fun m2=>?_))
    ·(conv=>whnf);refine IF (YH m (i:=i) hil ?_) ?_
     ·show _+Int.toNat j*5=_;omega
     have hs:=VL m f i;generalize wD m f i=X at *;generalize cX m i=E at *;by_cases h1:E.l=f∧E.r≠f
     ·have hf:wD m f (i+1)=X++[E.r]:=by rw [hs];unfold UB;rw [if_pos h1]
      repeat' (((conv=>whnf);refine bm (fun g=>?_) (fun g=>?_)))
      all_goals (conv=>whnf)
      all_goals first
       |(refine⟨m.length - (i+1),by omega,?_⟩
         refine aW (P:=[(2000,.cells true false 1 (flat aL.fl (X++[E.r])))]) (W:=fA [] nP m nD nL c1 c2 n fo) (e0:=qR f (.slice (some ⟨2000,0,none⟩) (X.length+1) (X.length+1)) m.length c2 (j+1)) (n0:=2001) [(2000,2003)] ⟨i+1,j+1,by omega,by omega,rfl,.inr ⟨by rw [hf,List.length_append];exact Nat.succ_pos _,by rw [hf,List.length_append];rfl,by rw [hf];rfl,rfl⟩⟩ ?_ hok ?_ ?_ ?_ ?_ (by omega)
         ·unfold qR;((repeat' refine iE rfl rfl ?_);exact iN)
         ·exact aN (bN (aN (a8 (aN (ext_cons (fun _ _ h=>h) (hN _ (by decide))) (hN _ (by decide))) (hN _ (by decide))) (hN _ (by decide))) (hN _ (by decide))) (hN _ (by decide))
         ·exact List.forall_mem_cons.2 ⟨⟨.inl ⟨Nat.le_of_ble_eq_true rfl,Nat.le_of_ble_eq_true rfl,Nat.le_of_ble_eq_true rfl⟩,_,rfl,bG (aE aL _) (gQ aL X _ rfl)⟩,fun _ h=>by cases h⟩
         ·show ∀ k∈[2000],∀ k'∈[2000],_;decide
         ·exact fun p h=>by rcases List.mem_cons.1 h with rfl|h;exact Nat.le_refl _;cases h)
       |exact sN (s:=1) (by omega) (by omega) (by assumption)
       |(exfalso;rename_i g;have:=Nat.le_of_ble_eq_true g;omega)
       |(exfalso;clear hs;simp [aA,aF,aI] at *;first|omega|(simp_all;done)|(simp_all;omega))
     ·by_cases h2:E.r=f∧E.l≠f
      ·have hf:wD m f (i+1)=X++[E.l]:=by rw [hs];unfold UB;rw [if_neg h1,if_pos h2]
       repeat' (((conv=>whnf);refine bm (fun g=>?_) (fun g=>?_)))
       all_goals (conv=>whnf)
       all_goals first
        |(refine⟨m.length - (i+1),by omega,?_⟩
          refine aW (P:=[(2000,.cells true false 1 (flat aL.fl (X++[E.l])))]) (W:=fA [] nP m nD nL c1 c2 n fo) (e0:=qR f (.slice (some ⟨2000,0,none⟩) (X.length+1) (X.length+1)) m.length c2 (j+1)) (n0:=2001) [(2000,2003)] ⟨i+1,j+1,by omega,by omega,rfl,.inr ⟨by rw [hf,List.length_append];exact Nat.succ_pos _,by rw [hf,List.length_append];rfl,by rw [hf];rfl,rfl⟩⟩ ?_ hok ?_ ?_ ?_ ?_ (by omega)
          ·unfold qR;((repeat' refine iE rfl rfl ?_);exact iN)
          ·exact aN (bN (aN (a8 (aN (ext_cons (fun _ _ h=>h) (hN _ (by decide))) (hN _ (by decide))) (hN _ (by decide))) (hN _ (by decide))) (hN _ (by decide))) (hN _ (by decide))
          ·exact List.forall_mem_cons.2 ⟨⟨.inl ⟨Nat.le_of_ble_eq_true rfl,Nat.le_of_ble_eq_true rfl,Nat.le_of_ble_eq_true rfl⟩,_,rfl,bG (aE aL _) (gQ aL X _ rfl)⟩,fun _ h=>by cases h⟩
          ·show ∀ k∈[2000],∀ k'∈[2000],_;decide
          ·exact fun p h=>by rcases List.mem_cons.1 h with rfl|h;exact Nat.le_refl _;cases h)
        |exact sN (s:=1) (by omega) (by omega) (by assumption)
        |(exfalso;rename_i g;have:=Nat.le_of_ble_eq_true g;omega)
        |(exfalso;clear hs;simp [aA,aF,aI] at *;first|omega|(simp_all;done)|(simp_all;omega))
      ·have hf:wD m f (i+1)=X:=by rw [hs];unfold UB;rw [if_neg h1,if_neg h2,List.append_nil]
       repeat' (((conv=>whnf);refine bm (fun g=>?_) (fun g=>?_)))
       all_goals (conv=>whnf)
       all_goals first
        |(refine⟨m.length - (i+1),by omega,?_⟩
          refine aW (P:=[(2000,.cells true false 1 (flat aL.fl X))]) (W:=fA [] nP m nD nL c1 c2 n fo) (e0:=qR f (.slice (some ⟨2000,0,none⟩) X.length X.length) m.length c2 (j+1)) (n0:=2001) [] ⟨i+1,j+1,by omega,by omega,rfl,.inr ⟨by rw [hf];exact hpos,by rw [hf];rfl,by rw [hf];rfl,rfl⟩⟩ ?_ hok ?_ ?_ ?_ (fun _ h=>by cases h) (by omega)
          ·unfold qR;((repeat' refine iE rfl rfl ?_);exact iN)
          ·exact a8 (aN (ext_cons (fun _ _ h=>h) (hN _ (by decide))) (hN _ (by decide))) (hN _ (by decide))
          ·exact List.forall_mem_cons.2 ⟨⟨.inl ⟨Nat.le_of_ble_eq_true rfl,Nat.le_of_ble_eq_true rfl,Nat.le_of_ble_eq_true rfl⟩,_,rfl,aK (aE _ _)⟩,fun _ h=>by cases h⟩
          ·show ∀ k∈[2000],∀ k'∈[2000],_;decide)
        |(exfalso;clear hs;simp [aA,aF,aI] at *;first|omega|(simp_all;done)|(simp_all;omega))
    ·exfalso;simp [aA,aF] at m2;omega
   ·have hil:i=m.length:=(by simp [aA,aF] at m1;omega);have ho:c7 m f=gV (j0 (wD m f i)) (j0 (wD m f i)).length:=(by unfold c7;rw [← hil]);rw [ho];(conv=>whnf);refine .inl ⟨wD m f i,rfl,rfl,by omega,hpos,?_⟩;have hsl:=tO (wD m f i);generalize j0 (wD m f i)=Z at *;rw [← hsl];(conv=>whnf);refine .inl ⟨Z,rfl,rfl,rfl,rfl,by omega,by omega,?_⟩;(conv=>whnf);have hd:0<(gV Z Z.length).length:=TY Z (by omega);exact mL aL (e:=none) (nx:=0) hd rfl
def aBn:Nat × XF:=(124,fun args h nx K=>∃ p l m n f,args=[pV p,iv f]∧WA h p l m n∧MI aL (c7 m f) none h nx K)
theorem aIB:dM Go.Proofs.Tryz.prog aBn.1 aBn.2:=by
 have h0:dM Go.Proofs.Tryz.prog 124 (yOf aL aGH):=JY aL (aO (xl:=[(134,sIn),(202,cIn)]) (.cons aIn (.cons aIe .nil))) fun _ _ _ _ _=>aIK;refine h0.mono ?_ ?_
 ·rintro args h nx K ⟨p,l,m,n,f,rfl,hw,hk⟩;obtain⟨nP,nD,nL,c1,c2,fo,hin⟩:=aIo (nx:=nx) hw (R:=[]) (ka:=0) (kb:=0) (F:=iv f) (F0:=iv f) (fun ρ e1 e2=>(r5 rfl).symm) (jC rfl) (fun ρ e1 e2 k o hk=>bY hk);exact CZ aL ⟨nP,m,nD,nL,c1,c2,n,fo,f,rfl,rfl,rfl,rfl,rfl,hw.sm.2⟩ hin hk
 ·rintro args h nx K ⟨p,l,m,n,f,rfl,hw,hk⟩;obtain⟨v,h',nx',h1,h2⟩:=GC hk;exact⟨v,h',nx',h1,fun K' hk'=>⟨p,l,m,n,f,rfl,hw,h2 K' hk'⟩⟩
def nbP (l:List Pt)(m:List Ed)(n:Int):List Value→Option (Bool × List Int × Option Int)
 |[.int .i64 f]=>some (decide (l.length≤1000)&&decide (m.length≤1000),if lO l m n f=true then c7 m f else [],some (if lO l m n f=true then 0 else 1))
 |_=>none
theorem aCu {l:List Pt}{m:List Ed}{n:Int}{r:List Value}{out:List Int}{e:Option Int}(hs:nbP l m n r=some (true,out,e)):∃ f,r=[iv f]∧(l.length≤1000∧m.length≤1000)∧out=(if lO l m n f=true then c7 m f else [])∧e=some (if lO l m n f=true then 0 else 1):=by
 unfold nbP at hs;split at hs
 ·injection hs with hs;injection hs with h1 h2;injection h2 with h2 h3;simp only [Bool.and_eq_true,decide_eq_true_eq] at h1;exact⟨_,rfl,h1,h2.symm,h3.symm⟩
 ·cases hs
def aGw:Nat × XF:=(45,mRX nbP)
theorem aL3:dM Go.Proofs.Tryz.prog aGw.1 aGw.2:=ZD (iU (xO (xl:=[aEo,aFG,aBn]) (.cons aHL (.cons aJJ (.cons aIB .nil))) 4) 6).1 fun l m n r out e hs=>by
 obtain⟨f,rfl,hlm,rfl,rfl⟩:=aCu hs;clear hs;refine⟨rfl,fun c1 c2=>?_⟩;(conv=>whnf);refine⟨l,m,n,.slice (some ⟨0,0,none⟩) l.length c1,.slice (some ⟨1,0,none⟩) m.length c2,rfl,aM aZ rfl,aM aY rfl,hlm,?_⟩;have hfb:lO l m n f=(cN l m n&&oJ n f):=rfl;cases ho:cN l m n with
 |false =>
  rw [ho,Bool.false_and] at hfb;refine .inr ⟨rfl,?_⟩;rw [hfb];(conv=>whnf);rfl
 |true =>
  rw [ho,Bool.true_and] at hfb;refine .inl ⟨rfl,?_⟩;have hW:WA _ (2+1+1+1+7) l m n:=aIt (nx:=2+1+1+1) (c1:=c1) (c2:=c2) ho hlm;have hno:∀ k,k<2+1+1+1∨_→_:=fun k hk=>aHW (nx:=2+1+1+1) (m:=m) (c1:=c1) (c2:=c2) (n:=n) hlm.1 hk;generalize wT _ l m=W at hW hno ⊢;generalize wTb _ l m=TB at hW hno ⊢;rw [hfb];(conv=>whnf);refine⟨_,_,l,m,n,[f],1,rfl,aAM (Y1 hW (fun k hk=>hno k (.inl hk)) rfl) (U5 (nx:=2+1+1+1) rfl (by decide) (hno _ (.inr (by decide)))),⟨_,_,_,_,rfl,rfl⟩,?_⟩;cases hb:oJ n f with
  |false =>
   rw [show NZ l m n [f]=some (true,.bool (oJ n f)) from rfl,hb];(conv=>whnf);rfl
  |true =>
   rw [show NZ l m n [f]=some (true,.bool (oJ n f)) from rfl,hb];rw [if_pos rfl,if_pos rfl];generalize hO:c7 m f=O;(conv=>whnf);refine⟨_,l,m,n,f,rfl,aAM (Y1 hW (fun k hk=>hno k (.inl hk)) rfl) (U5 (nx:=2+1+1+1) rfl (by decide) (hno _ (.inr (by decide)))),?_⟩;rw [hO];cases O with
   |nil=>(conv=>whnf);rfl
   |cons x t =>
    (conv=>whnf);exact mL aL (l:=x::t) (e:=some 0) (nx:=0) (Nat.succ_pos _) rfl
def stO (k0 k1 kd kt kf nP nE nD nL c1 c2:Nat)(n:Int)(fo:Option (Nat × Nat)):aT:=.cells false false 1 (AJ k0 k1 kd kt kf nP nE nD nL c1 c2 n fo)
def aIs (h:Heap)(p:Nat)(n:Int):Prop:=∃ wr g sz k0 k1 kd kt kf nP nE nD nL c1 c2 fo,look h p=some (.cells wr g sz (AJ k0 k1 kd kt kf nP nE nD nL c1 c2 n fo))
def aI1 (h:Heap)(k:Nat)(L:List Int):Prop:=∃ wr g sz cs,look h k=some (.cells wr g sz cs)∧cs.take (flat aL.fl L).length=flat aL.fl L
def rhS (p k3 k0 k1 kd kt kf:Nat)(k:Nat):Nat:=if k=0 then p else if k=3 then k3 else if k=4 then k0 else if k=5 then k1 else if k=1 then kd else if k=2 then kt else kf
theorem aIb {h:Heap}{p k3:Nat}{n:Int}{L:List Int}(hs:aIs h p n)(hL:aI1 h k3 L)(c:Nat){nx:Nat}:∃ nP nE nD nL c1 c2 fo,In [pV 0,.slice (some ⟨3,0,none⟩) L.length c] [(0,stO 4 5 1 2 6 nP nE nD nL c1 c2 n fo),(3,.cells false true 1 (flat aL.fl L))] 9 [pV p,.slice (some ⟨k3,0,none⟩) L.length c] h nx:=by
 obtain⟨wr,g,sz,k0,k1,kd,kt,kf,nP,nE,nD,nL,c1,c2,fo,hst⟩:=hs;obtain⟨w2,g2,s2,cs,h2,h3⟩:=hL;refine⟨nP,nE,nD,nL,c1,c2,fo,rP (rhS p k3 k0 k1 kd kt kf) rfl ?_ fun k o hk=>?_⟩
 ·exact List.forall_mem_cons.2 ⟨jC rfl,List.forall_mem_cons.2 ⟨jC rfl,fun _ h=>by cases h⟩⟩
 ·rw [aC] at hk;split at hk
  ·rename_i hq;injection hk with hk;subst hk;rw [← beq_true hq]
   refine⟨by decide,false,1,_,rfl,by decide,(fun h=>by cases h),?_,wr,g,sz,_,hst,?_⟩
   ·exact List.forall_mem_cons.2 ⟨dN rfl,List.forall_mem_cons.2 ⟨dN rfl,List.forall_mem_cons.2 ⟨dN rfl,List.forall_mem_cons.2 ⟨dN rfl,List.forall_mem_cons.2 ⟨dN rfl,List.forall_mem_cons.2 ⟨by cases fo <;> exact dN rfl,fun _ h=>by cases h⟩⟩⟩⟩⟩⟩
   ·cases fo <;> rfl
  ·rw [aC] at hk;split at hk
   ·rename_i hq;injection hk with hk;subst hk;rw [← beq_true hq]
    exact⟨by decide,true,1,_,rfl,by decide,fun _=>aE aL L,fun v hv=>cA (aU (aE aL L) hv),w2,g2,s2,cs,h2,by rw [h3];exact (bW (aE aL L)).symm⟩
   ·exact bY hk
def aD7:Nat × XF:=(82,fun args h nx K=>∃ p k3 n L c b,args=[pV p,.slice (some ⟨k3,0,none⟩) L.length c]∧aIs h p n∧aI1 h k3 L∧NZ [] [] n L=some (true,.bool b)∧K (.bool b) h nx)
theorem aKU:dM Go.Proofs.Tryz.prog aD7.1 aD7.2:=by
 refine (jX (S:=fun args0 h0 n0 v1 h1 m=>∃ nP nE nD nL c1 c2 n fo L c b,args0=[pV 0,.slice (some ⟨3,0,none⟩) L.length c]∧h0=[(0,stO 4 5 1 2 6 nP nE nD nL c1 c2 n fo),(3,.cells false true 1 (flat aL.fl L))]∧n0=9∧NZ [] [] n L=some (true,.bool b)∧v1=.bool b∧h1=[]∧m=0) (iU (xO (xl:=[]) .nil 4) 6).1 ?_).mono ?_ ?_
 ·rintro args0 h0 n0 v1 h1 m ⟨nP,nE,nD,nL,c1,c2,n,fo,L,c,b,rfl,rfl,rfl,hs,rfl,rfl,rfl⟩;refine⟨rfl,fun u _ _=>u=.bool b,?_,fun v h nx e=>by rw [e];exact mI rfl⟩;have:(∃ a,L=[a]∧b=oJ n a)∨(∃ a a',L=[a,a']∧b=(oJ n a&&oJ n a')):=by
   unfold NZ at hs;split at hs
   ·injection hs with hs;injection hs with h1 h2;injection h2 with h2;exact .inl ⟨_,rfl,h2.symm⟩
   ·injection hs with hs;injection hs with h1 h2;injection h2 with h2;exact .inr ⟨_,_,rfl,h2.symm⟩
   ·cases hs
  clear hs;rcases this with ⟨a,rfl,rfl⟩|⟨a,a',rfl,rfl⟩
  ·unfold oJ stO AJ
   repeat' (((conv=>whnf);refine bm (fun g=>?_) (fun g=>?_)))
   all_goals (conv=>whnf)
   all_goals (show Value.bool _=Value.bool _;congr 1;simp [X3,aA,aF] at *;try omega)
  ·unfold oJ stO AJ
   repeat' (((conv=>whnf);refine bm (fun g=>?_) (fun g=>?_)))
   all_goals (conv=>whnf)
   all_goals (show Value.bool _=Value.bool _;congr 1;simp [X3,aA,aF] at *;try omega)
 ·rintro args h nx K ⟨p,k3,n,L,c,b,rfl,hs,hL,he,hk⟩;obtain⟨nP,nE,nD,nL,c1,c2,fo,hin⟩:=aIb (nx:=nx) hs hL c;exact⟨_,_,9,_,[],0,⟨nP,nE,nD,nL,c1,c2,n,fo,L,c,b,rfl,rfl,rfl,he,rfl,rfl,rfl⟩,hin,hk⟩
 ·rintro args h nx K ⟨p,k3,n,L,c,b,rfl,hs,hL,he,hk⟩;exact⟨_,_,_,hk,fun K' hk'=>⟨p,k3,n,L,c,b,rfl,hs,hL,he,hk'⟩⟩
def WE (h:Heap)(p:Nat)(m:List Ed)(n:Int):Prop:=∃ wr g sz k0 k1 kd kt kf nP nD nL c1 c2 fo w2 g2 s2 cs,look h p=some (.cells wr g sz (AJ k0 k1 kd kt kf nP m.length nD nL c1 c2 n fo))∧look h k1=some (.cells w2 g2 s2 cs)∧cs.take (flat aY.fl m).length=flat aY.fl m
theorem aER {h:Heap}{p:Nat}{m:List Ed}{n:Int}(hw:WE h p m n){R:Heap}(σ:Nat→Nat){as0 as1:List Value}{nx:Nat}(hF:∀ ρ:Nat→Nat,(∀ k,7≤k→ρ k=σ k)→as1=as0.map (iB ρ))(hn:∀ v∈as0,A0 2000 v)
  (hR:∀ ρ:Nat→Nat,(∀ k,7≤k→ρ k=σ k)→∀ k o,look R k=some o→k<2000∧∃ g sz cs0,o=.cells false g sz cs0∧sz≠0∧(g=true→c9 cs0=true)∧(∀ v∈cs0,AB 2000 v)∧∃ wr g' sz' cs,look h (ρ k)=some (.cells wr g' sz' cs)∧cs.take cs0.length=cs0.map (bR ρ)) :
  ∃ nP nD nL c1 c2 fo,In (pV 0::as0) (fA R nP m nD nL c1 c2 n fo) 2000 (pV p::as1) h nx:=by
 obtain⟨wr,g,sz,k0,k1,kd,kt,kf,nP,nD,nL,c1,c2,fo,w2,g2,s2,cs,h1,h2,h3⟩:=hw;have hρ:∀ k,7≤k→(fun k=>if k=0 then p else if k=4 then k0 else if k=5 then k1 else if k=1 then kd else if k=2 then kt else if k=6 then kf else σ k) k=σ k:=fun k hk=>by
  show (if _ then _ else _)=_;rw [if_neg (by omega),if_neg (by omega),if_neg (by omega),if_neg (by omega),if_neg (by omega),if_neg (by omega)]
 refine⟨nP,nD,nL,c1,c2,fo,rP (fun k=>if k=0 then p else if k=4 then k0 else if k=5 then k1 else if k=1 then kd else if k=2 then kt else if k=6 then kf else σ k) ?_ ?_ fun k o hk=>?_⟩
 ·rw [List.map_cons,← hF _ hρ];rfl
 ·exact List.forall_mem_cons.2 ⟨jC rfl,hn⟩
 ·unfold fA at hk;rw [aC] at hk;split at hk
  ·rename_i hq;injection hk with hk;subst hk;rw [← beq_true hq]
   refine⟨by decide,false,1,_,rfl,by decide,(fun h=>by cases h),?_,wr,g,sz,_,h1,?_⟩
   ·exact List.forall_mem_cons.2 ⟨dN rfl,List.forall_mem_cons.2 ⟨dN rfl,List.forall_mem_cons.2 ⟨dN rfl,List.forall_mem_cons.2 ⟨dN rfl,List.forall_mem_cons.2 ⟨dN rfl,List.forall_mem_cons.2 ⟨by cases fo <;> exact dN rfl,fun _ h=>by cases h⟩⟩⟩⟩⟩⟩
   ·cases fo <;> rfl
  ·rw [aC] at hk;split at hk
   ·rename_i hq;injection hk with hk;subst hk;rw [← beq_true hq]
    exact⟨by decide,true,aY.sz,_,rfl,by decide,fun _=>aE aY m,fun v hv=>cA (aU (aE aY m) hv),w2,g2,s2,cs,h2,by rw [h3];exact (bW (aE aY m)).symm⟩
   ·exact hR _ hρ k o hk
def TC:Nat × XF:=(124,fun args h nx K=>∃ p m n f,args=[pV p,iv f]∧WE h p m n∧m.length≤1000∧MI aL (c7 m f) none h nx K)
theorem aIL:dM Go.Proofs.Tryz.prog TC.1 TC.2:=by
 have h0:dM Go.Proofs.Tryz.prog 124 (yOf aL aGH):=JY aL (aO (xl:=[(134,sIn),(202,cIn)]) (.cons aIn (.cons aIe .nil))) fun _ _ _ _ _=>aIK;refine h0.mono ?_ ?_
 ·rintro args h nx K ⟨p,m,n,f,rfl,hw,hm,hk⟩;obtain⟨nP,nD,nL,c1,c2,fo,hin⟩:=aER (nx:=nx) hw (R:=[]) id (as0:=[iv f]) (as1:=[iv f]) (fun ρ e=>by rw [List.map_cons,r5 rfl];rfl) (List.forall_mem_cons.2 ⟨jC rfl,fun _ h=>by cases h⟩) (fun ρ e k o hk=>bY hk);exact CZ aL ⟨nP,m,nD,nL,c1,c2,n,fo,f,rfl,rfl,rfl,rfl,rfl,hm⟩ hin hk
 ·rintro args h nx K ⟨p,m,n,f,rfl,hw,hm,hk⟩;obtain⟨v,h',nx',h1,h2⟩:=GC hk;exact⟨v,h',nx',h1,fun K' hk'=>⟨p,m,n,f,rfl,hw,hm,h2 K' hk'⟩⟩
abbrev B7:=List Int × List Int
def dQ (nb:List Int)(f:Int)(s:B7):Nat→B7
 |0=>s
 |k+1=>if aB (dQ nb f s k).1 (aB nb k).toNat=0 then ((dQ nb f s k).1.set (aB nb k).toNat (aB (dQ nb f s k).1 f.toNat+1),(dQ nb f s k).2++[aB nb k]) else dQ nb f s k
def eY (m:List Ed)(b:Int)(now:List Int)(s:B7):Nat→B7
 |0=>s
 |i+1=>if aB now i=0∧aB now i≠b then eY m b now s i else dQ (c7 m (aB now i)) (aB now i) (eY m b now s i) (c7 m (aB now i)).length
def DI (m:List Ed)(b:Int)(s:B7):B7:=eY m b s.2 (s.1,[]) s.2.length
def nK (a:Int)(s:B7):Bool:=decide (s.2=[]) || decide (aB s.1 a.toNat≠0)
def LS (m:List Ed)(a b:Int):Nat→B7→B7
 |0,s=>s
 |k+1,s=>if nK a s=true then s else LS m a b k (DI m b s)
def w0 (n b:Int):B7:=((List.replicate (n+1).toNat 0).set b.toNat 1,[b])
def vJ (L:List Int):Nat:=L.countP fun x=>decide (x=0)
def SB (s:B7):Nat:=2*vJ s.1+(if s.2=[] then 0 else 1)
def OY (S:List Int)(f b g:Int):Bool:=decide (aB S g.toNat=aB S f.toNat - 1)&&(decide (0<aB S g.toNat)&&(decide (g≠0) || decide (g=b)))
def BZ (S:List Int)(f b:Int):List Int→Option Int
 |[]=>none
 |g::r=>if OY S f b g=true then some g else BZ S f b r
def mU (m:List Ed)(S:List Int)(b:Int):Nat→Int→List Int→Option (List Int)
 |0,f,out=>if f=b then some out else none
 |k+1,f,out=>if f=b then some out else (match BZ S f b (c7 m f) with|some g=>mU m S b k g (out++[g])|none=>none)
end Go.Aw
end

noncomputable section
namespace Go.Aw
set_option maxRecDepth 100000
theorem tJ {l:List Int}{k:Nat}(h:k<l.length):aB l k∈l:=by rw [dK h];exact List.getElem_mem h
theorem uC {l:List Int}{x:Int}(h:x∈l):∃ k,k<l.length∧aB l k=x:=by
 obtain⟨k,hk,e⟩:=List.getElem_of_mem h;exact⟨k,hk,by rw [dK hk];exact e⟩
theorem U2 {Z:List Int}(hZ:Z.Pairwise (·≤·)):∀ p,p≤Z.length→(gV Z p).Pairwise (·<·)∧(∀ x∈gV Z p,∃ k,k<p∧aB Z k=x)∧(∀ k,k<p→aB Z k∈gV Z p)
 |0,_=>⟨.nil,fun _ h=>by (cases h),fun k h=>by omega⟩
 |p+1,hp=>by
  obtain⟨h1,h2,h3⟩:=U2 hZ p (by omega);have hle:∀ k,k<p→aB Z k≤aB Z p:=fun k hk=>by
   rw [dK (show k<Z.length by omega),dK (show p<Z.length by omega)];exact List.pairwise_iff_getElem.1 hZ k p (by omega) (by omega) hk
  by_cases hc:p=0∨LB (aB Z p) (aB Z (p - 1))=false
  ·have e:gV Z (p+1)=gV Z p++[aB Z p]:=(by conv=>lhs;unfold gV;rw [if_pos hc]);rw [e];refine⟨List.pairwise_append.2 ⟨h1,List.pairwise_singleton _ _,fun a ha b hb=>?_⟩,fun x hx=>?_,fun k hk=>?_⟩
   ·simp only [List.mem_cons,List.not_mem_nil,or_false] at hb;subst hb;obtain⟨k,hk,rfl⟩:=h2 a ha;rcases hc with hc|hc
    ·omega
    ·have hne:aB Z p≠aB Z (p - 1):=of_decide_eq_false hc;have e1:=hle (p - 1) (by omega);have e2:aB Z k≤aB Z (p - 1):=by
      rcases Nat.lt_or_ge k (p - 1) with hk2|hk2
      ·rw [dK (show k<Z.length by omega),dK (show p - 1<Z.length by omega)];exact List.pairwise_iff_getElem.1 hZ k (p - 1) (by omega) (by omega) hk2
      ·rw [show k=p - 1 by omega];exact Int.le_refl _
     omega
   ·rcases List.mem_append.1 hx with hx|hx
    ·obtain⟨k,hk,e2⟩:=h2 x hx;exact⟨k,by omega,e2⟩
    ·simp only [List.mem_cons,List.not_mem_nil,or_false] at hx;exact⟨p,by omega,hx.symm⟩
   ·by_cases e2:k=p
    ·subst e2;exact List.mem_append_right _ (.head _)
    ·exact List.mem_append_left _ (h3 k (by omega))
  ·have hc1:0<p:=by
    rcases Nat.eq_zero_or_pos p with h|h
    ·exact absurd (.inl h) hc
    ·exact h
   have hc2:LB (aB Z p) (aB Z (p - 1))=true:=by
    cases hb:LB (aB Z p) (aB Z (p - 1)) with
    |true=>rfl
    |false=>exact absurd (.inr hb) hc
   rw [DJ hc1 hc2];refine⟨h1,fun x hx=>?_,fun k hk=>?_⟩
   ·obtain⟨k,hk,e2⟩:=h2 x hx;exact⟨k,by omega,e2⟩
   ·by_cases e2:k=p
    ·subst e2;rw [show aB Z k=aB Z (k - 1) from of_decide_eq_true hc2];exact h3 (k - 1) (by omega)
    ·exact h3 k (by omega)
theorem F5 (l:List Int):(gV (j0 l) (j0 l).length).Pairwise (·<·)∧∀ x,x∈gV (j0 l) (j0 l).length↔x∈l:=by
 obtain⟨h1,h2,h3⟩:=U2 (KU l) _ (Nat.le_refl _);refine⟨h1,fun x=>?_⟩;rw [← (Q1 l).mem_iff];constructor
 ·intro hx;obtain⟨k,hk,rfl⟩:=h2 x hx;exact tJ hk
 ·intro hx;obtain⟨k,hk,rfl⟩:=uC hx;exact h3 k hk
theorem CK {m:List Ed}{f x:Int}:∀ i,(x∈wD m f i↔∃ k,k<i∧x∈UB f (cX m k))
 |0=>by constructor <;> intro h;(cases h);(obtain⟨k,hk,_⟩:=h;omega)
 |i+1=>by
  rw [VL,List.mem_append,CK i];constructor
  ·rintro (⟨k,hk,h⟩|h)
   ·exact⟨k,by omega,h⟩
   ·exact⟨i,by omega,h⟩
  ·rintro ⟨k,hk,h⟩;rcases Nat.lt_or_ge k i with h3|h3
   ·exact .inl ⟨k,h3,h⟩
   ·rw [show k=i by omega] at h;exact .inr h
theorem VP {f x:Int}{e:Ed}:x∈UB f e↔(x≠f∧shP x f e=true):=by
 unfold UB shP;simp only [Bool.or_eq_true,Bool.and_eq_true,decide_eq_true_eq];split
 ·rename_i h;simp only [List.mem_cons,List.not_mem_nil,or_false];omega
 ·split
  ·rename_i h1 h;simp only [List.mem_cons,List.not_mem_nil,or_false];omega
  ·rename_i h1 h2;simp only [List.not_mem_nil,false_iff];omega
section
variable {l:List Pt}{m:List Ed}{n:Int}
theorem MT (hok:dH l m n=true):∀ d,d≤2*m.length→∀ i,i<2*m.length→0≤aB (cE l (aV l m m.length) (outs l m) d).face i∧aB (cE l (aV l m m.length) (outs l m) d).face i≤(cE l (aV l m m.length) (outs l m) d).many
 |0,_,i,hi=>by
  unfold cE aB;rw [List.getD_eq_getElem?_getD,List.getElem?_replicate,bM,if_pos hi];exact⟨Int.le_refl _,Int.le_refl _⟩
 |d+1,h,i,hi=>by
  have ih:=MT hok d (by omega) i hi;have hinv:=tR l (aV l m m.length) (outs l m) d;rw [bM] at hinv;rw [show cE l (aV l m m.length) (outs l m) (d+1)=kK l (aV l m m.length) (outs l m) (cE l (aV l m m.length) (outs l m) d) d from rfl];generalize cE l (aV l m m.length) (outs l m) d=t at *;unfold kK;split
  ·exact ih
  ·simp only;have hin:=yE hok (d:=(d:Int)) (by omega) (by omega);have hr:∀ k,k<(uJ (aV l m m.length) (outs l m) d).length→(aB (uJ (aV l m m.length) (outs l m) d) k).toNat<t.face.length:=fun k hk=>by
    rw [hinv.1];rw [EV] at hk;rw [UI hk];have:=hin k;omega
   generalize uJ (aV l m m.length) (outs l m) d=W at *;generalize G0 l (aV l m m.length) W W.length=A;have hs:=tM t.face W (if 0<A then t.many+1 else 0) hr i _ (Nat.le_refl _);by_cases hc:∃ k,k<W.length∧(aB W k).toNat=i
   ·rw [hs.1 hc];split <;> omega
   ·rw [hs.2 hc];split <;> omega
theorem FE (ho:cN l m n=true){i:Nat}(hi:i<2*m.length):0≤aB (dD l m).face i∧aB (dD l m).face i≤n:=by
 have ho':=ho;simp only [cN,mE,Bool.and_eq_true,decide_eq_true_eq] at ho';have:=MT ho'.1.1 (2*m.length) (Nat.le_refl _) i hi;have e:cE l (aV l m m.length) (outs l m) (2*m.length)=dD l m:=(by unfold dD nmD;rw [bM]);rw [e,ho'.2.2.2.1] at this;exact this
theorem aCf (ho:cN l m n=true){i:Nat}(hi:i<m.length):(cX m i).l=aB (dD l m).face (2*i)∧(cX m i).r=aB (dD l m).face (2*i+1):=by
 simp only [cN,Bool.and_eq_true] at ho;have:=fH ho.2.2.2.2 hi;simpa only [EC,Bool.and_eq_true,decide_eq_true_eq] using this
theorem sH (ho:cN l m n=true){i:Nat}(hi:i<m.length):(0≤(cX m i).l∧(cX m i).l≤n)∧(0≤(cX m i).r∧(cX m i).r≤n):=by
 obtain⟨e1,e2⟩:=aCf ho hi;rw [e1,e2];exact⟨FE ho (by omega),FE ho (by omega)⟩
theorem UN (ho:cN l m n=true):1≤n∧n≤100:=(kN (wC ho)).2.2.2.2.2
end
theorem ED {L:List Int}{p:Nat}{v:Int}(hp:p<L.length)(h:aB L p=0)(hv:v≠0):vJ (L.set p v)+1=vJ L:=by
 unfold vJ;rw [dK hp] at h
 induction L generalizing p with
 |nil=>simp at hp
 |cons b r ih =>
  cases p with
  |zero =>
   simp only [List.getElem_cons_zero] at h;subst h;simp [hv]
  |succ p =>
   simp only [List.getElem_cons_succ] at h;have:=ih (by simpa using hp) h;simp only [List.set_cons_succ,List.countP_cons];omega
theorem aDa (L:List Int):vJ L≤L.length:=List.countP_le_length
structure X5 (T:Nat) (n:Int) (s:B7):Prop where
 len:s.1.length=T
 rng:∀ i,i<T→0≤aB s.1 i∧aB s.1 i+vJ s.1≤T
 nx:∀ j,j<s.2.length→0≤aB s.2 j∧aB s.2 j≤n
 sz:s.2.length+vJ s.1≤T
theorem aDB {L:List Int}{x:Int}{j:Nat}(h:j<(L++[x]).length):aB (L++[x]) j=if j<L.length then aB L j else x:=by
 rw [dK h];split
 ·rename_i hj;rw [List.getElem_append_left hj,dK hj]
 ·rename_i hj;rw [List.getElem_append_right (by omega)];simp only [List.length_append,List.length_singleton] at h;simp [show j - L.length=0 by omega]
theorem aC9 {T:Nat}{n:Int}{s:B7}(h:X5 T n s){f g:Int}(hf:0≤f∧f<T)(hg:0≤g∧g<T)(hn:g≤n)(h0:aB s.1 g.toNat=0):X5 T n (s.1.set g.toNat (aB s.1 f.toNat+1),s.2++[g]):=by
 have hfr:=h.rng f.toNat (by omega);have hc:=ED (v:=aB s.1 f.toNat+1) (show g.toNat<s.1.length by rw [h.len];omega) h0 (by omega);refine⟨by simp [h.len],fun i hi=>?_,fun j hj=>?_,?_⟩
 ·simp only;rw [lS];have:=h.rng i hi;split <;> omega
 ·simp only at hj ⊢;rw [aDB hj];split
  ·rename_i h1;exact h.nx j h1
  ·omega
 ·simp only [List.length_append,List.length_singleton];have:=h.sz;omega
theorem xQ (m:List Ed)(f:Int):(c7 m f).length≤m.length:=by
 have h1:=sZ (j0 (wD m f m.length)) (j0 (wD m f m.length)).length;have h2:=K9 m f m.length;rw [tO] at h1;unfold c7;rw [tO];omega
def C1 (m:List Ed)(n:Int):Prop:=∀ i,i<m.length→(0≤(cX m i).l∧(cX m i).l≤n)∧(0≤(cX m i).r∧(cX m i).r≤n)
theorem fR {m:List Ed}{n f:Int}(hE:C1 m n){k:Nat}(hk:k<(c7 m f).length):0≤aB (c7 m f) k∧aB (c7 m f) k≤n:=by
 have hx:=tJ hk;generalize aB (c7 m f) k=x at hx ⊢;unfold c7 at hx;rw [(F5 (wD m f m.length)).2,CK] at hx;obtain⟨i,hi,h⟩:=hx;have:=hE i hi;unfold UB at h;split at h
 ·simp only [List.mem_cons,List.not_mem_nil,or_false] at h;omega
 ·split at h
  ·simp only [List.mem_cons,List.not_mem_nil,or_false] at h;omega
  ·cases h
theorem C2 {T:Nat}{n:Int}{m:List Ed}(hTn:(T:Int)=n+1)(hE:C1 m n){s:B7}(h:X5 T n s){f:Int}(hf:0≤f∧f<T):∀ k,k≤(c7 m f).length→X5 T n (dQ (c7 m f) f s k)
 |0,_=>h
 |k+1,hk=>by
  have ih:=C2 hTn hE h hf k (by omega);have hg:=fR hE (f:=f) (k:=k) (by omega);unfold dQ;split
  ·rename_i h0;exact aC9 ih hf ⟨hg.1,by omega⟩ hg.2 h0
  ·exact ih
theorem C5 {T:Nat}{n:Int}{m:List Ed}(hTn:(T:Int)=n+1)(hE:C1 m n){s:B7}{b:Int}(h:X5 T n s):∀ i,i≤s.2.length→X5 T n (eY m b s.2 (s.1,[]) i)
 |0,_=>⟨h.len,h.rng,fun j hj=>by simp [eY] at hj,by have:=aDa s.1;have:=h.len;show 0+vJ s.1≤T;omega⟩
 |i+1,hi=>by
  have ih:=C5 (b:=b) hTn hE h i (by omega);have hf:=h.nx i (by omega);unfold eY;split
  ·exact ih
  ·exact C2 hTn hE ih ⟨hf.1,by omega⟩ _ (Nat.le_refl _)
theorem VT {T:Nat}{n:Int}{m:List Ed}(hTn:(T:Int)=n+1)(hE:C1 m n){s:B7}{b:Int}(h:X5 T n s):X5 T n (DI m b s):=C5 hTn hE h _ (Nat.le_refl _)
theorem VK (nb:List Int)(f:Int)(s:B7)(T:Nat)(hs:s.1.length=T)(hr:∀ i,i<T→0≤aB s.1 i)(hb:∀ k,k<nb.length→0≤aB nb k∧aB nb k<T):∀ k,k≤nb.length→(dQ nb f s k).1.length=T∧(∀ i,i<T→0≤aB (dQ nb f s k).1 i)∧vJ (dQ nb f s k).1+(dQ nb f s k).2.length=vJ s.1+s.2.length
 |0,_=>⟨hs,hr,rfl⟩
 |k+1,hk=>by
  obtain⟨h1,h2,h3⟩:=VK nb f s T hs hr hb k (by omega);have hg:=hb k (by omega);unfold dQ;split
  ·rename_i h0;have hf0:0≤aB (dQ nb f s k).1 f.toNat:=by
    by_cases hf:f.toNat<T
    ·exact h2 _ hf
    ·unfold aB;rw [List.getD_eq_getElem?_getD,List.getElem?_eq_none (by omega)];exact Int.le_refl _
   have hc:=ED (v:=aB (dQ nb f s k).1 f.toNat+1) (show (aB nb k).toNat<(dQ nb f s k).1.length by omega) h0 (by omega);refine⟨by simp [h1],fun i hi=>?_,?_⟩
   ·simp only;rw [lS];have:=h2 i hi;split <;> omega
   ·simp only [List.length_append,List.length_singleton];omega
  ·exact⟨h1,h2,h3⟩
theorem TA {T:Nat}{n:Int}{m:List Ed}(hTn:(T:Int)=n+1)(hE:C1 m n){s:B7}{b:Int}(h:X5 T n s):∀ i,i≤s.2.length→vJ (eY m b s.2 (s.1,[]) i).1+(eY m b s.2 (s.1,[]) i).2.length=vJ s.1
 |0,_=>rfl
 |i+1,hi=>by
  have ih:=TA (b:=b) hTn hE h i (by omega);have hw:=C5 (b:=b) hTn hE h i (by omega);unfold eY;split
  ·exact ih
  ·rw [(VK (c7 m (aB s.2 i)) (aB s.2 i) (eY m b s.2 (s.1,[]) i) T hw.len (fun j hj=>(hw.rng j hj).1) (fun k hk=>by have:=fR hE hk;omega) _ (Nat.le_refl _)).2.2];exact ih
theorem aBt {T:Nat}{n:Int}{m:List Ed}(hTn:(T:Int)=n+1)(hE:C1 m n){s:B7}{b:Int}(h:X5 T n s)(hne:s.2≠[]):SB (DI m b s)<SB s:=by
 have:=TA (b:=b) hTn hE h s.2.length (Nat.le_refl _);unfold SB DI;rw [if_neg hne];split
 ·omega
 ·rename_i h2;have:0<(eY m b s.2 (s.1,[]) s.2.length).2.length:=List.length_pos_iff.2 h2;omega
theorem aC1 {T:Nat}{n b:Int}(hT:(n+1).toNat=T)(hn:0≤n)(hb:0≤b∧b≤n):X5 T n (w0 n b)∧SB (w0 n b)≤2*T:=by
 have hl:(List.replicate (n+1).toNat (0:Int)).length=T:=(by rw [List.length_replicate,hT]);have ha:∀ i,aB (List.replicate (n+1).toNat (0:Int)) i=0:=fun i=>by
  unfold aB;rw [List.getD_eq_getElem?_getD,List.getElem?_replicate];split <;> rfl
 have hc:vJ (List.replicate (n+1).toNat (0:Int))=T:=by
  unfold vJ;rw [List.countP_replicate,hT];rfl
 have hs:=ED (v:=1) (show b.toNat<(List.replicate (n+1).toNat (0:Int)).length by rw [hl];omega) (ha _) (by decide);rw [hc] at hs;refine⟨⟨by unfold w0;rw [List.length_set];exact hl,fun i hi=>?_,fun j hj=>?_,?_⟩,?_⟩
 ·unfold w0;simp only;rw [lS,ha];split <;> omega
 ·unfold w0 at hj ⊢;simp only [List.length_cons,List.length_nil] at hj;rw [show j=0 by omega];exact hb
 ·unfold w0;show 1+vJ ((List.replicate (n+1).toNat 0).set b.toNat 1)≤T;omega
 ·unfold SB w0;rw [if_neg (by simp)];simp only;omega
end Go.Aw
end

noncomputable section
namespace Go.Aw
set_option maxRecDepth 100000
set_option maxHeartbeats 2000000
theorem yJ {α:Type}(E:El α){l:List α}{e:Option Int}{h:Heap}{nx:Nat}{K:KE}(hl:0<l.length)(hk:K (j8 e (.slice (some ⟨nx,0,none⟩) l.length l.length)) (cV h nx (.cells true false E.sz (flat E.fl l))) (nx+1)):MI E l e h nx K:=by
 cases l with
 |nil=>cases hl
 |cons a r=>exact hk
end Go.Aw
end
