/-
  Parts of a proof. No condition.
-/
import Derived.Test.YtmkcjbpekejgdaaGreatQAx
import Derived.Test.YtmkcjbpekejgdaaGreatQAy
set_option linter.unusedSimpArgs false
set_option linter.unusedVariables false
noncomputable section
namespace Go.Aw
set_option maxRecDepth 100000
theorem getN_cons {cs r:List Value}{o n:Nat}{v:Value}(h:getN cs o (n+1)=some (v::r)):nth cs o=some v∧getN cs (o+1) n=some r:=by
 unfold getN at h
 split at h
 ·cases h
 ·rename_i u hu
  split at h
  ·cases h
  ·rename_i r' hr
   injection h with h
   injection h with h1 h2
   exact⟨by rw [hu,h1],by rw [hr,h2]⟩
theorem getN_two {cs:List Value}{o:Nat}{u v:Value}(h1:nth cs o=some u)(h2:nth cs (o+1)=some v):getN cs o 2=some [u,v]:=by
 unfold getN
 simp only [h1]
 unfold getN
 simp only [h2]
 rfl
theorem getT3 (l:List Tg){i o:Nat}(hi:i<l.length)(ho:o=i*6):getN (flat elT.fl l) o 2=some [iv (atT l i).1.1,iv (atT l i).1.2]∧getN (flat elT.fl l) (o+2) 2=some [iv (atT l i).2.1.1,iv (atT l i).2.1.2]∧getN (flat elT.fl l) (o+4) 2=some [iv (atT l i).2.2.1,iv (atT l i).2.2.2]:=by
 obtain⟨a1,h⟩:=getN_cons (getT l hi ho)
 obtain⟨a2,h⟩:=getN_cons h
 obtain⟨a3,h⟩:=getN_cons h
 obtain⟨a4,h⟩:=getN_cons h
 obtain⟨a5,h⟩:=getN_cons h
 obtain⟨a6,h⟩:=getN_cons h
 exact⟨getN_two a1 a2,getN_two a3 a4,getN_two a5 a6⟩
theorem outK_nil3 {α:Type}(E:El α){e:Option Int}{h:Heap}{nx:Nat}{K:KE}(hk:K (wrapV e (.slice none 0 0)) h nx):outK E ([]:List α) e h nx K:=hk
theorem vb_addS {T:Tab}{h:Heap}{nx t kt et k:Nat}{s1 b1:Nat}{z1:Value}{ki:TyI}{L:List (Sd × Int)}{s:Sd}{n d:Int}{K:KE}(ht:look T t=some ⟨.mpk kt et,s1,b1,z1⟩)(hk:look T kt=some ki)(h4:ki.size=4)(hm:look h k=some (.map (mapS L)))
  (hL:MapW L) (hs:sdW s=true) (hn:n=valS L s+d) (hK:K undef (upd h k (.map (mapS (addS L s d)))) nx):vmapUpdate std T h nx t (.map (some k)) (.agg (keyC s)) (iv n) K:=by
 subst hn
 exact vb_updS ht hk h4 hm hL hs hK
theorem getS2 (l:List Sg){i o:Nat}(hi:i<l.length)(ho:o=i*4):getN (flat elS.fl l) o 2=some [iv (atS l i).1.1,iv (atS l i).1.2]∧getN (flat elS.fl l) (o+2) 2=some [iv (atS l i).2.1,iv (atS l i).2.2]:=by
 obtain⟨a1,h⟩:=getN_cons (getS l hi ho)
 obtain⟨a2,h⟩:=getN_cons h
 obtain⟨a3,h⟩:=getN_cons h
 obtain⟨a4,h⟩:=getN_cons h
 exact⟨getN_two a1 a2,getN_two a3 a4⟩
def mS (L:List (Sd × Int))(S:List Sg):Nat→List (Sd × Int)
 |0=>L
 |k+1=>bothE (mS L S k) (atS S k).1 (atS S k).2 1
theorem mS_0 {L:List (Sd × Int)}{S:List Sg}:mS L S 0=L:=by rw [mS]
theorem mS_next {L:List (Sd × Int)}{S:List Sg}{k:Nat}:mS L S (k+1)=bothE (mS L S k) (atS S k).1 (atS S k).2 1:=by rw [mS]
def sidT (t:Tg):List Sg:=[(t.1,t.2.1),(t.2.1,t.2.2),(t.2.2,t.1)]
theorem mS_3 {L:List (Sd × Int)}{t:Tg}:mS L (sidT t) 3=triM L t:=rfl
theorem sid_wide {t:Tg}(h:okTg t=true):∀ k,k<3→wide (atS (sidT t) k).1=true∧wide (atS (sidT t) k).2=true:=by
 obtain⟨h1,h2,h3,_⟩:=okTg_right h
 intro k hk
 match k,hk with
 |0,_=>exact⟨rightS_wide h1,rightS_wide h2⟩
 |1,_=>exact⟨rightS_wide h2,rightS_wide h3⟩
 |2,_=>exact⟨rightS_wide h3,rightS_wide h1⟩
theorem mS_MB {L:List (Sd × Int)}{N:Int}(hL:MB L N){S:List Sg}{n:Nat}(hS:∀ k,k<n→wide (atS S k).1=true∧wide (atS S k).2=true):∀ {k:Nat},k≤n→MB (mS L S k) (N+2*k)
 |0,_=>hL.le (by omega)
 |k+1,h=>by
  have:=(mS_MB hL hS (k:=k) (by omega)).e (hS k (by omega)).1 (hS k (by omega)).2 (d:=1) (by decide)
  exact this.le (by omega)
theorem edge_1 {l:List (Int × Int)}{i:Nat}:(edgeS l i).1=at2 l i:=rfl
theorem edge_2 {l:List (Int × Int)}{i:Nat}:(edgeS l i).2=at2 l ((i+1) % l.length):=rfl
def e36a (N:List (Int × Int))(ts:List Tg)(c2:Nat)(j:Int):List (Nat × Value):=[(1,.slice (some ⟨1,0,none⟩) ts.length c2),(5,.slice (some ⟨2,0,none⟩) N.length N.length),(7,.map (some 3)),(8,iv j)]
def h36a (N:List (Int × Int))(ts:List Tg)(L:List (Sd × Int)):Heap:=[(1,.cells false true 6 (flat elT.fl ts)),(2,.cells true false 2 (flat elP.fl N)),(3,.map (mapS L))]
def e36b (N:List (Int × Int))(ts:List Tg)(c2:Nat)(j k:Int):List (Nat × Value):=[(1,.slice (some ⟨1,0,none⟩) ts.length c2),(5,.slice (some ⟨2,0,none⟩) N.length N.length),(7,.map (some 3)),(8,iv j),(10,.slice (some ⟨6,0,none⟩) 3 3),(11,iv k)]
def h36b (N:List (Int × Int))(ts:List Tg)(S:List Sg)(L:List (Sd × Int)):Heap:=[(1,.cells false true 6 (flat elT.fl ts)),(2,.cells true false 2 (flat elP.fl N)),(3,.map (mapS L)),(6,.cells true false 4 (flat elS.fl S))]
def e36c (N:List (Int × Int))(j:Int):List (Nat × Value):=[(5,.slice (some ⟨2,0,none⟩) N.length N.length),(7,.map (some 3)),(13,iv j)]
def h36c (N:List (Int × Int))(L:List (Sd × Int)):Heap:=[(2,.cells true false 2 (flat elP.fl N)),(3,.map (mapS L))]
def e36d:List (Nat × Value):=[(148,.pointer (some ⟨4,0,none⟩))]
def h36d (L:List (Sd × Int))(q:List Nat):Heap:=[(3,.map (mapS L)),(4,.iter 3 (mapS L).length (mapS L).length q)]
def D36:Nat × XF:=(36,l3X elP elT S35)
set_option maxHeartbeats 1000000 in
attribute [local irreducible] polyE norR norO triM bothE addS setS valS mapS mT mN mS atT atS at2 edgeS turnS rightS allZ chkT vnext vlookup vmapUpdate in
theorem d36:XOK Go.Proofs.Tryz.prog D36.1 D36.2:=l3X_ok elP elT (f:=36) (s:=S35) (bodyN_calls (xl:=[X50,X80,X57,X84]) (.cons x50 (.cons x80 (.cons x57 (.cons x84 .nil)))) [85]) fun l ts v hs=>by
 obtain⟨hlen,hlt,rfl⟩:=S35_inv hs
 refine⟨rfl,fun c1 c2=>?_⟩
 clear hs
 (conv=>whnf)
 refine⟨l,LsAt_own elP rfl,?_⟩
 ((conv=>whnf);refine bm (fun h1=>?_) (fun h1=>?_))
 ·by_cases hz:polyE l=0
  ·obtain⟨hg,hsim⟩:=polyE_ok hz
   have h3:=norR_three hg hsim
   have hr:=norR_right hg
   have hl:(norR l).length≤200:=Nat.le_trans (norR_len l) hg.2.1
   rw [show norO l=norR l by unfold norO;rw [if_pos hz],hz]
   generalize hN:norR l=N at h3 hr hl ⊢
   refine outK_own elP (show 0<N.length by omega) ?_
   ((conv=>whnf);refine bm (fun h2=>?_) (fun h2=>?_))
   ·(conv=>whnf)
    rw [chkT_no (fun h=>by
     simp only [cA_lt,cA_num,decide_eq_true_eq] at h2
     omega)]
   ·have h400:ts.length≤400:=by simp only [cA_lt,cA_num,decide_eq_false_iff_not] at h2;omega
    (conv=>whnf)
    refine⟨fun m e h nx=>∃ (i:Nat) (j:Int),j=i∧i≤ts.length∧m=ts.length - i∧(∀ k,k<i→okTg (atT ts k)=true)∧e=e36a N ts c2 j∧h=h36a N ts (mT ts i)∧nx=4,⟨ts.length,?_⟩,?_⟩
    ·refine Into_id (e0:=e36a N ts c2 0) (h0:=h36a N ts (mT ts 0)) (n0:=4) ⟨0,0,rfl,Nat.zero_le _,rfl,fun j h=>absurd h (Nat.not_lt_zero j),rfl,rfl,rfl⟩ ?_ ?_ (by decide)
     ·unfold e36a
      ((repeat' refine iE rfl rfl ?_);exact iN)
     ·unfold h36a
      ((repeat'(first|refine iW rfl rfl (ObjRen_mapS (L:=mT ts 0) rfl (by unfold mT mapS;rfl)) ?_|refine iF rfl rfl ?_|refine iC rfl rfl rfl ?_|refine iJ rfl rfl rfl rfl ?_));exact iN)
    ·rintro m e h nx ⟨i,j,hj,hi,rfl,hok,rfl,rfl,rfl⟩
     unfold e36a h36a
     ((conv=>whnf);refine bm (fun g1=>?_) (fun g1=>?_))
     ·have hlt':i<ts.length:=by simp only [cA_lt,cA_num,decide_eq_true_eq] at g1;omega
      have hMB:=mT_MB hok
      have hoff:0+j.toNat*6=i*6:=by omega
      generalize hA:(atT ts i).1=PA
      generalize hB:(atT ts i).2.1=PB
      generalize hC:(atT ts i).2.2=PC
      have hokI:okTg (atT ts i)=((rightS PA&&rightS PB&&rightS PC)&&decide (turnS PA PB PC=1)):=by unfold okTg;rw [hA,hB,hC]
      have gA:=(getT3 ts hlt' (o:=0+j.toNat*6) hoff).1
      have gB:=(getT3 ts hlt' (o:=0+j.toNat*6) hoff).2.1
      have gC:=(getT3 ts hlt' (o:=0+j.toNat*6) hoff).2.2
      have gT:=getT ts hlt' (o:=0+j.toNat*6) hoff
      rw [hA] at gA gT
      rw [hB] at gB gT
      rw [hC] at gC gT
      repeat' first
       |(exfalso
         simp only [cA_add,cA_sub,cA_rem,cA_fits,cA_lt,cA_le,cA_eq,cA_eqB,cA_notB,cA_andB,cA_num,fitsK,Bool.not_eq_false',Bool.not_eq_true',Bool.and_eq_false_iff,Bool.and_eq_true,decide_eq_true_eq,decide_eq_false_iff_not,List.length_cons,List.length_nil] at g
         omega)
       |(exfalso
         have hg:(wide PA&&wide PB&&wide PC)=false:=g
         have hq:cfgS.A.eqB (cfgS.A.notB ([PA,PB,PC].all rightS)) false=true:=by assumption
         simp only [cA_notB,cA_eqB,List.all_cons,List.all_nil,Bool.and_true,beq_iff_eq,Bool.not_eq_false',Bool.and_eq_true] at hq
         rw [rightS_wide hq.1,rightS_wide hq.2.1,rightS_wide hq.2.2] at hg
         cases hg)
       |(((conv=>whnf);refine bm (fun g=>?_) (fun g=>?_)))
       |((conv=>whnf)
         refine boL gA ?_)
       |((conv=>whnf)
         refine boL gB ?_)
       |((conv=>whnf)
         refine boL gC ?_)
       |((conv=>whnf)
         show ∃ x:List (Int × Int),_
         refine Exists.intro [PA,PB,PC] (And.intro ⟨rfl,_,_,_,_,rfl,rfl⟩ ?_))
      all_goals (conv=>whnf)
      ·rw [chkT_no (fun h=>by
        have h3:=h.2.2 i hlt'
        rw [hokI] at h3
        simp only [Bool.and_eq_true,decide_eq_true_eq] at h3
        simp only [cA_eq,cA_notB,Bool.not_eq_true',decide_eq_false_iff_not] at g
        have h4:¬ turnS PA PB PC=1:=g
        exact h4 h3.2)]
      ·have hq:cfgS.A.eqB (cfgS.A.notB ([PA,PB,PC].all rightS)) false=true:=by assumption
       have ht0:cfgS.A.notB (cfgS.A.eq (turnS (PA.fst,PA.snd) (PB.fst,PB.snd) (PC.fst,PC.snd)) 1)=false:=by assumption
       simp only [cA_notB,cA_eqB,List.all_cons,List.all_nil,Bool.and_true,beq_iff_eq,Bool.not_eq_false',Bool.and_eq_true] at hq
       have htn:turnS PA PB PC=1:=by
        simp only [cA_eq,cA_notB,Bool.not_eq_false',decide_eq_true_eq] at ht0
        exact ht0
       have hokt:okTg (atT ts i)=true:=by rw [hokI,hq.1,hq.2.1,hq.2.2,htn];rfl
       have hsw:=sid_wide hokt
       have hSid:sidT (atT ts i)=[(PA,PB),(PB,PC),(PC,PA)]:=by unfold sidT;rw [hA,hB,hC]
       have hM3:=mS_3 (L:=mT ts i) (t:=atT ts i)
       generalize sidT (atT ts i)=S at hsw hSid hM3
       refine boL gT ?_
       (conv=>whnf)
       refine⟨fun m e h nx=>∃ (k:Nat) (a:Int),a=k∧k≤3∧m=3 - k∧e=e36b N ts c2 j a∧h=h36b N ts S (mS (mT ts i) S k)∧nx=7,⟨3,?_⟩,?_⟩
       ·refine Into_id (e0:=e36b N ts c2 j 0) (h0:=h36b N ts S (mS (mT ts i) S 0)) (n0:=7) ⟨0,0,rfl,Nat.zero_le _,rfl,rfl,rfl,rfl⟩ ?_ ?_ (by decide)
        ·unfold e36b
         ((repeat' refine iE rfl rfl ?_);exact iN)
        ·unfold h36b
         subst hSid
         ((repeat'(first|refine iW rfl rfl (ObjRen_mapS (L:=mS (mT ts i) [(PA,PB),(PB,PC),(PC,PA)] 0) rfl (by rw [mS_0])) ?_|refine iF rfl rfl ?_|refine iC rfl rfl rfl ?_|refine iJ rfl rfl rfl rfl ?_));exact iN)
       ·rintro m e h nx ⟨k,a,ha,hk,rfl,rfl,rfl,rfl⟩
        have hMS:=mS_MB hMB hsw hk
        have hS3:S.length=3:=by rw [hSid];rfl
        unfold e36b h36b
        ((conv=>whnf);refine bm (fun g5=>?_) (fun g5=>?_))
        ·have hk3:k<3:=by
          simp only [cA_lt,cA_num,decide_eq_true_eq] at g5
          omega
         have hkS:k<S.length:=by omega
         obtain⟨wP,wQ⟩:=hsw k hk3
         have gS:=getS S hkS (o:=0+a.toNat*4) (by omega)
         have gP:=(getS2 S hkS (o:=0+a.toNat*4) (by omega)).1
         have gQ:=(getS2 S hkS (o:=0+a.toNat*4) (by omega)).2
         have hMn:=mS_next (L:=mT ts i) (S:=S) (k:=k)
         generalize mS (mT ts i) S k=L at hMS hMn ⊢
         generalize (atS S k).1=P at wP gS gP gQ hMn
         generalize (atS S k).2=Q at wQ gS gP gQ hMn
         have wPQ:=sdW_of wP wQ
         have wQP:=sdW_of wQ wP
         have hM1:=hMS.s wPQ (d:=1) (by decide)
         have hv1:=hMS.b.val hMS.n (P,Q)
         have hv2:=hM1.b.val hM1.n (Q,P)
         repeat' first
          |(exfalso
            simp only [cA_add,cA_sub,cA_rem,cA_fits,cA_lt,cA_le,cA_eq,cA_eqB,cA_notB,cA_andB,cA_num,fitsK,Bool.not_eq_false',Bool.not_eq_true',Bool.and_eq_false_iff,Bool.and_eq_true,decide_eq_true_eq,decide_eq_false_iff_not,List.length_cons,List.length_nil] at g
            omega)
          |(((conv=>whnf);refine bm (fun g=>?_) (fun g=>?_)))
          |((conv=>whnf)
            refine boL gS ?_)
          |((conv=>whnf)
            refine boL gP ?_)
          |((conv=>whnf)
            refine boL gQ ?_)
          |((conv=>whnf)
            refine vb_lookupS (L:=L) (s:=(P,Q)) rfl rfl rfl rfl rfl rfl hMS.w wPQ ?_)
          |((conv=>whnf)
            refine vb_addS (L:=L) (s:=(P,Q)) (d:=1) rfl rfl rfl rfl hMS.w wPQ rfl ?_)
          |((conv=>whnf)
            refine vb_lookupS (L:=addS L (P,Q) 1) (s:=(Q,P)) rfl rfl rfl rfl rfl rfl hM1.w wQP ?_)
          |((conv=>whnf)
            refine vb_addS (L:=addS L (P,Q) 1) (s:=(Q,P)) (d:=-1) rfl rfl rfl rfl hM1.w wQP Int.sub_eq_add_neg ?_)
         all_goals (conv=>whnf)
         ·refine⟨3 - (k+1),by omega,?_⟩
          refine Into_id (e0:=e36b N ts c2 j (a+1)) (h0:=h36b N ts S (mS (mT ts i) S (k+1))) (n0:=7) ⟨k+1,a+1,by omega,hk3,rfl,rfl,rfl,rfl⟩ ?_ ?_ (by decide)
          ·unfold e36b
           ((repeat' refine iE rfl rfl ?_);exact iN)
          ·have hM:mapS (addS (addS L (P,Q) 1) (Q,P) (-1))=mapS (mS (mT ts i) S (k+1)):=by rw [hMn,bothE_eq]
           unfold h36b
           ((repeat'(first|refine iW rfl rfl (ObjRen_mapS (L:=mS (mT ts i) S (k+1)) rfl hM) ?_|refine iF rfl rfl ?_|refine iC rfl rfl rfl ?_|refine iJ rfl rfl rfl rfl ?_));exact iN)
        ·have hk3:k=3:=by
          simp only [cA_lt,cA_num,decide_eq_false_iff_not] at g5
          omega
         subst hk3
         rw [hM3,← mT_next]
         ((conv=>whnf);refine bm (fun g6=>?_) (fun g6=>?_))
         ·(conv=>whnf)
          refine⟨ts.length - (i+1),by omega,?_⟩
          refine Into_id (e0:=e36a N ts c2 (j+1)) (h0:=h36a N ts (mT ts (i+1))) (n0:=4) ⟨i+1,j+1,by omega,hlt',rfl,fun k hk=>?_,rfl,rfl,rfl⟩ ?_ ?_ (by decide)
          ·by_cases e:k=i
           ·rw [e];exact hokt
           ·exact hok k (by omega)
          ·unfold e36a
           ((repeat' refine iE rfl rfl ?_);exact iN)
          ·unfold h36a
           ((repeat'(first|refine iW rfl rfl (ObjRen_mapS (L:=mT ts (i+1)) rfl rfl) ?_|refine iF rfl rfl ?_|refine iC rfl rfl rfl ?_|refine iJ rfl rfl rfl rfl ?_));exact iN)
         ·exfalso
          simp only [cA_add,cA_fits,fitsK,Bool.and_eq_false_iff,decide_eq_false_iff_not] at g6
          omega
      ·rw [chkT_no (fun h=>by
        have h3:=h.2.2 i hlt'
        rw [hokI] at h3
        simp only [Bool.and_eq_true,decide_eq_true_eq] at h3
        have hq:cfgS.A.eqB (cfgS.A.notB ([PA,PB,PC].all rightS)) false=false:=g
        simp only [cA_notB,cA_eqB,List.all_cons,List.all_nil,Bool.and_true,h3.1.1.1,h3.1.1.2,h3.1.2,Bool.and_self,Bool.not_true] at hq
        cases hq)]
     ·have hge:i=ts.length:=by simp only [cA_lt,cA_num,decide_eq_false_iff_not] at g1;omega
      subst hge
      have hMT:=mT_MB hok
      rw [chkT_yes ⟨hz,h400,hok⟩,hN]
      generalize mT ts ts.length=M at hMT ⊢
      (conv=>whnf)
      refine⟨fun m e h nx=>∃ (i:Nat) (j:Int),j=i∧i≤N.length∧m=N.length - i∧e=e36c N j∧h=h36c N (mN M N i)∧nx=4,⟨N.length,?_⟩,?_⟩
      ·refine Into_id (e0:=e36c N 0) (h0:=h36c N (mN M N 0)) (n0:=4) ⟨0,0,rfl,Nat.zero_le _,rfl,rfl,rfl,rfl⟩ ?_ ?_ (by decide)
       ·unfold e36c
        ((repeat' refine iE rfl rfl ?_);exact iN)
       ·unfold h36c
        ((repeat'(first|refine iW rfl rfl (ObjRen_mapS (L:=mN M N 0) rfl (by rw [mN_0])) ?_|refine iF rfl rfl ?_|refine iC rfl rfl rfl ?_|refine iJ rfl rfl rfl rfl ?_));exact iN)
      ·rintro m e h nx ⟨i,j,hj,hi,rfl,rfl,rfl,rfl⟩
       unfold e36c h36c
       ((conv=>whnf);refine bm (fun g3=>?_) (fun g3=>?_))
       ·have hq:i<N.length:=by simp only [cA_lt,cA_num,decide_eq_true_eq] at g3;omega
        have hn:(i+1) % N.length<N.length:=Nat.mod_lt _ (by omega)
        have hMB:=mN_MB hMT hr hi
        have wP:=rightS_wide (all_at hr hq)
        have wQ:=rightS_wide (all_at hr hn)
        have hMn:=mN_next (M:=M) (N:=N) (i:=i)
        have hE1:(edgeS N j.toNat).1=at2 N i:=by rw [show j.toNat=i by omega];exact edge_1
        have hE2:(edgeS N j.toNat).2=at2 N ((i+1) % N.length):=by rw [show j.toNat=i by omega];exact edge_2
        generalize mN M N i=L at hMB hMn ⊢
        generalize at2 N i=P at wP hE1 hMn
        generalize at2 N ((i+1) % N.length)=Q at wQ hE2 hMn
        have wPQ:=sdW_of wP wQ
        have wQP:=sdW_of wQ wP
        have hM1:=hMB.s wPQ (d:=-1) (by decide)
        have hv1:=hMB.b.val hMB.n (P,Q)
        have hv2:=hM1.b.val hM1.n (Q,P)
        (conv=>whnf)
        refine⟨N,LsAt_n elP rfl rfl,?_⟩
        ((conv=>whnf);refine bm (fun g4=>?_) (fun g4=>?_))
        ·(conv=>whnf)
         rw [hE1,hE2]
         repeat' first
          |(exfalso
            simp only [cA_add,cA_sub,cA_rem,cA_fits,cA_lt,cA_le,cA_eq,cA_eqB,cA_notB,cA_andB,cA_num,fitsK,Bool.not_eq_false',Bool.not_eq_true',Bool.and_eq_false_iff,Bool.and_eq_true,decide_eq_true_eq,decide_eq_false_iff_not,List.length_cons,List.length_nil] at g
            omega)
          |(((conv=>whnf);refine bm (fun g=>?_) (fun g=>?_)))
          |((conv=>whnf)
            refine vb_lookupS (L:=L) (s:=(P,Q)) rfl rfl rfl rfl rfl rfl hMB.w wPQ ?_)
          |((conv=>whnf)
            refine vb_addS (L:=L) (s:=(P,Q)) (d:=-1) rfl rfl rfl rfl hMB.w wPQ Int.sub_eq_add_neg ?_)
          |((conv=>whnf)
            refine vb_lookupS (L:=addS L (P,Q) (-1)) (s:=(Q,P)) rfl rfl rfl rfl rfl rfl hM1.w wQP ?_)
          |((conv=>whnf)
            refine vb_addS (L:=addS L (P,Q) (-1)) (s:=(Q,P)) (d:=- -1) rfl rfl rfl rfl hM1.w wQP rfl ?_)
         all_goals (conv=>whnf)
         ·refine⟨N.length - (i+1),by omega,?_⟩
          refine Into_id (e0:=e36c N (j+1)) (h0:=h36c N (mN M N (i+1))) (n0:=4) ⟨i+1,j+1,by omega,hq,rfl,rfl,rfl,rfl⟩ ?_ ?_ (by decide)
          ·unfold e36c
           ((repeat' refine iE rfl rfl ?_);exact iN)
          ·have hM:mapS (addS (addS L (P,Q) (-1)) (Q,P) (- -1))=mapS (mN M N (i+1)):=by rw [hMn,bothE_eq]
           unfold h36c
           ((repeat'(first|refine iW rfl rfl (ObjRen_mapS (L:=mN M N (i+1)) rfl hM) ?_|refine iF rfl rfl ?_|refine iC rfl rfl rfl ?_|refine iJ rfl rfl rfl rfl ?_));exact iN)
        ·exfalso
         have hg4:(decide (0≤j)&&decide (j<N.length)&&decide (N.length≤1000000000))=false:=g4
         simp only [Bool.and_eq_false_iff,decide_eq_false_iff_not] at hg4
         omega
       ·have hge:i=N.length:=by simp only [cA_lt,cA_num,decide_eq_false_iff_not] at g3;omega
        subst hge
        generalize mN M N N.length=L
        (conv=>whnf)
        refine⟨fun m e h nx=>∃ q:List Nat,m=(undone L.length q).length∧(∀ i∈q,∀ x,L[i]? = some x→x.2=0)∧e=e36d∧h=h36d L q∧nx=5,⟨(undone L.length []).length,?_⟩,?_⟩
        ·refine Into_id (e0:=e36d) (h0:=h36d L []) (n0:=5) ⟨[],rfl,fun i h=>(by cases h),rfl,rfl,rfl⟩ ?_ ?_ (by decide)
         ·unfold e36d
          ((repeat' refine iE rfl rfl ?_);exact iN)
         ·unfold h36d
          exact iW rfl rfl (ObjRen_mapS (L:=L) rfl rfl) (iW rfl rfl (ObjRen_it rfl (by decide)) iN)
        ·rintro m e h nx ⟨q,rfl,hz0,rfl,rfl,rfl⟩
         unfold e36d h36d
         (conv=>whnf)
         refine vnext_S (L:=L) (q:=q) rfl rfl (fun k x hx hn=>?_) (fun hall=>?_)
         ·(conv=>whnf)
          refine⟨q,k,_,rfl,rfl,mapS_at hx,?_⟩
          ((conv=>whnf);refine bm (fun g5=>?_) (fun g5=>?_))
          ·(conv=>whnf)
           rw [allZ_no hx (fun h0=>by
            simp only [cA_eq,cA_notB,Bool.not_eq_true',decide_eq_false_iff_not] at g5
            exact g5 h0)]
          ·(conv=>whnf)
           have hkl:=(List.getElem?_eq_some_iff.1 hx).1
           refine⟨(undone L.length (q++[k])).length,undone_snoc hkl hn,?_⟩
           refine Into_id (e0:=e36d) (h0:=h36d L (q++[k])) (n0:=5) ⟨q++[k],rfl,fun i hi y hy=>?_,rfl,rfl,rfl⟩ ?_ ?_ (by decide)
           ·rcases List.mem_append.1 hi with hi|hi
            ·exact hz0 i hi y hy
            ·simp only [List.mem_singleton] at hi
             subst hi
             rw [hx] at hy
             injection hy with hy
             subst hy
             simp only [cA_eq,cA_notB,Bool.not_eq_false',decide_eq_true_eq] at g5
             exact g5
           ·unfold e36d
            ((repeat' refine iE rfl rfl ?_);exact iN)
           ·unfold h36d
            exact iW rfl rfl (ObjRen_mapS (L:=L) rfl rfl) (iW rfl rfl (ObjRen_it rfl (by decide)) iN)
         ·(conv=>whnf)
          rw [allZ_yes hz0 hall]
  ·rw [show norO l=[] by unfold norO;rw [if_neg hz]]
   refine outK_nil3 elP ?_
   ((conv=>whnf);refine bm (fun h2=>?_) (fun h2=>?_))
   ·exfalso
    simp only [cA_eq,cA_eqB,cA_notB,beq_iff_eq,Bool.not_eq_false',decide_eq_true_eq] at h2
    exact hz h2
   ·(conv=>whnf)
    rw [chkT_no (fun h=>hz h.1)]
 ·exfalso
  have hg:decide (l.length≤1000000000)=false:=h1
  simp only [decide_eq_false_iff_not] at hg
  omega
end Go.Aw
end
