/-
  Parts of a proof. No condition.
-/
import Derived.Test.YtoekkmbbbllogaaGreatQAz
set_option linter.unusedSimpArgs false
set_option linter.unusedVariables false
noncomputable section
namespace Go.Aw
set_option maxRecDepth 100000
def sQ (n c:Nat):Value:=.slice (some ⟨1,0,none⟩) n c
def eQ (n c:Nat)(v:Value):List (Nat × Value):=[(5,sQ n c),(6,v)]
def eQe (n c:Nat)(v:Value)(i:Int):List (Nat × Value):=[(5,sQ n c),(6,v),(7,iv (-1)),(24,sQ n c),(25,iv n),(26,iv i)]
def eQi (n c:Nat)(v:Value)(i k:Int)(N:Nat):List (Nat × Value):=[(5,sQ n c),(6,v),(7,iv (-1)),(24,sQ n c),(25,iv n),(26,iv i),(8,iv i),(9,.pointer (some ⟨N,0,none⟩)),(10,.pointer (some ⟨N+1,0,none⟩)),(11,.pointer (some ⟨N+2,0,none⟩)),(55,sQ n c),(56,iv n),(57,iv k)]
def hQ (l:List (Int × Int))(cs:List Value):Heap:=[(0,.cells false true 2 (flat elP.fl l)),(1,.cells true false 2 cs)]
def hQo (l:List (Int × Int))(cs:List Value)(out:List Tg):Heap:=[(0,.cells false true 2 (flat elP.fl l)),(1,.cells true false 2 cs),(2,.cells true false 6 (flat elT.fl out))]
def pQ (N:Nat)(a b c:Int × Int):Heap:=[(N,.cells true false 1 [iv b.1,iv b.2]),(N+1,.cells true false 1 [iv a.1,iv a.2]),(N+2,.cells true false 1 [iv c.1,iv c.2])]
theorem gJ {rest:List (Int × Int)}{J:List Value}(hJ:allG J=true):allG (flat elP.fl rest++J)=true:=by
 rw [allG_append,flat_g elP rest,hJ];rfl
theorem no_more {l:List (Int × Int)}{q:Nat}(h:∀ j,j<q→earB l j=false)(he:earB l q=false):∀ j,j<q+1→earB l j=false:=fun j hj=>by
 by_cases e:j=q
 ·rw [e];exact he
 ·exact h j (by omega)
set_option maxHeartbeats 2000000 in
attribute [local irreducible] earB fE triN triL norO polyE norR norI rawI delI triE prv nxt at2 turnS holdB in
theorem d25:XOK Go.Proofs.Tryz.prog 9 (rfX elP elT S51):=rfX_ok elP elT (s:=S51) (f:=9) (bodyN_calls (xl:=[X32,X85,X55,D66]) (.cons x32 (.cons x85 (.cons x55 (.cons d66 .nil)))) [39]) fun l r out e hs=>by
 obtain⟨rfl,hlen,rfl,rfl⟩:=S51_inv hs
 refine⟨rfl,fun c=>?_⟩
 clear hs
 (conv=>whnf)
 refine⟨l,LsAt_own elP rfl,?_⟩
 ((conv=>whnf);refine bm (fun h1=>?_) (fun h1=>?_))
 ·by_cases hz:polyE l=0
  ·obtain⟨hg,hsim⟩:=polyE_ok hz
   have h3:=norR_three hg hsim
   have hr:=norR_right hg
   have hl:(norR l).length≤200:=Nat.le_trans (norR_len l) hg.2.1
   have hrp:=raw_pos hg hsim
   have hnn:=norI_eq hg hsim
   rw [show triO l=triN (norR l) by unfold triO;rw [if_pos hz],hz]
   ·(conv=>whnf)
    refine⟨l,LsAt_own elP rfl,?_⟩
    ((conv=>whnf);refine bm (fun g2=>?_) (fun g2=>?_))
    ·rw [hnn]
     generalize norR l=N at h3 hr hl ⊢
     refine outK_own elP (show 0<N.length by omega) ?_
     (conv=>whnf)
     refine⟨fun n e h nx=>∃ (rest:List (Int × Int)) (out:List Tg) (J:List Value) (c:Nat),n=rest.length∧3≤rest.length∧rest.length+out.length≤200∧rest.all rightS=true∧triL rest.length rest out=triN N∧rest.length≤c∧allG J=true∧J.length=(c - rest.length)*2 ∧
      ((out=[]∧e=eQ rest.length c (.slice none 0 0)∧h=hQ l (flat elP.fl rest++J)∧nx=2)∨(0<out.length∧e=eQ rest.length c (sT out.length)∧h=hQo l (flat elP.fl rest++J) out∧nx=3)),⟨N.length,?_⟩,?_⟩
     ·refine Into_id (e0:=eQ N.length N.length (.slice none 0 0)) (h0:=hQ l (flat elP.fl N++[])) (n0:=2) ⟨N,[],[],N.length,rfl,h3,hl,hr,by unfold triN;rfl,Nat.le_refl _,rfl,by rw [Nat.sub_self];rfl,.inl ⟨rfl,rfl,rfl,rfl⟩⟩ ?_ ?_ (by decide)
      ·unfold eQ sQ
       ((repeat' refine iE rfl rfl ?_);exact iN)
      ·unfold hQ
       rw [List.append_nil]
       ((repeat'(first|refine iF rfl rfl ?_|refine iJ rfl rfl rfl rfl ?_));exact iN)
     ·clear hr hl h3 hg hsim hz h1 g2 hrp hnn
      rintro n e h nx ⟨rest,out,J,c,rfl,h3,hlo,hr,hT,hc,hgJ,hJ,⟨ho,rfl,rfl,rfl⟩|⟨ho,rfl,rfl,rfl⟩⟩
      ·subst ho
       unfold eQ sQ hQ
       ((conv=>whnf);refine bm (fun g1=>?_) (fun g1=>?_))
       ·have h4:3<rest.length:=by simp only [cA_lt,cA_num,decide_eq_true_eq] at g1;omega
        (conv=>whnf)
        refine⟨fun m e h nx=>∃ (k:Nat) (i:Int),i=k∧k≤rest.length∧m=rest.length - k∧(∀ j,j<k→earB rest j=false)∧e=eQe rest.length c (.slice none 0 0) i∧h=(hQ l (flat elP.fl rest++J))∧nx=2,⟨rest.length,?_⟩,?_⟩
        ·refine Into_id (e0:=eQe rest.length c (.slice none 0 0) 0) (h0:=(hQ l (flat elP.fl rest++J))) (n0:=2) ⟨0,0,rfl,Nat.zero_le _,rfl,fun j h=>absurd h (Nat.not_lt_zero j),rfl,rfl,rfl⟩ ?_ ?_ (by decide)
         ·unfold eQe sQ
          ((repeat' refine iE rfl rfl ?_);exact iN)
         ·unfold hQ
          ((repeat'(first|refine iW rfl rfl (ObjRen_g (gJ hgJ)) ?_|refine iF rfl rfl ?_|refine iJ rfl rfl rfl rfl ?_));exact iN)
        ·rintro m e h nx ⟨q,i,hi,hk,rfl,hno,rfl,rfl,rfl⟩
         unfold eQe sQ hQ
         ((conv=>whnf);refine bm (fun g2=>?_) (fun g2=>?_))
         ·have hq:q<rest.length:=by simp only [cA_lt,decide_eq_true_eq] at g2;omega
          have hn:(q+1) % rest.length<rest.length:=Nat.mod_lt _ (by omega)
          have hp:(q+rest.length - 1) % rest.length<rest.length:=Nat.mod_lt _ (by omega)
          have tn:(i+1).tmod (rest.length:Int)=((q+1) % rest.length:Nat):=by rw [hi];exact tmod_nat
          have tp:(i+(rest.length:Int) - 1).tmod (rest.length:Int)=((q+rest.length - 1) % rest.length:Nat):=by rw [hi];exact tmod_prev (by omega)
          have ep:at2 rest ((q+rest.length - 1) % rest.length)=prv rest q:=by unfold prv;rfl
          have en:at2 rest ((q+1) % rest.length)=nxt rest q:=by unfold nxt;rfl
          have w1:wide (at2 rest q)=true:=rightS_wide (all_at hr hq)
          have w2:wide (nxt rest q)=true:=by rw [← en];exact rightS_wide (all_at hr hn)
          have w3:wide (prv rest q)=true:=by rw [← ep];exact rightS_wide (all_at hr hp)
          repeat' first
           |(exfalso
             simp only [cA_add,cA_sub,cA_rem,cA_fits,cA_lt,cA_le,cA_eq,cA_notB,cA_andB,cA_num,cA_subN,cA_toN,fitsK,ble_t,ble_f,beq_t,beq_f,flat2,flatT,tn,tp,Bool.not_eq_false',Bool.not_eq_true',Bool.and_eq_false_iff,Bool.and_eq_true,decide_eq_true_eq,decide_eq_false_iff_not,List.length_append,List.length_take,List.length_drop,List.length_nil,List.length_cons,cA_ix,rep_len,putN] at g
             omega)
           |(exfalso
             have hg:(wide (at2 rest ((q+rest.length - 1) % rest.length))&&wide (at2 rest q)&&wide (at2 rest ((q+1) % rest.length)))=false:=g
             rw [ep,en,w1,w2,w3] at hg
             cases hg)
           |(((conv=>whnf);refine bm (fun g=>?_) (fun g=>?_)))
           |((conv=>whnf)
             refine boL (getPJ rest J hq ?_) ?_
             ·simp [cfgS,std];omega)
           |((conv=>whnf)
             refine boL (getPJ rest J hn ?_) ?_
             ·show 0+((i+1).tmod (rest.length:Int)).toNat*2=_
              rw [tn,Int.toNat_natCast,Nat.zero_add])
           |((conv=>whnf)
             refine boL (getPJ rest J hp ?_) ?_
             ·show 0+((i+(rest.length:Int) - 1).tmod (rest.length:Int)).toNat*2=_
              rw [tp,Int.toNat_natCast,Nat.zero_add])
          all_goals (conv=>whnf)
          ·have hle:turnS (prv rest q) (at2 rest q) (nxt rest q)≤0:=by
            have hg:decide (turnS (at2 rest ((q+rest.length - 1) % rest.length)) (at2 rest q) (at2 rest ((q+1) % rest.length))≤0)=true:=by assumption
            rw [ep,en] at hg
            exact of_decide_eq_true hg
           refine⟨rest.length - (q+1),by omega,?_⟩
           refine Into_id (e0:=eQe rest.length c (.slice none 0 0) (i+1)) (h0:=(hQ l (flat elP.fl rest++J))) (n0:=2) ⟨q+1,i+1,by omega,hq,rfl,no_more hno (earB_no hle),rfl,rfl,rfl⟩ ?_ ?_ (by decide)
           ·unfold eQe sQ
            ((repeat' refine iE rfl rfl ?_);exact iN)
           ·unfold hQ
            ((repeat'(first|refine iW rfl rfl (ObjRen_g (gJ hgJ)) ?_|refine iF rfl rfl ?_|refine iJ rfl rfl rfl rfl ?_));exact iN)
          ·have hpos:0<turnS (prv rest q) (at2 rest q) (nxt rest q):=by
            have hg:decide (turnS (at2 rest ((q+rest.length - 1) % rest.length)) (at2 rest q) (at2 rest ((q+1) % rest.length))≤0)=false:=g
            rw [ep,en] at hg
            have:=of_decide_eq_false hg
            omega
           rw [ep,en]
           refine⟨fun m e h nx=>∃ (k:Nat) (s:Int),s=k∧k≤rest.length∧m=rest.length - k∧(∀ j,j<k→clearB (prv rest q) (at2 rest q) (nxt rest q) (at2 rest j)=true)∧e=eQi rest.length c (.slice none 0 0) i s 2∧h=(hQ l (flat elP.fl rest++J))++pQ 2 (prv rest q) (at2 rest q) (nxt rest q)∧nx=2+3,⟨rest.length,?_⟩,?_⟩
           ·refine Into_id (e0:=eQi rest.length c (.slice none 0 0) i 0 2) (h0:=(hQ l (flat elP.fl rest++J))++pQ 2 (prv rest q) (at2 rest q) (nxt rest q)) (n0:=2+3) ⟨0,0,rfl,Nat.zero_le _,rfl,fun j h=>absurd h (Nat.not_lt_zero j),rfl,rfl,rfl⟩ ?_ ?_ (by decide)
            ·unfold eQi sQ
             ((repeat' refine iE rfl rfl ?_);exact iN)
            ·unfold hQ pQ
             ((repeat'(first|refine iW rfl rfl (ObjRen_g (gJ hgJ)) ?_|refine iF rfl rfl ?_|refine iJ rfl rfl rfl rfl ?_));exact iN)
           ·rintro m e h nx ⟨k,s,hs,hks,rfl,hcl,rfl,rfl,rfl⟩
            have hNo:=fun (x:clearB (prv rest q) (at2 rest q) (nxt rest q) (at2 rest k)=false) (y:k<rest.length)=>earB_not (i:=q) y x
            have hYes:=fun (x:k=rest.length)=>earB_yes (l:=rest) (i:=q) hpos (fun j hj=>hcl j (by omega))
            have hTri:triE rest q=(prv rest q,at2 rest q,nxt rest q):=by unfold triE;rfl
            generalize prv rest q=A at hcl hNo hYes w3 hTri ⊢
            generalize at2 rest q=B at hcl hNo hYes w1 hTri ⊢
            generalize nxt rest q=C at hcl hNo hYes w2 hTri ⊢
            unfold eQi sQ hQ pQ
            ((conv=>whnf);refine bm (fun g3=>?_) (fun g3=>?_))
            ·have hlt:k<rest.length:=by simp only [cA_lt,decide_eq_true_eq] at g3;omega
             have w4:=rightS_wide (all_at hr hlt)
             have wAll:(wide A&&wide B&&wide C&&wide (at2 rest k))=true:=by rw [w1,w2,w3,w4];rfl
             have hNo:=fun x=>hNo x hlt
             clear hYes hTri hpos
             repeat' first
              |(exfalso
                simp only [cA_add,cA_fits,cA_lt,cA_le,cA_andB,cA_num,fitsK,Bool.and_eq_false_iff,decide_eq_false_iff_not] at g
                omega)
              |(exfalso
                have hg:(wide A&&wide B&&wide C&&wide (at2 rest k))=false:=g
                rw [wAll] at hg
                cases hg)
              |(((conv=>whnf);refine bm (fun g=>?_) (fun g=>?_)))
              |((conv=>whnf)
                refine boL (getPJ rest J hlt ?_) ?_
                ·simp [cfgS,std];omega)
             all_goals (conv=>whnf)
             all_goals generalize hpk:at2 rest k=p at *
             all_goals first
              |(skip
                have hclp:clearB A B C p=true:=by
                 clear hno hcl hNo hpk tn tp hn hp ep en w1 w2 w3 w4 wAll hT
                 unfold clearB eqP
                 simp only [cA_eq,cA_andB,cA_notB,cA_eqB,Bool.and_true] at *
                 generalize (decide (p.1=A.1)&&decide (p.2=A.2))=x1 at *
                 generalize (decide (p.1=B.1)&&decide (p.2=B.2))=x2 at *
                 generalize (decide (p.1=C.1)&&decide (p.2=C.2))=x3 at *
                 generalize holdB A B C p=x4 at *
                 clear g1 g2 g3
                 cases x1 <;> cases x2 <;> cases x3 <;> cases x4 <;> simp_all
                refine⟨rest.length - (k+1),by omega,?_⟩
                refine Into_id (e0:=eQi rest.length c (.slice none 0 0) i (s+1) 2) (h0:=(hQ l (flat elP.fl rest++J))++pQ 2 A B C) (n0:=2+3) ⟨k+1,s+1,by omega,hlt,rfl,fun j hj=>?_,rfl,rfl,rfl⟩ ?_ ?_ (by decide)
                ·by_cases hjk:j=k
                 ·subst hjk
                  rw [hpk]
                  exact hclp
                 ·exact hcl j (by omega)
                ·unfold eQi sQ
                 ((repeat' refine iE rfl rfl ?_);exact iN)
                ·unfold hQ pQ
                 ((repeat'(first|refine iW rfl rfl (ObjRen_g (gJ hgJ)) ?_|refine iF rfl rfl ?_|refine iJ rfl rfl rfl rfl ?_));exact iN)
               )
              |(skip
                have hclp:clearB A B C p=false:=by
                 clear hno hcl hNo hpk tn tp hn hp ep en w1 w2 w3 w4 wAll hT
                 unfold clearB eqP
                 simp only [cA_eq,cA_andB,cA_notB,cA_eqB,Bool.and_true] at *
                 generalize (decide (p.1=A.1)&&decide (p.2=A.2))=x1 at *
                 generalize (decide (p.1=B.1)&&decide (p.2=B.2))=x2 at *
                 generalize (decide (p.1=C.1)&&decide (p.2=C.2))=x3 at *
                 generalize holdB A B C p=x4 at *
                 clear g1 g2 g3
                 cases x1 <;> cases x2 <;> cases x3 <;> cases x4 <;> simp_all
                refine⟨rest.length - (q+1),by omega,?_⟩
                refine Into_id (e0:=eQe rest.length c (.slice none 0 0) (i+1)) (h0:=(hQ l (flat elP.fl rest++J))) (n0:=2) ⟨q+1,i+1,by omega,hq,rfl,no_more hno (hNo hclp),rfl,rfl,rfl⟩ ?_ ?_ (by decide)
                ·unfold eQe sQ
                 ((repeat' refine iE rfl rfl ?_);exact iN)
                ·unfold hQ
                 ((repeat'(first|refine iW rfl rfl (ObjRen_g (gJ hgJ)) ?_|refine iF rfl rfl ?_|refine iJ rfl rfl rfl rfl ?_));exact iN)
               )
              |trace_state
            ·have hkl:k=rest.length:=by simp only [cA_lt,decide_eq_false_iff_not] at g3;omega
             have hear:=hYes hkl
             clear hYes hNo
             subst hkl
             have hF:=fE_is hq hear hno
             rw [triL_step h4 rfl hF] at hT
             obtain⟨M,hM⟩:∃ M:Nat,rest.length=M+1:=⟨rest.length - 1,by omega⟩
             have hMn:cfg4.A.num rest.length=((M+1:Nat):Int):=by rw [c4A,cA_num,hM]
             rcases Nat.lt_or_ge (q+1) c with c1|c1
             all_goals repeat' first
              |(exfalso
                simp only [cA_add,cA_sub,cA_rem,cA_fits,cA_lt,cA_le,cA_eq,cA_notB,cA_andB,cA_num,cA_subN,cA_toN,fitsK,ble_t,ble_f,beq_t,beq_f,flat2,flatT,Bool.not_eq_false',Bool.not_eq_true',Bool.and_eq_false_iff,Bool.and_eq_true,decide_eq_true_eq,decide_eq_false_iff_not,List.length_append,List.length_take,List.length_drop,List.length_nil,List.length_cons,cA_ix,rep_len,putN] at g
                omega)
              |(((conv=>whnf);refine bm (fun g=>?_) (fun g=>?_)))
             all_goals (conv=>whnf)
             all_goals rw [hMn]
             all_goals repeat' first
              |(exfalso
                simp only [c4A,hMn,cA_add,cA_sub,cA_rem,cA_fits,cA_lt,cA_le,cA_eq,cA_notB,cA_andB,cA_num,cA_subN,cA_toN,fitsK,ble_t,ble_f,beq_t,beq_f,flat2,flatT,Bool.not_eq_false',Bool.not_eq_true',Bool.and_eq_false_iff,Bool.and_eq_true,decide_eq_true_eq,decide_eq_false_iff_not,List.length_append,List.length_take,List.length_drop,List.length_nil,List.length_cons,cA_ix,rep_len,putN] at g
                omega)
              |(((conv=>whnf);refine bm (fun g=>?_) (fun g=>?_)))
             all_goals (conv=>whnf)
             ·have hE:cfg4.A.subN (cfg4.A.toN (cfg4.A.num rest.length)) (cfg4.A.toN (cfg4.A.num (cfg4.A.toN i+cfg4.A.subN rest.length (cfg4.A.toN (cfgS.A.add i 1)))))=1:=by
               simp only [c4A,cA_num,cA_toN,cA_subN,cA_add]
               omega
              rw [hE]
              repeat' first
               |(exfalso
                 simp only [c4A,hMn,cA_add,cA_sub,cA_rem,cA_fits,cA_lt,cA_le,cA_eq,cA_notB,cA_andB,cA_num,cA_subN,cA_toN,fitsK,ble_t,ble_f,beq_t,beq_f,flat2,flatT,Bool.not_eq_false',Bool.not_eq_true',Bool.and_eq_false_iff,Bool.and_eq_true,decide_eq_true_eq,decide_eq_false_iff_not,List.length_append,List.length_take,List.length_drop,List.length_nil,List.length_cons,cA_ix,rep_len,putN] at g
                 omega)
               |(((conv=>whnf);refine bm (fun g=>?_) (fun g=>?_)))
              all_goals (conv=>whnf)
              have hdl:=delI_len hq
              have hX:cfg4.A.toN i+cfg4.A.subN rest.length (cfg4.A.toN (cfgS.A.add i 1))=(delI rest q).length:=by
               simp only [c4A,cA_num,cA_toN,cA_subN,cA_add]
               omega
              rw [hX]
              refine⟨(delI rest q).length,by omega,?_⟩
              have hrl:(([]:List Tg)++[triE rest q]).length=1:=by simp
              refine Into_mv2 (e0:=eQ (delI rest q).length c (sT (1))) (o0:=.cells false true 2 (flat elP.fl l)) (o1:=.cells true false 2 (flat elP.fl (delI rest q)++([iv 0,iv 0]++J))) (o2:=.cells true false 6 (flat elT.fl (([]:List Tg)++[triE rest q]))) (n0:=3) 1 6 (by decide) (by decide)
               ⟨delI rest q,([]:List Tg)++[triE rest q],[iv 0,iv 0]++J,c,rfl,by omega,by rw [hrl];simp only [List.length_nil] at hlo;omega,delI_right hr q,by rw [hdl];exact hT,by omega,by rw [allG_append,hgJ];rfl,by rw [List.length_append,hJ];show 2+_=_;omega,.inr ⟨by rw [hrl];exact Nat.succ_pos _,by rw [hrl];rfl,rfl,rfl⟩⟩ ?_ ?_
              ·unfold eQ sQ sT
               ((repeat' refine iE rfl rfl ?_);exact iN)
              ·refine List.forall_mem_cons.2 ⟨⟨Nat.le_of_ble_eq_true rfl,_,rfl,ObjRen_g (flat_g _ _)⟩,List.forall_mem_cons.2 ⟨⟨Nat.le_of_ble_eq_true rfl,_,rfl,ObjRen_j (gJ (by rw [allG_append,hgJ];rfl)) (delJ (Z:=[iv 0,iv 0]) hq ?_ ?_ ?_ ?_ rfl)⟩,List.forall_mem_cons.2 ⟨⟨Nat.le_of_ble_eq_true rfl,_,rfl,ObjRen_j (flat_g elT _) ?_⟩,fun _ h=>(by cases h)⟩⟩⟩
               all_goals first
                |(simp only [c4A,cA_num,cA_toN,cA_subN,cA_add,cA_ix,← hX];omega)
                |(simp only [c4A,cA_num,cA_toN,cA_subN,cA_add,cA_ix];omega)
                |(show _=elT.fl (triE rest q)++[];rw [hTri];rfl)
             ·have hE:cfg4.A.subN (cfg4.A.toN (cfg4.A.num rest.length)) (cfg4.A.toN (cfg4.A.num (cfg4.A.toN i+0)))=1:=by
               simp only [c4A,cA_num,cA_toN,cA_subN,cA_add]
               omega
              rw [hE]
              repeat' first
               |(exfalso
                 simp only [c4A,hMn,cA_add,cA_sub,cA_rem,cA_fits,cA_lt,cA_le,cA_eq,cA_notB,cA_andB,cA_num,cA_subN,cA_toN,fitsK,ble_t,ble_f,beq_t,beq_f,flat2,flatT,Bool.not_eq_false',Bool.not_eq_true',Bool.and_eq_false_iff,Bool.and_eq_true,decide_eq_true_eq,decide_eq_false_iff_not,List.length_append,List.length_take,List.length_drop,List.length_nil,List.length_cons,cA_ix,rep_len,putN] at g
                 omega)
               |(((conv=>whnf);refine bm (fun g=>?_) (fun g=>?_)))
              all_goals (conv=>whnf)
              have hdl:=delI_len hq
              have hX:cfg4.A.toN i+0=(delI rest q).length:=by
               simp only [c4A,cA_num,cA_toN,cA_subN,cA_add]
               omega
              rw [hX]
              refine⟨(delI rest q).length,by omega,?_⟩
              have hrl:(([]:List Tg)++[triE rest q]).length=1:=by simp
              refine Into_mv2 (e0:=eQ (delI rest q).length c (sT (1))) (o0:=.cells false true 2 (flat elP.fl l)) (o1:=.cells true false 2 (flat elP.fl (delI rest q)++([iv 0,iv 0]++J))) (o2:=.cells true false 6 (flat elT.fl (([]:List Tg)++[triE rest q]))) (n0:=3) 1 6 (by decide) (by decide)
               ⟨delI rest q,([]:List Tg)++[triE rest q],[iv 0,iv 0]++J,c,rfl,by omega,by rw [hrl];simp only [List.length_nil] at hlo;omega,delI_right hr q,by rw [hdl];exact hT,by omega,by rw [allG_append,hgJ];rfl,by rw [List.length_append,hJ];show 2+_=_;omega,.inr ⟨by rw [hrl];exact Nat.succ_pos _,by rw [hrl];rfl,rfl,rfl⟩⟩ ?_ ?_
              ·unfold eQ sQ sT
               ((repeat' refine iE rfl rfl ?_);exact iN)
              ·refine List.forall_mem_cons.2 ⟨⟨Nat.le_of_ble_eq_true rfl,_,rfl,ObjRen_g (flat_g _ _)⟩,List.forall_mem_cons.2 ⟨⟨Nat.le_of_ble_eq_true rfl,_,rfl,ObjRen_j (gJ (by rw [allG_append,hgJ];rfl)) (delJ0 (Z:=[iv 0,iv 0]) (by omega) ?_ ?_ rfl)⟩,List.forall_mem_cons.2 ⟨⟨Nat.le_of_ble_eq_true rfl,_,rfl,ObjRen_j (flat_g elT _) ?_⟩,fun _ h=>(by cases h)⟩⟩⟩
               all_goals first
                |(simp only [c4A,cA_num,cA_toN,cA_subN,cA_add,cA_ix,← hX];omega)
                |(simp only [c4A,cA_num,cA_toN,cA_subN,cA_add,cA_ix];omega)
                |(show _=elT.fl (triE rest q)++[];rw [hTri];rfl)
         ·have hkl:q=rest.length:=by simp only [cA_lt,decide_eq_false_iff_not] at g2;omega
          subst hkl
          (conv=>whnf)
          rw [triL_stop h4 rfl (by rw [fE_none hno];decide)] at hT
          rw [← hT]
          rfl
       ·have h4:rest.length=3:=by simp only [cA_lt,cA_num,decide_eq_false_iff_not] at g1;omega
        rw [triL_end h4 rfl] at hT
        rw [← hT]
        repeat' first
         |(exfalso
           simp only [cA_lt,cA_le,cA_andB,cA_num,ble_t,ble_f,beq_t,beq_f,flatT,Bool.and_eq_false_iff,Bool.and_eq_true,decide_eq_true_eq,decide_eq_false_iff_not,List.length_append,List.length_take,List.length_drop,List.length_nil,List.length_cons] at g
           omega)
         |(((conv=>whnf);refine bm (fun g=>?_) (fun g=>?_)))
         |((conv=>whnf)
           refine boL (getPJ rest J (i:=0) (by omega) rfl) ?_)
         |((conv=>whnf)
           refine boL (getPJ rest J (i:=1) (by omega) rfl) ?_)
         |((conv=>whnf)
           refine boL (getPJ rest J (i:=2) (by omega) rfl) ?_)
        all_goals (conv=>whnf)
        all_goals first
         |exact⟨3,rfl,rfl⟩
         |(refine Yields_atT (q:=3) (nx:=4) ?_ ?_ ?_ ⟨_,rfl,?_⟩
           ·simp
           ·simp
           ·simp
           ·rfl)
      ·unfold eQ sQ hQo sT
       ((conv=>whnf);refine bm (fun g1=>?_) (fun g1=>?_))
       ·have h4:3<rest.length:=by simp only [cA_lt,cA_num,decide_eq_true_eq] at g1;omega
        (conv=>whnf)
        refine⟨fun m e h nx=>∃ (k:Nat) (i:Int),i=k∧k≤rest.length∧m=rest.length - k∧(∀ j,j<k→earB rest j=false)∧e=eQe rest.length c (sT out.length) i∧h=(hQo l (flat elP.fl rest++J) out)∧nx=3,⟨rest.length,?_⟩,?_⟩
        ·refine Into_id (e0:=eQe rest.length c (sT out.length) 0) (h0:=(hQo l (flat elP.fl rest++J) out)) (n0:=3) ⟨0,0,rfl,Nat.zero_le _,rfl,fun j h=>absurd h (Nat.not_lt_zero j),rfl,rfl,rfl⟩ ?_ ?_ (by decide)
         ·unfold eQe sQ sT
          ((repeat' refine iE rfl rfl ?_);exact iN)
         ·unfold hQo
          ((repeat'(first|refine iW rfl rfl (ObjRen_g (gJ hgJ)) ?_|refine iF rfl rfl ?_|refine iJ rfl rfl rfl rfl ?_));exact iN)
        ·rintro m e h nx ⟨q,i,hi,hk,rfl,hno,rfl,rfl,rfl⟩
         unfold eQe sQ hQo sT
         ((conv=>whnf);refine bm (fun g2=>?_) (fun g2=>?_))
         ·have hq:q<rest.length:=by simp only [cA_lt,decide_eq_true_eq] at g2;omega
          have hn:(q+1) % rest.length<rest.length:=Nat.mod_lt _ (by omega)
          have hp:(q+rest.length - 1) % rest.length<rest.length:=Nat.mod_lt _ (by omega)
          have tn:(i+1).tmod (rest.length:Int)=((q+1) % rest.length:Nat):=by rw [hi];exact tmod_nat
          have tp:(i+(rest.length:Int) - 1).tmod (rest.length:Int)=((q+rest.length - 1) % rest.length:Nat):=by rw [hi];exact tmod_prev (by omega)
          have ep:at2 rest ((q+rest.length - 1) % rest.length)=prv rest q:=by unfold prv;rfl
          have en:at2 rest ((q+1) % rest.length)=nxt rest q:=by unfold nxt;rfl
          have w1:wide (at2 rest q)=true:=rightS_wide (all_at hr hq)
          have w2:wide (nxt rest q)=true:=by rw [← en];exact rightS_wide (all_at hr hn)
          have w3:wide (prv rest q)=true:=by rw [← ep];exact rightS_wide (all_at hr hp)
          repeat' first
           |(exfalso
             simp only [cA_add,cA_sub,cA_rem,cA_fits,cA_lt,cA_le,cA_eq,cA_notB,cA_andB,cA_num,cA_subN,cA_toN,fitsK,ble_t,ble_f,beq_t,beq_f,flat2,flatT,tn,tp,Bool.not_eq_false',Bool.not_eq_true',Bool.and_eq_false_iff,Bool.and_eq_true,decide_eq_true_eq,decide_eq_false_iff_not,List.length_append,List.length_take,List.length_drop,List.length_nil,List.length_cons,cA_ix,rep_len,putN] at g
             omega)
           |(exfalso
             have hg:(wide (at2 rest ((q+rest.length - 1) % rest.length))&&wide (at2 rest q)&&wide (at2 rest ((q+1) % rest.length)))=false:=g
             rw [ep,en,w1,w2,w3] at hg
             cases hg)
           |(((conv=>whnf);refine bm (fun g=>?_) (fun g=>?_)))
           |((conv=>whnf)
             refine boL (getPJ rest J hq ?_) ?_
             ·simp [cfgS,std];omega)
           |((conv=>whnf)
             refine boL (getPJ rest J hn ?_) ?_
             ·show 0+((i+1).tmod (rest.length:Int)).toNat*2=_
              rw [tn,Int.toNat_natCast,Nat.zero_add])
           |((conv=>whnf)
             refine boL (getPJ rest J hp ?_) ?_
             ·show 0+((i+(rest.length:Int) - 1).tmod (rest.length:Int)).toNat*2=_
              rw [tp,Int.toNat_natCast,Nat.zero_add])
          all_goals (conv=>whnf)
          ·have hle:turnS (prv rest q) (at2 rest q) (nxt rest q)≤0:=by
            have hg:decide (turnS (at2 rest ((q+rest.length - 1) % rest.length)) (at2 rest q) (at2 rest ((q+1) % rest.length))≤0)=true:=by assumption
            rw [ep,en] at hg
            exact of_decide_eq_true hg
           refine⟨rest.length - (q+1),by omega,?_⟩
           refine Into_id (e0:=eQe rest.length c (sT out.length) (i+1)) (h0:=(hQo l (flat elP.fl rest++J) out)) (n0:=3) ⟨q+1,i+1,by omega,hq,rfl,no_more hno (earB_no hle),rfl,rfl,rfl⟩ ?_ ?_ (by decide)
           ·unfold eQe sQ sT
            ((repeat' refine iE rfl rfl ?_);exact iN)
           ·unfold hQo
            ((repeat'(first|refine iW rfl rfl (ObjRen_g (gJ hgJ)) ?_|refine iF rfl rfl ?_|refine iJ rfl rfl rfl rfl ?_));exact iN)
          ·have hpos:0<turnS (prv rest q) (at2 rest q) (nxt rest q):=by
            have hg:decide (turnS (at2 rest ((q+rest.length - 1) % rest.length)) (at2 rest q) (at2 rest ((q+1) % rest.length))≤0)=false:=g
            rw [ep,en] at hg
            have:=of_decide_eq_false hg
            omega
           rw [ep,en]
           refine⟨fun m e h nx=>∃ (k:Nat) (s:Int),s=k∧k≤rest.length∧m=rest.length - k∧(∀ j,j<k→clearB (prv rest q) (at2 rest q) (nxt rest q) (at2 rest j)=true)∧e=eQi rest.length c (sT out.length) i s 3∧h=(hQo l (flat elP.fl rest++J) out)++pQ 3 (prv rest q) (at2 rest q) (nxt rest q)∧nx=3+3,⟨rest.length,?_⟩,?_⟩
           ·refine Into_id (e0:=eQi rest.length c (sT out.length) i 0 3) (h0:=(hQo l (flat elP.fl rest++J) out)++pQ 3 (prv rest q) (at2 rest q) (nxt rest q)) (n0:=3+3) ⟨0,0,rfl,Nat.zero_le _,rfl,fun j h=>absurd h (Nat.not_lt_zero j),rfl,rfl,rfl⟩ ?_ ?_ (by decide)
            ·unfold eQi sQ sT
             ((repeat' refine iE rfl rfl ?_);exact iN)
            ·unfold hQo pQ
             ((repeat'(first|refine iW rfl rfl (ObjRen_g (gJ hgJ)) ?_|refine iF rfl rfl ?_|refine iJ rfl rfl rfl rfl ?_));exact iN)
           ·rintro m e h nx ⟨k,s,hs,hks,rfl,hcl,rfl,rfl,rfl⟩
            have hNo:=fun (x:clearB (prv rest q) (at2 rest q) (nxt rest q) (at2 rest k)=false) (y:k<rest.length)=>earB_not (i:=q) y x
            have hYes:=fun (x:k=rest.length)=>earB_yes (l:=rest) (i:=q) hpos (fun j hj=>hcl j (by omega))
            have hTri:triE rest q=(prv rest q,at2 rest q,nxt rest q):=by unfold triE;rfl
            generalize prv rest q=A at hcl hNo hYes w3 hTri ⊢
            generalize at2 rest q=B at hcl hNo hYes w1 hTri ⊢
            generalize nxt rest q=C at hcl hNo hYes w2 hTri ⊢
            unfold eQi sQ hQo pQ sT
            ((conv=>whnf);refine bm (fun g3=>?_) (fun g3=>?_))
            ·have hlt:k<rest.length:=by simp only [cA_lt,decide_eq_true_eq] at g3;omega
             have w4:=rightS_wide (all_at hr hlt)
             have wAll:(wide A&&wide B&&wide C&&wide (at2 rest k))=true:=by rw [w1,w2,w3,w4];rfl
             have hNo:=fun x=>hNo x hlt
             clear hYes hTri hpos
             repeat' first
              |(exfalso
                simp only [cA_add,cA_fits,cA_lt,cA_le,cA_andB,cA_num,fitsK,Bool.and_eq_false_iff,decide_eq_false_iff_not] at g
                omega)
              |(exfalso
                have hg:(wide A&&wide B&&wide C&&wide (at2 rest k))=false:=g
                rw [wAll] at hg
                cases hg)
              |(((conv=>whnf);refine bm (fun g=>?_) (fun g=>?_)))
              |((conv=>whnf)
                refine boL (getPJ rest J hlt ?_) ?_
                ·simp [cfgS,std];omega)
             all_goals (conv=>whnf)
             all_goals generalize hpk:at2 rest k=p at *
             all_goals first
              |(skip
                have hclp:clearB A B C p=true:=by
                 clear hno hcl hNo hpk tn tp hn hp ep en w1 w2 w3 w4 wAll hT
                 unfold clearB eqP
                 simp only [cA_eq,cA_andB,cA_notB,cA_eqB,Bool.and_true] at *
                 generalize (decide (p.1=A.1)&&decide (p.2=A.2))=x1 at *
                 generalize (decide (p.1=B.1)&&decide (p.2=B.2))=x2 at *
                 generalize (decide (p.1=C.1)&&decide (p.2=C.2))=x3 at *
                 generalize holdB A B C p=x4 at *
                 clear g1 g2 g3
                 cases x1 <;> cases x2 <;> cases x3 <;> cases x4 <;> simp_all
                refine⟨rest.length - (k+1),by omega,?_⟩
                refine Into_id (e0:=eQi rest.length c (sT out.length) i (s+1) 3) (h0:=(hQo l (flat elP.fl rest++J) out)++pQ 3 A B C) (n0:=3+3) ⟨k+1,s+1,by omega,hlt,rfl,fun j hj=>?_,rfl,rfl,rfl⟩ ?_ ?_ (by decide)
                ·by_cases hjk:j=k
                 ·subst hjk
                  rw [hpk]
                  exact hclp
                 ·exact hcl j (by omega)
                ·unfold eQi sQ sT
                 ((repeat' refine iE rfl rfl ?_);exact iN)
                ·unfold hQo pQ
                 ((repeat'(first|refine iW rfl rfl (ObjRen_g (gJ hgJ)) ?_|refine iF rfl rfl ?_|refine iJ rfl rfl rfl rfl ?_));exact iN)
               )
              |(skip
                have hclp:clearB A B C p=false:=by
                 clear hno hcl hNo hpk tn tp hn hp ep en w1 w2 w3 w4 wAll hT
                 unfold clearB eqP
                 simp only [cA_eq,cA_andB,cA_notB,cA_eqB,Bool.and_true] at *
                 generalize (decide (p.1=A.1)&&decide (p.2=A.2))=x1 at *
                 generalize (decide (p.1=B.1)&&decide (p.2=B.2))=x2 at *
                 generalize (decide (p.1=C.1)&&decide (p.2=C.2))=x3 at *
                 generalize holdB A B C p=x4 at *
                 clear g1 g2 g3
                 cases x1 <;> cases x2 <;> cases x3 <;> cases x4 <;> simp_all
                refine⟨rest.length - (q+1),by omega,?_⟩
                refine Into_id (e0:=eQe rest.length c (sT out.length) (i+1)) (h0:=(hQo l (flat elP.fl rest++J) out)) (n0:=3) ⟨q+1,i+1,by omega,hq,rfl,no_more hno (hNo hclp),rfl,rfl,rfl⟩ ?_ ?_ (by decide)
                ·unfold eQe sQ sT
                 ((repeat' refine iE rfl rfl ?_);exact iN)
                ·unfold hQo
                 ((repeat'(first|refine iW rfl rfl (ObjRen_g (gJ hgJ)) ?_|refine iF rfl rfl ?_|refine iJ rfl rfl rfl rfl ?_));exact iN)
               )
              |trace_state
            ·have hkl:k=rest.length:=by simp only [cA_lt,decide_eq_false_iff_not] at g3;omega
             have hear:=hYes hkl
             clear hYes hNo
             subst hkl
             have hF:=fE_is hq hear hno
             rw [triL_step h4 rfl hF] at hT
             obtain⟨M,hM⟩:∃ M:Nat,rest.length=M+1:=⟨rest.length - 1,by omega⟩
             have hMn:cfg4.A.num rest.length=((M+1:Nat):Int):=by rw [c4A,cA_num,hM]
             rcases Nat.lt_or_ge (q+1) c with c1|c1
             all_goals repeat' first
              |(exfalso
                simp only [cA_add,cA_sub,cA_rem,cA_fits,cA_lt,cA_le,cA_eq,cA_notB,cA_andB,cA_num,cA_subN,cA_toN,fitsK,ble_t,ble_f,beq_t,beq_f,flat2,flatT,Bool.not_eq_false',Bool.not_eq_true',Bool.and_eq_false_iff,Bool.and_eq_true,decide_eq_true_eq,decide_eq_false_iff_not,List.length_append,List.length_take,List.length_drop,List.length_nil,List.length_cons,cA_ix,rep_len,putN] at g
                omega)
              |(((conv=>whnf);refine bm (fun g=>?_) (fun g=>?_)))
             all_goals (conv=>whnf)
             all_goals rw [hMn]
             all_goals repeat' first
              |(exfalso
                simp only [c4A,hMn,cA_add,cA_sub,cA_rem,cA_fits,cA_lt,cA_le,cA_eq,cA_notB,cA_andB,cA_num,cA_subN,cA_toN,fitsK,ble_t,ble_f,beq_t,beq_f,flat2,flatT,Bool.not_eq_false',Bool.not_eq_true',Bool.and_eq_false_iff,Bool.and_eq_true,decide_eq_true_eq,decide_eq_false_iff_not,List.length_append,List.length_take,List.length_drop,List.length_nil,List.length_cons,cA_ix,rep_len,putN] at g
                omega)
              |(((conv=>whnf);refine bm (fun g=>?_) (fun g=>?_)))
             all_goals (conv=>whnf)
             ·have hE:cfg4.A.subN (cfg4.A.toN (cfg4.A.num rest.length)) (cfg4.A.toN (cfg4.A.num (cfg4.A.toN i+cfg4.A.subN rest.length (cfg4.A.toN (cfgS.A.add i 1)))))=1:=by
               simp only [c4A,cA_num,cA_toN,cA_subN,cA_add]
               omega
              rw [hE]
              repeat' first
               |(exfalso
                 simp only [c4A,hMn,cA_add,cA_sub,cA_rem,cA_fits,cA_lt,cA_le,cA_eq,cA_notB,cA_andB,cA_num,cA_subN,cA_toN,fitsK,ble_t,ble_f,beq_t,beq_f,flat2,flatT,Bool.not_eq_false',Bool.not_eq_true',Bool.and_eq_false_iff,Bool.and_eq_true,decide_eq_true_eq,decide_eq_false_iff_not,List.length_append,List.length_take,List.length_drop,List.length_nil,List.length_cons,cA_ix,rep_len,putN] at g
                 omega)
               |(((conv=>whnf);refine bm (fun g=>?_) (fun g=>?_)))
              all_goals (conv=>whnf)
              have hdl:=delI_len hq
              have hX:cfg4.A.toN i+cfg4.A.subN rest.length (cfg4.A.toN (cfgS.A.add i 1))=(delI rest q).length:=by
               simp only [c4A,cA_num,cA_toN,cA_subN,cA_add]
               omega
              rw [hX]
              refine⟨(delI rest q).length,by omega,?_⟩
              have hrl:(out++[triE rest q]).length=out.length+1:=by simp
              refine Into_mv2 (e0:=eQ (delI rest q).length c (sT (out.length+1))) (o0:=.cells false true 2 (flat elP.fl l)) (o1:=.cells true false 2 (flat elP.fl (delI rest q)++([iv 0,iv 0]++J))) (o2:=.cells true false 6 (flat elT.fl (out++[triE rest q]))) (n0:=3) 1 7 (by decide) (by decide)
               ⟨delI rest q,out++[triE rest q],[iv 0,iv 0]++J,c,rfl,by omega,by rw [hrl];omega,delI_right hr q,by rw [hdl];exact hT,by omega,by rw [allG_append,hgJ];rfl,by rw [List.length_append,hJ];show 2+_=_;omega,.inr ⟨by rw [hrl];exact Nat.succ_pos _,by rw [hrl];rfl,rfl,rfl⟩⟩ ?_ ?_
              ·unfold eQ sQ sT
               ((repeat' refine iE rfl rfl ?_);exact iN)
              ·refine List.forall_mem_cons.2 ⟨⟨Nat.le_of_ble_eq_true rfl,_,rfl,ObjRen_g (flat_g _ _)⟩,List.forall_mem_cons.2 ⟨⟨Nat.le_of_ble_eq_true rfl,_,rfl,ObjRen_j (gJ (by rw [allG_append,hgJ];rfl)) (delJ (Z:=[iv 0,iv 0]) hq ?_ ?_ ?_ ?_ rfl)⟩,List.forall_mem_cons.2 ⟨⟨Nat.le_of_ble_eq_true rfl,_,rfl,ObjRen_j (flat_g elT _) ?_⟩,fun _ h=>(by cases h)⟩⟩⟩
               all_goals first
                |(simp only [c4A,cA_num,cA_toN,cA_subN,cA_add,cA_ix,← hX];omega)
                |(simp only [c4A,cA_num,cA_toN,cA_subN,cA_add,cA_ix];omega)
                |(refine flatT_grow rfl rfl ?_;rw [hTri];rfl)
             ·have hE:cfg4.A.subN (cfg4.A.toN (cfg4.A.num rest.length)) (cfg4.A.toN (cfg4.A.num (cfg4.A.toN i+0)))=1:=by
               simp only [c4A,cA_num,cA_toN,cA_subN,cA_add]
               omega
              rw [hE]
              repeat' first
               |(exfalso
                 simp only [c4A,hMn,cA_add,cA_sub,cA_rem,cA_fits,cA_lt,cA_le,cA_eq,cA_notB,cA_andB,cA_num,cA_subN,cA_toN,fitsK,ble_t,ble_f,beq_t,beq_f,flat2,flatT,Bool.not_eq_false',Bool.not_eq_true',Bool.and_eq_false_iff,Bool.and_eq_true,decide_eq_true_eq,decide_eq_false_iff_not,List.length_append,List.length_take,List.length_drop,List.length_nil,List.length_cons,cA_ix,rep_len,putN] at g
                 omega)
               |(((conv=>whnf);refine bm (fun g=>?_) (fun g=>?_)))
              all_goals (conv=>whnf)
              have hdl:=delI_len hq
              have hX:cfg4.A.toN i+0=(delI rest q).length:=by
               simp only [c4A,cA_num,cA_toN,cA_subN,cA_add]
               omega
              rw [hX]
              refine⟨(delI rest q).length,by omega,?_⟩
              have hrl:(out++[triE rest q]).length=out.length+1:=by simp
              refine Into_mv2 (e0:=eQ (delI rest q).length c (sT (out.length+1))) (o0:=.cells false true 2 (flat elP.fl l)) (o1:=.cells true false 2 (flat elP.fl (delI rest q)++([iv 0,iv 0]++J))) (o2:=.cells true false 6 (flat elT.fl (out++[triE rest q]))) (n0:=3) 1 7 (by decide) (by decide)
               ⟨delI rest q,out++[triE rest q],[iv 0,iv 0]++J,c,rfl,by omega,by rw [hrl];omega,delI_right hr q,by rw [hdl];exact hT,by omega,by rw [allG_append,hgJ];rfl,by rw [List.length_append,hJ];show 2+_=_;omega,.inr ⟨by rw [hrl];exact Nat.succ_pos _,by rw [hrl];rfl,rfl,rfl⟩⟩ ?_ ?_
              ·unfold eQ sQ sT
               ((repeat' refine iE rfl rfl ?_);exact iN)
              ·refine List.forall_mem_cons.2 ⟨⟨Nat.le_of_ble_eq_true rfl,_,rfl,ObjRen_g (flat_g _ _)⟩,List.forall_mem_cons.2 ⟨⟨Nat.le_of_ble_eq_true rfl,_,rfl,ObjRen_j (gJ (by rw [allG_append,hgJ];rfl)) (delJ0 (Z:=[iv 0,iv 0]) (by omega) ?_ ?_ rfl)⟩,List.forall_mem_cons.2 ⟨⟨Nat.le_of_ble_eq_true rfl,_,rfl,ObjRen_j (flat_g elT _) ?_⟩,fun _ h=>(by cases h)⟩⟩⟩
               all_goals first
                |(simp only [c4A,cA_num,cA_toN,cA_subN,cA_add,cA_ix,← hX];omega)
                |(simp only [c4A,cA_num,cA_toN,cA_subN,cA_add,cA_ix];omega)
                |(refine flatT_grow rfl rfl ?_;rw [hTri];rfl)
         ·have hkl:q=rest.length:=by simp only [cA_lt,decide_eq_false_iff_not] at g2;omega
          subst hkl
          (conv=>whnf)
          rw [triL_stop h4 rfl (by rw [fE_none hno];decide)] at hT
          rw [← hT]
          exact Yields_own (l:=out) (e:=some 0) (q:=2) (nx:=0) elT ho rfl
       ·have h4:rest.length=3:=by simp only [cA_lt,cA_num,decide_eq_false_iff_not] at g1;omega
        rw [triL_end h4 rfl] at hT
        rw [← hT]
        repeat' first
         |(exfalso
           simp only [cA_lt,cA_le,cA_andB,cA_num,ble_t,ble_f,beq_t,beq_f,flatT,Bool.and_eq_false_iff,Bool.and_eq_true,decide_eq_true_eq,decide_eq_false_iff_not,List.length_append,List.length_take,List.length_drop,List.length_nil,List.length_cons] at g
           omega)
         |(((conv=>whnf);refine bm (fun g=>?_) (fun g=>?_)))
         |((conv=>whnf)
           refine boL (getPJ rest J (i:=0) (by omega) rfl) ?_)
         |((conv=>whnf)
           refine boL (getPJ rest J (i:=1) (by omega) rfl) ?_)
         |((conv=>whnf)
           refine boL (getPJ rest J (i:=2) (by omega) rfl) ?_)
        all_goals (conv=>whnf)
        all_goals first
         |exact⟨3,rfl,rfl⟩
         |(refine Yields_atT (q:=4) (nx:=5) ?_ ?_ ?_ ⟨_,rfl,?_⟩
           ·simp
           ·simp
           ·simp
           ·exact flatT_grow rfl rfl rfl)
    ·exfalso
     have hg3:(goodL l&&decide (0<(rawI l l.length).length))=false:=g2
     rw [goodL_iff.2 hg,decide_eq_true hrp] at hg3
     cases hg3
  ·rw [show triO l=[] by unfold triO;rw [if_neg hz]]
   ((conv=>whnf);refine bm (fun g1=>?_) (fun g1=>?_))
   ·rfl
   ·exfalso
    simp only [cA_eq,cA_notB,Bool.not_eq_false',decide_eq_true_eq] at g1
    exact hz g1
 ·exfalso
  have hg:decide (l.length≤1000000000)=false:=h1
  rw [decide_eq_false_iff_not] at hg
  omega
end Go.Aw
end
