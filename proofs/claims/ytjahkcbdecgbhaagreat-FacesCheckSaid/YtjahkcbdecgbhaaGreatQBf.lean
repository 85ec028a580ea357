/-
  Parts of the proof, put together. No condition.
-/
import Derived.Test.YtjahkcbdecgbhaaGreatQBe
set_option linter.unusedSimpArgs false
set_option linter.unusedVariables false
noncomputable section
namespace Go.Aw
set_option maxRecDepth 100000
set_option maxHeartbeats 4000000
def e153d (N:Nat)(j:Int):List (Nat × Value):=[(3,.pointer (some ⟨3,0,none⟩)),(118,.slice (some ⟨5,0,none⟩) N N),(119,iv N),(120,iv j)]
theorem w153 (l:List Pt)(m:List Ed)(n:Int)(c1 c2:Nat)(hok:lstB l m n=true):body [(160,frD (srtS 1000))] 153 [mapV2 l.length m.length c1 c2 n] (mapH2 elP elE l m) 2 (fun v h nx=>Outc (.pointer (some ⟨4,0,none⟩)) (webH l m c1 c2 n (2*m.length) (dts l m m.length) (outs l m)) 2000 v h nx):=by
 have hsz:l.length≤400∧3≤m.length∧m.length≤400:=by
  simp only [lstB,szB,Bool.and_eq_true,decide_eq_true_eq] at hok
  omega
 obtain⟨hl,hm3,hm⟩:=hsz
 have hM:okM l m=true:=by
  simp only [lstB,Bool.and_eq_true] at hok
  exact okM_of (by omega) (by omega) (fun i hi=>allN_at hok.2.1 hi) (fun i hi=>allN_at hok.2.2.1 hi)
 (conv=>whnf)
 refine⟨I153 l m n c1 c2,vany_of det153 noY_det (n153__000 l m n c1 c2 hl).h,?_⟩
 rintro e h nx ⟨rfl,rfl,rfl⟩
 unfold e153a h153a mapH2
 (conv=>whnf)
 refine⟨fun q e h nx=>∃ (i:Nat) (j:Int),j=i∧i≤m.length∧q=m.length - i∧e=e153b m c2 j∧((i=0∧h=h153a l m c1 c2 n∧nx=6)∨(0<i∧(∃ k,k=2*i∧h=h153b l m c1 c2 n k (dts l m i))∧nx=7)),⟨m.length,?_⟩,?_⟩
 ·refine Into_id (e0:=e153b m c2 0) (h0:=h153a l m c1 c2 n) (n0:=6) ⟨0,0,rfl,Nat.zero_le _,rfl,rfl,.inl ⟨rfl,rfl,rfl⟩⟩ ?_ ?_ (by decide)
  ·unfold e153b;((repeat'(refine List.forall_mem_cons.2 ⟨⟨rfl,?_⟩,?_⟩;(first|exact scT_g rfl|exact⟨by decide,rfl⟩|exact⟨by decide,fun h=>(by cases h)⟩)));exact fun _ h=>(by cases h))
  ·unfold h153a bxM mapH2 wbC nilS
   refine List.forall_mem_cons.2 ⟨⟨Nat.le_of_ble_eq_true rfl,_,rfl,ObjRen_g (repG _)⟩,?_⟩
   ((repeat'(refine List.forall_mem_cons.2 ⟨⟨Nat.le_of_ble_eq_true rfl,_,rfl,?_⟩,?_⟩;(first|exact ObjRen_g (flat_g _ _)|(refine ObjRen_2 ?_;(repeat'(refine List.forall_mem_cons.2 ⟨⟨rfl,?_⟩,?_⟩;(first|exact scS_g rfl|exact⟨by decide,rfl⟩|exact⟨by decide,fun h=>(by cases h)⟩)));exact fun _ h=>(by cases h))|(refine⟨rfl,rfl,rfl,rfl,?_⟩;(repeat'(refine List.forall_mem_cons.2 ⟨?_,?_⟩;(first|exact scS_g rfl|exact⟨by decide,rfl⟩|exact⟨by decide,fun h=>(by cases h)⟩)));exact fun _ h=>(by cases h))|exact ObjRen_j rfl rfl)));exact fun _ h=>(by cases h))
 ·rintro q e h nx ⟨i,j,hj,hi,rfl,rfl,⟨hi0,rfl,rfl⟩|⟨hip,⟨k,hk,rfl⟩,rfl⟩⟩
  ·subst hi0
   unfold e153b h153a bxM mapH2 wbC
   ((conv=>whnf);refine bm (fun h1=>?_) (fun h1=>?_))
   ·have he:=okM_at hM (i:=0) (by omega)
    have pa:=rgt_of hok (i:=(atE m 0).a.toNat) (by omega)
    have pb:=rgt_of hok (i:=(atE m 0).b.toNat) (by omega)
    repeat' first
     |(((conv=>whnf);refine bm (fun g=>?_) (fun g=>?_)))
     |((conv=>whnf)
       refine boL (getE m (i:=0) (by omega) ?_) ?_
       ·show _+Int.toNat j*5=_;omega)
     |((conv=>whnf)
       refine boL (getPt l (i:=(atE m 0).a.toNat) (by omega) ?_) ?_
       ·show _+Int.toNat (atE m 0).a*2=_;omega)
     |((conv=>whnf)
       refine boL (getPt l (i:=(atE m 0).b.toNat) (by omega) ?_) ?_
       ·show _+Int.toNat (atE m 0).b*2=_;omega)
    all_goals first
     |(exfalso;simp [cfgS,std,fitsK] at g;omega)
     |(exfalso;simp [cfgS,std] at g;rw [g] at hm3;simp at hm3)
     |skip
    (conv=>whnf)
    refine⟨m.length - 1,by omega,?_⟩
    refine Into_rn (e0:=e153b m c2 (j+1)) (h0:=h153b l m c1 c2 n 2 (dts l m 1)) (n0:=7) [(6,10)] ⟨1,_,by omega,by omega,rfl,rfl,.inr ⟨Nat.one_pos,⟨2,rfl,rfl⟩,rfl⟩⟩ ?_ ?_ ?_ (by decide) (by decide)
    ·unfold e153b;((repeat'(refine List.forall_mem_cons.2 ⟨⟨rfl,?_⟩,?_⟩;(first|exact scT_g rfl|exact⟨by decide,rfl⟩|exact⟨by decide,fun h=>(by cases h)⟩)));exact fun _ h=>(by cases h))
    ·unfold h153b bxM mapH2 wbC
     refine List.forall_mem_cons.2 ⟨⟨Nat.le_of_ble_eq_true rfl,_,rfl,ObjRen_j (flat_g _ _) (by subst hj;rfl)⟩,List.forall_mem_cons.2 ⟨⟨Nat.le_of_ble_eq_true rfl,_,rfl,ObjRen_g (repG _)⟩,?_⟩⟩
     ((repeat'(refine List.forall_mem_cons.2 ⟨⟨Nat.le_of_ble_eq_true rfl,_,rfl,?_⟩,?_⟩;(first|exact ObjRen_g (flat_g _ _)|(refine ObjRen_2 ?_;(repeat'(refine List.forall_mem_cons.2 ⟨⟨rfl,?_⟩,?_⟩;(first|exact scS_g rfl|exact⟨by decide,rfl⟩|exact⟨by decide,fun h=>(by cases h)⟩)));exact fun _ h=>(by cases h))|(refine⟨rfl,rfl,rfl,rfl,?_⟩;(repeat'(refine List.forall_mem_cons.2 ⟨?_,?_⟩;(first|exact scS_g rfl|exact⟨by decide,rfl⟩|exact⟨by decide,fun h=>(by cases h)⟩)));exact fun _ h=>(by cases h))|exact ObjRen_j rfl rfl)));exact fun _ h=>(by cases h))
    ·show ∀ k∈[6,5,3,4,2,0,1],∀ k'∈[6,5,3,4,2,0,1],_
     decide
   ·exfalso;simp [cfgS,std] at h1;omega
  ·have hdl:=dts_len l m i
   generalize hD:dts l m i=D at hdl
   unfold e153b h153b bxM mapH2 wbC
   ((conv=>whnf);refine bm (fun h1=>?_) (fun h1=>?_))
   ·have hlt:i<m.length:=by simp [cfgS,std] at h1;omega
    have he:=okM_at hM (i:=i) (by omega)
    have pa:=rgt_of hok (i:=(atE m i).a.toNat) (by omega)
    have pb:=rgt_of hok (i:=(atE m i).b.toNat) (by omega)
    repeat' first
     |((conv=>whnf)
       refine bm2 (k:=k) ?_)
     |(((conv=>whnf);refine bm (fun g=>?_) (fun g=>?_)))
     |((conv=>whnf)
       refine boL (getE m (i:=i) (by omega) ?_) ?_
       ·show _+Int.toNat j*5=_;omega)
     |((conv=>whnf)
       refine boL (getPt l (i:=(atE m i).a.toNat) (by omega) ?_) ?_
       ·show _+Int.toNat (atE m i).a*2=_;omega)
     |((conv=>whnf)
       refine boL (getPt l (i:=(atE m i).b.toNat) (by omega) ?_) ?_
       ·show _+Int.toNat (atE m i).b*2=_;omega)
    all_goals first
     |(exfalso;simp [cfgS,std,fitsK] at g;omega)
     |(exfalso;simp [cfgS,std] at g;rw [g] at hm3;simp at hm3)
     |skip
    ·(conv=>whnf)
     refine⟨m.length - (i+1),by omega,?_⟩
     refine Into_rn (e0:=e153b m c2 (j+1)) (h0:=h153b l m c1 c2 n (k+2) (dts l m (i+1))) (n0:=7) [(6,11)] ⟨i+1,_,by omega,by omega,rfl,rfl,.inr ⟨by omega,⟨k+2,by omega,rfl⟩,rfl⟩⟩ ?_ ?_ ?_ (by decide) (by decide)
     ·unfold e153b;((repeat'(refine List.forall_mem_cons.2 ⟨⟨rfl,?_⟩,?_⟩;(first|exact scT_g rfl|exact⟨by decide,rfl⟩|exact⟨by decide,fun h=>(by cases h)⟩)));exact fun _ h=>(by cases h))
     ·unfold h153b bxM mapH2 wbC
      refine List.forall_mem_cons.2 ⟨⟨Nat.le_of_ble_eq_true rfl,_,rfl,ObjRen_j (flat_g _ _) ?_⟩,List.forall_mem_cons.2 ⟨⟨Nat.le_of_ble_eq_true rfl,_,rfl,ObjRen_g (repG _)⟩,?_⟩⟩
      ·rw [dts,hD]
       have hg:=flat_grow2 elD D (dA l m i) (dB l m i) (n:=k) (by omega)
       rw [← hg]
       unfold dA dB
       rw [← hj]
       rfl
      ·((repeat'(refine List.forall_mem_cons.2 ⟨⟨Nat.le_of_ble_eq_true rfl,_,rfl,?_⟩,?_⟩;(first|exact ObjRen_g (flat_g _ _)|(refine ObjRen_2 ?_;(repeat'(refine List.forall_mem_cons.2 ⟨⟨rfl,?_⟩,?_⟩;(first|exact scS_g rfl|exact⟨by decide,rfl⟩|exact⟨by decide,fun h=>(by cases h)⟩)));exact fun _ h=>(by cases h))|(refine⟨rfl,rfl,rfl,rfl,?_⟩;(repeat'(refine List.forall_mem_cons.2 ⟨?_,?_⟩;(first|exact scS_g rfl|exact⟨by decide,rfl⟩|exact⟨by decide,fun h=>(by cases h)⟩)));exact fun _ h=>(by cases h))|exact ObjRen_j rfl rfl)));exact fun _ h=>(by cases h))
     ·show ∀ k∈[6,5,3,4,2,0,1],∀ k'∈[6,5,3,4,2,0,1],_
      decide
    ·exact app_no2 (by rw [flat_len,hdl,hk];rfl) (by omega) g
   ·have hge:i=m.length:=by simp [cfgS,std] at h1;omega
    have hDe:D=dts l m m.length:=by rw [← hD,hge]
    have hDk:D.length=k:=by omega
    clear hD hdl hip
    (conv=>whnf)
    refine⟨fun q e h nx=>∃ (i:Nat) (j:Int),j=i∧i≤k∧q=k - i∧e=e153c k j∧h=h153c l m c1 c2 n k D (sD l.length D i) (outN l.length D i)∧nx=2000,⟨k,?_⟩,?_⟩
    ·refine Into_id (e0:=e153c k 0) (h0:=h153c l m c1 c2 n k D (sD l.length D 0) (outN l.length D 0)) (n0:=2000) ⟨0,0,rfl,Nat.zero_le _,rfl,rfl,rfl,rfl⟩ ?_ ?_ (by decide)
     ·unfold e153c;((repeat'(refine List.forall_mem_cons.2 ⟨⟨rfl,?_⟩,?_⟩;(first|exact scT_g rfl|exact⟨by decide,rfl⟩|exact⟨by decide,fun h=>(by cases h)⟩)));exact fun _ h=>(by cases h))
     ·rw [show outN l.length D 0=List.replicate l.length [] from rfl,h153c_0]
      unfold h153b bxM mapH2 wbC
      refine List.forall_mem_cons.2 ⟨⟨Nat.le_of_ble_eq_true rfl,_,rfl,ObjRen_g (flat_g _ _)⟩,List.forall_mem_cons.2 ⟨⟨Nat.le_of_ble_eq_true rfl,_,rfl,ObjRen_g (repG _)⟩,?_⟩⟩
      ((repeat'(refine List.forall_mem_cons.2 ⟨⟨Nat.le_of_ble_eq_true rfl,_,rfl,?_⟩,?_⟩;(first|exact ObjRen_g (flat_g _ _)|(refine ObjRen_2 ?_;(repeat'(refine List.forall_mem_cons.2 ⟨⟨rfl,?_⟩,?_⟩;(first|exact scS_g rfl|exact⟨by decide,rfl⟩|exact⟨by decide,fun h=>(by cases h)⟩)));exact fun _ h=>(by cases h))|(refine⟨rfl,rfl,rfl,rfl,?_⟩;(repeat'(refine List.forall_mem_cons.2 ⟨?_,?_⟩;(first|exact scS_g rfl|exact⟨by decide,rfl⟩|exact⟨by decide,fun h=>(by cases h)⟩)));exact fun _ h=>(by cases h))|exact ObjRen_j rfl rfl)));exact fun _ h=>(by cases h))
    ·rintro q e h nx ⟨i,j,hj,hi,rfl,rfl,rfl,rfl⟩
     by_cases hlt:i<k
     ·have hf:=dts_fr (l:=l) hM (i:=i) (by omega)
      rw [← hDe] at hf
      have hol:=outN_len l.length D i
      have hle:=outN_le l.length D i (atD D i).fr.toNat fun i' hi'=>by
       have:=(dts_fr (l:=l) hM (i:=i') (by omega))
       rw [← hDe] at this
       omega
      have hnx:outN l.length D (i+1)=(outN l.length D i).set (atD D i).fr.toNat (atL (outN l.length D i) (atD D i).fr.toNat++[(atD D i).no]):=rfl
      rw [show sD l.length D i=(atD D i).fr.toNat from if_pos (by omega)]
      generalize outN l.length D i=ls at hol hnx hle ⊢
      generalize hs:(atD D i).fr.toNat=s at hnx hle ⊢
      by_cases h0:(atL ls s).length=0
      ·have ho7:op7 (atL ls s)=[]:=if_pos h0
       have hvv:tV (tN s s) (atL ls s)=nilS:=if_pos h0
       have key:∀ o,o=s*1→nth (tC s ls) o=some nilS:=fun o ho=>by rw [tC_nth (by omega) ho,hvv]
       unfold e153c h153c bxM wbC
       rw [ho7]
       repeat' first
        |(((conv=>whnf);refine bm (fun g=>?_) (fun g=>?_)))
        |((conv=>whnf)
          refine boL (getDt D (i:=i) (by omega) ?_) ?_
          ·show _+Int.toNat j*5=_;omega)
        |((conv=>whnf)
          refine boV (key _ ?_) ?_
          ·show _+Int.toNat (atD D i).fr*1=_;omega)
       all_goals first
        |(exfalso;simp [cfgS,std,fitsK] at g;omega)
        |(exfalso;simp [cfgS,std] at g;rw [g] at hm3;simp at hm3)
        |(exfalso
          have hb:Nat.ble (0+Int.toNat (atD D i).fr*1+1) (tC s ls).length=true:=Nat.ble_eq_true_of_le (by rw [tC_len];omega)
          exact Bool.false_ne_true (g.symm.trans hb))
        |skip
       (conv=>whnf)
       refine⟨k - (i+1),by omega,?_⟩
       refine into2 (s:=s) (s':=sD l.length D (i+1)) (q:=1) (ls:=ls) (x:=(atD D i).no) (j:=j+1) (D:=D) (k:=k) (l:=l) (m:=m) (c1:=c1) (c2:=c2) (n:=n) (by omega) (by omega) ⟨i+1,j+1,by omega,by omega,rfl,rfl,congrArg (h153c l m c1 c2 n k D (sD l.length D (i+1))) hnx.symm,rfl⟩ ?_ ?_ (by omega) ?_ ?_ ?_
       ·unfold e153c
        exact List.forall_mem_cons.2 ⟨rfl,List.forall_mem_cons.2 ⟨rfl,List.forall_mem_cons.2 ⟨rfl,List.forall_mem_cons.2 ⟨rfl,fun _ h=>(by cases h)⟩⟩⟩⟩
       ·unfold b153c bxM wbC
        exact List.forall_mem_cons.2 ⟨rfl,List.forall_mem_cons.2 ⟨rfl,List.forall_mem_cons.2 ⟨rfl,List.forall_mem_cons.2 ⟨rfl,List.forall_mem_cons.2 ⟨rfl,List.forall_mem_cons.2 ⟨rfl,fun _ h=>(by cases h)⟩⟩⟩⟩⟩⟩
       ·show some (AObj.cells true false 1 (putN (tC s ls) (0+Int.toNat (atD D i).fr*1) [.slice (some ⟨2002,0,none⟩) 1 1]))=_
        rw [putN_set (i:=s) (by omega) (by rw [tC_len];omega)]
       ·rw [List.eq_nil_of_length_eq_zero h0];rfl
       ·intro i1 a1 a2 a3
        repeat first
         |rw [look_upd_ne _ _ (by omega)]
         |rw [look_hput_ne _ _ (by omega)]
         |rw [look_ne (by omega)]
          |rw [look_rem,if_neg (by omega)]
        exact tH_look a2 a3 a1
      ·have ho7:op7 (atL ls s)=[(7,.cells true false 1 (flat elI.fl (atL ls s)))]:=if_neg h0
       generalize hq:(atL ls s).length=q at h0 hle
       have hvv:tV (tN s s) (atL ls s)=.slice (some ⟨7,0,none⟩) q q:=by rw [tV,if_neg (by omega),tN,if_pos rfl,hq]
       have hqk:q≤1000:=by omega
       have key:∀ o,o=s*1→nth (tC s ls) o=some (.slice (some ⟨7,0,none⟩) q q):=fun o ho=>by rw [tC_nth (by omega) ho,hvv]
       unfold e153c h153c bxM wbC
       rw [ho7]
       repeat' first
        |((conv=>whnf)
          refine bm1 (k:=q) ?_)
        |(((conv=>whnf);refine bm (fun g=>?_) (fun g=>?_)))
        |((conv=>whnf)
          refine boL (getDt D (i:=i) (by omega) ?_) ?_
          ·show _+Int.toNat j*5=_;omega)
        |((conv=>whnf)
          refine boV (key _ ?_) ?_
          ·show _+Int.toNat (atD D i).fr*1=_;omega)
       all_goals first
        |(exfalso;simp [cfgS,std,fitsK] at g;omega)
        |(exfalso;simp [cfgS,std] at g;rw [g] at hm3;simp at hm3)
        |(exfalso
          have hb:Nat.ble (0+Int.toNat (atD D i).fr*1+1) (tC s ls).length=true:=Nat.ble_eq_true_of_le (by rw [tC_len];omega)
          exact Bool.false_ne_true (g.symm.trans hb))
        |skip
       ·(conv=>whnf)
        refine⟨k - (i+1),by omega,?_⟩
        refine into2 (s:=s) (s':=sD l.length D (i+1)) (q:=q+1) (ls:=ls) (x:=(atD D i).no) (j:=j+1) (D:=D) (k:=k) (l:=l) (m:=m) (c1:=c1) (c2:=c2) (n:=n) (by omega) (by omega) ⟨i+1,j+1,by omega,by omega,rfl,rfl,congrArg (h153c l m c1 c2 n k D (sD l.length D (i+1))) hnx.symm,rfl⟩ ?_ ?_ (by omega) ?_ ?_ ?_
        ·unfold e153c
         exact List.forall_mem_cons.2 ⟨rfl,List.forall_mem_cons.2 ⟨rfl,List.forall_mem_cons.2 ⟨rfl,List.forall_mem_cons.2 ⟨rfl,fun _ h=>(by cases h)⟩⟩⟩⟩
        ·unfold b153c bxM wbC
         exact List.forall_mem_cons.2 ⟨rfl,List.forall_mem_cons.2 ⟨rfl,List.forall_mem_cons.2 ⟨rfl,List.forall_mem_cons.2 ⟨rfl,List.forall_mem_cons.2 ⟨rfl,List.forall_mem_cons.2 ⟨rfl,fun _ h=>(by cases h)⟩⟩⟩⟩⟩⟩
        ·show some (AObj.cells true false 1 (putN (tC s ls) (0+Int.toNat (atD D i).fr*1) [.slice (some ⟨2002,0,none⟩) (q+1) (q+1)]))=_
         rw [putN_set (i:=s) (by omega) (by rw [tC_len];omega)]
        ·have hg:=flat_growE elI (atL ls s) (atD D i).no (n:=q) hq.symm
         unfold ob
         rw [← hg]
         rfl
        ·intro i1 a1 a2 a3
         repeat first
          |rw [look_upd_ne _ _ (by omega)]
          |rw [look_hput_ne _ _ (by omega)]
          |rw [look_ne (by omega)]
          |rw [look_rem,if_neg (by omega)]
         show look ((7,_)::tH s ls ls.length) _=_
         rw [look_ne (by omega)]
         exact tH_look a2 a3 a1
       ·exact app_no (by rw [flat_len,hq];rfl) (by omega) g
     ·have hik:i=k:=by omega
      subst hik
      clear hlt hi
      rw [show sD l.length D i=l.length from if_neg (by omega)]
      have hol:=outN_len l.length D i
      have hfr:∀ i',i'<i→(atD D i').fr.toNat<l.length∧(atD D i').no=i':=fun i' hi'=>by
       have:=(dts_fr (l:=l) hM (i:=i') (by omega))
       rw [← hDe] at this
       omega
      have hout:∀ s,s<l.length→(atL (outN l.length D i) s).length≠0∧(atL (outN l.length D i) s).length≤1000∧inR D (atL (outN l.length D i) s)=true:=fun s hs=>by
       refine⟨?_,?_,?_⟩
       ·rw [outN_at i hfr s,hDe,show i=2*m.length by omega]
        exact lst_out hok hs
       ·have:=outN_le l.length D i s fun i' hi'=>(hfr i' hi').1
        omega
       ·rw [outN_at i hfr s]
        refine List.all_eq_true.2 fun x hx=>?_
        obtain⟨i',h1,rfl,_⟩:=dAt_mem hx
        simp only [Bool.and_eq_true,decide_eq_true_eq]
        omega
      have hW:allW D=true:=by rw [hDe];exact dts_allW hok hM
      generalize hlsE:outN l.length D i=ls at hol hout ⊢
      unfold e153c h153c bxM wbC
      ((conv=>whnf);refine bm (fun h1=>?_) (fun h1=>?_))
      ·exfalso;simp [cfgS,std] at h1;omega
      ·(conv=>whnf)
       refine⟨fun q e h nx=>∃ (t:Nat) (j:Int),j=t∧t≤l.length∧q=l.length - t∧e=e153d l.length j∧h=h153c l m c1 c2 n i D l.length (srN D ls t)∧nx=2000,⟨l.length,?_⟩,?_⟩
       ·refine into_web (e0:=e153d l.length 0) (ls:=srN D ls 0) (by rw [srN_len];omega) (by rw [srN_len];omega) ⟨0,0,rfl,Nat.zero_le _,rfl,rfl,rfl,rfl⟩ ?_ ?_ rfl ?_
        ·unfold e153d;((repeat'(refine List.forall_mem_cons.2 ⟨⟨rfl,?_⟩,?_⟩;(first|exact scT_g rfl|exact⟨by decide,rfl⟩|exact⟨by decide,fun h=>(by cases h)⟩)));exact fun _ h=>(by cases h))
        ·unfold b153c bxM wbC
         exact List.forall_mem_cons.2 ⟨rfl,List.forall_mem_cons.2 ⟨rfl,List.forall_mem_cons.2 ⟨rfl,List.forall_mem_cons.2 ⟨rfl,List.forall_mem_cons.2 ⟨rfl,List.forall_mem_cons.2 ⟨rfl,fun _ h=>(by cases h)⟩⟩⟩⟩⟩⟩
        ·intro i1 a1 a2
         rw [op7_out (by omega)]
         repeat rw [look_ne (by omega)]
         exact tH_look (by have:=srN_len D ls 0;omega) a2 a1
       ·rintro q e h nx ⟨t,j,hj,ht,rfl,rfl,rfl,rfl⟩
        have hsl:=srN_len D ls t
        have hat:=srN_at D ls (i:=t) (by omega)
        have hnx:srN D ls (t+1)=(srN D ls t).set t (stbl D 1000 (atL ls t)):=rfl
        generalize hls':srN D ls t=ls' at hsl hat hnx ⊢
        by_cases hlt:t<l.length
        ·obtain⟨o1,o2,o3⟩:=hout t hlt
         have hA:atL ls' t=atL ls t:=by rw [hat,if_neg (by omega)]
         generalize hq:(atL ls t).length=q at o1 o2
         have key:∀ o,o=t*1→nth (tC l.length ls') o=some (.slice (some ⟨t+1000,0,none⟩) q q):=fun o ho=>by
          rw [tC_nth (by omega) ho,tV,hA,if_neg (by omega),tN,if_neg (by omega),hq]
         have ho7:op7 (atL ls' l.length)=[]:=op7_out (by omega)
         unfold e153d h153c bxM wbC
         rw [ho7]
         repeat' first
          |(((conv=>whnf);refine bm (fun g=>?_) (fun g=>?_)))
          |((conv=>whnf)
            refine boV (key _ ?_) ?_
            ·show _+Int.toNat j*1=_;omega)
         all_goals first
          |(exfalso;simp [cfgS,std,fitsK] at g;omega)
          |skip
         (conv=>whnf)
         refine⟨t+1000,q,[],3,atL ls t,D,by rw [hq];rfl,?_,?_,?_,?_⟩
         ·repeat rw [look_ne (by omega)]
          rw [← hA]
          exact tH_look (by omega) (by rw [hA,hq];exact o1) (by omega)
         ·exact AllC_cons (AllC_cons (AllC_cons (AllC_cons (AllC_cons (AllC_cons (AllC_cons (tH_allC _ _ _)))))))
         ·refine⟨4,6,0,1,true,false,1,[],true,false,1,[.slice (some ⟨5,0,none⟩) l.length l.length,nilS],true,false,5,flat elD.fl D,l.length,c1,m.length,c2,n,i,?_,?_,?_,?_⟩
          ·rw [look_rem,if_neg (by omega)];rfl
          ·rw [look_rem,if_neg (by omega),hDk];rfl
          ·rw [look_rem,if_neg (by omega)];rfl
          ·exact List.take_length
         ·rw [srtS_ok (by rw [hq];exact o2) (by omega) o3 hW]
          refine must_of rfl ?_
          ((conv=>whnf);refine bm (fun g2=>?_) (fun g2=>?_))
          ·(conv=>whnf)
           refine⟨l.length - (t+1),by omega,?_⟩
           have hlen:∀ i1,(atL (ls'.set t (stbl D 1000 (atL ls t))) i1).length=(atL ls' i1).length:=fun i1=>by
            rw [atL_set _ (by omega)]
            split
            ·rename_i e;rw [stbl_len,e,hA]
            ·rfl
           refine into_web (e0:=e153d l.length (j+1)) (ls:=ls'.set t (stbl D 1000 (atL ls t))) (s:=l.length) (k:=i) (D:=D) (l:=l) (m:=m) (c1:=c1) (c2:=c2) (n:=n) (by rw [List.length_set];omega) (by rw [List.length_set];omega) ⟨t+1,j+1,by omega,by omega,rfl,rfl,congrArg (h153c l m c1 c2 n i D l.length) hnx.symm,rfl⟩ ?_ ?_ ?_ ?_
           ·unfold e153d;((repeat'(refine List.forall_mem_cons.2 ⟨⟨rfl,?_⟩,?_⟩;(first|exact scT_g rfl|exact⟨by decide,rfl⟩|exact⟨by decide,fun h=>(by cases h)⟩)));exact fun _ h=>(by cases h))
           ·unfold b153c bxM wbC
            exact List.forall_mem_cons.2 ⟨rfl,List.forall_mem_cons.2 ⟨rfl,List.forall_mem_cons.2 ⟨rfl,List.forall_mem_cons.2 ⟨rfl,List.forall_mem_cons.2 ⟨rfl,List.forall_mem_cons.2 ⟨rfl,fun _ h=>(by cases h)⟩⟩⟩⟩⟩⟩
           ·rw [tC_congr (List.length_set) (fun i1 _=>hlen i1)]
            rfl
           ·intro i1 a1 a2
            rw [List.length_set] at a1
            rw [hlen] at a2
            rw [atL_set _ (by omega)]
            by_cases e:i1=t
            ·rw [if_pos e,e,look_upd_same]
             rfl
            ·rw [if_neg e,look_upd_ne _ _ (by omega)]
             repeat rw [look_ne (by omega)]
             exact tH_look (by omega) a2 a1
          ·exfalso;simp [cfgS,std,fitsK] at g2;omega
        ·unfold e153d h153c bxM wbC
         ((conv=>whnf);refine bm (fun h1=>?_) (fun h1=>?_))
         ·exfalso;simp [cfgS,std] at h1;omega
         ·(conv=>whnf)
          have htt:t=l.length:=by omega
          subst htt
          have hi2:i=2*m.length:=by omega
          refine webH_out (k:=2*m.length) (D:=dts l m m.length) (ls:=outs l m) (s:=l.length) (by rw [outs_len];omega) (outs_len l m) ?_
          unfold outs
          rw [← hDe,← hi2,hlsE,hls']
          rfl
end Go.Aw
end

noncomputable section
namespace Go.Aw
set_option maxRecDepth 100000
def capV:Value→Nat
 |.slice (some _) _ c=>c
 |_=>0
section
variable {α β:Type}(E:El α)(G:El β)
theorem In_lsC {h:Heap}{nx:Nat}{v:Value}{l:List α}(hl:LsAt E h v l):In [.slice (some ⟨0,0,none⟩) l.length (capV v)] [(0,.cells false true E.sz (flat E.fl l))] 1 [v] h nx:=by
 unfold LsAt at hl
 split at hl
 ·rename_i n c
  obtain⟨rfl,rfl,rfl⟩:=hl
  exact In_nil rfl true E.sz E.pos
 ·rename_i k o n c
  obtain⟨rfl,wr,g,sz,cs,hk,hcs⟩:=hl
  exact In_sl rfl hk hcs (flat_g E l) true E.sz E.pos
 ·exact hl.elim
theorem In_mapC {p q:Value}{n:Int}{r:List Value}(hr:allGA r=true){h:Heap}{nx:Nat}{l:List α}{m:List β}(hl:LsAt E h p l)(hm:LsAt G h q m) :
  In (mapV2 l.length m.length (capV p) (capV q) n::r) (mapH2 E G l m) 2 (mapA p q n::r) h nx :=
 In_agg hr (In_two rfl rfl (In_lsC (nx:=nx) E hl) (In_lsC (nx:=nx) G hm) ⟨_,_,rfl,flat_g E l⟩ ⟨_,_,rfl,flat_g G m⟩) ⟨_,_,_,rfl⟩ ⟨_,_,_,rfl⟩
end
theorem tH_cells (s:Nat)(ls:List (List Int)):∀ n,cellsH (tH s ls n)=true
 |0=>rfl
 |n+1=>by
  unfold tH
  split
  ·exact tH_cells s ls n
  ·exact tH_cells s ls n
theorem webH_cells {l:List Pt}{m:List Ed}{c1 c2:Nat}{n:Int}{k:Nat}{D:List Dt}{ls:List (List Int)}:cellsH (webH l m c1 c2 n k D ls)=true:=tH_cells _ _ _
def webM (l:List Pt)(m:List Ed)(c1 c2:Nat)(n:Int):Heap:=webH l m c1 c2 n (2*m.length) (dts l m m.length) (outs l m)
def Xf153:Nat × XF:=(153,fun args h nx K=>∃ l m n p q,args=[mapA p q n]∧LsAt elP h p l∧LsAt elE h q m∧lstB l m n=true∧K (.pointer (some ⟨nx+4,0,none⟩)) (app (shH nx (webM l m (capV p) (capV q) n)) (shutH h)) (nx+2000))
theorem xf153:XOK Go.Proofs.Tryz.prog Xf153.1 Xf153.2:=by
 refine (xOf_ok (S:=fun args0 h0 n0 v1 h1 j=>∃ l m n c1 c2,lstB l m n=true∧args0=[mapV2 l.length m.length c1 c2 n]∧h0=mapH2 elP elE l m∧n0=2∧v1=.pointer (some ⟨4,0,none⟩)∧h1=webM l m c1 c2 n∧j=2000) (body_calls (xl:=[(160,frD (srtS 1000))]) (.cons (xf160 1000) .nil)) ?_).mono ?_ ?_
 ·rintro args0 h0 n0 v1 h1 j ⟨l,m,n,c1,c2,hok,rfl,rfl,rfl,rfl,rfl,rfl⟩
  exact⟨webH_cells,_,w153 l m n c1 c2 hok,fun v h nx e=>e⟩
 ·rintro args h nx K ⟨l,m,n,p,q,rfl,hl,hm,hok,hx⟩
  exact⟨_,_,2,_,_,_,⟨l,m,n,capV p,capV q,hok,rfl,rfl,rfl,rfl,rfl,rfl⟩,In_mapC elP elE rfl hl hm,hx⟩
 ·rintro args h nx K ⟨l,m,n,p,q,rfl,hl,hm,hok,hx⟩
  exact⟨_,_,_,hx,fun K' hk=>⟨l,m,n,p,q,rfl,hl,hm,hok,hk⟩⟩
end Go.Aw
end

noncomputable section
namespace Go.Aw
set_option maxRecDepth 100000
def idxI (x:Int):List Int→Nat→Int
 |[],_=>-1
 |b::r,i=>if x=b then i else idxI x r (i+1)
def ixiS (l:List Int):List Value→Option (Bool × Value)
 |[.int .i64 x]=>some (decide (l.length≤1000000),iv (idxI x l 0))
 |_=>none
theorem ixiS_inv {l:List Int}{r:List Value}{v:Value}(hs:ixiS l r=some (true,v)):∃ x,r=[iv x]∧l.length≤1000000∧v=iv (idxI x l 0):=by
 unfold ixiS at hs
 split at hs
 ·rename_i x
  injection hs with hs;injection hs with h1 h2;exact⟨x,rfl,by simpa using h1,h2.symm⟩
 ·cases hs
def e167 (x:Int)(l:List Int)(c:Nat)(j:Int):List (Nat × Value):=[(0,.slice (some ⟨0,0,none⟩) l.length c),(1,iv x),(7,iv l.length),(8,iv j)]
def hIn (l:List Int):Heap:=[(0,.cells false true 1 (flat elI.fl l))]
def Xf167:Nat × XF:=(167,lX elI ixiS)
theorem xf167:XOK Go.Proofs.Tryz.prog Xf167.1 Xf167.2:=lX_ok elI (body_calls (xl:=[]) .nil) fun l r v hs=>by
 obtain⟨x,rfl,hlen,rfl⟩:=ixiS_inv hs
 refine⟨rfl,rfl,fun c=>?_⟩
 (conv=>whnf)
 refine⟨fun q e h nx=>∃ (i:Nat) (j:Int),j=i∧i≤l.length∧q=l.length - i∧idxI x l 0=idxI x (l.drop i) i∧e=e167 x l c j∧h=hIn l∧nx=1,⟨l.length,?_⟩,?_⟩
 ·refine Into_id (e0:=e167 x l c 0) (h0:=hIn l) (n0:=1) ⟨0,0,rfl,Nat.zero_le _,rfl,rfl,rfl,rfl,rfl⟩ ?_ ?_ (by decide)
  ·unfold e167;((repeat'(refine List.forall_mem_cons.2 ⟨⟨rfl,?_⟩,?_⟩;(first|exact scT_g rfl|exact⟨by decide,rfl⟩|exact⟨by decide,fun h=>(by cases h)⟩)));exact fun _ h=>(by cases h))
  ·unfold hIn;((repeat'(refine List.forall_mem_cons.2 ⟨⟨Nat.le_of_ble_eq_true rfl,_,rfl,?_⟩,?_⟩;(first|exact ObjRen_g (flat_g _ _)|(refine ObjRen_2 ?_;(repeat'(refine List.forall_mem_cons.2 ⟨⟨rfl,?_⟩,?_⟩;(first|exact scS_g rfl|exact⟨by decide,rfl⟩|exact⟨by decide,fun h=>(by cases h)⟩)));exact fun _ h=>(by cases h))|(refine⟨rfl,rfl,rfl,rfl,?_⟩;(repeat'(refine List.forall_mem_cons.2 ⟨?_,?_⟩;(first|exact scS_g rfl|exact⟨by decide,rfl⟩|exact⟨by decide,fun h=>(by cases h)⟩)));exact fun _ h=>(by cases h))|exact ObjRen_j rfl rfl)));exact fun _ h=>(by cases h))
 ·rintro q e h nx ⟨i,j,hj,hi,rfl,hb,rfl,rfl,rfl⟩
  unfold e167 hIn
  ((conv=>whnf);refine bm (fun h1=>?_) (fun h1=>?_))
  ·have hlt:i<l.length:=by simp [cfgS,std] at h1;omega
   have hd:l.drop i=atI l i::l.drop (i+1):=by rw [atI_eq hlt];exact List.drop_eq_getElem_cons hlt
   rw [hd,idxI] at hb
   ((conv=>whnf);refine bm (fun h2=>?_) (fun h2=>?_))
   ·(conv=>whnf)
    refine boV (getI l (i:=i) hlt ?_) ?_
    ·show _+Int.toNat j*1=_;omega
    ((conv=>whnf);refine bm (fun h3=>?_) (fun h3=>?_))
    ·have h3:x=atI l i:=by simpa [cfgS,std] using h3
     (conv=>whnf)
     rw [hb,if_pos h3,hj]
    ·have h3:¬ x=atI l i:=by simpa [cfgS,std] using h3
     ((conv=>whnf);refine bm (fun h4=>?_) (fun h4=>?_))
     ·(conv=>whnf)
      refine⟨l.length - (i+1),by omega,?_⟩
      refine Into_id (e0:=e167 x l c (j+1)) (h0:=hIn l) (n0:=1) ⟨i+1,j+1,by omega,hlt,rfl,by rw [hb,if_neg h3],rfl,rfl,rfl⟩ ?_ ?_ (by decide)
      ·unfold e167;((repeat'(refine List.forall_mem_cons.2 ⟨⟨rfl,?_⟩,?_⟩;(first|exact scT_g rfl|exact⟨by decide,rfl⟩|exact⟨by decide,fun h=>(by cases h)⟩)));exact fun _ h=>(by cases h))
      ·unfold hIn;((repeat'(refine List.forall_mem_cons.2 ⟨⟨Nat.le_of_ble_eq_true rfl,_,rfl,?_⟩,?_⟩;(first|exact ObjRen_g (flat_g _ _)|(refine ObjRen_2 ?_;(repeat'(refine List.forall_mem_cons.2 ⟨⟨rfl,?_⟩,?_⟩;(first|exact scS_g rfl|exact⟨by decide,rfl⟩|exact⟨by decide,fun h=>(by cases h)⟩)));exact fun _ h=>(by cases h))|(refine⟨rfl,rfl,rfl,rfl,?_⟩;(repeat'(refine List.forall_mem_cons.2 ⟨?_,?_⟩;(first|exact scS_g rfl|exact⟨by decide,rfl⟩|exact⟨by decide,fun h=>(by cases h)⟩)));exact fun _ h=>(by cases h))|exact ObjRen_j rfl rfl)));exact fun _ h=>(by cases h))
     ·exfalso;simp [cfgS,std,fitsK] at h4;omega
   ·exfalso;simp [cfgS,std] at h2;omega
  ·have hge:l.length≤i:=by simp [cfgS,std] at h1;omega
   (conv=>whnf)
   rw [hb,List.drop_eq_nil_of_le hge]
   rfl
def fcV (k:Nat):Option (Nat × Nat)→Value
 |none=>nilS
 |some (a,b)=>.slice (some ⟨k,0,none⟩) a b
theorem fcV_ren {ρ:Nat→Nat}{k:Nat}{o:Option (Nat × Nat)}:ren1 ρ (fcV k o)=fcV (ρ k) o:=by
 cases o with
 |none=>rfl
 |some p=>rfl
theorem fcV_nm {k n:Nat}{o:Option (Nat × Nat)}(h:k<n):nmS n (fcV k o):=by
 cases o with
 |none=>exact scS_g rfl
 |some p=>exact⟨h,fun h=>by cases h⟩
def wcC (k0 k1 kd kt kf:Nat)(nP nE nD nL c1 c2:Nat)(n:Int)(fo:Option (Nat × Nat)):List Value :=
 [.slice (some ⟨k0,0,none⟩) nP c1,.slice (some ⟨k1,0,none⟩) nE c2,iv n,.slice (some ⟨kd,0,none⟩) nD nD,.slice (some ⟨kt,0,none⟩) nL nL,fcV kf fo]
structure WebAt (h:Heap) (p k0 k1 kd kt kf:Nat) (nm:Nat→Nat) (l:List Pt) (D:List Dt) (ls:List (List Int)) (nE c1 c2:Nat) (n:Int) (fo:Option (Nat × Nat)):Prop where
 st:∃ wr g sz,look h p=some (.cells wr g sz (wcC k0 k1 kd kt kf l.length nE D.length ls.length c1 c2 n fo))
 pt:∃ wr g sz cs,look h k0=some (.cells wr g sz cs)∧cs.take (flat elP.fl l).length=flat elP.fl l
 da:∃ wr g sz cs,look h kd=some (.cells wr g sz cs)∧cs.take (flat elD.fl D).length=flat elD.fl D
 tb:∃ wr g sz,look h kt=some (.cells wr g sz ((List.range ls.length).map fun i=>tV (nm i) (atL ls i)))
 li:∀ i,i<ls.length→(atL ls i).length≠0→∃ wr g sz cs,look h (nm i)=some (.cells wr g sz cs)∧cs.take (flat elI.fl (atL ls i)).length=flat elI.fl (atL ls i)
def webR (l:List Pt)(D:List Dt)(ls:List (List Int))(nE c1 c2:Nat)(n:Int)(fo:Option (Nat × Nat))(s:Nat):Heap :=
 (0,.cells false false 1 (wcC 4 5 1 2 6 l.length nE D.length ls.length c1 c2 n fo))::(1,.cells false true 5 (flat elD.fl D))::(2,.cells false false 1 (tC s ls))::(4,.cells false true 2 (flat elP.fl l))::(shutH (op7 (atL ls s))++shutH (tH s ls ls.length))
def rhW (p k0 k1 kd kt kf k3:Nat)(nm:Nat→Nat)(s:Nat)(k:Nat):Nat :=
 if 1000≤k then nm (k - 1000) else if k=0 then p else if k=1 then kd else if k=2 then kt else if k=3 then k3 else if k=4 then k0 else if k=5 then k1 else if k=6 then kf else nm s
theorem rhW_n {p k0 k1 kd kt kf k3:Nat}{nm:Nat→Nat}{s i:Nat}:rhW p k0 k1 kd kt kf k3 nm s (tN s i)=nm i:=by
 unfold tN
 split
 ·rename_i e;rw [e];rfl
 ·unfold rhW
  rw [if_pos (by omega),Nat.add_sub_cancel]
theorem shutH_mem {h:Heap}{k:Nat}{o:AObj}(hm:(k,o)∈shutH h):∃ o',(k,o')∈h∧o=o'.closed:=by
 induction h with
 |nil=>cases hm
 |cons x r ih =>
  obtain⟨j,q⟩:=x
  unfold shutH at hm
  rcases List.mem_cons.1 hm with e|hm
  ·injection e with e1 e2
   subst e1 e2
   exact⟨q,.head _,rfl⟩
  ·obtain⟨o',h1,h2⟩:=ih hm
   exact⟨o',.tail _ h1,h2⟩
theorem webR_mem {l:List Pt}{D:List Dt}{ls:List (List Int)}{nE c1 c2:Nat}{n:Int}{fo:Option (Nat × Nat)}{s k:Nat}{o:AObj}(h:(k,o)∈webR l D ls nE c1 c2 n fo s) :
  (k=0∧o=.cells false false 1 (wcC 4 5 1 2 6 l.length nE D.length ls.length c1 c2 n fo))∨(k=1∧o=.cells false true 5 (flat elD.fl D))∨(k=2∧o=.cells false false 1 (tC s ls))∨(k=4∧o=.cells false true 2 (flat elP.fl l)) ∨
  ∃ i,i<ls.length∧(atL ls i).length≠0∧k=tN s i∧o=.cells false false 1 (flat elI.fl (atL ls i)):=by
 unfold webR at h
 simp only [List.mem_cons,List.mem_append] at h
 rcases h with h|h|h|h|h|h
 ·injection h with e1 e2;exact .inl ⟨e1,e2⟩
 ·injection h with e1 e2;exact .inr (.inl ⟨e1,e2⟩)
 ·injection h with e1 e2;exact .inr (.inr (.inl ⟨e1,e2⟩))
 ·injection h with e1 e2;exact .inr (.inr (.inr (.inl ⟨e1,e2⟩)))
 ·obtain⟨o',h1,h2⟩:=shutH_mem h
  unfold op7 at h1
  split at h1
  ·cases h1
  ·rename_i hc
   simp only [List.mem_cons,List.not_mem_nil,or_false] at h1
   injection h1 with e1 e2
   subst e1 e2 h2
   refine .inr (.inr (.inr (.inr ⟨s,?_,hc,by unfold tN;rw [if_pos rfl],rfl⟩)))
   refine Decidable.byContradiction fun hq=>hc ?_
   unfold atL
   rw [List.getD_eq_getElem?_getD,List.getElem?_eq_none (by omega)]
   rfl
 ·obtain⟨o',h1,h2⟩:=shutH_mem h
  obtain⟨i,a1,a2,a3,a4⟩:=tH_mem h1
  injection a4 with e1 e2
  subst e1 e2 h2
  exact .inr (.inr (.inr (.inr ⟨i,a1,a3,by unfold tN;rw [if_neg a2],rfl⟩)))
theorem tN_lt {s i n:Nat}(h:i+1000<n):tN s i<n:=by
 unfold tN
 split <;> omega
theorem webR_ho {h:Heap}{p k0 k1 kd kt kf k3:Nat}{nm:Nat→Nat}{l:List Pt}{D:List Dt}{ls:List (List Int)}{nE c1 c2:Nat}{n:Int}{fo:Option (Nat × Nat)}(hw:WebAt h p k0 k1 kd kt kf nm l D ls nE c1 c2 n fo)(hn:ls.length≤1000)(s:Nat) :
  ∀ k o,look (webR l D ls nE c1 c2 n fo s) k=some o→k<2000∧∃ g sz cs0,o=.cells false g sz cs0∧sz≠0∧(g=true→allG cs0=true)∧(∀ v∈cs0,nmS 2000 v)∧∃ wr g' sz' cs,look h (rhW p k0 k1 kd kt kf k3 nm s k)=some (.cells wr g' sz' cs)∧cs.take cs0.length=cs0.map (ren1 (rhW p k0 k1 kd kt kf k3 nm s)):=by
 intro k o hk
 have hsl:∀ {q a b:Nat},q<2000→nmS 2000 (.slice (some ⟨q,0,none⟩) a b):=fun hq=>⟨hq,fun h=>by cases h⟩
 rcases webR_mem (look_mem hk) with ⟨rfl,rfl⟩|⟨rfl,rfl⟩|⟨rfl,rfl⟩|⟨rfl,rfl⟩|⟨i,hi,h0,rfl,rfl⟩
 ·obtain⟨wr,g,sz,h1⟩:=hw.st
  refine⟨by omega,false,1,_,rfl,by omega,(fun h=>by cases h),?_,wr,g,sz,_,h1,?_⟩
  ·unfold wcC
   exact List.forall_mem_cons.2 ⟨hsl (by omega),List.forall_mem_cons.2 ⟨hsl (by omega),List.forall_mem_cons.2 ⟨scS_g rfl,List.forall_mem_cons.2 ⟨hsl (by omega),List.forall_mem_cons.2 ⟨hsl (by omega),List.forall_mem_cons.2 ⟨fcV_nm (by omega),fun _ h=>(by cases h)⟩⟩⟩⟩⟩⟩
  ·show _=[_,_,_,_,_,ren1 _ (fcV 6 fo)]
   rw [fcV_ren]
   rfl
 ·obtain⟨wr,g,sz,cs,h1,h2⟩:=hw.da
  exact⟨by omega,true,5,_,rfl,by omega,fun _=>flat_g elD D,fun v hv=>scS_g (allG_mem (flat_g elD D) hv),wr,g,sz,cs,h1,by rw [h2];exact (map_trS_g (flat_g elD D)).symm⟩
 ·obtain⟨wr,g,sz,h1⟩:=hw.tb
  refine⟨by omega,false,1,_,rfl,by omega,(fun h=>by cases h),tC_nm (by omega) (by omega),wr,g,sz,_,h1,?_⟩
  rw [show (tC s ls).length=((List.range ls.length).map fun i=>tV (nm i) (atL ls i)).length by rw [tC_len];simp,List.take_length]
  unfold tC
  rw [List.map_map]
  refine List.map_congr_left fun i hi=>?_
  show _=ren1 _ (tV (tN s i) (atL ls i))
  rw [tV_ren,rhW_n]
 ·obtain⟨wr,g,sz,cs,h1,h2⟩:=hw.pt
  exact⟨by omega,true,2,_,rfl,by omega,fun _=>flat_g elP l,fun v hv=>scS_g (allG_mem (flat_g elP l) hv),wr,g,sz,cs,h1,by rw [h2];exact (map_trS_g (flat_g elP l)).symm⟩
 ·obtain⟨wr,g,sz,cs,h1,h2⟩:=hw.li i hi h0
  exact⟨tN_lt (by omega),false,1,_,rfl,by omega,(fun h=>by cases h),fun v hv=>scS_g (allG_mem (flat_g elI _) hv),wr,g,sz,cs,by rw [rhW_n];exact h1,by rw [h2];exact (map_trS_g (flat_g elI _)).symm⟩
theorem In_web {h:Heap}{p k0 k1 kd kt kf:Nat}{nm:Nat→Nat}{l:List Pt}{D:List Dt}{ls:List (List Int)}{nE c1 c2:Nat}{n:Int}{fo:Option (Nat × Nat)}(hw:WebAt h p k0 k1 kd kt kf nm l D ls nE c1 c2 n fo)(hn:ls.length≤1000)(s:Nat){r:List Value}(hr:allGA r=true){nx:Nat} :
  In (.pointer (some ⟨0,0,none⟩)::r) (webR l D ls nE c1 c2 n fo s) 2000 (.pointer (some ⟨p,0,none⟩)::r) h nx:=by
 refine In_ren (rhW p k0 k1 kd kt kf 0 nm s) ?_ ?_ (webR_ho hw hn s)
 ·rw [List.map_cons]
  congr 1
  conv=>lhs;rw [← List.map_id r]
  exact List.map_congr_left fun v hv=>by rw [ren,tr_g (allGA_mem hr hv)];rfl
 ·exact List.forall_mem_cons.2 ⟨⟨Nat.le_of_ble_eq_true rfl,rfl⟩,fun v hv=>scT_g (allGA_mem hr hv)⟩
theorem In_webL {h:Heap}{p k0 k1 kd kt kf k3:Nat}{nm:Nat→Nat}{l:List Pt}{D:List Dt}{ls:List (List Int)}{nE c1 c2:Nat}{n:Int}{fo:Option (Nat × Nat)}(hw:WebAt h p k0 k1 kd kt kf nm l D ls nE c1 c2 n fo)(hn:ls.length≤1000)(s:Nat){L:List Int}{c:Nat}
  (hL:∃ wr g sz cs,look h k3=some (.cells wr g sz cs)∧cs.take (flat elI.fl L).length=flat elI.fl L) {nx:Nat} :
  In [.pointer (some ⟨0,0,none⟩),.slice (some ⟨3,0,none⟩) L.length c] ((3,.cells false true 1 (flat elI.fl L))::webR l D ls nE c1 c2 n fo s) 2000 [.pointer (some ⟨p,0,none⟩),.slice (some ⟨k3,0,none⟩) L.length c] h nx:=by
 refine In_ren (rhW p k0 k1 kd kt kf k3 nm s) rfl ?_ fun k o hk=>?_
 ·exact List.forall_mem_cons.2 ⟨⟨Nat.le_of_ble_eq_true rfl,rfl⟩,List.forall_mem_cons.2 ⟨⟨Nat.le_of_ble_eq_true rfl,fun h=>by cases h⟩,fun _ h=>(by cases h)⟩⟩
 ·rw [look_cons] at hk
  split at hk
  ·rename_i hb
   injection hk with hk
   subst hk
   have:=beq_true hb
   subst this
   obtain⟨wr,g,sz,cs,h1,h2⟩:=hL
   exact⟨by omega,true,1,_,rfl,by omega,fun _=>flat_g elI L,fun v hv=>scS_g (allG_mem (flat_g elI L) hv),wr,g,sz,cs,h1,by rw [h2];exact (map_trS_g (flat_g elI L)).symm⟩
  ·exact webR_ho hw hn s k o hk
def wbX (s:List Pt→List Dt→List (List Int)→List Value→Option (Bool × Value)):XF:=fun args h nx K =>
 ∃ p r k0 k1 kd kt kf nm l D ls nE c1 c2 n fo,args=.pointer (some ⟨p,0,none⟩)::r∧WebAt h p k0 k1 kd kt kf nm l D ls nE c1 c2 n fo∧(match s l D ls r with|some pr=>must pr.1 (K pr.2 h nx)|none=>False)
theorem wbX_ok {P:Program}{C:VC}{f:Nat}{s:List Pt→List Dt→List (List Int)→List Value→Option (Bool × Value)}(hC:CallsOK P C)
  (hs:∀ l D ls r v,s l D ls r=some (true,v)→allGA r=true∧gT v=true∧ls.length≤1000∧∃ s0,∀ nE c1 c2 n fo,C f (.pointer (some ⟨0,0,none⟩)::r) (webR l D ls nE c1 c2 n fo s0) 2000 (fun u _ _=>u=v)):XOK P f (wbX s):=by
 refine (xOf_ok (S:=fun args0 h0 n0 v1 h1 k=>∃ l D ls r s0 nE c1 c2 n fo,s l D ls r=some (true,v1)∧gT v1=true∧C f (.pointer (some ⟨0,0,none⟩)::r) (webR l D ls nE c1 c2 n fo s0) 2000 (fun u _ _=>u=v1)∧args0=.pointer (some ⟨0,0,none⟩)::r∧h0=webR l D ls nE c1 c2 n fo s0∧n0=2000∧h1=[]∧k=0) hC ?_).mono ?_ ?_
 ·rintro args0 h0 n0 v1 h1 k ⟨l,D,ls,r,s0,nE,c1,c2,n,fo,e1,e2,e3,rfl,rfl,rfl,rfl,rfl⟩
  exact⟨rfl,_,e3,fun v h nx e=>by rw [e];exact Outc_g e2⟩
 ·rintro args h nx K ⟨p,r,k0,k1,kd,kt,kf,nm,l,D,ls,nE,c1,c2,n,fo,rfl,hw,hx⟩
  split at hx
  case h_2=>exact hx.elim
  rename_i pr e1
  obtain⟨bb,u⟩:=pr
  obtain⟨rfl,hx⟩:=must_iff.1 hx
  obtain⟨a1,a2,a3,s0,a4⟩:=hs l D ls r u e1
  refine⟨_,_,2000,u,[],0,⟨l,D,ls,r,s0,nE,c1,c2,n,fo,e1,a2,a4 nE c1 c2 n fo,rfl,rfl,rfl,rfl,rfl⟩,In_web hw a3 s0 a1,?_⟩
  simp only [past,ownH,shH,app_nil,ren_g a2,Nat.add_zero]
  exact hx
 ·rintro args h nx K ⟨p,r,k0,k1,kd,kt,kf,nm,l,D,ls,nE,c1,c2,n,fo,rfl,hw,hx⟩
  split at hx
  case h_2=>exact hx.elim
  rename_i pr e1
  obtain⟨hb,hx⟩:=must_iff.1 hx
  exact⟨pr.2,h,nx,hx,fun K' hk=>⟨p,r,k0,k1,kd,kt,kf,nm,l,D,ls,nE,c1,c2,n,fo,rfl,hw,by rw [e1];exact must_of hb hk⟩⟩
end Go.Aw
end
