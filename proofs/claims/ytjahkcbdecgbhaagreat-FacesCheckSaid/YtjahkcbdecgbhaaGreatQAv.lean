/-
  Parts of the proof, put together. No condition.
-/
import Derived.Test.YtjahkcbdecgbhaaGreatQAu
set_option linter.unusedSimpArgs false
set_option linter.unusedVariables false
noncomputable section
namespace Go.Aw
set_option maxRecDepth 100000
theorem put_int (l:List Int):∀ (i:Nat) (v:Int),i<l.length→putN (flat elI.fl l) (i*1) [iv v]=flat elI.fl (l.set i v):=by
 induction l with
 |nil=>intro i v h;cases h
 |cons a r ih =>
  intro i v h
  cases i with
  |zero=>rfl
  |succ i =>
   have:=ih i v (by simpa using h)
   simp only [List.set_cons_succ,flat,← this]
   have e:(i+1)*1=i*1+1:=by omega
   rw [e]
   unfold putN
   show List.take (i*1+1) (iv a::flat elI.fl r)++_++List.drop (i*1+1+1) (iv a::flat elI.fl r)=_
   rfl
theorem put_setF {of w:List Int}{c:Int}{t o:Nat}(ho:o=(atI w t).toNat*1)(hi:(atI w t).toNat<of.length):putN (flat elI.fl (setF of w c t)) o [iv c]=flat elI.fl (setF of w c (t+1)):=by
 rw [ho,put_int _ _ _ (by rw [setF_len];exact hi)]
 rfl
def fcS (l:List Pt)(m:List Ed)(n:Int):List Value→YS Int
 |[]=>some (okM l m&&decide (1≤m.length),(facedI l m).of,[iv (facedI l m).faces,.bool (fcOk (facedI l m))])
 |_=>none
theorem fcS_inv {l:List Pt}{m:List Ed}{n:Int}{r:List Value}{out:List Int}{rest:List Value}(h:fcS l m n r=some (true,out,rest)):r=[]∧okM l m=true∧1≤m.length∧out=(facedI l m).of∧rest=[iv (facedI l m).faces,.bool (fcOk (facedI l m))]:=by
 unfold fcS at h
 split at h
 ·injection h with h
  injection h with h1 h2
  injection h2 with h2 h3
  simp only [Bool.and_eq_true,decide_eq_true_eq] at h1
  exact⟨rfl,h1.1,h1.2,h2.symm,h3.symm⟩
 ·cases h
def tru (m:List Ed):List Bool:=List.replicate (2*m.length) true
theorem tru_len (m:List Ed):(tru m).length=2*m.length:=List.length_replicate
def h158 (l:List Pt)(m:List Ed)(c1 c2:Nat)(n:Int)(s:Value)(F:Int)(K:Bool):Heap:=(5,.cells true false 1 [s,iv F,.bool K])::(4,.cells true false 1 (flat elB.fl (tru m)))::(3,.cells true false 1 [.slice none 0 0,iv 0,.bool false])::(2,bxM l.length m.length c1 c2 n)::mapH2 elP elE l m
def e158 (m:List Ed)(j:Int):List (Nat × Value):=[(1,.pointer (some ⟨2,0,none⟩)),(2,.pointer (some ⟨3,0,none⟩)),(3,.slice (some ⟨4,0,none⟩) (tru m).length (tru m).length),(4,.pointer (some ⟨5,0,none⟩)),(5,iv j)]
def e158b (m:List Ed)(O j:Int):List (Nat × Value):=[(1,.pointer (some ⟨2,0,none⟩)),(2,.pointer (some ⟨3,0,none⟩)),(3,.slice (some ⟨4,0,none⟩) (tru m).length (tru m).length),(4,.pointer (some ⟨5,0,none⟩)),(6,iv O),(7,iv j)]
def e158c (m:List Ed)(w:List Int)(O j c i:Int):List (Nat × Value):=(8,.slice (some ⟨7,0,none⟩) w.length w.length)::(10,iv c)::(11,iv i)::e158b m O j
def Xf158:Nat × XF:=(158,mYX elP elE elI fcS)
theorem xf158:XOK Go.Proofs.Tryz.prog Xf158.1 Xf158.2:=mYX_ok elP elE elI (body_calls (xl:=[Xf80,Xf144,X90]) (.cons xf80 (.cons xf144 (.cons x90 .nil)))) fun l m n r out rest hs=>by
 obtain⟨rfl,hM,h1m,rfl,rfl⟩:=fcS_inv hs
 clear hs
 refine⟨rfl,rfl,fun c1 c2=>?_⟩
 have hm:m.length≤1000:=by simp only [okM,Bool.and_eq_true,decide_eq_true_eq] at hM;exact hM.1.2
 (conv=>whnf)
 refine⟨_,_,_,[],l,m,rfl,LsAt_at elP rfl,LsAt_at elE rfl,?_⟩
 ((conv=>whnf);refine bm (fun h1=>?_) (fun h1=>?_))
 ·(conv=>whnf)
  refine⟨fun q e h nx=>∃ (i:Nat) (j:Int),j=i∧i≤2*m.length∧q=2*m.length - i∧e=e158 m j ∧
   ((i=0∧h=h158 l m c1 c2 n (.slice none 0 0) 0 true∧nx=6)∨(0<i∧h=(6,.cells true false 1 (flat elI.fl (List.replicate i (-1))))::h158 l m c1 c2 n (.slice (some ⟨6,0,none⟩) i i) 0 true∧nx=7)),⟨2*m.length,?_⟩,?_⟩
  ·refine Into_id (e0:=e158 m 0) (h0:=h158 l m c1 c2 n (.slice none 0 0) 0 true) (n0:=6) ⟨0,0,rfl,Nat.zero_le _,rfl,rfl,.inl ⟨rfl,rfl,rfl⟩⟩ ?_ ?_ (by decide)
   ·unfold e158;((repeat'(refine List.forall_mem_cons.2 ⟨⟨rfl,?_⟩,?_⟩;(first|exact scT_g rfl|exact⟨by decide,rfl⟩|exact⟨by decide,fun h=>(by cases h)⟩)));exact fun _ h=>(by cases h))
   ·unfold h158 bxM mapH2;((repeat'(refine List.forall_mem_cons.2 ⟨⟨Nat.le_of_ble_eq_true rfl,_,rfl,?_⟩,?_⟩;(first|exact ObjRen_g (flat_g _ _)|(refine ObjRen_2 ?_;(repeat'(refine List.forall_mem_cons.2 ⟨⟨rfl,?_⟩,?_⟩;(first|exact scS_g rfl|exact⟨by decide,rfl⟩|exact⟨by decide,fun h=>(by cases h)⟩)));exact fun _ h=>(by cases h))|(refine⟨rfl,rfl,rfl,rfl,?_⟩;(repeat'(refine List.forall_mem_cons.2 ⟨?_,?_⟩;(first|exact scS_g rfl|exact⟨by decide,rfl⟩|exact⟨by decide,fun h=>(by cases h)⟩)));exact fun _ h=>(by cases h))|exact ObjRen_j rfl rfl)));exact fun _ h=>(by cases h))
  ·rintro q e h nx ⟨i,j,hj,hi,rfl,rfl,⟨hi0,rfl,rfl⟩|⟨hip,rfl,rfl⟩⟩
   ·subst hi0
    unfold e158 h158 bxM mapH2
    ((conv=>whnf);refine bm (fun h2=>?_) (fun h2=>?_))
    ·((conv=>whnf);refine bm (fun h3=>?_) (fun h3=>?_))
     ·((conv=>whnf);refine bm (fun h4=>?_) (fun h4=>?_))
      ·(conv=>whnf)
       refine⟨2*m.length - 1,by omega,?_⟩
       refine Into_mv (e0:=e158 m (j+1)) (h0:=(6,.cells true false 1 (flat elI.fl [-1]))::h158 l m c1 c2 n (.slice (some ⟨6,0,none⟩) 1 1) 0 true) (n0:=7) 6 7 (by decide) (by decide) ⟨1,j+1,by omega,by omega,rfl,rfl,.inr ⟨Nat.one_pos,rfl,rfl⟩⟩ ?_ ?_ ?_
       ·unfold e158;((repeat'(refine List.forall_mem_cons.2 ⟨⟨rfl,?_⟩,?_⟩;(first|exact scT_g rfl|exact⟨by decide,rfl⟩|exact⟨by decide,fun h=>(by cases h)⟩)));exact fun _ h=>(by cases h))
       ·unfold h158 bxM mapH2;((repeat'(refine List.forall_mem_cons.2 ⟨⟨Nat.le_of_ble_eq_true rfl,_,rfl,?_⟩,?_⟩;(first|exact ObjRen_g (flat_g _ _)|(refine ObjRen_2 ?_;(repeat'(refine List.forall_mem_cons.2 ⟨⟨rfl,?_⟩,?_⟩;(first|exact scS_g rfl|exact⟨by decide,rfl⟩|exact⟨by decide,fun h=>(by cases h)⟩)));exact fun _ h=>(by cases h))|(refine⟨rfl,rfl,rfl,rfl,?_⟩;(repeat'(refine List.forall_mem_cons.2 ⟨?_,?_⟩;(first|exact scS_g rfl|exact⟨by decide,rfl⟩|exact⟨by decide,fun h=>(by cases h)⟩)));exact fun _ h=>(by cases h))|exact ObjRen_j rfl rfl)));exact fun _ h=>(by cases h))
       ·unfold h158 mapH2;((repeat'(refine List.forall_mem_cons.2 ⟨?_,?_⟩;(intro _ h;revert h;simp)));exact fun _ h=>(by cases h))
      ·exfalso;simp [cfgS,std,fitsK] at h4;omega
     ·exfalso;simp [cfgS,std] at h3;omega
    ·exfalso;simp [cfgS,std,fitsK] at h2;omega
   ·unfold e158 h158 bxM mapH2
    ((conv=>whnf);refine bm (fun h2=>?_) (fun h2=>?_))
    ·((conv=>whnf);refine bm (fun h3=>?_) (fun h3=>?_))
     ·have hlt:i<2*m.length:=by simp [cfgS,std] at h3;omega
      have hll:(flat elI.fl (List.replicate i (-1))).length=i:=by rw [flat_len,List.length_replicate];exact Nat.mul_one _
      ((conv=>whnf);refine bm (fun h4=>?_) (fun h4=>?_))
      ·exfalso;have:=Nat.le_of_ble_eq_true h4;omega
      ·((conv=>whnf);refine bm (fun h5=>?_) (fun h5=>?_))
       ·((conv=>whnf);refine bm (fun h6=>?_) (fun h6=>?_))
        ·(conv=>whnf)
         refine⟨2*m.length - (i+1),by omega,?_⟩
         refine Into_mv (e0:=e158 m (j+1)) (h0:=(6,.cells true false 1 (flat elI.fl (List.replicate i (-1)++[-1])))::h158 l m c1 c2 n (.slice (some ⟨6,0,none⟩) (i+1) (i+1)) 0 true) (n0:=7) 6 8 (by decide) (by decide)
          ⟨i+1,j+1,by omega,by omega,rfl,rfl,.inr ⟨Nat.succ_pos _,by rw [List.replicate_succ'];rfl,rfl⟩⟩ ?_ ?_ ?_
         ·unfold e158;((repeat'(refine List.forall_mem_cons.2 ⟨⟨rfl,?_⟩,?_⟩;(first|exact scT_g rfl|exact⟨by decide,rfl⟩|exact⟨by decide,fun h=>(by cases h)⟩)));exact fun _ h=>(by cases h))
         ·unfold h158 bxM mapH2
          ((repeat'(refine List.forall_mem_cons.2 ⟨⟨Nat.le_of_ble_eq_true rfl,_,rfl,?_⟩,?_⟩;(first|exact (ObjRen_j (flat_g elI _) (flat_growE elI (List.replicate i (-1)) (-1) (by rw [List.length_replicate])))|exact ObjRen_g (flat_g _ _)|(refine ObjRen_2 ?_;(repeat'(refine List.forall_mem_cons.2 ⟨⟨rfl,?_⟩,?_⟩;(first|exact scS_g rfl|exact⟨by decide,rfl⟩|exact⟨by decide,fun h=>(by cases h)⟩)));exact fun _ h=>(by cases h))|(refine⟨rfl,rfl,rfl,rfl,?_⟩;(repeat'(refine List.forall_mem_cons.2 ⟨?_,?_⟩;(first|exact scS_g rfl|exact⟨by decide,rfl⟩|exact⟨by decide,fun h=>(by cases h)⟩)));exact fun _ h=>(by cases h))|exact ObjRen_j rfl rfl)));exact fun _ h=>(by cases h))
         ·unfold h158 mapH2;((repeat'(refine List.forall_mem_cons.2 ⟨?_,?_⟩;(intro _ h;revert h;simp)));exact fun _ h=>(by cases h))
        ·exfalso;simp [cfgS,std,fitsK] at h6;omega
       ·exact app_no (s:=1) (by omega) (by omega) h5
     ·have hge:i=2*m.length:=by simp [cfgS,std] at h3;omega
      subst hge
      (conv=>whnf)
      refine⟨fun q e h nx=>∃ (i:Nat) (j:Int),j=i∧i≤2*m.length∧q=2*m.length - i∧e=e158b m (fcAll l m i).outside j ∧
       h=(6,.cells true false 1 (flat elI.fl (fcAll l m i).of))::h158 l m c1 c2 n (.slice (some ⟨6,0,none⟩) (2*m.length) (2*m.length)) (fcAll l m i).faces (fcAll l m i).ok∧nx=7,⟨2*m.length,?_⟩,?_⟩
      ·refine Into_id (e0:=e158b m 0 0) (h0:=(6,.cells true false 1 (flat elI.fl (List.replicate (2*m.length) (-1))))::h158 l m c1 c2 n (.slice (some ⟨6,0,none⟩) (2*m.length) (2*m.length)) 0 true) (n0:=7) ⟨0,0,rfl,Nat.zero_le _,rfl,rfl,rfl,rfl⟩ ?_ ?_ (by decide)
       ·unfold e158b;((repeat'(refine List.forall_mem_cons.2 ⟨⟨rfl,?_⟩,?_⟩;(first|exact scT_g rfl|exact⟨by decide,rfl⟩|exact⟨by decide,fun h=>(by cases h)⟩)));exact fun _ h=>(by cases h))
       ·unfold h158 bxM mapH2;((repeat'(refine List.forall_mem_cons.2 ⟨⟨Nat.le_of_ble_eq_true rfl,_,rfl,?_⟩,?_⟩;(first|exact ObjRen_g (flat_g _ _)|(refine ObjRen_2 ?_;(repeat'(refine List.forall_mem_cons.2 ⟨⟨rfl,?_⟩,?_⟩;(first|exact scS_g rfl|exact⟨by decide,rfl⟩|exact⟨by decide,fun h=>(by cases h)⟩)));exact fun _ h=>(by cases h))|(refine⟨rfl,rfl,rfl,rfl,?_⟩;(repeat'(refine List.forall_mem_cons.2 ⟨?_,?_⟩;(first|exact scS_g rfl|exact⟨by decide,rfl⟩|exact⟨by decide,fun h=>(by cases h)⟩)));exact fun _ h=>(by cases h))|exact ObjRen_j rfl rfl)));exact fun _ h=>(by cases h))
      ·clear h2 h3 hj hi hip h1
       rintro q e h nx ⟨i,j,hj,hi,rfl,rfl,rfl,rfl⟩
       have low:=fcAll_low l m i
       have len:=fcAll_len l m i
       have nxt:fcAll l m (i+1)=fcStep l m (fcAll l m i) i:=rfl
       generalize hst:fcAll l m i=st at low len nxt
       unfold e158b h158 bxM mapH2
       ((conv=>whnf);refine bm (fun h2=>?_) (fun h2=>?_))
       ·((conv=>whnf);refine bm (fun h3=>?_) (fun h3=>?_))
        ·have hlt:i<2*m.length:=by simp [cfgS,std] at h3;omega
         have hdj:inD m j=true:=by simp only [inD,Bool.and_eq_true,decide_eq_true_eq];omega
         ((conv=>whnf);refine bm (fun h4=>?_) (fun h4=>?_))
         ·(conv=>whnf)
          refine boV (getI st.of (i:=i) (by omega) ?_) ?_
          ·show _+Int.toNat j*1=_;omega
          ((conv=>whnf);refine bm (fun h5=>?_) (fun h5=>?_))
          ·have h5:0≤atI st.of i:=by simpa [cfgS,std] using h5
           ((conv=>whnf);refine bm (fun h6=>?_) (fun h6=>?_))
           ·(conv=>whnf)
            refine⟨2*m.length - (i+1),by omega,?_⟩
            refine Into_id (e0:=e158b m st.outside (j+1)) (h0:=(6,.cells true false 1 (flat elI.fl st.of))::h158 l m c1 c2 n (.slice (some ⟨6,0,none⟩) (2*m.length) (2*m.length)) st.faces st.ok) (n0:=7) ⟨i+1,j+1,by omega,by omega,rfl,?_,?_,rfl⟩ ?_ ?_ (by decide)
            ·rw [nxt];unfold fcStep;rw [if_pos h5];rfl
            ·rw [nxt];unfold fcStep;rw [if_pos h5];rfl
            ·unfold e158b;((repeat'(refine List.forall_mem_cons.2 ⟨⟨rfl,?_⟩,?_⟩;(first|exact scT_g rfl|exact⟨by decide,rfl⟩|exact⟨by decide,fun h=>(by cases h)⟩)));exact fun _ h=>(by cases h))
            ·unfold h158 bxM mapH2;((repeat'(refine List.forall_mem_cons.2 ⟨⟨Nat.le_of_ble_eq_true rfl,_,rfl,?_⟩,?_⟩;(first|exact ObjRen_g (flat_g _ _)|(refine ObjRen_2 ?_;(repeat'(refine List.forall_mem_cons.2 ⟨⟨rfl,?_⟩,?_⟩;(first|exact scS_g rfl|exact⟨by decide,rfl⟩|exact⟨by decide,fun h=>(by cases h)⟩)));exact fun _ h=>(by cases h))|(refine⟨rfl,rfl,rfl,rfl,?_⟩;(repeat'(refine List.forall_mem_cons.2 ⟨?_,?_⟩;(first|exact scS_g rfl|exact⟨by decide,rfl⟩|exact⟨by decide,fun h=>(by cases h)⟩)));exact fun _ h=>(by cases h))|exact ObjRen_j rfl rfl)));exact fun _ h=>(by cases h))
           ·exfalso;simp [cfgS,std,fitsK] at h6;omega
          ·have h5:¬ 0≤atI st.of i:=by simpa [cfgS,std] using h5
           (conv=>whnf)
           refine⟨_,_,_,[iv j],_,l,m,tru m,rfl,LsAt_at elP rfl,LsAt_at elE rfl,LsAt_at elB rfl,?_⟩
           ((conv=>whnf);refine bm (fun h6=>?_) (fun h6=>?_))
           ·obtain⟨w,hw⟩:∃ w,w=roundI l m (tru m) j:=⟨_,rfl⟩
            have hwl:=roundI_len l m (tru m) j
            have hwp:=roundI_pos l m (tru m) j
            have hwi:=roundI_in (l:=l) (k:=tru m) hm hdj
            rw [← hw] at hwl hwp hwi
            have hj':roundI l m (List.replicate (2*m.length) true) i=w:=by rw [hw,hj];rfl
            rw [← hw]
            (conv=>whnf)
            refine⟨_,_,_,[],_,l,m,w,rfl,LsAt_at elP rfl,LsAt_at elE rfl,LsAt_at elI rfl,?_⟩
            ((conv=>whnf);refine bm (fun h7=>?_) (fun h7=>?_))
            ·obtain⟨a,ha⟩:∃ a,a=areaN l m w w.length:=⟨_,rfl⟩
             rw [← ha]
             have hstep:fcStep l m st i=⟨setF st.of w (if 0<a then st.faces+1 else 0) w.length,if 0<a then st.faces+1 else st.faces,if a<0 then st.outside+1 else st.outside,if a=0 then false else st.ok⟩:=by
              unfold fcStep
              rw [if_neg h5]
              simp only [hj',← ha]
             ((conv=>whnf);refine bm (fun g1=>?_) (fun g1=>?_))
             ·have g1:0<a:=by simpa [cfgS,std] using g1
              rw [if_pos g1,if_pos g1,if_neg (by omega),if_neg (by omega)] at hstep
              ((conv=>whnf);refine bm (fun g2=>?_) (fun g2=>?_))
              ·((conv=>whnf);refine bm (fun g3=>?_) (fun g3=>?_))
               ·exfalso;have:a<0:=(by simpa [cfgS,std] using g3);omega
               ·((conv=>whnf);refine bm (fun g4=>?_) (fun g4=>?_))
                ·exfalso;have:a=0:=(by simpa [cfgS,std] using g4);omega
                ·(conv=>whnf)
                 refine⟨fun q e h nx=>∃ (t:Nat) (z:Int),z=t∧t≤w.length∧q=w.length - t∧e=e158c m w (st.outside) j (st.faces+1) z ∧
                  h=(7,.cells true false 1 (flat elI.fl w))::(6,.cells true false 1 (flat elI.fl (setF st.of w (st.faces+1) t)))::h158 l m c1 c2 n (.slice (some ⟨6,0,none⟩) (2*m.length) (2*m.length)) (st.faces+1) (st.ok)∧nx=8,⟨w.length,?_⟩,?_⟩
                 ·refine Into_id (e0:=e158c m w (st.outside) j (st.faces+1) 0) (h0:=(7,.cells true false 1 (flat elI.fl w))::(6,.cells true false 1 (flat elI.fl st.of))::h158 l m c1 c2 n (.slice (some ⟨6,0,none⟩) (2*m.length) (2*m.length)) (st.faces+1) (st.ok)) (n0:=8) ⟨0,0,rfl,Nat.zero_le _,rfl,rfl,rfl,rfl⟩ ?_ ?_ (by decide)
                  ·unfold e158c e158b;((repeat'(refine List.forall_mem_cons.2 ⟨⟨rfl,?_⟩,?_⟩;(first|exact scT_g rfl|exact⟨by decide,rfl⟩|exact⟨by decide,fun h=>(by cases h)⟩)));exact fun _ h=>(by cases h))
                  ·unfold h158 bxM mapH2;((repeat'(refine List.forall_mem_cons.2 ⟨⟨Nat.le_of_ble_eq_true rfl,_,rfl,?_⟩,?_⟩;(first|exact ObjRen_g (flat_g _ _)|(refine ObjRen_2 ?_;(repeat'(refine List.forall_mem_cons.2 ⟨⟨rfl,?_⟩,?_⟩;(first|exact scS_g rfl|exact⟨by decide,rfl⟩|exact⟨by decide,fun h=>(by cases h)⟩)));exact fun _ h=>(by cases h))|(refine⟨rfl,rfl,rfl,rfl,?_⟩;(repeat'(refine List.forall_mem_cons.2 ⟨?_,?_⟩;(first|exact scS_g rfl|exact⟨by decide,rfl⟩|exact⟨by decide,fun h=>(by cases h)⟩)));exact fun _ h=>(by cases h))|exact ObjRen_j rfl rfl)));exact fun _ h=>(by cases h))
                 ·rintro q e h nx ⟨t,z,hz,ht,rfl,rfl,rfl,rfl⟩
                  have sl:=setF_len st.of w (st.faces+1) t
                  unfold e158c e158b h158 bxM mapH2
                  ((conv=>whnf);refine bm (fun k1=>?_) (fun k1=>?_))
                  ·have htl:t<w.length:=by simp [cfgS,std] at k1;omega
                   have hdt:=allD_at hwi htl
                   simp only [inD,Bool.and_eq_true,decide_eq_true_eq] at hdt
                   ((conv=>whnf);refine bm (fun k2=>?_) (fun k2=>?_))
                   ·(conv=>whnf)
                    refine boV (getI w (i:=t) htl ?_) ?_
                    ·show _+Int.toNat z*1=_;omega
                    ((conv=>whnf);refine bm (fun k3=>?_) (fun k3=>?_))
                    ·((conv=>whnf);refine bm (fun k4=>?_) (fun k4=>?_))
                     ·((conv=>whnf);refine bm (fun k5=>?_) (fun k5=>?_))
                      ·(conv=>whnf)
                       refine⟨w.length - (t+1),by omega,?_⟩
                       refine Into_id (e0:=e158c m w (st.outside) j (st.faces+1) (z+1)) (h0:=(7,.cells true false 1 (flat elI.fl w))::(6,.cells true false 1 (flat elI.fl (setF st.of w (st.faces+1) (t+1))))::h158 l m c1 c2 n (.slice (some ⟨6,0,none⟩) (2*m.length) (2*m.length)) (st.faces+1) (st.ok)) (n0:=8) ⟨t+1,z+1,by omega,by omega,rfl,rfl,rfl,rfl⟩ ?_ ?_ (by decide)
                       ·unfold e158c e158b;((repeat'(refine List.forall_mem_cons.2 ⟨⟨rfl,?_⟩,?_⟩;(first|exact scT_g rfl|exact⟨by decide,rfl⟩|exact⟨by decide,fun h=>(by cases h)⟩)));exact fun _ h=>(by cases h))
                       ·unfold h158 bxM mapH2
                        have hput:=put_setF (of:=st.of) (w:=w) (c:=st.faces+1) (t:=t) (o:=0+(atI w t).toNat*1) (by omega) (by omega)
                        ((repeat'(refine List.forall_mem_cons.2 ⟨⟨Nat.le_of_ble_eq_true rfl,_,rfl,?_⟩,?_⟩;(first|exact (ObjRen_j (flat_g elI _) hput)|exact ObjRen_g (flat_g _ _)|(refine ObjRen_2 ?_;(repeat'(refine List.forall_mem_cons.2 ⟨⟨rfl,?_⟩,?_⟩;(first|exact scS_g rfl|exact⟨by decide,rfl⟩|exact⟨by decide,fun h=>(by cases h)⟩)));exact fun _ h=>(by cases h))|(refine⟨rfl,rfl,rfl,rfl,?_⟩;(repeat'(refine List.forall_mem_cons.2 ⟨?_,?_⟩;(first|exact scS_g rfl|exact⟨by decide,rfl⟩|exact⟨by decide,fun h=>(by cases h)⟩)));exact fun _ h=>(by cases h))|exact ObjRen_j rfl rfl)));exact fun _ h=>(by cases h))
                      ·exfalso;simp [cfgS,std,fitsK] at k5;omega
                     ·exfalso
                      have hfl:(flat elI.fl (setF st.of w (st.faces+1) t)).length=2*m.length:=by rw [flat_len,sl,len];exact Nat.mul_one _
                      rw [hfl] at k4
                      have k4:(0+(atI w t).toNat*1+1).ble (2*m.length)=false:=k4
                      have:=Nat.ble_eq_true_of_le (show 0+(atI w t).toNat*1+1≤2*m.length by omega)
                      rw [this] at k4
                      cases k4
                    ·exfalso;simp [cfgS,std] at k3;omega
                   ·exfalso;simp [cfgS,std] at k2;omega
                  ·have hgt:t=w.length:=by simp [cfgS,std] at k1;omega
                   subst hgt
                   ((conv=>whnf);refine bm (fun k2=>?_) (fun k2=>?_))
                   ·(conv=>whnf)
                    refine⟨2*m.length - (i+1),by omega,?_⟩
                    refine Into_id (e0:=e158b m (st.outside) (j+1)) (h0:=(6,.cells true false 1 (flat elI.fl (setF st.of w (st.faces+1) w.length)))::h158 l m c1 c2 n (.slice (some ⟨6,0,none⟩) (2*m.length) (2*m.length)) (st.faces+1) (st.ok)) (n0:=7) ⟨i+1,j+1,by omega,by omega,rfl,by rw [nxt,hstep];rfl,by rw [nxt,hstep];rfl,rfl⟩ ?_ ?_ (by decide)
                    ·unfold e158b;((repeat'(refine List.forall_mem_cons.2 ⟨⟨rfl,?_⟩,?_⟩;(first|exact scT_g rfl|exact⟨by decide,rfl⟩|exact⟨by decide,fun h=>(by cases h)⟩)));exact fun _ h=>(by cases h))
                    ·unfold h158 bxM mapH2;((repeat'(refine List.forall_mem_cons.2 ⟨⟨Nat.le_of_ble_eq_true rfl,_,rfl,?_⟩,?_⟩;(first|exact ObjRen_g (flat_g _ _)|(refine ObjRen_2 ?_;(repeat'(refine List.forall_mem_cons.2 ⟨⟨rfl,?_⟩,?_⟩;(first|exact scS_g rfl|exact⟨by decide,rfl⟩|exact⟨by decide,fun h=>(by cases h)⟩)));exact fun _ h=>(by cases h))|(refine⟨rfl,rfl,rfl,rfl,?_⟩;(repeat'(refine List.forall_mem_cons.2 ⟨?_,?_⟩;(first|exact scS_g rfl|exact⟨by decide,rfl⟩|exact⟨by decide,fun h=>(by cases h)⟩)));exact fun _ h=>(by cases h))|exact ObjRen_j rfl rfl)));exact fun _ h=>(by cases h))
                   ·exfalso;simp [cfgS,std,fitsK] at k2;omega
              ·exfalso;simp [cfgS,std,fitsK] at g2;omega
             ·have g1:¬ 0<a:=by simpa [cfgS,std] using g1
              rw [if_neg g1,if_neg g1] at hstep
              ((conv=>whnf);refine bm (fun g3=>?_) (fun g3=>?_))
              ·have g3:a<0:=by simpa [cfgS,std] using g3
               rw [if_pos g3,if_neg (by omega)] at hstep
               ((conv=>whnf);refine bm (fun g2=>?_) (fun g2=>?_))
               ·((conv=>whnf);refine bm (fun g4=>?_) (fun g4=>?_))
                ·exfalso;have:a=0:=(by simpa [cfgS,std] using g4);omega
                ·(conv=>whnf)
                 refine⟨fun q e h nx=>∃ (t:Nat) (z:Int),z=t∧t≤w.length∧q=w.length - t∧e=e158c m w (st.outside+1) j (0) z ∧
                  h=(7,.cells true false 1 (flat elI.fl w))::(6,.cells true false 1 (flat elI.fl (setF st.of w (0) t)))::h158 l m c1 c2 n (.slice (some ⟨6,0,none⟩) (2*m.length) (2*m.length)) (st.faces) (st.ok)∧nx=8,⟨w.length,?_⟩,?_⟩
                 ·refine Into_id (e0:=e158c m w (st.outside+1) j (0) 0) (h0:=(7,.cells true false 1 (flat elI.fl w))::(6,.cells true false 1 (flat elI.fl st.of))::h158 l m c1 c2 n (.slice (some ⟨6,0,none⟩) (2*m.length) (2*m.length)) (st.faces) (st.ok)) (n0:=8) ⟨0,0,rfl,Nat.zero_le _,rfl,rfl,rfl,rfl⟩ ?_ ?_ (by decide)
                  ·unfold e158c e158b;((repeat'(refine List.forall_mem_cons.2 ⟨⟨rfl,?_⟩,?_⟩;(first|exact scT_g rfl|exact⟨by decide,rfl⟩|exact⟨by decide,fun h=>(by cases h)⟩)));exact fun _ h=>(by cases h))
                  ·unfold h158 bxM mapH2;((repeat'(refine List.forall_mem_cons.2 ⟨⟨Nat.le_of_ble_eq_true rfl,_,rfl,?_⟩,?_⟩;(first|exact ObjRen_g (flat_g _ _)|(refine ObjRen_2 ?_;(repeat'(refine List.forall_mem_cons.2 ⟨⟨rfl,?_⟩,?_⟩;(first|exact scS_g rfl|exact⟨by decide,rfl⟩|exact⟨by decide,fun h=>(by cases h)⟩)));exact fun _ h=>(by cases h))|(refine⟨rfl,rfl,rfl,rfl,?_⟩;(repeat'(refine List.forall_mem_cons.2 ⟨?_,?_⟩;(first|exact scS_g rfl|exact⟨by decide,rfl⟩|exact⟨by decide,fun h=>(by cases h)⟩)));exact fun _ h=>(by cases h))|exact ObjRen_j rfl rfl)));exact fun _ h=>(by cases h))
                 ·rintro q e h nx ⟨t,z,hz,ht,rfl,rfl,rfl,rfl⟩
                  have sl:=setF_len st.of w (0) t
                  unfold e158c e158b h158 bxM mapH2
                  ((conv=>whnf);refine bm (fun k1=>?_) (fun k1=>?_))
                  ·have htl:t<w.length:=by simp [cfgS,std] at k1;omega
                   have hdt:=allD_at hwi htl
                   simp only [inD,Bool.and_eq_true,decide_eq_true_eq] at hdt
                   ((conv=>whnf);refine bm (fun k2=>?_) (fun k2=>?_))
                   ·(conv=>whnf)
                    refine boV (getI w (i:=t) htl ?_) ?_
                    ·show _+Int.toNat z*1=_;omega
                    ((conv=>whnf);refine bm (fun k3=>?_) (fun k3=>?_))
                    ·((conv=>whnf);refine bm (fun k4=>?_) (fun k4=>?_))
                     ·((conv=>whnf);refine bm (fun k5=>?_) (fun k5=>?_))
                      ·(conv=>whnf)
                       refine⟨w.length - (t+1),by omega,?_⟩
                       refine Into_id (e0:=e158c m w (st.outside+1) j (0) (z+1)) (h0:=(7,.cells true false 1 (flat elI.fl w))::(6,.cells true false 1 (flat elI.fl (setF st.of w (0) (t+1))))::h158 l m c1 c2 n (.slice (some ⟨6,0,none⟩) (2*m.length) (2*m.length)) (st.faces) (st.ok)) (n0:=8) ⟨t+1,z+1,by omega,by omega,rfl,rfl,rfl,rfl⟩ ?_ ?_ (by decide)
                       ·unfold e158c e158b;((repeat'(refine List.forall_mem_cons.2 ⟨⟨rfl,?_⟩,?_⟩;(first|exact scT_g rfl|exact⟨by decide,rfl⟩|exact⟨by decide,fun h=>(by cases h)⟩)));exact fun _ h=>(by cases h))
                       ·unfold h158 bxM mapH2
                        have hput:=put_setF (of:=st.of) (w:=w) (c:=0) (t:=t) (o:=0+(atI w t).toNat*1) (by omega) (by omega)
                        ((repeat'(refine List.forall_mem_cons.2 ⟨⟨Nat.le_of_ble_eq_true rfl,_,rfl,?_⟩,?_⟩;(first|exact (ObjRen_j (flat_g elI _) hput)|exact ObjRen_g (flat_g _ _)|(refine ObjRen_2 ?_;(repeat'(refine List.forall_mem_cons.2 ⟨⟨rfl,?_⟩,?_⟩;(first|exact scS_g rfl|exact⟨by decide,rfl⟩|exact⟨by decide,fun h=>(by cases h)⟩)));exact fun _ h=>(by cases h))|(refine⟨rfl,rfl,rfl,rfl,?_⟩;(repeat'(refine List.forall_mem_cons.2 ⟨?_,?_⟩;(first|exact scS_g rfl|exact⟨by decide,rfl⟩|exact⟨by decide,fun h=>(by cases h)⟩)));exact fun _ h=>(by cases h))|exact ObjRen_j rfl rfl)));exact fun _ h=>(by cases h))
                      ·exfalso;simp [cfgS,std,fitsK] at k5;omega
                     ·exfalso
                      have hfl:(flat elI.fl (setF st.of w (0) t)).length=2*m.length:=by rw [flat_len,sl,len];exact Nat.mul_one _
                      rw [hfl] at k4
                      have k4:(0+(atI w t).toNat*1+1).ble (2*m.length)=false:=k4
                      have:=Nat.ble_eq_true_of_le (show 0+(atI w t).toNat*1+1≤2*m.length by omega)
                      rw [this] at k4
                      cases k4
                    ·exfalso;simp [cfgS,std] at k3;omega
                   ·exfalso;simp [cfgS,std] at k2;omega
                  ·have hgt:t=w.length:=by simp [cfgS,std] at k1;omega
                   subst hgt
                   ((conv=>whnf);refine bm (fun k2=>?_) (fun k2=>?_))
                   ·(conv=>whnf)
                    refine⟨2*m.length - (i+1),by omega,?_⟩
                    refine Into_id (e0:=e158b m (st.outside+1) (j+1)) (h0:=(6,.cells true false 1 (flat elI.fl (setF st.of w (0) w.length)))::h158 l m c1 c2 n (.slice (some ⟨6,0,none⟩) (2*m.length) (2*m.length)) (st.faces) (st.ok)) (n0:=7) ⟨i+1,j+1,by omega,by omega,rfl,by rw [nxt,hstep];rfl,by rw [nxt,hstep];rfl,rfl⟩ ?_ ?_ (by decide)
                    ·unfold e158b;((repeat'(refine List.forall_mem_cons.2 ⟨⟨rfl,?_⟩,?_⟩;(first|exact scT_g rfl|exact⟨by decide,rfl⟩|exact⟨by decide,fun h=>(by cases h)⟩)));exact fun _ h=>(by cases h))
                    ·unfold h158 bxM mapH2;((repeat'(refine List.forall_mem_cons.2 ⟨⟨Nat.le_of_ble_eq_true rfl,_,rfl,?_⟩,?_⟩;(first|exact ObjRen_g (flat_g _ _)|(refine ObjRen_2 ?_;(repeat'(refine List.forall_mem_cons.2 ⟨⟨rfl,?_⟩,?_⟩;(first|exact scS_g rfl|exact⟨by decide,rfl⟩|exact⟨by decide,fun h=>(by cases h)⟩)));exact fun _ h=>(by cases h))|(refine⟨rfl,rfl,rfl,rfl,?_⟩;(repeat'(refine List.forall_mem_cons.2 ⟨?_,?_⟩;(first|exact scS_g rfl|exact⟨by decide,rfl⟩|exact⟨by decide,fun h=>(by cases h)⟩)));exact fun _ h=>(by cases h))|exact ObjRen_j rfl rfl)));exact fun _ h=>(by cases h))
                   ·exfalso;simp [cfgS,std,fitsK] at k2;omega
               ·exfalso;simp [cfgS,std,fitsK] at g2;omega
              ·have g3:¬ a<0:=by simpa [cfgS,std] using g3
               rw [if_neg g3,if_pos (by omega)] at hstep
               ((conv=>whnf);refine bm (fun g4=>?_) (fun g4=>?_))
               ·(conv=>whnf)
                refine⟨fun q e h nx=>∃ (t:Nat) (z:Int),z=t∧t≤w.length∧q=w.length - t∧e=e158c m w (st.outside) j (0) z ∧
                 h=(7,.cells true false 1 (flat elI.fl w))::(6,.cells true false 1 (flat elI.fl (setF st.of w (0) t)))::h158 l m c1 c2 n (.slice (some ⟨6,0,none⟩) (2*m.length) (2*m.length)) (st.faces) (false)∧nx=8,⟨w.length,?_⟩,?_⟩
                ·refine Into_id (e0:=e158c m w (st.outside) j (0) 0) (h0:=(7,.cells true false 1 (flat elI.fl w))::(6,.cells true false 1 (flat elI.fl st.of))::h158 l m c1 c2 n (.slice (some ⟨6,0,none⟩) (2*m.length) (2*m.length)) (st.faces) (false)) (n0:=8) ⟨0,0,rfl,Nat.zero_le _,rfl,rfl,rfl,rfl⟩ ?_ ?_ (by decide)
                 ·unfold e158c e158b;((repeat'(refine List.forall_mem_cons.2 ⟨⟨rfl,?_⟩,?_⟩;(first|exact scT_g rfl|exact⟨by decide,rfl⟩|exact⟨by decide,fun h=>(by cases h)⟩)));exact fun _ h=>(by cases h))
                 ·unfold h158 bxM mapH2;((repeat'(refine List.forall_mem_cons.2 ⟨⟨Nat.le_of_ble_eq_true rfl,_,rfl,?_⟩,?_⟩;(first|exact ObjRen_g (flat_g _ _)|(refine ObjRen_2 ?_;(repeat'(refine List.forall_mem_cons.2 ⟨⟨rfl,?_⟩,?_⟩;(first|exact scS_g rfl|exact⟨by decide,rfl⟩|exact⟨by decide,fun h=>(by cases h)⟩)));exact fun _ h=>(by cases h))|(refine⟨rfl,rfl,rfl,rfl,?_⟩;(repeat'(refine List.forall_mem_cons.2 ⟨?_,?_⟩;(first|exact scS_g rfl|exact⟨by decide,rfl⟩|exact⟨by decide,fun h=>(by cases h)⟩)));exact fun _ h=>(by cases h))|exact ObjRen_j rfl rfl)));exact fun _ h=>(by cases h))
                ·rintro q e h nx ⟨t,z,hz,ht,rfl,rfl,rfl,rfl⟩
                 have sl:=setF_len st.of w (0) t
                 unfold e158c e158b h158 bxM mapH2
                 ((conv=>whnf);refine bm (fun k1=>?_) (fun k1=>?_))
                 ·have htl:t<w.length:=by simp [cfgS,std] at k1;omega
                  have hdt:=allD_at hwi htl
                  simp only [inD,Bool.and_eq_true,decide_eq_true_eq] at hdt
                  ((conv=>whnf);refine bm (fun k2=>?_) (fun k2=>?_))
                  ·(conv=>whnf)
                   refine boV (getI w (i:=t) htl ?_) ?_
                   ·show _+Int.toNat z*1=_;omega
                   ((conv=>whnf);refine bm (fun k3=>?_) (fun k3=>?_))
                   ·((conv=>whnf);refine bm (fun k4=>?_) (fun k4=>?_))
                    ·((conv=>whnf);refine bm (fun k5=>?_) (fun k5=>?_))
                     ·(conv=>whnf)
                      refine⟨w.length - (t+1),by omega,?_⟩
                      refine Into_id (e0:=e158c m w (st.outside) j (0) (z+1)) (h0:=(7,.cells true false 1 (flat elI.fl w))::(6,.cells true false 1 (flat elI.fl (setF st.of w (0) (t+1))))::h158 l m c1 c2 n (.slice (some ⟨6,0,none⟩) (2*m.length) (2*m.length)) (st.faces) (false)) (n0:=8) ⟨t+1,z+1,by omega,by omega,rfl,rfl,rfl,rfl⟩ ?_ ?_ (by decide)
                      ·unfold e158c e158b;((repeat'(refine List.forall_mem_cons.2 ⟨⟨rfl,?_⟩,?_⟩;(first|exact scT_g rfl|exact⟨by decide,rfl⟩|exact⟨by decide,fun h=>(by cases h)⟩)));exact fun _ h=>(by cases h))
                      ·unfold h158 bxM mapH2
                       have hput:=put_setF (of:=st.of) (w:=w) (c:=0) (t:=t) (o:=0+(atI w t).toNat*1) (by omega) (by omega)
                       ((repeat'(refine List.forall_mem_cons.2 ⟨⟨Nat.le_of_ble_eq_true rfl,_,rfl,?_⟩,?_⟩;(first|exact (ObjRen_j (flat_g elI _) hput)|exact ObjRen_g (flat_g _ _)|(refine ObjRen_2 ?_;(repeat'(refine List.forall_mem_cons.2 ⟨⟨rfl,?_⟩,?_⟩;(first|exact scS_g rfl|exact⟨by decide,rfl⟩|exact⟨by decide,fun h=>(by cases h)⟩)));exact fun _ h=>(by cases h))|(refine⟨rfl,rfl,rfl,rfl,?_⟩;(repeat'(refine List.forall_mem_cons.2 ⟨?_,?_⟩;(first|exact scS_g rfl|exact⟨by decide,rfl⟩|exact⟨by decide,fun h=>(by cases h)⟩)));exact fun _ h=>(by cases h))|exact ObjRen_j rfl rfl)));exact fun _ h=>(by cases h))
                     ·exfalso;simp [cfgS,std,fitsK] at k5;omega
                    ·exfalso
                     have hfl:(flat elI.fl (setF st.of w (0) t)).length=2*m.length:=by rw [flat_len,sl,len];exact Nat.mul_one _
                     rw [hfl] at k4
                     have k4:(0+(atI w t).toNat*1+1).ble (2*m.length)=false:=k4
                     have:=Nat.ble_eq_true_of_le (show 0+(atI w t).toNat*1+1≤2*m.length by omega)
                     rw [this] at k4
                     cases k4
                   ·exfalso;simp [cfgS,std] at k3;omega
                  ·exfalso;simp [cfgS,std] at k2;omega
                 ·have hgt:t=w.length:=by simp [cfgS,std] at k1;omega
                  subst hgt
                  ((conv=>whnf);refine bm (fun k2=>?_) (fun k2=>?_))
                  ·(conv=>whnf)
                   refine⟨2*m.length - (i+1),by omega,?_⟩
                   refine Into_id (e0:=e158b m (st.outside) (j+1)) (h0:=(6,.cells true false 1 (flat elI.fl (setF st.of w (0) w.length)))::h158 l m c1 c2 n (.slice (some ⟨6,0,none⟩) (2*m.length) (2*m.length)) (st.faces) (false)) (n0:=7) ⟨i+1,j+1,by omega,by omega,rfl,by rw [nxt,hstep];rfl,by rw [nxt,hstep];rfl,rfl⟩ ?_ ?_ (by decide)
                   ·unfold e158b;((repeat'(refine List.forall_mem_cons.2 ⟨⟨rfl,?_⟩,?_⟩;(first|exact scT_g rfl|exact⟨by decide,rfl⟩|exact⟨by decide,fun h=>(by cases h)⟩)));exact fun _ h=>(by cases h))
                   ·unfold h158 bxM mapH2;((repeat'(refine List.forall_mem_cons.2 ⟨⟨Nat.le_of_ble_eq_true rfl,_,rfl,?_⟩,?_⟩;(first|exact ObjRen_g (flat_g _ _)|(refine ObjRen_2 ?_;(repeat'(refine List.forall_mem_cons.2 ⟨⟨rfl,?_⟩,?_⟩;(first|exact scS_g rfl|exact⟨by decide,rfl⟩|exact⟨by decide,fun h=>(by cases h)⟩)));exact fun _ h=>(by cases h))|(refine⟨rfl,rfl,rfl,rfl,?_⟩;(repeat'(refine List.forall_mem_cons.2 ⟨?_,?_⟩;(first|exact scS_g rfl|exact⟨by decide,rfl⟩|exact⟨by decide,fun h=>(by cases h)⟩)));exact fun _ h=>(by cases h))|exact ObjRen_j rfl rfl)));exact fun _ h=>(by cases h))
                  ·exfalso;simp [cfgS,std,fitsK] at k2;omega
               ·exfalso;have:¬ a=0:=(by simpa [cfgS,std] using g4);omega
            ·exfalso
             have h7:(okM l m&&allD m w&&decide (w.length≤10000))=false:=h7
             rw [hM,hwi,decide_eq_true (show w.length≤10000 by omega)] at h7
             cases h7
           ·exfalso
            have h6:(okM l m&&inD m j&&decide ((tru m).length=2*m.length))=false:=h6
            rw [hM,hdj,decide_eq_true (tru_len m)] at h6
            cases h6
         ·exfalso;simp [cfgS,std] at h4;omega
        ·have hge:i=2*m.length:=by simp [cfgS,std] at h3;omega
         have hfin:facedI l m=st:=by rw [← hst,hge];rfl
         rw [hfin]
         repeat' ((conv=>whnf);refine bm (fun g1=>?_) (fun g1=>?_))
         all_goals (conv=>whnf)
         all_goals refine⟨6,?_,rfl⟩
         all_goals (show Value.agg _=Value.agg _)
         all_goals rw [len]
         all_goals (simp [cfgS,std] at *)
         all_goals simp [fcOk, *]
       ·exfalso;simp [cfgS,std,fitsK] at h2;omega
    ·exfalso;simp [cfgS,std,fitsK] at h2;omega
 ·exfalso
  have h1:(decide (1≤m.length)&&decide (m.length≤1000))=false:=h1
  rw [decide_eq_true h1m,decide_eq_true hm] at h1
  cases h1
end Go.Aw
end
