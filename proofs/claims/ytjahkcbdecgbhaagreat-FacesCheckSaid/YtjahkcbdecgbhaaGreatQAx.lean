/-
  Parts of the proof, put together. No condition.
-/
import Derived.Test.YtjahkcbdecgbhaaGreatQAw
set_option linter.unusedSimpArgs false
set_option linter.unusedVariables false
noncomputable section
namespace Go.Aw
set_option maxRecDepth 100000
theorem edB_no {l:List Pt}{m:List Ed}{i:Nat}{ed:Ed}(hed:atE m i=ed)(h:¬ (0≤ed.a∧ed.a<ed.b∧ed.b<l.length∧-1≤ed.n∧ed.n<200)):edB l m i=false:=by
 cases hb:edB l m i with
 |false=>rfl
 |true =>
  rw [edB,hed] at hb
  simp only [Bool.and_eq_true,decide_eq_true_eq] at hb
  exact absurd ⟨hb.1.1.1.1.1,hb.1.1.1.1.2,hb.1.1.1.2,hb.1.1.2,hb.1.2⟩ h
theorem edB_bf {l:List Pt}{m:List Ed}{i:Nat}{ed d:Ed}(hed:atE m i=ed)(hd:atE m (i - 1)=d)(hi:i≠0)(h:bfE d ed=false):edB l m i=false:=by
 rw [edB,hed,hd,h,decide_eq_false hi,Bool.or_false,Bool.and_false]
theorem edB_yes {l:List Pt}{m:List Ed}{i:Nat}{ed:Ed}(hed:atE m i=ed)(h:0≤ed.a∧ed.a<ed.b∧ed.b<l.length∧-1≤ed.n∧ed.n<200)(ho:(decide (i=0) || bfE (atE m (i - 1)) ed)=true):edB l m i=true:=by
 rw [edB,hed,ho]
 simp only [Bool.and_eq_true,decide_eq_true_eq,and_true]
 omega
def plS (l:List Pt)(m:List Ed)(n:Int):List Value→Option (Bool × Value)
 |[]=>some (decide (l.length≤1000)&&decide (m.length≤1000),.bool (plnB l m n))
 |_=>none
theorem plS_inv {l:List Pt}{m:List Ed}{n:Int}{r:List Value}{v:Value}(h:plS l m n r=some (true,v)):r=[]∧l.length≤1000∧m.length≤1000∧v=.bool (plnB l m n):=by
 unfold plS at h
 split at h
 ·injection h with h
  injection h with h1 h2
  simp only [Bool.and_eq_true,decide_eq_true_eq] at h1
  exact⟨rfl,h1.1,h1.2,h2.symm⟩
 ·cases h
def e156 (s:Value)(j:Int):List (Nat × Value):=[(1,.pointer (some ⟨2,0,none⟩)),(3,s),(4,iv j)]
def e156z (z:Int):List (Nat × Value):=[(1,.pointer (some ⟨2,0,none⟩)),(3,.slice none 0 0),(6,iv z)]
def e156b (N:Nat)(j:Int):List (Nat × Value):=[(1,.pointer (some ⟨2,0,none⟩)),(3,.slice (some ⟨3,0,none⟩) N N),(6,iv j)]
def e156c (N:Nat)(j:Int):List (Nat × Value):=[(1,.pointer (some ⟨2,0,none⟩)),(3,.slice (some ⟨3,0,none⟩) N N),(9,iv j)]
def e156d (j:Int):List (Nat × Value):=[(1,.pointer (some ⟨2,0,none⟩)),(10,iv j)]
def e156e (j k:Int):List (Nat × Value):=(11,iv k)::e156d j
def Xf156:Nat × XF:=(156,mX elP elE plS)
theorem xf156:XOK Go.Proofs.Tryz.prog Xf156.1 Xf156.2:=mX_ok elP elE (body_calls (xl:=[X18,X212,Xf74,X25]) (.cons x18 (.cons x212 (.cons xf74 (.cons x25 .nil))))) fun l m n r v hs=>by
 obtain⟨rfl,hl,hm,rfl⟩:=plS_inv hs
 clear hs
 refine⟨rfl,rfl,fun c1 c2=>?_⟩
 have hszf:¬ (l.length≤400∧3≤m.length∧m.length≤400∧1≤n∧n≤100)→plnB l m n=false:=fun h=>pln_sz (by
  cases hz:szB l m n with
  |false=>rfl
  |true=>simp only [szB,Bool.and_eq_true,decide_eq_true_eq] at hz;exact absurd ⟨hz.1.1.1.1,hz.1.1.1.2,hz.1.1.2,hz.1.2,hz.2⟩ h)
 ((conv=>whnf);refine bm (fun a1=>?_) (fun a1=>?_))
 ·have a1:¬ 400<l.length:=by simp [cfgS,std] at a1;omega
  ((conv=>whnf);refine bm (fun a2=>?_) (fun a2=>?_))
  ·have a2:¬ m.length<3:=by simp [cfgS,std] at a2;omega
   ((conv=>whnf);refine bm (fun a3=>?_) (fun a3=>?_))
   ·have a3:¬ 400<m.length:=by simp [cfgS,std] at a3;omega
    ((conv=>whnf);refine bm (fun a4=>?_) (fun a4=>?_))
    ·have a4:¬ n<1:=by simp [cfgS,std] at a4;omega
     ((conv=>whnf);refine bm (fun a5=>?_) (fun a5=>?_))
     ·have a5:100<n:=by simp [cfgS,std] at a5;omega
      (conv=>whnf)
      rw [hszf (by omega)]
     ·have a5:¬ 100<n:=by simp [cfgS,std] at a5;omega
      have hsz:szB l m n=true:=by
       simp only [szB,Bool.and_eq_true,decide_eq_true_eq]
       omega
      clear hszf
      (conv=>whnf)
      refine⟨fun q e h nx=>∃ (i:Nat) (j:Int),j=i∧i≤l.length∧q=l.length - i∧(∀ t,t<i→ptB l t=true) ∧
       ((i=0∧e=e156 (.slice none 0 0) j∧h=h157 l m c1 c2 n∧nx=3)∨(0<i∧e=e156 (.slice (some ⟨3,0,none⟩) i i) j∧h=h157s l m c1 c2 n (List.replicate i false)∧nx=4)),⟨l.length,?_⟩,?_⟩
      ·refine Into_id (e0:=e156 (.slice none 0 0) 0) (h0:=h157 l m c1 c2 n) (n0:=3) ⟨0,0,rfl,Nat.zero_le _,rfl,fun t ht=>absurd ht (Nat.not_lt_zero t),.inl ⟨rfl,rfl,rfl,rfl⟩⟩ ?_ ?_ (by decide)
       ·unfold e156;((repeat'(refine List.forall_mem_cons.2 ⟨⟨rfl,?_⟩,?_⟩;(first|exact scT_g rfl|exact⟨by decide,rfl⟩|exact⟨by decide,fun h=>(by cases h)⟩)));exact fun _ h=>(by cases h))
       ·unfold h157 bxM mapH2;((repeat'(refine List.forall_mem_cons.2 ⟨⟨Nat.le_of_ble_eq_true rfl,_,rfl,?_⟩,?_⟩;(first|exact ObjRen_g (flat_g _ _)|(refine ObjRen_2 ?_;(repeat'(refine List.forall_mem_cons.2 ⟨⟨rfl,?_⟩,?_⟩;(first|exact scS_g rfl|exact⟨by decide,rfl⟩|exact⟨by decide,fun h=>(by cases h)⟩)));exact fun _ h=>(by cases h))|(refine⟨rfl,rfl,rfl,rfl,?_⟩;(repeat'(refine List.forall_mem_cons.2 ⟨?_,?_⟩;(first|exact scS_g rfl|exact⟨by decide,rfl⟩|exact⟨by decide,fun h=>(by cases h)⟩)));exact fun _ h=>(by cases h))|exact ObjRen_j rfl rfl)));exact fun _ h=>(by cases h))
      ·rintro q e h nx ⟨i,j,hj,hi,rfl,hpt,⟨hi0,rfl,rfl,rfl⟩|⟨hip,rfl,rfl,rfl⟩⟩
       ·subst hi0
        unfold e156 h157 bxM mapH2
        ((conv=>whnf);refine bm (fun b1=>?_) (fun b1=>?_))
        ·have hlt:0<l.length:=by simp [cfgS,std] at b1;omega
         ((conv=>whnf);refine bm (fun b2=>?_) (fun b2=>?_))
         ·(conv=>whnf)
          refine boL (getPt l (i:=0) hlt ?_) ?_
          ·show _+Int.toNat j*2=_;omega
          ((conv=>whnf);refine bm (fun b3=>?_) (fun b3=>?_))
          ·have hr:rightS (at2 l 0)=true:=by simpa [cfgS,std] using b3
           ((conv=>whnf);refine bm (fun b4=>?_) (fun b4=>?_))
           ·exfalso;simp [cfgS,std] at b4;omega
           ·((conv=>whnf);refine bm (fun b5=>?_) (fun b5=>?_))
            ·(conv=>whnf)
             refine⟨l.length - 1,by omega,?_⟩
             refine Into_mv (e0:=e156 (.slice (some ⟨3,0,none⟩) 1 1) (j+1)) (h0:=h157s l m c1 c2 n [false]) (n0:=4) 3 4 (by decide) (by decide)
              ⟨1,j+1,by omega,by omega,rfl,fun t ht=>by rw [show t=0 by omega,ptB,hr];rfl,.inr ⟨Nat.one_pos,rfl,rfl,rfl⟩⟩ ?_ ?_ ?_
             ·unfold e156;((repeat'(refine List.forall_mem_cons.2 ⟨⟨rfl,?_⟩,?_⟩;(first|exact scT_g rfl|exact⟨by decide,rfl⟩|exact⟨by decide,fun h=>(by cases h)⟩)));exact fun _ h=>(by cases h))
             ·unfold h157s h157 bxM mapH2;((repeat'(refine List.forall_mem_cons.2 ⟨⟨Nat.le_of_ble_eq_true rfl,_,rfl,?_⟩,?_⟩;(first|exact ObjRen_g (flat_g _ _)|(refine ObjRen_2 ?_;(repeat'(refine List.forall_mem_cons.2 ⟨⟨rfl,?_⟩,?_⟩;(first|exact scS_g rfl|exact⟨by decide,rfl⟩|exact⟨by decide,fun h=>(by cases h)⟩)));exact fun _ h=>(by cases h))|(refine⟨rfl,rfl,rfl,rfl,?_⟩;(repeat'(refine List.forall_mem_cons.2 ⟨?_,?_⟩;(first|exact scS_g rfl|exact⟨by decide,rfl⟩|exact⟨by decide,fun h=>(by cases h)⟩)));exact fun _ h=>(by cases h))|exact ObjRen_j rfl rfl)));exact fun _ h=>(by cases h))
             ·unfold h157s h157 mapH2;((repeat'(refine List.forall_mem_cons.2 ⟨?_,?_⟩;(intro _ h;revert h;simp)));exact fun _ h=>(by cases h))
            ·exfalso;simp [cfgS,std,fitsK] at b5;omega
          ·have hr:rightS (at2 l 0)=false:=by simpa [cfgS,std] using b3
           (conv=>whnf)
           rw [pln_pt hlt (show ptB l 0=false by rw [ptB,hr];rfl)]
         ·exfalso;simp [cfgS,std] at b2;omega
        ·have h0:l.length=0:=by simp [cfgS,std] at b1;omega
         have hno:∀ ed,atE m 0=ed→edB l m 0=false:=fun ed hed=>edB_no hed (by omega)
         (conv=>whnf)
         refine⟨fun q e h nx=>∃ z:Int,z=0∧e=e156z z∧h=h157 l m c1 c2 n∧nx=3,⟨0,?_⟩,?_⟩
         ·refine Into_id (e0:=e156z 0) (h0:=h157 l m c1 c2 n) (n0:=3) ⟨0,rfl,rfl,rfl,rfl⟩ ?_ ?_ (by decide)
          ·unfold e156z;((repeat'(refine List.forall_mem_cons.2 ⟨⟨rfl,?_⟩,?_⟩;(first|exact scT_g rfl|exact⟨by decide,rfl⟩|exact⟨by decide,fun h=>(by cases h)⟩)));exact fun _ h=>(by cases h))
          ·unfold h157 bxM mapH2;((repeat'(refine List.forall_mem_cons.2 ⟨⟨Nat.le_of_ble_eq_true rfl,_,rfl,?_⟩,?_⟩;(first|exact ObjRen_g (flat_g _ _)|(refine ObjRen_2 ?_;(repeat'(refine List.forall_mem_cons.2 ⟨⟨rfl,?_⟩,?_⟩;(first|exact scS_g rfl|exact⟨by decide,rfl⟩|exact⟨by decide,fun h=>(by cases h)⟩)));exact fun _ h=>(by cases h))|(refine⟨rfl,rfl,rfl,rfl,?_⟩;(repeat'(refine List.forall_mem_cons.2 ⟨?_,?_⟩;(first|exact scS_g rfl|exact⟨by decide,rfl⟩|exact⟨by decide,fun h=>(by cases h)⟩)));exact fun _ h=>(by cases h))|exact ObjRen_j rfl rfl)));exact fun _ h=>(by cases h))
         ·rintro q e h nx ⟨z,hz,rfl,rfl,rfl⟩
          unfold e156z h157 bxM mapH2
          ((conv=>whnf);refine bm (fun d1=>?_) (fun d1=>?_))
          ·((conv=>whnf);refine bm (fun d2=>?_) (fun d2=>?_))
           ·(conv=>whnf)
            refine boL (getE m (i:=0) (by omega) ?_) ?_
            ·show _+Int.toNat z*5=_;omega
            generalize hed:atE m 0=ed
            have hbad:=hno ed hed
            ((conv=>whnf);refine bm (fun f1=>?_) (fun f1=>?_))
            ·((conv=>whnf);refine bm (fun f2=>?_) (fun f2=>?_))
             ·((conv=>whnf);refine bm (fun f3=>?_) (fun f3=>?_))
              ·exfalso;simp [cfgS,std] at f1 f2 f3;omega
              ·(conv=>whnf)
               rw [pln_ed (by omega) hbad]
             ·(conv=>whnf)
              rw [pln_ed (by omega) hbad]
            ·(conv=>whnf)
             rw [pln_ed (by omega) hbad]
           ·exfalso;simp [cfgS,std] at d2;omega
          ·exfalso;simp [cfgS,std] at d1;omega
       ·unfold e156 h157s h157 bxM mapH2
        ((conv=>whnf);refine bm (fun b1=>?_) (fun b1=>?_))
        ·have hlt:i<l.length:=by simp [cfgS,std] at b1;omega
         have hll:(flat elB.fl (List.replicate i false)).length=i:=by rw [flat_len,List.length_replicate];exact Nat.mul_one _
         ((conv=>whnf);refine bm (fun b0=>?_) (fun b0=>?_))
         ·exfalso;have:=Nat.le_of_ble_eq_true b0;omega
         ·((conv=>whnf);refine bm (fun b00=>?_) (fun b00=>?_))
          ·((conv=>whnf);refine bm (fun b2=>?_) (fun b2=>?_))
           ·(conv=>whnf)
            refine boL (getPt l (i:=i) hlt ?_) ?_
            ·show _+Int.toNat j*2=_;omega
            ((conv=>whnf);refine bm (fun b3=>?_) (fun b3=>?_))
            ·have hr:rightS (at2 l i)=true:=by simpa [cfgS,std] using b3
             ((conv=>whnf);refine bm (fun b4=>?_) (fun b4=>?_))
             ·((conv=>whnf);refine bm (fun b5=>?_) (fun b5=>?_))
              ·((conv=>whnf);refine bm (fun b6=>?_) (fun b6=>?_))
               ·(conv=>whnf)
                refine boL (getPt l (i:=i - 1) (by omega) ?_) ?_
                ·show _+Int.toNat (j - 1)*2=_;omega
                ((conv=>whnf);refine bm (fun b7=>?_) (fun b7=>?_))
                ·(conv=>whnf)
                 refine boL (getPt l (i:=i) hlt ?_) ?_
                 ·show _+Int.toNat j*2=_;omega
                 ((conv=>whnf);refine bm (fun b8=>?_) (fun b8=>?_))
                 ·have b8:lessI (at2 l (i - 1)) (at2 l i)=false:=by simpa [cfgS,std] using b8
                  (conv=>whnf)
                  rw [pln_pt hlt (show ptB l i=false by rw [ptB,hr,b8,decide_eq_false (show ¬ i=0 by omega)];rfl)]
                 ·have b8:lessI (at2 l (i - 1)) (at2 l i)=true:=by simpa [cfgS,std] using b8
                  ((conv=>whnf);refine bm (fun b9=>?_) (fun b9=>?_))
                  ·(conv=>whnf)
                   refine⟨l.length - (i+1),by omega,?_⟩
                   refine Into_mv (e0:=e156 (.slice (some ⟨3,0,none⟩) (i+1) (i+1)) (j+1)) (h0:=h157s l m c1 c2 n (List.replicate i false++[false])) (n0:=4) 3 5 (by decide) (by decide)
                    ⟨i+1,j+1,by omega,by omega,rfl,fun t ht=>?_,.inr ⟨Nat.succ_pos _,rfl,by rw [List.replicate_succ'];rfl,rfl⟩⟩ ?_ ?_ ?_
                   ·by_cases hti:t=i
                    ·rw [hti,ptB,hr,b8];simp
                    ·exact hpt t (by omega)
                   ·unfold e156;((repeat'(refine List.forall_mem_cons.2 ⟨⟨rfl,?_⟩,?_⟩;(first|exact scT_g rfl|exact⟨by decide,rfl⟩|exact⟨by decide,fun h=>(by cases h)⟩)));exact fun _ h=>(by cases h))
                   ·unfold h157s h157 bxM mapH2
                    ((repeat'(refine List.forall_mem_cons.2 ⟨⟨Nat.le_of_ble_eq_true rfl,_,rfl,?_⟩,?_⟩;(first|exact (ObjRen_j (flat_g elB _) (flat_growE elB (List.replicate i false) false (by rw [List.length_replicate])))|exact ObjRen_g (flat_g _ _)|(refine ObjRen_2 ?_;(repeat'(refine List.forall_mem_cons.2 ⟨⟨rfl,?_⟩,?_⟩;(first|exact scS_g rfl|exact⟨by decide,rfl⟩|exact⟨by decide,fun h=>(by cases h)⟩)));exact fun _ h=>(by cases h))|(refine⟨rfl,rfl,rfl,rfl,?_⟩;(repeat'(refine List.forall_mem_cons.2 ⟨?_,?_⟩;(first|exact scS_g rfl|exact⟨by decide,rfl⟩|exact⟨by decide,fun h=>(by cases h)⟩)));exact fun _ h=>(by cases h))|exact ObjRen_j rfl rfl)));exact fun _ h=>(by cases h))
                   ·unfold h157s h157 mapH2;((repeat'(refine List.forall_mem_cons.2 ⟨?_,?_⟩;(intro _ h;revert h;simp)));exact fun _ h=>(by cases h))
                  ·exfalso;simp [cfgS,std,fitsK] at b9;omega
                ·exfalso;simp [cfgS,std] at b7;omega
               ·exfalso;simp [cfgS,std] at b6;omega
              ·exfalso;simp [cfgS,std,fitsK] at b5;omega
             ·exfalso;simp [cfgS,std] at b4;omega
            ·have hr:rightS (at2 l i)=false:=by simpa [cfgS,std] using b3
             (conv=>whnf)
             rw [pln_pt hlt (show ptB l i=false by rw [ptB,hr];rfl)]
           ·exfalso;simp [cfgS,std] at b2;omega
          ·exact app_no (s:=1) (by omega) (by omega) b00
        ·have hge:i=l.length:=by simp [cfgS,std] at b1;omega
         subst hge
         clear b1 hi hip hj
         (conv=>whnf)
         refine⟨fun q e h nx=>∃ (i:Nat) (j:Int),j=i∧i≤m.length∧q=m.length - i∧(∀ t,t<i→edB l m t=true)∧e=e156b l.length j∧h=h157s l m c1 c2 n (useN m (List.replicate l.length false) i)∧nx=4,⟨m.length,?_⟩,?_⟩
         ·refine Into_id (e0:=e156b l.length 0) (h0:=h157s l m c1 c2 n (List.replicate l.length false)) (n0:=4) ⟨0,0,rfl,Nat.zero_le _,rfl,fun t ht=>absurd ht (Nat.not_lt_zero t),rfl,rfl,rfl⟩ ?_ ?_ (by decide)
          ·unfold e156b;((repeat'(refine List.forall_mem_cons.2 ⟨⟨rfl,?_⟩,?_⟩;(first|exact scT_g rfl|exact⟨by decide,rfl⟩|exact⟨by decide,fun h=>(by cases h)⟩)));exact fun _ h=>(by cases h))
          ·unfold h157s h157 bxM mapH2;((repeat'(refine List.forall_mem_cons.2 ⟨⟨Nat.le_of_ble_eq_true rfl,_,rfl,?_⟩,?_⟩;(first|exact ObjRen_g (flat_g _ _)|(refine ObjRen_2 ?_;(repeat'(refine List.forall_mem_cons.2 ⟨⟨rfl,?_⟩,?_⟩;(first|exact scS_g rfl|exact⟨by decide,rfl⟩|exact⟨by decide,fun h=>(by cases h)⟩)));exact fun _ h=>(by cases h))|(refine⟨rfl,rfl,rfl,rfl,?_⟩;(repeat'(refine List.forall_mem_cons.2 ⟨?_,?_⟩;(first|exact scS_g rfl|exact⟨by decide,rfl⟩|exact⟨by decide,fun h=>(by cases h)⟩)));exact fun _ h=>(by cases h))|exact ObjRen_j rfl rfl)));exact fun _ h=>(by cases h))
         ·rintro q e h nx ⟨i,j,hj,hi,rfl,hed0,rfl,rfl,rfl⟩
          have rl:(useN m (List.replicate l.length false) i).length=l.length:=by rw [useN_len,List.length_replicate]
          have nxt:useN m (List.replicate l.length false) (i+1)=((useN m (List.replicate l.length false) i).set (atE m i).a.toNat true).set (atE m i).b.toNat true:=rfl
          generalize hs0:useN m (List.replicate l.length false) i=s at rl nxt
          have hsl:(flat elB.fl s).length=l.length:=by rw [flat_len,rl];exact Nat.mul_one _
          unfold e156b h157s h157 bxM mapH2
          ((conv=>whnf);refine bm (fun d1=>?_) (fun d1=>?_))
          ·have hlt:i<m.length:=by simp [cfgS,std] at d1;omega
           ((conv=>whnf);refine bm (fun d2=>?_) (fun d2=>?_))
           ·(conv=>whnf)
            refine boL (getE m (i:=i) hlt ?_) ?_
            ·show _+Int.toNat j*5=_;omega
            generalize hed:atE m i=ed at nxt
            ((conv=>whnf);refine bm (fun f1=>?_) (fun f1=>?_))
            ·have f1:0≤ed.a:=by simp [cfgS,std] at f1;omega
             ((conv=>whnf);refine bm (fun f2=>?_) (fun f2=>?_))
             ·have f2:ed.a<ed.b:=by simp [cfgS,std] at f2;omega
              ((conv=>whnf);refine bm (fun f3=>?_) (fun f3=>?_))
              ·have f3:ed.b<l.length:=by simp [cfgS,std] at f3;omega
               ((conv=>whnf);refine bm (fun f4=>?_) (fun f4=>?_))
               ·have f4 : -1≤ed.n:=by simp [cfgS,std] at f4;omega
                ((conv=>whnf);refine bm (fun f5=>?_) (fun f5=>?_))
                ·have f5:200≤ed.n:=by simp [cfgS,std] at f5;omega
                 (conv=>whnf)
                 rw [pln_ed hlt (edB_no hed (by omega))]
                ·have f5:ed.n<200:=by simp [cfgS,std] at f5;omega
                 ((conv=>whnf);refine bm (fun f6=>?_) (fun f6=>?_))
                 ·have f6:0<i:=by simp [cfgS,std] at f6;omega
                  ((conv=>whnf);refine bm (fun f7=>?_) (fun f7=>?_))
                  ·((conv=>whnf);refine bm (fun f8=>?_) (fun f8=>?_))
                   ·(conv=>whnf)
                    refine boL (getE m (i:=i - 1) (by omega) ?_) ?_
                    ·show _+Int.toNat (j - 1)*5=_;omega
                    generalize hd0:atE m (i - 1)=dd
                    ((conv=>whnf);refine bm (fun f9=>?_) (fun f9=>?_))
                    ·have f9:¬ ed.a<dd.a:=by simp [cfgS,std] at f9;omega
                     ((conv=>whnf);refine bm (fun f10=>?_) (fun f10=>?_))
                     ·have f10:dd.a=ed.a:=by simpa [cfgS,std] using f10
                      ((conv=>whnf);refine bm (fun f11=>?_) (fun f11=>?_))
                      ·have f11:ed.b≤dd.b:=by simp [cfgS,std] at f11;omega
                       (conv=>whnf)
                       rw [pln_ed hlt (edB_bf hed hd0 (by omega) (by unfold bfE;simp;omega))]
                      ·have f11:dd.b<ed.b:=by simp [cfgS,std] at f11;omega
                       have hyes:edB l m i=true:=edB_yes hed ⟨f1,f2,f3,f4,f5⟩ (by rw [hd0];unfold bfE;simp;omega)
                       ((conv=>whnf);refine bm (fun k1=>?_) (fun k1=>?_))
                       ·((conv=>whnf);refine bm (fun k2=>?_) (fun k2=>?_))
                        ·((conv=>whnf);refine bm (fun k3=>?_) (fun k3=>?_))
                         ·((conv=>whnf);refine bm (fun k4=>?_) (fun k4=>?_))
                          ·((conv=>whnf);refine bm (fun k5=>?_) (fun k5=>?_))
                           ·(conv=>whnf)
                            refine⟨m.length - (i+1),by omega,?_⟩
                            refine Into_id (e0:=e156b l.length (j+1)) (h0:=h157s l m c1 c2 n (useN m (List.replicate l.length false) (i+1))) (n0:=4) ⟨i+1,j+1,by omega,by omega,rfl,fun t ht=>?_,rfl,rfl,rfl⟩ ?_ ?_ (by decide)
                            ·by_cases hti:t=i
                             ·rw [hti];exact hyes
                             ·exact hed0 t (by omega)
                            ·unfold e156b;((repeat'(refine List.forall_mem_cons.2 ⟨⟨rfl,?_⟩,?_⟩;(first|exact scT_g rfl|exact⟨by decide,rfl⟩|exact⟨by decide,fun h=>(by cases h)⟩)));exact fun _ h=>(by cases h))
                            ·unfold h157s h157 bxM mapH2
                             have hput:=put2 (s:=s) (a:=ed.a.toNat) (b:=ed.b.toNat) (o1:=0+ed.a.toNat*1) (o2:=0+ed.b.toNat*1) (by omega) (by omega) (by omega) (by omega)
                             rw [nxt]
                             ((repeat'(refine List.forall_mem_cons.2 ⟨⟨Nat.le_of_ble_eq_true rfl,_,rfl,?_⟩,?_⟩;(first|exact (ObjRen_j (flat_g elB _) hput)|exact ObjRen_g (flat_g _ _)|(refine ObjRen_2 ?_;(repeat'(refine List.forall_mem_cons.2 ⟨⟨rfl,?_⟩,?_⟩;(first|exact scS_g rfl|exact⟨by decide,rfl⟩|exact⟨by decide,fun h=>(by cases h)⟩)));exact fun _ h=>(by cases h))|(refine⟨rfl,rfl,rfl,rfl,?_⟩;(repeat'(refine List.forall_mem_cons.2 ⟨?_,?_⟩;(first|exact scS_g rfl|exact⟨by decide,rfl⟩|exact⟨by decide,fun h=>(by cases h)⟩)));exact fun _ h=>(by cases h))|exact ObjRen_j rfl rfl)));exact fun _ h=>(by cases h))
                           ·exfalso;simp [cfgS,std,fitsK] at k5;omega
                          ·have hpl:(putN (flat elB.fl s) (0+ed.a.toNat*1) [.bool true]).length=l.length:=by rw [putN_length (by rw [hsl];show 0+ed.a.toNat*1+1≤l.length;omega)];exact hsl
                           have k4:(0+ed.b.toNat*1+1).ble (putN (flat elB.fl s) (0+ed.a.toNat*1) [.bool true]).length=false:=k4
                           rw [hpl] at k4
                           exact ble_no k4 (by omega)
                         ·exfalso;simp [cfgS,std] at k3;omega
                        ·rw [hsl] at k2
                         exact ble_no k2 (by show 0+ed.a.toNat*1+1≤l.length;omega)
                       ·exfalso;simp [cfgS,std] at k1;omega
                     ·have f10:¬ dd.a=ed.a:=by simpa [cfgS,std] using f10
                      have hyes:edB l m i=true:=edB_yes hed ⟨f1,f2,f3,f4,f5⟩ (by rw [hd0];unfold bfE;simp;omega)
                      ((conv=>whnf);refine bm (fun k1=>?_) (fun k1=>?_))
                      ·((conv=>whnf);refine bm (fun k2=>?_) (fun k2=>?_))
                       ·((conv=>whnf);refine bm (fun k3=>?_) (fun k3=>?_))
                        ·((conv=>whnf);refine bm (fun k4=>?_) (fun k4=>?_))
                         ·((conv=>whnf);refine bm (fun k5=>?_) (fun k5=>?_))
                          ·(conv=>whnf)
                           refine⟨m.length - (i+1),by omega,?_⟩
                           refine Into_id (e0:=e156b l.length (j+1)) (h0:=h157s l m c1 c2 n (useN m (List.replicate l.length false) (i+1))) (n0:=4) ⟨i+1,j+1,by omega,by omega,rfl,fun t ht=>?_,rfl,rfl,rfl⟩ ?_ ?_ (by decide)
                           ·by_cases hti:t=i
                            ·rw [hti];exact hyes
                            ·exact hed0 t (by omega)
                           ·unfold e156b;((repeat'(refine List.forall_mem_cons.2 ⟨⟨rfl,?_⟩,?_⟩;(first|exact scT_g rfl|exact⟨by decide,rfl⟩|exact⟨by decide,fun h=>(by cases h)⟩)));exact fun _ h=>(by cases h))
                           ·unfold h157s h157 bxM mapH2
                            have hput:=put2 (s:=s) (a:=ed.a.toNat) (b:=ed.b.toNat) (o1:=0+ed.a.toNat*1) (o2:=0+ed.b.toNat*1) (by omega) (by omega) (by omega) (by omega)
                            rw [nxt]
                            ((repeat'(refine List.forall_mem_cons.2 ⟨⟨Nat.le_of_ble_eq_true rfl,_,rfl,?_⟩,?_⟩;(first|exact (ObjRen_j (flat_g elB _) hput)|exact ObjRen_g (flat_g _ _)|(refine ObjRen_2 ?_;(repeat'(refine List.forall_mem_cons.2 ⟨⟨rfl,?_⟩,?_⟩;(first|exact scS_g rfl|exact⟨by decide,rfl⟩|exact⟨by decide,fun h=>(by cases h)⟩)));exact fun _ h=>(by cases h))|(refine⟨rfl,rfl,rfl,rfl,?_⟩;(repeat'(refine List.forall_mem_cons.2 ⟨?_,?_⟩;(first|exact scS_g rfl|exact⟨by decide,rfl⟩|exact⟨by decide,fun h=>(by cases h)⟩)));exact fun _ h=>(by cases h))|exact ObjRen_j rfl rfl)));exact fun _ h=>(by cases h))
                          ·exfalso;simp [cfgS,std,fitsK] at k5;omega
                         ·have hpl:(putN (flat elB.fl s) (0+ed.a.toNat*1) [.bool true]).length=l.length:=by rw [putN_length (by rw [hsl];show 0+ed.a.toNat*1+1≤l.length;omega)];exact hsl
                          have k4:(0+ed.b.toNat*1+1).ble (putN (flat elB.fl s) (0+ed.a.toNat*1) [.bool true]).length=false:=k4
                          rw [hpl] at k4
                          exact ble_no k4 (by omega)
                        ·exfalso;simp [cfgS,std] at k3;omega
                       ·rw [hsl] at k2
                        exact ble_no k2 (by show 0+ed.a.toNat*1+1≤l.length;omega)
                      ·exfalso;simp [cfgS,std] at k1;omega
                    ·have f9:ed.a<dd.a:=by simp [cfgS,std] at f9;omega
                     (conv=>whnf)
                     rw [pln_ed hlt (edB_bf hed hd0 (by omega) (by unfold bfE;simp;omega))]
                   ·exfalso;simp [cfgS,std] at f8;omega
                  ·exfalso;simp [cfgS,std,fitsK] at f7;omega
                 ·have f6:i=0:=by simp [cfgS,std] at f6;omega
                  have hyes:edB l m i=true:=edB_yes hed ⟨f1,f2,f3,f4,f5⟩ (by simp [f6])
                  ((conv=>whnf);refine bm (fun k1=>?_) (fun k1=>?_))
                  ·((conv=>whnf);refine bm (fun k2=>?_) (fun k2=>?_))
                   ·((conv=>whnf);refine bm (fun k3=>?_) (fun k3=>?_))
                    ·((conv=>whnf);refine bm (fun k4=>?_) (fun k4=>?_))
                     ·((conv=>whnf);refine bm (fun k5=>?_) (fun k5=>?_))
                      ·(conv=>whnf)
                       refine⟨m.length - (i+1),by omega,?_⟩
                       refine Into_id (e0:=e156b l.length (j+1)) (h0:=h157s l m c1 c2 n (useN m (List.replicate l.length false) (i+1))) (n0:=4) ⟨i+1,j+1,by omega,by omega,rfl,fun t ht=>?_,rfl,rfl,rfl⟩ ?_ ?_ (by decide)
                       ·by_cases hti:t=i
                        ·rw [hti];exact hyes
                        ·exact hed0 t (by omega)
                       ·unfold e156b;((repeat'(refine List.forall_mem_cons.2 ⟨⟨rfl,?_⟩,?_⟩;(first|exact scT_g rfl|exact⟨by decide,rfl⟩|exact⟨by decide,fun h=>(by cases h)⟩)));exact fun _ h=>(by cases h))
                       ·unfold h157s h157 bxM mapH2
                        have hput:=put2 (s:=s) (a:=ed.a.toNat) (b:=ed.b.toNat) (o1:=0+ed.a.toNat*1) (o2:=0+ed.b.toNat*1) (by omega) (by omega) (by omega) (by omega)
                        rw [nxt]
                        ((repeat'(refine List.forall_mem_cons.2 ⟨⟨Nat.le_of_ble_eq_true rfl,_,rfl,?_⟩,?_⟩;(first|exact (ObjRen_j (flat_g elB _) hput)|exact ObjRen_g (flat_g _ _)|(refine ObjRen_2 ?_;(repeat'(refine List.forall_mem_cons.2 ⟨⟨rfl,?_⟩,?_⟩;(first|exact scS_g rfl|exact⟨by decide,rfl⟩|exact⟨by decide,fun h=>(by cases h)⟩)));exact fun _ h=>(by cases h))|(refine⟨rfl,rfl,rfl,rfl,?_⟩;(repeat'(refine List.forall_mem_cons.2 ⟨?_,?_⟩;(first|exact scS_g rfl|exact⟨by decide,rfl⟩|exact⟨by decide,fun h=>(by cases h)⟩)));exact fun _ h=>(by cases h))|exact ObjRen_j rfl rfl)));exact fun _ h=>(by cases h))
                      ·exfalso;simp [cfgS,std,fitsK] at k5;omega
                     ·have hpl:(putN (flat elB.fl s) (0+ed.a.toNat*1) [.bool true]).length=l.length:=by rw [putN_length (by rw [hsl];show 0+ed.a.toNat*1+1≤l.length;omega)];exact hsl
                      have k4:(0+ed.b.toNat*1+1).ble (putN (flat elB.fl s) (0+ed.a.toNat*1) [.bool true]).length=false:=k4
                      rw [hpl] at k4
                      exact ble_no k4 (by omega)
                    ·exfalso;simp [cfgS,std] at k3;omega
                   ·rw [hsl] at k2
                    exact ble_no k2 (by show 0+ed.a.toNat*1+1≤l.length;omega)
                  ·exfalso;simp [cfgS,std] at k1;omega
               ·have f4:¬ -1≤ed.n:=by simp [cfgS,std] at f4;omega
                (conv=>whnf)
                rw [pln_ed hlt (edB_no hed (by omega))]
              ·have f3:¬ ed.b<l.length:=by simp [cfgS,std] at f3;omega
               (conv=>whnf)
               rw [pln_ed hlt (edB_no hed (by omega))]
             ·have f2:¬ ed.a<ed.b:=by simp [cfgS,std] at f2;omega
              (conv=>whnf)
              rw [pln_ed hlt (edB_no hed (by omega))]
            ·have f1:¬ 0≤ed.a:=by simp [cfgS,std] at f1;omega
             (conv=>whnf)
             rw [pln_ed hlt (edB_no hed (by omega))]
           ·exfalso;simp [cfgS,std] at d2;omega
          ·have hge:i=m.length:=by simp [cfgS,std] at d1;omega
           subst hge
           clear d1 hi hj
           have hM:okM l m=true:=okM_of hl hm hpt hed0
           (conv=>whnf)
           refine⟨fun q e h nx=>∃ (t:Nat) (z:Int),z=t∧t≤l.length∧q=l.length - t∧s.all id=(s.drop t).all id∧e=e156c l.length z∧h=h157s l m c1 c2 n s∧nx=4,⟨l.length,?_⟩,?_⟩
           ·refine Into_id (e0:=e156c l.length 0) (h0:=h157s l m c1 c2 n s) (n0:=4) ⟨0,0,rfl,Nat.zero_le _,rfl,rfl,rfl,rfl,rfl⟩ ?_ ?_ (by decide)
            ·unfold e156c;((repeat'(refine List.forall_mem_cons.2 ⟨⟨rfl,?_⟩,?_⟩;(first|exact scT_g rfl|exact⟨by decide,rfl⟩|exact⟨by decide,fun h=>(by cases h)⟩)));exact fun _ h=>(by cases h))
            ·unfold h157s h157 bxM mapH2;((repeat'(refine List.forall_mem_cons.2 ⟨⟨Nat.le_of_ble_eq_true rfl,_,rfl,?_⟩,?_⟩;(first|exact ObjRen_g (flat_g _ _)|(refine ObjRen_2 ?_;(repeat'(refine List.forall_mem_cons.2 ⟨⟨rfl,?_⟩,?_⟩;(first|exact scS_g rfl|exact⟨by decide,rfl⟩|exact⟨by decide,fun h=>(by cases h)⟩)));exact fun _ h=>(by cases h))|(refine⟨rfl,rfl,rfl,rfl,?_⟩;(repeat'(refine List.forall_mem_cons.2 ⟨?_,?_⟩;(first|exact scS_g rfl|exact⟨by decide,rfl⟩|exact⟨by decide,fun h=>(by cases h)⟩)));exact fun _ h=>(by cases h))|exact ObjRen_j rfl rfl)));exact fun _ h=>(by cases h))
           ·rintro q e h nx ⟨t,z,hz,ht,rfl,hall,rfl,rfl,rfl⟩
            unfold e156c h157s h157 bxM mapH2
            ((conv=>whnf);refine bm (fun h3=>?_) (fun h3=>?_))
            ·have htl:t<l.length:=by simp [cfgS,std] at h3;omega
             have hd:s.drop t=atB s t::s.drop (t+1):=by rw [atB_eq (by omega)];exact List.drop_eq_getElem_cons (by omega)
             rw [hd,List.all_cons] at hall
             ((conv=>whnf);refine bm (fun h4=>?_) (fun h4=>?_))
             ·(conv=>whnf)
              refine boV (getB s (i:=t) (by omega) ?_) ?_
              ·show _+Int.toNat z*1=_;omega
              ((conv=>whnf);refine bm (fun h5=>?_) (fun h5=>?_))
              ·have h5:atB s t=false:=by simpa [cfgS,std] using h5
               (conv=>whnf)
               rw [pln_us (by rw [hs0,hall,h5];rfl)]
              ·have h5:atB s t=true:=by simpa [cfgS,std] using h5
               ((conv=>whnf);refine bm (fun h6=>?_) (fun h6=>?_))
               ·(conv=>whnf)
                refine⟨l.length - (t+1),by omega,?_⟩
                refine Into_id (e0:=e156c l.length (z+1)) (h0:=h157s l m c1 c2 n s) (n0:=4) ⟨t+1,z+1,by omega,by omega,rfl,by rw [hall,h5];rfl,rfl,rfl,rfl⟩ ?_ ?_ (by decide)
                ·unfold e156c;((repeat'(refine List.forall_mem_cons.2 ⟨⟨rfl,?_⟩,?_⟩;(first|exact scT_g rfl|exact⟨by decide,rfl⟩|exact⟨by decide,fun h=>(by cases h)⟩)));exact fun _ h=>(by cases h))
                ·unfold h157s h157 bxM mapH2;((repeat'(refine List.forall_mem_cons.2 ⟨⟨Nat.le_of_ble_eq_true rfl,_,rfl,?_⟩,?_⟩;(first|exact ObjRen_g (flat_g _ _)|(refine ObjRen_2 ?_;(repeat'(refine List.forall_mem_cons.2 ⟨⟨rfl,?_⟩,?_⟩;(first|exact scS_g rfl|exact⟨by decide,rfl⟩|exact⟨by decide,fun h=>(by cases h)⟩)));exact fun _ h=>(by cases h))|(refine⟨rfl,rfl,rfl,rfl,?_⟩;(repeat'(refine List.forall_mem_cons.2 ⟨?_,?_⟩;(first|exact scS_g rfl|exact⟨by decide,rfl⟩|exact⟨by decide,fun h=>(by cases h)⟩)));exact fun _ h=>(by cases h))|exact ObjRen_j rfl rfl)));exact fun _ h=>(by cases h))
               ·exfalso;simp [cfgS,std,fitsK] at h6;omega
             ·exfalso;simp [cfgS,std] at h4;omega
            ·have hgt:t=l.length:=by simp [cfgS,std] at h3;omega
             have hus:(useN m (List.replicate l.length false) m.length).all id=true:=by
              rw [hs0,hall,hgt,List.drop_eq_nil_of_le (by omega)]
              rfl
             have hlst:lstB l m n=true:=by
              rw [lstB,hsz,allN_true hpt,allN_true hed0,hus]
              rfl
             (conv=>whnf)
             refine⟨fun q e h nx=>∃ (i:Nat) (j:Int),j=i∧i≤m.length∧q=m.length - i∧(∀ t,t<i→∀ k,k<t→meB l m t k=true)∧e=e156d j∧h=h157 l m c1 c2 n∧nx=4,⟨m.length,?_⟩,?_⟩
             ·refine Into_id (e0:=e156d 0) (h0:=h157 l m c1 c2 n) (n0:=4) ⟨0,0,rfl,Nat.zero_le _,rfl,fun t ht=>absurd ht (Nat.not_lt_zero t),rfl,rfl,rfl⟩ ?_ ?_ (by decide)
              ·unfold e156d;((repeat'(refine List.forall_mem_cons.2 ⟨⟨rfl,?_⟩,?_⟩;(first|exact scT_g rfl|exact⟨by decide,rfl⟩|exact⟨by decide,fun h=>(by cases h)⟩)));exact fun _ h=>(by cases h))
              ·unfold h157 bxM mapH2;((repeat'(refine List.forall_mem_cons.2 ⟨⟨Nat.le_of_ble_eq_true rfl,_,rfl,?_⟩,?_⟩;(first|exact ObjRen_g (flat_g _ _)|(refine ObjRen_2 ?_;(repeat'(refine List.forall_mem_cons.2 ⟨⟨rfl,?_⟩,?_⟩;(first|exact scS_g rfl|exact⟨by decide,rfl⟩|exact⟨by decide,fun h=>(by cases h)⟩)));exact fun _ h=>(by cases h))|(refine⟨rfl,rfl,rfl,rfl,?_⟩;(repeat'(refine List.forall_mem_cons.2 ⟨?_,?_⟩;(first|exact scS_g rfl|exact⟨by decide,rfl⟩|exact⟨by decide,fun h=>(by cases h)⟩)));exact fun _ h=>(by cases h))|exact ObjRen_j rfl rfl)));exact fun _ h=>(by cases h))
             ·clear h3 hall ht hz hgt
              rintro q e h nx ⟨i,j,hj,hi,rfl,hme,rfl,rfl,rfl⟩
              unfold e156d h157 bxM mapH2
              ((conv=>whnf);refine bm (fun h3=>?_) (fun h3=>?_))
              ·have hlt:i<m.length:=by simp [cfgS,std] at h3;omega
               (conv=>whnf)
               refine⟨fun q e h nx=>∃ (k:Nat) (z:Int),z=k∧k≤i∧q=i - k∧(∀ t,t<k→meB l m i t=true)∧e=e156e j z∧h=h157 l m c1 c2 n∧nx=4,⟨i,?_⟩,?_⟩
               ·refine Into_id (e0:=e156e j 0) (h0:=h157 l m c1 c2 n) (n0:=4) ⟨0,0,rfl,Nat.zero_le _,rfl,fun t ht=>absurd ht (Nat.not_lt_zero t),rfl,rfl,rfl⟩ ?_ ?_ (by decide)
                ·unfold e156e e156d;((repeat'(refine List.forall_mem_cons.2 ⟨⟨rfl,?_⟩,?_⟩;(first|exact scT_g rfl|exact⟨by decide,rfl⟩|exact⟨by decide,fun h=>(by cases h)⟩)));exact fun _ h=>(by cases h))
                ·unfold h157 bxM mapH2;((repeat'(refine List.forall_mem_cons.2 ⟨⟨Nat.le_of_ble_eq_true rfl,_,rfl,?_⟩,?_⟩;(first|exact ObjRen_g (flat_g _ _)|(refine ObjRen_2 ?_;(repeat'(refine List.forall_mem_cons.2 ⟨⟨rfl,?_⟩,?_⟩;(first|exact scS_g rfl|exact⟨by decide,rfl⟩|exact⟨by decide,fun h=>(by cases h)⟩)));exact fun _ h=>(by cases h))|(refine⟨rfl,rfl,rfl,rfl,?_⟩;(repeat'(refine List.forall_mem_cons.2 ⟨?_,?_⟩;(first|exact scS_g rfl|exact⟨by decide,rfl⟩|exact⟨by decide,fun h=>(by cases h)⟩)));exact fun _ h=>(by cases h))|exact ObjRen_j rfl rfl)));exact fun _ h=>(by cases h))
               ·rintro q e h nx ⟨k,z,hz,hk,rfl,hmk,rfl,rfl,rfl⟩
                unfold e156e e156d h157 bxM mapH2
                ((conv=>whnf);refine bm (fun h4=>?_) (fun h4=>?_))
                ·have hkl:k<i:=by simp [cfgS,std] at h4;omega
                 have ej:j.toNat=i:=by omega
                 have ez:z.toNat=k:=by omega
                 (conv=>whnf)
                 refine⟨l,m,LsAt_at elP rfl,LsAt_at elE rfl,?_⟩
                 ((conv=>whnf);refine bm (fun h5=>?_) (fun h5=>?_))
                 ·(conv=>whnf)
                  refine⟨l,m,LsAt_at elP rfl,LsAt_at elE rfl,?_⟩
                  ((conv=>whnf);refine bm (fun h6=>?_) (fun h6=>?_))
                  ·(conv=>whnf)
                   have em:MeetV (segI l m j.toNat) (segI l m z.toNat)=MeetV (segI l m i) (segI l m k):=by rw [ej,ez]
                   ((conv=>whnf);refine bm (fun h7=>?_) (fun h7=>?_))
                   ·have h7:¬ MeetV (segI l m i) (segI l m k)=0:=by rw [← em];simpa [cfgS,std] using h7
                    ((conv=>whnf);refine bm (fun h8=>?_) (fun h8=>?_))
                    ·have h8:¬ MeetV (segI l m i) (segI l m k)=1:=by rw [← em];simpa [cfgS,std] using h8
                     (conv=>whnf)
                     rw [pln_me hlt hkl (by rw [meB,decide_eq_false h7,decide_eq_false h8];rfl)]
                    ·have h8:MeetV (segI l m i) (segI l m k)=1:=by rw [← em];simpa [cfgS,std] using h8
                     have hyes:meB l m i k=true:=by rw [meB,decide_eq_true h8,Bool.or_true]
                     ((conv=>whnf);refine bm (fun h9=>?_) (fun h9=>?_))
                     ·(conv=>whnf)
                      refine⟨i - (k+1),by omega,?_⟩
                      refine Into_id (e0:=e156e j (z+1)) (h0:=h157 l m c1 c2 n) (n0:=4) ⟨k+1,z+1,by omega,by omega,rfl,fun t ht=>?_,rfl,rfl,rfl⟩ ?_ ?_ (by decide)
                      ·by_cases htk:t=k
                       ·rw [htk];exact hyes
                       ·exact hmk t (by omega)
                      ·unfold e156e e156d;((repeat'(refine List.forall_mem_cons.2 ⟨⟨rfl,?_⟩,?_⟩;(first|exact scT_g rfl|exact⟨by decide,rfl⟩|exact⟨by decide,fun h=>(by cases h)⟩)));exact fun _ h=>(by cases h))
                      ·unfold h157 bxM mapH2;((repeat'(refine List.forall_mem_cons.2 ⟨⟨Nat.le_of_ble_eq_true rfl,_,rfl,?_⟩,?_⟩;(first|exact ObjRen_g (flat_g _ _)|(refine ObjRen_2 ?_;(repeat'(refine List.forall_mem_cons.2 ⟨⟨rfl,?_⟩,?_⟩;(first|exact scS_g rfl|exact⟨by decide,rfl⟩|exact⟨by decide,fun h=>(by cases h)⟩)));exact fun _ h=>(by cases h))|(refine⟨rfl,rfl,rfl,rfl,?_⟩;(repeat'(refine List.forall_mem_cons.2 ⟨?_,?_⟩;(first|exact scS_g rfl|exact⟨by decide,rfl⟩|exact⟨by decide,fun h=>(by cases h)⟩)));exact fun _ h=>(by cases h))|exact ObjRen_j rfl rfl)));exact fun _ h=>(by cases h))
                     ·exfalso;simp [cfgS,std,fitsK] at h9;omega
                   ·have h7:MeetV (segI l m i) (segI l m k)=0:=by rw [← em];simpa [cfgS,std] using h7
                    have hyes:meB l m i k=true:=by rw [meB,decide_eq_true h7,Bool.true_or]
                    ((conv=>whnf);refine bm (fun h9=>?_) (fun h9=>?_))
                    ·(conv=>whnf)
                     refine⟨i - (k+1),by omega,?_⟩
                     refine Into_id (e0:=e156e j (z+1)) (h0:=h157 l m c1 c2 n) (n0:=4) ⟨k+1,z+1,by omega,by omega,rfl,fun t ht=>?_,rfl,rfl,rfl⟩ ?_ ?_ (by decide)
                     ·by_cases htk:t=k
                      ·rw [htk];exact hyes
                      ·exact hmk t (by omega)
                     ·unfold e156e e156d;((repeat'(refine List.forall_mem_cons.2 ⟨⟨rfl,?_⟩,?_⟩;(first|exact scT_g rfl|exact⟨by decide,rfl⟩|exact⟨by decide,fun h=>(by cases h)⟩)));exact fun _ h=>(by cases h))
                     ·unfold h157 bxM mapH2;((repeat'(refine List.forall_mem_cons.2 ⟨⟨Nat.le_of_ble_eq_true rfl,_,rfl,?_⟩,?_⟩;(first|exact ObjRen_g (flat_g _ _)|(refine ObjRen_2 ?_;(repeat'(refine List.forall_mem_cons.2 ⟨⟨rfl,?_⟩,?_⟩;(first|exact scS_g rfl|exact⟨by decide,rfl⟩|exact⟨by decide,fun h=>(by cases h)⟩)));exact fun _ h=>(by cases h))|(refine⟨rfl,rfl,rfl,rfl,?_⟩;(repeat'(refine List.forall_mem_cons.2 ⟨?_,?_⟩;(first|exact scS_g rfl|exact⟨by decide,rfl⟩|exact⟨by decide,fun h=>(by cases h)⟩)));exact fun _ h=>(by cases h))|exact ObjRen_j rfl rfl)));exact fun _ h=>(by cases h))
                    ·exfalso;simp [cfgS,std,fitsK] at h9;omega
                  ·exfalso
                   have h6:(okM l m&&(decide (0≤z)&&decide (z<m.length)))=false:=h6
                   rw [hM,decide_eq_true (show 0≤z by omega),decide_eq_true (show z<m.length by omega)] at h6
                   cases h6
                 ·exfalso
                  have h5:(okM l m&&(decide (0≤j)&&decide (j<m.length)))=false:=h5
                  rw [hM,decide_eq_true (show 0≤j by omega),decide_eq_true (show j<m.length by omega)] at h5
                  cases h5
                ·have hge:k=i:=by simp [cfgS,std] at h4;omega
                 ((conv=>whnf);refine bm (fun h5=>?_) (fun h5=>?_))
                 ·(conv=>whnf)
                  refine⟨m.length - (i+1),by omega,?_⟩
                  refine Into_id (e0:=e156d (j+1)) (h0:=h157 l m c1 c2 n) (n0:=4) ⟨i+1,j+1,by omega,by omega,rfl,fun t ht=>?_,rfl,rfl,rfl⟩ ?_ ?_ (by decide)
                  ·by_cases hti:t=i
                   ·rw [hti];exact fun k' hk'=>hmk k' (by omega)
                   ·exact hme t (by omega)
                  ·unfold e156d;((repeat'(refine List.forall_mem_cons.2 ⟨⟨rfl,?_⟩,?_⟩;(first|exact scT_g rfl|exact⟨by decide,rfl⟩|exact⟨by decide,fun h=>(by cases h)⟩)));exact fun _ h=>(by cases h))
                  ·unfold h157 bxM mapH2;((repeat'(refine List.forall_mem_cons.2 ⟨⟨Nat.le_of_ble_eq_true rfl,_,rfl,?_⟩,?_⟩;(first|exact ObjRen_g (flat_g _ _)|(refine ObjRen_2 ?_;(repeat'(refine List.forall_mem_cons.2 ⟨⟨rfl,?_⟩,?_⟩;(first|exact scS_g rfl|exact⟨by decide,rfl⟩|exact⟨by decide,fun h=>(by cases h)⟩)));exact fun _ h=>(by cases h))|(refine⟨rfl,rfl,rfl,rfl,?_⟩;(repeat'(refine List.forall_mem_cons.2 ⟨?_,?_⟩;(first|exact scS_g rfl|exact⟨by decide,rfl⟩|exact⟨by decide,fun h=>(by cases h)⟩)));exact fun _ h=>(by cases h))|exact ObjRen_j rfl rfl)));exact fun _ h=>(by cases h))
                 ·exfalso;simp [cfgS,std,fitsK] at h5;omega
              ·have hge:i=m.length:=by simp [cfgS,std] at h3;omega
               (conv=>whnf)
               rw [plnB,hlst,allN_true (fun i hi=>allN_true (hme i (by omega)))]
               rfl
    ·have a4:n<1:=by simp [cfgS,std] at a4;omega
     (conv=>whnf)
     rw [hszf (by omega)]
   ·have a3:400<m.length:=by simp [cfgS,std] at a3;omega
    (conv=>whnf)
    rw [hszf (by omega)]
  ·have a2:m.length<3:=by simp [cfgS,std] at a2;omega
   (conv=>whnf)
   rw [hszf (by omega)]
 ·have a1:400<l.length:=by simp [cfgS,std] at a1;omega
  (conv=>whnf)
  rw [hszf (by omega)]
end Go.Aw
end
