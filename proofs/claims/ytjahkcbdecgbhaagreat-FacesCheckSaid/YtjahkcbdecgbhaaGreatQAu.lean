/-
  Parts of the proof, put together. No condition.
-/
import Derived.Test.YtjahkcbdecgbhaaGreatQAt
set_option linter.unusedSimpArgs false
set_option linter.unusedVariables false
noncomputable section
namespace Go.Aw
set_option maxRecDepth 100000
theorem flat_growE {α:Type}(E:El α)(o:List α)(x:α){n:Nat}(hn:n=o.length):((flat E.fl o).drop 0).take (n*E.sz)++E.fl x=flat E.fl (o++[x]):=by
 subst hn
 rw [List.drop_zero,← flat_len E o,List.take_length,flat_append]
 simp [flat]
theorem app_no {i N s:Nat}{p:Prop}(hN:N=i*s)(hi:i+1≤1000000000)
  (h:cfgS.A.andB (cfgS.A.andB ((i+1).ble 1000000000) ((0+i*s).ble N)) (cfgS.A.andB ((0+i*s).beq N) (Nat.beq s s))=false):p:=by
 exfalso
 have h1:(i+1).ble 1000000000=true:=Nat.ble_eq_true_of_le hi
 have h2:(0+i*s).ble N=true:=Nat.ble_eq_true_of_le (by omega)
 have h3:(0+i*s).beq N=true:=by rw [hN,Nat.zero_add];exact Nat.beq_refl _
 rw [h1,h2,h3,Nat.beq_refl] at h
 cases h
def evS (l:List Pt)(m:List Ed)(n:Int):List Value→YS Bool
 |[]=>some (decide (1≤m.length)&&decide (m.length≤1000),List.replicate (2*m.length) true,[])
 |_=>none
theorem evS_inv {l:List Pt}{m:List Ed}{n:Int}{r:List Value}{out:List Bool}{rest:List Value}(h:evS l m n r=some (true,out,rest)):r=[]∧1≤m.length∧m.length≤1000∧out=List.replicate (2*m.length) true∧rest=[]:=by
 unfold evS at h
 split at h
 ·injection h with h
  injection h with h1 h2
  injection h2 with h2 h3
  simp only [Bool.and_eq_true,decide_eq_true_eq] at h1
  exact⟨rfl,h1.1,h1.2,h2.symm,h3.symm⟩
 ·cases h
def e80 (v:Value)(j:Int):List (Nat × Value):=[(1,.pointer (some ⟨2,0,none⟩)),(3,v),(4,iv j)]
def h80 (l:List Pt)(m:List Ed)(c1 c2:Nat)(n:Int):Heap:=(2,bxM l.length m.length c1 c2 n)::mapH2 elP elE l m
def h80o (l:List Pt)(m:List Ed)(c1 c2:Nat)(n:Int)(o:List Bool):Heap:=(3,.cells true false 1 (flat elB.fl o))::(2,bxM l.length m.length c1 c2 n)::mapH2 elP elE l m
def Xf80:Nat × XF:=(80,mYX elP elE elB evS)
theorem xf80:XOK Go.Proofs.Tryz.prog Xf80.1 Xf80.2:=mYX_ok elP elE elB (body_calls (xl:=[]) .nil) fun l m n r out rest hs=>by
 obtain⟨rfl,h1m,hm,rfl,rfl⟩:=evS_inv hs
 clear hs
 refine⟨rfl,rfl,fun c1 c2=>?_⟩
 (conv=>whnf)
 refine⟨fun q e h nx=>∃ (i:Nat) (j:Int),j=i∧i≤2*m.length∧q=2*m.length - i ∧
  ((i=0∧e=e80 (.slice none 0 0) j∧h=h80 l m c1 c2 n∧nx=3)∨(0<i∧e=e80 (.slice (some ⟨3,0,none⟩) i i) j∧h=h80o l m c1 c2 n (List.replicate i true)∧nx=4)),⟨2*m.length,?_⟩,?_⟩
 ·refine Into_id (e0:=e80 (.slice none 0 0) 0) (h0:=h80 l m c1 c2 n) (n0:=3) ⟨0,0,rfl,Nat.zero_le _,rfl,.inl ⟨rfl,rfl,rfl,rfl⟩⟩ ?_ ?_ (by decide)
  ·unfold e80;((repeat'(refine List.forall_mem_cons.2 ⟨⟨rfl,?_⟩,?_⟩;(first|exact scT_g rfl|exact⟨by decide,rfl⟩|exact⟨by decide,fun h=>(by cases h)⟩)));exact fun _ h=>(by cases h))
  ·unfold h80 bxM mapH2;((repeat'(refine List.forall_mem_cons.2 ⟨⟨Nat.le_of_ble_eq_true rfl,_,rfl,?_⟩,?_⟩;(first|exact ObjRen_g (flat_g _ _)|(refine ObjRen_2 ?_;(repeat'(refine List.forall_mem_cons.2 ⟨⟨rfl,?_⟩,?_⟩;(first|exact scS_g rfl|exact⟨by decide,rfl⟩|exact⟨by decide,fun h=>(by cases h)⟩)));exact fun _ h=>(by cases h))|(refine⟨rfl,rfl,rfl,rfl,?_⟩;(repeat'(refine List.forall_mem_cons.2 ⟨?_,?_⟩;(first|exact scS_g rfl|exact⟨by decide,rfl⟩|exact⟨by decide,fun h=>(by cases h)⟩)));exact fun _ h=>(by cases h))|exact ObjRen_j rfl rfl)));exact fun _ h=>(by cases h))
 ·rintro q e h nx ⟨i,j,hj,hi,rfl,⟨hi0,rfl,rfl,rfl⟩|⟨hip,rfl,rfl,rfl⟩⟩
  ·subst hi0
   unfold e80 h80 bxM mapH2
   ((conv=>whnf);refine bm (fun h1=>?_) (fun h1=>?_))
   ·((conv=>whnf);refine bm (fun h2=>?_) (fun h2=>?_))
    ·((conv=>whnf);refine bm (fun h3=>?_) (fun h3=>?_))
     ·(conv=>whnf)
      refine⟨2*m.length - 1,by omega,?_⟩
      refine Into_mv (e0:=e80 (.slice (some ⟨3,0,none⟩) 1 1) (j+1)) (h0:=h80o l m c1 c2 n [true]) (n0:=4) 3 4 (by decide) (by decide) ⟨1,j+1,by omega,by omega,rfl,.inr ⟨Nat.one_pos,rfl,rfl,rfl⟩⟩ ?_ ?_ ?_
      ·unfold e80;((repeat'(refine List.forall_mem_cons.2 ⟨⟨rfl,?_⟩,?_⟩;(first|exact scT_g rfl|exact⟨by decide,rfl⟩|exact⟨by decide,fun h=>(by cases h)⟩)));exact fun _ h=>(by cases h))
      ·unfold h80o bxM mapH2;((repeat'(refine List.forall_mem_cons.2 ⟨⟨Nat.le_of_ble_eq_true rfl,_,rfl,?_⟩,?_⟩;(first|exact ObjRen_g (flat_g _ _)|(refine ObjRen_2 ?_;(repeat'(refine List.forall_mem_cons.2 ⟨⟨rfl,?_⟩,?_⟩;(first|exact scS_g rfl|exact⟨by decide,rfl⟩|exact⟨by decide,fun h=>(by cases h)⟩)));exact fun _ h=>(by cases h))|(refine⟨rfl,rfl,rfl,rfl,?_⟩;(repeat'(refine List.forall_mem_cons.2 ⟨?_,?_⟩;(first|exact scS_g rfl|exact⟨by decide,rfl⟩|exact⟨by decide,fun h=>(by cases h)⟩)));exact fun _ h=>(by cases h))|exact ObjRen_j rfl rfl)));exact fun _ h=>(by cases h))
      ·unfold h80o;((repeat'(refine List.forall_mem_cons.2 ⟨?_,?_⟩;(intro _ h;revert h;simp)));exact fun _ h=>(by cases h))
     ·exfalso;simp [cfgS,std,fitsK] at h3;omega
    ·exfalso;simp [cfgS,std] at h2;omega
   ·exfalso;simp [cfgS,std,fitsK] at h1;omega
  ·unfold e80 h80o bxM mapH2
   ((conv=>whnf);refine bm (fun h1=>?_) (fun h1=>?_))
   ·((conv=>whnf);refine bm (fun h2=>?_) (fun h2=>?_))
    ·have hlt:i<2*m.length:=by simp [cfgS,std] at h2;omega
     have hll:(flat elB.fl (List.replicate i true)).length=i:=by rw [flat_len,List.length_replicate];show i*1=i;omega
     ((conv=>whnf);refine bm (fun h3=>?_) (fun h3=>?_))
     ·exfalso;have:=Nat.le_of_ble_eq_true h3;omega
     ·((conv=>whnf);refine bm (fun h4=>?_) (fun h4=>?_))
      ·((conv=>whnf);refine bm (fun h5=>?_) (fun h5=>?_))
       ·(conv=>whnf)
        refine⟨2*m.length - (i+1),by omega,?_⟩
        refine Into_mv (e0:=e80 (.slice (some ⟨3,0,none⟩) (i+1) (i+1)) (j+1)) (h0:=h80o l m c1 c2 n (List.replicate i true++[true])) (n0:=4) 3 5 (by decide) (by decide)
         ⟨i+1,j+1,by omega,by omega,rfl,.inr ⟨Nat.succ_pos _,rfl,by rw [List.replicate_succ'];rfl,rfl⟩⟩ ?_ ?_ ?_
        ·unfold e80;((repeat'(refine List.forall_mem_cons.2 ⟨⟨rfl,?_⟩,?_⟩;(first|exact scT_g rfl|exact⟨by decide,rfl⟩|exact⟨by decide,fun h=>(by cases h)⟩)));exact fun _ h=>(by cases h))
        ·unfold h80o bxM mapH2
         ((repeat'(refine List.forall_mem_cons.2 ⟨⟨Nat.le_of_ble_eq_true rfl,_,rfl,?_⟩,?_⟩;(first|exact (ObjRen_j (flat_g elB _) (flat_growE elB (List.replicate i true) true (by rw [List.length_replicate])))|exact ObjRen_g (flat_g _ _)|(refine ObjRen_2 ?_;(repeat'(refine List.forall_mem_cons.2 ⟨⟨rfl,?_⟩,?_⟩;(first|exact scS_g rfl|exact⟨by decide,rfl⟩|exact⟨by decide,fun h=>(by cases h)⟩)));exact fun _ h=>(by cases h))|(refine⟨rfl,rfl,rfl,rfl,?_⟩;(repeat'(refine List.forall_mem_cons.2 ⟨?_,?_⟩;(first|exact scS_g rfl|exact⟨by decide,rfl⟩|exact⟨by decide,fun h=>(by cases h)⟩)));exact fun _ h=>(by cases h))|exact ObjRen_j rfl rfl)));exact fun _ h=>(by cases h))
        ·unfold h80o;((repeat'(refine List.forall_mem_cons.2 ⟨?_,?_⟩;(intro _ h;revert h;simp)));exact fun _ h=>(by cases h))
       ·exfalso;simp [cfgS,std,fitsK] at h5;omega
      ·exfalso
       exact app_no (s:=1) (by omega) (by omega) h4
    ·have hge:i=2*m.length:=by simp [cfgS,std] at h2;omega
     subst hge
     (conv=>whnf)
     refine⟨3,?_,rfl⟩
     show _=Value.slice _ _ _
     rw [List.length_replicate]
   ·exfalso;simp [cfgS,std,fitsK] at h1;omega
end Go.Aw
end

noncomputable section
namespace Go.Aw
set_option maxRecDepth 100000
def rndX (f:Int→Int)(d:Int):Nat→Int
 |0=>f d
 |i+1=>f (rndX f d i)
def rndGo (f:Int→Int)(d:Int)(N i:Nat):Bool:=(!decide (rndX f d i=d))&&(decide (0≤rndX f d i)&&decide (i≤N))
def rndN (f:Int→Int)(d:Int)(N:Nat):Nat→Nat→Nat
 |0,i=>i
 |k+1,i=>if rndGo f d N i=true then rndN f d N k (i+1) else i
def rndO (f:Int→Int)(d:Int)(i:Nat):List Int:=d::(List.range i).map (rndX f d)
theorem rndO_len (f:Int→Int)(d:Int)(i:Nat):(rndO f d i).length=i+1:=by simp [rndO]
theorem rndO_s (f:Int→Int)(d:Int)(i:Nat):rndO f d (i+1)=rndO f d i++[rndX f d i]:=by
 unfold rndO
 rw [List.range_succ,List.map_append]
 rfl
def folF (l:List Pt)(m:List Ed)(k:List Bool)(d:Int):Int:=folR l m k d (2*m.length)
def roundI (l:List Pt)(m:List Ed)(k:List Bool)(d:Int):List Int:=rndO (folF l m k) d (rndN (folF l m k) d (2*m.length) (2*m.length+2) 0)
def rnS (l:List Pt)(m:List Ed)(n:Int)(k:List Bool):List Value→YS Int
 |[.int .i64 d]=>some (okM l m&&inD m d&&decide (k.length=2*m.length),roundI l m k d,[])
 |_=>none
theorem rnS_inv {l:List Pt}{m:List Ed}{n:Int}{k:List Bool}{r:List Value}{out:List Int}{rest:List Value}(h:rnS l m n k r=some (true,out,rest)):∃ d,r=[iv d]∧okM l m=true∧inD m d=true∧k.length=2*m.length∧out=roundI l m k d∧rest=[]:=by
 unfold rnS at h
 split at h
 ·rename_i d
  injection h with h
  injection h with h1 h2
  injection h2 with h2 h3
  simp only [Bool.and_eq_true,decide_eq_true_eq] at h1
  exact⟨d,rfl,h1.1.1,h1.1.2,h1.2,h2.symm,h3.symm⟩
 ·cases h
def e144 (k:List Bool)(c3:Nat)(d x j:Int)(z:Nat):List (Nat × Value):=[(1,iv d),(2,.slice (some ⟨2,0,none⟩) k.length c3),(3,.pointer (some ⟨3,0,none⟩)),(7,.slice (some ⟨4,0,none⟩) z z),(8,iv x),(9,iv j)]
def h144 (l:List Pt)(m:List Ed)(k:List Bool)(c1 c2:Nat)(n:Int)(o:List Int):Heap:=(4,.cells true false 1 (flat elI.fl o))::(3,bxM l.length m.length c1 c2 n)::mapH3 elP elE elB l m k
theorem rnd_stop {f:Int→Int}{d:Int}{N k i:Nat}(h:rndGo f d N i=false):rndN f d N k i=i:=by
 cases k with
 |zero=>rfl
 |succ k=>simp [rndN,h]
def Xf144:Nat × XF:=(144,mLYX elP elE elB elI rnS)
theorem xf144:XOK Go.Proofs.Tryz.prog Xf144.1 Xf144.2:=mLYX_ok elP elE elB elI (body_calls (xl:=[X79]) (.cons x79 .nil)) fun l m n k r out rest hs=>by
 obtain⟨d,rfl,hM,hd,hk,rfl,rfl⟩:=rnS_inv hs
 clear hs
 refine⟨rfl,rfl,fun c1 c2 c3=>?_⟩
 have hm:m.length≤1000:=by simp only [okM,Bool.and_eq_true,decide_eq_true_eq] at hM;exact hM.1.2
 unfold roundI
 obtain⟨f,hf⟩:∃ f,f=folF l m k:=⟨_,rfl⟩
 have hfl:∀ x,-1≤f x∧f x<2*m.length:=fun x=>by rw [hf];have:=folR_low l m k x (2*m.length);unfold folF;omega
 have hfx:∀ x,folR l m k x (2*m.length)=f x:=fun x=>by rw [hf];rfl
 rw [← hf]
 (conv=>whnf)
 refine⟨_,_,_,[iv d],_,l,m,k,rfl,LsAt_at elP rfl,LsAt_at elE rfl,LsAt_at elB rfl,?_⟩
 ((conv=>whnf);refine bm (fun h1=>?_) (fun h1=>?_))
 ·(conv=>whnf)
  refine⟨fun q e h nx=>∃ (i:Nat) (j:Int),j=i∧i≤2*m.length+1∧q=2*m.length+1 - i∧rndN f d (2*m.length) (2*m.length+2) 0=rndN f d (2*m.length) (2*m.length+2 - i) i∧e=e144 k c3 d (rndX f d i) j (i+1)∧h=h144 l m k c1 c2 n (rndO f d i)∧nx=5,⟨2*m.length+1,?_⟩,?_⟩
  ·refine Into_id (e0:=e144 k c3 d (folR l m k d (2*m.length)) 0 1) (h0:=h144 l m k c1 c2 n [d]) (n0:=5) ⟨0,0,rfl,Nat.zero_le _,rfl,rfl,by rw [hfx];rfl,rfl,rfl⟩ ?_ ?_ (by decide)
   ·unfold e144;((repeat'(refine List.forall_mem_cons.2 ⟨⟨rfl,?_⟩,?_⟩;(first|exact scT_g rfl|exact⟨by decide,rfl⟩|exact⟨by decide,fun h=>(by cases h)⟩)));exact fun _ h=>(by cases h))
   ·unfold h144 bxM mapH3;((repeat'(refine List.forall_mem_cons.2 ⟨⟨Nat.le_of_ble_eq_true rfl,_,rfl,?_⟩,?_⟩;(first|exact ObjRen_g (flat_g _ _)|(refine ObjRen_2 ?_;(repeat'(refine List.forall_mem_cons.2 ⟨⟨rfl,?_⟩,?_⟩;(first|exact scS_g rfl|exact⟨by decide,rfl⟩|exact⟨by decide,fun h=>(by cases h)⟩)));exact fun _ h=>(by cases h))|(refine⟨rfl,rfl,rfl,rfl,?_⟩;(repeat'(refine List.forall_mem_cons.2 ⟨?_,?_⟩;(first|exact scS_g rfl|exact⟨by decide,rfl⟩|exact⟨by decide,fun h=>(by cases h)⟩)));exact fun _ h=>(by cases h))|exact ObjRen_j rfl rfl)));exact fun _ h=>(by cases h))
  ·rintro q e h nx ⟨i,j,hj,hi,rfl,hb,rfl,rfl,rfl⟩
   have hx : -1≤rndX f d i∧rndX f d i<2*m.length:=by cases i <;> exact hfl _
   unfold e144 h144 bxM mapH3
   have hll:(flat elI.fl (rndO f d i)).length=i+1:=by rw [flat_len,rndO_len];exact Nat.mul_one _
   ((conv=>whnf);refine bm (fun h2=>?_) (fun h2=>?_))
   ·have h2:rndX f d i≠d:=by simpa [cfgS,std] using h2
    ((conv=>whnf);refine bm (fun h3=>?_) (fun h3=>?_))
    ·have h3:0≤rndX f d i:=by simpa [cfgS,std] using h3
     ((conv=>whnf);refine bm (fun h4=>?_) (fun h4=>?_))
     ·((conv=>whnf);refine bm (fun h5=>?_) (fun h5=>?_))
      ·have h5:i≤2*m.length:=by simp [cfgS,std] at h5;omega
       have hgo:rndGo f d (2*m.length) i=true:=by simp [rndGo,h2,h3,h5]
       ((conv=>whnf);refine bm (fun h6=>?_) (fun h6=>?_))
       ·exfalso;have:=Nat.le_of_ble_eq_true h6;omega
       ·((conv=>whnf);refine bm (fun h7=>?_) (fun h7=>?_))
        ·(conv=>whnf)
         have hdx:inD m (rndX f d i)=true:=by simp only [inD,Bool.and_eq_true,decide_eq_true_eq];omega
         refine⟨_,_,_,[iv (rndX f d i)],_,l,m,k,rfl,LsAt_at elP rfl,LsAt_at elE rfl,LsAt_at elB rfl,?_⟩
         ((conv=>whnf);refine bm (fun h8=>?_) (fun h8=>?_))
         ·((conv=>whnf);refine bm (fun h9=>?_) (fun h9=>?_))
          ·(conv=>whnf)
           refine⟨2*m.length+1 - (i+1),by omega,?_⟩
           refine Into_mv (e0:=e144 k c3 d (folR l m k (rndX f d i) (2*m.length)) (j+1) (i+1+1)) (h0:=h144 l m k c1 c2 n (rndO f d i++[rndX f d i])) (n0:=5) 4 6 (by decide) (by decide)
            ⟨i+1,j+1,by omega,by omega,rfl,?_,by rw [hfx];rfl,by rw [rndO_s];rfl,rfl⟩ ?_ ?_ ?_
           ·rw [hb,show 2*m.length+2 - i=(2*m.length+2 - (i+1))+1 by omega]
            conv=>lhs;unfold rndN
            rw [if_pos hgo]
           ·unfold e144;((repeat'(refine List.forall_mem_cons.2 ⟨⟨rfl,?_⟩,?_⟩;(first|exact scT_g rfl|exact⟨by decide,rfl⟩|exact⟨by decide,fun h=>(by cases h)⟩)));exact fun _ h=>(by cases h))
           ·unfold h144 bxM mapH3
            ((repeat'(refine List.forall_mem_cons.2 ⟨⟨Nat.le_of_ble_eq_true rfl,_,rfl,?_⟩,?_⟩;(first|exact (ObjRen_j (flat_g elI _) (flat_growE elI (rndO f d i) (rndX f d i) (rndO_len f d i).symm))|exact ObjRen_g (flat_g _ _)|(refine ObjRen_2 ?_;(repeat'(refine List.forall_mem_cons.2 ⟨⟨rfl,?_⟩,?_⟩;(first|exact scS_g rfl|exact⟨by decide,rfl⟩|exact⟨by decide,fun h=>(by cases h)⟩)));exact fun _ h=>(by cases h))|(refine⟨rfl,rfl,rfl,rfl,?_⟩;(repeat'(refine List.forall_mem_cons.2 ⟨?_,?_⟩;(first|exact scS_g rfl|exact⟨by decide,rfl⟩|exact⟨by decide,fun h=>(by cases h)⟩)));exact fun _ h=>(by cases h))|exact ObjRen_j rfl rfl)));exact fun _ h=>(by cases h))
           ·unfold h144;((repeat'(refine List.forall_mem_cons.2 ⟨?_,?_⟩;(intro _ h;revert h;simp)));exact fun _ h=>(by cases h))
          ·exfalso;simp [cfgS,std,fitsK] at h9;omega
         ·exfalso
          have h8:(okM l m&&inD m (rndX f d i)&&decide (k.length=2*m.length))=false:=h8
          rw [hM,hdx,decide_eq_true hk] at h8
          cases h8
        ·exact app_no (i:=i+1) (s:=1) (by omega) (by omega) h7
      ·have h5:¬ i≤2*m.length:=by simp [cfgS,std] at h5;omega
       (conv=>whnf)
       rw [hb,rnd_stop (show rndGo f d (2*m.length) i=false from ?_)]
       ·refine⟨4,?_,rfl⟩
        show _=Value.slice _ _ _
        rw [rndO_len]
       ·simp [rndGo,h5]
     ·exfalso;simp [cfgS,std,fitsK] at h4;omega
    ·have h3:¬ 0≤rndX f d i:=by simpa [cfgS,std] using h3
     (conv=>whnf)
     rw [hb,rnd_stop (show rndGo f d (2*m.length) i=false from ?_)]
     ·refine⟨4,?_,rfl⟩
      show _=Value.slice _ _ _
      rw [rndO_len]
     ·simp [rndGo,h3]
   ·have h2:rndX f d i=d:=by simpa [cfgS,std] using h2
    (conv=>whnf)
    rw [hb,rnd_stop (show rndGo f d (2*m.length) i=false from ?_)]
    ·refine⟨4,?_,rfl⟩
     show _=Value.slice _ _ _
     rw [rndO_len]
    ·simp [rndGo,h2]
 ·exfalso
  have h1:(okM l m&&inD m d&&decide (k.length=2*m.length))=false:=h1
  rw [hM,hd,decide_eq_true hk] at h1
  cases h1
end Go.Aw
end

noncomputable section
namespace Go.Aw
set_option maxRecDepth 100000
theorem rndN_go {f:Int→Int}{d:Int}{N:Nat}:∀ {k i t:Nat},i≤t→t<rndN f d N k i→rndGo f d N t=true
 |0,i,t,h1,h2=>by simp only [rndN] at h2;omega
 |k+1,i,t,h1,h2=>by
  simp only [rndN] at h2
  split at h2
  ·rename_i hg
   by_cases ht:t=i
   ·rw [ht];exact hg
   ·exact rndN_go (k:=k) (i:=i+1) (by omega) h2
  ·omega
theorem rndN_low {f:Int→Int}{d:Int}{N:Nat}:∀ {k i:Nat},rndN f d N k i≤i+k
 |0,i=>by simp only [rndN];omega
 |k+1,i=>by
  simp only [rndN]
  split
  ·have:=rndN_low (f:=f) (d:=d) (N:=N) (k:=k) (i:=i+1)
   omega
  ·omega
theorem roundI_len (l:List Pt)(m:List Ed)(k:List Bool)(d:Int):(roundI l m k d).length≤2*m.length+3:=by
 unfold roundI
 rw [rndO_len]
 have:=rndN_low (f:=folF l m k) (d:=d) (N:=2*m.length) (k:=2*m.length+2) (i:=0)
 omega
theorem folF_low (l:List Pt)(m:List Ed)(k:List Bool)(d:Int) : -1≤folF l m k d∧folF l m k d<2*m.length:=by
 have:=folR_low l m k d (2*m.length)
 unfold folF
 omega
theorem roundI_in {l:List Pt}{m:List Ed}{k:List Bool}{d:Int}(hm:m.length≤1000)(hd:inD m d=true):allD m (roundI l m k d)=true:=by
 unfold allD roundI rndO
 rw [List.all_cons,hd,Bool.true_and,List.all_eq_true]
 intro x hx
 obtain⟨t,ht,rfl⟩:=List.mem_map.1 hx
 have hg:=rndN_go (Nat.zero_le t) (List.mem_range.1 ht)
 simp only [rndGo,Bool.and_eq_true,decide_eq_true_eq] at hg
 have:rndX (folF l m k) d t<2*m.length:=by cases t <;> exact (folF_low l m k _).2
 simp only [inD,Bool.and_eq_true,decide_eq_true_eq]
 omega
theorem roundI_pos (l:List Pt)(m:List Ed)(k:List Bool)(d:Int):0<(roundI l m k d).length:=by
 unfold roundI;rw [rndO_len];omega
def setF (of w:List Int)(face:Int):Nat→List Int
 |0=>of
 |i+1=>(setF of w face i).set (atI w i).toNat face
theorem setF_len (of w:List Int)(face:Int):∀ i,(setF of w face i).length=of.length
 |0=>rfl
 |i+1=>by unfold setF;rw [List.length_set];exact setF_len of w face i
structure Fst where
 of:List Int
 faces:Int
 outside:Int
 ok:Bool
def fcStep (l:List Pt)(m:List Ed)(s:Fst)(d:Nat):Fst :=
 if 0≤atI s.of d then s else
  let w:=roundI l m (List.replicate (2*m.length) true) d
  let a:=areaN l m w w.length
  let fc:=if 0<a then s.faces+1 else 0
  ⟨setF s.of w fc w.length,if 0<a then s.faces+1 else s.faces,if a<0 then s.outside+1 else s.outside,if a=0 then false else s.ok⟩
def fcAll (l:List Pt)(m:List Ed):Nat→Fst
 |0=>⟨List.replicate (2*m.length) (-1),0,0,true⟩
 |d+1=>fcStep l m (fcAll l m d) d
def facedI (l:List Pt)(m:List Ed):Fst:=fcAll l m (2*m.length)
def fcOk (s:Fst):Bool:=s.ok&&(decide (s.outside=1)&&decide (1≤s.faces))
theorem fcAll_len (l:List Pt)(m:List Ed):∀ d,(fcAll l m d).of.length=2*m.length
 |0=>by simp [fcAll]
 |d+1=>by
  unfold fcAll fcStep
  split
  ·exact fcAll_len l m d
  ·simp only [setF_len];exact fcAll_len l m d
theorem fcAll_low (l:List Pt)(m:List Ed):∀ d:Nat,0≤(fcAll l m d).faces∧(fcAll l m d).faces≤d∧0≤(fcAll l m d).outside∧(fcAll l m d).outside≤d
 |0=>by simp [fcAll]
 |d+1=>by
  have:=fcAll_low l m d
  unfold fcAll fcStep
  split
  ·omega
  ·simp only
   split <;> split <;> omega
end Go.Aw
end
