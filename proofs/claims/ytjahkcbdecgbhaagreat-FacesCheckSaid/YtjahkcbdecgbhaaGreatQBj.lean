/-
  Parts of the proof, put together. No condition.
-/
import Derived.Test.YtjahkcbdecgbhaaGreatQAz
import Derived.Test.YtjahkcbdecgbhaaGreatQBi
set_option linter.unusedSimpArgs false
set_option linter.unusedVariables false
noncomputable section
namespace Go.Aw
set_option maxRecDepth 100000
set_option maxHeartbeats 4000000
def conP (l:List Pt)(m:List Ed):Bool:=(reachI (dts l m m.length) (outs l m)).all id
def numP (l:List Pt)(m:List Ed):Nst:=nmD l (dts l m m.length) (outs l m)
def facB (l:List Pt)(m:List Ed)(i:Nat):Bool:=decide ((atE m i).l=atI (numP l m).face (2*i))&&decide ((atE m i).r=atI (numP l m).face (2*i+1))
def opnB (l:List Pt)(m:List Ed)(n:Int):Bool:=plnB l m n&&(conP l m&&(nmOk (numP l m)&&(decide ((numP l m).many=n)&&allN (facB l m) m.length)))
def hF0 (l:List Pt)(m:List Ed)(c1 c2:Nat)(n:Int):Heap:=(7,stH (a69 l m c1 c2 n) (.slice (some ⟨2003,0,none⟩) (dts l m m.length).length (dts l m m.length).length))::(2003,.cells true false 1 (flat elI.fl (numP l m).face))::shH 3 (webT l m)
def Res69 (l:List Pt)(m:List Ed)(c1 c2:Nat)(n:Int):KE:=fun v h nx =>
 (opnB l m n=true∧Outc (.tuple #[.pointer (some ⟨7,0,none⟩),iv 0]) (hF0 l m c1 c2 n) 2004 v h nx)∨(opnB l m n=false∧v=.tuple #[.pointer none,iv 1])
def e69 (N:Nat)(j:Int):List (Nat × Value):=[(1,.pointer (some ⟨2,0,none⟩)),(17,iv N),(18,iv j)]
def e69b (N:Nat)(j z:Int):List (Nat × Value):=(4,iv j)::(21,iv j)::(22,iv z)::e69 N j
theorem box69 {l:List Pt}{m:List Ed}{c1 c2:Nat}{n:Int}:look (HF155 (a69 l m c1 c2 n)) 2=some (.cells false false 1 [.slice (some ⟨0,0,none⟩) l.length c1,.slice (some ⟨1,0,none⟩) m.length c2,iv n]):=by
 unfold HF155 a69
 rw [look_ne (by omega),look_ne (by omega)]
 unfold rest69
 rw [look_app]
 split
 ·rename_i o' ho
  exfalso
  obtain⟨j,q,e1,_,_⟩:=look_shH _ ho
  omega
 ·rfl
theorem Into_look {b n0 nx:Nat}{I:KS}{e0 e:List (Nat × Value)}{h0 h:Heap}(hI:I e0 h0 n0)(he:∀ p∈e0,look e p.1=some (ren id p.2)∧nmT n0 p.2)(hh:∀ k o,look h0 k=some o→look h k=some o)(hok:HOK h0 n0)(hb:b≤n0):Into b I e h nx :=
 ⟨e0,h0,n0,id,hI,fun t v hv=>he (t,v) (look_mem hv),fun k o hk=>⟨(hok k o hk).1,o,hh k o hk,(hok k o hk).2⟩,fun _ _ _ _ _ _ e=>e,fun _ _=>rfl,hb⟩
def hF (l:List Pt)(m:List Ed)(c1 c2:Nat)(n:Int):Heap :=
 (7,stH (a69 l m c1 c2 n) (.slice (some ⟨2003,0,none⟩) (a69 l m c1 c2 n).D.length (a69 l m c1 c2 n).D.length))::(2003,.cells true false 1 (flat elI.fl (numP l m).face))::(2,.cells false false 1 [.slice (some ⟨0,0,none⟩) l.length c1,.slice (some ⟨1,0,none⟩) m.length c2,iv n]) ::
 (0,.cells false true elP.sz (flat elP.fl l))::(1,.cells false true elE.sz (flat elE.fl m))::shH 3 (webT l m)
theorem hF0_sub {l:List Pt}{m:List Ed}{c1 c2:Nat}{n:Int}:∀ k o,look (hF0 l m c1 c2 n) k=some o→look (hF l m c1 c2 n) k=some o:=by
 intro k o hk
 unfold hF0 at hk
 rw [look_cons] at hk
 split at hk
 ·rename_i hb;rw [← beq_true hb,← hk];rfl
 rename_i hb7
 rw [look_cons] at hk
 split at hk
 ·rename_i hb;rw [← beq_true hb,← hk];rfl
 rename_i hb3
 have h7:(7:Nat)≠k:=beq_false hb7
 have h3:(2003:Nat)≠k:=beq_false hb3
 obtain⟨j,q,e1,_,_⟩:=look_shH _ hk
 unfold hF
 rw [look_ne h7,look_ne h3,look_ne (by omega),look_ne (by omega),look_ne (by omega)]
 exact hk
def e69f (N c2:Nat)(j:Int):List (Nat × Value):=[(7,.pointer (some ⟨7,0,none⟩)),(59,.slice (some ⟨1,0,none⟩) N c2),(60,iv N),(61,iv j)]
theorem hF_hok {l:List Pt}{m:List Ed}{c1 c2:Nat}{n:Int}(hl:l.length≤1000):HOK (hF l m c1 c2 n) 2004:=by
 have hsl:∀ {q a b:Nat},q<2004→nmS 2004 (.slice (some ⟨q,0,none⟩) a b):=fun {q a b} hq=>⟨hq,fun h=>by cases h⟩
 refine HOK_cons (HOK_cons (HOK_cons (HOK_cons (HOK_cons (HOK_mono (HOK_sh (n:=3) (webT_hok hl) webT_cells) (by omega)) (by omega) (ObjRen_g (flat_g _ _))) (by omega) (ObjRen_g (flat_g _ _))) (by omega) ⟨rfl,rfl,rfl,rfl,?_⟩) (by omega) (ObjRen_g (flat_g _ _))) (by omega) ⟨rfl,rfl,rfl,rfl,?_⟩
 ·exact List.forall_mem_cons.2 ⟨hsl (by omega),List.forall_mem_cons.2 ⟨hsl (by omega),List.forall_mem_cons.2 ⟨scS_g rfl,fun _ h=>(by cases h)⟩⟩⟩
 ·exact List.forall_mem_cons.2 ⟨hsl (show 3<2004 by omega),List.forall_mem_cons.2 ⟨hsl (show 4<2004 by omega),List.forall_mem_cons.2 ⟨scS_g rfl,List.forall_mem_cons.2 ⟨hsl (show 9<2004 by omega),List.forall_mem_cons.2 ⟨hsl (show 8<2004 by omega),List.forall_mem_cons.2 ⟨hsl (by omega),fun _ h=>(by cases h)⟩⟩⟩⟩⟩⟩
theorem hF_out {l:List Pt}{m:List Ed}{c1 c2:Nat}{n:Int}(hl:l.length≤1000):Outc (.tuple #[.pointer (some ⟨7,0,none⟩),iv 0]) (hF0 l m c1 c2 n) 2004 (.tuple #[.pointer (some ⟨7,0,none⟩),iv 0]) (hF l m c1 c2 n) 2004:=by
 refine⟨id,fun t u hu=>?_,fun k o hk=>?_,fun _ _ _ _ _ _ e=>e,fun _ _=>rfl,by omega⟩
 ·have hm:=look_mem hu
  simp only [List.mem_cons,List.not_mem_nil,or_false] at hm
  injection hm with e1 e2
  subst e1 e2
  refine⟨by simp [ren,tr,trA,trS,trP,at0];rfl,?_⟩
  intro v hv
  simp only [List.mem_cons,List.not_mem_nil,or_false] at hv
  rcases hv with rfl|rfl
  ·exact⟨Nat.le_of_ble_eq_true rfl,rfl⟩
  ·exact scA_of_S (scS_g rfl)
 ·have h:=hF0_sub k o hk
  obtain⟨a1,a2⟩:=hF_hok hl k o h
  exact⟨a1,o,h,a2⟩
theorem shT_3 {l:List Pt}{m:List Ed}{k:Nat}(h:k<3):look (shH 3 (webT l m)) k=none:=by
 cases hl:look (shH 3 (webT l m)) k with
 |none=>rfl
 |some o =>
  obtain⟨j,q,e1,_,_⟩:=look_shH _ hl
  omega
theorem hF_sub {l:List Pt}{m:List Ed}{c1 c2:Nat}{n:Int}:∀ k o,look (hF l m c1 c2 n) k=some o→look (HF155 (a69 l m c1 c2 n)) k=some o:=by
 intro k o hk
 unfold hF at hk
 rw [look_cons] at hk
 split at hk
 ·rename_i hb;rw [← beq_true hb,← hk];rfl
 rename_i hb7
 rw [look_cons] at hk
 split at hk
 ·rename_i hb;rw [← beq_true hb,← hk];rfl
 rename_i hb3
 rw [look_cons] at hk
 split at hk
 ·rename_i hb;rw [← beq_true hb,box69,← hk]
 have h7:(7:Nat)≠k:=beq_false hb7
 have h3:(2003:Nat)≠k:=beq_false hb3
 show look ((7,_)::(2003,_)::app (shH 3 (webT l m)) (shutH (h69 l m c1 c2 n))) k=some o
 rw [look_ne h7,look_ne h3,look_app]
 rw [look_cons] at hk
 split at hk
 ·rename_i hb;rw [← beq_true hb,shT_3 (by omega),← hk];rfl
 rw [look_cons] at hk
 split at hk
 ·rename_i hb;rw [← beq_true hb,shT_3 (by omega),← hk];rfl
 rw [hk]
theorem w69 (l:List Pt)(m:List Ed)(n:Int)(c1 c2:Nat)(hl:l.length≤1000)(hm:m.length≤1000)
  (hP:lstB l m n=true→webB l (dts l m m.length) (outs l m)=true∧wksB (dts l m m.length) (outs l m)=true∧lisB (dts l m m.length) (outs l m)=true∧1≤l.length) :
  body [Xf152,Xf98,X119m,Xf153,Xf154,(155,X155)] 69 [mapV2 l.length m.length c1 c2 n] (mapH2 elP elE l m) 2 (Res69 l m c1 c2 n):=by
 (conv=>whnf)
 refine⟨l,m,LsAt_at elP rfl,LsAt_at elE rfl,?_⟩
 ((conv=>whnf);refine bm (fun a0=>?_) (fun a0=>?_))
 ·((conv=>whnf);refine bm (fun a1=>?_) (fun a1=>?_))
  ·have hno:lstB l m n=false:=by
    have a1:(!lstB l m n)=true:=a1
    simpa using a1
   (conv=>whnf)
   exact .inr ⟨by rw [opnB,plnB,hno];rfl,rfl⟩
  ·have hlst:lstB l m n=true:=by
    have a1:(!lstB l m n)=false:=a1
    simpa using a1
   have hM:okM l m=true:=by
    have hh:=hlst
    simp only [lstB,Bool.and_eq_true] at hh
    exact okM_of hl hm (fun i hi=>allN_at hh.2.1 hi) (fun i hi=>allN_at hh.2.2.1 hi)
   (conv=>whnf)
   refine⟨fun q e h nx=>∃ (i:Nat) (j:Int),j=i∧i≤m.length∧q=m.length - i∧(∀ t,t<i→∀ k,k<t→meB l m t k=true)∧e=e69 m.length j∧h=h69 l m c1 c2 n∧nx=3,⟨m.length,?_⟩,?_⟩
   ·refine Into_id (e0:=e69 m.length 0) (h0:=h69 l m c1 c2 n) (n0:=3) ⟨0,0,rfl,Nat.zero_le _,rfl,fun t ht=>absurd ht (Nat.not_lt_zero t),rfl,rfl,rfl⟩ ?_ ?_ (by decide)
    ·unfold e69;((repeat'(refine List.forall_mem_cons.2 ⟨⟨rfl,?_⟩,?_⟩;(first|exact scT_g rfl|exact⟨by decide,rfl⟩|exact⟨by decide,fun h=>(by cases h)⟩)));exact fun _ h=>(by cases h))
    ·unfold h69 bxM mapH2;((repeat'(refine List.forall_mem_cons.2 ⟨⟨Nat.le_of_ble_eq_true rfl,_,rfl,?_⟩,?_⟩;(first|exact ObjRen_g (flat_g _ _)|(refine ObjRen_2 ?_;(repeat'(refine List.forall_mem_cons.2 ⟨⟨rfl,?_⟩,?_⟩;(first|exact scS_g rfl|exact⟨by decide,rfl⟩|exact⟨by decide,fun h=>(by cases h)⟩)));exact fun _ h=>(by cases h))|(refine⟨rfl,rfl,rfl,rfl,?_⟩;(repeat'(refine List.forall_mem_cons.2 ⟨?_,?_⟩;(first|exact scS_g rfl|exact⟨by decide,rfl⟩|exact⟨by decide,fun h=>(by cases h)⟩)));exact fun _ h=>(by cases h))|exact ObjRen_j rfl rfl)));exact fun _ h=>(by cases h))
   ·rintro q e h nx ⟨i,j,hj,hi,rfl,hme,rfl,rfl,rfl⟩
    unfold e69 h69 bxM mapH2
    ((conv=>whnf);refine bm (fun h3=>?_) (fun h3=>?_))
    ·have hlt:i<m.length:=by simp [cfgS,std] at h3;omega
     (conv=>whnf)
     refine⟨fun q e h nx=>∃ (k:Nat) (z:Int),z=k∧k≤i∧q=i - k∧(∀ t,t<k→meB l m i t=true)∧e=e69b m.length j z∧h=h69 l m c1 c2 n∧nx=3,⟨i,?_⟩,?_⟩
     ·refine Into_id (e0:=e69b m.length j 0) (h0:=h69 l m c1 c2 n) (n0:=3) ⟨0,0,rfl,Nat.zero_le _,rfl,fun t ht=>absurd ht (Nat.not_lt_zero t),rfl,rfl,rfl⟩ ?_ ?_ (by decide)
      ·unfold e69b e69;((repeat'(refine List.forall_mem_cons.2 ⟨⟨rfl,?_⟩,?_⟩;(first|exact scT_g rfl|exact⟨by decide,rfl⟩|exact⟨by decide,fun h=>(by cases h)⟩)));exact fun _ h=>(by cases h))
      ·unfold h69 bxM mapH2;((repeat'(refine List.forall_mem_cons.2 ⟨⟨Nat.le_of_ble_eq_true rfl,_,rfl,?_⟩,?_⟩;(first|exact ObjRen_g (flat_g _ _)|(refine ObjRen_2 ?_;(repeat'(refine List.forall_mem_cons.2 ⟨⟨rfl,?_⟩,?_⟩;(first|exact scS_g rfl|exact⟨by decide,rfl⟩|exact⟨by decide,fun h=>(by cases h)⟩)));exact fun _ h=>(by cases h))|(refine⟨rfl,rfl,rfl,rfl,?_⟩;(repeat'(refine List.forall_mem_cons.2 ⟨?_,?_⟩;(first|exact scS_g rfl|exact⟨by decide,rfl⟩|exact⟨by decide,fun h=>(by cases h)⟩)));exact fun _ h=>(by cases h))|exact ObjRen_j rfl rfl)));exact fun _ h=>(by cases h))
     ·rintro q e h nx ⟨k,z,hz,hk,rfl,hmk,rfl,rfl,rfl⟩
      unfold e69b e69 h69 bxM mapH2
      ((conv=>whnf);refine bm (fun h4=>?_) (fun h4=>?_))
      ·have hkl:k<i:=by simp [cfgS,std] at h4;omega
       have ej:j.toNat=i:=by omega
       have ez:z.toNat=k:=by omega
       (conv=>whnf)
       refine⟨l,m,LsAt_at elP rfl,LsAt_at elE rfl,?_⟩
       ((conv=>whnf);refine bm (fun h5=>?_) (fun h5=>?_))
       ·(conv=>whnf)
        refine⟨l,m,LsAt_at elP rfl,LsAt_at elE rfl,?_⟩
        ((conv=>whnf);refine bm (fun h6=>?_) (fun h6=>?_))
        ·(conv=>whnf)
         have em:meetF (segI l m j.toNat) (segI l m z.toNat)=MeetV (segI l m i) (segI l m k):=by rw [ej,ez,meetF_eq]
         ((conv=>whnf);refine bm (fun h7=>?_) (fun h7=>?_))
         ·have h7:¬ MeetV (segI l m i) (segI l m k)=0:=by rw [← em];simpa [cfgS,std] using h7
          ((conv=>whnf);refine bm (fun h8=>?_) (fun h8=>?_))
          ·have h8:¬ MeetV (segI l m i) (segI l m k)=1:=by rw [← em];simpa [cfgS,std] using h8
           (conv=>whnf)
           exact .inr ⟨by rw [opnB,pln_me hlt hkl (by rw [meB,decide_eq_false h7,decide_eq_false h8];rfl)];rfl,rfl⟩
          ·have h8:MeetV (segI l m i) (segI l m k)=1:=by rw [← em];simpa [cfgS,std] using h8
           have hyes:meB l m i k=true:=by rw [meB,decide_eq_true h8,Bool.or_true]
           ((conv=>whnf);refine bm (fun h9=>?_) (fun h9=>?_))
           ·(conv=>whnf)
            refine⟨i - (k+1),by omega,?_⟩
            refine Into_id (e0:=e69b m.length j (z+1)) (h0:=h69 l m c1 c2 n) (n0:=3) ⟨k+1,z+1,by omega,by omega,rfl,fun t ht=>?_,rfl,rfl,rfl⟩ ?_ ?_ (by decide)
            ·by_cases htk:t=k
             ·rw [htk];exact hyes
             ·exact hmk t (by omega)
            ·unfold e69b e69;((repeat'(refine List.forall_mem_cons.2 ⟨⟨rfl,?_⟩,?_⟩;(first|exact scT_g rfl|exact⟨by decide,rfl⟩|exact⟨by decide,fun h=>(by cases h)⟩)));exact fun _ h=>(by cases h))
            ·unfold h69 bxM mapH2;((repeat'(refine List.forall_mem_cons.2 ⟨⟨Nat.le_of_ble_eq_true rfl,_,rfl,?_⟩,?_⟩;(first|exact ObjRen_g (flat_g _ _)|(refine ObjRen_2 ?_;(repeat'(refine List.forall_mem_cons.2 ⟨⟨rfl,?_⟩,?_⟩;(first|exact scS_g rfl|exact⟨by decide,rfl⟩|exact⟨by decide,fun h=>(by cases h)⟩)));exact fun _ h=>(by cases h))|(refine⟨rfl,rfl,rfl,rfl,?_⟩;(repeat'(refine List.forall_mem_cons.2 ⟨?_,?_⟩;(first|exact scS_g rfl|exact⟨by decide,rfl⟩|exact⟨by decide,fun h=>(by cases h)⟩)));exact fun _ h=>(by cases h))|exact ObjRen_j rfl rfl)));exact fun _ h=>(by cases h))
           ·exfalso;simp [cfgS,std,fitsK] at h9;omega
         ·have h7:MeetV (segI l m i) (segI l m k)=0:=by rw [← em];simpa [cfgS,std] using h7
          have hyes:meB l m i k=true:=by rw [meB,decide_eq_true h7,Bool.true_or]
          ((conv=>whnf);refine bm (fun h9=>?_) (fun h9=>?_))
          ·(conv=>whnf)
           refine⟨i - (k+1),by omega,?_⟩
           refine Into_id (e0:=e69b m.length j (z+1)) (h0:=h69 l m c1 c2 n) (n0:=3) ⟨k+1,z+1,by omega,by omega,rfl,fun t ht=>?_,rfl,rfl,rfl⟩ ?_ ?_ (by decide)
           ·by_cases htk:t=k
            ·rw [htk];exact hyes
            ·exact hmk t (by omega)
           ·unfold e69b e69;((repeat'(refine List.forall_mem_cons.2 ⟨⟨rfl,?_⟩,?_⟩;(first|exact scT_g rfl|exact⟨by decide,rfl⟩|exact⟨by decide,fun h=>(by cases h)⟩)));exact fun _ h=>(by cases h))
           ·unfold h69 bxM mapH2;((repeat'(refine List.forall_mem_cons.2 ⟨⟨Nat.le_of_ble_eq_true rfl,_,rfl,?_⟩,?_⟩;(first|exact ObjRen_g (flat_g _ _)|(refine ObjRen_2 ?_;(repeat'(refine List.forall_mem_cons.2 ⟨⟨rfl,?_⟩,?_⟩;(first|exact scS_g rfl|exact⟨by decide,rfl⟩|exact⟨by decide,fun h=>(by cases h)⟩)));exact fun _ h=>(by cases h))|(refine⟨rfl,rfl,rfl,rfl,?_⟩;(repeat'(refine List.forall_mem_cons.2 ⟨?_,?_⟩;(first|exact scS_g rfl|exact⟨by decide,rfl⟩|exact⟨by decide,fun h=>(by cases h)⟩)));exact fun _ h=>(by cases h))|exact ObjRen_j rfl rfl)));exact fun _ h=>(by cases h))
          ·exfalso;simp [cfgS,std,fitsK] at h9;omega
        ·exfalso
         have h6:(okM l m&&(decide (0≤z)&&decide (z<m.length)))=false:=h6
         rw [hM,decide_eq_true (show 0≤z by omega),decide_eq_true (show z<m.length by omega)] at h6
         cases h6
       ·exfalso
        have h5:(okM l m&&(decide (0≤j)&&decide (j<m.length)))=false:=h5
        rw [hM,decide_eq_true (show 0≤j by omega),decide_eq_true (show j<m.length by omega)] at h5
        cases h5
      ·have hge:k=i:=by simp [cfgS,std] at h4;omega
       ((conv=>whnf);refine bm (fun h5=>?_) (fun h5=>?_))
       ·(conv=>whnf)
        refine⟨m.length - (i+1),by omega,?_⟩
        refine Into_id (e0:=e69 m.length (j+1)) (h0:=h69 l m c1 c2 n) (n0:=3) ⟨i+1,j+1,by omega,by omega,rfl,fun t ht=>?_,rfl,rfl,rfl⟩ ?_ ?_ (by decide)
        ·by_cases hti:t=i
         ·rw [hti];exact fun k' hk'=>hmk k' (by omega)
         ·exact hme t (by omega)
        ·unfold e69;((repeat'(refine List.forall_mem_cons.2 ⟨⟨rfl,?_⟩,?_⟩;(first|exact scT_g rfl|exact⟨by decide,rfl⟩|exact⟨by decide,fun h=>(by cases h)⟩)));exact fun _ h=>(by cases h))
        ·unfold h69 bxM mapH2;((repeat'(refine List.forall_mem_cons.2 ⟨⟨Nat.le_of_ble_eq_true rfl,_,rfl,?_⟩,?_⟩;(first|exact ObjRen_g (flat_g _ _)|(refine ObjRen_2 ?_;(repeat'(refine List.forall_mem_cons.2 ⟨⟨rfl,?_⟩,?_⟩;(first|exact scS_g rfl|exact⟨by decide,rfl⟩|exact⟨by decide,fun h=>(by cases h)⟩)));exact fun _ h=>(by cases h))|(refine⟨rfl,rfl,rfl,rfl,?_⟩;(repeat'(refine List.forall_mem_cons.2 ⟨?_,?_⟩;(first|exact scS_g rfl|exact⟨by decide,rfl⟩|exact⟨by decide,fun h=>(by cases h)⟩)));exact fun _ h=>(by cases h))|exact ObjRen_j rfl rfl)));exact fun _ h=>(by cases h))
       ·exfalso;simp [cfgS,std,fitsK] at h5;omega
    ·have hge:i=m.length:=by simp [cfgS,std] at h3;omega
     have hpln:plnB l m n=true:=by
      rw [plnB,hlst,allN_true (fun i hi=>allN_true (hme i (by omega)))]
      rfl
     obtain⟨p1,p2,p3,p4⟩:=hP hlst
     (conv=>whnf)
     refine⟨l,m,n,.slice (some ⟨0,0,none⟩) l.length c1,.slice (some ⟨1,0,none⟩) m.length c2,rfl,LsAt_at elP rfl,LsAt_at elE rfl,hlst,?_⟩
     (conv=>whnf)
     have hW:WebAt (app (shH 3 (webM l m c1 c2 n)) (shutH (h69 l m c1 c2 n))) 7 3 4 9 8 0 (fun i=>3+(i+1000)) l (dts l m m.length) (outs l m) m.length c1 c2 n none:=by
      rw [a69_eq]
      exact a69_wbr.at (ext_cons (fun _ _ h=>h) a69_7) rfl
     refine⟨7,[],3,4,9,8,0,(fun i=>3+(i+1000)),l,dts l m m.length,outs l m,m.length,c1,c2,n,none,rfl,hW,?_⟩
     rw [show cnS l (dts l m m.length) (outs l m) []=some (true,.bool (conP l m)) from by
      unfold cnS
      rw [webB_wb p1,p3,outs_len,decide_eq_true p4]
      rfl]
     refine must_of rfl ?_
     ((conv=>whnf);refine bm (fun b1=>?_) (fun b1=>?_))
     ·have hc:conP l m=false:=by
       have b1:(!conP l m)=true:=b1
       simpa using b1
      (conv=>whnf)
      exact .inr ⟨by rw [opnB,hc,Bool.false_and,Bool.and_false],rfl⟩
     ·have hc:conP l m=true:=by
       have b1:(!conP l m)=false:=b1
       simpa using b1
      (conv=>whnf)
      refine⟨a69 l m c1 c2 n,a69_ok hl p1 p2,rfl,a69_eq,rfl,?_⟩
      ((conv=>whnf);refine bm (fun b2=>?_) (fun b2=>?_))
      ·have hok:nmOk (numP l m)=true:=by
        have b2:((!nmOk (numP l m)) == false)=true:=b2
        simpa using b2
       (conv=>whnf)
       rw [box69]
       ((conv=>whnf);refine bm (fun b3=>?_) (fun b3=>?_))
       ·have hne:¬ (numP l m).many=n:=by
         have b3:(!decide ((numP l m).many=n))=true:=b3
         simpa using b3
        (conv=>whnf)
        exact .inr ⟨by rw [opnB,decide_eq_false hne,Bool.false_and,Bool.and_false,Bool.and_false,Bool.and_false],rfl⟩
       ·have hmn:(numP l m).many=n:=by
         have b3:(!decide ((numP l m).many=n))=false:=b3
         simpa using b3
        (conv=>whnf)
        rw [box69]
        (conv=>whnf)
        have hfl:(numP l m).face.length=2*m.length:=by
         have:=(nmAll_inv l (dts l m m.length) (outs l m) (dts l m m.length).length).1
         exact this.trans (dts_len l m m.length)
        have hDl:(a69 l m c1 c2 n).D.length=2*m.length:=dts_len l m m.length
        have hhok:=hF_hok (m:=m) (c1:=c1) (c2:=c2) (n:=n) hl
        refine⟨fun q e h nx=>∃ (i:Nat) (j:Int),j=i∧i≤m.length∧q=m.length - i∧(∀ t,t<i→facB l m t=true)∧e=e69f m.length c2 j∧h=hF l m c1 c2 n∧nx=2004,⟨m.length,?_⟩,?_⟩
        ·refine Into_look (e0:=e69f m.length c2 0) (h0:=hF l m c1 c2 n) (n0:=2004) ⟨0,0,rfl,Nat.zero_le _,rfl,fun t ht=>absurd ht (Nat.not_lt_zero t),rfl,rfl,rfl⟩ ?_ hF_sub hhok (by omega)
         unfold e69f;((repeat'(refine List.forall_mem_cons.2 ⟨⟨rfl,?_⟩,?_⟩;(first|exact scT_g rfl|exact⟨by decide,rfl⟩|exact⟨by decide,fun h=>(by cases h)⟩)));exact fun _ h=>(by cases h))
        ·clear hj hi hge h3 hme
         rintro q e h nx ⟨i,j,hj,hi,rfl,hfa,rfl,rfl,rfl⟩
         unfold e69f
         ((conv=>whnf);refine bm (fun h3=>?_) (fun h3=>?_))
         ·have hlt:i<m.length:=by simp [cfgS,std] at h3;omega
          ((conv=>whnf);refine bm (fun g1=>?_) (fun g1=>?_))
          ·(conv=>whnf)
           refine boL (getE m (i:=i) (by omega) ?_) ?_
           ·show _+Int.toNat j*5=_;omega
           ((conv=>whnf);refine bm (fun g2=>?_) (fun g2=>?_))
           ·((conv=>whnf);refine bm (fun g3=>?_) (fun g3=>?_))
            ·(conv=>whnf)
             refine boV (getI (numP l m).face (i:=2*i) (by omega) ?_) ?_
             ·show _+Int.toNat (2*j)*1=_;omega
             ((conv=>whnf);refine bm (fun g4=>?_) (fun g4=>?_))
             ·have hL:(atE m i).l=atI (numP l m).face (2*i):=by
               have g4:((!decide ((atE m i).l=atI (numP l m).face (2*i))) == false)=true:=g4
               simpa using g4
              ((conv=>whnf);refine bm (fun g5=>?_) (fun g5=>?_))
              ·((conv=>whnf);refine bm (fun g6=>?_) (fun g6=>?_))
               ·((conv=>whnf);refine bm (fun g7=>?_) (fun g7=>?_))
                ·(conv=>whnf)
                 refine boV (getI (numP l m).face (i:=2*i+1) (by omega) ?_) ?_
                 ·show _+Int.toNat (2*j+1)*1=_;omega
                 ((conv=>whnf);refine bm (fun g8=>?_) (fun g8=>?_))
                 ·have hR:¬ (atE m i).r=atI (numP l m).face (2*i+1):=by
                   have g8:(!decide ((atE m i).r=atI (numP l m).face (2*i+1)))=true:=g8
                   simpa using g8
                  (conv=>whnf)
                  exact .inr ⟨by rw [opnB,allN_false hlt (show facB l m i=false by rw [facB,decide_eq_false hR,Bool.and_false]),Bool.and_false,Bool.and_false,Bool.and_false,Bool.and_false],rfl⟩
                 ·have hR:(atE m i).r=atI (numP l m).face (2*i+1):=by
                   have g8:(!decide ((atE m i).r=atI (numP l m).face (2*i+1)))=false:=g8
                   simpa using g8
                  ((conv=>whnf);refine bm (fun g9=>?_) (fun g9=>?_))
                  ·(conv=>whnf)
                   refine⟨m.length - (i+1),by omega,?_⟩
                   refine Into_look (e0:=e69f m.length c2 (j+1)) (h0:=hF l m c1 c2 n) (n0:=2004) ⟨i+1,j+1,by omega,by omega,rfl,fun t ht=>?_,rfl,rfl,rfl⟩ ?_ (ext_upd (ext_hput (fun _ _ h=>h) (HOK_no hhok (Nat.le_refl _))) (HOK_no hhok (Nat.le_refl _))) hhok (by omega)
                   ·by_cases hti:t=i
                    ·rw [hti,facB,decide_eq_true hL,decide_eq_true hR];rfl
                    ·exact hfa t (by omega)
                   ·unfold e69f;((repeat'(refine List.forall_mem_cons.2 ⟨⟨rfl,?_⟩,?_⟩;(first|exact scT_g rfl|exact⟨by decide,rfl⟩|exact⟨by decide,fun h=>(by cases h)⟩)));exact fun _ h=>(by cases h))
                  ·exfalso;simp [cfgS,std,fitsK] at g9;omega
                ·exfalso;simp [cfgS,std,hDl] at g7;omega
               ·exfalso;simp [cfgS,std,fitsK] at g6;omega
              ·exfalso;simp [cfgS,std,fitsK] at g5;omega
             ·have hL:¬ (atE m i).l=atI (numP l m).face (2*i):=by
               have g4:((!decide ((atE m i).l=atI (numP l m).face (2*i))) == false)=false:=g4
               simpa using g4
              (conv=>whnf)
              exact .inr ⟨by rw [opnB,allN_false hlt (show facB l m i=false by rw [facB,decide_eq_false hL,Bool.false_and]),Bool.and_false,Bool.and_false,Bool.and_false,Bool.and_false],rfl⟩
            ·exfalso;simp [cfgS,std,hDl] at g3;omega
           ·exfalso;simp [cfgS,std,fitsK] at g2;omega
          ·exfalso;simp [cfgS,std] at g1;omega
         ·have hge:i=m.length:=by simp [cfgS,std] at h3;omega
          (conv=>whnf)
          refine .inl ⟨?_,hF_out hl⟩
          rw [opnB,hpln,hc,hok,decide_eq_true hmn,allN_true (fun t ht=>hfa t (by omega))]
          rfl
      ·have hok:nmOk (numP l m)=false:=by
        have b2:((!nmOk (numP l m)) == false)=false:=b2
        simpa using b2
       (conv=>whnf)
       exact .inr ⟨by rw [opnB,hok,Bool.false_and,Bool.and_false,Bool.and_false],rfl⟩
 ·exfalso
  have a0:(decide (l.length≤1000)&&decide (m.length≤1000))=false:=a0
  rw [decide_eq_true hl,decide_eq_true hm] at a0
  cases a0
end Go.Aw
end
