/-
  Parts of the proof, put together. No condition.
-/
import Derived.Test.YtjahkcbdecgbhaaGreatQAx
set_option linter.unusedSimpArgs false
set_option linter.unusedVariables false
noncomputable section
namespace Go.Aw
set_option maxRecDepth 100000
theorem lst_ok {l:List Pt}{m:List Ed}{n:Int}(h:lstB l m n=true):okM l m=true∧3≤m.length∧1≤l.length∧l.length≤400∧m.length≤400∧1≤n∧n≤100:=by
 simp only [lstB,Bool.and_eq_true] at h
 obtain⟨h1,h2,h3,h4⟩:=h
 simp only [szB,Bool.and_eq_true,decide_eq_true_eq] at h1
 have hM:=okM_of (l:=l) (m:=m) (by omega) (by omega) (fun i hi=>allN_at h2 hi) (fun i hi=>allN_at h3 hi)
 have:=okM_at hM (i:=0) (by omega)
 exact⟨hM,by omega,by omega,by omega,by omega,by omega,by omega⟩
theorem pln_lst {l:List Pt}{m:List Ed}{n:Int}(h:plnB l m n=true):lstB l m n=true:=by
 simp only [plnB,Bool.and_eq_true] at h
 exact h.1
def faB (m:List Ed)(of:List Int)(i:Nat):Bool:=decide ((atE m i).l=atI of (2*i))&&decide ((atE m i).r=atI of (2*i+1))
def valI (l:List Pt)(m:List Ed)(n:Int):Bool:=plnB l m n&&(conI l m&&(fcOk (facedI l m)&&(decide ((facedI l m).faces=n)&&allN (faB m (facedI l m).of) m.length)))
def vaS (l:List Pt)(m:List Ed)(n:Int):List Value→Option (Bool × Value)
 |[]=>some (decide (l.length≤1000)&&decide (m.length≤1000),.bool (valI l m n))
 |_=>none
theorem vaS_inv {l:List Pt}{m:List Ed}{n:Int}{r:List Value}{v:Value}(h:vaS l m n r=some (true,v)):r=[]∧l.length≤1000∧m.length≤1000∧v=.bool (valI l m n):=by
 unfold vaS at h
 split at h
 ·injection h with h
  injection h with h1 h2
  simp only [Bool.and_eq_true,decide_eq_true_eq] at h1
  exact⟨rfl,h1.1,h1.2,h2.symm⟩
 ·cases h
def e70 (j:Int):List (Nat × Value):=[(1,.pointer (some ⟨2,0,none⟩)),(4,.pointer (some ⟨4,0,none⟩)),(5,iv j)]
def h70 (l:List Pt)(m:List Ed)(c1 c2:Nat)(n:Int)(of:List Int)(F:Int)(K:Bool):Heap:=(4,.cells true false 1 [.slice (some ⟨3,0,none⟩) of.length of.length,iv F,.bool K])::(3,.cells true false 1 (flat elI.fl of))::h157 l m c1 c2 n
def Xf70:Nat × XF:=(70,mX elP elE vaS)
theorem xf70:XOK Go.Proofs.Tryz.prog Xf70.1 Xf70.2:=mX_ok elP elE (body_calls (xl:=[Xf156,Xf157,Xf158]) (.cons xf156 (.cons xf157 (.cons xf158 .nil)))) fun l m n r v hs=>by
 obtain⟨rfl,hl,hm,rfl⟩:=vaS_inv hs
 clear hs
 refine⟨rfl,rfl,fun c1 c2=>?_⟩
 (conv=>whnf)
 refine⟨l,m,LsAt_at elP rfl,LsAt_at elE rfl,?_⟩
 ((conv=>whnf);refine bm (fun a1=>?_) (fun a1=>?_))
 ·((conv=>whnf);refine bm (fun a2=>?_) (fun a2=>?_))
  ·have a2:plnB l m n=false:=by simpa [cfgS,std] using a2
   (conv=>whnf)
   rw [valI,a2]
   rfl
  ·have a2:plnB l m n=true:=by simpa [cfgS,std] using a2
   obtain⟨hM,h3,h1l,_⟩:=lst_ok (pln_lst a2)
   (conv=>whnf)
   refine⟨l,m,LsAt_at elP rfl,LsAt_at elE rfl,?_⟩
   ((conv=>whnf);refine bm (fun a3=>?_) (fun a3=>?_))
   ·(conv=>whnf)
    refine⟨_,_,_,[],l,m,rfl,LsAt_at elP rfl,LsAt_at elE rfl,?_⟩
    ((conv=>whnf);refine bm (fun a4=>?_) (fun a4=>?_))
    ·have flen:(facedI l m).of.length=2*m.length:=fcAll_len l m _
     have hval:valI l m n=(conI l m&&(fcOk (facedI l m)&&(decide ((facedI l m).faces=n)&&allN (faB m (facedI l m).of) m.length))):=by rw [valI,a2,Bool.true_and]
     rw [hval]
     generalize facedI l m=st at flen
     ((conv=>whnf);refine bm (fun b1=>?_) (fun b1=>?_))
     ·have b1:conI l m=true:=by simpa [cfgS,std] using b1
      ((conv=>whnf);refine bm (fun b2=>?_) (fun b2=>?_))
      ·have b2:fcOk st=true:=by simpa [cfgS,std] using b2
       ((conv=>whnf);refine bm (fun b3=>?_) (fun b3=>?_))
       ·have b3:¬ st.faces=n:=by simpa [cfgS,std] using b3
        (conv=>whnf)
        rw [b1,b2,decide_eq_false b3]
        rfl
       ·have b3:st.faces=n:=by simpa [cfgS,std] using b3
        (conv=>whnf)
        rw [b1,b2,decide_eq_true b3,Bool.true_and,Bool.true_and,Bool.true_and]
        refine⟨fun q e h nx=>∃ (i:Nat) (j:Int),j=i∧i≤m.length∧q=m.length - i∧(∀ t,t<i→faB m st.of t=true)∧e=e70 j∧h=h70 l m c1 c2 n st.of st.faces true∧nx=5,⟨m.length,?_⟩,?_⟩
        ·refine Into_id (e0:=e70 0) (h0:=h70 l m c1 c2 n st.of st.faces true) (n0:=5) ⟨0,0,rfl,Nat.zero_le _,rfl,fun t ht=>absurd ht (Nat.not_lt_zero t),rfl,rfl,rfl⟩ ?_ ?_ (by decide)
         ·unfold e70;((repeat'(refine List.forall_mem_cons.2 ⟨⟨rfl,?_⟩,?_⟩;(first|exact scT_g rfl|exact⟨by decide,rfl⟩|exact⟨by decide,fun h=>(by cases h)⟩)));exact fun _ h=>(by cases h))
         ·unfold h70 h157 bxM mapH2;((repeat'(refine List.forall_mem_cons.2 ⟨⟨Nat.le_of_ble_eq_true rfl,_,rfl,?_⟩,?_⟩;(first|exact ObjRen_g (flat_g _ _)|(refine ObjRen_2 ?_;(repeat'(refine List.forall_mem_cons.2 ⟨⟨rfl,?_⟩,?_⟩;(first|exact scS_g rfl|exact⟨by decide,rfl⟩|exact⟨by decide,fun h=>(by cases h)⟩)));exact fun _ h=>(by cases h))|(refine⟨rfl,rfl,rfl,rfl,?_⟩;(repeat'(refine List.forall_mem_cons.2 ⟨?_,?_⟩;(first|exact scS_g rfl|exact⟨by decide,rfl⟩|exact⟨by decide,fun h=>(by cases h)⟩)));exact fun _ h=>(by cases h))|exact ObjRen_j rfl rfl)));exact fun _ h=>(by cases h))
        ·rintro q e h nx ⟨i,j,hj,hi,rfl,hfa,rfl,rfl,rfl⟩
         unfold e70 h70 h157 bxM mapH2
         ((conv=>whnf);refine bm (fun d1=>?_) (fun d1=>?_))
         ·have hlt:i<m.length:=by simp [cfgS,std] at d1;omega
          ((conv=>whnf);refine bm (fun d2=>?_) (fun d2=>?_))
          ·(conv=>whnf)
           refine boV (ed_k m 2 (i:=i) hlt rfl (by decide) ?_) ?_
           ·show _+Int.toNat j*5+2=_;omega
           ((conv=>whnf);refine bm (fun d3=>?_) (fun d3=>?_))
           ·((conv=>whnf);refine bm (fun d4=>?_) (fun d4=>?_))
            ·(conv=>whnf)
             refine boV (getI st.of (i:=2*i) (by omega) ?_) ?_
             ·show _+Int.toNat (2*j)*1=_;omega
             ((conv=>whnf);refine bm (fun d5=>?_) (fun d5=>?_))
             ·have d5:(atE m i).l=atI st.of (2*i):=by simpa [cfgS,std] using d5
              ((conv=>whnf);refine bm (fun d6=>?_) (fun d6=>?_))
              ·(conv=>whnf)
               refine boV (ed_k m 3 (i:=i) hlt rfl (by decide) ?_) ?_
               ·show _+Int.toNat j*5+3=_;omega
               ((conv=>whnf);refine bm (fun d7=>?_) (fun d7=>?_))
               ·((conv=>whnf);refine bm (fun d8=>?_) (fun d8=>?_))
                ·((conv=>whnf);refine bm (fun d9=>?_) (fun d9=>?_))
                 ·(conv=>whnf)
                  refine boV (getI st.of (i:=2*i+1) (by omega) ?_) ?_
                  ·show _+Int.toNat (2*j+1)*1=_;omega
                  ((conv=>whnf);refine bm (fun d10=>?_) (fun d10=>?_))
                  ·have d10:¬ (atE m i).r=atI st.of (2*i+1):=by simpa [cfgS,std] using d10
                   (conv=>whnf)
                   rw [allN_false hlt (show faB m st.of i=false by rw [faB,decide_eq_false d10,Bool.and_false])]
                  ·have d10:(atE m i).r=atI st.of (2*i+1):=by simpa [cfgS,std] using d10
                   ((conv=>whnf);refine bm (fun d11=>?_) (fun d11=>?_))
                   ·(conv=>whnf)
                    refine⟨m.length - (i+1),by omega,?_⟩
                    refine Into_id (e0:=e70 (j+1)) (h0:=h70 l m c1 c2 n st.of st.faces true) (n0:=5) ⟨i+1,j+1,by omega,by omega,rfl,fun t ht=>?_,rfl,rfl,rfl⟩ ?_ ?_ (by decide)
                    ·by_cases hti:t=i
                     ·rw [hti,faB,decide_eq_true d5,decide_eq_true d10];rfl
                     ·exact hfa t (by omega)
                    ·unfold e70;((repeat'(refine List.forall_mem_cons.2 ⟨⟨rfl,?_⟩,?_⟩;(first|exact scT_g rfl|exact⟨by decide,rfl⟩|exact⟨by decide,fun h=>(by cases h)⟩)));exact fun _ h=>(by cases h))
                    ·unfold h70 h157 bxM mapH2;((repeat'(refine List.forall_mem_cons.2 ⟨⟨Nat.le_of_ble_eq_true rfl,_,rfl,?_⟩,?_⟩;(first|exact ObjRen_g (flat_g _ _)|(refine ObjRen_2 ?_;(repeat'(refine List.forall_mem_cons.2 ⟨⟨rfl,?_⟩,?_⟩;(first|exact scS_g rfl|exact⟨by decide,rfl⟩|exact⟨by decide,fun h=>(by cases h)⟩)));exact fun _ h=>(by cases h))|(refine⟨rfl,rfl,rfl,rfl,?_⟩;(repeat'(refine List.forall_mem_cons.2 ⟨?_,?_⟩;(first|exact scS_g rfl|exact⟨by decide,rfl⟩|exact⟨by decide,fun h=>(by cases h)⟩)));exact fun _ h=>(by cases h))|exact ObjRen_j rfl rfl)));exact fun _ h=>(by cases h))
                   ·exfalso;simp [cfgS,std,fitsK] at d11;omega
                 ·exfalso;simp [cfgS,std] at d9;omega
                ·exfalso;simp [cfgS,std,fitsK] at d8;omega
               ·exfalso;simp [cfgS,std,fitsK] at d7;omega
              ·exfalso;simp [cfgS,std] at d6;omega
             ·have d5:¬ (atE m i).l=atI st.of (2*i):=by simpa [cfgS,std] using d5
              (conv=>whnf)
              rw [allN_false hlt (show faB m st.of i=false by rw [faB,decide_eq_false d5,Bool.false_and])]
            ·exfalso;simp [cfgS,std] at d4;omega
           ·exfalso;simp [cfgS,std,fitsK] at d3;omega
          ·exfalso;simp [cfgS,std] at d2;omega
         ·have hge:i=m.length:=by simp [cfgS,std] at d1;omega
          (conv=>whnf)
          rw [allN_true (fun t ht=>hfa t (by omega))]
      ·have b2:fcOk st=false:=by simpa [cfgS,std] using b2
       (conv=>whnf)
       rw [b1,b2]
       rfl
     ·have b1:conI l m=false:=by simpa [cfgS,std] using b1
      (conv=>whnf)
      rw [b1]
      rfl
    ·exfalso
     have a4:(okM l m&&decide (1≤m.length))=false:=a4
     rw [hM,decide_eq_true (show 1≤m.length by omega)] at a4
     cases a4
   ·exfalso
    have a3:(okM l m&&decide (1≤l.length))=false:=a3
    rw [hM,decide_eq_true h1l] at a3
    cases a3
 ·exfalso
  have a1:(decide (l.length≤1000)&&decide (m.length≤1000))=false:=a1
  rw [decide_eq_true hl,decide_eq_true hm] at a1
  cases a1
end Go.Aw
end

noncomputable section
namespace Go.Aw
set_option maxRecDepth 100000
def ckS (l:List Pt)(m:List Ed)(n:Int):List Value→Option (Bool × Value)
 |[]=>some (decide (l.length≤1000)&&decide (m.length≤1000),iv (if valI l m n=true then 0 else 1))
 |_=>none
theorem ckS_inv {l:List Pt}{m:List Ed}{n:Int}{r:List Value}{v:Value}(h:ckS l m n r=some (true,v)):r=[]∧l.length≤1000∧m.length≤1000∧v=iv (if valI l m n=true then 0 else 1):=by
 unfold ckS at h
 split at h
 ·injection h with h
  injection h with h1 h2
  simp only [Bool.and_eq_true,decide_eq_true_eq] at h1
  exact⟨rfl,h1.1,h1.2,h2.symm⟩
 ·cases h
def Xf18:Nat × XF:=(18,mX elP elE ckS)
theorem xf18:XOK Go.Proofs.Tryz.prog Xf18.1 Xf18.2:=mX_ok elP elE (body_calls (xl:=[Xf70]) (.cons xf70 .nil)) fun l m n r v hs=>by
 obtain⟨rfl,hl,hm,rfl⟩:=ckS_inv hs
 clear hs
 refine⟨rfl,rfl,fun c1 c2=>?_⟩
 (conv=>whnf)
 refine⟨l,m,LsAt_at elP rfl,LsAt_at elE rfl,?_⟩
 ((conv=>whnf);refine bm (fun a1=>?_) (fun a1=>?_))
 ·((conv=>whnf);refine bm (fun a2=>?_) (fun a2=>?_))
  ·have a2:valI l m n=false:=by simpa [cfgS,std] using a2
   (conv=>whnf)
   rw [if_neg (by rw [a2];exact Bool.false_ne_true)]
   rfl
  ·have a2:valI l m n=true:=by simpa [cfgS,std] using a2
   (conv=>whnf)
   rw [if_pos a2]
   rfl
 ·exfalso
  have a1:(decide (l.length≤1000)&&decide (m.length≤1000))=false:=a1
  rw [decide_eq_true hl,decide_eq_true hm] at a1
  cases a1
end Go.Aw
end

noncomputable section
namespace Go.Aw
set_option maxRecDepth 100000
def idxF:List Bool→Nat→Int
 |[],_=>-1
 |b::r,i=>if b=false then i else idxF r (i+1)
theorem idxF_all:∀ (l:List Bool) (i:Nat),decide (0≤idxF l i)=!(l.all id)
 |[],i=>rfl
 |b::r,i=>by
  cases b with
  |false=>simp [idxF]
  |true=>simpa [idxF] using idxF_all r (i+1)
def ixS (l:List Bool):List Value→Option (Bool × Value)
 |[.bool false]=>some (decide (l.length≤1000000),iv (idxF l 0))
 |_=>none
theorem ixS_inv {l:List Bool}{r:List Value}{v:Value}(hs:ixS l r=some (true,v)):r=[.bool false]∧l.length≤1000000∧v=iv (idxF l 0):=by
 unfold ixS at hs
 split at hs
 ·injection hs with hs;injection hs with h1 h2;exact⟨rfl,by simpa using h1,h2.symm⟩
 ·cases hs
def e241 (l:List Bool)(c:Nat)(j:Int):List (Nat × Value):=[(0,.slice (some ⟨0,0,none⟩) l.length c),(1,.bool false),(7,iv l.length),(8,iv j)]
def hBo (l:List Bool):Heap:=[(0,.cells false true 1 (flat elB.fl l))]
def Xf241:Nat × XF:=(241,lX elB ixS)
theorem xf241:XOK Go.Proofs.Tryz.prog Xf241.1 Xf241.2:=lX_ok elB (body_calls (xl:=[]) .nil) fun l r v hs=>by
 obtain⟨rfl,hlen,rfl⟩:=ixS_inv hs
 refine⟨rfl,rfl,fun c=>?_⟩
 (conv=>whnf)
 refine⟨fun q e h nx=>∃ (i:Nat) (j:Int),j=i∧i≤l.length∧q=l.length - i∧idxF l 0=idxF (l.drop i) i∧e=e241 l c j∧h=hBo l∧nx=1,⟨l.length,?_⟩,?_⟩
 ·refine Into_id (e0:=e241 l c 0) (h0:=hBo l) (n0:=1) ⟨0,0,rfl,Nat.zero_le _,rfl,rfl,rfl,rfl,rfl⟩ ?_ ?_ (by decide)
  ·unfold e241;((repeat'(refine List.forall_mem_cons.2 ⟨⟨rfl,?_⟩,?_⟩;(first|exact scT_g rfl|exact⟨by decide,rfl⟩|exact⟨by decide,fun h=>(by cases h)⟩)));exact fun _ h=>(by cases h))
  ·unfold hBo;((repeat'(refine List.forall_mem_cons.2 ⟨⟨Nat.le_of_ble_eq_true rfl,_,rfl,?_⟩,?_⟩;(first|exact ObjRen_g (flat_g _ _)|(refine ObjRen_2 ?_;(repeat'(refine List.forall_mem_cons.2 ⟨⟨rfl,?_⟩,?_⟩;(first|exact scS_g rfl|exact⟨by decide,rfl⟩|exact⟨by decide,fun h=>(by cases h)⟩)));exact fun _ h=>(by cases h))|(refine⟨rfl,rfl,rfl,rfl,?_⟩;(repeat'(refine List.forall_mem_cons.2 ⟨?_,?_⟩;(first|exact scS_g rfl|exact⟨by decide,rfl⟩|exact⟨by decide,fun h=>(by cases h)⟩)));exact fun _ h=>(by cases h))|exact ObjRen_j rfl rfl)));exact fun _ h=>(by cases h))
 ·rintro q e h nx ⟨i,j,hj,hi,rfl,hb,rfl,rfl,rfl⟩
  unfold e241 hBo
  ((conv=>whnf);refine bm (fun h1=>?_) (fun h1=>?_))
  ·have hlt:i<l.length:=by simp [cfgS,std] at h1;omega
   have hd:l.drop i=atB l i::l.drop (i+1):=by rw [atB_eq hlt];exact List.drop_eq_getElem_cons hlt
   rw [hd,idxF] at hb
   ((conv=>whnf);refine bm (fun h2=>?_) (fun h2=>?_))
   ·(conv=>whnf)
    refine boV (getB l (i:=i) hlt ?_) ?_
    ·show _+Int.toNat j*1=_;omega
    ((conv=>whnf);refine bm (fun h3=>?_) (fun h3=>?_))
    ·have h3:atB l i=false:=by simpa [cfgS,std] using h3
     (conv=>whnf)
     rw [hb,if_pos h3,hj]
    ·have h3:¬ atB l i=false:=by simpa [cfgS,std] using h3
     ((conv=>whnf);refine bm (fun h4=>?_) (fun h4=>?_))
     ·(conv=>whnf)
      refine⟨l.length - (i+1),by omega,?_⟩
      refine Into_id (e0:=e241 l c (j+1)) (h0:=hBo l) (n0:=1) ⟨i+1,j+1,by omega,hlt,rfl,by rw [hb,if_neg h3],rfl,rfl,rfl⟩ ?_ ?_ (by decide)
      ·unfold e241;((repeat'(refine List.forall_mem_cons.2 ⟨⟨rfl,?_⟩,?_⟩;(first|exact scT_g rfl|exact⟨by decide,rfl⟩|exact⟨by decide,fun h=>(by cases h)⟩)));exact fun _ h=>(by cases h))
      ·unfold hBo;((repeat'(refine List.forall_mem_cons.2 ⟨⟨Nat.le_of_ble_eq_true rfl,_,rfl,?_⟩,?_⟩;(first|exact ObjRen_g (flat_g _ _)|(refine ObjRen_2 ?_;(repeat'(refine List.forall_mem_cons.2 ⟨⟨rfl,?_⟩,?_⟩;(first|exact scS_g rfl|exact⟨by decide,rfl⟩|exact⟨by decide,fun h=>(by cases h)⟩)));exact fun _ h=>(by cases h))|(refine⟨rfl,rfl,rfl,rfl,?_⟩;(repeat'(refine List.forall_mem_cons.2 ⟨?_,?_⟩;(first|exact scS_g rfl|exact⟨by decide,rfl⟩|exact⟨by decide,fun h=>(by cases h)⟩)));exact fun _ h=>(by cases h))|exact ObjRen_j rfl rfl)));exact fun _ h=>(by cases h))
     ·exfalso;simp [cfgS,std,fitsK] at h4;omega
   ·exfalso;simp [cfgS,std] at h2;omega
  ·have hge:l.length≤i:=by simp [cfgS,std] at h1;omega
   (conv=>whnf)
   rw [hb,List.drop_eq_nil_of_le hge]
   rfl
def ctS (l:List Bool):List Value→Option (Bool × Value)
 |[.bool false]=>some (decide (l.length≤1000000),.bool (!(l.all id)))
 |_=>none
theorem ctS_inv {l:List Bool}{r:List Value}{v:Value}(hs:ctS l r=some (true,v)):r=[.bool false]∧l.length≤1000000∧v=.bool (!(l.all id)):=by
 unfold ctS at hs
 split at hs
 ·injection hs with hs;injection hs with h1 h2;exact⟨rfl,by simpa using h1,h2.symm⟩
 ·cases hs
def Xf208:Nat × XF:=(208,lX elB ctS)
theorem xf208:XOK Go.Proofs.Tryz.prog Xf208.1 Xf208.2:=lX_ok elB (body_calls (xl:=[Xf241]) (.cons xf241 .nil)) fun l r v hs=>by
 obtain⟨rfl,hlen,rfl⟩:=ctS_inv hs
 refine⟨rfl,rfl,fun c=>?_⟩
 (conv=>whnf)
 refine⟨l,LsAt_at elB rfl,?_⟩
 ((conv=>whnf);refine bm (fun h1=>?_) (fun h1=>?_))
 ·(conv=>whnf)
  rw [← idxF_all l 0]
  rfl
 ·exact absurd hlen (by simpa using h1)
theorem rep_fB (n:Nat):rep n [.bool false]=flat elB.fl (List.replicate n false):=by
 induction n with
 |zero=>rfl
 |succ n ih=>simp only [List.replicate_succ,flat,← ih];rfl
theorem rep_fI (n:Nat):rep n [iv 0]=flat elI.fl (List.replicate n 0):=by
 induction n with
 |zero=>rfl
 |succ n ih=>simp only [List.replicate_succ,flat,← ih];rfl
theorem less_ord (a b:Pt):lessI a b=decide (ordS a b<0):=by
 unfold lessI ordS orI cmpI
 by_cases h1:a.1<b.1
 ·simp [h1]
 ·by_cases h2:b.1<a.1
  ·have h3:¬ a.1=b.1:=by omega
   simp [h1,h2,h3]
  ·have h3:a.1=b.1:=by omega
   simp only [h1,h2,if_false,h3]
   by_cases h4:a.2<b.2 <;> by_cases h5:b.2<a.2 <;> simp [h4,h5]
theorem bfE_ord (d e:Ed):bfE d e=decide (orI (cmpI d.a e.a) (cmpI d.b e.b)<0):=less_ord (d.a,d.b) (e.a,e.b)
end Go.Aw
end

noncomputable section
namespace Go.Aw
set_option maxRecDepth 100000
def liS (l:List Pt)(m:List Ed)(n:Int):List Value→Option (Bool × Value)
 |[]=>some (decide (l.length≤1000)&&decide (m.length≤1000),.bool (lstB l m n))
 |_=>none
theorem liS_inv {l:List Pt}{m:List Ed}{n:Int}{r:List Value}{v:Value}(h:liS l m n r=some (true,v)):r=[]∧l.length≤1000∧m.length≤1000∧v=.bool (lstB l m n):=by
 unfold liS at h
 split at h
 ·injection h with h
  injection h with h1 h2
  simp only [Bool.and_eq_true,decide_eq_true_eq] at h1
  exact⟨rfl,h1.1,h1.2,h2.symm⟩
 ·cases h
def e152 (N c:Nat)(j:Int):List (Nat × Value):=[(1,.pointer (some ⟨2,0,none⟩)),(35,.slice (some ⟨0,0,none⟩) N c),(36,iv N),(37,iv j)]
def e152b (N M c:Nat)(j:Int):List (Nat × Value):=[(1,.pointer (some ⟨2,0,none⟩)),(5,.slice (some ⟨3,0,none⟩) N N),(66,.slice (some ⟨1,0,none⟩) M c),(67,iv M),(68,iv j)]
def Xf152:Nat × XF:=(152,mX elP elE liS)
theorem xf152:XOK Go.Proofs.Tryz.prog Xf152.1 Xf152.2:=mX_ok elP elE (body_calls (xl:=[X17,X170,X101,X114,Xf208]) (.cons x17 (.cons x170 (.cons x101 (.cons x114 (.cons xf208 .nil)))))) fun l m n r v hs=>by
 obtain⟨rfl,hl,hm,rfl⟩:=liS_inv hs
 clear hs
 refine⟨rfl,rfl,fun c1 c2=>?_⟩
 have hszf:¬ (l.length≤400∧3≤m.length∧m.length≤400∧1≤n∧n≤100)→lstB l m n=false:=fun h=>lst_sz (by
  cases hz:szB l m n with
  |false=>rfl
  |true=>simp only [szB,Bool.and_eq_true,decide_eq_true_eq] at hz;exact absurd ⟨hz.1.1.1.1,hz.1.1.1.2,hz.1.1.2,hz.1.2,hz.2⟩ h)
 ((conv=>whnf);refine bm (fun a1=>?_) (fun a1=>?_))
 ·have a1:¬ 400<l.length:=by simp [cfgS,std] at a1;omega
  ((conv=>whnf);refine bm (fun a2=>?_) (fun a2=>?_))
  ·have a2:¬ m.length<3:=by simp [cfgS,std] at a2;omega
   ((conv=>whnf);refine bm (fun a3=>?_) (fun a3=>?_))
   ·have a3:¬ 400<m.length:=by simp [cfgS,std] at a3;omega
    ((conv=>whnf);refine bm (fun a4=>?_) (fun a4=>?_))
    ·have a4:¬ n<1:=by simp [cfgS,std] at a4;omega
     ((conv=>whnf);refine bm (fun a5=>?_) (fun a5=>?_))
     ·have a5:100<n:=by simp [cfgS,std] at a5;omega
      (conv=>whnf)
      rw [hszf (by omega)]
     ·have a5:¬ 100<n:=by simp [cfgS,std] at a5;omega
      have hsz:szB l m n=true:=by
       simp only [szB,Bool.and_eq_true,decide_eq_true_eq]
       omega
      clear hszf
      (conv=>whnf)
      refine⟨fun q e h nx=>∃ (i:Nat) (j:Int),j=i∧i≤l.length∧q=l.length - i∧(∀ t,t<i→ptB l t=true)∧e=e152 l.length c1 j∧h=h157 l m c1 c2 n∧nx=3,⟨l.length,?_⟩,?_⟩
      ·refine Into_id (e0:=e152 l.length c1 0) (h0:=h157 l m c1 c2 n) (n0:=3) ⟨0,0,rfl,Nat.zero_le _,rfl,fun t ht=>absurd ht (Nat.not_lt_zero t),rfl,rfl,rfl⟩ ?_ ?_ (by decide)
       ·unfold e152;((repeat'(refine List.forall_mem_cons.2 ⟨⟨rfl,?_⟩,?_⟩;(first|exact scT_g rfl|exact⟨by decide,rfl⟩|exact⟨by decide,fun h=>(by cases h)⟩)));exact fun _ h=>(by cases h))
       ·unfold h157 bxM mapH2;((repeat'(refine List.forall_mem_cons.2 ⟨⟨Nat.le_of_ble_eq_true rfl,_,rfl,?_⟩,?_⟩;(first|exact ObjRen_g (flat_g _ _)|(refine ObjRen_2 ?_;(repeat'(refine List.forall_mem_cons.2 ⟨⟨rfl,?_⟩,?_⟩;(first|exact scS_g rfl|exact⟨by decide,rfl⟩|exact⟨by decide,fun h=>(by cases h)⟩)));exact fun _ h=>(by cases h))|(refine⟨rfl,rfl,rfl,rfl,?_⟩;(repeat'(refine List.forall_mem_cons.2 ⟨?_,?_⟩;(first|exact scS_g rfl|exact⟨by decide,rfl⟩|exact⟨by decide,fun h=>(by cases h)⟩)));exact fun _ h=>(by cases h))|exact ObjRen_j rfl rfl)));exact fun _ h=>(by cases h))
      ·rintro q e h nx ⟨i,j,hj,hi,rfl,hpt,rfl,rfl,rfl⟩
       unfold e152 h157 bxM mapH2
       ((conv=>whnf);refine bm (fun b1=>?_) (fun b1=>?_))
       ·have hlt:i<l.length:=by simp [cfgS,std] at b1;omega
        ((conv=>whnf);refine bm (fun b2=>?_) (fun b2=>?_))
        ·(conv=>whnf)
         refine boL (getPt l (i:=i) hlt ?_) ?_
         ·show _+Int.toNat j*2=_;omega
         ((conv=>whnf);refine bm (fun b3=>?_) (fun b3=>?_))
         ·have hr:rightS (at2 l i)=true:=by simpa [cfgS,std] using b3
          ((conv=>whnf);refine bm (fun b4=>?_) (fun b4=>?_))
          ·have hi0:i≠0:=by simp [cfgS,std] at b4;omega
           ((conv=>whnf);refine bm (fun b5=>?_) (fun b5=>?_))
           ·((conv=>whnf);refine bm (fun b6=>?_) (fun b6=>?_))
            ·(conv=>whnf)
             refine boL (getPt l (i:=i - 1) (by omega) ?_) ?_
             ·show _+Int.toNat (j - 1)*2=_;omega
             ((conv=>whnf);refine bm (fun b8=>?_) (fun b8=>?_))
             ·have b8:lessI (at2 l (i - 1)) (at2 l i)=false:=by
               rw [less_ord]
               have:0≤ordS (at2 l (i - 1)) (at2 l i):=by simpa [cfgS,std] using b8
               exact decide_eq_false (by omega)
              (conv=>whnf)
              rw [lst_pt hlt (show ptB l i=false by rw [ptB,hr,b8,decide_eq_false hi0];rfl)]
             ·have b8:lessI (at2 l (i - 1)) (at2 l i)=true:=by
               rw [less_ord]
               have:¬ 0≤ordS (at2 l (i - 1)) (at2 l i):=by simpa [cfgS,std] using b8
               exact decide_eq_true (by omega)
              have hyes:ptB l i=true:=by rw [ptB,hr,b8];simp
              ((conv=>whnf);refine bm (fun b9=>?_) (fun b9=>?_))
              ·(conv=>whnf)
               refine⟨l.length - (i+1),by omega,?_⟩
               refine Into_id (e0:=e152 l.length c1 (j+1)) (h0:=h157 l m c1 c2 n) (n0:=3) ⟨i+1,j+1,by omega,by omega,rfl,fun t ht=>?_,rfl,rfl,rfl⟩ ?_ ?_ (by decide)
               ·by_cases hti:t=i
                ·rw [hti];exact hyes
                ·exact hpt t (by omega)
               ·unfold e152;((repeat'(refine List.forall_mem_cons.2 ⟨⟨rfl,?_⟩,?_⟩;(first|exact scT_g rfl|exact⟨by decide,rfl⟩|exact⟨by decide,fun h=>(by cases h)⟩)));exact fun _ h=>(by cases h))
               ·unfold h157 bxM mapH2;((repeat'(refine List.forall_mem_cons.2 ⟨⟨Nat.le_of_ble_eq_true rfl,_,rfl,?_⟩,?_⟩;(first|exact ObjRen_g (flat_g _ _)|(refine ObjRen_2 ?_;(repeat'(refine List.forall_mem_cons.2 ⟨⟨rfl,?_⟩,?_⟩;(first|exact scS_g rfl|exact⟨by decide,rfl⟩|exact⟨by decide,fun h=>(by cases h)⟩)));exact fun _ h=>(by cases h))|(refine⟨rfl,rfl,rfl,rfl,?_⟩;(repeat'(refine List.forall_mem_cons.2 ⟨?_,?_⟩;(first|exact scS_g rfl|exact⟨by decide,rfl⟩|exact⟨by decide,fun h=>(by cases h)⟩)));exact fun _ h=>(by cases h))|exact ObjRen_j rfl rfl)));exact fun _ h=>(by cases h))
              ·exfalso;simp [cfgS,std,fitsK] at b9;omega
            ·exfalso;simp [cfgS,std] at b6;omega
           ·exfalso;simp [cfgS,std,fitsK] at b5;omega
          ·have hi0:i=0:=by simp [cfgS,std] at b4;omega
           have hyes:ptB l i=true:=by rw [ptB,hr,hi0];rfl
           ((conv=>whnf);refine bm (fun b9=>?_) (fun b9=>?_))
           ·(conv=>whnf)
            refine⟨l.length - (i+1),by omega,?_⟩
            refine Into_id (e0:=e152 l.length c1 (j+1)) (h0:=h157 l m c1 c2 n) (n0:=3) ⟨i+1,j+1,by omega,by omega,rfl,fun t ht=>?_,rfl,rfl,rfl⟩ ?_ ?_ (by decide)
            ·by_cases hti:t=i
             ·rw [hti];exact hyes
             ·exact hpt t (by omega)
            ·unfold e152;((repeat'(refine List.forall_mem_cons.2 ⟨⟨rfl,?_⟩,?_⟩;(first|exact scT_g rfl|exact⟨by decide,rfl⟩|exact⟨by decide,fun h=>(by cases h)⟩)));exact fun _ h=>(by cases h))
            ·unfold h157 bxM mapH2;((repeat'(refine List.forall_mem_cons.2 ⟨⟨Nat.le_of_ble_eq_true rfl,_,rfl,?_⟩,?_⟩;(first|exact ObjRen_g (flat_g _ _)|(refine ObjRen_2 ?_;(repeat'(refine List.forall_mem_cons.2 ⟨⟨rfl,?_⟩,?_⟩;(first|exact scS_g rfl|exact⟨by decide,rfl⟩|exact⟨by decide,fun h=>(by cases h)⟩)));exact fun _ h=>(by cases h))|(refine⟨rfl,rfl,rfl,rfl,?_⟩;(repeat'(refine List.forall_mem_cons.2 ⟨?_,?_⟩;(first|exact scS_g rfl|exact⟨by decide,rfl⟩|exact⟨by decide,fun h=>(by cases h)⟩)));exact fun _ h=>(by cases h))|exact ObjRen_j rfl rfl)));exact fun _ h=>(by cases h))
           ·exfalso;simp [cfgS,std,fitsK] at b9;omega
         ·have hr:rightS (at2 l i)=false:=by simpa [cfgS,std] using b3
          (conv=>whnf)
          rw [lst_pt hlt (show ptB l i=false by rw [ptB,hr];rfl)]
        ·exfalso;simp [cfgS,std] at b2;omega
       ·have hge:i=l.length:=by simp [cfgS,std] at b1;omega
        subst hge
        clear b1 hi hj
        ((conv=>whnf);refine bm (fun m1=>?_) (fun m1=>?_))
        ·(conv=>whnf)
         refine⟨fun q e h nx=>∃ (i:Nat) (j:Int),j=i∧i≤m.length∧q=m.length - i∧(∀ t,t<i→edB l m t=true)∧e=e152b l.length m.length c2 j∧h=h157s l m c1 c2 n (useN m (List.replicate l.length false) i)∧nx=4,⟨m.length,?_⟩,?_⟩
         ·refine Into_id (e0:=e152b l.length m.length c2 0) (h0:=h157s l m c1 c2 n (List.replicate l.length false)) (n0:=4) ⟨0,0,rfl,Nat.zero_le _,rfl,fun t ht=>absurd ht (Nat.not_lt_zero t),rfl,rfl,rfl⟩ ?_ ?_ (by decide)
          ·unfold e152b;((repeat'(refine List.forall_mem_cons.2 ⟨⟨rfl,?_⟩,?_⟩;(first|exact scT_g rfl|exact⟨by decide,rfl⟩|exact⟨by decide,fun h=>(by cases h)⟩)));exact fun _ h=>(by cases h))
          ·unfold h157s h157 bxM mapH2
           have hrep:=rep_fB l.length
           ((repeat'(refine List.forall_mem_cons.2 ⟨⟨Nat.le_of_ble_eq_true rfl,_,rfl,?_⟩,?_⟩;(first|exact (ObjRen_j (flat_g elB _) hrep)|exact ObjRen_g (flat_g _ _)|(refine ObjRen_2 ?_;(repeat'(refine List.forall_mem_cons.2 ⟨⟨rfl,?_⟩,?_⟩;(first|exact scS_g rfl|exact⟨by decide,rfl⟩|exact⟨by decide,fun h=>(by cases h)⟩)));exact fun _ h=>(by cases h))|(refine⟨rfl,rfl,rfl,rfl,?_⟩;(repeat'(refine List.forall_mem_cons.2 ⟨?_,?_⟩;(first|exact scS_g rfl|exact⟨by decide,rfl⟩|exact⟨by decide,fun h=>(by cases h)⟩)));exact fun _ h=>(by cases h))|exact ObjRen_j rfl rfl)));exact fun _ h=>(by cases h))
         ·rintro q e h nx ⟨i,j,hj,hi,rfl,hed0,rfl,rfl,rfl⟩
          have rl:(useN m (List.replicate l.length false) i).length=l.length:=by rw [useN_len,List.length_replicate]
          have nxt:useN m (List.replicate l.length false) (i+1)=((useN m (List.replicate l.length false) i).set (atE m i).a.toNat true).set (atE m i).b.toNat true:=rfl
          generalize hs0:useN m (List.replicate l.length false) i=s at rl nxt
          have hsl:(flat elB.fl s).length=l.length:=by rw [flat_len,rl];exact Nat.mul_one _
          unfold e152b h157s h157 bxM mapH2
          ((conv=>whnf);refine bm (fun d1=>?_) (fun d1=>?_))
          ·have hlt:i<m.length:=by simp [cfgS,std] at d1;omega
           ((conv=>whnf);refine bm (fun d2=>?_) (fun d2=>?_))
           ·(conv=>whnf)
            refine boL (getE m (i:=i) hlt ?_) ?_
            ·show _+Int.toNat j*5=_;omega
            generalize hed:atE m i=ed at nxt
            ((conv=>whnf);refine bm (fun f1=>?_) (fun f1=>?_))
            ·have f1:0≤ed.a:=by simp [cfgS,std] at f1;omega
             ((conv=>whnf);refine bm (fun f2=>?_) (fun f2=>?_))
             ·have f2:ed.a<ed.b:=by simp [cfgS,std] at f2;omega
              ((conv=>whnf);refine bm (fun f3=>?_) (fun f3=>?_))
              ·have f3:ed.b<l.length:=by simp [cfgS,std] at f3;omega
               ((conv=>whnf);refine bm (fun f4=>?_) (fun f4=>?_))
               ·have f4 : -1≤ed.n:=by simp [cfgS,std] at f4;omega
                ((conv=>whnf);refine bm (fun f5=>?_) (fun f5=>?_))
                ·have f5:200≤ed.n:=by simp [cfgS,std] at f5;omega
                 (conv=>whnf)
                 rw [lst_ed hlt (edB_no hed (by omega))]
                ·have f5:ed.n<200:=by simp [cfgS,std] at f5;omega
                 ((conv=>whnf);refine bm (fun f6=>?_) (fun f6=>?_))
                 ·have f6:0<i:=by simp [cfgS,std] at f6;omega
                  ((conv=>whnf);refine bm (fun f7=>?_) (fun f7=>?_))
                  ·((conv=>whnf);refine bm (fun f8=>?_) (fun f8=>?_))
                   ·(conv=>whnf)
                    refine boV (ed_k m 0 (i:=i - 1) (by omega) rfl (by decide) ?_) ?_
                    ·show _+Int.toNat (j - 1)*5+0=_;omega
                    ((conv=>whnf);refine bm (fun f9=>?_) (fun f9=>?_))
                    ·((conv=>whnf);refine bm (fun f10=>?_) (fun f10=>?_))
                     ·(conv=>whnf)
                      refine boV (ed_k m 1 (i:=i - 1) (by omega) rfl (by decide) ?_) ?_
                      ·show _+Int.toNat (j - 1)*5+1=_;omega
                      generalize hd0:atE m (i - 1)=dd
                      (conv=>whnf)
                      refine⟨[cmpI dd.a ed.a,cmpI dd.b ed.b],⟨rfl,_,_,_,_,rfl,rfl⟩,?_⟩
                      ((conv=>whnf);refine bm (fun f11=>?_) (fun f11=>?_))
                      ·have f11:bfE dd ed=false:=by
                        rw [bfE_ord]
                        have:0≤orI (cmpI dd.a ed.a) (cmpI dd.b ed.b):=by simpa [cfgS,std] using f11
                        exact decide_eq_false (by omega)
                       (conv=>whnf)
                       rw [lst_ed hlt (edB_bf hed hd0 (by omega) f11)]
                      ·have f11:bfE dd ed=true:=by
                        rw [bfE_ord]
                        have:¬ 0≤orI (cmpI dd.a ed.a) (cmpI dd.b ed.b):=by simpa [cfgS,std] using f11
                        exact decide_eq_true (by omega)
                       have hyes:edB l m i=true:=edB_yes hed ⟨f1,f2,f3,f4,f5⟩ (by rw [hd0,f11,Bool.or_true])
                       ((conv=>whnf);refine bm (fun k1=>?_) (fun k1=>?_))
                       ·((conv=>whnf);refine bm (fun k2=>?_) (fun k2=>?_))
                        ·((conv=>whnf);refine bm (fun k3=>?_) (fun k3=>?_))
                         ·((conv=>whnf);refine bm (fun k4=>?_) (fun k4=>?_))
                          ·((conv=>whnf);refine bm (fun k5=>?_) (fun k5=>?_))
                           ·(conv=>whnf)
                            refine⟨m.length - (i+1),by omega,?_⟩
                            refine Into_id (e0:=e152b l.length m.length c2 (j+1)) (h0:=h157s l m c1 c2 n (useN m (List.replicate l.length false) (i+1))) (n0:=4) ⟨i+1,j+1,by omega,by omega,rfl,fun t ht=>?_,rfl,rfl,rfl⟩ ?_ ?_ (by decide)
                            ·by_cases hti:t=i
                             ·rw [hti];exact hyes
                             ·exact hed0 t (by omega)
                            ·unfold e152b;((repeat'(refine List.forall_mem_cons.2 ⟨⟨rfl,?_⟩,?_⟩;(first|exact scT_g rfl|exact⟨by decide,rfl⟩|exact⟨by decide,fun h=>(by cases h)⟩)));exact fun _ h=>(by cases h))
                            ·unfold h157s h157 bxM mapH2
                             have hput:=put2 (s:=s) (a:=ed.a.toNat) (b:=ed.b.toNat) (o1:=0+ed.a.toNat*1) (o2:=0+ed.b.toNat*1) (by omega) (by omega) (by omega) (by omega)
                             rw [nxt]
                             ((repeat'(refine List.forall_mem_cons.2 ⟨⟨Nat.le_of_ble_eq_true rfl,_,rfl,?_⟩,?_⟩;(first|exact (ObjRen_j (flat_g elB _) hput)|exact ObjRen_g (flat_g _ _)|(refine ObjRen_2 ?_;(repeat'(refine List.forall_mem_cons.2 ⟨⟨rfl,?_⟩,?_⟩;(first|exact scS_g rfl|exact⟨by decide,rfl⟩|exact⟨by decide,fun h=>(by cases h)⟩)));exact fun _ h=>(by cases h))|(refine⟨rfl,rfl,rfl,rfl,?_⟩;(repeat'(refine List.forall_mem_cons.2 ⟨?_,?_⟩;(first|exact scS_g rfl|exact⟨by decide,rfl⟩|exact⟨by decide,fun h=>(by cases h)⟩)));exact fun _ h=>(by cases h))|exact ObjRen_j rfl rfl)));exact fun _ h=>(by cases h))
                           ·exfalso;simp [cfgS,std,fitsK] at k5;omega
                          ·have hpl:(putN (flat elB.fl s) (0+ed.a.toNat*1) [.bool true]).length=l.length:=by rw [putN_length (by rw [hsl];show 0+ed.a.toNat*1+1≤l.length;omega)];exact hsl
                           have k4:(0+ed.b.toNat*1+1).ble (putN (flat elB.fl s) (0+ed.a.toNat*1) [.bool true]).length=false:=k4
                           rw [hpl] at k4
                           exact ble_no k4 (by omega)
                         ·exfalso;simp [cfgS,std] at k3;omega
                        ·rw [hsl] at k2
                         exact ble_no k2 (by show 0+ed.a.toNat*1+1≤l.length;omega)
                       ·exfalso;simp [cfgS,std] at k1;omega
                     ·exfalso;simp [cfgS,std] at f10;omega
                    ·exfalso;simp [cfgS,std,fitsK] at f9;omega
                   ·exfalso;simp [cfgS,std] at f8;omega
                  ·exfalso;simp [cfgS,std,fitsK] at f7;omega
                 ·have f6:i=0:=by simp [cfgS,std] at f6;omega
                  have hyes:edB l m i=true:=edB_yes hed ⟨f1,f2,f3,f4,f5⟩ (by simp [f6])
                  ((conv=>whnf);refine bm (fun k1=>?_) (fun k1=>?_))
                  ·((conv=>whnf);refine bm (fun k2=>?_) (fun k2=>?_))
                   ·((conv=>whnf);refine bm (fun k3=>?_) (fun k3=>?_))
                    ·((conv=>whnf);refine bm (fun k4=>?_) (fun k4=>?_))
                     ·((conv=>whnf);refine bm (fun k5=>?_) (fun k5=>?_))
                      ·(conv=>whnf)
                       refine⟨m.length - (i+1),by omega,?_⟩
                       refine Into_id (e0:=e152b l.length m.length c2 (j+1)) (h0:=h157s l m c1 c2 n (useN m (List.replicate l.length false) (i+1))) (n0:=4) ⟨i+1,j+1,by omega,by omega,rfl,fun t ht=>?_,rfl,rfl,rfl⟩ ?_ ?_ (by decide)
                       ·by_cases hti:t=i
                        ·rw [hti];exact hyes
                        ·exact hed0 t (by omega)
                       ·unfold e152b;((repeat'(refine List.forall_mem_cons.2 ⟨⟨rfl,?_⟩,?_⟩;(first|exact scT_g rfl|exact⟨by decide,rfl⟩|exact⟨by decide,fun h=>(by cases h)⟩)));exact fun _ h=>(by cases h))
                       ·unfold h157s h157 bxM mapH2
                        have hput:=put2 (s:=s) (a:=ed.a.toNat) (b:=ed.b.toNat) (o1:=0+ed.a.toNat*1) (o2:=0+ed.b.toNat*1) (by omega) (by omega) (by omega) (by omega)
                        rw [nxt]
                        ((repeat'(refine List.forall_mem_cons.2 ⟨⟨Nat.le_of_ble_eq_true rfl,_,rfl,?_⟩,?_⟩;(first|exact (ObjRen_j (flat_g elB _) hput)|exact ObjRen_g (flat_g _ _)|(refine ObjRen_2 ?_;(repeat'(refine List.forall_mem_cons.2 ⟨⟨rfl,?_⟩,?_⟩;(first|exact scS_g rfl|exact⟨by decide,rfl⟩|exact⟨by decide,fun h=>(by cases h)⟩)));exact fun _ h=>(by cases h))|(refine⟨rfl,rfl,rfl,rfl,?_⟩;(repeat'(refine List.forall_mem_cons.2 ⟨?_,?_⟩;(first|exact scS_g rfl|exact⟨by decide,rfl⟩|exact⟨by decide,fun h=>(by cases h)⟩)));exact fun _ h=>(by cases h))|exact ObjRen_j rfl rfl)));exact fun _ h=>(by cases h))
                      ·exfalso;simp [cfgS,std,fitsK] at k5;omega
                     ·have hpl:(putN (flat elB.fl s) (0+ed.a.toNat*1) [.bool true]).length=l.length:=by rw [putN_length (by rw [hsl];show 0+ed.a.toNat*1+1≤l.length;omega)];exact hsl
                      have k4:(0+ed.b.toNat*1+1).ble (putN (flat elB.fl s) (0+ed.a.toNat*1) [.bool true]).length=false:=k4
                      rw [hpl] at k4
                      exact ble_no k4 (by omega)
                    ·exfalso;simp [cfgS,std] at k3;omega
                   ·rw [hsl] at k2
                    exact ble_no k2 (by show 0+ed.a.toNat*1+1≤l.length;omega)
                  ·exfalso;simp [cfgS,std] at k1;omega
               ·have f4:¬ -1≤ed.n:=by simp [cfgS,std] at f4;omega
                (conv=>whnf)
                rw [lst_ed hlt (edB_no hed (by omega))]
              ·have f3:¬ ed.b<l.length:=by simp [cfgS,std] at f3;omega
               (conv=>whnf)
               rw [lst_ed hlt (edB_no hed (by omega))]
             ·have f2:¬ ed.a<ed.b:=by simp [cfgS,std] at f2;omega
              (conv=>whnf)
              rw [lst_ed hlt (edB_no hed (by omega))]
            ·have f1:¬ 0≤ed.a:=by simp [cfgS,std] at f1;omega
             (conv=>whnf)
             rw [lst_ed hlt (edB_no hed (by omega))]
           ·exfalso;simp [cfgS,std] at d2;omega
          ·have hge:i=m.length:=by simp [cfgS,std] at d1;omega
           subst hge
           (conv=>whnf)
           refine⟨s,⟨rl.symm,_,_,_,_,rfl,by rw [List.drop_zero,List.take_length]⟩,?_⟩
           ((conv=>whnf);refine bm (fun g1=>?_) (fun g1=>?_))
           ·(conv=>whnf)
            rw [lstB,hsz,allN_true hpt,allN_true hed0,hs0]
            show Value.bool (!(!(s.all id)))=_
            rw [Bool.not_not]
            rfl
           ·exfalso
            have g1:decide (s.length≤1000000)=false:=g1
            simp at g1
            omega
        ·exfalso;simp [cfgS,std] at m1;omega
    ·have a4:n<1:=by simp [cfgS,std] at a4;omega
     (conv=>whnf)
     rw [hszf (by omega)]
   ·have a3:400<m.length:=by simp [cfgS,std] at a3;omega
    (conv=>whnf)
    rw [hszf (by omega)]
  ·have a2:m.length<3:=by simp [cfgS,std] at a2;omega
   (conv=>whnf)
   rw [hszf (by omega)]
 ·have a1:400<l.length:=by simp [cfgS,std] at a1;omega
  (conv=>whnf)
  rw [hszf (by omega)]
end Go.Aw
end
