/-
  Parts of a proof. No condition.
-/
import Derived.Test.YtmkcjbpekejgdaaGreatQAy
import Derived.Test.YtmkcjbpekejgdaaGreatQAz
set_option linter.unusedSimpArgs false
set_option linter.unusedVariables false
noncomputable section
namespace Go.Aw
set_option maxRecDepth 100000
def mapE (l:List (Int × Int)):List (Value × Value):=l.map fun p=>(ptv p,.bool true)
theorem veq_pt (p q:Int × Int):veq cfgS.A cfgS.T 100 32 (ptv p) (ptv q)=some (eqP p q):=rfl
theorem vfind_no {p:Int × Int}{l:List (Int × Int)}(h:p∉l):vfind cfgS.A cfgS.T 32 (ptv p) (mapE l)=some none:=by
 induction l with
 |nil=>rfl
 |cons q r ih =>
  simp only [List.mem_cons,not_or] at h
  show (match veq cfgS.A cfgS.T 100 32 (ptv p) (ptv q) with|none=>none|some true=>_|some false=>_)=_
  rw [veq_pt,(eqP_f p q).2 h.1]
  exact ih h.2
theorem vfind_yes {p:Int × Int}{l:List (Int × Int)}(h:p∈l):vfind cfgS.A cfgS.T 32 (ptv p) (mapE l)=some (some (.bool true)):=by
 induction l with
 |nil=>cases h
 |cons q r ih =>
  show (match veq cfgS.A cfgS.T 100 32 (ptv p) (ptv q) with|none=>none|some true=>_|some false=>_)=_
  rw [veq_pt]
  by_cases hq:p=q
  ·rw [(eqP_iff p q).2 hq]
  ·rw [(eqP_f p q).2 hq]
   simp only [List.mem_cons] at h
   exact ih (h.resolve_left hq)
theorem ObjRen_map {ρ:Nat→Nat}{n:Nat}{es es':List (Value × Value)}{l:List (Int × Int)}(e:es=mapE l)(e':es'=mapE l):ObjRen ρ n (.map es) (.map es'):=by
 subst e e'
 refine⟨?_,?_⟩
 ·unfold mapE
  rw [List.map_map]
  apply List.map_congr_left
  intro p _
  rfl
 ·intro e he
  unfold mapE at he
  obtain⟨p,_,rfl⟩:=List.mem_map.1 he
  exact scS_g rfl
theorem mapE_nil:mapE []=[]:=rfl
theorem mapE_next {l:List (Int × Int)}{i:Nat}(h:i<l.length):mapE (l.take i)++[(Value.agg #[iv (at2 l i).1,iv (at2 l i).2],.bool true)]=mapE (l.take (i+1)):=by
 rw [List.take_add_one,List.getElem?_eq_getElem h,at2_eq h]
 unfold mapE
 rw [List.map_append]
 rfl
def eM32 (l:List (Int × Int))(c:Nat)(j:Int):List (Nat × Value):=[(0,.slice (some ⟨0,0,none⟩) l.length c),(3,.map (some 1)),(23,.slice (some ⟨0,0,none⟩) l.length c),(24,iv l.length),(25,iv j)]
def hM (l:List (Int × Int))(i:Nat):Heap:=[(0,.cells false true 2 (flat elP.fl l)),(1,.map (mapE (l.take i)))]
theorem polyE_cross {l:List (Int × Int)}(h:goodP l)(hs:¬ simpleP l):polyE l=10:=by
 rw [polyE_good h,simpleB_f hs]
 rfl
def eO32 (l:List (Int × Int))(c:Nat)(j:Int):List (Nat × Value):=[(0,.slice (some ⟨0,0,none⟩) l.length c),(36,iv l.length),(37,iv j)]
def eI32 (l:List (Int × Int))(c:Nat)(j m:Int):List (Nat × Value):=[(0,.slice (some ⟨0,0,none⟩) l.length c),(36,iv l.length),(37,iv j),(6,iv j),(7,iv m)]
def X32:Nat × XF:=(16,lX elP SPoly)
attribute [local irreducible] meetS edgeS mapE in
theorem x32:XOK Go.Proofs.Tryz.prog X32.1 X32.2:=lX_ok elP (body_calls (xl:=[X54,X81,X68]) (.cons x54 (.cons x81 (.cons x68 .nil)))) fun l r v hs=>by
 obtain⟨rfl,hlen,rfl⟩:=SPoly_inv hs
 refine⟨rfl,rfl,fun c=>?_⟩
 ((conv=>whnf);refine bm (fun h1=>?_) (fun h1=>?_))
 ·(conv=>whnf)
  simp only [cA_lt,cA_num,decide_eq_true_eq] at h1
  rw [polyE_limit (by omega)]
  rfl
 ·have h200:¬ 200<l.length:=by simp only [cA_lt,cA_num,decide_eq_false_iff_not] at h1;omega
  ((conv=>whnf);refine bm (fun h2=>?_) (fun h2=>?_))
  ·(conv=>whnf)
   refine⟨l,LsAt_own elP rfl,?_⟩
   ((conv=>whnf);refine bm (fun h3=>?_) (fun h3=>?_))
   ·((conv=>whnf);refine bm (fun h4=>?_) (fun h4=>?_))
    ·(conv=>whnf)
     rw [polyE_arg h200 (by
      unfold argP
      simp only [cA_notB,Bool.not_eq_true'] at h4
      exact .inr h4)]
     rfl
    ·have hna:¬ argP l:=by
      unfold argP
      simp only [cA_eqB,cA_notB,cA_lt,cA_num,beq_iff_eq,decide_eq_false_iff_not,Bool.not_eq_false'] at h2 h4
      rw [h4]
      rintro (h|h)
      ·omega
      ·cases h
     (conv=>whnf)
     refine⟨fun n e h nx=>∃ (i:Nat) (j:Int),j=i∧i≤l.length∧n=l.length - i∧(l.take i).Nodup∧e=eM32 l c j∧h=hM l i∧nx=2,⟨l.length,?_⟩,?_⟩
     ·refine Into_id (e0:=eM32 l c 0) (h0:=hM l 0) (n0:=2) ⟨0,0,rfl,Nat.zero_le _,rfl,by simp,rfl,rfl,rfl⟩ ?_ ?_ (by decide)
      ·unfold eM32
       ((repeat' refine iE rfl rfl ?_);exact iN)
      ·unfold hM
       ((repeat'(first|refine iW rfl rfl (ObjRen_map (l:=[]) rfl mapE_nil.symm) ?_|refine iF rfl rfl ?_|refine iJ rfl rfl rfl rfl ?_));exact iN)
     ·rintro n e h nx ⟨i,j,hj,hi,rfl,hb,rfl,rfl,rfl⟩
      unfold eM32 hM
      ((conv=>whnf);refine bm (fun g1=>?_) (fun g1=>?_))
      ·have hlt:i<l.length:=by simp [cfgS,std] at g1;omega
       ((conv=>whnf);refine bm (fun g2=>?_) (fun g2=>?_))
       ·(conv=>whnf)
        refine boL (getP l hlt ?_) ?_
        ·simp [cfgS,std];omega
        (conv=>whnf)
        by_cases hmem:at2 l i∈l.take i
        ·have hv:vfind cfgS.A cfgS.T 32 (Value.agg #[iv (at2 l i).fst,iv (at2 l i).snd]) (mapE (List.take i l))=some (some (.bool true)):=vfind_yes hmem
         rw [hv]
         (conv=>whnf)
         rw [polyE_twice h200 hna (by
          obtain⟨k,hk,he⟩:=List.mem_iff_getElem.1 hmem
          simp only [List.length_take] at hk
          rw [List.getElem_take,← at2_eq (by omega)] at he
          exact not_nodup hlt (k:=k) (by omega) he.symm)]
         rfl
        ·have hv:vfind cfgS.A cfgS.T 32 (Value.agg #[iv (at2 l i).fst,iv (at2 l i).snd]) (mapE (List.take i l))=some none:=vfind_no hmem
         rw [hv]
         (conv=>whnf)
         rw [hv]
         ((conv=>whnf);refine bm (fun g=>?_) (fun g=>?_))
         ·(conv=>whnf)
          refine⟨l.length - (i+1),by omega,?_⟩
          refine Into_id (e0:=eM32 l c (j+1)) (h0:=hM l (i+1)) (n0:=2) ⟨i+1,j+1,by omega,hlt,rfl,?_,rfl,rfl,rfl⟩ ?_ ?_ (by decide)
          ·refine take_nodup hlt hb fun k hk he=>hmem ?_
           rw [he,at2_eq (by omega)]
           exact List.mem_iff_getElem.2 ⟨k,by rw [List.length_take];omega,by rw [List.getElem_take]⟩
          ·unfold eM32
           ((repeat' refine iE rfl rfl ?_);exact iN)
          ·unfold hM
           ((repeat'(first|refine iW rfl rfl (ObjRen_map (l:=l.take (i+1)) rfl (mapE_next hlt)) ?_|refine iF rfl rfl ?_|refine iJ rfl rfl rfl rfl ?_));exact iN)
         ·exfalso;simp only [cA_add,cA_fits,fitsK,Bool.eq_false_iff,ne_eq,Bool.and_eq_true,decide_eq_true_eq] at g;omega
       ·exfalso;simp only [cA_lt,cA_le,cA_andB,cA_num,Bool.eq_false_iff,ne_eq,Bool.and_eq_true,decide_eq_true_eq] at g2;omega
      ·have hge:i=l.length:=by simp [cfgS,std] at g1;omega
       subst hge
       rw [List.take_length] at hb
       have hgood:=good_of2 h200 hna hb
       (conv=>whnf)
       have h3':=hgood.1
       have h200':=hgood.2.1
       clear hi hb g1 hj h1 h2 h3 h4
       refine⟨fun n e h nx=>∃ (i:Nat) (j:Int),j=i∧i≤l.length∧n=l.length - i∧(∀ i' k,i'<i→i'<k→k<l.length→okE l i' k)∧e=eO32 l c j∧h=hP l∧nx=1,⟨l.length,?_⟩,?_⟩
       ·refine Into_id (e0:=eO32 l c 0) (h0:=hP l) (n0:=1) ⟨0,0,rfl,Nat.zero_le _,rfl,fun _ _ h=>absurd h (Nat.not_lt_zero _),rfl,rfl,rfl⟩ ?_ ?_ (Nat.le_refl _)
        ·unfold eO32
         ((repeat' refine iE rfl rfl ?_);exact iN)
        ·unfold hP
         ((repeat'(first|refine iF rfl rfl ?_|refine iJ rfl rfl rfl rfl ?_));exact iN)
       ·rintro n e h nx ⟨i,j,hj,hi,rfl,hb,rfl,rfl,rfl⟩
        unfold eO32 hP
        ((conv=>whnf);refine bm (fun g1=>?_) (fun g1=>?_))
        ·have hlt:i<l.length:=by simp [cfgS,std] at g1;omega
         ((conv=>whnf);refine bm (fun g2=>?_) (fun g2=>?_))
         ·(conv=>whnf)
          refine⟨fun n e h nx=>∃ (k:Nat) (m:Int),m=k∧i<k∧k≤l.length∧n=l.length - k∧(∀ k',i<k'→k'<k→okE l i k')∧e=eI32 l c j m∧h=hP l∧nx=1,⟨l.length - (i+1),?_⟩,?_⟩
          ·refine Into_id (e0:=eI32 l c j (j+1)) (h0:=hP l) (n0:=1) ⟨i+1,j+1,by omega,Nat.lt_succ_self _,hlt,rfl,fun k' h1 h2=>by omega,rfl,rfl,rfl⟩ ?_ ?_ (Nat.le_refl _)
           ·unfold eI32
            ((repeat' refine iE rfl rfl ?_);exact iN)
           ·unfold hP
            ((repeat'(first|refine iF rfl rfl ?_|refine iJ rfl rfl rfl rfl ?_));exact iN)
          ·rintro n e h nx ⟨k,m,hm,hik,hk,rfl,hbk,rfl,rfl,rfl⟩
           unfold eI32 hP
           ((conv=>whnf);refine bm (fun f1=>?_) (fun f1=>?_))
           ·have hltk:k<l.length:=by simp [cfgS,std] at f1;omega
            have ra:=edge_right hgood hlt
            have rb:=edge_right hgood hltk
            have hji:j.toNat=i:=by omega
            have hmk:m.toNat=k:=by omega
            repeat' first
             |(((conv=>whnf);refine bm (fun g=>?_) (fun g=>?_)))
             |((conv=>whnf)
               refine Exists.intro l (And.intro (LsAt_own elP rfl) ?_))
            all_goals (conv=>whnf)
            all_goals (simp only [cA_eq,cA_eqB,cA_notB,cA_add,cA_sub,cA_fits,cA_num,fitsK,Bool.not_eq_true',Bool.not_eq_false',beq_iff_eq,beq_eq_false_iff_ne,ne_eq,decide_eq_true_eq,decide_eq_false_iff_not,pEta,sEta,hji,hmk] at *)
            all_goals first
             |(refine Eq.trans ?_ (congrArg iv (polyE_cross hgood fun hh=>?_)).symm
               ·rfl
               have hh:=hh i k hik hltk
               unfold okE wantS at hh
               split at hh <;> omega)
             |(refine⟨l.length - (k+1),by omega,?_⟩
               refine Into_id (e0:=eI32 l c j (m+1)) (h0:=hP l) (n0:=1) ⟨k+1,m+1,by omega,by omega,hltk,rfl,fun k' h1 h2=>?_,rfl,rfl,rfl⟩ ?_ ?_ (Nat.le_refl _)
               ·by_cases hkk:k'=k
                ·subst hkk
                 unfold okE wantS
                 split <;> omega
                ·exact hbk k' h1 (by omega)
               ·unfold eI32
                ((repeat' refine iE rfl rfl ?_);exact iN)
               ·unfold hP
                ((repeat'(first|refine iF rfl rfl ?_|refine iJ rfl rfl rfl rfl ?_));exact iN))
             |(exfalso;simp only [rightG_wide ra,rightG_wide rb,Bool.and_eq_false_iff,decide_eq_false_iff_not,Bool.true_eq_false,or_self] at *;omega)
             |(exfalso;simp [rightG_wide ra,rightG_wide rb] at *;done)
             |trace_state
           ·have hge:k=l.length:=by simp [cfgS,std] at f1;omega
            ((conv=>whnf);refine bm (fun g=>?_) (fun g=>?_))
            ·(conv=>whnf)
             refine⟨l.length - (i+1),by omega,?_⟩
             refine Into_id (e0:=eO32 l c (j+1)) (h0:=hP l) (n0:=1) ⟨i+1,j+1,by omega,hlt,rfl,fun i' k' h1 h2 h3=>?_,rfl,rfl,rfl⟩ ?_ ?_ (Nat.le_refl _)
             ·by_cases hii:i'=i
              ·subst hii
               exact hbk k' h2 (by omega)
              ·exact hb i' k' (by omega) h2 h3
             ·unfold eO32
              ((repeat' refine iE rfl rfl ?_);exact iN)
             ·unfold hP
              ((repeat'(first|refine iF rfl rfl ?_|refine iJ rfl rfl rfl rfl ?_));exact iN)
            ·exfalso;simp only [cA_add,cA_fits,fitsK,Bool.eq_false_iff,ne_eq,Bool.and_eq_true,decide_eq_true_eq] at g;omega
         ·exfalso;simp only [cA_add,cA_fits,fitsK,Bool.eq_false_iff,ne_eq,Bool.and_eq_true,decide_eq_true_eq] at g2;omega
        ·have hge:i=l.length:=by simp [cfgS,std] at g1;omega
         subst hge
         (conv=>whnf)
         rw [polyE_good hgood,simpleB_iff.2 fun i' k h1 h2=>hb i' k (by omega) h1 h2]
         rfl
   ·exact absurd hlen (by simpa using h3)
  ·(conv=>whnf)
   rw [polyE_arg h200 (by
    unfold argP
    simp only [cA_eqB,cA_lt,cA_num,beq_eq_false_iff_ne,ne_eq,Bool.not_eq_false,decide_eq_true_eq] at h2
    exact .inl (by omega))]
   rfl
end Go.Aw
end

noncomputable section
namespace Go.Aw
set_option maxRecDepth 100000
def hW (l:List (Int × Int))(p:Int × Int):Heap:=[(0,.cells false true 2 (flat elP.fl l)),(1,.cells true false 1 [iv p.1,iv p.2])]
end Go.Aw
end

noncomputable section
namespace Go.Aw
set_option maxRecDepth 100000
def idxP (p:Int × Int):List (Int × Int)→Nat→Int
 |[],_=>-1
 |q::r,i=>if eqP p q=true then i else idxP p r (i+1)
def S124 (l:List (Int × Int)):List Value→Option (Bool × Value)
 |[v]=>(match decP v with|some p=>some (decide (l.length≤1000000000),iv (idxP p l 0))|none=>none)
 |_=>none
theorem S124_inv {l:List (Int × Int)}{r:List Value}{v:Value}(hs:S124 l r=some (true,v)):∃ p,r=[ptv p]∧l.length≤1000000000∧v=iv (idxP p l 0):=by
 unfold S124 at hs
 split at hs
 ·split at hs
  ·rename_i p e
   injection hs with hs;injection hs with h1 h2
   exact⟨p,by rw [decP_eq e],by simpa using h1,h2.symm⟩
  ·cases hs
 ·cases hs
theorem drop_at2 {l:List (Int × Int)}{i:Nat}(h:i<l.length):l.drop i=at2 l i::l.drop (i+1):=by
 rw [at2_eq h]
 exact List.drop_eq_getElem_cons h
def e124 (l:List (Int × Int))(c:Nat)(j:Int):List (Nat × Value):=[(0,.slice (some ⟨0,0,none⟩) l.length c),(3,.pointer (some ⟨1,0,none⟩)),(7,iv l.length),(8,iv j)]
def X124:Nat × XF:=(130,lX elP S124)
attribute [local irreducible] idxP in
theorem x124:XOK Go.Proofs.Tryz.prog X124.1 X124.2:=lX_ok elP (body_calls (xl:=[]) .nil) fun l r v hs=>by
 obtain⟨⟨px,py⟩,rfl,hlen,rfl⟩:=S124_inv hs
 refine⟨rfl,rfl,fun c=>?_⟩
 clear hs
 (conv=>whnf)
 refine⟨fun n e h nx=>∃ (i:Nat) (j:Int),j=i∧i≤l.length∧n=l.length - i∧idxP (px,py) l 0=idxP (px,py) (l.drop i) i∧e=e124 l c j∧h=hW l (px,py)∧nx=2,⟨l.length,?_⟩,?_⟩
 ·refine Into_id (e0:=e124 l c 0) (h0:=hW l (px,py)) (n0:=2) ⟨0,0,rfl,Nat.zero_le _,rfl,rfl,rfl,rfl,rfl⟩ ?_ ?_ (by decide)
  ·unfold e124
   ((repeat' refine iE rfl rfl ?_);exact iN)
  ·unfold hW
   ((repeat'(first|refine iF rfl rfl ?_|refine iJ rfl rfl rfl rfl ?_));exact iN)
 ·rintro n e h nx ⟨i,j,hj,hi,rfl,hb,rfl,rfl,rfl⟩
  unfold e124 hW
  ((conv=>whnf);refine bm (fun g1=>?_) (fun g1=>?_))
  ·have hlt:i<l.length:=by simp [cfgS,std] at g1;omega
   rw [drop_at2 hlt] at hb
   ((conv=>whnf);refine bm (fun g2=>?_) (fun g2=>?_))
   ·(conv=>whnf)
    refine boL (getP l hlt ?_) ?_
    ·simp [cfgS,std];omega
    ((conv=>whnf);refine bm (fun g3=>?_) (fun g3=>?_))
    ·(conv=>whnf)
     have he:eqP (px,py) (at2 l i)=true:=g3
     rw [hb,hj]
     unfold idxP
     rw [if_pos he]
    ·((conv=>whnf);refine bm (fun g4=>?_) (fun g4=>?_))
     ·(conv=>whnf)
      have he:eqP (px,py) (at2 l i)=false:=g3
      refine⟨l.length - (i+1),by omega,?_⟩
      refine Into_id (e0:=e124 l c (j+1)) (h0:=hW l (px,py)) (n0:=2) ⟨i+1,j+1,by omega,hlt,rfl,?_,rfl,rfl,rfl⟩ ?_ ?_ (by decide)
      ·rw [hb]
       conv=>lhs;unfold idxP
       rw [if_neg (by rw [he];decide)]
      ·unfold e124
       ((repeat' refine iE rfl rfl ?_);exact iN)
      ·unfold hW
       ((repeat'(first|refine iF rfl rfl ?_|refine iJ rfl rfl rfl rfl ?_));exact iN)
     ·exfalso;simp only [cA_add,cA_fits,fitsK,Bool.eq_false_iff,ne_eq,Bool.and_eq_true,decide_eq_true_eq] at g4;omega
   ·exfalso;simp only [cA_lt,cA_le,cA_andB,cA_num,Bool.eq_false_iff,ne_eq,Bool.and_eq_true,decide_eq_true_eq] at g2;omega
  ·have hge:i=l.length:=by simp [cfgS,std] at g1;omega
   subst hge
   (conv=>whnf)
   rw [hb,List.drop_length]
   unfold idxP
   rfl
end Go.Aw
end

noncomputable section
namespace Go.Aw
set_option maxRecDepth 100000
def samePB (l1 l2:List (Int × Int)):Bool:=decide (l1=l2)
def SSame (l1 l2:List (Int × Int)):Option (Bool × Value):=some (decide (l1.length≤1000000000),.bool (samePB l1 l2))
def e48 (l1 l2:List (Int × Int))(c1 c2:Nat)(j:Int):List (Nat × Value):=[(0,.slice (some ⟨0,0,none⟩) l1.length c1),(1,.slice (some ⟨1,0,none⟩) l2.length c2),(5,iv j)]
def h48 (l1 l2:List (Int × Int)):Heap:=[(0,.cells false true 2 (flat elP.fl l1)),(1,.cells false true 2 (flat elP.fl l2))]
theorem same_of {l1 l2:List (Int × Int)}(hl:l1.length=l2.length)(h:∀ k,k<l1.length→at2 l1 k=at2 l2 k):l1=l2:=by
 refine List.ext_getElem hl fun k h1 h2=>?_
 have:=h k h1
 rw [at2_eq h1,at2_eq h2] at this
 exact this
def X48:Nat × XF:=(24,l2X elP SSame)
theorem x48:XOK Go.Proofs.Tryz.prog X48.1 X48.2:=l2X_ok elP (f:=24) (s:=SSame) (body_calls (xl:=[]) .nil) fun l1 l2 v hs=>by
 have hs':l1.length≤1000000000∧v=.bool (samePB l1 l2):=by
  unfold SSame at hs
  injection hs with hs;injection hs with h1 h2
  exact⟨by simpa using h1,h2.symm⟩
 obtain⟨hlen,rfl⟩:=hs'
 refine⟨rfl,fun c1 c2=>?_⟩
 ((conv=>whnf);refine bm (fun h1=>?_) (fun h1=>?_))
 ·(conv=>whnf)
  have hne:l1≠l2:=by
   intro e
   simp only [cA_eq,cA_notB,cA_num,e,decide_true] at h1
   cases h1
  show Value.bool false=.bool (decide (l1=l2))
  rw [decide_eq_false hne]
 ·have hll:l1.length=l2.length:=by
   simp only [cA_eq,cA_notB,cA_num,Bool.not_eq_false',decide_eq_true_eq] at h1
   omega
  (conv=>whnf)
  refine⟨fun n e h nx=>∃ (i:Nat) (j:Int),j=i∧i≤l1.length∧n=l1.length - i∧(∀ k,k<i→at2 l1 k=at2 l2 k)∧e=e48 l1 l2 c1 c2 j∧h=h48 l1 l2∧nx=2,⟨l1.length,?_⟩,?_⟩
  ·refine Into_id (e0:=e48 l1 l2 c1 c2 0) (h0:=h48 l1 l2) (n0:=2) ⟨0,0,rfl,Nat.zero_le _,rfl,fun k h=>absurd h (Nat.not_lt_zero k),rfl,rfl,rfl⟩ ?_ ?_ (by decide)
   ·unfold e48
    ((repeat' refine iE rfl rfl ?_);exact iN)
   ·unfold h48
    ((repeat'(first|refine iF rfl rfl ?_|refine iJ rfl rfl rfl rfl ?_));exact iN)
  ·rintro n e h nx ⟨i,j,hj,hi,rfl,hb,rfl,rfl,rfl⟩
   unfold e48 h48
   ((conv=>whnf);refine bm (fun g1=>?_) (fun g1=>?_))
   ·have hlt:i<l1.length:=by simp [cfgS,std] at g1;omega
    have hlt2:i<l2.length:=by omega
    ((conv=>whnf);refine bm (fun g2=>?_) (fun g2=>?_))
    ·(conv=>whnf)
     refine boL (getP l1 hlt ?_) ?_
     ·simp [cfgS,std];omega
     ((conv=>whnf);refine bm (fun g3=>?_) (fun g3=>?_))
     ·(conv=>whnf)
      refine boL (getP l2 hlt2 ?_) ?_
      ·simp [cfgS,std];omega
      ((conv=>whnf);refine bm (fun g4=>?_) (fun g4=>?_))
      ·(conv=>whnf)
       have hne:l1≠l2:=by
        intro e
        have e1:(at2 l1 i).1=(at2 l2 i).1:=by rw [e]
        have e2:(at2 l1 i).2=(at2 l2 i).2:=by rw [e]
        simp [cA_eq,cA_notB,cA_andB,e1,e2] at g4
       show Value.bool false=.bool (decide (l1=l2))
       rw [decide_eq_false hne]
      ·((conv=>whnf);refine bm (fun g5=>?_) (fun g5=>?_))
       ·(conv=>whnf)
        refine⟨l1.length - (i+1),by omega,?_⟩
        refine Into_id (e0:=e48 l1 l2 c1 c2 (j+1)) (h0:=h48 l1 l2) (n0:=2) ⟨i+1,j+1,by omega,hlt,rfl,fun k hk=>?_,rfl,rfl,rfl⟩ ?_ ?_ (by decide)
        ·by_cases hki:k=i
         ·subst hki
          simp only [cA_eq,cA_notB,cA_andB,Bool.not_eq_false',Bool.and_eq_true,decide_eq_true_eq] at g4
          exact Prod.ext g4.1 g4.2.1
         ·exact hb k (by omega)
        ·unfold e48
         ((repeat' refine iE rfl rfl ?_);exact iN)
        ·unfold h48
         ((repeat'(first|refine iF rfl rfl ?_|refine iJ rfl rfl rfl rfl ?_));exact iN)
       ·exfalso;simp only [cA_add,cA_fits,fitsK,Bool.eq_false_iff,ne_eq,Bool.and_eq_true,decide_eq_true_eq] at g5;omega
     ·exfalso;simp only [cA_lt,cA_le,cA_andB,cA_num,Bool.eq_false_iff,ne_eq,Bool.and_eq_true,decide_eq_true_eq] at g3;omega
    ·exfalso;simp only [cA_lt,cA_le,cA_andB,cA_num,Bool.eq_false_iff,ne_eq,Bool.and_eq_true,decide_eq_true_eq] at g2;omega
   ·have hge:i=l1.length:=by simp [cfgS,std] at g1;omega
    subst hge
    (conv=>whnf)
    show Value.bool true=.bool (decide (l1=l2))
    rw [decide_eq_true (same_of hll hb)]
end Go.Aw
end

noncomputable section
namespace Go.Aw
open Go.RowKit
section
variable {α:Type}(E:El α)
def wX (s:List α→Option (Bool × List α)):XF:=fun args h nx K=>match args with
 |[.slice (some ⟨k,0,none⟩) n c]=>∃ l,n=l.length∧look h k=some (.cells true false E.sz (flat E.fl l))∧(match s l with|some p=>must p.1 (K (.tuple #[]) [(k,.cells true false E.sz (flat E.fl p.2))] nx)|none=>False)
 |_=>False
theorem ORel_g {ι ι':Nat→Loc}{B:Nat}{w:World}{sz:Nat}{cs:List Value}{loc:Loc}(hg:allG cs=true)(h:ORel ι B w (.cells true false sz cs) loc):ORel ι' B w (.cells true false sz cs) loc:=by
 cases loc with
 |nil p=>exact h
 |lay b o e =>
  obtain⟨x1,x2,arr,t,x3,x4,x5⟩:=h
  refine⟨x1,x2,arr,t,x3,x4,fun i v hv=>?_⟩
  rw [x5 i v hv,trS_g (allG_mem hg (List.mem_of_getElem? hv)),trS_g (allG_mem hg (List.mem_of_getElem? hv))]
theorem RelH_one {ι:Nat→Loc}{B n k:Nat}{w:World}{sz:Nat}{cs:List Value}(hg:allG cs=true)(ho:ORel ι B w (.cells true false sz cs) (ι k))(hk:k<n)(hB:B≤w.heap.size):RelH ι B [(k,.cells true false sz cs)] n w:=by
 have key:∀ j o,look [(k,AObj.cells true false sz cs)] j=some o→j=k∧o=.cells true false sz cs:=by
  intro j o hj
  rw [look_cons] at hj
  split at hj
  ·rename_i hb
   injection hj with hj
   exact⟨(beq_true hb).symm,hj.symm⟩
  ·exact noLook hj
 refine⟨fun j o hj=>?_,fun j j' o o' hj hj' hne=>?_,fun j o hj=>?_,hB,fun j o hj=>?_⟩
 ·obtain⟨rfl,rfl⟩:=key j o hj
  exact ho
 ·exact absurd ((key j o hj).1.trans (key j' o' hj').1.symm) hne
 ·rw [(key j o hj).1];exact hk
 ·obtain⟨rfl,rfl⟩:=key j o hj
  exact fun v hv=>scS_g (allG_mem hg hv)
theorem wX_ok {P:Program}{C:VC}{f:Nat}{s:List α→Option (Bool × List α)}(hC:CallsOK P C)
  (hs:∀ l l',s l=some (true,l')→∀ c,C f [.slice (some ⟨0,0,none⟩) l.length c] [(0,.cells true false E.sz (flat E.fl l))] 1 (fun v h _=>v=.tuple #[]∧look h 0=some (.cells true false E.sz (flat E.fl l')))):XOK P f (wX E s):=by
 refine⟨fun args h nx K hx ι B w H hsc=>?_,fun args h nx K hx=>?_⟩
 ·unfold wX at hx
  split at hx
  case h_2=>exact hx.elim
  rename_i k n c
  obtain⟨l,rfl,hk,hx⟩:=hx
  split at hx
  case h_2=>exact hx.elim
  rename_i p e1
  obtain⟨b,l'⟩:=p
  obtain⟨rfl,hx⟩:=must_iff.1 hx
  have hsl:=hsc _ (.head _)
  have ho:=H.obj k _ hk
  have hlow:=H.low k _ hk
  have hrun:=hC f _ _ 1 _ (hs l l' e1 c) (fun _=>ι k) B w (RelH_one (flat_g E l) (ORel_g (flat_g E l) ho) (by decide) H.size) (fun v hv=>by
   cases hv with
   |head=>exact⟨show (0:Nat)<1 by decide,hsl.2⟩
   |tail _ hm=>cases hm)
  refine⟨hrun.1,?_⟩
  have he:([.slice (some ⟨k,0,none⟩) l.length c]:List Value).map (tr ι)=([.slice (some ⟨0,0,none⟩) l.length c]:List Value).map (tr (fun _=>ι k)):=rfl
  rw [he]
  refine CallsIn.mono hrun.2 fun e w' hr=>?_
  cases e with
  |returned u =>
   obtain⟨v,h',nx',ι',⟨rfl,q1⟩,q2,q3,q4,q5,q6,rfl⟩:=hr
   have ho':=q3.obj 0 _ q1
   rw [q5 0 (by decide)] at ho'
   refine⟨.tuple #[],_,nx,ι,hx,(fun v hv=>(by cases hv)),RelH_one (flat_g E l') (ORel_g (flat_g E l') ho') hlow q3.size,q4,fun _ _=>rfl,Nat.le_refl _,by simp [tr]⟩
  |_=>exact hr.elim
 ·unfold wX at hx
  split at hx
  case h_2=>exact hx.elim
  rename_i k n c
  obtain⟨l,hn,hk,hx⟩:=hx
  split at hx
  case h_2=>exact hx.elim
  rename_i p e1
  obtain⟨hb,hx⟩:=must_iff.1 hx
  exact⟨_,_,_,hx,fun K' hk'=>⟨l,hn,hk,by rw [e1];exact must_of hb hk'⟩⟩
end
end Go.Aw
end

noncomputable section
namespace Go.Aw
set_option maxRecDepth 100000
def revA (l:List (Int × Int))(i k:Nat):Int × Int:=if k<i∨l.length - i≤k then at2 l (l.length - 1 - k) else at2 l k
def revI (l:List (Int × Int))(i:Nat):List (Int × Int):=(List.range l.length).map (revA l i)
def SRev (l:List (Int × Int)):Option (Bool × List (Int × Int)):=some (decide (l.length≤1000000000),l.reverse)
def e109 (n c:Nat)(i j:Int):List (Nat × Value):=[(0,.slice (some ⟨0,0,none⟩) n c),(2,iv i),(3,iv j)]
def h109 (o:List (Int × Int)):Heap:=[(0,.cells true false 2 (flat elP.fl o))]
def X109:Nat × XF:=(81,wX elP SRev)
theorem revI_len (l:List (Int × Int))(i:Nat):(revI l i).length=l.length:=by unfold revI;rw [List.length_map,List.length_range]
theorem revI_at (l:List (Int × Int))(i:Nat){k:Nat}(hk:k<l.length):at2 (revI l i) k=revA l i k:=by
 rw [at2_eq (by rw [revI_len];exact hk)]
 unfold revI
 rw [List.getElem_map,List.getElem_range]
theorem ext_at {l m:List (Int × Int)}(hl:l.length=m.length)(h:∀ k,k<l.length→at2 l k=at2 m k):l=m:=same_of hl h
theorem revI_zero (l:List (Int × Int)):revI l 0=l:=by
 refine ext_at (revI_len l 0) fun k hk=>?_
 rw [revI_len] at hk
 rw [revI_at l 0 hk,revA,if_neg (by omega)]
theorem at2_rev (l:List (Int × Int)){k:Nat}(hk:k<l.length):at2 l.reverse k=at2 l (l.length - 1 - k):=by
 rw [at2_eq (by rw [List.length_reverse];exact hk),at2_eq (by omega),List.getElem_reverse]
theorem revI_end (l:List (Int × Int)){i:Nat}(h:l.length≤2*i+1):revI l i=l.reverse:=by
 refine ext_at (by rw [revI_len,List.length_reverse]) fun k hk=>?_
 rw [revI_len] at hk
 rw [revI_at l i hk,at2_rev l hk,revA]
 by_cases hc:k<i∨l.length - i≤k
 ·rw [if_pos hc]
 ·rw [if_neg hc]
  congr 1
  omega
theorem at2_set (l:List (Int × Int))(i k:Nat)(v:Int × Int)(hk:k<l.length):at2 (l.set i v) k=if i=k then v else at2 l k:=by
 rw [at2_eq (by rw [List.length_set];exact hk),List.getElem_set,at2_eq hk]
theorem revI_next (l:List (Int × Int)){i j:Nat}(hij:i<j)(hs:i+j=l.length - 1):((revI l i).set i (at2 (revI l i) j)).set j (at2 (revI l i) i)=revI l (i+1):=by
 refine ext_at (by rw [List.length_set,List.length_set,revI_len,revI_len]) fun k hk=>?_
 rw [List.length_set,List.length_set,revI_len] at hk
 rw [at2_set _ _ _ _ (by rw [List.length_set,revI_len];exact hk),at2_set _ _ _ _ (by rw [revI_len];exact hk),revI_at l _ hk,revI_at l _ (show j<l.length by omega),revI_at l _ (show i<l.length by omega),revI_at l _ hk]
 unfold revA
 by_cases h1:j=k
 ·subst h1
  rw [if_pos rfl,if_neg (by omega),if_pos (by omega)]
  congr 1
  omega
 ·rw [if_neg h1]
  by_cases h2:i=k
  ·subst h2
   rw [if_pos rfl,if_neg (by omega),if_pos (by omega)]
   congr 1
   omega
  ·rw [if_neg h2]
   by_cases hc:k<i∨l.length - i≤k
   ·rw [if_pos hc,if_pos (by omega)]
   ·rw [if_neg hc,if_neg (by omega)]
theorem flat_set (l:List (Int × Int)):∀ (i:Nat) (v:Int × Int),i<l.length→putN (flat elP.fl l) (i*2) [iv v.1,iv v.2]=flat elP.fl (l.set i v):=by
 induction l with
 |nil=>intro i v h;cases h
 |cons a r ih =>
  intro i v h
  cases i with
  |zero=>rfl
  |succ i =>
   have:=ih i v (by simpa using h)
   simp only [List.set_cons_succ,flat,← this]
   have e:(i+1)*2=i*2+2:=by omega
   rw [e]
   unfold putN
   show List.take (i*2+2) (iv a.1::iv a.2::flat elP.fl r)++_++List.drop (i*2+2+2) (iv a.1::iv a.2::flat elP.fl r)=_
   rfl
theorem rev_cells {l:List (Int × Int)}{i j:Nat}{a b:Int}(ha:a=i)(hb:b=j)(hij:i<j)(hjl:j<l.length)(hs:i+j=l.length - 1) :
  putN (putN (flat elP.fl (revI l i)) (0+a.toNat*2) [iv (at2 (revI l i) j).1,iv (at2 (revI l i) j).2]) (0+b.toNat*2) [iv (at2 (revI l i) i).1,iv (at2 (revI l i) i).2]=flat elP.fl (revI l (i+1)):=by
 have e1:0+a.toNat*2=i*2:=by omega
 have e2:0+b.toNat*2=j*2:=by omega
 rw [e1,e2,flat_set _ _ _ (by rw [revI_len];omega),flat_set _ _ _ (by rw [List.length_set,revI_len];omega),revI_next l hij hs]
attribute [local irreducible] revI in
theorem x109:XOK Go.Proofs.Tryz.prog X109.1 X109.2:=wX_ok elP (s:=SRev) (f:=81) (body_calls (xl:=[]) .nil) fun l l' hs c=>by
 have hs':l.length≤1000000000∧l'=l.reverse:=by
  unfold SRev at hs
  injection hs with hs;injection hs with h1 h2
  exact⟨by simpa using h1,h2.symm⟩
 obtain⟨hlen,rfl⟩:=hs'
 clear hs
 ((conv=>whnf);refine bm (fun h1=>?_) (fun h1=>?_))
 ·(conv=>whnf)
  refine⟨fun n e h nx=>∃ (i:Nat) (a b:Int),a=i∧a+b=(l.length:Int) - 1∧2*i≤l.length∧n=l.length - i∧e=e109 l.length c a b∧h=h109 (revI l i)∧nx=1,⟨l.length,?_⟩,?_⟩
  ·refine Into_id (e0:=e109 l.length c 0 ((l.length:Int) - 1)) (h0:=h109 (revI l 0)) (n0:=1) ⟨0,0,(l.length:Int) - 1,rfl,by omega,Nat.zero_le _,rfl,rfl,rfl,rfl⟩ ?_ ?_ (by decide)
   ·unfold e109
    ((repeat' refine iE rfl rfl ?_);exact iN)
   ·unfold h109
    rw [revI_zero]
    ((repeat'(first|refine iF rfl rfl ?_|refine iJ rfl rfl rfl rfl ?_));exact iN)
  ·rintro n e h nx ⟨i,a,b,ha,hab,hi,rfl,rfl,rfl,rfl⟩
   have hrl:=revI_len l i
   unfold e109 h109
   ((conv=>whnf);refine bm (fun g1=>?_) (fun g1=>?_))
   ·have hj:∃ j:Nat,b=j∧i<j∧j<l.length:=by
     simp only [cA_lt,decide_eq_true_eq] at g1
     exact⟨b.toNat,by omega,by omega,by omega⟩
    obtain⟨j,hb,hij,hjl⟩:=hj
    have hlti:i<(revI l i).length:=by omega
    have hltj:j<(revI l i).length:=by omega
    repeat' first
     |(((conv=>whnf);refine bm (fun g=>?_) (fun g=>?_)))
     |((conv=>whnf)
       refine boL (getP (revI l i) hltj ?_) ?_
       ·simp [cfgS,std];omega)
     |((conv=>whnf)
       refine boL (getP (revI l i) hlti ?_) ?_
       ·simp [cfgS,std];omega)
    all_goals (conv=>whnf)
    ·refine⟨l.length - (i+1),by omega,?_⟩
     refine Into_id (e0:=e109 l.length c (a+1) (b - 1)) (h0:=h109 (revI l (i+1))) (n0:=1) ⟨i+1,a+1,b - 1,by omega,by omega,by omega,rfl,rfl,rfl,rfl⟩ ?_ ?_ (by decide)
     ·unfold e109
      ((repeat' refine iE rfl rfl ?_);exact iN)
     ·unfold h109
      ((repeat'(first|refine iW rfl rfl (ObjRen_j (flat_g elP _) (rev_cells ha hb hij hjl (by omega))) ?_|refine iF rfl rfl ?_|refine iJ rfl rfl rfl rfl ?_));exact iN)
    all_goals exfalso
    all_goals (have hf:(flat elP.fl (revI l i)).length=l.length*2:=by rw [flat_len,revI_len];rfl)
    all_goals first
     |(simp only [cA_add,cA_sub,cA_fits,cA_lt,cA_le,cA_andB,cA_num,fitsK,Bool.and_eq_false_iff,decide_eq_false_iff_not] at g;omega)
     |(have hx:0+a.toNat*2+2≤(flat elP.fl (revI l i)).length:=by rw [hf];omega
       have hc:Nat.ble (0+a.toNat*2+2) (flat elP.fl (revI l i)).length=false:=g
       rw [Nat.ble_eq_true_of_le hx] at hc
       cases hc)
     |(have hx:0+a.toNat*2+2≤(flat elP.fl (revI l i)).length:=by rw [hf];omega
       have hp:(putN (flat elP.fl (revI l i)) (0+a.toNat*2) [iv (at2 (revI l i) j).1,iv (at2 (revI l i) j).2]).length=l.length*2:=by
        rw [putN_length (by show 0+a.toNat*2+2≤_;exact hx),hf]
       have hy:0+b.toNat*2+2≤(putN (flat elP.fl (revI l i)) (0+a.toNat*2) [iv (at2 (revI l i) j).1,iv (at2 (revI l i) j).2]).length:=by rw [hp];omega
       have hc:Nat.ble (0+b.toNat*2+2) (putN (flat elP.fl (revI l i)) (0+a.toNat*2) [iv (at2 (revI l i) j).1,iv (at2 (revI l i) j).2]).length=false:=g
       rw [Nat.ble_eq_true_of_le hy] at hc
       cases hc)
     |trace_state
   ·have hge:l.length≤2*i+1:=by
     simp only [cA_lt,decide_eq_false_iff_not] at g1
     omega
    (conv=>whnf)
    rw [← revI_end l hge]
    exact⟨rfl,rfl⟩
 ·exfalso;simp only [cA_sub,cA_num,cA_fits,fitsK,Bool.eq_false_iff,ne_eq,Bool.and_eq_true,decide_eq_true_eq] at h1;omega
end Go.Aw
end

noncomputable section
namespace Go.Aw
set_option maxRecDepth 100000
def hI (l:List Int):Heap:=[(0,.cells false true 1 (flat elI.fl l))]
end Go.Aw
end

noncomputable section
namespace Go.Aw
set_option maxRecDepth 100000
def hA0 (l:List (Int × Int))(x y:Int):Heap:=[(3,.cells false false 1 [iv x,iv y]),(2,.cells false false 1 [iv y]),(1,.cells false false 1 [iv x]),(0,.cells false true 2 (flat elP.fl l))]
def hA2 (l:List (Int × Int))(x y:Int):Heap:=[(0,.cells false true 2 (flat elP.fl l)),(1,.cells false false 1 [iv x]),(2,.cells false false 1 [iv y])]
def hB2 (l:List (Int × Int))(x:Int):Heap:=[(0,.cells false true 2 (flat elP.fl l)),(1,.cells false false 1 [iv x])]
end Go.Aw
end

noncomputable section
namespace Go.Aw
set_option maxRecDepth 100000
def cfg4:Cfg:={ A:=std,T:=tyT,FT:=look ftL,PL:=plF,PR:=fun _=>false,X:=fun _=>none,M:=4 }
theorem cfg4_ok:CfgOK Go.Proofs.Tryz.prog cfg4 where
 ar:=rfl
 tab:=tyT_tab
 mixed:=by decide +kernel
 funcs:=ft_funcs
 xs:=fun _ _ h=>by cases h
def bodyN (xl:List (Nat × XF))(vs:List Nat):VC:=vbody cfgS none (mixC cfg4 vs (look xl)) noY
theorem bodyN_calls {xl:List (Nat × XF)}(h:XLOK xl)(vs:List Nat):CallsOK Go.Proofs.Tryz.prog (bodyN xl vs):=vbody_ok cfgS_ok (mixC_ok cfg4_ok h.look) noY_ok (mixC_det cfg4_ok h.look) noY_det none
def turnI (l:List (Int × Int))(j:Nat):List (Int × Int):=l.drop j++l.take j
theorem flat_split (l:List (Int × Int))(j:Nat):flat elP.fl l=flat elP.fl (l.take j)++flat elP.fl (l.drop j):=by
 rw [← flat_append,List.take_append_drop]
theorem flat2 (l:List (Int × Int)):(flat elP.fl l).length=l.length*2:=flat_len elP l
theorem flat_drop (l:List (Int × Int))(j:Nat)(h:j≤l.length):(flat elP.fl l).drop (j*2)=flat elP.fl (l.drop j):=by
 rw [flat_split l j]
 refine List.drop_left' ?_
 rw [flat2,List.length_take,Nat.min_eq_left h]
theorem flat_take (l:List (Int × Int))(j:Nat)(h:j≤l.length):(flat elP.fl l).take (j*2)=flat elP.fl (l.take j):=by
 rw [flat_split l j]
 refine List.take_left' ?_
 rw [flat2,List.length_take,Nat.min_eq_left h]
theorem rep_len (n:Nat)(zs:List Value):(rep n zs).length=n*zs.length:=by
 unfold rep
 rw [List.length_flatten,List.map_replicate,List.sum_replicate_nat]
theorem turnI_len (l:List (Int × Int))(j:Nat)(h:j≤l.length):(turnI l j).length=l.length:=by
 unfold turnI
 rw [List.length_append,List.length_drop,List.length_take,Nat.min_eq_left h]
 omega
theorem put_src {l:List (Int × Int)}{j d1 s1:Nat}(hj:j≤l.length)(hd1:d1=j*2)(hs1:s1=(l.length - j)*2):List.take s1 (List.drop d1 (flat elP.fl l))=flat elP.fl (l.drop j):=by
 subst hd1 hs1
 rw [flat_drop l j hj,List.take_of_length_le (by rw [flat2,List.length_drop];exact Nat.le_refl _)]
theorem turn_cells {l:List (Int × Int)}{j N o0 s1 d1 o1 s2 d2:Nat}{a b:Value}(hj:j≤l.length)(hN:N=l.length)(h0:o0=0)(hd1:d1=j*2)(hs1:s1=(l.length - j)*2)(ho1:o1=(l.length - j)*2)(hd2:d2=0)(hs2:s2=j*2) :
  putN (putN (rep N [a,b]) o0 (List.take s1 (List.drop d1 (flat elP.fl l)))) o1 (List.take s2 (List.drop d2 (flat elP.fl l)))=flat elP.fl (turnI l j):=by
 subst hN h0 ho1 hd2 hs2
 rw [put_src hj hd1 hs1,List.drop_zero,flat_take l j hj,turnI,flat_append]
 have e1:(flat elP.fl (l.drop j)).length=(l.length - j)*2:=by rw [flat2,List.length_drop]
 have e2:(flat elP.fl (l.take j)).length=j*2:=by rw [flat2,List.length_take,Nat.min_eq_left hj]
 have e3:(rep l.length [a,b]).length=l.length*2:=rep_len _ _
 have e4:List.drop ((l.length - j)*2+j*2) (flat elP.fl (l.drop j)++List.drop ((l.length - j)*2) (rep l.length [a,b]))=[]:=List.drop_eq_nil_of_le (by rw [List.length_append,List.length_drop,e1,e3];omega)
 unfold putN
 rw [List.take_zero,List.nil_append,e1,e2,Nat.zero_add,List.take_left' e1,e4,List.append_nil]
theorem put_len {l:List (Int × Int)}{j N o0 s1 d1:Nat}{a b:Value}(hj:j≤l.length)(hN:N=l.length)(h0:o0=0)(hd1:d1=j*2)(hs1:s1=(l.length - j)*2) :
  (putN (rep N [a,b]) o0 (List.take s1 (List.drop d1 (flat elP.fl l)))).length=l.length*2:=by
 subst hN h0
 have e3:(rep l.length [a,b]).length=l.length*2:=rep_len _ _
 rw [put_src hj hd1 hs1,putN_length (by rw [flat2,List.length_drop,e3];omega),e3]
theorem cA_subN (a b:Nat):cfgS.A.subN a b=a - b:=rfl
theorem cA_toN (a:Int):cfgS.A.toN a=a.toNat:=rfl
theorem c4A:cfg4.A=cfgS.A:=rfl
theorem Yields_at {l:List (Int × Int)}{h:Heap}{nx q n c:Nat}(hl:0<l.length)(hn:n=l.length)(hc:c=l.length)(hq:∃ cs,look h q=some (.cells true false 2 cs)∧cs=flat elP.fl l):Yields elP l none (.slice (some ⟨q,0,none⟩) n c) h nx:=by
 obtain⟨cs,hq,hcs⟩:=hq
 subst hn hc hcs
 exact Yields_own elP hl hq
end Go.Aw
end
