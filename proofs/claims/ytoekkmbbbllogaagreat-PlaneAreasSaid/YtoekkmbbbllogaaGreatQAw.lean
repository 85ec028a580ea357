/-
  Parts of a proof. No condition.
-/
import Derived.Test.YtoekkmbbbllogaaGreatQAr
import Derived.Test.YtoekkmbbbllogaaGreatQAv
set_option linter.unusedSimpArgs false
set_option linter.unusedVariables false
noncomputable section
namespace Go.Aw
set_option maxRecDepth 100000
def Area2V (l:List (Int × Int)):Int:=if l.length≤400∧l.all rightS=true then areaI l l.length else 0
def SArea2 (l:List (Int × Int)):List Value→Option (Bool × Value)
 |[]=>some (decide (l.length≤1000000000),iv (Area2V l))
 |_=>none
theorem SArea2_inv {l:List (Int × Int)}{r:List Value}{v:Value}(hs:SArea2 l r=some (true,v)):r=[]∧l.length≤1000000000∧v=iv (Area2V l):=by
 unfold SArea2 at hs
 split at hs
 ·injection hs with hs;injection hs with h1 h2;exact⟨rfl,by simpa using h1,h2.symm⟩
 ·cases hs
def X34:Nat × XF:=(11,lX elP SArea2)
attribute [local irreducible] areaI in
theorem x34:XOK Go.Proofs.Tryz.prog X34.1 X34.2:=lX_ok elP (body_calls (xl:=[X54,X83]) (.cons x54 (.cons x83 .nil))) fun l r v hs=>by
 obtain⟨rfl,hlen,rfl⟩:=SArea2_inv hs
 refine⟨rfl,rfl,fun c=>?_⟩
 repeat' first
  |(((conv=>whnf);refine bm (fun g=>?_) (fun g=>?_)))
  |((conv=>whnf)
    refine Exists.intro l (And.intro (LsAt_own elP rfl) ?_))
 all_goals (conv=>whnf)
 all_goals (simp only [cA_lt,cA_num,cA_eqB,cA_notB,beq_iff_eq,beq_eq_false_iff_ne,ne_eq,Bool.not_eq_true',Bool.not_eq_false',Bool.not_eq_false,decide_eq_true_eq,decide_eq_false_iff_not] at *)
 all_goals first
  |(skip
    have h':l.length≤400∧l.all rightS=true:=by
     refine⟨?_,?_⟩
     ·omega
     ·assumption
    rw [Area2V,if_pos h']
    done)
  |(skip
    have h':¬ (l.length≤400∧l.all rightS=true):=by
     intro h
     obtain⟨h5,h6⟩:=h
     first
      |(exfalso;omega)
      |(exfalso;simp_all;done)
    rw [Area2V,if_neg h']
    rfl)
  |(exfalso;omega)
  |(exfalso;simp_all;omega)
  |trace_state
end Go.Aw
end

noncomputable section
namespace Go.Aw
set_option maxRecDepth 100000
def minI (l:List (Int × Int)):Nat→Int × Int
 |0=>at2 l 0
 |i+1=>if ordS (at2 l (i+1)) (minI l i)<0 then at2 l (i+1) else minI l i
def fn106:Value:=.func (.func 71) #[] #[]
def S125 (l:List (Int × Int)):List Value→Option (Bool × Value)
 |[.func (.func 71) ⟨[]⟩ ⟨[]⟩]=>some (decide (0<l.length)&&decide (l.length≤1000000000),ptv (minI l (l.length - 1)))
 |_=>none
theorem S125_inv {l:List (Int × Int)}{r:List Value}{v:Value}(h:S125 l r=some (true,v)):r=[fn106]∧0<l.length∧l.length≤1000000000∧v=ptv (minI l (l.length - 1)):=by
 unfold S125 at h
 split at h
 ·injection h with h
  injection h with h1 h2
  simp only [Bool.and_eq_true,decide_eq_true_eq] at h1
  exact⟨rfl,h1.1,h1.2,h2.symm⟩
 ·cases h
def e125 (l:List (Int × Int))(c:Nat)(j:Int):List (Nat × Value):=[(0,.slice (some ⟨0,0,none⟩) l.length c),(1,fn106),(4,.pointer (some ⟨1,0,none⟩)),(5,.pointer (some ⟨2,0,none⟩)),(6,iv j)]
def h125 (l:List (Int × Int))(m:Int × Int):Heap:=[(0,.cells false true 2 (flat elP.fl l)),(1,.cells true false 1 [iv 0,iv 0]),(2,.cells true false 1 [iv m.1,iv m.2])]
def X125:Nat × XF:=(90,lX elP S125)
attribute [local irreducible] ordS minI in
theorem x125:XOK Go.Proofs.Tryz.prog X125.1 X125.2:=lX_ok elP (body_calls (xl:=[X106]) (.cons x106 .nil)) fun l r v hs=>by
 obtain⟨rfl,h0,hlen,rfl⟩:=S125_inv hs
 refine⟨rfl,rfl,fun c=>?_⟩
 ((conv=>whnf);refine bm (fun h1=>?_) (fun h1=>?_))
 ·exfalso
  simp only [cA_lt,cA_num,decide_eq_true_eq] at h1
  omega
 ·((conv=>whnf);refine bm (fun h2=>?_) (fun h2=>?_))
  ·(conv=>whnf)
   refine boL (getP l h0 rfl) ?_
   (conv=>whnf)
   refine⟨fun n e h nx=>∃ (i:Nat) (j:Int),j=i∧1≤i∧i≤l.length∧n=l.length - i∧e=e125 l c j∧h=h125 l (minI l (i - 1))∧nx=3,⟨l.length - 1,?_⟩,?_⟩
   ·refine Into_id (e0:=e125 l c 1) (h0:=h125 l (at2 l 0)) (n0:=3) ⟨1,1,rfl,Nat.le_refl _,h0,rfl,rfl,by unfold minI;rfl,rfl⟩ ?_ ?_ (by decide)
    ·unfold e125
     refine List.forall_mem_cons.2 ⟨⟨rfl,by decide,fun h=>by cases h⟩,List.forall_mem_cons.2 ⟨⟨(by show _=some (ren id fn106);rw [ren_g (show gT fn106=true from rfl)];rfl),scT_g rfl⟩,?_⟩⟩
     ((repeat' refine iE rfl rfl ?_);exact iN)
    ·unfold h125
     ((repeat'(first|refine iF rfl rfl ?_|refine iJ rfl rfl rfl rfl ?_));exact iN)
   ·rintro n e h nx ⟨i,j,hj,hi1,hi,rfl,rfl,rfl,rfl⟩
    unfold e125 h125
    ((conv=>whnf);refine bm (fun g1=>?_) (fun g1=>?_))
    ·have hlt:i<l.length:=by simp [cfgS,std] at g1;omega
     have hm:minI l i=if ordS (at2 l i) (minI l (i - 1))<0 then at2 l i else minI l (i - 1):=by
      obtain⟨m,rfl⟩:∃ m,i=m+1:=⟨i - 1,by omega⟩
      conv=>lhs;unfold minI
      rfl
     repeat' first
      |(((conv=>whnf);refine bm (fun g=>?_) (fun g=>?_)))
      |((conv=>whnf)
        refine boL (getP l hlt ?_) ?_
        ·simp [cfgS,std];omega)
     all_goals (conv=>whnf)
     all_goals (simp only [cA_lt,cA_le,cA_andB,cA_num,cA_add,cA_fits,pEta,Bool.and_eq_true,decide_eq_true_eq,decide_eq_false_iff_not] at *)
     all_goals first
      |(skip
        have hv:minI l i=at2 l i:=by
         rw [hm]
         split
         ·first|rfl|(exfalso;omega)
         ·first|rfl|(exfalso;omega)
        refine⟨l.length - (i+1),by omega,?_⟩
        refine Into_id (e0:=e125 l c (j+1)) (h0:=h125 l (at2 l i)) (n0:=3) ⟨i+1,j+1,by omega,by omega,hlt,rfl,rfl,by rw [Nat.add_sub_cancel,hv];rfl,rfl⟩ ?_ ?_ (by decide)
        ·unfold e125
         refine List.forall_mem_cons.2 ⟨⟨rfl,by decide,fun h=>by cases h⟩,List.forall_mem_cons.2 ⟨⟨(by show _=some (ren id fn106);rw [ren_g (show gT fn106=true from rfl)];rfl),scT_g rfl⟩,?_⟩⟩
         ((repeat' refine iE rfl rfl ?_);exact iN)
        ·unfold h125
         ((repeat'(first|refine iF rfl rfl ?_|refine iJ rfl rfl rfl rfl ?_));exact iN)
        done)
      |(skip
        have hv:minI l i=minI l (i - 1):=by
         rw [hm]
         split
         ·first|rfl|(exfalso;omega)
         ·first|rfl|(exfalso;omega)
        refine⟨l.length - (i+1),by omega,?_⟩
        refine Into_id (e0:=e125 l c (j+1)) (h0:=h125 l (minI l (i - 1))) (n0:=3) ⟨i+1,j+1,by omega,by omega,hlt,rfl,rfl,by rw [Nat.add_sub_cancel,hv];rfl,rfl⟩ ?_ ?_ (by decide)
        ·unfold e125
         refine List.forall_mem_cons.2 ⟨⟨rfl,by decide,fun h=>by cases h⟩,List.forall_mem_cons.2 ⟨⟨(by show _=some (ren id fn106);rw [ren_g (show gT fn106=true from rfl)];rfl),scT_g rfl⟩,?_⟩⟩
         ((repeat' refine iE rfl rfl ?_);exact iN)
        ·unfold h125
         ((repeat'(first|refine iF rfl rfl ?_|refine iJ rfl rfl rfl rfl ?_));exact iN)
        done)
      |(exfalso;simp only [fitsK,Bool.and_eq_false_iff,decide_eq_false_iff_not] at *;omega)
      |trace_state
    ·have hge:i=l.length:=by simp [cfgS,std] at g1;omega
     subst hge
     (conv=>whnf)
     rfl
  ·exfalso
   simp only [cA_lt,cA_le,cA_andB,cA_num,Bool.eq_false_iff,ne_eq,Bool.and_eq_true,decide_eq_true_eq] at h2
   omega
end Go.Aw
end

noncomputable section
namespace Go.Aw
set_option maxRecDepth 100000
def argP (l:List (Int × Int)):Prop:=l.length<3∨l.all rightS=false
open Classical in
def polyE (l:List (Int × Int)):Int:=if 200<l.length then 2 else if argP l then 1 else if ¬ l.Nodup then 6 else if simpleB l=true then 0 else 10
theorem polyE_limit {l:List (Int × Int)}(h:200<l.length):polyE l=2:=by rw [polyE,if_pos h]
theorem polyE_arg {l:List (Int × Int)}(h:¬ 200<l.length)(h2:argP l):polyE l=1:=by rw [polyE,if_neg h,if_pos h2]
theorem polyE_twice {l:List (Int × Int)}(h:¬ 200<l.length)(h2:¬ argP l)(h3:¬ l.Nodup):polyE l=6:=by rw [polyE,if_neg h,if_neg h2,if_pos h3]
theorem good_of2 {l:List (Int × Int)}(h:¬ 200<l.length)(h2:¬ argP l)(h3:l.Nodup):goodP l:=by
 unfold argP at h2
 refine⟨by omega,by omega,?_,h3⟩
 cases hb:l.all rightS with
 |true=>rfl
 |false=>exact absurd (.inr hb) h2
theorem polyE_good {l:List (Int × Int)}(h:goodP l):polyE l=if simpleB l=true then 0 else 10:=by
 obtain⟨h1,h2,h3,h4⟩:=h
 have h5:¬ argP l:=by
  unfold argP
  rw [h3]
  rintro (h|h)
  ·omega
  ·cases h
 rw [polyE,if_neg (by omega),if_neg h5,if_neg (fun h=>h h4)]
theorem polyE_ok {l:List (Int × Int)}(h:polyE l=0):goodP l∧simpleP l:=by
 unfold polyE at h
 split at h
 ·cases h
 ·split at h
  ·cases h
  ·split at h
   ·cases h
   ·rename_i h1 h2 h3
    split at h
    ·exact⟨good_of2 h1 h2 (Classical.not_not.1 h3),simpleB_iff.1 (by assumption)⟩
    ·cases h
theorem take_nodup {l:List (Int × Int)}{i:Nat}(hi:i<l.length)(h:(l.take i).Nodup)(hn:∀ k,k<i→at2 l i≠at2 l k):(l.take (i+1)).Nodup:=by
 rw [List.take_add_one,List.getElem?_eq_getElem hi,Option.toList]
 refine List.nodup_append.2 ⟨h,by simp,?_⟩
 intro a ha b hb e
 simp only [List.mem_singleton] at hb
 subst hb
 obtain⟨k,hk,rfl⟩:=List.mem_iff_getElem.1 ha
 simp only [List.length_take] at hk
 rw [List.getElem_take] at e
 refine hn k (by omega) ?_
 rw [at2_eq hi,at2_eq (by omega)]
 exact e.symm
theorem not_nodup {l:List (Int × Int)}{i k:Nat}(hi:i<l.length)(hk:k<i)(e:at2 l i=at2 l k):¬ l.Nodup:=by
 intro h
 have:=nodup_at h hi (show k<l.length by omega) e
 omega
def SPoly (l:List (Int × Int)):List Value→Option (Bool × Value)
 |[]=>some (decide (l.length≤1000000000),iv (polyE l))
 |_=>none
theorem SPoly_inv {l:List (Int × Int)}{r:List Value}{v:Value}(hs:SPoly l r=some (true,v)):r=[]∧l.length≤1000000000∧v=iv (polyE l):=by
 unfold SPoly at hs
 split at hs
 ·injection hs with hs;injection hs with h1 h2;exact⟨rfl,by simpa using h1,h2.symm⟩
 ·cases hs
end Go.Aw
end

noncomputable section
namespace Go.Aw
set_option maxRecDepth 100000
def mapE (l:List (Int × Int)):List (Value × Value):=l.map fun p=>(ptv p,.bool true)
theorem veq_pt (p q:Int × Int):veq cfgS.A cfgS.T 100 24 (ptv p) (ptv q)=some (eqP p q):=rfl
theorem vfind_no {p:Int × Int}{l:List (Int × Int)}(h:p∉l):vfind cfgS.A cfgS.T 24 (ptv p) (mapE l)=some none:=by
 induction l with
 |nil=>rfl
 |cons q r ih =>
  simp only [List.mem_cons,not_or] at h
  show (match veq cfgS.A cfgS.T 100 24 (ptv p) (ptv q) with|none=>none|some true=>_|some false=>_)=_
  rw [veq_pt,(eqP_f p q).2 h.1]
  exact ih h.2
theorem vfind_yes {p:Int × Int}{l:List (Int × Int)}(h:p∈l):vfind cfgS.A cfgS.T 24 (ptv p) (mapE l)=some (some (.bool true)):=by
 induction l with
 |nil=>cases h
 |cons q r ih =>
  show (match veq cfgS.A cfgS.T 100 24 (ptv p) (ptv q) with|none=>none|some true=>_|some false=>_)=_
  rw [veq_pt]
  by_cases hq:p=q
  ·rw [(eqP_iff p q).2 hq]
  ·rw [(eqP_f p q).2 hq]
   simp only [List.mem_cons] at h
   exact ih (h.resolve_left hq)
theorem ObjRen_map {ρ:Nat→Nat}{n:Nat}{es es':List (Value × Value)}{l:List (Int × Int)}(e:es=mapE l)(e':es'=mapE l):ObjRen ρ n (.map es) (.map es'):=by
 subst e e'
 refine⟨?_,?_⟩
 ·unfold mapE
  rw [List.map_map]
  apply List.map_congr_left
  intro p _
  rfl
 ·intro e he
  unfold mapE at he
  obtain⟨p,_,rfl⟩:=List.mem_map.1 he
  exact scS_g rfl
theorem mapE_nil:mapE []=[]:=rfl
theorem mapE_next {l:List (Int × Int)}{i:Nat}(h:i<l.length):mapE (l.take i)++[(Value.agg #[iv (at2 l i).1,iv (at2 l i).2],.bool true)]=mapE (l.take (i+1)):=by
 rw [List.take_add_one,List.getElem?_eq_getElem h,at2_eq h]
 unfold mapE
 rw [List.map_append]
 rfl
def eM32 (l:List (Int × Int))(c:Nat)(j:Int):List (Nat × Value):=[(0,.slice (some ⟨0,0,none⟩) l.length c),(3,.map (some 1)),(23,.slice (some ⟨0,0,none⟩) l.length c),(24,iv l.length),(25,iv j)]
def hM (l:List (Int × Int))(i:Nat):Heap:=[(0,.cells false true 2 (flat elP.fl l)),(1,.map (mapE (l.take i)))]
theorem polyE_cross {l:List (Int × Int)}(h:goodP l)(hs:¬ simpleP l):polyE l=10:=by
 rw [polyE_good h,simpleB_f hs]
 rfl
def eO32 (l:List (Int × Int))(c:Nat)(j:Int):List (Nat × Value):=[(0,.slice (some ⟨0,0,none⟩) l.length c),(36,iv l.length),(37,iv j)]
def eI32 (l:List (Int × Int))(c:Nat)(j m:Int):List (Nat × Value):=[(0,.slice (some ⟨0,0,none⟩) l.length c),(36,iv l.length),(37,iv j),(6,iv j),(7,iv m)]
def X32:Nat × XF:=(10,lX elP SPoly)
attribute [local irreducible] meetS edgeS mapE in
theorem x32:XOK Go.Proofs.Tryz.prog X32.1 X32.2:=lX_ok elP (body_calls (xl:=[X54,X81,X68]) (.cons x54 (.cons x81 (.cons x68 .nil)))) fun l r v hs=>by
 obtain⟨rfl,hlen,rfl⟩:=SPoly_inv hs
 refine⟨rfl,rfl,fun c=>?_⟩
 ((conv=>whnf);refine bm (fun h1=>?_) (fun h1=>?_))
 ·(conv=>whnf)
  simp only [cA_lt,cA_num,decide_eq_true_eq] at h1
  rw [polyE_limit (by omega)]
  rfl
 ·have h200:¬ 200<l.length:=by simp only [cA_lt,cA_num,decide_eq_false_iff_not] at h1;omega
  ((conv=>whnf);refine bm (fun h2=>?_) (fun h2=>?_))
  ·(conv=>whnf)
   refine⟨l,LsAt_own elP rfl,?_⟩
   ((conv=>whnf);refine bm (fun h3=>?_) (fun h3=>?_))
   ·((conv=>whnf);refine bm (fun h4=>?_) (fun h4=>?_))
    ·(conv=>whnf)
     rw [polyE_arg h200 (by
      unfold argP
      simp only [cA_notB,Bool.not_eq_true'] at h4
      exact .inr h4)]
     rfl
    ·have hna:¬ argP l:=by
      unfold argP
      simp only [cA_eqB,cA_notB,cA_lt,cA_num,beq_iff_eq,decide_eq_false_iff_not,Bool.not_eq_false'] at h2 h4
      rw [h4]
      rintro (h|h)
      ·omega
      ·cases h
     (conv=>whnf)
     refine⟨fun n e h nx=>∃ (i:Nat) (j:Int),j=i∧i≤l.length∧n=l.length - i∧(l.take i).Nodup∧e=eM32 l c j∧h=hM l i∧nx=2,⟨l.length,?_⟩,?_⟩
     ·refine Into_id (e0:=eM32 l c 0) (h0:=hM l 0) (n0:=2) ⟨0,0,rfl,Nat.zero_le _,rfl,by simp,rfl,rfl,rfl⟩ ?_ ?_ (by decide)
      ·unfold eM32
       ((repeat' refine iE rfl rfl ?_);exact iN)
      ·unfold hM
       ((repeat'(first|refine iW rfl rfl (ObjRen_map (l:=[]) rfl mapE_nil.symm) ?_|refine iF rfl rfl ?_|refine iJ rfl rfl rfl rfl ?_));exact iN)
     ·rintro n e h nx ⟨i,j,hj,hi,rfl,hb,rfl,rfl,rfl⟩
      unfold eM32 hM
      ((conv=>whnf);refine bm (fun g1=>?_) (fun g1=>?_))
      ·have hlt:i<l.length:=by simp [cfgS,std] at g1;omega
       ((conv=>whnf);refine bm (fun g2=>?_) (fun g2=>?_))
       ·(conv=>whnf)
        refine boL (getP l hlt ?_) ?_
        ·simp [cfgS,std];omega
        (conv=>whnf)
        by_cases hmem:at2 l i∈l.take i
        ·have hv:vfind cfgS.A cfgS.T 24 (Value.agg #[iv (at2 l i).fst,iv (at2 l i).snd]) (mapE (List.take i l))=some (some (.bool true)):=vfind_yes hmem
         rw [hv]
         (conv=>whnf)
         rw [polyE_twice h200 hna (by
          obtain⟨k,hk,he⟩:=List.mem_iff_getElem.1 hmem
          simp only [List.length_take] at hk
          rw [List.getElem_take,← at2_eq (by omega)] at he
          exact not_nodup hlt (k:=k) (by omega) he.symm)]
         rfl
        ·have hv:vfind cfgS.A cfgS.T 24 (Value.agg #[iv (at2 l i).fst,iv (at2 l i).snd]) (mapE (List.take i l))=some none:=vfind_no hmem
         rw [hv]
         (conv=>whnf)
         rw [hv]
         ((conv=>whnf);refine bm (fun g=>?_) (fun g=>?_))
         ·(conv=>whnf)
          refine⟨l.length - (i+1),by omega,?_⟩
          refine Into_id (e0:=eM32 l c (j+1)) (h0:=hM l (i+1)) (n0:=2) ⟨i+1,j+1,by omega,hlt,rfl,?_,rfl,rfl,rfl⟩ ?_ ?_ (by decide)
          ·refine take_nodup hlt hb fun k hk he=>hmem ?_
           rw [he,at2_eq (by omega)]
           exact List.mem_iff_getElem.2 ⟨k,by rw [List.length_take];omega,by rw [List.getElem_take]⟩
          ·unfold eM32
           ((repeat' refine iE rfl rfl ?_);exact iN)
          ·unfold hM
           ((repeat'(first|refine iW rfl rfl (ObjRen_map (l:=l.take (i+1)) rfl (mapE_next hlt)) ?_|refine iF rfl rfl ?_|refine iJ rfl rfl rfl rfl ?_));exact iN)
         ·exfalso;simp only [cA_add,cA_fits,fitsK,Bool.eq_false_iff,ne_eq,Bool.and_eq_true,decide_eq_true_eq] at g;omega
       ·exfalso;simp only [cA_lt,cA_le,cA_andB,cA_num,Bool.eq_false_iff,ne_eq,Bool.and_eq_true,decide_eq_true_eq] at g2;omega
      ·have hge:i=l.length:=by simp [cfgS,std] at g1;omega
       subst hge
       rw [List.take_length] at hb
       have hgood:=good_of2 h200 hna hb
       (conv=>whnf)
       have h3':=hgood.1
       have h200':=hgood.2.1
       clear hi hb g1 hj h1 h2 h3 h4
       refine⟨fun n e h nx=>∃ (i:Nat) (j:Int),j=i∧i≤l.length∧n=l.length - i∧(∀ i' k,i'<i→i'<k→k<l.length→okE l i' k)∧e=eO32 l c j∧h=hP l∧nx=1,⟨l.length,?_⟩,?_⟩
       ·refine Into_id (e0:=eO32 l c 0) (h0:=hP l) (n0:=1) ⟨0,0,rfl,Nat.zero_le _,rfl,fun _ _ h=>absurd h (Nat.not_lt_zero _),rfl,rfl,rfl⟩ ?_ ?_ (Nat.le_refl _)
        ·unfold eO32
         ((repeat' refine iE rfl rfl ?_);exact iN)
        ·unfold hP
         ((repeat'(first|refine iF rfl rfl ?_|refine iJ rfl rfl rfl rfl ?_));exact iN)
       ·rintro n e h nx ⟨i,j,hj,hi,rfl,hb,rfl,rfl,rfl⟩
        unfold eO32 hP
        ((conv=>whnf);refine bm (fun g1=>?_) (fun g1=>?_))
        ·have hlt:i<l.length:=by simp [cfgS,std] at g1;omega
         ((conv=>whnf);refine bm (fun g2=>?_) (fun g2=>?_))
         ·(conv=>whnf)
          refine⟨fun n e h nx=>∃ (k:Nat) (m:Int),m=k∧i<k∧k≤l.length∧n=l.length - k∧(∀ k',i<k'→k'<k→okE l i k')∧e=eI32 l c j m∧h=hP l∧nx=1,⟨l.length - (i+1),?_⟩,?_⟩
          ·refine Into_id (e0:=eI32 l c j (j+1)) (h0:=hP l) (n0:=1) ⟨i+1,j+1,by omega,Nat.lt_succ_self _,hlt,rfl,fun k' h1 h2=>by omega,rfl,rfl,rfl⟩ ?_ ?_ (Nat.le_refl _)
           ·unfold eI32
            ((repeat' refine iE rfl rfl ?_);exact iN)
           ·unfold hP
            ((repeat'(first|refine iF rfl rfl ?_|refine iJ rfl rfl rfl rfl ?_));exact iN)
          ·rintro n e h nx ⟨k,m,hm,hik,hk,rfl,hbk,rfl,rfl,rfl⟩
           unfold eI32 hP
           ((conv=>whnf);refine bm (fun f1=>?_) (fun f1=>?_))
           ·have hltk:k<l.length:=by simp [cfgS,std] at f1;omega
            have ra:=edge_right hgood hlt
            have rb:=edge_right hgood hltk
            have hji:j.toNat=i:=by omega
            have hmk:m.toNat=k:=by omega
            repeat' first
             |(((conv=>whnf);refine bm (fun g=>?_) (fun g=>?_)))
             |((conv=>whnf)
               refine Exists.intro l (And.intro (LsAt_own elP rfl) ?_))
            all_goals (conv=>whnf)
            all_goals (simp only [cA_eq,cA_eqB,cA_notB,cA_add,cA_sub,cA_fits,cA_num,fitsK,Bool.not_eq_true',Bool.not_eq_false',beq_iff_eq,beq_eq_false_iff_ne,ne_eq,decide_eq_true_eq,decide_eq_false_iff_not,pEta,sEta,hji,hmk] at *)
            all_goals first
             |(refine Eq.trans ?_ (congrArg iv (polyE_cross hgood fun hh=>?_)).symm
               ·rfl
               have hh:=hh i k hik hltk
               unfold okE wantS at hh
               split at hh <;> omega)
             |(refine⟨l.length - (k+1),by omega,?_⟩
               refine Into_id (e0:=eI32 l c j (m+1)) (h0:=hP l) (n0:=1) ⟨k+1,m+1,by omega,by omega,hltk,rfl,fun k' h1 h2=>?_,rfl,rfl,rfl⟩ ?_ ?_ (Nat.le_refl _)
               ·by_cases hkk:k'=k
                ·subst hkk
                 unfold okE wantS
                 split <;> omega
                ·exact hbk k' h1 (by omega)
               ·unfold eI32
                ((repeat' refine iE rfl rfl ?_);exact iN)
               ·unfold hP
                ((repeat'(first|refine iF rfl rfl ?_|refine iJ rfl rfl rfl rfl ?_));exact iN))
             |(exfalso;simp only [rightG_wide ra,rightG_wide rb,Bool.and_eq_false_iff,decide_eq_false_iff_not,Bool.true_eq_false,or_self] at *;omega)
             |(exfalso;simp [rightG_wide ra,rightG_wide rb] at *;done)
             |trace_state
           ·have hge:k=l.length:=by simp [cfgS,std] at f1;omega
            ((conv=>whnf);refine bm (fun g=>?_) (fun g=>?_))
            ·(conv=>whnf)
             refine⟨l.length - (i+1),by omega,?_⟩
             refine Into_id (e0:=eO32 l c (j+1)) (h0:=hP l) (n0:=1) ⟨i+1,j+1,by omega,hlt,rfl,fun i' k' h1 h2 h3=>?_,rfl,rfl,rfl⟩ ?_ ?_ (Nat.le_refl _)
             ·by_cases hii:i'=i
              ·subst hii
               exact hbk k' h2 (by omega)
              ·exact hb i' k' (by omega) h2 h3
             ·unfold eO32
              ((repeat' refine iE rfl rfl ?_);exact iN)
             ·unfold hP
              ((repeat'(first|refine iF rfl rfl ?_|refine iJ rfl rfl rfl rfl ?_));exact iN)
            ·exfalso;simp only [cA_add,cA_fits,fitsK,Bool.eq_false_iff,ne_eq,Bool.and_eq_true,decide_eq_true_eq] at g;omega
         ·exfalso;simp only [cA_add,cA_fits,fitsK,Bool.eq_false_iff,ne_eq,Bool.and_eq_true,decide_eq_true_eq] at g2;omega
        ·have hge:i=l.length:=by simp [cfgS,std] at g1;omega
         subst hge
         (conv=>whnf)
         rw [polyE_good hgood,simpleB_iff.2 fun i' k h1 h2=>hb i' k (by omega) h1 h2]
         rfl
   ·exact absurd hlen (by simpa using h3)
  ·(conv=>whnf)
   rw [polyE_arg h200 (by
    unfold argP
    simp only [cA_eqB,cA_lt,cA_num,beq_eq_false_iff_ne,ne_eq,Bool.not_eq_false,decide_eq_true_eq] at h2
    exact .inl (by omega))]
   rfl
end Go.Aw
end

noncomputable section
namespace Go.Aw
set_option maxRecDepth 100000
def loY (e:Sg):Int × Int:=if e.2.2<e.1.2 then e.2 else e.1
def hiY (e:Sg):Int × Int:=if e.2.2<e.1.2 then e.1 else e.2
def hitE (e:Sg)(p:Int × Int):Bool:=decide ((loY e).2≤p.2)&&decide (p.2<(hiY e).2)&&decide (0<crossI (loY e) (hiY e) p)
def inI (l:List (Int × Int))(p:Int × Int):Nat→Bool
 |0=>false
 |i+1=>inI l p i != hitE (edgeS l i) p
def onP (l:List (Int × Int))(p:Int × Int):Prop:=∃ i,i<l.length∧onS p (edgeS l i)=true
open Classical in
def whI (l:List (Int × Int))(p:Int × Int):Int:=if onP l p then 1 else if inI l p l.length=true then 2 else 0
theorem whI_on {l:List (Int × Int)}{p:Int × Int}{i:Nat}(hi:i<l.length)(h:onS p (edgeS l i)=true):whI l p=1:=by rw [whI,if_pos ⟨i,hi,h⟩]
theorem whI_off {l:List (Int × Int)}{p:Int × Int}(h:∀ i,i<l.length→onS p (edgeS l i)=false):whI l p=if inI l p l.length=true then 2 else 0:=by
 rw [whI,if_neg]
 rintro ⟨i,hi,h2⟩
 rw [h i hi] at h2
 cases h2
theorem sgn_pos (n:Int):0<sgn n↔0<n:=by
 unfold sgn
 split <;> (try split) <;> omega
theorem turn_pos (a b c:Int × Int):0<turnS a b c↔0<crossI a b c:=sgn_pos _
def SWh (l:List (Int × Int)):List Value→Option (Bool × Value)
 |[v]=>(match decP v with|some p=>some (goodL l&&rightS p,u8 (whI l p))|none=>none)
 |_=>none
theorem SWh_inv {l:List (Int × Int)}{r:List Value}{v:Value}(hs:SWh l r=some (true,v)):∃ p,r=[ptv p]∧goodP l∧rightS p=true∧v=u8 (whI l p):=by
 unfold SWh at hs
 split at hs
 ·split at hs
  ·rename_i p e
   injection hs with hs;injection hs with h1 h2
   simp only [Bool.and_eq_true] at h1
   exact⟨p,by rw [decP_eq e],goodL_iff.1 h1.1,h1.2,h2.symm⟩
  ·cases hs
 ·cases hs
def e88 (l:List (Int × Int))(c:Nat)(j:Int)(b:Bool):List (Nat × Value):=[(0,.slice (some ⟨0,0,none⟩) l.length c),(3,.pointer (some ⟨1,0,none⟩)),(5,.bool b),(11,iv l.length),(12,iv j)]
def hW (l:List (Int × Int))(p:Int × Int):Heap:=[(0,.cells false true 2 (flat elP.fl l)),(1,.cells true false 1 [iv p.1,iv p.2])]
def X88:Nat × XF:=(46,lX elP SWh)
attribute [local irreducible] edgeS onS turnS in
theorem x88:XOK Go.Proofs.Tryz.prog X88.1 X88.2:=lX_ok elP (body_calls (xl:=[X81,X65,X55]) (.cons x81 (.cons x65 (.cons x55 .nil)))) fun l r v hs=>by
 obtain⟨⟨px,py⟩,rfl,hgood,hp,rfl⟩:=SWh_inv hs
 refine⟨rfl,rfl,fun c=>?_⟩
 have h3':=hgood.1
 have h200':=hgood.2.1
 clear hs
 (conv=>whnf)
 refine⟨fun n e h nx=>∃ (i:Nat) (j:Int) (b:Bool),j=i∧i≤l.length∧n=l.length - i∧(∀ k,k<i→onS (px,py) (edgeS l k)=false)∧b=inI l (px,py) i∧e=e88 l c j b∧h=hW l (px,py)∧nx=2,⟨l.length,?_⟩,?_⟩
 ·refine Into_id (e0:=e88 l c 0 false) (h0:=hW l (px,py)) (n0:=2) ⟨0,0,false,rfl,Nat.zero_le _,rfl,fun k h=>absurd h (Nat.not_lt_zero k),rfl,rfl,rfl,rfl⟩ ?_ ?_ (by decide)
  ·unfold e88
   ((repeat' refine iE rfl rfl ?_);exact iN)
  ·unfold hW
   ((repeat'(first|refine iF rfl rfl ?_|refine iJ rfl rfl rfl rfl ?_));exact iN)
 ·rintro n e h nx ⟨i,j,b,hj,hi,rfl,hoff,hb,rfl,rfl,rfl⟩
  unfold e88 hW
  ((conv=>whnf);refine bm (fun g1=>?_) (fun g1=>?_))
  ·have hlt:i<l.length:=by simp [cfgS,std] at g1;omega
   have hji:j.toNat=i:=by omega
   have re:=edge_right hgood hlt
   have w1:wide (edgeS l i).1=true:=rightS_wide (right_two re).1
   have w2:wide (edgeS l i).2=true:=rightS_wide (right_two re).2.1
   have w3:wide (px,py)=true:=rightS_wide hp
   (conv=>whnf)
   refine⟨l,LsAt_own elP rfl,?_⟩
   ((conv=>whnf);refine bm (fun g2=>?_) (fun g2=>?_))
   ·((conv=>whnf);refine bm (fun g3=>?_) (fun g3=>?_))
    ·((conv=>whnf);refine bm (fun g4=>?_) (fun g4=>?_))
     ·(conv=>whnf)
      simp only [pEta,sEta,hji] at g4
      rw [whI_on hlt g4]
      rfl
     ·repeat' ((conv=>whnf);refine bm (fun g=>?_) (fun g=>?_))
      all_goals (conv=>whnf)
      all_goals (simp only [cA_lt,cA_le,cA_eqB,cA_add,cA_fits,fitsK,beq_iff_eq,beq_eq_false_iff_ne,ne_eq,Bool.not_eq_true,Bool.not_eq_false,decide_eq_true_eq,decide_eq_false_iff_not,pEta,sEta,hji,turn_pos] at *)
      all_goals first
       |(skip
         have hh:hitE (edgeS l i) (px,py)=true:=by
          simp [hitE,loY,hiY, *] <;> omega
         refine⟨l.length - (i+1),by omega,?_⟩
         refine Into_id (e0:=e88 l c (j+1) (!b)) (h0:=hW l (px,py)) (n0:=2) ⟨i+1,j+1,(!b),by omega,hlt,rfl,fun k hk=>?_,?_,rfl,rfl,rfl⟩ ?_ ?_ (by decide)
         ·by_cases hki:k=i
          ·subst hki;exact g4
          ·exact hoff k (by omega)
         ·rw [inI,← hb,hh]
          cases b <;> rfl
         ·unfold e88
          ((repeat' refine iE rfl rfl ?_);exact iN)
         ·unfold hW
          ((repeat'(first|refine iF rfl rfl ?_|refine iJ rfl rfl rfl rfl ?_));exact iN)
         done)
       |(skip
         have hh:hitE (edgeS l i) (px,py)=false:=by
          simp [hitE,loY,hiY, *] <;> omega
         refine⟨l.length - (i+1),by omega,?_⟩
         refine Into_id (e0:=e88 l c (j+1) b) (h0:=hW l (px,py)) (n0:=2) ⟨i+1,j+1,b,by omega,hlt,rfl,fun k hk=>?_,?_,rfl,rfl,rfl⟩ ?_ ?_ (by decide)
         ·by_cases hki:k=i
          ·subst hki;exact g4
          ·exact hoff k (by omega)
         ·rw [inI,← hb,hh]
          cases b <;> rfl
         ·unfold e88
          ((repeat' refine iE rfl rfl ?_);exact iN)
         ·unfold hW
          ((repeat'(first|refine iF rfl rfl ?_|refine iJ rfl rfl rfl rfl ?_));exact iN)
         done)
       |(exfalso;simp [w1,w2,w3] at *;done)
       |(exfalso;simp only [Bool.and_eq_false_iff,decide_eq_false_iff_not] at *;omega)
       |trace_state
    ·exfalso
     simp only [pEta,sEta,hji,w3,rightG_wide re] at g3
     cases g3
   ·exfalso;simp only [Bool.and_eq_false_iff,decide_eq_false_iff_not] at g2;omega
  ·have hge:i=l.length:=by simp [cfgS,std] at g1;omega
   subst hge
   ((conv=>whnf);refine bm (fun g=>?_) (fun g=>?_))
   ·(conv=>whnf)
    rw [whI_off hoff,← hb,g]
    rfl
   ·(conv=>whnf)
    rw [whI_off hoff,← hb,g]
    rfl
end Go.Aw
end

noncomputable section
namespace Go.Aw
set_option maxRecDepth 100000
def idxP (p:Int × Int):List (Int × Int)→Nat→Int
 |[],_=>-1
 |q::r,i=>if eqP p q=true then i else idxP p r (i+1)
def S124 (l:List (Int × Int)):List Value→Option (Bool × Value)
 |[v]=>(match decP v with|some p=>some (decide (l.length≤1000000000),iv (idxP p l 0))|none=>none)
 |_=>none
theorem S124_inv {l:List (Int × Int)}{r:List Value}{v:Value}(hs:S124 l r=some (true,v)):∃ p,r=[ptv p]∧l.length≤1000000000∧v=iv (idxP p l 0):=by
 unfold S124 at hs
 split at hs
 ·split at hs
  ·rename_i p e
   injection hs with hs;injection hs with h1 h2
   exact⟨p,by rw [decP_eq e],by simpa using h1,h2.symm⟩
  ·cases hs
 ·cases hs
theorem drop_at2 {l:List (Int × Int)}{i:Nat}(h:i<l.length):l.drop i=at2 l i::l.drop (i+1):=by
 rw [at2_eq h]
 exact List.drop_eq_getElem_cons h
def e124 (l:List (Int × Int))(c:Nat)(j:Int):List (Nat × Value):=[(0,.slice (some ⟨0,0,none⟩) l.length c),(3,.pointer (some ⟨1,0,none⟩)),(7,iv l.length),(8,iv j)]
def X124:Nat × XF:=(89,lX elP S124)
attribute [local irreducible] idxP in
theorem x124:XOK Go.Proofs.Tryz.prog X124.1 X124.2:=lX_ok elP (body_calls (xl:=[]) .nil) fun l r v hs=>by
 obtain⟨⟨px,py⟩,rfl,hlen,rfl⟩:=S124_inv hs
 refine⟨rfl,rfl,fun c=>?_⟩
 clear hs
 (conv=>whnf)
 refine⟨fun n e h nx=>∃ (i:Nat) (j:Int),j=i∧i≤l.length∧n=l.length - i∧idxP (px,py) l 0=idxP (px,py) (l.drop i) i∧e=e124 l c j∧h=hW l (px,py)∧nx=2,⟨l.length,?_⟩,?_⟩
 ·refine Into_id (e0:=e124 l c 0) (h0:=hW l (px,py)) (n0:=2) ⟨0,0,rfl,Nat.zero_le _,rfl,rfl,rfl,rfl,rfl⟩ ?_ ?_ (by decide)
  ·unfold e124
   ((repeat' refine iE rfl rfl ?_);exact iN)
  ·unfold hW
   ((repeat'(first|refine iF rfl rfl ?_|refine iJ rfl rfl rfl rfl ?_));exact iN)
 ·rintro n e h nx ⟨i,j,hj,hi,rfl,hb,rfl,rfl,rfl⟩
  unfold e124 hW
  ((conv=>whnf);refine bm (fun g1=>?_) (fun g1=>?_))
  ·have hlt:i<l.length:=by simp [cfgS,std] at g1;omega
   rw [drop_at2 hlt] at hb
   ((conv=>whnf);refine bm (fun g2=>?_) (fun g2=>?_))
   ·(conv=>whnf)
    refine boL (getP l hlt ?_) ?_
    ·simp [cfgS,std];omega
    ((conv=>whnf);refine bm (fun g3=>?_) (fun g3=>?_))
    ·(conv=>whnf)
     have he:eqP (px,py) (at2 l i)=true:=g3
     rw [hb,hj]
     unfold idxP
     rw [if_pos he]
    ·((conv=>whnf);refine bm (fun g4=>?_) (fun g4=>?_))
     ·(conv=>whnf)
      have he:eqP (px,py) (at2 l i)=false:=g3
      refine⟨l.length - (i+1),by omega,?_⟩
      refine Into_id (e0:=e124 l c (j+1)) (h0:=hW l (px,py)) (n0:=2) ⟨i+1,j+1,by omega,hlt,rfl,?_,rfl,rfl,rfl⟩ ?_ ?_ (by decide)
      ·rw [hb]
       conv=>lhs;unfold idxP
       rw [if_neg (by rw [he];decide)]
      ·unfold e124
       ((repeat' refine iE rfl rfl ?_);exact iN)
      ·unfold hW
       ((repeat'(first|refine iF rfl rfl ?_|refine iJ rfl rfl rfl rfl ?_));exact iN)
     ·exfalso;simp only [cA_add,cA_fits,fitsK,Bool.eq_false_iff,ne_eq,Bool.and_eq_true,decide_eq_true_eq] at g4;omega
   ·exfalso;simp only [cA_lt,cA_le,cA_andB,cA_num,Bool.eq_false_iff,ne_eq,Bool.and_eq_true,decide_eq_true_eq] at g2;omega
  ·have hge:i=l.length:=by simp [cfgS,std] at g1;omega
   subst hge
   (conv=>whnf)
   rw [hb,List.drop_length]
   unfold idxP
   rfl
end Go.Aw
end

noncomputable section
namespace Go.Aw
set_option maxRecDepth 100000
theorem same_of {l1 l2:List (Int × Int)}(hl:l1.length=l2.length)(h:∀ k,k<l1.length→at2 l1 k=at2 l2 k):l1=l2:=by
 refine List.ext_getElem hl fun k h1 h2=>?_
 have:=h k h1
 rw [at2_eq h1,at2_eq h2] at this
 exact this
end Go.Aw
end

noncomputable section
namespace Go.Aw
set_option maxRecDepth 100000
def revA (l:List (Int × Int))(i k:Nat):Int × Int:=if k<i∨l.length - i≤k then at2 l (l.length - 1 - k) else at2 l k
def revI (l:List (Int × Int))(i:Nat):List (Int × Int):=(List.range l.length).map (revA l i)
def SRev (l:List (Int × Int)):Option (Bool × List (Int × Int)):=some (decide (l.length≤1000000000),l.reverse)
def e109 (n c:Nat)(i j:Int):List (Nat × Value):=[(0,.slice (some ⟨0,0,none⟩) n c),(2,iv i),(3,iv j)]
def h109 (o:List (Int × Int)):Heap:=[(0,.cells true false 2 (flat elP.fl o))]
def X109:Nat × XF:=(74,wX elP SRev)
theorem revI_len (l:List (Int × Int))(i:Nat):(revI l i).length=l.length:=by unfold revI;rw [List.length_map,List.length_range]
theorem revI_at (l:List (Int × Int))(i:Nat){k:Nat}(hk:k<l.length):at2 (revI l i) k=revA l i k:=by
 rw [at2_eq (by rw [revI_len];exact hk)]
 unfold revI
 rw [List.getElem_map,List.getElem_range]
theorem ext_at {l m:List (Int × Int)}(hl:l.length=m.length)(h:∀ k,k<l.length→at2 l k=at2 m k):l=m:=same_of hl h
theorem revI_zero (l:List (Int × Int)):revI l 0=l:=by
 refine ext_at (revI_len l 0) fun k hk=>?_
 rw [revI_len] at hk
 rw [revI_at l 0 hk,revA,if_neg (by omega)]
theorem at2_rev (l:List (Int × Int)){k:Nat}(hk:k<l.length):at2 l.reverse k=at2 l (l.length - 1 - k):=by
 rw [at2_eq (by rw [List.length_reverse];exact hk),at2_eq (by omega),List.getElem_reverse]
theorem revI_end (l:List (Int × Int)){i:Nat}(h:l.length≤2*i+1):revI l i=l.reverse:=by
 refine ext_at (by rw [revI_len,List.length_reverse]) fun k hk=>?_
 rw [revI_len] at hk
 rw [revI_at l i hk,at2_rev l hk,revA]
 by_cases hc:k<i∨l.length - i≤k
 ·rw [if_pos hc]
 ·rw [if_neg hc]
  congr 1
  omega
theorem at2_set (l:List (Int × Int))(i k:Nat)(v:Int × Int)(hk:k<l.length):at2 (l.set i v) k=if i=k then v else at2 l k:=by
 rw [at2_eq (by rw [List.length_set];exact hk),List.getElem_set,at2_eq hk]
theorem revI_next (l:List (Int × Int)){i j:Nat}(hij:i<j)(hs:i+j=l.length - 1):((revI l i).set i (at2 (revI l i) j)).set j (at2 (revI l i) i)=revI l (i+1):=by
 refine ext_at (by rw [List.length_set,List.length_set,revI_len,revI_len]) fun k hk=>?_
 rw [List.length_set,List.length_set,revI_len] at hk
 rw [at2_set _ _ _ _ (by rw [List.length_set,revI_len];exact hk),at2_set _ _ _ _ (by rw [revI_len];exact hk),revI_at l _ hk,revI_at l _ (show j<l.length by omega),revI_at l _ (show i<l.length by omega),revI_at l _ hk]
 unfold revA
 by_cases h1:j=k
 ·subst h1
  rw [if_pos rfl,if_neg (by omega),if_pos (by omega)]
  congr 1
  omega
 ·rw [if_neg h1]
  by_cases h2:i=k
  ·subst h2
   rw [if_pos rfl,if_neg (by omega),if_pos (by omega)]
   congr 1
   omega
  ·rw [if_neg h2]
   by_cases hc:k<i∨l.length - i≤k
   ·rw [if_pos hc,if_pos (by omega)]
   ·rw [if_neg hc,if_neg (by omega)]
theorem flat_set (l:List (Int × Int)):∀ (i:Nat) (v:Int × Int),i<l.length→putN (flat elP.fl l) (i*2) [iv v.1,iv v.2]=flat elP.fl (l.set i v):=by
 induction l with
 |nil=>intro i v h;cases h
 |cons a r ih =>
  intro i v h
  cases i with
  |zero=>rfl
  |succ i =>
   have:=ih i v (by simpa using h)
   simp only [List.set_cons_succ,flat,← this]
   have e:(i+1)*2=i*2+2:=by omega
   rw [e]
   unfold putN
   show List.take (i*2+2) (iv a.1::iv a.2::flat elP.fl r)++_++List.drop (i*2+2+2) (iv a.1::iv a.2::flat elP.fl r)=_
   rfl
theorem rev_cells {l:List (Int × Int)}{i j:Nat}{a b:Int}(ha:a=i)(hb:b=j)(hij:i<j)(hjl:j<l.length)(hs:i+j=l.length - 1) :
  putN (putN (flat elP.fl (revI l i)) (0+a.toNat*2) [iv (at2 (revI l i) j).1,iv (at2 (revI l i) j).2]) (0+b.toNat*2) [iv (at2 (revI l i) i).1,iv (at2 (revI l i) i).2]=flat elP.fl (revI l (i+1)):=by
 have e1:0+a.toNat*2=i*2:=by omega
 have e2:0+b.toNat*2=j*2:=by omega
 rw [e1,e2,flat_set _ _ _ (by rw [revI_len];omega),flat_set _ _ _ (by rw [List.length_set,revI_len];omega),revI_next l hij hs]
attribute [local irreducible] revI in
theorem x109:XOK Go.Proofs.Tryz.prog X109.1 X109.2:=wX_ok elP (s:=SRev) (f:=74) (body_calls (xl:=[]) .nil) fun l l' hs c=>by
 have hs':l.length≤1000000000∧l'=l.reverse:=by
  unfold SRev at hs
  injection hs with hs;injection hs with h1 h2
  exact⟨by simpa using h1,h2.symm⟩
 obtain⟨hlen,rfl⟩:=hs'
 clear hs
 ((conv=>whnf);refine bm (fun h1=>?_) (fun h1=>?_))
 ·(conv=>whnf)
  refine⟨fun n e h nx=>∃ (i:Nat) (a b:Int),a=i∧a+b=(l.length:Int) - 1∧2*i≤l.length∧n=l.length - i∧e=e109 l.length c a b∧h=h109 (revI l i)∧nx=1,⟨l.length,?_⟩,?_⟩
  ·refine Into_id (e0:=e109 l.length c 0 ((l.length:Int) - 1)) (h0:=h109 (revI l 0)) (n0:=1) ⟨0,0,(l.length:Int) - 1,rfl,by omega,Nat.zero_le _,rfl,rfl,rfl,rfl⟩ ?_ ?_ (by decide)
   ·unfold e109
    ((repeat' refine iE rfl rfl ?_);exact iN)
   ·unfold h109
    rw [revI_zero]
    ((repeat'(first|refine iF rfl rfl ?_|refine iJ rfl rfl rfl rfl ?_));exact iN)
  ·rintro n e h nx ⟨i,a,b,ha,hab,hi,rfl,rfl,rfl,rfl⟩
   have hrl:=revI_len l i
   unfold e109 h109
   ((conv=>whnf);refine bm (fun g1=>?_) (fun g1=>?_))
   ·have hj:∃ j:Nat,b=j∧i<j∧j<l.length:=by
     simp only [cA_lt,decide_eq_true_eq] at g1
     exact⟨b.toNat,by omega,by omega,by omega⟩
    obtain⟨j,hb,hij,hjl⟩:=hj
    have hlti:i<(revI l i).length:=by omega
    have hltj:j<(revI l i).length:=by omega
    repeat' first
     |(((conv=>whnf);refine bm (fun g=>?_) (fun g=>?_)))
     |((conv=>whnf)
       refine boL (getP (revI l i) hltj ?_) ?_
       ·simp [cfgS,std];omega)
     |((conv=>whnf)
       refine boL (getP (revI l i) hlti ?_) ?_
       ·simp [cfgS,std];omega)
    all_goals (conv=>whnf)
    ·refine⟨l.length - (i+1),by omega,?_⟩
     refine Into_id (e0:=e109 l.length c (a+1) (b - 1)) (h0:=h109 (revI l (i+1))) (n0:=1) ⟨i+1,a+1,b - 1,by omega,by omega,by omega,rfl,rfl,rfl,rfl⟩ ?_ ?_ (by decide)
     ·unfold e109
      ((repeat' refine iE rfl rfl ?_);exact iN)
     ·unfold h109
      ((repeat'(first|refine iW rfl rfl (ObjRen_j (flat_g elP _) (rev_cells ha hb hij hjl (by omega))) ?_|refine iF rfl rfl ?_|refine iJ rfl rfl rfl rfl ?_));exact iN)
    all_goals exfalso
    all_goals (have hf:(flat elP.fl (revI l i)).length=l.length*2:=by rw [flat_len,revI_len];rfl)
    all_goals first
     |(simp only [cA_add,cA_sub,cA_fits,cA_lt,cA_le,cA_andB,cA_num,fitsK,Bool.and_eq_false_iff,decide_eq_false_iff_not] at g;omega)
     |(have hx:0+a.toNat*2+2≤(flat elP.fl (revI l i)).length:=by rw [hf];omega
       have hc:Nat.ble (0+a.toNat*2+2) (flat elP.fl (revI l i)).length=false:=g
       rw [Nat.ble_eq_true_of_le hx] at hc
       cases hc)
     |(have hx:0+a.toNat*2+2≤(flat elP.fl (revI l i)).length:=by rw [hf];omega
       have hp:(putN (flat elP.fl (revI l i)) (0+a.toNat*2) [iv (at2 (revI l i) j).1,iv (at2 (revI l i) j).2]).length=l.length*2:=by
        rw [putN_length (by show 0+a.toNat*2+2≤_;exact hx),hf]
       have hy:0+b.toNat*2+2≤(putN (flat elP.fl (revI l i)) (0+a.toNat*2) [iv (at2 (revI l i) j).1,iv (at2 (revI l i) j).2]).length:=by rw [hp];omega
       have hc:Nat.ble (0+b.toNat*2+2) (putN (flat elP.fl (revI l i)) (0+a.toNat*2) [iv (at2 (revI l i) j).1,iv (at2 (revI l i) j).2]).length=false:=g
       rw [Nat.ble_eq_true_of_le hy] at hc
       cases hc)
     |trace_state
   ·have hge:l.length≤2*i+1:=by
     simp only [cA_lt,decide_eq_false_iff_not] at g1
     omega
    (conv=>whnf)
    rw [← revI_end l hge]
    exact⟨rfl,rfl⟩
 ·exfalso;simp only [cA_sub,cA_num,cA_fits,fitsK,Bool.eq_false_iff,ne_eq,Bool.and_eq_true,decide_eq_true_eq] at h1;omega
end Go.Aw
end

noncomputable section
namespace Go.Aw
set_option maxRecDepth 100000
def hI (l:List Int):Heap:=[(0,.cells false true 1 (flat elI.fl l))]
end Go.Aw
end
