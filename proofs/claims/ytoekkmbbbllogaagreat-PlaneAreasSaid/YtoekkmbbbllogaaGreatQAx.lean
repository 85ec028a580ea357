/-
  Parts of a proof. No condition.
-/
import Derived.Test.YtoekkmbbbllogaaGreatQAw
set_option linter.unusedSimpArgs false
set_option linter.unusedVariables false
noncomputable section
namespace Go.Aw
set_option maxRecDepth 100000
def hA0 (l:List (Int × Int))(x y:Int):Heap:=[(3,.cells false false 1 [iv x,iv y]),(2,.cells false false 1 [iv y]),(1,.cells false false 1 [iv x]),(0,.cells false true 2 (flat elP.fl l))]
def hB1 (l:List (Int × Int))(x:Int)(o:List (Int × Int)):Heap:=[(0,.cells false true 2 (flat elP.fl l)),(1,.cells false false 1 [iv x]),(3,.cells true false 2 (flat elP.fl o))]
def hA2 (l:List (Int × Int))(x y:Int):Heap:=[(0,.cells false true 2 (flat elP.fl l)),(1,.cells false false 1 [iv x]),(2,.cells false false 1 [iv y])]
def hB2 (l:List (Int × Int))(x:Int):Heap:=[(0,.cells false true 2 (flat elP.fl l)),(1,.cells false false 1 [iv x])]
end Go.Aw
end

noncomputable section
namespace Go.Aw
set_option maxRecDepth 100000
def cfg4:Cfg:={ A:=std,T:=tyT,FT:=look ftL,PL:=plF,PR:=fun _=>false,X:=fun _=>none,M:=4 }
theorem cfg4_ok:CfgOK Go.Proofs.Tryz.prog cfg4 where
 ar:=rfl
 tab:=tyT_tab
 mixed:=by decide +kernel
 funcs:=ft_funcs
 xs:=fun _ _ h=>by cases h
def bodyN (xl:List (Nat × XF))(vs:List Nat):VC:=vbody cfgS none (mixC cfg4 vs (look xl)) noY
theorem bodyN_calls {xl:List (Nat × XF)}(h:XLOK xl)(vs:List Nat):CallsOK Go.Proofs.Tryz.prog (bodyN xl vs):=vbody_ok cfgS_ok (mixC_ok cfg4_ok h.look) noY_ok (mixC_det cfg4_ok h.look) noY_det none
def turnI (l:List (Int × Int))(j:Nat):List (Int × Int):=l.drop j++l.take j
theorem flat_split (l:List (Int × Int))(j:Nat):flat elP.fl l=flat elP.fl (l.take j)++flat elP.fl (l.drop j):=by
 rw [← flat_append,List.take_append_drop]
theorem flat2 (l:List (Int × Int)):(flat elP.fl l).length=l.length*2:=flat_len elP l
theorem flat_drop (l:List (Int × Int))(j:Nat)(h:j≤l.length):(flat elP.fl l).drop (j*2)=flat elP.fl (l.drop j):=by
 rw [flat_split l j]
 refine List.drop_left' ?_
 rw [flat2,List.length_take,Nat.min_eq_left h]
theorem flat_take (l:List (Int × Int))(j:Nat)(h:j≤l.length):(flat elP.fl l).take (j*2)=flat elP.fl (l.take j):=by
 rw [flat_split l j]
 refine List.take_left' ?_
 rw [flat2,List.length_take,Nat.min_eq_left h]
theorem rep_len (n:Nat)(zs:List Value):(rep n zs).length=n*zs.length:=by
 unfold rep
 rw [List.length_flatten,List.map_replicate,List.sum_replicate_nat]
theorem turnI_len (l:List (Int × Int))(j:Nat)(h:j≤l.length):(turnI l j).length=l.length:=by
 unfold turnI
 rw [List.length_append,List.length_drop,List.length_take,Nat.min_eq_left h]
 omega
theorem put_src {l:List (Int × Int)}{j d1 s1:Nat}(hj:j≤l.length)(hd1:d1=j*2)(hs1:s1=(l.length - j)*2):List.take s1 (List.drop d1 (flat elP.fl l))=flat elP.fl (l.drop j):=by
 subst hd1 hs1
 rw [flat_drop l j hj,List.take_of_length_le (by rw [flat2,List.length_drop];exact Nat.le_refl _)]
theorem turn_cells {l:List (Int × Int)}{j N o0 s1 d1 o1 s2 d2:Nat}{a b:Value}(hj:j≤l.length)(hN:N=l.length)(h0:o0=0)(hd1:d1=j*2)(hs1:s1=(l.length - j)*2)(ho1:o1=(l.length - j)*2)(hd2:d2=0)(hs2:s2=j*2) :
  putN (putN (rep N [a,b]) o0 (List.take s1 (List.drop d1 (flat elP.fl l)))) o1 (List.take s2 (List.drop d2 (flat elP.fl l)))=flat elP.fl (turnI l j):=by
 subst hN h0 ho1 hd2 hs2
 rw [put_src hj hd1 hs1,List.drop_zero,flat_take l j hj,turnI,flat_append]
 have e1:(flat elP.fl (l.drop j)).length=(l.length - j)*2:=by rw [flat2,List.length_drop]
 have e2:(flat elP.fl (l.take j)).length=j*2:=by rw [flat2,List.length_take,Nat.min_eq_left hj]
 have e3:(rep l.length [a,b]).length=l.length*2:=rep_len _ _
 have e4:List.drop ((l.length - j)*2+j*2) (flat elP.fl (l.drop j)++List.drop ((l.length - j)*2) (rep l.length [a,b]))=[]:=List.drop_eq_nil_of_le (by rw [List.length_append,List.length_drop,e1,e3];omega)
 unfold putN
 rw [List.take_zero,List.nil_append,e1,e2,Nat.zero_add,List.take_left' e1,e4,List.append_nil]
theorem put_len {l:List (Int × Int)}{j N o0 s1 d1:Nat}{a b:Value}(hj:j≤l.length)(hN:N=l.length)(h0:o0=0)(hd1:d1=j*2)(hs1:s1=(l.length - j)*2) :
  (putN (rep N [a,b]) o0 (List.take s1 (List.drop d1 (flat elP.fl l)))).length=l.length*2:=by
 subst hN h0
 have e3:(rep l.length [a,b]).length=l.length*2:=rep_len _ _
 rw [put_src hj hd1 hs1,putN_length (by rw [flat2,List.length_drop,e3];omega),e3]
theorem cA_subN (a b:Nat):cfgS.A.subN a b=a - b:=rfl
theorem cA_toN (a:Int):cfgS.A.toN a=a.toNat:=rfl
theorem c4A:cfg4.A=cfgS.A:=rfl
theorem Yields_at {l:List (Int × Int)}{h:Heap}{nx q n c:Nat}(hl:0<l.length)(hn:n=l.length)(hc:c=l.length)(hq:∃ cs,look h q=some (.cells true false 2 cs)∧cs=flat elP.fl l):Yields elP l none (.slice (some ⟨q,0,none⟩) n c) h nx:=by
 obtain⟨cs,hq,hcs⟩:=hq
 subst hn hc hcs
 exact Yields_own elP hl hq
end Go.Aw
end

noncomputable section
namespace Go.Aw
set_option maxRecDepth 100000
def prv (l:List (Int × Int))(i:Nat):Int × Int:=at2 l ((i+l.length - 1) % l.length)
def keptB (l:List (Int × Int))(i:Nat):Bool:=!decide (turnS (prv l i) (at2 l i) (nxt l i)=0)
def rawI (l:List (Int × Int)):Nat→List (Int × Int)
 |0=>[]
 |i+1=>rawI l i++(if keptB l i=true then [at2 l i] else [])
def dirI (l:List (Int × Int)):List (Int × Int):=if areaI l l.length<0 then l.reverse else l
def topI (l:List (Int × Int)):List (Int × Int):=turnI l (idxP (minI l (l.length - 1)) l 0).toNat
def norI (l:List (Int × Int)):List (Int × Int):=topI (dirI (rawI l l.length))
theorem rawI_mem (l:List (Int × Int)):∀ i,i≤l.length→∀ p∈rawI l i,p∈l
 |0,_,p,h=>by cases h
 |i+1,hi,p,h=>by
  unfold rawI at h
  rcases List.mem_append.1 h with h|h
  ·exact rawI_mem l i (by omega) p h
  ·split at h
   ·rw [List.mem_singleton] at h
    rw [h,at2_eq (show i<l.length by omega)]
    exact List.getElem_mem _
   ·cases h
theorem rawI_right {l:List (Int × Int)}(h:l.all rightS=true)(i:Nat)(hi:i≤l.length):(rawI l i).all rightS=true :=
 List.all_eq_true.2 fun p hp=>List.all_eq_true.1 h p (rawI_mem l i hi p hp)
theorem minI_mem (l:List (Int × Int)):∀ i,i<l.length→minI l i∈l
 |0,h=>by
  unfold minI
  rw [at2_eq h]
  exact List.getElem_mem _
 |i+1,h=>by
  unfold minI
  split
  ·rw [at2_eq h]
   exact List.getElem_mem _
  ·exact minI_mem l i (by omega)
theorem idxP_mem {p:Int × Int}:∀ {l:List (Int × Int)} (i:Nat),p∈l→(i:Int)≤idxP p l i∧idxP p l i<i+l.length
 |[],i,h=>by cases h
 |q::r,i,h=>by
  unfold idxP
  split
  ·simp;omega
  ·rename_i hq
   have hm:p∈r:=by
    cases h with
    |head=>exact absurd (show eqP p p=true by simp [eqP]) hq
    |tail _ h=>exact h
   have:=idxP_mem (i+1) hm
   simp only [List.length_cons]
   omega
theorem tmod_prev {i n:Nat}(h:0<i+n):((i:Int)+(n:Int) - 1).tmod (n:Int)=((i+n - 1) % n:Nat):=by
 have e:(i:Int)+(n:Int) - 1=((i+n - 1:Nat):Int):=by omega
 rw [e]
 exact (Int.ofNat_tmod _ _).symm
theorem LsAt_n {α:Type}(E:El α){l:List α}{n c k:Nat}{wr g:Bool}{sz:Nat}{h:Heap}(hn:n=l.length)(hk:look h k=some (.cells wr g sz (flat E.fl l))):LsAt E h (.slice (some ⟨k,0,none⟩) n c) l:=by
 subst hn
 exact⟨rfl,wr,g,sz,_,hk,by rw [List.drop_zero,List.take_length]⟩
def S85 (l:List (Int × Int)):List Value→Option (Bool × List (Int × Int) × Option Int)
 |[]=>some (goodL l&&decide (0<(rawI l l.length).length),norI l,none)
 |_=>none
theorem S85_inv {l out:List (Int × Int)}{r:List Value}{e:Option Int}(hs:S85 l r=some (true,out,e)):r=[]∧goodP l∧0<(rawI l l.length).length∧out=norI l∧e=none:=by
 unfold S85 at hs
 split at hs
 ·injection hs with hs;injection hs with h1 h2;injection h2 with h2 h3
  simp only [Bool.and_eq_true,decide_eq_true_eq] at h1
  exact⟨rfl,goodL_iff.1 h1.1,h1.2,h2.symm,h3.symm⟩
 ·cases hs
def e85 (l:List (Int × Int))(c:Nat)(v:Value)(j:Int):List (Nat × Value):=[(0,.slice (some ⟨0,0,none⟩) l.length c),(3,v),(6,.slice (some ⟨0,0,none⟩) l.length c),(7,iv l.length),(8,iv j)]
def h85 (l R:List (Int × Int)):Heap:=[(0,.cells false true 2 (flat elP.fl l)),(1,.cells true false 2 (flat elP.fl R))]
def X85:Nat × XF:=(36,rfX elP elP S85)
attribute [local irreducible] rawI turnS turnI minI idxP norI areaI in
theorem x85:XOK Go.Proofs.Tryz.prog X85.1 X85.2:=rfX_ok elP elP (s:=S85) (f:=36) (bodyN_calls (xl:=[X55,X83,X109,X125,X124]) (.cons x55 (.cons x83 (.cons x109 (.cons x125 (.cons x124 .nil))))) [88,75,110]) fun l r out e hs=>by
 obtain⟨rfl,⟨hl3,hl2,hall,hnd⟩,hpos,rfl,rfl⟩:=S85_inv hs
 refine⟨rfl,fun c=>?_⟩
 clear hs
 (conv=>whnf)
 refine⟨fun n e h nx=>∃ (i:Nat) (j:Int),j=i∧i≤l.length∧n=l.length - i ∧
  ((rawI l i=[]∧e=e85 l c (.slice none 0 0) j∧h=hP l∧nx=1)∨(∃ R,R=rawI l i∧0<R.length∧R.length≤i∧e=e85 l c (.slice (some ⟨1,0,none⟩) R.length R.length) j∧h=h85 l R∧nx=2)),⟨l.length,?_⟩,?_⟩
 ·refine Into_id (e0:=e85 l c (.slice none 0 0) 0) (h0:=hP l) (n0:=1) ⟨0,0,rfl,Nat.zero_le _,rfl,.inl ⟨by unfold rawI;rfl,rfl,rfl,rfl⟩⟩ ?_ ?_ (by decide)
  ·unfold e85
   ((repeat' refine iE rfl rfl ?_);exact iN)
  ·unfold hP
   ((repeat'(first|refine iF rfl rfl ?_|refine iJ rfl rfl rfl rfl ?_));exact iN)
 ·rintro n e h nx ⟨i,j,hj,hi,rfl,⟨hR,rfl,rfl,rfl⟩|⟨R,hR,hR0,hRi,rfl,rfl,rfl⟩⟩
  ·unfold e85 hP
   ((conv=>whnf);refine bm (fun g1=>?_) (fun g1=>?_))
   ·have hlt:i<l.length:=by simp [cfgS,std] at g1;omega
    have hn:(i+1) % l.length<l.length:=Nat.mod_lt _ (by omega)
    have hp:(i+l.length - 1) % l.length<l.length:=Nat.mod_lt _ (by omega)
    have tn:(j+1).tmod (l.length:Int)=((i+1) % l.length:Nat):=by rw [hj];exact tmod_nat
    have tp:(j+(l.length:Int) - 1).tmod (l.length:Int)=((i+l.length - 1) % l.length:Nat):=by rw [hj];exact tmod_prev (by omega)
    have w1:=rightS_wide (all_at hall hlt)
    have w2:=rightS_wide (all_at hall hn)
    have w3:=rightS_wide (all_at hall hp)
    repeat' first
     |(((conv=>whnf);refine bm (fun g=>?_) (fun g=>?_)))
     |((conv=>whnf)
       refine boL (getP l hlt ?_) ?_
       ·simp [cfgS,std];omega)
     |((conv=>whnf)
       refine boL (getP l hn ?_) ?_
       ·show 0+((j+1).tmod (l.length:Int)).toNat*2=_
        rw [tn,Int.toNat_natCast,Nat.zero_add])
     |((conv=>whnf)
       refine boL (getP l hp ?_) ?_
       ·show 0+((j+(l.length:Int) - 1).tmod (l.length:Int)).toNat*2=_
        rw [tp,Int.toNat_natCast,Nat.zero_add])
    all_goals (conv=>whnf)
    ·rename_i gk
     have hk:keptB l i=true:=gk
     have hr:rawI l (i+1)=[at2 l i]:=by
      unfold rawI
      rw [hR,if_pos hk]
      rfl
     refine⟨l.length - (i+1),by omega,?_⟩
     refine Into_mv (e0:=e85 l c (.slice (some ⟨1,0,none⟩) 1 1) (j+1)) (h0:=h85 l [at2 l i]) (n0:=2) 1 3 (by decide) (by decide)
      ⟨i+1,j+1,by omega,by omega,rfl,.inr ⟨[at2 l i],hr.symm,Nat.one_pos,Nat.succ_le_succ (Nat.zero_le _),rfl,rfl,rfl⟩⟩ ?_ ?_ ?_
     ·unfold e85
      ((repeat' refine iE rfl rfl ?_);exact iN)
     ·unfold h85
      ((repeat'(first|refine iF rfl rfl ?_|refine iJ rfl rfl rfl rfl ?_));exact iN)
     ·unfold h85
      ((repeat' refine iK rfl ?_);exact iN)
    rotate_left
    ·rename_i gk
     have hk:keptB l i=false:=gk
     have hr:rawI l (i+1)=[]:=by
      unfold rawI
      rw [hR,if_neg (by rw [hk];decide)]
      rfl
     refine⟨l.length - (i+1),by omega,?_⟩
     refine Into_id (e0:=e85 l c (.slice none 0 0) (j+1)) (h0:=hP l) (n0:=1) ⟨i+1,j+1,by omega,by omega,rfl,.inl ⟨hr,rfl,rfl,rfl⟩⟩ ?_ ?_ (by decide)
     ·unfold e85
      ((repeat' refine iE rfl rfl ?_);exact iN)
     ·unfold hP
      ((repeat'(first|refine iF rfl rfl ?_|refine iJ rfl rfl rfl rfl ?_));exact iN)
    all_goals exfalso
    all_goals first
     |(simp only [cA_add,cA_sub,cA_fits,cA_lt,cA_le,cA_eq,cA_notB,cA_andB,cA_num,fitsK,Bool.and_eq_false_iff,Bool.not_eq_false',decide_eq_true_eq,decide_eq_false_iff_not] at g;omega)
     |(simp only [cA_rem,cA_add,cA_sub,cA_lt,cA_le,cA_andB,cA_num,Bool.and_eq_false_iff,decide_eq_false_iff_not] at g
       rw [tn] at g
       omega)
     |(simp only [cA_rem,cA_add,cA_sub,cA_lt,cA_le,cA_andB,cA_num,Bool.and_eq_false_iff,decide_eq_false_iff_not] at g
       rw [tp] at g
       omega)
     |(have hg:(wide (prv l i)&&wide (at2 l i)&&wide (nxt l i))=false:=g
       unfold prv nxt at hg
       rw [w1,w2,w3] at hg
       cases hg)
     |trace_state
   ·exfalso
    simp only [cA_lt,cA_num,decide_eq_false_iff_not] at g1
    rw [show i=l.length by omega] at hR
    rw [hR] at hpos
    cases hpos
  ·unfold e85 h85
   ((conv=>whnf);refine bm (fun g1=>?_) (fun g1=>?_))
   ·have hlt:i<l.length:=by simp [cfgS,std] at g1;omega
    have hn:(i+1) % l.length<l.length:=Nat.mod_lt _ (by omega)
    have hp:(i+l.length - 1) % l.length<l.length:=Nat.mod_lt _ (by omega)
    have tn:(j+1).tmod (l.length:Int)=((i+1) % l.length:Nat):=by rw [hj];exact tmod_nat
    have tp:(j+(l.length:Int) - 1).tmod (l.length:Int)=((i+l.length - 1) % l.length:Nat):=by rw [hj];exact tmod_prev (by omega)
    have w1:=rightS_wide (all_at hall hlt)
    have w2:=rightS_wide (all_at hall hn)
    have w3:=rightS_wide (all_at hall hp)
    repeat' first
     |(exfalso
       have hx:Nat.ble (R.length+1) R.length=true:=g
       have:=Nat.le_of_ble_eq_true hx
       omega)
     |(((conv=>whnf);refine bm (fun g=>?_) (fun g=>?_)))
     |((conv=>whnf)
       refine boL (getP l hlt ?_) ?_
       ·simp [cfgS,std];omega)
     |((conv=>whnf)
       refine boL (getP l hn ?_) ?_
       ·show 0+((j+1).tmod (l.length:Int)).toNat*2=_
        rw [tn,Int.toNat_natCast,Nat.zero_add])
     |((conv=>whnf)
       refine boL (getP l hp ?_) ?_
       ·show 0+((j+(l.length:Int) - 1).tmod (l.length:Int)).toNat*2=_
        rw [tp,Int.toNat_natCast,Nat.zero_add])
    all_goals (conv=>whnf)
    case refine_2.inr.refine_1.refine_1.refine_2.refine_1.refine_1.refine_1.refine_1.refine_2.refine_1.refine_1.refine_1.refine_2.refine_1.refine_1.refine_2.refine_1.refine_1 =>
     rename_i gk _ _
     have hk:keptB l i=true:=gk
     have hr:rawI l (i+1)=R++[at2 l i]:=by
      rw [hR]
      conv=>lhs;unfold rawI
      rw [if_pos hk]
     refine⟨l.length - (i+1),by omega,?_⟩
     refine Into_mv (e0:=e85 l c (.slice (some ⟨1,0,none⟩) (R.length+1) (R.length+1)) (j+1)) (h0:=h85 l (R++[at2 l i])) (n0:=2) 1 4 (by decide) (by decide)
      ⟨i+1,j+1,by omega,by omega,rfl,.inr ⟨R++[at2 l i],hr.symm,by rw [List.length_append];exact Nat.succ_pos _,by rw [List.length_append];exact Nat.succ_le_succ hRi,by rw [List.length_append];rfl,rfl,rfl⟩⟩ ?_ ?_ ?_
     ·unfold e85
      ((repeat' refine iE rfl rfl ?_);exact iN)
     ·unfold h85
      ((repeat'(first|refine iW rfl rfl (ObjRen_j (flat_g elP _) (flat_grow R _)) ?_|refine iF rfl rfl ?_|refine iJ rfl rfl rfl rfl ?_));exact iN)
     ·unfold h85
      ((repeat' refine iK rfl ?_);exact iN)
    case refine_2.inr.refine_1.refine_1.refine_2.refine_1.refine_1.refine_1.refine_1.refine_2.refine_1.refine_1.refine_1.refine_2.refine_1.refine_2.refine_1 =>
     rename_i gk
     have hk:keptB l i=false:=gk
     have hr:rawI l (i+1)=R:=by
      rw [hR]
      conv=>lhs;unfold rawI
      rw [if_neg (by rw [hk];decide),List.append_nil]
     refine⟨l.length - (i+1),by omega,?_⟩
     refine Into_id (e0:=e85 l c (.slice (some ⟨1,0,none⟩) R.length R.length) (j+1)) (h0:=h85 l R) (n0:=2) ⟨i+1,j+1,by omega,by omega,rfl,.inr ⟨R,hr.symm,hR0,by omega,rfl,rfl,rfl⟩⟩ ?_ ?_ (by decide)
     ·unfold e85
      ((repeat' refine iE rfl rfl ?_);exact iN)
     ·unfold h85
      ((repeat'(first|refine iF rfl rfl ?_|refine iJ rfl rfl rfl rfl ?_));exact iN)
    all_goals exfalso
    all_goals first
     |(simp only [cA_add,cA_sub,cA_fits,cA_lt,cA_le,cA_eq,cA_notB,cA_andB,cA_num,fitsK,Bool.and_eq_false_iff,Bool.not_eq_false',decide_eq_true_eq,decide_eq_false_iff_not] at g;omega)
     |(simp only [cA_rem,cA_add,cA_sub,cA_lt,cA_le,cA_andB,cA_num,Bool.and_eq_false_iff,decide_eq_false_iff_not] at g
       rw [tn] at g
       omega)
     |(simp only [cA_rem,cA_add,cA_sub,cA_lt,cA_le,cA_andB,cA_num,Bool.and_eq_false_iff,decide_eq_false_iff_not] at g
       rw [tp] at g
       omega)
     |(have hg:(wide (prv l i)&&wide (at2 l i)&&wide (nxt l i))=false:=g
       unfold prv nxt at hg
       rw [w1,w2,w3] at hg
       cases hg)
     |(have hf:(flat elP.fl R).length=R.length*2:=by rw [flat_len];rfl
       simp only [cA_andB,hf] at g
       revert g
       simp
       omega)
     |trace_state
   ·have hge:i=l.length:=by simp only [cA_lt,cA_num,decide_eq_false_iff_not] at g1;omega
    subst hge
    have hRl:R.length≤200:=by omega
    have hRr:R.all rightS=true:=by rw [hR];exact rawI_right hall _ (Nat.le_refl _)
    unfold norI
    rw [← hR]
    (conv=>whnf)
    refine⟨R,LsAt_n elP rfl rfl,?_⟩
    ((conv=>whnf);refine bm (fun g2=>?_) (fun g2=>?_))
    ·((conv=>whnf);refine bm (fun g3=>?_) (fun g3=>?_))
     ·(conv=>whnf)
      refine⟨R,rfl,rfl,?_⟩
      ((conv=>whnf);refine bm (fun g4=>?_) (fun g4=>?_))
      ·have hneg:areaI R R.length<0:=by simpa only [cA_lt,decide_eq_true_eq] using g3
       rw [show dirI R=R.reverse by unfold dirI;rw [if_pos hneg]]
       have hGl:R.reverse.length=R.length:=List.length_reverse
       generalize R.reverse=G at hGl ⊢
       (conv=>whnf)
       refine⟨G,LsAt_n elP hGl.symm rfl,?_⟩
       ((conv=>whnf);refine bm (fun g5=>?_) (fun g5=>?_))
       ·(conv=>whnf)
        refine⟨G,LsAt_n elP hGl.symm rfl,?_⟩
        ((conv=>whnf);refine bm (fun g6=>?_) (fun g6=>?_))
        ·have hjm:=idxP_mem (p:=minI G (G.length - 1)) (l:=G) 0 (minI_mem G _ (by omega))
         unfold topI
         obtain⟨jj,hjj⟩:∃ jj:Int,jj=idxP (minI G (G.length - 1)) G 0:=⟨_,rfl⟩
         have hj0:0≤jj:=by rw [hjj];simpa using hjm.1
         have hj1:jj<(R.length:Int):=by rw [hjj,← hGl];simpa using hjm.2
         have hjE:idxP ((minI G (G.length - 1)).1,(minI G (G.length - 1)).2) G 0=jj:=hjj.symm
         rw [hjE]
         try rw [← hjj]
         clear hjE hjj hjm g6 g5
         repeat' first
          |(exfalso
            simp only [c4A,cA_add,cA_sub,cA_fits,cA_lt,cA_le,cA_andB,cA_num,cA_subN,cA_toN,fitsK,Bool.and_eq_false_iff,decide_eq_false_iff_not] at g
            omega)
          |(exfalso
            have hc:Nat.ble (0+(R.length - jj.toNat)) ((0:Int)+((R.length - jj.toNat:Nat):Int)+((jj.toNat:Nat):Int) - (0 - 0)).toNat=false:=g
            rw [Nat.ble_eq_true_of_le (by omega)] at hc
            cases hc)
          |(exfalso
            have hc:Nat.ble (0+(R.length - jj.toNat)+jj.toNat) ((0:Int)+((R.length - jj.toNat:Nat):Int)+((jj.toNat:Nat):Int) - (0 - 0)).toNat=false:=g
            rw [Nat.ble_eq_true_of_le (by omega)] at hc
            cases hc)
          |(((conv=>whnf);refine bm (fun g=>?_) (fun g=>?_)))
         all_goals (conv=>whnf)
         ·refine Yields_at (q:=3) (n:=0+(R.length - jj.toNat)+jj.toNat) (c:=((0:Int)+((R.length - jj.toNat:Nat):Int)+((jj.toNat:Nat):Int) - (0 - 0)).toNat) (nx:=4) ?_ ?_ ?_ ?hq
          case hq=>refine⟨_,rfl,?_⟩;exact turn_cells (l:=G) (j:=jj.toNat) (N:=((0:Int)+((R.length - jj.toNat:Nat):Int)+((jj.toNat:Nat):Int) - (0 - 0)).toNat) (o0:=0+0*2) (s1:=(R.length - jj.toNat)*2) (d1:=0+jj.toNat*2) (o1:=0+(0+(R.length - jj.toNat))*2) (s2:=jj.toNat*2) (d2:=0) (a:=iv 0) (b:=iv 0) (by omega) (by omega) (by omega) (by omega) (by omega) (by omega) (by omega) (by omega)
          ·rw [turnI_len _ _ (by omega)];omega
          ·rw [turnI_len _ _ (by omega)];omega
          ·rw [turnI_len _ _ (by omega)];omega
         all_goals exfalso
         all_goals first
          |(have hx:0+jj.toNat*2+(R.length - jj.toNat)*2≤(flat elP.fl G).length:=by rw [flat2];omega
            have hc:Nat.ble (0+jj.toNat*2+(R.length - jj.toNat)*2) (flat elP.fl G).length=false:=g
            rw [Nat.ble_eq_true_of_le hx] at hc
            cases hc)
          |(have hx:0+jj.toNat*2≤(flat elP.fl G).length:=by rw [flat2];omega
            have hc:Nat.ble (0+jj.toNat*2) (flat elP.fl G).length=false:=g
            rw [Nat.ble_eq_true_of_le hx] at hc
            cases hc)
          |(have hc:Nat.ble (0+(0+(R.length - jj.toNat))*2) (rep ((0:Int)+((R.length - jj.toNat:Nat):Int)+((jj.toNat:Nat):Int) - (0 - 0)).toNat [iv 0,iv 0]).length=false:=g
            rw [rep_len] at hc
            rw [Nat.ble_eq_true_of_le (by show _≤_*2;omega)] at hc
            cases hc)
          |(have hc:Nat.ble (0+(0+(R.length - jj.toNat)+jj.toNat)*2) (putN (rep ((0:Int)+((R.length - jj.toNat:Nat):Int)+((jj.toNat:Nat):Int) - (0 - 0)).toNat [iv 0,iv 0]) (0+0*2) (List.take ((R.length - jj.toNat)*2) (List.drop (0+jj.toNat*2) (flat elP.fl G)))).length=false:=g
            rw [put_len (j:=jj.toNat) (by omega) (by omega) rfl (by omega) (by omega)] at hc
            rw [Nat.ble_eq_true_of_le (by omega)] at hc
            cases hc)
          |trace_state
        ·exfalso
         have hg:decide (G.length≤1000000000)=false:=g6
         rw [decide_eq_false_iff_not] at hg
         omega
       ·exfalso
        have hg:(decide (0<G.length)&&decide (G.length≤1000000000))=false:=g5
        simp only [Bool.and_eq_false_iff,decide_eq_false_iff_not] at hg
        omega
      ·exfalso
       have hg:decide (R.length≤1000000000)=false:=g4
       rw [decide_eq_false_iff_not] at hg
       omega
     ·have hneg:¬ areaI R R.length<0:=by simpa only [cA_lt,decide_eq_false_iff_not] using g3
      rw [show dirI R=R by unfold dirI;rw [if_neg hneg]]
      have hGl:R.length=R.length:=rfl
      (conv=>whnf)
      refine⟨R,LsAt_n elP hGl.symm rfl,?_⟩
      ((conv=>whnf);refine bm (fun g5=>?_) (fun g5=>?_))
      ·(conv=>whnf)
       refine⟨R,LsAt_n elP hGl.symm rfl,?_⟩
       ((conv=>whnf);refine bm (fun g6=>?_) (fun g6=>?_))
       ·have hjm:=idxP_mem (p:=minI R (R.length - 1)) (l:=R) 0 (minI_mem R _ (by omega))
        unfold topI
        obtain⟨jj,hjj⟩:∃ jj:Int,jj=idxP (minI R (R.length - 1)) R 0:=⟨_,rfl⟩
        have hj0:0≤jj:=by rw [hjj];simpa using hjm.1
        have hj1:jj<(R.length:Int):=by rw [hjj,← hGl];simpa using hjm.2
        have hjE:idxP ((minI R (R.length - 1)).1,(minI R (R.length - 1)).2) R 0=jj:=hjj.symm
        rw [hjE]
        try rw [← hjj]
        clear hjE hjj hjm g6 g5
        repeat' first
         |(exfalso
           simp only [c4A,cA_add,cA_sub,cA_fits,cA_lt,cA_le,cA_andB,cA_num,cA_subN,cA_toN,fitsK,Bool.and_eq_false_iff,decide_eq_false_iff_not] at g
           omega)
         |(exfalso
           have hc:Nat.ble (0+(R.length - jj.toNat)) ((0:Int)+((R.length - jj.toNat:Nat):Int)+((jj.toNat:Nat):Int) - (0 - 0)).toNat=false:=g
           rw [Nat.ble_eq_true_of_le (by omega)] at hc
           cases hc)
         |(exfalso
           have hc:Nat.ble (0+(R.length - jj.toNat)+jj.toNat) ((0:Int)+((R.length - jj.toNat:Nat):Int)+((jj.toNat:Nat):Int) - (0 - 0)).toNat=false:=g
           rw [Nat.ble_eq_true_of_le (by omega)] at hc
           cases hc)
         |(((conv=>whnf);refine bm (fun g=>?_) (fun g=>?_)))
        all_goals (conv=>whnf)
        ·refine Yields_at (q:=3) (n:=0+(R.length - jj.toNat)+jj.toNat) (c:=((0:Int)+((R.length - jj.toNat:Nat):Int)+((jj.toNat:Nat):Int) - (0 - 0)).toNat) (nx:=4) ?_ ?_ ?_ ?hq
         case hq=>refine⟨_,rfl,?_⟩;exact turn_cells (l:=R) (j:=jj.toNat) (N:=((0:Int)+((R.length - jj.toNat:Nat):Int)+((jj.toNat:Nat):Int) - (0 - 0)).toNat) (o0:=0+0*2) (s1:=(R.length - jj.toNat)*2) (d1:=0+jj.toNat*2) (o1:=0+(0+(R.length - jj.toNat))*2) (s2:=jj.toNat*2) (d2:=0) (a:=iv 0) (b:=iv 0) (by omega) (by omega) (by omega) (by omega) (by omega) (by omega) (by omega) (by omega)
         ·rw [turnI_len _ _ (by omega)];omega
         ·rw [turnI_len _ _ (by omega)];omega
         ·rw [turnI_len _ _ (by omega)];omega
        all_goals exfalso
        all_goals first
         |(have hx:0+jj.toNat*2+(R.length - jj.toNat)*2≤(flat elP.fl R).length:=by rw [flat2];omega
           have hc:Nat.ble (0+jj.toNat*2+(R.length - jj.toNat)*2) (flat elP.fl R).length=false:=g
           rw [Nat.ble_eq_true_of_le hx] at hc
           cases hc)
         |(have hx:0+jj.toNat*2≤(flat elP.fl R).length:=by rw [flat2];omega
           have hc:Nat.ble (0+jj.toNat*2) (flat elP.fl R).length=false:=g
           rw [Nat.ble_eq_true_of_le hx] at hc
           cases hc)
         |(have hc:Nat.ble (0+(0+(R.length - jj.toNat))*2) (rep ((0:Int)+((R.length - jj.toNat:Nat):Int)+((jj.toNat:Nat):Int) - (0 - 0)).toNat [iv 0,iv 0]).length=false:=g
           rw [rep_len] at hc
           rw [Nat.ble_eq_true_of_le (by show _≤_*2;omega)] at hc
           cases hc)
         |(have hc:Nat.ble (0+(0+(R.length - jj.toNat)+jj.toNat)*2) (putN (rep ((0:Int)+((R.length - jj.toNat:Nat):Int)+((jj.toNat:Nat):Int) - (0 - 0)).toNat [iv 0,iv 0]) (0+0*2) (List.take ((R.length - jj.toNat)*2) (List.drop (0+jj.toNat*2) (flat elP.fl R)))).length=false:=g
           rw [put_len (j:=jj.toNat) (by omega) (by omega) rfl (by omega) (by omega)] at hc
           rw [Nat.ble_eq_true_of_le (by omega)] at hc
           cases hc)
         |trace_state
       ·exfalso
        have hg:decide (R.length≤1000000000)=false:=g6
        rw [decide_eq_false_iff_not] at hg
        omega
      ·exfalso
       have hg:(decide (0<R.length)&&decide (R.length≤1000000000))=false:=g5
       simp only [Bool.and_eq_false_iff,decide_eq_false_iff_not] at hg
       omega
    ·exfalso
     have hg:(decide (R.length≤400)&&R.all rightS)=false:=g2
     rw [hRr,Bool.and_true,decide_eq_false_iff_not] at hg
     omega
end Go.Aw
end

noncomputable section
namespace Go.Aw
set_option maxRecDepth 100000
def lessB (a b:Int × Int):Bool:=decide (a.1<b.1) || (decide (a.1=b.1)&&decide (a.2<b.2))
theorem dirI_len (l:List (Int × Int)):(dirI l).length=l.length:=by
 unfold dirI
 split
 ·rw [List.length_reverse]
 ·rfl
def leastI (o:List (Int × Int)):Nat→Nat
 |0=>0
 |i+1=>if lessB (at2 o i) (at2 o (leastI o i))=true then i else leastI o i
theorem leastI_lt (o:List (Int × Int)):∀ i,leastI o i≤i - 1
 |0=>Nat.le_refl _
 |i+1=>by
  have:=leastI_lt o i
  unfold leastI
  split <;> omega
def keptO (o:List (Int × Int))(k:Nat):Bool:=!decide (turnS (at2 o ((k+o.length - 1) % o.length)) (at2 o (k % o.length)) (at2 o ((k+1) % o.length))=0)
def segI (o:List (Int × Int))(f:Nat):Nat→List (Int × Int)
 |0=>[]
 |n+1=>segI o f n++(if keptO o (f+n)=true then [at2 o ((f+n) % o.length)] else [])
theorem segI_len (o:List (Int × Int))(f:Nat):∀ n,(segI o f n).length≤n
 |0=>Nat.le_refl _
 |n+1=>by
  have:=segI_len o f n
  unfold segI
  rw [List.length_append]
  split
  ·simp;omega
  ·simp;omega
def norR (l:List (Int × Int)):List (Int × Int):=segI (dirI l) (leastI (dirI l) l.length) l.length
def norO (l:List (Int × Int)):List (Int × Int):=if polyE l=0 then norR l else []
end Go.Aw
end

noncomputable section
namespace Go.Aw
def cr (a b:Int × Int):Int:=a.1*b.2 - b.1*a.2
def cyc (o:List (Int × Int))(k:Nat):Int × Int:=at2 o (k % o.length)
theorem cyc_lt {o:List (Int × Int)}{k:Nat}(h:k<o.length):cyc o k=at2 o k:=by
 unfold cyc
 rw [Nat.mod_eq_of_lt h]
theorem cyc_add (o:List (Int × Int))(k:Nat):cyc o (k+o.length)=cyc o k:=by
 unfold cyc
 rw [Nat.add_mod_right]
def sumC (o:List (Int × Int))(f:Nat):Nat→Int
 |0=>0
 |k+1=>sumC o f k+cr (cyc o (f+k)) (cyc o (f+k+1))
theorem sumC_head (o:List (Int × Int))(f:Nat):∀ k,sumC o f (k+1)=cr (cyc o f) (cyc o (f+1))+sumC o (f+1) k
 |0=>by simp [sumC]
 |k+1=>by
  rw [sumC,sumC_head o f k,sumC]
  rw [show f+(k+1)=f+1+k by omega]
  omega
theorem sumC_turn (o:List (Int × Int)):∀ f,sumC o f o.length=sumC o 0 o.length
 |0=>rfl
 |f+1=>by
  have h1:=sumC_head o f o.length
  have h2:sumC o f (o.length+1)=sumC o f o.length+cr (cyc o (f+o.length)) (cyc o (f+o.length+1)):=rfl
  rw [cyc_add,show f+o.length+1=f+1+o.length by omega,cyc_add] at h2
  have h3:=sumC_turn o f
  omega
theorem areaI_sum {o:List (Int × Int)}:∀ {k},k≤o.length→areaI o k=sumC o 0 k
 |0,_=>rfl
 |k+1,h=>by
  rw [areaI,sumC,areaI_sum (show k≤o.length by omega),Nat.zero_add,cyc_lt (show k<o.length by omega)]
  rfl
theorem turnI_at {o:List (Int × Int)}{j i:Nat}(hj:j<o.length)(hi:i<o.length):at2 (turnI o j) i=cyc o (j+i):=by
 rw [at2_eq (by rw [turnI_len _ _ (by omega)];exact hi)]
 unfold turnI
 by_cases h:i<o.length - j
 ·rw [List.getElem_append_left (by rw [List.length_drop];exact h),List.getElem_drop,cyc_lt (show j+i<o.length by omega),at2_eq]
 ·rw [List.getElem_append_right (by rw [List.length_drop];omega),List.getElem_take]
  have e:j+i=(j+i - o.length)+o.length:=by omega
  rw [e,cyc_add,cyc_lt (by omega),at2_eq (by omega)]
  congr 1
  rw [List.length_drop]
  omega
theorem turnI_cyc {o:List (Int × Int)}{j:Nat}(hj:j<o.length)(i:Nat):cyc (turnI o j) i=cyc o (j+i):=by
 have hl:=turnI_len o j (by omega)
 have h0:0<o.length:=by omega
 have hm:i % o.length<o.length:=Nat.mod_lt _ h0
 have e:cyc (turnI o j) i=at2 (turnI o j) (i % o.length):=by unfold cyc;rw [hl]
 rw [e,turnI_at hj hm]
 unfold cyc
 congr 1
 rw [Nat.add_mod,Nat.mod_mod,← Nat.add_mod]
theorem sumC_turnI {o:List (Int × Int)}{j:Nat}(hj:j<o.length)(f:Nat):∀ k,sumC (turnI o j) f k=sumC o (j+f) k
 |0=>rfl
 |k+1=>by
  rw [sumC,sumC,sumC_turnI hj f k,turnI_cyc hj,turnI_cyc hj]
  rw [show j+(f+k)=j+f+k by omega,show j+(f+k+1)=j+f+k+1 by omega]
theorem area_turn {o:List (Int × Int)}{j:Nat}(hj:j<o.length):areaI (turnI o j) (turnI o j).length=areaI o o.length:=by
 rw [areaI_sum (Nat.le_refl _),areaI_sum (Nat.le_refl _),turnI_len _ _ (by omega),sumC_turnI hj,sumC_turn]
def paI (R:List (Int × Int)):Nat→Int
 |0=>0
 |m+1=>paI R m+cr (at2 R m) (at2 R (m+1))
theorem at2_app {R:List (Int × Int)}{q:Int × Int}{i:Nat}(h:i<R.length):at2 (R++[q]) i=at2 R i:=by
 rw [at2_eq (by rw [List.length_append];omega),at2_eq h,List.getElem_append_left h]
theorem at2_end (R:List (Int × Int))(q:Int × Int):at2 (R++[q]) R.length=q:=by
 rw [at2_eq (by rw [List.length_append];exact Nat.lt_succ_self _),List.getElem_append_right (Nat.le_refl _)]
 simp
theorem paI_app {R:List (Int × Int)}{q:Int × Int}:∀ {m},m<R.length→paI (R++[q]) m=paI R m
 |0,_=>rfl
 |m+1,h=>by
  rw [paI,paI,paI_app (show m<R.length by omega),at2_app (show m<R.length by omega),at2_app h]
theorem areaI_pa {R:List (Int × Int)}:∀ {m},m<R.length→areaI R m=paI R m
 |0,_=>rfl
 |m+1,h=>by
  rw [areaI,paI,areaI_pa (show m<R.length by omega)]
  unfold nxt
  rw [Nat.mod_eq_of_lt h]
  rfl
theorem areaI_close {R:List (Int × Int)}(h:0<R.length):areaI R R.length=paI R (R.length - 1)+cr (at2 R (R.length - 1)) (at2 R 0):=by
 obtain⟨m,hm⟩:∃ m,R.length=m+1:=⟨R.length - 1,by omega⟩
 have e:areaI R (m+1)=areaI R m+cr (at2 R m) (nxt R m):=rfl
 rw [hm,e,areaI_pa (show m<R.length by omega)]
 unfold nxt
 rw [hm,Nat.mod_self]
 rfl
end Go.Aw
end
