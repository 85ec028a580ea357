/-
  Parts of a proof. No condition.
-/
import Derived.Test.YtoekkmbbbllogaaGreatQAt
import Derived.Test.YtoekkmbbbllogaaGreatQAu
import Derived.Test.YtoekkmbbbllogaaGreatQAw
import Derived.Test.YtoekkmbbbllogaaGreatQBa
set_option linter.unusedSimpArgs false
set_option linter.unusedVariables false
noncomputable section
namespace Go.Aw
set_option maxRecDepth 100000
def atT (l:List Tg)(i:Nat):Tg:=l.getD i ((0,0),(0,0),(0,0))
theorem atT_eq {l:List Tg}{i:Nat}(h:i<l.length):atT l i=l[i]:=by
 unfold atT
 rw [List.getD_eq_getElem?_getD,List.getElem?_eq_getElem h]
 rfl
theorem getT (l:List Tg){i o:Nat}(hi:i<l.length)(ho:o=i*6):getN (flat elT.fl l) o 6=some [iv (atT l i).1.1,iv (atT l i).1.2,iv (atT l i).2.1.1,iv (atT l i).2.1.2,iv (atT l i).2.2.1,iv (atT l i).2.2.2]:=by
 rw [atT_eq hi]
 exact flat_get elT l hi ho
end Go.Aw
end

noncomputable section
namespace Go.Aw
set_option maxRecDepth 100000
section
variable {α β:Type}(E1:El α)(E2:El β)
def l3X (s:List α→List β→Option (Bool × Value)):XF:=fun args h nx K=>match args with
 |[a,b]=>∃ l1 l2,LsAt E1 h a l1∧LsAt E2 h b l2∧(match s l1 l2 with|some p=>must p.1 (K p.2 h nx)|none=>False)
 |_=>False
theorem l3X_ok {P:Program}{C:VC}{f:Nat}{s:List α→List β→Option (Bool × Value)}(hC:CallsOK P C)
  (hs:∀ l1 l2 v,s l1 l2=some (true,v)→gT v=true∧∀ c1 c2,C f [.slice (some ⟨0,0,none⟩) l1.length c1,.slice (some ⟨1,0,none⟩) l2.length c2] [(0,.cells false true E1.sz (flat E1.fl l1)),(1,.cells false true E2.sz (flat E2.fl l2))] 2 (fun u _ _=>u=v)):XOK P f (l3X E1 E2 s):=by
 refine (xOf_ok (S:=fun args0 h0 n0 v1 h1 m=>∃ l1 l2 c1 c2,s l1 l2=some (true,v1)∧args0=[.slice (some ⟨0,0,none⟩) l1.length c1,.slice (some ⟨1,0,none⟩) l2.length c2]∧h0=[(0,.cells false true E1.sz (flat E1.fl l1)),(1,.cells false true E2.sz (flat E2.fl l2))]∧n0=2∧h1=[]∧m=0) hC ?_).mono ?_ ?_
 ·rintro args0 h0 n0 v1 h1 m ⟨l1,l2,c1,c2,e1,rfl,rfl,rfl,rfl,rfl⟩
  obtain⟨a2,a3⟩:=hs l1 l2 v1 e1
  exact⟨rfl,_,a3 c1 c2,fun v h nx e=>by rw [e];exact Outc_g a2⟩
 ·intro args h nx K hx
  unfold l3X at hx
  split at hx
  case h_2=>exact hx.elim
  rename_i a b
  obtain⟨l1,l2,hl1,hl2,hx⟩:=hx
  split at hx
  case h_2=>exact hx.elim
  rename_i p e1
  obtain⟨bb,u⟩:=p
  obtain⟨rfl,hx⟩:=must_iff.1 hx
  obtain⟨a2,a3⟩:=hs l1 l2 u e1
  obtain⟨c1,i1⟩:=In_ls (nx:=nx) E1 hl1
  obtain⟨c2,i2⟩:=In_ls (nx:=nx) E2 hl2
  refine⟨_,_,2,u,[],0,⟨l1,l2,c1,c2,e1,rfl,rfl,rfl,rfl,rfl⟩,In_two rfl rfl i1 i2 ⟨_,_,rfl,flat_g E1 l1⟩ ⟨_,_,rfl,flat_g E2 l2⟩,?_⟩
  simp only [past,ownH,shH,app_nil,ren_g a2,Nat.add_zero]
  exact hx
 ·intro args h nx K hx
  unfold l3X at hx
  split at hx
  case h_2=>exact hx.elim
  rename_i a b
  obtain⟨l1,l2,hl1,hl2,hx⟩:=hx
  split at hx
  case h_2=>exact hx.elim
  rename_i p e1
  obtain⟨hb,hx⟩:=must_iff.1 hx
  exact⟨_,_,_,hx,fun K' hk=>⟨l1,l2,hl1,hl2,by rw [e1];exact must_of hb hk⟩⟩
end
def bothE (L:List (Sd × Int))(p q:Int × Int)(d:Int):List (Sd × Int):=addS (addS L (p,q) d) (q,p) (-d)
def triM (L:List (Sd × Int))(t:Tg):List (Sd × Int):=bothE (bothE (bothE L t.1 t.2.1 1) t.2.1 t.2.2 1) t.2.2 t.1 1
def mT (ts:List Tg):Nat→List (Sd × Int)
 |0=>[]
 |i+1=>triM (mT ts i) (atT ts i)
def mN (M:List (Sd × Int))(N:List (Int × Int)):Nat→List (Sd × Int)
 |0=>M
 |i+1=>bothE (mN M N i) (at2 N i) (at2 N ((i+1) % N.length)) (-1)
def okTg (t:Tg):Bool:=(rightS t.1&&rightS t.2.1&&rightS t.2.2)&&decide (turnS t.1 t.2.1 t.2.2=1)
def allZ (L:List (Sd × Int)):Bool:=L.all fun e=>decide (e.2=0)
def chkT (l:List (Int × Int))(ts:List Tg):Bool:=if polyE l=0∧ts.length≤400∧∀ i,i<ts.length→okTg (atT ts i)=true then allZ (mN (mT ts ts.length) (norR l) (norR l).length) else false
theorem chkT_no {l:List (Int × Int)}{ts:List Tg}(h:¬ (polyE l=0∧ts.length≤400∧∀ i,i<ts.length→okTg (atT ts i)=true)):chkT l ts=false:=if_neg h
theorem chkT_yes {l:List (Int × Int)}{ts:List Tg}(h:polyE l=0∧ts.length≤400∧∀ i,i<ts.length→okTg (atT ts i)=true):chkT l ts=allZ (mN (mT ts ts.length) (norR l) (norR l).length):=if_pos h
structure MB (L:List (Sd × Int)) (N:Int):Prop where
 w:MapW L
 b:BndS L N
 n:0≤N
theorem MB.nil:MB [] 0:=⟨MapW.nil,fun _ h=>(by cases h),Int.le_refl _⟩
theorem MB.le {L:List (Sd × Int)}{N M:Int}(h:MB L N)(hm:N≤M):MB L M:=⟨h.w,fun e he=>by have:=h.b e he;omega,Int.le_trans h.n hm⟩
theorem MB.s {L:List (Sd × Int)}{N:Int}(h:MB L N){s:Sd}(hs:sdW s=true){d:Int}(hd : -1≤d∧d≤1):MB (addS L s d) (N+1):=⟨h.w.add hs d,h.b.add h.n hd,by have:=h.n;omega⟩
theorem sdW_of {p q:Int × Int}(hp:wide p=true)(hq:wide q=true):sdW (p,q)=true:=by unfold sdW;rw [hp,hq];rfl
theorem MB.e {L:List (Sd × Int)}{N:Int}(h:MB L N){p q:Int × Int}(hp:wide p=true)(hq:wide q=true){d:Int}(hd : -1≤d∧d≤1):MB (bothE L p q d) (N+2):=by
 have:=(h.s (sdW_of hp hq) hd).s (sdW_of hq hp) (d:=-d) (by omega)
 exact this.le (by omega)
theorem okTg_right {t:Tg}(h:okTg t=true):rightS t.1=true∧rightS t.2.1=true∧rightS t.2.2=true∧turnS t.1 t.2.1 t.2.2=1:=by
 unfold okTg at h
 simp only [Bool.and_eq_true,decide_eq_true_eq] at h
 exact⟨h.1.1.1,h.1.1.2,h.1.2,h.2⟩
theorem MB.t {L:List (Sd × Int)}{N:Int}(h:MB L N){t:Tg}(ht:okTg t=true):MB (triM L t) (N+6):=by
 obtain⟨h1,h2,h3,_⟩:=okTg_right ht
 have:=((h.e (rightS_wide h1) (rightS_wide h2) (d:=1) (by decide)).e (rightS_wide h2) (rightS_wide h3) (d:=1) (by decide)).e (rightS_wide h3) (rightS_wide h1) (d:=1) (by decide)
 exact this.le (by omega)
theorem mT_MB {ts:List Tg}:∀ {i:Nat},(∀ k,k<i→okTg (atT ts k)=true)→MB (mT ts i) (6*i)
 |0,_=>MB.nil
 |i+1,h=>by
  have:=(mT_MB (i:=i) (fun k hk=>h k (by omega))).t (h i (by omega))
  exact this.le (by omega)
theorem mN_MB {M:List (Sd × Int)}{N:List (Int × Int)}{b:Int}(hM:MB M b)(hN:N.all rightS=true):∀ {i:Nat},i≤N.length→MB (mN M N i) (b+2*i)
 |0,_=>hM.le (by omega)
 |i+1,h=>by
  have:=(mN_MB hM hN (i:=i) (by omega)).e (rightS_wide (all_at hN (show i<N.length by omega))) (rightS_wide (all_at hN (Nat.mod_lt (i+1) (show 0<N.length by omega)))) (d:=-1) (by decide)
  exact this.le (by omega)
theorem ObjRen_mapS {ρ:Nat→Nat}{n:Nat}{es es':List (Value × Value)}{L:List (Sd × Int)}(e:es=mapS L)(e':es'=mapS L):ObjRen ρ n (.map es) (.map es'):=by
 subst e e'
 refine⟨?_,?_⟩
 ·unfold mapS
  rw [List.map_map]
  apply List.map_congr_left
  intro p _
  rfl
 ·intro e he
  unfold mapS at he
  obtain⟨p,_,rfl⟩:=List.mem_map.1 he
  exact scS_g rfl
theorem mapS_inv {L:List (Sd × Int)}{i:Nat}{e:Value × Value}(h:(mapS L)[i]? = some e):∃ x,L[i]? = some x∧e=(.agg (keyC x.1),iv x.2):=by
 unfold mapS at h
 rw [List.getElem?_map,Option.map_eq_some_iff] at h
 obtain⟨x,h1,h2⟩:=h
 exact⟨x,h1,h2.symm⟩
theorem allZ_no {L:List (Sd × Int)}{i:Nat}{x:Sd × Int}(h:L[i]? = some x)(hx:x.2≠0):allZ L=false:=by
 unfold allZ
 rw [List.all_eq_false]
 exact⟨x,List.mem_of_getElem? h,by simpa using hx⟩
theorem allZ_yes {L:List (Sd × Int)}{q:List Nat}(hq:∀ i∈q,∀ x,L[i]? = some x→x.2=0)(h:∀ i,i<L.length→i∈q):allZ L=true:=by
 unfold allZ
 rw [List.all_eq_true]
 intro x hx
 obtain⟨i,hi⟩:=List.getElem?_of_mem hx
 simpa using hq i (h i (List.getElem?_eq_some_iff.1 hi).1) x hi
theorem undone_snoc {L i:Nat}{q:List Nat}(hi:i<L)(hn:i∉q):(undone L (q++[i])).length<(undone L q).length:=by
 have e:undone L (q++[i])=undone L (i::q):=by
  unfold undone
  apply List.filter_congr
  intro j _
  have:memB j (q++[i])=memB j (i::q):=by
   cases h1:memB j (q++[i]) with
   |true =>
    have:=memB_iff.1 h1
    rw [memB_iff.2 (by simpa [or_comm] using this)]
   |false =>
    cases h2:memB j (i::q) with
    |false=>rfl
    |true =>
     have:=memB_iff.1 h2
     rw [memB_iff.2 (by simpa [or_comm] using this)] at h1
     cases h1
  rw [this]
 rw [e]
 exact undone_step hi hn
theorem ObjRen_it {ρ:Nat→Nat}{n m s t m':Nat}{q:List Nat}(h1:m'=ρ m)(h2:m<n):ObjRen ρ n (.iter m s t q) (.iter m' s t q):=⟨h1,rfl,rfl,rfl,h2⟩
theorem turn_vals (a b c:Int × Int):turnS a b c=1∨turnS a b c≤0:=by
 unfold turnS sgn
 split
 ·right;omega
 ·split <;> (first|left;rfl|right;omega)
def S35 (l:List (Int × Int))(ts:List Tg):Option (Bool × Value):=some (decide (l.length≤1000000000)&&decide (ts.length≤1000000000),.bool (chkT l ts))
theorem S35_inv {l:List (Int × Int)}{ts:List Tg}{v:Value}(hs:S35 l ts=some (true,v)):l.length≤1000000000∧ts.length≤1000000000∧v=.bool (chkT l ts):=by
 unfold S35 at hs
 injection hs with hs;injection hs with h1 h2
 simp only [Bool.and_eq_true,decide_eq_true_eq] at h1
 exact⟨h1.1,h1.2,h2.symm⟩
end Go.Aw
end

noncomputable section
namespace Go.Aw
set_option maxRecDepth 100000
def cl35:Value:=.func (.func 44) #[] #[.pointer (some ⟨3,0,none⟩)]
def h35 (l:List (Int × Int))(ts:List Tg)(L:List (Sd × Int)):Heap:=[(0,.cells false true 2 (flat elP.fl l)),(1,.cells false true 6 (flat elT.fl ts)),(2,.map (mapS L)),(3,.cells true false 1 [.map (some 2)])]
def e35a (l:List (Int × Int))(ts:List Tg)(c1 c2:Nat)(j:Int):List (Nat × Value):=[(0,.slice (some ⟨0,0,none⟩) l.length c1),(5,.pointer (some ⟨3,0,none⟩)),(6,cl35),(23,.slice (some ⟨1,0,none⟩) ts.length c2),(24,iv ts.length),(25,iv j)]
def h35b (N:List (Int × Int))(L:List (Sd × Int)):Heap:=[(2,.map (mapS L)),(3,.cells true false 1 [.map (some 2)]),(4,.cells true false 2 (flat elP.fl N))]
def e35b (N:List (Int × Int))(j:Int):List (Nat × Value):=[(5,.pointer (some ⟨3,0,none⟩)),(6,cl35),(9,.slice (some ⟨4,0,none⟩) N.length N.length),(70,iv N.length),(71,iv j)]
def h35c (L:List (Sd × Int))(q:List Nat):Heap:=[(2,.map (mapS L)),(5,.iter 2 (mapS L).length (mapS L).length q)]
def e35c:List (Nat × Value):=[(90,.pointer (some ⟨5,0,none⟩))]
def D35:Nat × XF:=(12,l3X elP elT S35)
theorem vnext_S {L:List (Sd × Int)}{q:List Nat}{k it nx:Nat}{h:Heap}{K:KE}(hi:look h it=some (.iter k (mapS L).length (mapS L).length q))(hm:look h k=some (.map (mapS L)))
  (h1:∀ i x,L[i]? = some x→i∉q→K (.tuple #[.bool true,.agg (keyC x.1),iv x.2]) (upd h it (.iter k (mapS L).length (mapS L).length (q++[i]))) nx) (h2:(∀ i,i<L.length→i∈q)→K (.tuple #[.bool false]) h nx):vnext h nx (.pointer (some ⟨it,0,none⟩)) K:=by
 unfold vnext
 simp only [hi,hm]
 refine⟨⟨trivial,trivial⟩,fun i e he hn=>?_,fun hall=>h2 fun i hl=>hall i (by rw [mapS_len];exact hl)⟩
 obtain⟨x,hx,rfl⟩:=mapS_inv he
 exact h1 i x hx hn
theorem mN_0 {M:List (Sd × Int)}{N:List (Int × Int)}:mN M N 0=M:=by rw [mN]
theorem mN_next {M:List (Sd × Int)}{N:List (Int × Int)}{i:Nat}:mN M N (i+1)=bothE (mN M N i) (at2 N i) (at2 N ((i+1) % N.length)) (-1):=by rw [mN]
theorem mT_next {ts:List Tg}{i:Nat}:mT ts (i+1)=triM (mT ts i) (atT ts i):=by rw [mT]
theorem triM_eq {L:List (Sd × Int)}{t:Tg}:triM L t=bothE (bothE (bothE L t.1 t.2.1 1) t.2.1 t.2.2 1) t.2.2 t.1 1:=rfl
theorem bothE_eq {L:List (Sd × Int)}{p q:Int × Int}{d:Int}:bothE L p q d=addS (addS L (p,q) d) (q,p) (-d):=rfl
theorem iEc {n0 k f q:Nat}{e s:List (Nat × Value)}(h1:look e k=some (.func (.func f) #[] #[.pointer (some ⟨q,0,none⟩)]))(hq:Nat.ble (q+1) n0=true)(h3:∀ p∈s,look e p.1=some (ren id p.2)∧nmT n0 p.2) :
  ∀ p∈(k,Value.func (.func f) #[] #[.pointer (some ⟨q,0,none⟩)])::s,look e p.1=some (ren id p.2)∧nmT n0 p.2:=by
 refine List.forall_mem_cons.2 ⟨⟨h1.trans ?_,?_⟩,h3⟩
 ·simp [ren,tr,trA,trS,trFn,trP,at0]
 ·have:q<n0:=Nat.le_of_ble_eq_true hq
  refine⟨trivial,fun x hx=>?_⟩
  simp at hx
  subst hx
  exact⟨this,rfl⟩
set_option maxHeartbeats 1000000 in
attribute [local irreducible] polyE norR norI rawI triM bothE addS mapS mT mN atT at2 turnS rightS allZ chkT vnext in
theorem d35:XOK Go.Proofs.Tryz.prog D35.1 D35.2:=l3X_ok elP elT (f:=12) (s:=S35) (bodyN_calls (xl:=[X32,X54,X55,X85,X84']) (.cons x32 (.cons x54 (.cons x55 (.cons x85 (.cons x84' .nil))))) []) fun l ts v hs=>by
 obtain⟨hlen,hlt,rfl⟩:=S35_inv hs
 refine⟨rfl,fun c1 c2=>?_⟩
 clear hs
 (conv=>whnf)
 refine⟨l,LsAt_own elP rfl,?_⟩
 ((conv=>whnf);refine bm (fun h1=>?_) (fun h1=>?_))
 ·by_cases hz:polyE l=0
  ·obtain⟨hg,hsim⟩:=polyE_ok hz
   rw [hz]
   ((conv=>whnf);refine bm (fun h2=>?_) (fun h2=>?_))
   ·(conv=>whnf)
    rw [chkT_no (fun h=>by
     simp only [cA_lt,cA_num,decide_eq_true_eq] at h2
     omega)]
   ·have h400:ts.length≤400:=by simp only [cA_lt,cA_num,decide_eq_false_iff_not] at h2;omega
    (conv=>whnf)
    refine⟨fun m e h nx=>∃ (i:Nat) (j:Int),j=i∧i≤ts.length∧m=ts.length - i∧(∀ k,k<i→okTg (atT ts k)=true)∧e=e35a l ts c1 c2 j∧h=h35 l ts (mT ts i)∧nx=4,⟨ts.length,?_⟩,?_⟩
    ·refine Into_id (e0:=e35a l ts c1 c2 0) (h0:=h35 l ts (mT ts 0)) (n0:=4) ⟨0,0,rfl,Nat.zero_le _,rfl,fun j h=>absurd h (Nat.not_lt_zero j),rfl,rfl,rfl⟩ ?_ ?_ (by decide)
     ·unfold e35a cl35
      refine iE rfl rfl (iE rfl rfl (iEc rfl rfl ?_))
      ((repeat' refine iE rfl rfl ?_);exact iN)
     ·unfold h35
      ((repeat'(first|refine iW rfl rfl (ObjRen_mapS (L:=mT ts 0) rfl (by unfold mT mapS;rfl)) ?_|refine iF rfl rfl ?_|refine iC rfl rfl rfl ?_|refine iJ rfl rfl rfl rfl ?_));exact iN)
    ·rintro m e h nx ⟨i,j,hj,hi,rfl,hok,rfl,rfl,rfl⟩
     unfold e35a cl35 h35
     ((conv=>whnf);refine bm (fun g1=>?_) (fun g1=>?_))
     ·have hlt':i<ts.length:=by simp only [cA_lt,decide_eq_true_eq] at g1;omega
      have hMB:=mT_MB hok
      generalize hA:(atT ts i).1=PA
      generalize hB:(atT ts i).2.1=PB
      generalize hC:(atT ts i).2.2=PC
      have hokI:okTg (atT ts i)=((rightS PA&&rightS PB&&rightS PC)&&decide (turnS PA PB PC=1)):=by unfold okTg;rw [hA,hB,hC]
      repeat' first
       |(exfalso
         simp only [cA_add,cA_sub,cA_rem,cA_fits,cA_lt,cA_le,cA_eq,cA_notB,cA_andB,cA_num,fitsK,Bool.not_eq_false',Bool.not_eq_true',Bool.and_eq_false_iff,Bool.and_eq_true,decide_eq_true_eq,decide_eq_false_iff_not,List.length_cons,List.length_nil] at g
         omega)
       |(exfalso
         have hg:(wide PA&&wide PB&&wide PC)=false:=g
         rename_i q
         have hq:cfgS.A.eqB (cfgS.A.notB ([PA,PB,PC].all rightS)) false=true:=q
         simp only [cA_notB,cA_eqB,List.all_cons,List.all_nil,Bool.and_true,beq_iff_eq,Bool.not_eq_false',Bool.and_eq_true] at hq
         rw [rightS_wide hq.1,rightS_wide hq.2.1,rightS_wide hq.2.2] at hg
         cases hg)
       |(((conv=>whnf);refine bm (fun g=>?_) (fun g=>?_)))
       |((conv=>whnf)
         refine boL (getT ts hlt' ?_) ?_
         ·simp [cfgS,std];omega
         rw [hA,hB,hC])
       |((conv=>whnf)
         show ∃ x:List (Int × Int),_
         refine Exists.intro [PA,PB,PC] (And.intro ⟨rfl,_,_,_,_,rfl,rfl⟩ ?_))
      all_goals (conv=>whnf)
      ·rename_i q _ g
       rw [chkT_no (fun h=>by
        have h3:=h.2.2 i hlt'
        rw [hokI] at h3
        simp only [Bool.and_eq_true,decide_eq_true_eq] at h3
        simp only [cA_le,decide_eq_true_eq] at g
        have h4:turnS PA PB PC≤0:=g
        omega)]
      ·rename_i q _
       have hq:cfgS.A.eqB (cfgS.A.notB ([PA,PB,PC].all rightS)) false=true:=q
       simp only [cA_notB,cA_eqB,List.all_cons,List.all_nil,Bool.and_true,beq_iff_eq,Bool.not_eq_false',Bool.and_eq_true] at hq
       have htn:turnS PA PB PC=1:=by
        simp only [cA_le,decide_eq_false_iff_not] at g
        have h4:¬ turnS PA PB PC≤0:=g
        exact (turn_vals PA PB PC).resolve_right h4
       have wA:=rightS_wide hq.1
       have wB:=rightS_wide hq.2.1
       have wC:=rightS_wide hq.2.2
       have hokt:okTg (atT ts i)=true:=by rw [hokI,hq.1,hq.2.1,hq.2.2,htn];rfl
       have m1:=hMB.e wA wB (d:=1) (by decide)
       have m2:=m1.e wB wC (d:=1) (by decide)
       have b0:=(hMB.le (M:=100000) (by omega)).b
       have b1:=(m1.le (M:=100000) (by omega)).b
       have b2:=(m2.le (M:=100000) (by omega)).b
       refine⟨mT ts i,PA,PB,2,_,_,_,_,rfl,rfl,rfl,rfl,⟨by decide,by decide⟩,hMB.w,b0,⟨wA,wB⟩,⟨by decide,by decide⟩,?_⟩
       (conv=>whnf)
       refine⟨bothE (mT ts i) PA PB 1,PB,PC,2,_,_,_,_,rfl,rfl,rfl,(by rw [bothE_eq];rfl),⟨by decide,by decide⟩,m1.w,b1,⟨wB,wC⟩,⟨by decide,by decide⟩,?_⟩
       (conv=>whnf)
       refine⟨bothE (bothE (mT ts i) PA PB 1) PB PC 1,PC,PA,2,_,_,_,_,rfl,rfl,rfl,(by rw [bothE_eq (L:=bothE (mT ts i) PA PB 1)];rfl),⟨by decide,by decide⟩,m2.w,b2,⟨wC,wA⟩,⟨by decide,by decide⟩,?_⟩
       have hM:mapS (addS (addS (bothE (bothE (mT ts i) PA PB 1) PB PC 1) (PC,PA) 1) (PA,PC) (-1))=mapS (mT ts (i+1)):=by
        rw [mT_next,triM_eq,hA,hB,hC,bothE_eq (L:=bothE (bothE (mT ts i) PA PB 1) PB PC 1)]
       ((conv=>whnf);refine bm (fun g3=>?_) (fun g3=>?_))
       ·(conv=>whnf)
        refine⟨ts.length - (i+1),by omega,?_⟩
        refine Into_id (e0:=e35a l ts c1 c2 (j+1)) (h0:=h35 l ts (mT ts (i+1))) (n0:=4) ⟨i+1,j+1,by omega,hlt',rfl,fun k hk=>?_,rfl,rfl,rfl⟩ ?_ ?_ (by decide)
        ·by_cases e:k=i
         ·rw [e];exact hokt
         ·exact hok k (by omega)
        ·unfold e35a cl35
         refine iE rfl rfl (iE rfl rfl (iEc rfl rfl ?_))
         ((repeat' refine iE rfl rfl ?_);exact iN)
        ·unfold h35
         ((repeat'(first|refine iW rfl rfl (ObjRen_mapS (L:=mT ts (i+1)) rfl hM) ?_|refine iF rfl rfl ?_|refine iC rfl rfl rfl ?_|refine iJ rfl rfl rfl rfl ?_));exact iN)
       ·exfalso
        simp only [cA_add,cA_fits,fitsK,Bool.and_eq_false_iff,decide_eq_false_iff_not] at g3
        omega
      ·rename_i q
       rw [chkT_no (fun h=>by
        have h3:=h.2.2 i hlt'
        rw [hokI] at h3
        simp only [Bool.and_eq_true,decide_eq_true_eq] at h3
        have hq:cfgS.A.eqB (cfgS.A.notB ([PA,PB,PC].all rightS)) false=false:=g
        simp only [cA_notB,cA_eqB,List.all_cons,List.all_nil,Bool.and_true,h3.1.1.1,h3.1.1.2,h3.1.2,Bool.and_self,Bool.not_true] at hq
        cases hq)]
     ·have hge:i=ts.length:=by simp only [cA_lt,decide_eq_false_iff_not] at g1;omega
      subst hge
      have hMT:=mT_MB hok
      have h3:=norR_three hg hsim
      have hr:=norR_right hg
      have hl:(norR l).length≤200:=Nat.le_trans (norR_len l) hg.2.1
      have hrp:=raw_pos hg hsim
      have hnn:=norI_eq hg hsim
      (conv=>whnf)
      refine⟨l,LsAt_own elP rfl,?_⟩
      rw [chkT_yes ⟨hz,h400,hok⟩]
      generalize mT ts ts.length=M at hMT ⊢
      ((conv=>whnf);refine bm (fun g2=>?_) (fun g2=>?_))
      ·rw [hnn]
       generalize norR l=N at h3 hr hl ⊢
       refine outK_own elP (show 0<N.length by omega) ?_
       (conv=>whnf)
       clear hnn hrp hok
       refine⟨fun m e h nx=>∃ (i:Nat) (j:Int),j=i∧i≤N.length∧m=N.length - i∧e=e35b N j∧h=h35b N (mN M N i)∧nx=5,⟨N.length,?_⟩,?_⟩
       ·refine Into_id (e0:=e35b N 0) (h0:=h35b N (mN M N 0)) (n0:=5) ⟨0,0,rfl,Nat.zero_le _,rfl,rfl,rfl,rfl⟩ ?_ ?_ (by decide)
        ·unfold e35b cl35
         refine iE rfl rfl (iEc rfl rfl ?_)
         ((repeat' refine iE rfl rfl ?_);exact iN)
        ·unfold h35b
         ((repeat'(first|refine iW rfl rfl (ObjRen_mapS (L:=mN M N 0) rfl (by rw [mN_0])) ?_|refine iF rfl rfl ?_|refine iC rfl rfl rfl ?_|refine iJ rfl rfl rfl rfl ?_));exact iN)
       ·rintro m e h nx ⟨i,j,hj,hi,rfl,rfl,rfl,rfl⟩
        unfold e35b cl35 h35b
        ((conv=>whnf);refine bm (fun g3=>?_) (fun g3=>?_))
        ·have hq:i<N.length:=by simp only [cA_lt,decide_eq_true_eq] at g3;omega
         have hn:(i+1) % N.length<N.length:=Nat.mod_lt _ (by omega)
         have tn:(j+1).tmod (N.length:Int)=((i+1) % N.length:Nat):=by rw [hj];exact tmod_nat
         have hMB:=mN_MB hMT hr hi
         have wA:=rightS_wide (all_at hr hq)
         have wB:=rightS_wide (all_at hr hn)
         have b0:=(hMB.le (M:=100000) (by omega)).b
         repeat' first
          |(exfalso
            simp only [cA_add,cA_sub,cA_rem,cA_fits,cA_lt,cA_le,cA_eq,cA_notB,cA_andB,cA_num,fitsK,tn,Bool.not_eq_false',Bool.not_eq_true',Bool.and_eq_false_iff,Bool.and_eq_true,decide_eq_true_eq,decide_eq_false_iff_not,List.length_cons,List.length_nil] at g
            omega)
          |(((conv=>whnf);refine bm (fun g=>?_) (fun g=>?_)))
          |((conv=>whnf)
            refine boL (getP N hq ?_) ?_
            ·simp [cfgS,std];omega)
          |((conv=>whnf)
            refine boL (getP N hn ?_) ?_
            ·show 0+((j+1).tmod (N.length:Int)).toNat*2=_
             rw [tn,Int.toNat_natCast,Nat.zero_add])
          |((conv=>whnf)
            show ∃ x:List (Sd × Int),_
            refine Exists.intro (mN M N i) ⟨at2 N i,at2 N ((i+1) % N.length),2,_,_,_,_,rfl,rfl,rfl,rfl,⟨by decide,by decide⟩,hMB.w,b0,⟨wA,wB⟩,⟨by decide,by decide⟩,?_⟩)
         all_goals (conv=>whnf)
         ·refine⟨N.length - (i+1),by omega,?_⟩
          refine Into_id (e0:=e35b N (j+1)) (h0:=h35b N (mN M N (i+1))) (n0:=5) ⟨i+1,j+1,by omega,hq,rfl,rfl,rfl,rfl⟩ ?_ ?_ (by decide)
          ·unfold e35b cl35
           refine iE rfl rfl (iEc rfl rfl ?_)
           ((repeat' refine iE rfl rfl ?_);exact iN)
          ·have hM:mapS (addS (addS (mN M N i) (at2 N i,at2 N ((i+1) % N.length)) (-1)) (at2 N ((i+1) % N.length),at2 N i) (- -1))=mapS (mN M N (i+1)):=by rw [mN_next,bothE_eq]
           unfold h35b
           ((repeat'(first|refine iW rfl rfl (ObjRen_mapS (L:=mN M N (i+1)) rfl hM) ?_|refine iF rfl rfl ?_|refine iC rfl rfl rfl ?_|refine iJ rfl rfl rfl rfl ?_));exact iN)
        ·have hge:i=N.length:=by simp only [cA_lt,decide_eq_false_iff_not] at g3;omega
         subst hge
         generalize mN M N N.length=L
         (conv=>whnf)
         refine⟨fun m e h nx=>∃ q:List Nat,m=(undone L.length q).length∧(∀ i∈q,∀ x,L[i]? = some x→x.2=0)∧e=e35c∧h=h35c L q∧nx=6,⟨(undone L.length []).length,?_⟩,?_⟩
         ·refine Into_id (e0:=e35c) (h0:=h35c L []) (n0:=6) ⟨[],rfl,fun i h=>(by cases h),rfl,rfl,rfl⟩ ?_ ?_ (by decide)
          ·unfold e35c
           ((repeat' refine iE rfl rfl ?_);exact iN)
          ·unfold h35c
           exact iW rfl rfl (ObjRen_mapS (L:=L) rfl rfl) (iW rfl rfl (ObjRen_it rfl (by decide)) iN)
         ·rintro m e h nx ⟨q,rfl,hz0,rfl,rfl,rfl⟩
          unfold e35c h35c
          (conv=>whnf)
          refine vnext_S (L:=L) (q:=q) rfl rfl (fun k x hx hn=>?_) (fun hall=>?_)
          ·(conv=>whnf)
           refine⟨q,k,_,rfl,rfl,mapS_at hx,?_⟩
           ((conv=>whnf);refine bm (fun g5=>?_) (fun g5=>?_))
           ·(conv=>whnf)
            rw [allZ_no hx (fun h0=>by
             simp only [cA_eq,cA_notB,Bool.not_eq_true',decide_eq_false_iff_not] at g5
             exact g5 h0)]
           ·(conv=>whnf)
            have hkl:=(List.getElem?_eq_some_iff.1 hx).1
            refine⟨(undone L.length (q++[k])).length,undone_snoc hkl hn,?_⟩
            refine Into_id (e0:=e35c) (h0:=h35c L (q++[k])) (n0:=6) ⟨q++[k],rfl,fun i hi y hy=>?_,rfl,rfl,rfl⟩ ?_ ?_ (by decide)
            ·rcases List.mem_append.1 hi with hi|hi
             ·exact hz0 i hi y hy
             ·simp only [List.mem_singleton] at hi
              subst hi
              rw [hx] at hy
              injection hy with hy
              subst hy
              simp only [cA_eq,cA_notB,Bool.not_eq_false',decide_eq_true_eq] at g5
              exact g5
            ·unfold e35c
             ((repeat' refine iE rfl rfl ?_);exact iN)
            ·unfold h35c
             exact iW rfl rfl (ObjRen_mapS (L:=L) rfl rfl) (iW rfl rfl (ObjRen_it rfl (by decide)) iN)
          ·(conv=>whnf)
           rw [allZ_yes hz0 hall]
      ·exfalso
       have hg2:(goodL l&&decide (0<(rawI l l.length).length))=false:=g2
       rw [goodL_iff.2 hg,decide_eq_true hrp] at hg2
       cases hg2
  ·((conv=>whnf);refine bm (fun h2=>?_) (fun h2=>?_))
   ·exfalso
    simp only [cA_eq,cA_eqB,cA_notB,beq_iff_eq,Bool.not_eq_false',decide_eq_true_eq] at h2
    exact hz h2
   ·(conv=>whnf)
    rw [chkT_no (fun h=>hz h.1)]
 ·exfalso
  have hg:decide (l.length≤1000000000)=false:=h1
  simp only [decide_eq_false_iff_not] at hg
  omega
end Go.Aw
end

noncomputable section
namespace Go.Aw
set_option maxRecDepth 100000
def WhV (l:List (Int × Int))(p:Int × Int):Int:=if polyE l=0∧rightS p=true then whI l p else 0
def SWhere (l:List (Int × Int)):List Value→Option (Bool × Value)
 |[v]=>(match decP v with|some p=>some (decide (l.length≤1000000000),u8 (WhV l p))|none=>none)
 |_=>none
theorem SWhere_inv {l:List (Int × Int)}{r:List Value}{v:Value}(hs:SWhere l r=some (true,v)):∃ p,r=[ptv p]∧l.length≤1000000000∧v=u8 (WhV l p):=by
 unfold SWhere at hs
 split at hs
 ·split at hs
  ·rename_i p e
   injection hs with hs;injection hs with h1 h2
   exact⟨p,by rw [decP_eq e],by simpa using h1,h2.symm⟩
  ·cases hs
 ·cases hs
def X40:Nat × XF:=(15,lX elP SWhere)
attribute [local irreducible] polyE whI in
theorem x40:XOK Go.Proofs.Tryz.prog X40.1 X40.2:=lX_ok elP (body_calls (xl:=[X32,X58,X88]) (.cons x32 (.cons x58 (.cons x88 .nil)))) fun l r v hs=>by
 obtain⟨⟨px,py⟩,rfl,hlen,rfl⟩:=SWhere_inv hs
 refine⟨rfl,rfl,fun c=>?_⟩
 clear hs
 repeat' first
  |(((conv=>whnf);refine bm (fun g=>?_) (fun g=>?_)))
  |((conv=>whnf)
    refine Exists.intro l (And.intro (LsAt_own elP rfl) ?_))
 all_goals (conv=>whnf)
 all_goals (simp only [cA_eq,cA_eqB,cA_notB,beq_iff_eq,beq_eq_false_iff_ne,ne_eq,Bool.not_eq_true',Bool.not_eq_false',Bool.not_eq_true,Bool.not_eq_false,decide_eq_true_eq,decide_eq_false_iff_not,pEta] at *)
 all_goals first
  |(show u8 _=u8 _
    simp only [WhV, *,and_self,and_true,and_false,if_true,if_false,Bool.false_eq_true,false_and]
    done)
  |(exfalso;omega)
  |(exfalso
    have hg:=goodL_iff.2 (polyE_ok (by assumption)).1
    simp_all
    done)
  |trace_state
end Go.Aw
end

noncomputable section
namespace Go.Aw
set_option maxRecDepth 100000
def cIn (ts:List Tg)(p:Int × Int):Nat→Int
 |0=>0
 |i+1=>cIn ts p i+(if 0≤tS (atT ts i).1 (atT ts i).2.1 p∧0≤tS (atT ts i).2.1 (atT ts i).2.2 p∧0≤tS (atT ts i).2.2 (atT ts i).1 p then 1 else 0)
def cIs (ts:List Tg)(p:Int × Int):Nat→Int
 |0=>0
 |i+1=>cIs ts p i+(if 0<tS (atT ts i).1 (atT ts i).2.1 p∧0<tS (atT ts i).2.1 (atT ts i).2.2 p∧0<tS (atT ts i).2.2 (atT ts i).1 p then 1 else 0)
theorem cIn_B (ts:List Tg)(p:Int × Int):∀ i,0≤cIn ts p i∧cIn ts p i≤i
 |0=>⟨Int.le_refl _,Int.le_refl _⟩
 |i+1=>by
  have:=cIn_B ts p i
  rw [cIn]
  split <;> omega
theorem cIs_B (ts:List Tg)(p:Int × Int):∀ i,0≤cIs ts p i∧cIs ts p i≤i
 |0=>⟨Int.le_refl _,Int.le_refl _⟩
 |i+1=>by
  have:=cIs_B ts p i
  rw [cIs]
  split <;> omega
def S14 (ts:List Tg):List Value→Option (Bool × Value)
 |[v]=>(match decP v with|some p=>some (decide (ts.length≤1000000),.tuple #[iv (cIn ts p ts.length),iv (cIs ts p ts.length)])|none=>none)
 |_=>none
theorem S14_inv {ts:List Tg}{r:List Value}{v:Value}(hs:S14 ts r=some (true,v)):∃ p,r=[ptv p]∧ts.length≤1000000∧v=.tuple #[iv (cIn ts p ts.length),iv (cIs ts p ts.length)]:=by
 unfold S14 at hs
 split at hs
 ·split at hs
  ·rename_i p e
   injection hs with hs;injection hs with h1 h2
   exact⟨p,by rw [decP_eq e],of_decide_eq_true h1,h2.symm⟩
  ·cases hs
 ·cases hs
def e14 (n c:Nat)(a b j:Int):List (Nat × Value):=[(3,.pointer (some ⟨1,0,none⟩)),(6,iv a),(7,iv b),(13,.slice (some ⟨0,0,none⟩) n c),(14,iv n),(15,iv j)]
def h14 (ts:List Tg)(p:Int × Int):Heap:=[(0,.cells false true 6 (flat elT.fl ts)),(1,.cells true false 1 [iv p.1,iv p.2])]
def D14:Nat × XF:=(14,lX elT S14)
attribute [local irreducible] tS cIn cIs in
theorem d14:XOK Go.Proofs.Tryz.prog D14.1 D14.2:=lX_ok elT (body_calls (xl:=[X15]) (.cons x15 .nil)) fun ts r v hs=>by
 obtain⟨⟨px,py⟩,rfl,hlen,rfl⟩:=S14_inv hs
 refine⟨rfl,rfl,fun c=>?_⟩
 clear hs
 (conv=>whnf)
 refine⟨fun m e h nx=>∃ (i:Nat) (j a b:Int),j=i∧i≤ts.length∧m=ts.length - i∧a=cIn ts (px,py) i∧b=cIs ts (px,py) i∧e=e14 ts.length c a b j∧h=h14 ts (px,py)∧nx=2,⟨ts.length,?_⟩,?_⟩
 ·refine Into_id (e0:=e14 ts.length c 0 0 0) (h0:=h14 ts (px,py)) (n0:=2) ⟨0,0,0,0,rfl,Nat.zero_le _,rfl,by unfold cIn;rfl,by unfold cIs;rfl,rfl,rfl,rfl⟩ ?_ ?_ (by decide)
  ·unfold e14
   ((repeat' refine iE rfl rfl ?_);exact iN)
  ·unfold h14
   ((repeat'(first|refine iF rfl rfl ?_|refine iJ rfl rfl rfl rfl ?_));exact iN)
 ·rintro m e h nx ⟨i,j,a,b,hj,hi,rfl,ha,hb,rfl,rfl,rfl⟩
  have bA:=cIn_B ts (px,py) i
  have bB:=cIs_B ts (px,py) i
  rw [← ha] at bA
  rw [← hb] at bB
  unfold e14 h14
  ((conv=>whnf);refine bm (fun g1=>?_) (fun g1=>?_))
  ·have hlt:i<ts.length:=by simp only [cA_lt,cA_num,decide_eq_true_eq] at g1;omega
   have nA:cIn ts (px,py) (i+1)=a+(if 0≤tS (atT ts i).1 (atT ts i).2.1 (px,py)∧0≤tS (atT ts i).2.1 (atT ts i).2.2 (px,py)∧0≤tS (atT ts i).2.2 (atT ts i).1 (px,py) then 1 else 0):=by rw [cIn,ha]
   have nB:cIs ts (px,py) (i+1)=b+(if 0<tS (atT ts i).1 (atT ts i).2.1 (px,py)∧0<tS (atT ts i).2.1 (atT ts i).2.2 (px,py)∧0<tS (atT ts i).2.2 (atT ts i).1 (px,py) then 1 else 0):=by rw [cIs,hb]
   generalize hPA:(atT ts i).1=PA at nA nB
   generalize hPB:(atT ts i).2.1=PB at nA nB
   generalize hPC:(atT ts i).2.2=PC at nA nB
   generalize hA:tS PA PB (px,py)=A at nA nB
   generalize hB:tS PB PC (px,py)=B at nA nB
   generalize hC:tS PC PA (px,py)=C at nA nB
   repeat' first
    |(exfalso
      simp only [cA_add,cA_sub,cA_rem,cA_fits,cA_lt,cA_le,cA_eq,cA_notB,cA_andB,cA_num,fitsK,Bool.not_eq_false',Bool.not_eq_true',Bool.and_eq_false_iff,Bool.and_eq_true,decide_eq_true_eq,decide_eq_false_iff_not] at g
      omega)
    |(((conv=>whnf);refine bm (fun g=>?_) (fun g=>?_)))
    |((conv=>whnf)
      refine boL (getT ts hlt ?_) ?_
      ·simp [cfgS,std];omega
      rw [hPA,hPB,hPC])
   all_goals (conv=>whnf)
   all_goals (refine⟨ts.length - (i+1),by omega,?_⟩)
   all_goals (refine Into_id (e0:=e14 ts.length c _ _ (j+1)) (h0:=h14 ts (px,py)) (n0:=2) ⟨i+1,j+1,_,_,by omega,by omega,rfl,?_,?_,rfl,rfl,rfl⟩ (by unfold e14;((repeat' refine iE rfl rfl ?_);exact iN)) (by unfold h14;((repeat'(first|refine iF rfl rfl ?_|refine iJ rfl rfl rfl rfl ?_));exact iN)) (by decide))
   all_goals (rw [← hA,← hB,← hC] at nA nB)
   all_goals first
    |rw [nA]
    |rw [nB]
   all_goals (clear nA nB ha hb hA hB hC)
   all_goals (simp only [cA_add,cA_lt,cA_le,cA_num,decide_eq_true_eq,decide_eq_false_iff_not,cA_eqB,beq_iff_eq,beq_eq_false_iff_ne,ne_eq,pEta] at *)
   all_goals first
    |(rw [if_pos ⟨by assumption,by assumption,by assumption⟩];done)
    |(rw [if_neg (by intro hh;omega)];omega)
    |trace_state
  ·have hge:i=ts.length:=by simp only [cA_lt,cA_num,decide_eq_false_iff_not] at g1;omega
   subst hge
   (conv=>whnf)
   rw [ha,hb]
end Go.Aw
end

noncomputable section
namespace Go.Aw
abbrev Pq:=Int × Int
def onW (N x y:Int)(p q:Pq):Prop:=∃ α β:Int,0≤α∧0≤β∧α+β=N∧x=α*p.1+β*q.1∧y=α*p.2+β*q.2
def okP (e f:Pq × Pq):Prop:=∀ N x y:Int,0<N→onW N x y e.1 e.2→onW N x y f.1 f.2→∃ z:Pq,(z=e.1∨z=e.2)∧(z=f.1∨z=f.2)∧x=N*z.1∧y=N*z.2
theorem onW_rev {N x y:Int}{p q:Pq}(h:onW N x y p q):onW N x y q p:=by
 obtain⟨α,β,h1,h2,h3,h4,h5⟩:=h
 exact⟨β,α,h2,h1,by omega,by omega,by omega⟩
theorem okP_symm {e f:Pq × Pq}(h:okP e f):okP f e:=fun N x y hN he hf=>by
 obtain⟨z,h1,h2,h3⟩:=h N x y hN hf he
 exact⟨z,h2,h1,h3⟩
theorem okP_rev {e f:Pq × Pq}(h:okP e f):okP (e.2,e.1) f:=fun N x y hN he hf=>by
 obtain⟨z,h1,h2,h3⟩:=h N x y hN (onW_rev he) hf
 exact⟨z,h1.symm,h2,h3⟩
def e3 (F:Int × Int × Int)(N x y:Int):Int:=F.1*N+F.2.1*x+F.2.2*y
def at3 (F:Int × Int × Int)(p:Pq):Int:=e3 F 1 p.1 p.2
theorem e3_mix (F:Int × Int × Int)(α β:Int)(p q:Pq):e3 F (α+β) (α*p.1+β*q.1) (α*p.2+β*q.2)=α*at3 F p+β*at3 F q:=by
 unfold at3 e3
 grind
structure Tri (a b v:Pq) where
 D:Int
 A:Int × Int × Int
 B:Int × Int × Int
 V:Int × Int × Int
 pos:0<D
 sum:∀ p:Pq,at3 A p+at3 B p+at3 V p=D
 xs:∀ p:Pq,D*p.1=at3 A p*a.1+at3 B p*b.1+at3 V p*v.1
 ys:∀ p:Pq,D*p.2=at3 A p*a.2+at3 B p*b.2+at3 V p*v.2
 Ab:at3 A b=0
 Av:at3 A v=0
 Ba:at3 B a=0
 Bv:at3 B v=0
 Va:at3 V a=0
 Vb:at3 V b=0
def Tri.swap {a b v:Pq}(T:Tri a b v):Tri b a v:=⟨T.D,T.B,T.A,T.V,T.pos,fun p=>by have:=T.sum p;omega,fun p=>by have:=T.xs p;omega,fun p=>by have:=T.ys p;omega,T.Ba,T.Bv,T.Ab,T.Av,T.Vb,T.Va⟩
theorem Tri.Aa {a b v:Pq}(T:Tri a b v):at3 T.A a=T.D:=by have:=T.sum a;rw [T.Ba,T.Va] at this;omega
theorem Tri.Bb {a b v:Pq}(T:Tri a b v):at3 T.B b=T.D:=by have:=T.sum b;rw [T.Ab,T.Vb] at this;omega
theorem Tri.Vv {a b v:Pq}(T:Tri a b v):at3 T.V v=T.D:=by have:=T.sum v;rw [T.Av,T.Bv] at this;omega
def triOf (a b v:Pq)(σ:Int)(h:0<σ*crossI b v a):Tri a b v where
 D:=σ*crossI b v a
 A:=(σ*((v.2 - b.2)*b.1 - (v.1 - b.1)*b.2),-(σ*(v.2 - b.2)),σ*(v.1 - b.1))
 B:=(σ*((a.2 - v.2)*v.1 - (a.1 - v.1)*v.2),-(σ*(a.2 - v.2)),σ*(a.1 - v.1))
 V:=(σ*((b.2 - a.2)*a.1 - (b.1 - a.1)*a.2),-(σ*(b.2 - a.2)),σ*(b.1 - a.1))
 pos:=h
 sum p:=by unfold at3 e3 crossI;grind
 xs p:=by unfold at3 e3 crossI;grind
 ys p:=by unfold at3 e3 crossI;grind
 Ab:=by unfold at3 e3;grind
 Av:=by unfold at3 e3;grind
 Ba:=by unfold at3 e3;grind
 Bv:=by unfold at3 e3;grind
 Va:=by unfold at3 e3;grind
 Vb:=by unfold at3 e3;grind
theorem triOf_V {a b v:Pq}{σ:Int}(h:0<σ*crossI b v a)(p:Pq):at3 (triOf a b v σ h).V p=σ*crossI b p a:=by
 show at3 (σ*((b.2 - a.2)*a.1 - (b.1 - a.1)*a.2),-(σ*(b.2 - a.2)),σ*(b.1 - a.1)) p=_
 unfold at3 e3 crossI;grind
theorem triOf_A {a b v:Pq}{σ:Int}(h:0<σ*crossI b v a)(p:Pq):at3 (triOf a b v σ h).A p=σ*crossI b v p:=by
 show at3 (σ*((v.2 - b.2)*b.1 - (v.1 - b.1)*b.2),-(σ*(v.2 - b.2)),σ*(v.1 - b.1)) p=_
 unfold at3 e3 crossI;grind
theorem triOf_B {a b v:Pq}{σ:Int}(h:0<σ*crossI b v a)(p:Pq):at3 (triOf a b v σ h).B p=σ*crossI p v a:=by
 show at3 (σ*((a.2 - v.2)*v.1 - (a.1 - v.1)*v.2),-(σ*(a.2 - v.2)),σ*(a.1 - v.1)) p=_
 unfold at3 e3 crossI;grind
theorem mul_zero_or {a b:Int}(h:a*b=0):a=0∨b=0:=Int.mul_eq_zero.1 h
theorem ex_id1 {A u ub uv Bq Vq D N:Int}(h1:u+ub+uv=D*N)(h2:A+Bq+Vq=D):((-A)*ub+u*Bq)+((-A)*uv+u*Vq)=D*((-A)*N+u):=by
 have e1:ub=D*N - u - uv:=by omega
 have e2:Bq=D - A - Vq:=by omega
 subst e1 e2
 grind
theorem ex_id2 {A u ub uv Bq Vq D α β rx sx ax bx vx:Int}(hx:D*(α*rx+β*sx)=u*ax+ub*bx+uv*vx)(xr:D*rx=A*ax+Bq*bx+Vq*vx) :
  D*(((-A)*α+u)*rx+(-A)*β*sx)=((-A)*ub+u*Bq)*bx+((-A)*uv+u*Vq)*vx:=by
 have e:D*(((-A)*α+u)*rx+(-A)*β*sx)=(-A)*(D*(α*rx+β*sx))+u*(D*rx):=by grind
 rw [e,hx,xr]
 grind
theorem ex_mix {D α β rx sx ax bx vx A As Bq Bs Vq Vs:Int}(xr:D*rx=A*ax+Bq*bx+Vq*vx)(xs:D*sx=As*ax+Bs*bx+Vs*vx) :
  D*(α*rx+β*sx)=(α*A+β*As)*ax+(α*Bq+β*Bs)*bx+(α*Vq+β*Vs)*vx:=by
 have e:D*(α*rx+β*sx)=α*(D*rx)+β*(D*sx):=by grind
 rw [e,xr,xs]
 grind
theorem ex_sum {D α β A As Bq Bs Vq Vs:Int}(sr:A+Bq+Vq=D)(ss:As+Bs+Vs=D):(α*A+β*As)+(α*Bq+β*Bs)+(α*Vq+β*Vs)=D*(α+β):=by
 rw [← sr] at ss ⊢
 have e:As=A+Bq+Vq - Bs - Vs:=by omega
 subst e
 grind
theorem exitA {a b v r s:Pq}(T:Tri a b v){α β:Int}(hα:0≤α)(hβ:0≤β)(hN:0<α+β)(hrs:r≠s)
  (uA:0≤α*at3 T.A r+β*at3 T.A s) (uB:0≤α*at3 T.B r+β*at3 T.B s) (uV:0≤α*at3 T.V r+β*at3 T.V s)
  (rA:at3 T.A r<0) (rV:0≤at3 T.V r) (rB:0≤(-at3 T.A r)*(α*at3 T.B r+β*at3 T.B s)+(α*at3 T.A r+β*at3 T.A s)*at3 T.B r)
  (hok:okP (r,s) (b,v)):(s=b∨s=v)∧α=0∧α*at3 T.A r+β*at3 T.A s=0:=by
 have hD:=T.pos
 generalize hu:α*at3 T.A r+β*at3 T.A s=u at uA rB ⊢
 generalize hub:α*at3 T.B r+β*at3 T.B s=ub at uB rB
 generalize huv:α*at3 T.V r+β*at3 T.V s=uv at uV
 generalize hrA:at3 T.A r=A at rA rB hu
 generalize hrB:at3 T.B r=Bq at rB hub
 generalize hrV:at3 T.V r=Vq at rV huv
 generalize hsA:at3 T.A s=As at hu
 generalize hsB:at3 T.B s=Bs at hub
 generalize hsV:at3 T.V s=Vs at huv
 have sr:=T.sum r
 have ss:=T.sum s
 have xr:=T.xs r
 have xs:=T.xs s
 have yr:=T.ys r
 have ys:=T.ys s
 rw [hrA,hrB,hrV] at sr xr yr
 rw [hsA,hsB,hsV] at ss xs ys
 have hk1:0≤(-A)*α+u:=Int.add_nonneg (Int.mul_nonneg (by omega) hα) uA
 have hk2:0≤(-A)*β:=Int.mul_nonneg (by omega) hβ
 have hNY:0<(-A)*(α+β)+u:=by
  have:=Int.mul_pos (show 0 < -A by omega) hN
  omega
 have hV:0≤(-A)*uv+u*Vq:=Int.add_nonneg (Int.mul_nonneg (by omega) uV) (Int.mul_nonneg uA rV)
 have hsum:u+ub+uv=T.D*(α+β):=by rw [← hu,← hub,← huv];exact ex_sum sr ss
 have hmx:T.D*(α*r.1+β*s.1)=u*a.1+ub*b.1+uv*v.1:=by rw [← hu,← hub,← huv];exact ex_mix xr xs
 have hmy:T.D*(α*r.2+β*s.2)=u*a.2+ub*b.2+uv*v.2:=by rw [← hu,← hub,← huv];exact ex_mix yr ys
 obtain⟨z,hz1,hz2,hz3,hz4⟩:=hok (T.D*((-A)*(α+β)+u)) (T.D*(((-A)*α+u)*r.1+(-A)*β*s.1)) (T.D*(((-A)*α+u)*r.2+(-A)*β*s.2)) (Int.mul_pos hD hNY)
  ⟨T.D*((-A)*α+u),T.D*((-A)*β),Int.mul_nonneg (by omega) hk1,Int.mul_nonneg (by omega) hk2,by clear hok;grind,by clear hok;grind,by clear hok;grind⟩
  ⟨(-A)*ub+u*Bq,(-A)*uv+u*Vq,rB,hV,ex_id1 hsum sr,ex_id2 hmx xr,ex_id2 hmy yr⟩
 have hAz:at3 T.A z=0:=by
  rcases hz2 with h|h
  ·rw [h];exact T.Ab
  ·rw [h];exact T.Av
 have hzs:z=s:=by
  rcases hz1 with h|h
  ·exfalso
   have h:z=r:=h
   rw [h,hrA] at hAz
   omega
  ·exact h
 subst hzs
 have g1:((-A)*α+u)*(r.1 - z.1)=0:=by
  have:=Int.eq_of_mul_eq_mul_left (show T.D≠0 by omega) (hz3.trans (Int.mul_assoc _ _ _))
  clear hok hz3 hz4
  grind
 have g2:((-A)*α+u)*(r.2 - z.2)=0:=by
  have:=Int.eq_of_mul_eq_mul_left (show T.D≠0 by omega) (hz4.trans (Int.mul_assoc _ _ _))
  clear hok hz3 hz4
  grind
 have hk0:(-A)*α+u=0:=by
  rcases mul_zero_or g1 with h|h
  ·exact h
  ·rcases mul_zero_or g2 with h2|h2
   ·exact h2
   ·exact absurd (Prod.ext (by omega) (by omega)) hrs
 have hAα:0≤(-A)*α:=Int.mul_nonneg (by omega) hα
 have hα0:(-A)*α=0:=by omega
 refine⟨hz2,?_,by omega⟩
 rcases mul_zero_or hα0 with h|h
 ·omega
 ·exact h
end Go.Aw
end
