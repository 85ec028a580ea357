/-
  Parts of a proof. No condition.
-/
import Derived.Test.YtoekkmbbbllogaaGreatQAy
set_option linter.unusedSimpArgs false
set_option linter.unusedVariables false
noncomputable section
namespace Go.Aw
def delI (l:List (Int × Int))(i:Nat):List (Int × Int):=l.take i++l.drop (i+1)
def triE (l:List (Int × Int))(i:Nat):Tg:=(prv l i,at2 l i,nxt l i)
def fE (l:List (Int × Int)):Nat→Int
 |0=>-1
 |k+1=>if earB l (l.length - 1 - k)=true then ((l.length - 1 - k:Nat):Int) else fE l k
def triL:Nat→List (Int × Int)→List Tg→List Tg
 |0,_,out=>out
 |f+1,rest,out=>if 3<rest.length then (if fE rest rest.length<0 then out else triL f (delI rest (fE rest rest.length).toNat) (out++[triE rest (fE rest rest.length).toNat]))
  else out++[(at2 rest 0,at2 rest 1,at2 rest 2)]
def triN (N:List (Int × Int)):List Tg:=triL N.length N []
def triO (l:List (Int × Int)):List Tg:=if polyE l=0 then triN (norR l) else []
theorem fE_at {l:List (Int × Int)}{i:Nat}(hi:i<l.length)(he:earB l i=true):fE l (l.length - i)=i:=by
 rw [show l.length - i=(l.length - i - 1)+1 by omega]
 unfold fE
 rw [show l.length - 1 - (l.length - i - 1)=i by omega,if_pos he]
theorem fE_up {l:List (Int × Int)}{i:Nat}(hi:i≤l.length)(hno:∀ j,j<i→earB l j=false):∀ d,d≤i→fE l (l.length - i+d)=fE l (l.length - i)
 |0,_=>rfl
 |d+1,hd=>by
  rw [← Nat.add_assoc]
  conv=>lhs;unfold fE
  rw [show l.length - 1 - (l.length - i+d)=i - 1 - d by omega,if_neg (by rw [hno _ (by omega)];decide),fE_up hi hno d (by omega)]
theorem fE_is {l:List (Int × Int)}{i:Nat}(hi:i<l.length)(he:earB l i=true)(hno:∀ j,j<i→earB l j=false):fE l l.length=i:=by
 have:=fE_up (by omega) hno i (Nat.le_refl _)
 rw [show l.length - i+i=l.length by omega,fE_at hi he] at this
 exact this
theorem fE_none {l:List (Int × Int)}(hno:∀ j,j<l.length→earB l j=false):fE l l.length = -1:=by
 have:=fE_up (Nat.le_refl l.length) hno l.length (Nat.le_refl _)
 rw [show l.length - l.length+l.length=l.length by omega,show l.length - l.length=0 by omega] at this
 rw [this]
 rfl
theorem delI_len {l:List (Int × Int)}{i:Nat}(h:i<l.length):(delI l i).length=l.length - 1:=by
 unfold delI
 rw [List.length_append,List.length_take,List.length_drop]
 omega
theorem delI_right {l:List (Int × Int)}(h:l.all rightS=true)(i:Nat):(delI l i).all rightS=true:=by
 refine List.all_eq_true.2 fun p hp=>?_
 unfold delI at hp
 rcases List.mem_append.1 hp with hp|hp
 ·exact List.all_eq_true.1 h p (List.mem_of_mem_take hp)
 ·exact List.all_eq_true.1 h p (List.mem_of_mem_drop hp)
theorem triL_stop {N:Nat}{rest:List (Int × Int)}{out:List Tg}(h3:3<rest.length)(hN:N=rest.length)(h:fE rest rest.length<0):triL N rest out=out:=by
 obtain⟨f,hf⟩:∃ f,N=f+1:=⟨N - 1,by omega⟩
 subst hf
 unfold triL
 rw [if_pos h3,if_pos h]
theorem triL_step {N:Nat}{rest:List (Int × Int)}{out:List Tg}{i:Nat}(h3:3<rest.length)(hN:N=rest.length)(h:fE rest rest.length=i):triL N rest out=triL (N - 1) (delI rest i) (out++[triE rest i]):=by
 obtain⟨f,hf⟩:∃ f,N=f+1:=⟨N - 1,by omega⟩
 subst hf
 conv=>lhs;unfold triL
 rw [if_pos h3,if_neg (by omega),h]
 rfl
theorem triL_end {N:Nat}{rest:List (Int × Int)}{out:List Tg}(h3:rest.length=3)(hN:N=rest.length):triL N rest out=out++[(at2 rest 0,at2 rest 1,at2 rest 2)]:=by
 obtain⟨f,hf⟩:∃ f,N=f+1:=⟨N - 1,by omega⟩
 subst hf
 unfold triL
 rw [if_neg (by omega)]
def S51 (l:List (Int × Int)):List Value→Option (Bool × List Tg × Option Int)
 |[]=>some (decide (l.length≤1000000000),triO l,some (polyE l))
 |_=>none
theorem S51_inv {l:List (Int × Int)}{out:List Tg}{r:List Value}{e:Option Int}(hs:S51 l r=some (true,out,e)):r=[]∧l.length≤1000000000∧out=triO l∧e=some (polyE l):=by
 unfold S51 at hs
 split at hs
 ·injection hs with hs;injection hs with h1 h2;injection h2 with h2 h3
  exact⟨rfl,by simpa using h1,h2.symm,h3.symm⟩
 ·cases hs
def mv2 (q1 q2:Nat):Nat→Nat:=fun k=>match Nat.beq k 1 with|true=>q1|false=>(match Nat.beq k 2 with|true=>q2|false=>k)
theorem Into_mv2 {n0 nx:Nat}{I:KS}{e0 e:List (Nat × Value)}{o0 o1 o2:AObj}{h:Heap}(q1 q2:Nat)(hq:q1≠q2∧q1≠0∧q2≠0)(hn:3≤n0)(hI:I e0 [(0,o0),(1,o1),(2,o2)] n0)(he:∀ p∈e0,look e p.1=some (ren (mv2 q1 q2) p.2)∧nmT n0 p.2)
  (hh:∀ p∈([(0,o0),(1,o1),(2,o2)]:Heap),p.1<n0∧∃ o',look h (mv2 q1 q2 p.1)=some o'∧ObjRen (mv2 q1 q2) n0 p.2 o'):Into 1 I e h nx:=by
 refine⟨e0,_,n0,mv2 q1 q2,hI,fun t v hv=>he (t,v) (look_mem hv),fun k o hk=>hh (k,o) (look_mem hk),fun k k' o o' hk hk' e=>?_,fun k hk=>?_,by omega⟩
 ·have k1:=look_mem hk
  have k2:=look_mem hk'
  simp only [List.mem_cons,Prod.mk.injEq,List.not_mem_nil,or_false] at k1 k2
  obtain⟨a1,a2,a3⟩:=hq
  rcases k1 with ⟨rfl,_⟩|⟨rfl,_⟩|⟨rfl,_⟩ <;> rcases k2 with ⟨rfl,_⟩|⟨rfl,_⟩|⟨rfl,_⟩ <;> first|rfl|(exfalso;simp [mv2] at e;omega)
 ·have:k=0:=by omega
  subst this
  rfl
theorem ble_t {a b:Nat}:(Nat.ble a b=true)↔a≤b:=⟨Nat.le_of_ble_eq_true,Nat.ble_eq_true_of_le⟩
theorem ble_f {a b:Nat}:(Nat.ble a b=false)↔b<a:=by
 constructor
 ·intro h
  apply Classical.byContradiction
  intro hn
  rw [Nat.ble_eq_true_of_le (by omega)] at h
  cases h
 ·intro h
  cases e:Nat.ble a b with
  |false=>rfl
  |true=>exact absurd (Nat.le_of_ble_eq_true e) (by omega)
theorem beq_t {a b:Nat}:(Nat.beq a b=true)↔a=b:=⟨beq_true,fun h=>by subst h;exact Nat.beq_refl a⟩
theorem beq_f {a b:Nat}:(Nat.beq a b=false)↔a≠b:=by
 constructor
 ·exact beq_false
 ·intro h
  cases e:Nat.beq a b with
  |false=>rfl
  |true=>exact absurd (beq_true e) h
theorem flatT (l:List Tg):(flat elT.fl l).length=l.length*6:=flat_len elT l
theorem cA_ix (o:Nat)(i:Int)(s:Nat):cfgS.A.ix o i s=o+i.toNat*s:=rfl
theorem flatT_grow {out:List Tg}{t:Tg}{a d:Nat}{X:List Value}(ha:a=out.length*6)(hd:d=0)(hX:X=elT.fl t):List.take a (List.drop d (flat elT.fl out))++X=flat elT.fl (out++[t]):=by
 subst ha hd hX
 rw [flat_append,List.drop_zero,List.take_of_length_le (by rw [flatT];exact Nat.le_refl _)]
 simp [flat]
theorem Yields_atT {l:List Tg}{e:Int}{h:Heap}{nx q n c:Nat}(hl:0<l.length)(hn:n=l.length)(hc:c=l.length)(hq:∃ cs,look h q=some (.cells true false 6 cs)∧cs=flat elT.fl l):Yields elT l (some e) (.tuple #[.slice (some ⟨q,0,none⟩) n c,.int .i64 e]) h nx:=by
 obtain⟨cs,hq,hcs⟩:=hq
 subst hn hc hcs
 exact Yields_own (e:=some e) elT hl hq
end Go.Aw
end

noncomputable section
namespace Go.Aw
set_option maxRecDepth 100000
def eR (n:Nat)(v:Value):List (Nat × Value):=[(4,.slice (some ⟨1,0,none⟩) n n),(6,v)]
def hR (l rest:List (Int × Int)):Heap:=[(0,.cells false true 2 (flat elP.fl l)),(1,.cells true false 2 (flat elP.fl rest))]
def sT (n:Nat):Value:=.slice (some ⟨2,0,none⟩) n n
end Go.Aw
end

noncomputable section
namespace Go.Aw
theorem nth_app {l J:List Value}{o:Nat}{v:Value}(h:nth l o=some v):nth (l++J) o=some v:=by
 rw [nth_eq] at h ⊢
 obtain⟨hlt,he⟩:=List.getElem?_eq_some_iff.1 h
 rw [List.getElem?_append_left hlt]
 exact h
theorem getN_app {l J:List Value}:∀ {n o:Nat} {r:List Value},getN l o n=some r→getN (l++J) o n=some r
 |0,o,r,h=>h
 |n+1,o,r,h=>by
  unfold getN at h ⊢
  split at h
  ·cases h
  ·rename_i v hv
   rw [nth_app hv]
   split at h
   ·cases h
   ·rename_i r' hr
    rw [getN_app hr]
    exact h
theorem getPJ (l:List (Int × Int))(J:List Value){i o:Nat}(hi:i<l.length)(ho:o=i*2):getN (flat elP.fl l++J) o 2=some [iv (at2 l i).1,iv (at2 l i).2]:=by
 exact getN_app (getP l hi ho)
theorem flat_cut {l:List (Int × Int)}{q:Nat}(hq:q<l.length):flat elP.fl l=flat elP.fl (l.take q)++([iv (at2 l q).1,iv (at2 l q).2]++flat elP.fl (l.drop (q+1))):=by
 have e:l=l.take q++(at2 l q::l.drop (q+1)):=by
  rw [at2_eq hq,← List.drop_eq_getElem_cons hq,List.take_append_drop]
 conv=>lhs;rw [e]
 rw [flat_append]
 rfl
theorem delJ {rest:List (Int × Int)}{J Z:List Value}{q o1 o2 a b:Nat}(hq:q<rest.length)(ho1:o1=q*2)(ha:a=(rest.length - q - 1)*2)(hb:b=(q+1)*2)(ho2:o2=(rest.length - 1)*2)(hZ:Z.length=2) :
  putN (putN (flat elP.fl rest++J) o1 (List.take a (List.drop b (flat elP.fl rest++J)))) o2 Z=flat elP.fl (delI rest q)++(Z++J):=by
 subst ho1 ha hb ho2
 have lA:(flat elP.fl (rest.take q)).length=q*2:=by rw [flat2,List.length_take];omega
 have lC:(flat elP.fl (rest.drop (q+1))).length=(rest.length - q - 1)*2:=by rw [flat2,List.length_drop];omega
 have lR:(flat elP.fl rest).length=rest.length*2:=flat2 rest
 have eR:=flat_cut hq
 have e1:List.drop ((q+1)*2) (flat elP.fl rest++J)=flat elP.fl (rest.drop (q+1))++J:=by
  rw [List.drop_append_of_le_length (by omega),flat_drop rest (q+1) (by omega)]
 have e2:List.take ((rest.length - q - 1)*2) (flat elP.fl (rest.drop (q+1))++J)=flat elP.fl (rest.drop (q+1)):=List.take_left' lC
 have e3:List.take (q*2) (flat elP.fl rest++J)=flat elP.fl (rest.take q):=by
  rw [List.take_append_of_le_length (by omega),flat_take rest q (by omega)]
 rw [e1,e2]
 have eIn:putN (flat elP.fl rest++J) (q*2) (flat elP.fl (rest.drop (q+1)))=(flat elP.fl (rest.take q)++flat elP.fl (rest.drop (q+1)))++(List.drop ((rest.length - 1)*2) (flat elP.fl rest)++J):=by
  unfold putN
  rw [e3,lC,show q*2+(rest.length - q - 1)*2=(rest.length - 1)*2 by omega,List.drop_append_of_le_length (by omega)]
 rw [eIn]
 have lI:(flat elP.fl (rest.take q)++flat elP.fl (rest.drop (q+1))).length=(rest.length - 1)*2:=by rw [List.length_append,lA,lC];omega
 have lD:(List.drop ((rest.length - 1)*2) (flat elP.fl rest)).length=2:=by rw [List.length_drop,lR];omega
 unfold putN
 rw [List.take_left' lI,hZ]
 have e4:List.drop ((rest.length - 1)*2+2) (flat elP.fl (List.take q rest)++flat elP.fl (List.drop (q+1) rest)++(List.drop ((rest.length - 1)*2) (flat elP.fl rest)++J))=J:=by
  rw [← List.append_assoc]
  exact List.drop_left' (by rw [List.length_append,lI,lD])
 rw [e4]
 unfold delI
 rw [flat_append,List.append_assoc]
theorem delJ0 {rest:List (Int × Int)}{J Z:List Value}{q o1 o2:Nat}(hq:q+1=rest.length)(ho1:o1=q*2)(ho2:o2=(rest.length - 1)*2)(hZ:Z.length=2) :
  putN (putN (flat elP.fl rest++J) o1 []) o2 Z=flat elP.fl (delI rest q)++(Z++J):=by
 have h:=delJ (rest:=rest) (J:=J) (Z:=Z) (q:=q) (o1:=o1) (o2:=o2) (a:=0) (b:=(q+1)*2) (by omega) ho1 (by omega) rfl ho2 hZ
 rw [List.take_zero] at h
 exact h
end Go.Aw
end
