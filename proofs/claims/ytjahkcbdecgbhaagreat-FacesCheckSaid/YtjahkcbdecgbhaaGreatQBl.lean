/-
  Parts of the proof, put together. No condition.
-/
import Derived.Test.YtjahkcbdecgbhaaGreatQAy
import Derived.Test.YtjahkcbdecgbhaaGreatQAz
import Derived.Test.YtjahkcbdecgbhaaGreatQBi
import Derived.Test.YtjahkcbdecgbhaaGreatQBj
import Derived.Test.YtjahkcbdecgbhaaGreatQBk
set_option linter.unusedSimpArgs false
set_option linter.unusedVariables false
namespace Go.Aw
abbrev V2:=Int × Int
def cr (a b:V2):Int:=a.1*b.2 - a.2*b.1
def dt (a b:V2):Int:=a.1*b.1+a.2*b.2
def neg2 (a:V2):V2:=(-a.1,-a.2)
def up (a:V2):Prop:=0<a.2∨a.2=0∧0<a.1
def lo (a:V2):Prop:=a.2<0∨a.2=0∧a.1<0
instance (a:V2):Decidable (lo a):=inferInstanceAs (Decidable (_∨_))
theorem cr_anti (a b:V2):cr b a = - cr a b:=by unfold cr;rw [Int.mul_comm b.1,Int.mul_comm b.2];omega
theorem up_neg {a:V2}(h:lo a):up (neg2 a):=by unfold up neg2;unfold lo at h;simp only;omega
theorem cr_negl (a b:V2):cr (neg2 a) b = - cr a b:=by unfold cr neg2;simp only [Int.neg_mul];omega
theorem cr_negr (a b:V2):cr a (neg2 b) = - cr a b:=by unfold cr neg2;simp only [Int.mul_neg];omega
theorem dt_negl (a b:V2):dt (neg2 a) b = - dt a b:=by unfold dt neg2;simp only [Int.neg_mul];omega
theorem dt_negr (a b:V2):dt a (neg2 b) = - dt a b:=by unfold dt neg2;simp only [Int.mul_neg];omega
theorem nonneg_of_mul {a b:Int}(hb:0<b)(h:0≤a*b):0≤a:=by
 rcases Int.lt_or_le a 0 with h1|h1
 ·have:=Int.mul_neg_of_neg_of_pos h1 hb
  omega
 ·exact h1
theorem cr_id (a b c:V2):cr a c*b.2=cr a b*c.2+cr b c*a.2:=by
 unfold cr
 simp only [Int.sub_mul]
 have e1:a.1*c.2*b.2=a.1*b.2*c.2:=by rw [Int.mul_assoc,Int.mul_comm c.2,← Int.mul_assoc]
 have e2:a.2*c.1*b.2=b.2*c.1*a.2:=by rw [Int.mul_comm (b.2*c.1),Int.mul_assoc,Int.mul_comm c.1]
 have e3:a.2*b.1*c.2=b.1*c.2*a.2:=by rw [Int.mul_assoc,Int.mul_comm]
 omega
theorem up_trans {a b c:V2}(ha:up a)(hb:up b)(hc:up c)(h1:0≤cr a b)(h2:0≤cr b c):0≤cr a c:=by
 have hid:=cr_id a b c
 have a2:0≤a.2:=by unfold up at ha;omega
 have c2:0≤c.2:=by unfold up at hc;omega
 rcases hb with hb|⟨hb,hb1⟩
 ·refine nonneg_of_mul hb ?_
  rw [hid]
  have:=Int.mul_nonneg h1 c2
  have:=Int.mul_nonneg h2 a2
  omega
 ·have e1:cr a b = -(a.2*b.1):=by unfold cr;rw [hb];omega
  rw [e1] at h1
  have:a.2=0:=by
   rcases Int.lt_or_le 0 a.2 with h|h
   ·have:=Int.mul_pos h hb1
    omega
   ·omega
  have a1:0<a.1:=by unfold up at ha;omega
  unfold cr
  rw [this]
  have:=Int.mul_nonneg (Int.le_of_lt a1) c2
  omega
theorem up_trans' {a b c:V2}(ha:up a)(hb:up b)(hc:up c)(h1:0≤cr a b)(h2:0≤cr b c)(h3:cr a c≤0):cr a b=0∧cr b c=0:=by
 have h4:0≤cr c a:=by rw [cr_anti];omega
 have k1:=up_trans hb hc ha h2 h4
 have k2:=up_trans hc ha hb h4 h1
 rw [cr_anti] at k1
 rw [cr_anti] at k2
 omega
theorem up_dot {a b:V2}(ha:up a)(hb:up b)(h:cr a b=0):0<dt a b:=by
 unfold cr at h
 unfold dt
 rcases ha with ha|⟨ha,ha1⟩ <;> rcases hb with hb|⟨hb,hb1⟩
 ·have h2:=Int.mul_pos ha hb
  have:0≤a.1*b.1:=by
   rcases Int.lt_or_le b.1 0 with h1|h1
   ·have:=Int.mul_neg_of_pos_of_neg ha h1
    have h3:a.1<0:=by
     rcases Int.lt_or_le a.1 0 with h4|h4
     ·exact h4
     ·have:=Int.mul_nonneg h4 (Int.le_of_lt hb)
      omega
    exact Int.mul_nonneg_of_nonpos_of_nonpos (Int.le_of_lt h3) (Int.le_of_lt h1)
   ·have:=Int.mul_nonneg (Int.le_of_lt ha) h1
    have h3:0≤a.1:=by
     refine nonneg_of_mul hb ?_
     omega
    exact Int.mul_nonneg h3 h1
  omega
 ·rw [hb] at h
  have:=Int.mul_pos ha hb1
  omega
 ·rw [ha] at h
  have:=Int.mul_pos ha1 hb
  omega
 ·have:=Int.mul_pos ha1 hb1
  rw [ha]
  omega
def bef (a b:V2):Prop:=(¬ lo a∧lo b)∨((lo a↔lo b)∧0<cr a b)
def rk (u w:V2):Int:=if cr u w<0 then 0 else if 0<cr u w then 2 else if dt u w<0 then 1 else 3
def soon (u w x:V2):Prop:=rk u w<rk u x∨rk u w=rk u x∧cr w x<0
def nz (a:V2):Prop:=¬ (a.1=0∧a.2=0)
theorem up_of {a:V2}(h:nz a)(hl:¬ lo a):up a:=by unfold nz at h;unfold lo at hl;unfold up;omega
def uv (a:V2):V2:=if lo a then neg2 a else a
theorem uv_up {a:V2} (h:nz a):up (uv a):=by unfold uv; split; · rename_i hl; exact up_neg hl
                                            ·rename_i hl;exact up_of h hl
theorem three {u y x:V2}(hu:nz u)(hy:nz y)(hx:nz x) :
  (bef u x∧bef x y∧bef u y)∨(bef y u∧bef u x∧bef y x)∨(bef x y∧bef y u∧bef x u)→soon u y x:=by
 have hU:=uv_up hu;have hY:=uv_up hy;have hX:=uv_up hx
 have f1:=fun h1 h2 h3=>up_trans' hU hY hX h1 h2 h3
 have f2:=fun h1 h2 h3=>up_trans' hU hX hY h1 h2 h3
 have f3:=fun h1 h2 h3=>up_trans' hY hU hX h1 h2 h3
 have f4:=fun h1 h2 h3=>up_trans' hY hX hU h1 h2 h3
 have f5:=fun h1 h2 h3=>up_trans' hX hU hY h1 h2 h3
 have f6:=fun h1 h2 h3=>up_trans' hX hY hU h1 h2 h3
 have d1:=fun h=>up_dot hU hY h
 have d2:=fun h=>up_dot hU hX h
 have n1:=cr_anti (uv u) (uv y);have n2:=cr_anti (uv u) (uv x);have n3:=cr_anti (uv y) (uv x)
 have n4:=cr_anti u y;have n5:=cr_anti u x;have n6:=cr_anti y x
 unfold bef soon rk
 by_cases lu:lo u <;> by_cases ly:lo y <;> by_cases lx:lo x <;>
  simp only [uv,lu,ly,lx,if_true,if_false,cr_negl,cr_negr,dt_negl,dt_negr,not_true,not_false_iff,true_and,false_and,and_false,and_true,iff_true,true_iff,iff_false,false_or,or_false,not_false_eq_true,Int.neg_neg] at f1 f2 f3 f4 f5 f6 d1 d2 n1 n2 n3 ⊢ <;>
  (generalize cr u y=c1 at *;generalize cr u x=c2 at *;generalize cr y x=c3 at *;generalize dt u y=e1 at *;generalize dt u x=e2 at *;intro h;repeat' split) <;> omega
theorem cr_self (a:V2):cr a a=0:=by unfold cr;rw [Int.mul_comm];omega
theorem bef_asymm {a b:V2}(h:bef a b):¬ bef b a:=by
 unfold bef at *
 have:=cr_anti a b
 rintro (⟨h1,h2⟩|⟨h2,h3⟩) <;> rcases h with ⟨h4,h5⟩|⟨h5,h6⟩
 ·exact h1 h5
 ·exact h1 (h5.1 h2)
 ·exact h4 (h2.1 h5)
 ·omega
theorem nbef_trans {a b c:V2}(ha:nz a)(hb:nz b)(hc:nz c)(h1:¬ bef b a)(h2:¬ bef c b):¬ bef c a:=by
 have hA:=uv_up ha;have hB:=uv_up hb;have hC:=uv_up hc
 have f1:=fun h1 h2=>up_trans hA hB hC h1 h2
 have g1:=fun h1 h2 h3=>up_trans' hA hB hC h1 h2 h3
 have n1:=cr_anti a b;have n2:=cr_anti a c;have n3:=cr_anti b c
 unfold bef at *
 by_cases la:lo a <;> by_cases lb:lo b <;> by_cases lc:lo c <;>
  simp only [uv,la,lb,lc,if_true,if_false,cr_negl,cr_negr,not_true,not_false_iff,true_and,false_and,and_false,and_true,iff_true,true_iff,iff_false,false_or,or_false,true_or,or_true,Int.neg_neg] at f1 g1 h1 h2 ⊢ <;> omega
def ray (a b:V2):Prop:=cr a b=0∧0<dt a b
theorem bef_total {a b:V2}(ha:nz a)(hb:nz b)(h:¬ ray a b):bef a b∨bef b a:=by
 have hA:=uv_up ha;have hB:=uv_up hb
 have d:=fun h=>up_dot hA hB h
 have n:=cr_anti a b
 unfold ray at h
 unfold bef
 by_cases la:lo a <;> by_cases lb:lo b <;>
  simp only [uv,la,lb,if_true,if_false,cr_negl,cr_negr,dt_negl,dt_negr,not_true,not_false_iff,true_and,false_and,and_false,and_true,iff_true,true_iff,iff_false,false_or,or_false,true_or,or_true,Int.neg_neg] at d h ⊢ <;> omega
theorem sq0 (a:Int):0≤a*a:=by
 rcases Int.le_total 0 a with h|h
 ·exact Int.mul_nonneg h h
 ·exact Int.mul_nonneg_of_nonpos_of_nonpos h h
theorem soon_self {u y:V2}(hu:nz u)(hy:nz y)(h:bef u y∨bef y u):soon u y u:=by
 have hU:=uv_up hu;have hY:=uv_up hy
 have d:=fun h=>up_dot hU hY h
 have d2:0<dt u u:=by
  unfold dt;unfold nz at hu
  have h1:=sq0 u.1
  have h2:=sq0 u.2
  by_cases h3:u.1=0
  ·have h4:u.2≠0:=fun h=>hu ⟨h3,h⟩
   have:u.2*u.2≠0:=Int.mul_ne_zero h4 h4
   omega
  ·have:u.1*u.1≠0:=Int.mul_ne_zero h3 h3
   omega
 have n:=cr_anti u y
 have c0:=cr_self u
 unfold soon rk
 unfold bef at h
 rw [c0]
 by_cases lu:lo u <;> by_cases ly:lo y <;>
  simp only [uv,lu,ly,if_true,if_false,cr_negl,cr_negr,dt_negl,dt_negr,not_true,not_false_iff,true_and,false_and,and_false,and_true,iff_true,true_iff,iff_false,false_or,or_false,true_or,or_true,Int.neg_neg] at d h ⊢ <;> (repeat' split) <;> omega
theorem soon_asymm {u y x:V2}(h:soon u y x):¬ soon u x y:=by
 unfold soon at *
 have:=cr_anti x y
 omega
end Go.Aw

noncomputable section
namespace Go.Aw
set_option maxRecDepth 100000
theorem ltD_bef (D:List Dt)(x y:Int):ltD D x y=true↔bef (dirD (atD D x.toNat)) (dirD (atD D y.toNat)):=by
 unfold ltD c209
 generalize dirD (atD D x.toNat)=u
 generalize dirD (atD D y.toNat)=v
 rw [decide_eq_true_iff]
 have hu:lowI u=true↔lo u:=by unfold lowI lo;simp
 have hv:lowI v=true↔lo v:=by unfold lowI lo;simp
 have hc:crP u v=cr u v:=rfl
 unfold trnI bef cmpI
 rw [hc]
 cases h1:lowI u <;> cases h2:lowI v <;> rw [h1] at hu <;> rw [h2] at hv <;> simp only [Bool.false_eq_true,false_iff,true_iff,if_true,if_false] at hu hv ⊢ <;> simp only [hu,hv,not_true,not_false_iff,true_and,false_and,false_or,or_false,and_false,iff_true,true_iff,iff_false,not_false_eq_true]
 ·split <;> (try split) <;> omega
 ·simp
 ·simp
 ·split <;> (try split) <;> omega
theorem less_trans {a b c:Pt}(h1:lessI a b=true)(h2:lessI b c=true):lessI a c=true:=by
 simp only [lessI,Bool.or_eq_true,Bool.and_eq_true,decide_eq_true_eq] at *
 omega
section
variable {l:List Pt}{m:List Ed}{n:Int}
theorem lst_lt (hok:lstB l m n=true):∀ {j i:Nat},i<j→j<l.length→lessI (at2 l i) (at2 l j)=true
 |0,i,h,_=>by omega
 |j+1,i,h,hj=>by
  simp only [lstB,Bool.and_eq_true] at hok
  have h1:=allN_at hok.2.1 hj
  simp only [ptB,Bool.and_eq_true,Bool.or_eq_true,decide_eq_true_eq] at h1
  have h2:lessI (at2 l j) (at2 l (j+1))=true:=by
   rcases h1.2 with h|h
   ·omega
   ·exact h
  by_cases e:i=j
  ·rw [e];exact h2
  ·exact less_trans (lst_lt (by simp only [lstB,Bool.and_eq_true];exact hok) (show i<j by omega) (by omega)) h2
theorem lst_eg (hok:lstB l m n=true){i:Nat}(hi:i<m.length):0≤(atE m i).a∧(atE m i).a<(atE m i).b∧(atE m i).b<l.length:=by
 simp only [lstB,Bool.and_eq_true] at hok
 have h1:=allN_at hok.2.2.1 hi
 simp only [edB,Bool.and_eq_true,decide_eq_true_eq] at h1
 exact⟨h1.1.1.1.1.1,h1.1.1.1.1.2,h1.1.1.1.2⟩
theorem dts_nz (hok:lstB l m n=true){i:Nat}(hi:i<2*m.length):nz (dirD (atD (dts l m m.length) i)):=by
 obtain⟨h1,h2,h3⟩:=lst_eg hok (i:=i / 2) (by omega)
 have h4:=lst_lt hok (i:=(atE m (i / 2)).a.toNat) (j:=(atE m (i / 2)).b.toNat) (by omega) (by omega)
 simp only [lessI,Bool.or_eq_true,Bool.and_eq_true,decide_eq_true_eq] at h4
 unfold nz
 rcases dts_one (l:=l) (m:=m) hi with ⟨e,h⟩|⟨e,h⟩
 ·rw [h];simp only [dirD,dA,ptI];omega
 ·rw [h];simp only [dirD,dB,ptI];omega
theorem dts_ord (hok:lstB l m n=true):Ord (dts l m m.length) (fun x=>0≤x∧x<(2*m.length:Nat)) where
 trans:=fun x y z hx hy hz h1 h2=>by
  have nx:=dts_nz hok (i:=x.toNat) (by omega)
  have ny:=dts_nz hok (i:=y.toNat) (by omega)
  have nz':=dts_nz hok (i:=z.toNat) (by omega)
  unfold leD at *
  have b1:¬ bef (dirD (atD (dts l m m.length) y.toNat)) (dirD (atD (dts l m m.length) x.toNat)):=fun h=>by rw [(ltD_bef _ _ _).2 h] at h1;cases h1
  have b2:¬ bef (dirD (atD (dts l m m.length) z.toNat)) (dirD (atD (dts l m m.length) y.toNat)):=fun h=>by rw [(ltD_bef _ _ _).2 h] at h2;cases h2
  cases h:ltD (dts l m m.length) z x with
  |false=>rfl
  |true=>exact absurd ((ltD_bef _ _ _).1 h) (nbef_trans nx ny nz' b1 b2)
 asym:=fun x y hx hy h=>by
  unfold leD
  cases h2:ltD (dts l m m.length) y x with
  |false=>rfl
  |true=>exact absurd ((ltD_bef _ _ _).1 h2) (bef_asymm ((ltD_bef _ _ _).1 h))
theorem dAt_nodup (D:List Dt)(s j:Nat):(dAt D s j).Nodup:=by
 unfold dAt
 unfold List.Nodup
 rw [List.pairwise_map]
 have h:List.Pairwise (fun a b:Nat=>a≠b) ((List.range j).filter fun i=>decide ((atD D i).fr.toNat=s)):=List.Pairwise.filter _ List.nodup_range
 exact h.imp fun {a b} h e=>h (Int.ofNat.inj e)
theorem dAt_len (D:List Dt)(s j:Nat):(dAt D s j).length≤j:=by
 unfold dAt
 rw [List.length_map]
 exact Nat.le_trans (List.length_filter_le _ _) (by rw [List.length_range];exact Nat.le_refl _)
theorem outs_at (hok:lstB l m n=true){s:Nat}(hs:s<l.length):atL (outs l m) s=stbl (dts l m m.length) 1000 (dAt (dts l m m.length) s (2*m.length)):=by
 have hM:=(lst_ok hok).1
 have hfr:∀ i,i<2*m.length→(atD (dts l m m.length) i).fr.toNat<l.length∧(atD (dts l m m.length) i).no=i:=fun i hi=>by
  have:=dts_fr (l:=l) hM hi
  omega
 unfold outs
 rw [srN_at _ _ (by rw [outN_len];exact Nat.le_refl _),if_pos hs,outN_at _ hfr]
theorem outs_so (hok:lstB l m n=true){s:Nat}(hs:s<l.length):So (dts l m m.length) (atL (outs l m) s) 0 (atL (outs l m) s).length∧(atL (outs l m) s).Perm (dAt (dts l m m.length) s (2*m.length)):=by
 obtain⟨hM,h3,h1,h4,h5,_,_⟩:=lst_ok hok
 rw [outs_at hok hs]
 have hl:=dAt_len (dts l m m.length) s (2*m.length)
 have:=stbl_so (dts_ord hok) (f:=1000) (L:=dAt (dts l m m.length) s (2*m.length)) (by omega) (fun i _ hi=>by
  have hm:atI (dAt (dts l m m.length) s (2*m.length)) i∈dAt (dts l m m.length) s (2*m.length):=by
   rw [atI_eq hi];exact List.getElem_mem hi
  obtain⟨k,hk,e,_⟩:=dAt_mem hm
  rw [e]
  omega)
 rw [stbl_len]
 exact this
theorem outs_mem (hok:lstB l m n=true){s:Nat}(hs:s<l.length){x:Int}:x∈atL (outs l m) s↔∃ i:Nat,i<2*m.length∧x=i∧(atD (dts l m m.length) i).fr.toNat=s:=by
 rw [(outs_so hok hs).2.mem_iff]
 exact⟨dAt_mem,fun ⟨i,h1,h2,h3⟩=>by rw [h2];exact dAt_of h1 h3⟩
theorem outs_nodup (hok:lstB l m n=true){s:Nat}(hs:s<l.length):(atL (outs l m) s).Nodup:=(outs_so hok hs).2.symm.nodup (dAt_nodup _ _ _)
theorem back_in {d:Int}{E:Nat}(h0:0≤d)(h1:d<(2*E:Nat)):0≤backI d∧backI d<(2*E:Nat):=by unfold backI;split <;> omega
theorem back_back {d:Int}(h0:0≤d):backI (backI d)=d:=by unfold backI;split <;> split <;> omega
theorem back_dt (l:List Pt)(m:List Ed){d:Int}(h0:0≤d)(h1:d<(2*m.length:Nat)):(atD (dts l m m.length) (backI d).toNat).fr=(atD (dts l m m.length) d.toNat).tt∧(atD (dts l m m.length) (backI d).toNat).tt=(atD (dts l m m.length) d.toNat).fr∧dirD (atD (dts l m m.length) (backI d).toNat)=neg2 (dirD (atD (dts l m m.length) d.toNat)):=by
 obtain⟨hd1,hd2⟩:=dts_at l m (N:=m.length) (i:=d.toNat / 2) (by omega)
 unfold backI
 by_cases e:d % 2=0
 ·rw [if_pos e,show (d+1).toNat=2*(d.toNat / 2)+1 by omega,show atD (dts l m m.length) d.toNat=dA l m (d.toNat / 2) by rw [← hd1];congr 1;omega,hd2]
  refine⟨rfl,rfl,?_⟩
  simp only [dirD,dA,dB,neg2,Prod.mk.injEq]
  omega
 ·rw [if_neg e,show (d - 1).toNat=2*(d.toNat / 2) by omega,show atD (dts l m m.length) d.toNat=dB l m (d.toNat / 2) by rw [← hd2];congr 1;omega,hd1]
  refine⟨rfl,rfl,?_⟩
  simp only [dirD,dA,dB,neg2,Prod.mk.injEq]
  omega
theorem idxI_spec {x:Int}:∀ {L:List Int} {i:Nat},x∈L→∃ k,k<L.length∧idxI x L i=((i+k:Nat):Int)∧atI L k=x
 |[],i,h=>by cases h
 |b::r,i,h=>by
  unfold idxI
  by_cases e:x=b
  ·rw [if_pos e]
   exact⟨0,Nat.succ_pos _,rfl,e.symm⟩
  ·rw [if_neg e]
   rcases List.mem_cons.1 h with h|h
   ·exact absurd h e
   ·obtain⟨k,h1,h2,h3⟩:=idxI_spec (L:=r) (i:=i+1) h
    refine⟨k+1,by simpa using h1,by rw [h2];congr 1;omega,?_⟩
    rw [← h3]
    rfl
theorem nx_facts (hok:lstB l m n=true){d:Int}(h0:0≤d)(h1:d<(2*m.length:Nat)):∃ (s a:Nat),s=(atD (dts l m m.length) d.toNat).tt.toNat∧s<l.length∧nxL (dts l m m.length) (outs l m) d=atL (outs l m) s∧a<(atL (outs l m) s).length ∧
  idxI (backI d) (atL (outs l m) s) 0=a∧atI (atL (outs l m) s) a=backI d∧nxI (dts l m m.length) (outs l m) d=atI (atL (outs l m) s) (if a=0 then (atL (outs l m) s).length - 1 else a - 1):=by
 obtain⟨hM,h3,h5,h4,h6,_,_⟩:=lst_ok hok
 have hf:=dts_fr (l:=l) hM (i:=d.toNat) (by omega)
 have hb:=back_in (E:=m.length) h0 h1
 have hbd:=back_dt l m h0 h1
 refine⟨(atD (dts l m m.length) d.toNat).tt.toNat,?_⟩
 have hs:(atD (dts l m m.length) d.toNat).tt.toNat<l.length:=by omega
 have hmem:backI d∈atL (outs l m) (atD (dts l m m.length) d.toNat).tt.toNat:=(outs_mem hok hs).2 ⟨(backI d).toNat,by omega,by omega,by rw [hbd.1]⟩
 obtain⟨k,k1,k2,k3⟩:=idxI_spec (i:=0) hmem
 rw [Nat.zero_add] at k2
 refine⟨k,rfl,hs,rfl,k1,k2,k3,?_⟩
 unfold nxI nxL
 rw [k2]
 congr 1
 split
 ·rename_i e
  rw [e]
  have:((0:Nat):Int) - 1+((atL (outs l m) (atD (dts l m m.length) d.toNat).tt.toNat).length:Int)=(((atL (outs l m) (atD (dts l m m.length) d.toNat).tt.toNat).length - 1:Nat):Int):=by omega
  rw [this,Int.emod_eq_of_lt (by omega) (by omega)]
  rfl
 ·have:(k:Int) - 1+((atL (outs l m) (atD (dts l m m.length) d.toNat).tt.toNat).length:Int)=((k - 1:Nat):Int)+(atL (outs l m) (atD (dts l m m.length) d.toNat).tt.toNat).length:=by omega
  rw [this,Int.add_emod_right,Int.emod_eq_of_lt (by omega) (by omega)]
  rfl
theorem at_mem {L:List Int}{i:Nat}(h:i<L.length):atI L i∈L:=by rw [atI_eq h];exact List.getElem_mem h
theorem nx_in (hok:lstB l m n=true){d:Int}(h0:0≤d)(h1:d<(2*m.length:Nat)):0≤nxI (dts l m m.length) (outs l m) d∧nxI (dts l m m.length) (outs l m) d<(2*m.length:Nat)∧(atD (dts l m m.length) (nxI (dts l m m.length) (outs l m) d).toNat).fr.toNat=(atD (dts l m m.length) d.toNat).tt.toNat:=by
 obtain⟨s,a,e1,hs,e2,ha,e3,e4,e5⟩:=nx_facts hok h0 h1
 rw [e5]
 have hi:(if a=0 then (atL (outs l m) s).length - 1 else a - 1)<(atL (outs l m) s).length:=by split <;> omega
 obtain⟨i,i1,i2,i3⟩:=(outs_mem hok hs).1 (at_mem hi)
 rw [i2]
 exact⟨by omega,by omega,by rw [← e1];exact i3⟩
theorem nodup_at {L:List Int}(h:L.Nodup){i j:Nat}(hi:i<L.length)(hj:j<L.length)(e:atI L i=atI L j):i=j:=by
 rw [atI_eq hi,atI_eq hj] at e
 exact (List.getElem_inj h).1 e
theorem nx_inj (hok:lstB l m n=true){d d':Int}(h0:0≤d)(h1:d<(2*m.length:Nat))(h0':0≤d')(h1':d'<(2*m.length:Nat))(e:nxI (dts l m m.length) (outs l m) d=nxI (dts l m m.length) (outs l m) d'):d=d':=by
 have hn:=(nx_in hok h0 h1).2.2
 have hn':=(nx_in hok h0' h1').2.2
 obtain⟨s,a,e1,hs,e2,ha,e3,e4,e5⟩:=nx_facts hok h0 h1
 obtain⟨s',a',e1',hs',e2',ha',e3',e4',e5'⟩:=nx_facts hok h0' h1'
 have hss:s=s':=by rw [e1,e1',← hn,← hn',e]
 subst hss
 rw [e5,e5'] at e
 have:=nodup_at (outs_nodup hok hs) (by split <;> omega) (by split <;> omega) e
 have haa:a=a':=by
  split at this <;> split at this <;> omega
 have hb:backI d=backI d':=by rw [← e4,← e4',haa]
 rw [← back_back h0,hb,back_back h0']
theorem pigeon:∀ (n:Nat) (f:Nat→Nat),(∀ i,i≤n→f i<n)→∃ i j,i<j∧j≤n∧f i=f j
 |0,f,h=>by have:=h 0 (Nat.le_refl 0);omega
 |n+1,f,h=>by
  by_cases hc:∃ i,i≤n∧f i=f (n+1)
  ·obtain⟨i,h1,h2⟩:=hc
   exact⟨i,n+1,by omega,Nat.le_refl _,h2⟩
  ·have hne:∀ i,i≤n→f i≠f (n+1):=fun i hi e=>hc ⟨i,hi,e⟩
   obtain⟨i,j,h1,h2,h3⟩:=pigeon n (fun i=>if f (n+1)<f i then f i - 1 else f i) (fun i hi=>by
    have a1:=h i (by omega)
    have a2:=h (n+1) (Nat.le_refl _)
    have a3:=hne i hi
    show (if f (n+1)<f i then f i - 1 else f i)<n
    split <;> omega)
   refine⟨i,j,h1,by omega,?_⟩
   have a1:=hne i (by omega)
   have a2:=hne j h2
   have h3:(if f (n+1)<f i then f i - 1 else f i)=(if f (n+1)<f j then f j - 1 else f j):=h3
   split at h3 <;> split at h3 <;> omega
theorem it_in (hok:lstB l m n=true){d:Int}(h0:0≤d)(h1:d<(2*m.length:Nat)):∀ i,0≤itN (dts l m m.length) (outs l m) d i∧itN (dts l m m.length) (outs l m) d i<(2*m.length:Nat)
 |0=>⟨h0,h1⟩
 |i+1=>by
  have ih:=it_in hok h0 h1 i
  have:=nx_in hok ih.1 ih.2
  exact⟨this.1,this.2.1⟩
theorem it_back (hok:lstB l m n=true){d:Int}(h0:0≤d)(h1:d<(2*m.length:Nat)):∀ (i k:Nat),itN (dts l m m.length) (outs l m) d i=itN (dts l m m.length) (outs l m) d (i+k)→d=itN (dts l m m.length) (outs l m) d k
 |0,k,h=>by rw [Nat.zero_add] at h;exact h
 |i+1,k,h=>by
  refine it_back hok h0 h1 i k ?_
  have a:=it_in hok h0 h1 i
  have b:=it_in hok h0 h1 (i+k)
  refine nx_inj hok a.1 a.2 b.1 b.2 ?_
  rw [show i+1+k=i+k+1 by omega] at h
  exact h
theorem perI_hit (D:List Dt)(ls:List (List Int))(d:Int):∀ (k i N:Nat),i≤N→N<i+k→itN D ls d N=d→itN D ls d (perI D ls d k i)=d
 |0,i,N,h1,h2,_=>by omega
 |k+1,i,N,h1,h2,h3=>by
  unfold perI
  split
  ·assumption
  ·rename_i h
   refine perI_hit D ls d k (i+1) N ?_ (by omega) h3
   rcases Nat.lt_or_ge i N with h4|h4
   ·exact h4
   ·exact absurd (by rw [show i=N by omega];exact h3) h
theorem wks_ok (hok:lstB l m n=true):wksB (dts l m m.length) (outs l m)=true:=by
 refine List.all_eq_true.2 fun d hd=>decide_eq_true ?_
 have hd:=List.mem_range.1 hd
 rw [dts_len] at hd
 obtain⟨i,j,h1,h2,h3⟩:=pigeon (2*m.length) (fun i=>(itN (dts l m m.length) (outs l m) d i).toNat) (fun i _=>by
  have:=it_in hok (d:=d) (by omega) (by omega) i
  show (itN (dts l m m.length) (outs l m) d i).toNat<2*m.length
  omega)
 have a:=it_in hok (d:=(d:Int)) (by omega) (by omega) i
 have b:=it_in hok (d:=(d:Int)) (by omega) (by omega) j
 have e:=it_back hok (d:=(d:Int)) (by omega) (by omega) i (j - i) (by rw [show i+(j - i)=j by omega];have h3:(itN (dts l m m.length) (outs l m) d i).toNat=(itN (dts l m m.length) (outs l m) d j).toNat:=h3;omega)
 unfold perD
 rw [dts_len]
 exact perI_hit _ _ _ _ 1 (j - i) (by omega) (by omega) e.symm
theorem wb_ok (hok:lstB l m n=true):wbB l (dts l m m.length) (outs l m)=true:=by
 obtain⟨hM,h3,h5,h4,h6,_,_⟩:=lst_ok hok
 simp only [wbB,Bool.and_eq_true,decide_eq_true_eq]
 refine⟨⟨⟨⟨List.all_eq_true.2 fun p hp=>?_,List.all_eq_true.2 fun e he=>?_⟩,by rw [dts_len];omega⟩,outs_len l m⟩,by omega⟩
 ·obtain⟨i,hi,rfl⟩:=List.getElem_of_mem hp
  have:=rgt_of hok hi
  rw [at2_eq hi] at this
  unfold wide
  simp only [Bool.and_eq_true,decide_eq_true_eq]
  omega
 ·obtain⟨i,hi,rfl⟩:=List.getElem_of_mem he
  rw [← atD_eq hi]
  rw [dts_len] at hi
  have:=dts_fr (l:=l) hM hi
  simp only [Bool.and_eq_true,decide_eq_true_eq]
  omega
theorem web_ok (hok:lstB l m n=true):webB l (dts l m m.length) (outs l m)=true:=by
 obtain⟨hM,h3,h5,h4,h6,_,_⟩:=lst_ok hok
 unfold webB
 rw [wb_ok hok,Bool.true_and]
 refine List.all_eq_true.2 fun i hi=>?_
 have hi:=List.mem_range.1 hi
 rw [dts_len] at hi
 have hn:=nx_in hok (d:=(i:Int)) (by omega) (by omega)
 obtain⟨s,a,e1,hs,e2,ha,e3,e4,e5⟩:=nx_facts hok (d:=(i:Int)) (by omega) (by omega)
 have hf:=dts_fr (l:=l) hM (i:=i) hi
 have hlen:(atL (outs l m) s).length≤1000:=by
  have h7:=(outs_so hok hs).2.length_eq
  have h8:=dAt_len (dts l m m.length) s (2*m.length)
  omega
 simp only [Bool.and_eq_true,decide_eq_true_eq]
 refine⟨?_,hn.1,by rw [dts_len];omega⟩
 unfold nxB
 rw [e2,e3,dts_len,outs_len]
 simp only [Bool.and_eq_true,decide_eq_true_eq,Int.toNat_natCast]
 omega
theorem lis_ok (hok:lstB l m n=true):lisB (dts l m m.length) (outs l m)=true:=by
 obtain⟨hM,h3,h5,h4,h6,_,_⟩:=lst_ok hok
 refine List.all_eq_true.2 fun L hL=>?_
 obtain⟨s,hs,rfl⟩:=List.getElem_of_mem hL
 have hs':=hs
 rw [outs_len] at hs'
 have e:(outs l m)[s]=atL (outs l m) s:=by
  unfold atL
  rw [List.getD_eq_getElem?_getD,List.getElem?_eq_getElem hs]
  rfl
 rw [e]
 have h7:=(outs_so hok hs').2.length_eq
 have h8:=dAt_len (dts l m m.length) s (2*m.length)
 have h9:=lst_out hok hs'
 simp only [Bool.and_eq_true,decide_eq_true_eq]
 refine⟨⟨by omega,by omega⟩,List.all_eq_true.2 fun x hx=>?_⟩
 obtain⟨i,i1,i2,_⟩:=(outs_mem hok hs').1 hx
 simp only [Bool.and_eq_true,decide_eq_true_eq,dts_len]
 omega
end
end Go.Aw
end

noncomputable section
namespace Go.Aw
set_option maxRecDepth 100000
set_option maxHeartbeats 2000000
theorem shH_cells (n:Nat):∀ {h:Heap},cellsH h=true→cellsH (shH n h)=true
 |[],_=>rfl
 |(k,o)::r,h=>by
  simp only [cellsH,Bool.and_eq_true] at h
  simp only [shH,cellsH,Bool.and_eq_true]
  refine⟨?_,shH_cells n h.2⟩
  cases o with
  |cells wr g sz cs=>rfl
  |_=>exact h.1
def Xf69:Nat × XF:=(69,fun args h nx K=>∃ l m n p q,args=[mapA p q n]∧LsAt elP h p l∧LsAt elE h q m∧(l.length≤1000∧m.length≤1000) ∧
 ((opnB l m n=true∧K (.tuple #[.pointer (some ⟨nx+7,0,none⟩),iv 0]) (app (shH nx (hF0 l m (capV p) (capV q) n)) (shutH h)) (nx+2004))∨(opnB l m n=false∧K (.tuple #[.pointer none,iv 1]) h nx)))
theorem xf69:XOK Go.Proofs.Tryz.prog Xf69.1 Xf69.2:=by
 refine (xOf_ok (S:=fun args0 h0 n0 v1 h1 j=>∃ l m n c1 c2,(l.length≤1000∧m.length≤1000)∧args0=[mapV2 l.length m.length c1 c2 n]∧h0=mapH2 elP elE l m∧n0=2 ∧
  ((opnB l m n=true∧v1=.tuple #[.pointer (some ⟨7,0,none⟩),iv 0]∧h1=hF0 l m c1 c2 n∧j=2004)∨(opnB l m n=false∧v1=.tuple #[.pointer none,iv 1]∧h1=[]∧j=0))) (body_calls (xl:=[Xf152,Xf98,X119m,Xf153,Xf154,(155,X155)]) (.cons xf152 (.cons xf98 (.cons x119m (.cons xf153 (.cons xf154 (.cons xf155 .nil))))))) ?_).mono ?_ ?_
 ·rintro args0 h0 n0 v1 h1 j ⟨l,m,n,c1,c2,⟨hl,hm⟩,rfl,rfl,rfl,hc⟩
  have hw:=w69 l m n c1 c2 hl hm fun hok=>⟨web_ok hok,wks_ok hok,lis_ok hok,(lst_ok hok).2.2.1⟩
  rcases hc with ⟨ho,rfl,rfl,rfl⟩|⟨ho,rfl,rfl,rfl⟩
  ·refine⟨shH_cells 3 webT_cells,_,hw,fun v h nx e=>?_⟩
   rcases e with ⟨_,e⟩|⟨e,_⟩
   ·exact e
   ·rw [ho] at e;cases e
  ·refine⟨rfl,_,hw,fun v h nx e=>?_⟩
   rcases e with ⟨e,_⟩|⟨_,rfl⟩
   ·rw [ho] at e;cases e
   ·exact Outc_g rfl
 ·rintro args h nx K ⟨l,m,n,p,q,rfl,hl,hm,hlm,hx⟩
  rcases hx with ⟨ho,hx⟩|⟨ho,hx⟩
  ·refine⟨_,_,2,_,_,_,⟨l,m,n,capV p,capV q,hlm,rfl,rfl,rfl,.inl ⟨ho,rfl,rfl,rfl⟩⟩,In_mapC elP elE rfl hl hm,?_⟩
   have e:ren (fun k=>nx+k) (.tuple #[.pointer (some ⟨7,0,none⟩),iv 0])=.tuple #[.pointer (some ⟨nx+7,0,none⟩),iv 0]:=by simp [ren,tr,trA,trS,trP,at0];rfl
   rw [e]
   exact hx
  ·refine⟨_,_,2,_,[],0,⟨l,m,n,capV p,capV q,hlm,rfl,rfl,rfl,.inr ⟨ho,rfl,rfl,rfl⟩⟩,In_mapC elP elE rfl hl hm,?_⟩
   simp only [past,ownH,shH,app_nil,Nat.add_zero]
   rw [ren_g rfl]
   exact hx
 ·rintro args h nx K ⟨l,m,n,p,q,rfl,hl,hm,hlm,hx⟩
  rcases hx with ⟨ho,hx⟩|⟨ho,hx⟩
  ·exact⟨_,_,_,hx,fun K' hk=>⟨l,m,n,p,q,rfl,hl,hm,hlm,.inl ⟨ho,hk⟩⟩⟩
  ·exact⟨_,_,_,hx,fun K' hk=>⟨l,m,n,p,q,rfl,hl,hm,hlm,.inr ⟨ho,hk⟩⟩⟩
def ckP (l:List Pt)(m:List Ed)(n:Int):List Value→Option (Bool × Value)
 |[]=>some (decide (l.length≤1000)&&decide (m.length≤1000),iv (if opnB l m n=true then 0 else 1))
 |_=>none
def Xf17:Nat × XF:=(17,mX elP elE ckP)
theorem xf17:XOK Go.Proofs.Tryz.prog Xf17.1 Xf17.2:=mX_ok elP elE (body_calls (xl:=[Xf69]) (.cons xf69 .nil)) fun l m n r v hs=>by
 have:r=[]∧l.length≤1000∧m.length≤1000∧v=iv (if opnB l m n=true then 0 else 1):=by
  unfold ckP at hs
  split at hs
  ·injection hs with hs;injection hs with h1 h2
   simp only [Bool.and_eq_true,decide_eq_true_eq] at h1
   exact⟨rfl,h1.1,h1.2,h2.symm⟩
  ·cases hs
 obtain⟨rfl,hl,hm,rfl⟩:=this
 clear hs
 refine⟨rfl,rfl,fun c1 c2=>?_⟩
 (conv=>whnf)
 refine⟨l,m,n,.slice (some ⟨0,0,none⟩) l.length c1,.slice (some ⟨1,0,none⟩) m.length c2,rfl,LsAt_at elP rfl,LsAt_at elE rfl,⟨hl,hm⟩,?_⟩
 cases ho:opnB l m n with
 |true =>
  refine .inl ⟨rfl,?_⟩
  (conv=>whnf)
  rfl
 |false =>
  refine .inr ⟨rfl,?_⟩
  (conv=>whnf)
  rfl
end Go.Aw
end

noncomputable section
namespace Go.Aw
set_option maxRecDepth 100000
def sub2 (p q:Pt):V2:=(p.1 - q.1,p.2 - q.2)
theorem cross_cr (v a b:Pt):crossI v a b=cr (sub2 a v) (sub2 b v):=rfl
theorem ord_less {a b:Pt}(h:lessI a b=true):ordS a b = -1:=by
 rw [less_ord] at h
 have h:=of_decide_eq_true h
 rcases ordS_low a b with e|e|e <;> omega
theorem ord_self (a:Pt):ordS a a=0:=by
 unfold ordS orI cmpI
 simp
theorem ends_less {s:Sg}(h:lessI s.1 s.2=true):endsS s=s:=by
 have:=ord_less h
 unfold endsS
 rw [this]
 simp
theorem cross_0 (a b:Pt):crossI a b a=0:=by unfold crossI;simp
theorem cross_1 (a b:Pt):crossI a b b=0:=by unfold crossI;rw [Int.mul_comm];omega
theorem ov_low {s t:Sg}(h1:rightG s=true)(h2:rightG t=true)(l1:lessI s.1 s.2=true)(l2:lessI t.1 t.2=true)(e:s.1=t.1)(hc:crossI s.1 s.2 t.2=0):MeetV s t=4:=by
 unfold MeetV
 rw [if_pos ⟨h1,h2⟩]
 unfold meetS turnS
 rw [hc,← e,cross_0]
 rw [if_pos ⟨rfl,rfl⟩]
 unfold lowS highS
 rw [ends_less l1,ends_less l2,← e,ord_self,if_neg (by omega)]
 split
 ·rw [e,ord_less l2];rfl
 ·rw [ord_less l1];rfl
theorem ov_high {s t:Sg}(h1:rightG s=true)(h2:rightG t=true)(l1:lessI s.1 s.2=true)(l2:lessI t.1 t.2=true)(e:s.2=t.2)(hc:crossI s.1 s.2 t.1=0):MeetV s t=4:=by
 unfold MeetV
 rw [if_pos ⟨h1,h2⟩]
 unfold meetS turnS
 rw [hc,← e,cross_1]
 rw [if_pos ⟨rfl,rfl⟩]
 unfold lowS highS
 rw [ends_less l1,ends_less l2,show ordS t.2 s.2=0 by rw [← e];exact ord_self _,if_neg (c:=(0:Int)<0) (by omega)]
 split
 ·rw [e,ord_less l2];rfl
 ·rw [ord_less l1];rfl
section
variable {l:List Pt}{m:List Ed}{n:Int}
theorem seg_ok (hok:lstB l m n=true){i:Nat}(hi:i<m.length):rightG (segI l m i)=true∧lessI (segI l m i).1 (segI l m i).2=true:=by
 obtain⟨h1,h2,h3⟩:=lst_eg hok hi
 have h4:=lst_lt hok (i:=(atE m i).a.toNat) (j:=(atE m i).b.toNat) (by omega) (by omega)
 have pa:=rgt_of hok (i:=(atE m i).a.toNat) (by omega)
 have pb:=rgt_of hok (i:=(atE m i).b.toNat) (by omega)
 refine⟨?_,h4⟩
 unfold rightG rightS
 have hne:eqP (segI l m i).1 (segI l m i).2=false:=by
  rw [eqP_f]
  intro e
  have h4:lessI (segI l m i).1 (segI l m i).2=true:=h4
  rw [e] at h4
  simp [lessI] at h4
 rw [hne]
 simp only [Bool.and_eq_true,decide_eq_true_eq,Bool.not_false,and_true]
 simp only [segI,ptI]
 omega
theorem pln_ok (hp:plnB l m n=true){i k:Nat}(hi:i<m.length)(hk:k<m.length)(hne:i≠k):MeetV (segI l m i) (segI l m k)≠4∨MeetV (segI l m k) (segI l m i)≠4:=by
 simp only [plnB,Bool.and_eq_true] at hp
 rcases Nat.lt_or_ge k i with h|h
 ·have:=allN_at (f:=fun k=>meB l m i k) (allN_at (f:=fun i=>allN (fun k=>meB l m i k) i) hp.2 hi) h
  simp only [meB,Bool.or_eq_true,decide_eq_true_eq] at this
  exact .inl (by omega)
 ·have:=allN_at (f:=fun i=>meB l m k i) (allN_at (f:=fun i=>allN (fun k=>meB l m i k) i) hp.2 hk) (show i<k by omega)
  simp only [meB,Bool.or_eq_true,decide_eq_true_eq] at this
  exact .inr (by omega)
theorem dir_pt (l:List Pt)(m:List Ed){i:Nat}(hi:i<2*m.length):dirD (atD (dts l m m.length) i)=sub2 (ptI l (atD (dts l m m.length) i).tt) (ptI l (atD (dts l m m.length) i).fr):=by
 rcases dts_one (l:=l) (m:=m) hi with ⟨e,h⟩|⟨e,h⟩
 ·rw [h];rfl
 ·rw [h];rfl
theorem ray_lex {a b:V2}(h:ray a b):(0<a.1∨a.1=0∧0<a.2)→¬ (b.1<0∨b.1=0∧b.2<0):=by
 obtain⟨h1,h2⟩:=h
 unfold cr at h1
 unfold dt at h2
 rintro h3 h4
 rcases h3 with h3|⟨h3,h3'⟩
 ·rcases h4 with h4|⟨h4,h4'⟩
  ·have k1:a.1*b.1<0:=Int.mul_neg_of_pos_of_neg h3 h4
   have k2:a.1*(a.2*b.2)=a.2*a.2*b.1:=by
    have:a.1*b.2=a.2*b.1:=by omega
    rw [Int.mul_left_comm,this,← Int.mul_assoc]
   have k3:a.2*a.2*b.1≤0:=Int.mul_nonpos_of_nonneg_of_nonpos (sq0 a.2) (Int.le_of_lt h4)
   have k4:0<a.2*b.2:=by omega
   have k5:=Int.mul_pos h3 k4
   omega
  ·rw [h4] at h1 h2
   have:a.1*b.2<0:=Int.mul_neg_of_pos_of_neg h3 h4'
   simp only [Int.mul_zero] at h1
   omega
 ·rw [h3] at h1 h2
  rcases h4 with h4|⟨h4,h4'⟩
  ·have:a.2*b.1<0:=Int.mul_neg_of_pos_of_neg h3' h4
   simp only [Int.zero_mul] at h1
   omega
  ·have:a.2*b.2<0:=Int.mul_neg_of_pos_of_neg h3' h4'
   simp only [Int.zero_mul] at h2
   omega
theorem dir_lex (hok:lstB l m n=true){i:Nat}(hi:i<2*m.length):(i % 2=0→0<(dirD (atD (dts l m m.length) i)).1∨(dirD (atD (dts l m m.length) i)).1=0∧0<(dirD (atD (dts l m m.length) i)).2)∧(i % 2=1→(dirD (atD (dts l m m.length) i)).1<0∨(dirD (atD (dts l m m.length) i)).1=0∧(dirD (atD (dts l m m.length) i)).2<0):=by
 have h4:=(seg_ok hok (i:=i / 2) (by omega)).2
 unfold lessI at h4
 simp only [Bool.or_eq_true,Bool.and_eq_true,decide_eq_true_eq] at h4
 simp only [segI] at h4
 rcases dts_one (l:=l) (m:=m) hi with ⟨e,h⟩|⟨e,h⟩
 ·rw [h];simp only [dirD,dA];omega
 ·rw [h];simp only [dirD,dB];omega
theorem ray_sym {a b:V2}(h:ray a b):ray b a:=by
 obtain⟨h1,h2⟩:=h
 refine⟨by rw [cr_anti];omega,?_⟩
 unfold dt at *
 rw [Int.mul_comm b.1,Int.mul_comm b.2]
 exact h2
theorem ray_one (hp:plnB l m n=true){i k:Nat}(hi:i<2*m.length)(hk:k<2*m.length)(hf:(atD (dts l m m.length) i).fr=(atD (dts l m m.length) k).fr)(hr:ray (dirD (atD (dts l m m.length) i)) (dirD (atD (dts l m m.length) k))):i=k:=by
 have hok:=pln_lst hp
 have x1:=dir_lex hok hi
 have x2:=dir_lex hok hk
 have r1:=ray_lex hr
 have r2:=ray_lex (ray_sym hr)
 obtain⟨o1,o2⟩:=seg_ok hok (i:=i / 2) (by omega)
 obtain⟨o3,o4⟩:=seg_ok hok (i:=k / 2) (by omega)
 have par:i % 2=k % 2:=by
  rcases Nat.mod_two_eq_zero_or_one i with e|e <;> rcases Nat.mod_two_eq_zero_or_one k with e'|e'
  ·omega
  ·exact absurd (x2.2 e') (r1 (x1.1 e))
  ·exact absurd (x1.2 e) (r2 (x2.1 e'))
  ·omega
 by_cases he:i / 2=k / 2
 ·omega
 exfalso
 have hm:=pln_ok hp (i:=i / 2) (k:=k / 2) (by omega) (by omega) he
 have d1:=dir_pt l m hi
 have d2:=dir_pt l m hk
 rcases dts_one (l:=l) (m:=m) hi with ⟨e,h⟩|⟨e,h⟩ <;> rcases dts_one (l:=l) (m:=m) hk with ⟨e',h'⟩|⟨e',h'⟩
 ·rw [h,h'] at hf hr
  have hv:(segI l m (i / 2)).1=(segI l m (k / 2)).1:=by show ptI l _=ptI l _;exact congrArg (ptI l) hf
  have hc:crossI (segI l m (i / 2)).1 (segI l m (i / 2)).2 (segI l m (k / 2)).2=0:=by
   rw [cross_cr]
   have:=hr.1
   rw [show sub2 (segI l m (k / 2)).2 (segI l m (i / 2)).1=dirD (dA l m (k / 2)) by rw [hv];rfl]
   exact this
  have hc':crossI (segI l m (k / 2)).1 (segI l m (k / 2)).2 (segI l m (i / 2)).2=0:=by
   rw [cross_cr]
   have:=(ray_sym hr).1
   rw [show sub2 (segI l m (i / 2)).2 (segI l m (k / 2)).1=dirD (dA l m (i / 2)) by rw [← hv];rfl]
   exact this
  rcases hm with hm|hm
  ·exact hm (ov_low o1 o3 o2 o4 hv hc)
  ·exact hm (ov_low o3 o1 o4 o2 hv.symm hc')
 ·omega
 ·omega
 ·rw [h,h'] at hf hr
  have hv:(segI l m (i / 2)).2=(segI l m (k / 2)).2:=by show ptI l _=ptI l _;exact congrArg (ptI l) hf
  have key:∀ (v a b:Pt),cr (sub2 a v) (sub2 b v)=0→crossI a v b=0:=fun v a b hh=>by
   unfold cr sub2 at hh
   unfold crossI
   simp only [Int.mul_sub,Int.sub_mul] at *
   rw [Int.mul_comm v.2 v.1,Int.mul_comm v.2 b.1,Int.mul_comm v.2 a.1] at *
   rw [Int.mul_comm a.2 b.1] at *
   rw [Int.mul_comm a.2 v.1] at *
   rw [Int.mul_comm a.2 a.1] at *
   omega
  have hc:crossI (segI l m (i / 2)).1 (segI l m (i / 2)).2 (segI l m (k / 2)).1=0:=by
   refine key _ _ _ ?_
   have:=hr.1
   rw [show sub2 (segI l m (k / 2)).1 (segI l m (i / 2)).2=dirD (dB l m (k / 2)) by rw [hv];rfl]
   exact this
  have hc':crossI (segI l m (k / 2)).1 (segI l m (k / 2)).2 (segI l m (i / 2)).1=0:=by
   refine key _ _ _ ?_
   have:=(ray_sym hr).1
   rw [show sub2 (segI l m (i / 2)).1 (segI l m (k / 2)).2=dirD (dB l m (i / 2)) by rw [← hv];rfl]
   exact this
  rcases hm with hm|hm
  ·exact hm (ov_high o1 o3 o2 o4 hv hc)
  ·exact hm (ov_high o3 o1 o4 o2 hv.symm hc')
end
end Go.Aw
end
