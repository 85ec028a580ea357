/-
  Parts of the proof, put together. No condition.
-/
import Derived.Test.YtjahkcbdecgbhaaGreatQAz
import Derived.Test.YtjahkcbdecgbhaaGreatQBa
import Derived.Test.YtjahkcbdecgbhaaGreatQBk
import Derived.Test.YtjahkcbdecgbhaaGreatQBl
import Derived.Test.YtjahkcbdecgbhaaGreatQBm
set_option linter.unusedSimpArgs false
set_option linter.unusedVariables false
namespace Go.Aw
abbrev V2:=Int × Int
def cr (a b:V2):Int:=a.1*b.2 - a.2*b.1
def dt (a b:V2):Int:=a.1*b.1+a.2*b.2
def wV (a:V2):V2:=(-a.1,-a.2)
def up (a:V2):Prop:=0<a.2∨a.2=0∧0<a.1
def lo (a:V2):Prop:=a.2<0∨a.2=0∧a.1<0
instance (a:V2):Decidable (lo a):=inferInstanceAs (Decidable (_∨_))
theorem eO (a b:V2):cr b a = - cr a b:=by unfold cr;rw [Int.mul_comm b.1,Int.mul_comm b.2];omega
theorem aGx {a:V2}(h:lo a):up (wV a):=by unfold up wV;unfold lo at h;simp only;omega
theorem CG (a b:V2):cr (wV a) b = - cr a b:=by unfold cr wV;simp only [Int.neg_mul];omega
theorem CL (a b:V2):cr a (wV b) = - cr a b:=by unfold cr wV;simp only [Int.mul_neg];omega
theorem JV (a b:V2):dt (wV a) b = - dt a b:=by unfold dt wV;simp only [Int.neg_mul];omega
theorem I0 (a b:V2):dt a (wV b) = - dt a b:=by unfold dt wV;simp only [Int.mul_neg];omega
theorem vK {a b:Int}(hb:0<b)(h:0≤a*b):0≤a:=by
 rcases Int.lt_or_le a 0 with h1|h1
 ·have:=Int.mul_neg_of_neg_of_pos h1 hb;omega
 ·exact h1
theorem aIp (a b c:V2):cr a c*b.2=cr a b*c.2+cr b c*a.2:=by
 unfold cr;simp only [Int.sub_mul];have e1:a.1*c.2*b.2=a.1*b.2*c.2:=(by rw [Int.mul_assoc,Int.mul_comm c.2,← Int.mul_assoc]);have e2:a.2*c.1*b.2=b.2*c.1*a.2:=(by rw [Int.mul_comm (b.2*c.1),Int.mul_assoc,Int.mul_comm c.1]);have e3:a.2*b.1*c.2=b.1*c.2*a.2:=(by rw [Int.mul_assoc,Int.mul_comm]);omega
theorem EA {a b c:V2}(ha:up a)(hb:up b)(hc:up c)(h1:0≤cr a b)(h2:0≤cr b c):0≤cr a c:=by
 have hid:=aIp a b c;have a2:0≤a.2:=(by unfold up at ha;omega);have c2:0≤c.2:=(by unfold up at hc;omega);rcases hb with hb|⟨hb,hb1⟩
 ·refine vK hb ?_;rw [hid];have:=Int.mul_nonneg h1 c2;have:=Int.mul_nonneg h2 a2;omega
 ·have e1:cr a b = -(a.2*b.1):=(by unfold cr;rw [hb];omega);rw [e1] at h1;have:a.2=0:=by
   rcases Int.lt_or_le 0 a.2 with h|h
   ·have:=Int.mul_pos h hb1;omega
   ·omega
  have a1:0<a.1:=(by unfold up at ha;omega);unfold cr;rw [this];have:=Int.mul_nonneg (Int.le_of_lt a1) c2;omega
theorem kO {a b c:V2}(ha:up a)(hb:up b)(hc:up c)(h1:0≤cr a b)(h2:0≤cr b c)(h3:cr a c≤0):cr a b=0∧cr b c=0:=by
 have h4:0≤cr c a:=(by rw [eO];omega);have k1:=EA hb hc ha h2 h4;have k2:=EA hc ha hb h4 h1;rw [eO] at k1;rw [eO] at k2;omega
theorem KP {a b:V2}(ha:up a)(hb:up b)(h:cr a b=0):0<dt a b:=by
 unfold cr at h;unfold dt;rcases ha with ha|⟨ha,ha1⟩ <;> rcases hb with hb|⟨hb,hb1⟩
 ·-- a.1 b.2=a.2 b.1:same signs of a.1 and b.1
  have h2:=Int.mul_pos ha hb;have:0≤a.1*b.1:=by
   rcases Int.lt_or_le b.1 0 with h1|h1
   ·have:=Int.mul_neg_of_pos_of_neg ha h1;have h3:a.1<0:=by
     rcases Int.lt_or_le a.1 0 with h4|h4
     ·exact h4
     ·have:=Int.mul_nonneg h4 (Int.le_of_lt hb);omega
    exact Int.mul_nonneg_of_nonpos_of_nonpos (Int.le_of_lt h3) (Int.le_of_lt h1)
   ·have:=Int.mul_nonneg (Int.le_of_lt ha) h1;have h3:0≤a.1:=by
     refine vK hb ?_;omega
    exact Int.mul_nonneg h3 h1
  omega
 ·rw [hb] at h;have:=Int.mul_pos ha hb1;omega
 ·rw [ha] at h;have:=Int.mul_pos ha1 hb;omega
 ·have:=Int.mul_pos ha1 hb1;rw [ha];omega
def wQ (a b:V2):Prop:=(¬ lo a∧lo b)∨((lo a↔lo b)∧0<cr a b)
def rk (u w:V2):Int:=if cr u w<0 then 0 else if 0<cr u w then 2 else if dt u w<0 then 1 else 3
def GQ (u w x:V2):Prop:=rk u w<rk u x∨rk u w=rk u x∧cr w x<0
def nz (a:V2):Prop:=¬ (a.1=0∧a.2=0)
theorem aHo {a:V2}(h:nz a)(hl:¬ lo a):up a:=by unfold nz at h;unfold lo at hl;unfold up;omega
def uv (a:V2):V2:=if lo a then wV a else a
theorem u9 {a:V2}(h:nz a):up (uv a):=by
 unfold uv;split
 ·rename_i hl;exact aGx hl
 ·rename_i hl;exact aHo h hl
theorem three {u y x:V2}(hu:nz u)(hy:nz y)(hx:nz x) :
  (wQ u x∧wQ x y∧wQ u y)∨(wQ y u∧wQ u x∧wQ y x)∨(wQ x y∧wQ y u∧wQ x u)→GQ u y x:=by
 have hU:=u9 hu;have hY:=u9 hy;have hX:=u9 hx;have f1:=fun h1 h2 h3=>kO hU hY hX h1 h2 h3;have f2:=fun h1 h2 h3=>kO hU hX hY h1 h2 h3;have f3:=fun h1 h2 h3=>kO hY hU hX h1 h2 h3;have f4:=fun h1 h2 h3=>kO hY hX hU h1 h2 h3;have f5:=fun h1 h2 h3=>kO hX hU hY h1 h2 h3;have f6:=fun h1 h2 h3=>kO hX hY hU h1 h2 h3;have d1:=fun h=>KP hU hY h;have d2:=fun h=>KP hU hX h;have n1:=eO (uv u) (uv y);have n2:=eO (uv u) (uv x);have n3:=eO (uv y) (uv x);have n4:=eO u y;have n5:=eO u x;have n6:=eO y x;unfold wQ GQ rk
 by_cases lu:lo u <;> by_cases ly:lo y <;> by_cases lx:lo x <;>
  simp only [uv,lu,ly,lx,if_true,if_false,CG,CL,JV,I0,not_true,not_false_iff,true_and,false_and,and_false,and_true,iff_true,true_iff,iff_false,false_or,or_false,not_false_eq_true,Int.neg_neg] at f1 f2 f3 f4 f5 f6 d1 d2 n1 n2 n3 ⊢ <;>
  (generalize cr u y=c1 at *;generalize cr u x=c2 at *;generalize cr y x=c3 at *;generalize dt u y=e1 at *;generalize dt u x=e2 at *;intro h;repeat' split) <;> omega
theorem aCt (a:V2):cr a a=0:=by unfold cr;rw [Int.mul_comm];omega
theorem VF {a b:V2}(h:wQ a b):¬ wQ b a:=by
 unfold wQ at *;have:=eO a b;rintro (⟨h1,h2⟩|⟨h2,h3⟩) <;> rcases h with ⟨h4,h5⟩|⟨h5,h6⟩
 ·exact h1 h5
 ·exact h1 (h5.1 h2)
 ·exact h4 (h2.1 h5)
 ·omega
theorem O1 {a b c:V2}(ha:nz a)(hb:nz b)(hc:nz c)(h1:¬ wQ b a)(h2:¬ wQ c b):¬ wQ c a:=by
 have hA:=u9 ha;have hB:=u9 hb;have hC:=u9 hc;have f1:=fun h1 h2=>EA hA hB hC h1 h2;have g1:=fun h1 h2 h3=>kO hA hB hC h1 h2 h3;have n1:=eO a b;have n2:=eO a c;have n3:=eO b c;unfold wQ at *
 by_cases la:lo a <;> by_cases lb:lo b <;> by_cases lc:lo c <;>
  simp only [uv,la,lb,lc,if_true,if_false,CG,CL,not_true,not_false_iff,true_and,false_and,and_false,and_true,iff_true,true_iff,iff_false,false_or,or_false,true_or,or_true,Int.neg_neg] at f1 g1 h1 h2 ⊢ <;> omega
def ray (a b:V2):Prop:=cr a b=0∧0<dt a b
theorem U6 {a b:V2}(ha:nz a)(hb:nz b)(h:¬ ray a b):wQ a b∨wQ b a:=by
 have hA:=u9 ha;have hB:=u9 hb;have d:=fun h=>KP hA hB h;have n:=eO a b;unfold ray at h;unfold wQ
 by_cases la:lo a <;> by_cases lb:lo b <;>
  simp only [uv,la,lb,if_true,if_false,CG,CL,JV,I0,not_true,not_false_iff,true_and,false_and,and_false,and_true,iff_true,true_iff,iff_false,false_or,or_false,true_or,or_true,Int.neg_neg] at d h ⊢ <;> omega
theorem sq0 (a:Int):0≤a*a:=by
 rcases Int.le_total 0 a with h|h
 ·exact Int.mul_nonneg h h
 ·exact Int.mul_nonneg_of_nonpos_of_nonpos h h
theorem HM {u y:V2}(hu:nz u)(hy:nz y)(h:wQ u y∨wQ y u):GQ u y u:=by
 have hU:=u9 hu;have hY:=u9 hy;have d:=fun h=>KP hU hY h;have d2:0<dt u u:=by
  unfold dt;unfold nz at hu;have h1:=sq0 u.1;have h2:=sq0 u.2;by_cases h3:u.1=0
  ·have h4:u.2≠0:=fun h=>hu ⟨h3,h⟩;have:u.2*u.2≠0:=Int.mul_ne_zero h4 h4;omega
  ·have:u.1*u.1≠0:=Int.mul_ne_zero h3 h3;omega
 have n:=eO u y;have c0:=aCt u;unfold GQ rk;unfold wQ at h;rw [c0]
 by_cases lu:lo u <;> by_cases ly:lo y <;>
  simp only [uv,lu,ly,if_true,if_false,CG,CL,JV,I0,not_true,not_false_iff,true_and,false_and,and_false,and_true,iff_true,true_iff,iff_false,false_or,or_false,true_or,or_true,Int.neg_neg] at d h ⊢ <;> (repeat' split) <;> omega
theorem QP {u y x:V2}(h:GQ u y x):¬ GQ u x y:=by
 unfold GQ at *;have:=eO x y;omega
end Go.Aw

noncomputable section
namespace Go.Aw
set_option maxRecDepth 100000
theorem tS (D:List Dt)(x y:Int):jJ D x y=true↔wQ (eG (bR D x.toNat)) (eG (bR D y.toNat)):=by
 unfold jJ aB6;generalize eG (bR D x.toNat)=u;generalize eG (bR D y.toNat)=v;rw [decide_eq_true_iff];have hu:BY u=true↔lo u:=(by unfold BY lo;simp);have hv:BY v=true↔lo v:=(by unfold BY lo;simp);have hc:crP u v=cr u v:=rfl;unfold QN wQ iS;rw [hc];cases h1:BY u <;> cases h2:BY v <;> rw [h1] at hu <;> rw [h2] at hv <;> simp only [Bool.false_eq_true,false_iff,true_iff,if_true,if_false] at hu hv ⊢ <;> simp only [hu,hv,not_true,not_false_iff,true_and,false_and,false_or,or_false,and_false,iff_true,true_iff,iff_false,not_false_eq_true]
 ·split <;> (try split) <;> omega
 ·simp
 ·simp
 ·split <;> (try split) <;> omega
theorem Q5 {a b c:Pt}(h1:fK a b=true)(h2:fK b c=true):fK a c=true:=by
 simp only [fK,Bool.or_eq_true,Bool.and_eq_true,decide_eq_true_eq] at *;omega
section
variable {l:List Pt}{m:List Ed}{n:Int}
theorem Q0 (hok:cV l m n=true):∀ {j i:Nat},i<j→j<l.length→fK (iM l i) (iM l j)=true
 |0,i,h,_=>by omega
 |j+1,i,h,hj=>by
  simp only [cV,Bool.and_eq_true] at hok;have h1:=fI hok.2.1 hj;simp only [BU,Bool.and_eq_true,Bool.or_eq_true,decide_eq_true_eq] at h1;have h2:fK (iM l j) (iM l (j+1))=true:=by
   rcases h1.2 with h|h
   ·omega
   ·exact h
  by_cases e:i=j
  ·rw [e];exact h2
  ·exact Q5 (Q0 (by simp only [cV,Bool.and_eq_true];exact hok) (show i<j by omega) (by omega)) h2
theorem KH (hok:cV l m n=true){i:Nat}(hi:i<m.length):0≤(cW m i).a∧(cW m i).a<(cW m i).b∧(cW m i).b<l.length:=by
 simp only [cV,Bool.and_eq_true] at hok;have h1:=fI hok.2.2.1 hi;simp only [GC,Bool.and_eq_true,decide_eq_true_eq] at h1;exact⟨h1.1.1.1.1.1,h1.1.1.1.1.2,h1.1.1.1.2⟩
theorem AG (hok:cV l m n=true){i:Nat}(hi:i<2*m.length):nz (eG (bR (aW l m m.length) i)):=by
 obtain⟨h1,h2,h3⟩:=KH hok (i:=i / 2) (by omega);have h4:=Q0 hok (i:=(cW m (i / 2)).a.toNat) (j:=(cW m (i / 2)).b.toNat) (by omega) (by omega);simp only [fK,Bool.or_eq_true,Bool.and_eq_true,decide_eq_true_eq] at h4;unfold nz;rcases mG (l:=l) (m:=m) hi with ⟨e,h⟩|⟨e,h⟩
 ·rw [h];simp only [eG,dA,dN];omega
 ·rw [h];simp only [eG,dB,dN];omega
theorem aCk (hok:cV l m n=true):Ord (aW l m m.length) (fun x=>0≤x∧x<(2*m.length:Nat)) where
 trans:=fun x y z hx hy hz h1 h2=>by
  have nx:=AG hok (i:=x.toNat) (by omega);have ny:=AG hok (i:=y.toNat) (by omega);have nz':=AG hok (i:=z.toNat) (by omega);unfold AS at *;have b1:¬ wQ (eG (bR (aW l m m.length) y.toNat)) (eG (bR (aW l m m.length) x.toNat)):=fun h=>(by rw [(tS _ _ _).2 h] at h1;cases h1);have b2:¬ wQ (eG (bR (aW l m m.length) z.toNat)) (eG (bR (aW l m m.length) y.toNat)):=fun h=>(by rw [(tS _ _ _).2 h] at h2;cases h2);cases h:jJ (aW l m m.length) z x with
  |false=>rfl
  |true=>exact absurd ((tS _ _ _).1 h) (O1 nx ny nz' b1 b2)
 asym:=fun x y hx hy h=>by
  unfold AS;cases h2:jJ (aW l m m.length) y x with
  |false=>rfl
  |true=>exact absurd ((tS _ _ _).1 h2) (VF ((tS _ _ _).1 h))
theorem WD (D:List Dt)(s j:Nat):(PB D s j).Nodup:=by
 unfold PB;unfold List.Nodup;rw [List.pairwise_map];have h:List.Pairwise (fun a b:Nat=>a≠b) ((List.range j).filter fun i=>decide ((bR D i).fr.toNat=s)):=List.Pairwise.filter _ List.nodup_range;exact h.imp fun {a b} h e=>h (Int.ofNat.inj e)
theorem K7 (D:List Dt)(s j:Nat):(PB D s j).length≤j:=by
 unfold PB;rw [List.length_map];exact Nat.le_trans (List.length_filter_le _ _) (by rw [List.length_range];exact Nat.le_refl _)
theorem aDw (hok:cV l m n=true){s:Nat}(hs:s<l.length):bK (outs l m) s=rK (aW l m m.length) 1000 (PB (aW l m m.length) s (2*m.length)):=by
 have hM:=(gY hok).1;have hfr:∀ i,i<2*m.length→(bR (aW l m m.length) i).fr.toNat<l.length∧(bR (aW l m m.length) i).no=i:=fun i hi=>by
  have:=lM (l:=l) hM hi;omega
 unfold outs;rw [PT _ _ (by rw [mU];exact Nat.le_refl _),if_pos hs,C6 _ hfr]
theorem yY (hok:cV l m n=true){s:Nat}(hs:s<l.length):So (aW l m m.length) (bK (outs l m) s) 0 (bK (outs l m) s).length∧(bK (outs l m) s).Perm (PB (aW l m m.length) s (2*m.length)):=by
 obtain⟨hM,h3,h1,h4,h5,_,_⟩:=gY hok;rw [aDw hok hs];have hl:=K7 (aW l m m.length) s (2*m.length);have:=aBU (aCk hok) (f:=1000) (L:=PB (aW l m m.length) s (2*m.length)) (by omega) (fun i _ hi=>by
  have hm:aN (PB (aW l m m.length) s (2*m.length)) i∈PB (aW l m m.length) s (2*m.length):=by
   rw [gK hi];exact List.getElem_mem hi
  obtain⟨k,hk,e,_⟩:=KZ hm;rw [e];omega)
 rw [ME];exact this
theorem jK (hok:cV l m n=true){s:Nat}(hs:s<l.length){x:Int}:x∈bK (outs l m) s↔∃ i:Nat,i<2*m.length∧x=i∧(bR (aW l m m.length) i).fr.toNat=s:=by
 rw [(yY hok hs).2.mem_iff];exact⟨KZ,fun ⟨i,h1,h2,h3⟩=>by rw [h2];exact O2 h1 h3⟩
theorem DU (hok:cV l m n=true){s:Nat}(hs:s<l.length):(bK (outs l m) s).Nodup:=(yY hok hs).2.symm.nodup (WD _ _ _)
theorem C1 {d:Int}{E:Nat}(h0:0≤d)(h1:d<(2*E:Nat)):0≤eU d∧eU d<(2*E:Nat):=by unfold eU;split <;> omega
theorem HI {d:Int}(h0:0≤d):eU (eU d)=d:=by unfold eU;split <;> split <;> omega
theorem JK (l:List Pt)(m:List Ed){d:Int}(h0:0≤d)(h1:d<(2*m.length:Nat)):(bR (aW l m m.length) (eU d).toNat).fr=(bR (aW l m m.length) d.toNat).tt∧(bR (aW l m m.length) (eU d).toNat).tt=(bR (aW l m m.length) d.toNat).fr∧eG (bR (aW l m m.length) (eU d).toNat)=wV (eG (bR (aW l m m.length) d.toNat)):=by
 obtain⟨hd1,hd2⟩:=FA l m (N:=m.length) (i:=d.toNat / 2) (by omega);unfold eU;by_cases e:d % 2=0
 ·rw [if_pos e,show (d+1).toNat=2*(d.toNat / 2)+1 by omega,show bR (aW l m m.length) d.toNat=dA l m (d.toNat / 2) by rw [← hd1];congr 1;omega,hd2];refine⟨rfl,rfl,?_⟩;simp only [eG,dA,dB,wV,Prod.mk.injEq];omega
 ·rw [if_neg e,show (d - 1).toNat=2*(d.toNat / 2) by omega,show bR (aW l m m.length) d.toNat=dB l m (d.toNat / 2) by rw [← hd2];congr 1;omega,hd1];refine⟨rfl,rfl,?_⟩;simp only [eG,dA,dB,wV,Prod.mk.injEq];omega
theorem IQ {x:Int}:∀ {L:List Int} {i:Nat},x∈L→∃ k,k<L.length∧oX x L i=((i+k:Nat):Int)∧aN L k=x
 |[],i,h=>by cases h
 |b::r,i,h=>by
  unfold oX;by_cases e:x=b
  ·rw [if_pos e];exact⟨0,Nat.succ_pos _,rfl,e.symm⟩
  ·rw [if_neg e];rcases List.mem_cons.1 h with h|h
   ·exact absurd h e
   ·obtain⟨k,h1,h2,h3⟩:=IQ (L:=r) (i:=i+1) h;refine⟨k+1,by simpa using h1,by rw [h2];congr 1;omega,?_⟩;rw [← h3];rfl
theorem rX (hok:cV l m n=true){d:Int}(h0:0≤d)(h1:d<(2*m.length:Nat)):∃ (s a:Nat),s=(bR (aW l m m.length) d.toNat).tt.toNat∧s<l.length∧QV (aW l m m.length) (outs l m) d=bK (outs l m) s∧a<(bK (outs l m) s).length ∧
  oX (eU d) (bK (outs l m) s) 0=a∧aN (bK (outs l m) s) a=eU d∧yL (aW l m m.length) (outs l m) d=aN (bK (outs l m) s) (if a=0 then (bK (outs l m) s).length - 1 else a - 1):=by
 obtain⟨hM,h3,h5,h4,h6,_,_⟩:=gY hok;have hf:=lM (l:=l) hM (i:=d.toNat) (by omega);have hb:=C1 (E:=m.length) h0 h1;have hbd:=JK l m h0 h1;refine⟨(bR (aW l m m.length) d.toNat).tt.toNat,?_⟩;have hs:(bR (aW l m m.length) d.toNat).tt.toNat<l.length:=(by omega);have hmem:eU d∈bK (outs l m) (bR (aW l m m.length) d.toNat).tt.toNat:=(jK hok hs).2 ⟨(eU d).toNat,by omega,by omega,by rw [hbd.1]⟩;obtain⟨k,k1,k2,k3⟩:=IQ (i:=0) hmem;rw [Nat.zero_add] at k2;refine⟨k,rfl,hs,rfl,k1,k2,k3,?_⟩;unfold yL QV;rw [k2];congr 1;split
 ·rename_i e;rw [e];have:((0:Nat):Int) - 1+((bK (outs l m) (bR (aW l m m.length) d.toNat).tt.toNat).length:Int)=(((bK (outs l m) (bR (aW l m m.length) d.toNat).tt.toNat).length - 1:Nat):Int):=(by omega);rw [this,Int.emod_eq_of_lt (by omega) (by omega)];rfl
 ·have:(k:Int) - 1+((bK (outs l m) (bR (aW l m m.length) d.toNat).tt.toNat).length:Int)=((k - 1:Nat):Int)+(bK (outs l m) (bR (aW l m m.length) d.toNat).tt.toNat).length:=(by omega);rw [this,Int.add_emod_right,Int.emod_eq_of_lt (by omega) (by omega)];rfl
theorem at_mem {L:List Int}{i:Nat}(h:i<L.length):aN L i∈L:=by rw [gK h];exact List.getElem_mem h
theorem ML (hok:cV l m n=true){d:Int}(h0:0≤d)(h1:d<(2*m.length:Nat)):0≤yL (aW l m m.length) (outs l m) d∧yL (aW l m m.length) (outs l m) d<(2*m.length:Nat)∧(bR (aW l m m.length) (yL (aW l m m.length) (outs l m) d).toNat).fr.toNat=(bR (aW l m m.length) d.toNat).tt.toNat:=by
 obtain⟨s,a,e1,hs,e2,ha,e3,e4,e5⟩:=rX hok h0 h1;rw [e5];have hi:(if a=0 then (bK (outs l m) s).length - 1 else a - 1)<(bK (outs l m) s).length:=(by split <;> omega);obtain⟨i,i1,i2,i3⟩:=(jK hok hs).1 (at_mem hi);rw [i2];exact⟨by omega,by omega,by rw [← e1];exact i3⟩
theorem N5 {L:List Int}(h:L.Nodup){i j:Nat}(hi:i<L.length)(hj:j<L.length)(e:aN L i=aN L j):i=j:=by
 rw [gK hi,gK hj] at e;exact (List.getElem_inj h).1 e
theorem aF5 (hok:cV l m n=true){d d':Int}(h0:0≤d)(h1:d<(2*m.length:Nat))(h0':0≤d')(h1':d'<(2*m.length:Nat))(e:yL (aW l m m.length) (outs l m) d=yL (aW l m m.length) (outs l m) d'):d=d':=by
 have hn:=(ML hok h0 h1).2.2;have hn':=(ML hok h0' h1').2.2;obtain⟨s,a,e1,hs,e2,ha,e3,e4,e5⟩:=rX hok h0 h1;obtain⟨s',a',e1',hs',e2',ha',e3',e4',e5'⟩:=rX hok h0' h1';have hss:s=s':=(by rw [e1,e1',← hn,← hn',e]);subst hss;rw [e5,e5'] at e;have:=N5 (DU hok hs) (by split <;> omega) (by split <;> omega) e;have haa:a=a':=by
  split at this <;> split at this <;> omega
 have hb:eU d=eU d':=(by rw [← e4,← e4',haa]);rw [← HI h0,hb,HI h0']
theorem aAs:∀ (n:Nat) (f:Nat→Nat),(∀ i,i≤n→f i<n)→∃ i j,i<j∧j≤n∧f i=f j
 |0,f,h=>by have:=h 0 (Nat.le_refl 0);omega
 |n+1,f,h=>by
  by_cases hc:∃ i,i≤n∧f i=f (n+1)
  ·obtain⟨i,h1,h2⟩:=hc;exact⟨i,n+1,by omega,Nat.le_refl _,h2⟩
  ·have hne:∀ i,i≤n→f i≠f (n+1):=fun i hi e=>hc ⟨i,hi,e⟩;obtain⟨i,j,h1,h2,h3⟩:=aAs n (fun i=>if f (n+1)<f i then f i - 1 else f i) (fun i hi=>by
    have a1:=h i (by omega);have a2:=h (n+1) (Nat.le_refl _);have a3:=hne i hi;show (if f (n+1)<f i then f i - 1 else f i)<n;split <;> omega)
   refine⟨i,j,h1,by omega,?_⟩;have a1:=hne i (by omega);have a2:=hne j h2;have h3:(if f (n+1)<f i then f i - 1 else f i)=(if f (n+1)<f j then f j - 1 else f j):=h3;split at h3 <;> split at h3 <;> omega
theorem BG (hok:cV l m n=true){d:Int}(h0:0≤d)(h1:d<(2*m.length:Nat)):∀ i,0≤oA (aW l m m.length) (outs l m) d i∧oA (aW l m m.length) (outs l m) d i<(2*m.length:Nat)
 |0=>⟨h0,h1⟩
 |i+1=>by
  have ih:=BG hok h0 h1 i;have:=ML hok ih.1 ih.2;exact⟨this.1,this.2.1⟩
theorem UE (hok:cV l m n=true){d:Int}(h0:0≤d)(h1:d<(2*m.length:Nat)):∀ (i k:Nat),oA (aW l m m.length) (outs l m) d i=oA (aW l m m.length) (outs l m) d (i+k)→d=oA (aW l m m.length) (outs l m) d k
 |0,k,h=>by rw [Nat.zero_add] at h;exact h
 |i+1,k,h=>by
  refine UE hok h0 h1 i k ?_;have a:=BG hok h0 h1 i;have b:=BG hok h0 h1 (i+k);refine aF5 hok a.1 a.2 b.1 b.2 ?_;rw [show i+1+k=i+k+1 by omega] at h;exact h
theorem M9 (D:List Dt)(ls:List (List Int))(d:Int):∀ (k i N:Nat),i≤N→N<i+k→oA D ls d N=d→oA D ls d (FR D ls d k i)=d
 |0,i,N,h1,h2,_=>by omega
 |k+1,i,N,h1,h2,h3=>by
  unfold FR;split
  ·assumption
  ·rename_i h;refine M9 D ls d k (i+1) N ?_ (by omega) h3;rcases Nat.lt_or_ge i N with h4|h4
   ·exact h4
   ·exact absurd (by rw [show i=N by omega];exact h3) h
theorem J3 (hok:cV l m n=true):aAn (aW l m m.length) (outs l m)=true:=by
 refine List.all_eq_true.2 fun d hd=>decide_eq_true ?_;have hd:=List.mem_range.1 hd;rw [bI] at hd;obtain⟨i,j,h1,h2,h3⟩:=aAs (2*m.length) (fun i=>(oA (aW l m m.length) (outs l m) d i).toNat) (fun i _=>by
  have:=BG hok (d:=d) (by omega) (by omega) i;show (oA (aW l m m.length) (outs l m) d i).toNat<2*m.length;omega)
 have a:=BG hok (d:=(d:Int)) (by omega) (by omega) i;have b:=BG hok (d:=(d:Int)) (by omega) (by omega) j;have e:=UE hok (d:=(d:Int)) (by omega) (by omega) i (j - i) (by rw [show i+(j - i)=j by omega];have h3:(oA (aW l m m.length) (outs l m) d i).toNat=(oA (aW l m m.length) (outs l m) d j).toNat:=h3;omega);unfold mZ;rw [bI];exact M9 _ _ _ _ 1 (j - i) (by omega) (by omega) e.symm
theorem aIs (hok:cV l m n=true):ED l (aW l m m.length) (outs l m)=true:=by
 obtain⟨hM,h3,h5,h4,h6,_,_⟩:=gY hok;simp only [ED,Bool.and_eq_true,decide_eq_true_eq];refine⟨⟨⟨⟨List.all_eq_true.2 fun p hp=>?_,List.all_eq_true.2 fun e he=>?_⟩,by rw [bI];omega⟩,eP l m⟩,by omega⟩
 ·obtain⟨i,hi,rfl⟩:=List.getElem_of_mem hp;have:=qI hok hi;rw [nO hi] at this;unfold wide;simp only [Bool.and_eq_true,decide_eq_true_eq];omega
 ·obtain⟨i,hi,rfl⟩:=List.getElem_of_mem he;rw [← oL hi];rw [bI] at hi;have:=lM (l:=l) hM hi;simp only [Bool.and_eq_true,decide_eq_true_eq];omega
theorem EZ (hok:cV l m n=true):rL l (aW l m m.length) (outs l m)=true:=by
 obtain⟨hM,h3,h5,h4,h6,_,_⟩:=gY hok;unfold rL;rw [aIs hok,Bool.true_and];refine List.all_eq_true.2 fun i hi=>?_;have hi:=List.mem_range.1 hi;rw [bI] at hi;have hn:=ML hok (d:=(i:Int)) (by omega) (by omega);obtain⟨s,a,e1,hs,e2,ha,e3,e4,e5⟩:=rX hok (d:=(i:Int)) (by omega) (by omega);have hf:=lM (l:=l) hM (i:=i) hi;have hlen:(bK (outs l m) s).length≤1000:=by
  have h7:=(yY hok hs).2.length_eq;have h8:=K7 (aW l m m.length) s (2*m.length);omega
 simp only [Bool.and_eq_true,decide_eq_true_eq];refine⟨?_,hn.1,by rw [bI];omega⟩;unfold nxB;rw [e2,e3,bI,eP];simp only [Bool.and_eq_true,decide_eq_true_eq,Int.toNat_natCast];omega
theorem aGM (hok:cV l m n=true):WC (aW l m m.length) (outs l m)=true:=by
 obtain⟨hM,h3,h5,h4,h6,_,_⟩:=gY hok;refine List.all_eq_true.2 fun L hL=>?_;obtain⟨s,hs,rfl⟩:=List.getElem_of_mem hL;have hs':=hs;rw [eP] at hs';have e:(outs l m)[s]=bK (outs l m) s:=by
  unfold bK;rw [List.getD_eq_getElem?_getD,List.getElem?_eq_getElem hs];rfl
 rw [e];have h7:=(yY hok hs').2.length_eq;have h8:=K7 (aW l m m.length) s (2*m.length);have h9:=RO hok hs';simp only [Bool.and_eq_true,decide_eq_true_eq];refine⟨⟨by omega,by omega⟩,List.all_eq_true.2 fun x hx=>?_⟩;obtain⟨i,i1,i2,_⟩:=(jK hok hs').1 hx;simp only [Bool.and_eq_true,decide_eq_true_eq,bI];omega
end
end Go.Aw
end

noncomputable section
namespace Go.Aw
set_option maxRecDepth 100000
set_option maxHeartbeats 2000000
theorem zZ (n:Nat):∀ {h:Heap},iI h=true→iI (l8 n h)=true
 |[],_=>rfl
 |(k,o)::r,h=>by
  simp only [iI,Bool.and_eq_true] at h;simp only [l8,iI,Bool.and_eq_true];refine⟨?_,zZ n h.2⟩;cases o with
  |cells wr g sz cs=>rfl
  |_=>exact h.1
def aHl:Nat × XF:=(69,fun args h nx K=>∃ l m n p q,args=[mapA p q n]∧gP aR h p l∧gP aU h q m∧(l.length≤1000∧m.length≤1000) ∧
 ((cX l m n=true∧K (.tuple #[.pointer (some ⟨nx+7,0,none⟩),iv 0]) (app (l8 nx (WU l m (oN p) (oN q) n)) (dW h)) (nx+2004))∨(cX l m n=false∧K (.tuple #[.pointer none,iv 1]) h nx)))
theorem aKC:cE Go.Proofs.Tryz.prog aHl.1 aHl.2:=by
 refine (gF (S:=fun args0 h0 n0 v1 h1 j=>∃ l m n c1 c2,(l.length≤1000∧m.length≤1000)∧args0=[aE l.length m.length c1 c2 n]∧h0=aB aR aU l m∧n0=2 ∧
  ((cX l m n=true∧v1=.tuple #[.pointer (some ⟨7,0,none⟩),iv 0]∧h1=WU l m c1 c2 n∧j=2004)∨(cX l m n=false∧v1=.tuple #[.pointer none,iv 1]∧h1=[]∧j=0))) (aK (xl:=[S6,aBS,SI,SS,TX,(155,aG6)]) (.cons aHW (.cons aJ9 (.cons aDT (.cons aHm (.cons aHw (.cons aIk .nil))))))) ?_).mono ?_ ?_
 ·rintro args0 h0 n0 v1 h1 j ⟨l,m,n,c1,c2,⟨hl,hm⟩,rfl,rfl,rfl,hc⟩;have hw:=w69 l m n c1 c2 hl hm fun hok=>⟨EZ hok,J3 hok,aGM hok,(gY hok).2.2.1⟩;rcases hc with ⟨ho,rfl,rfl,rfl⟩|⟨ho,rfl,rfl,rfl⟩
  ·refine⟨zZ 3 qT,_,hw,fun v h nx e=>?_⟩;rcases e with ⟨_,e⟩|⟨e,_⟩
   ·exact e
   ·rw [ho] at e;cases e
  ·refine⟨rfl,_,hw,fun v h nx e=>?_⟩;rcases e with ⟨e,_⟩|⟨_,rfl⟩
   ·rw [ho] at e;cases e
   ·exact kP rfl
 ·rintro args h nx K ⟨l,m,n,p,q,rfl,hl,hm,hlm,hx⟩;rcases hx with ⟨ho,hx⟩|⟨ho,hx⟩
  ·refine⟨_,_,2,_,_,_,⟨l,m,n,oN p,oN q,hlm,rfl,rfl,rfl,.inl ⟨ho,rfl,rfl,rfl⟩⟩,IV aR aU rfl hl hm,?_⟩;have e:jH (fun k=>nx+k) (.tuple #[.pointer (some ⟨7,0,none⟩),iv 0])=.tuple #[.pointer (some ⟨nx+7,0,none⟩),iv 0]:=(by simp [jH,tr,dO,bS,dS,lH];rfl);rw [e];exact hx
  ·refine⟨_,_,2,_,[],0,⟨l,m,n,oN p,oN q,hlm,rfl,rfl,rfl,.inr ⟨ho,rfl,rfl,rfl⟩⟩,IV aR aU rfl hl hm,?_⟩;simp only [nT,rI,l8,kC,Nat.add_zero];rw [pQ rfl];exact hx
 ·rintro args h nx K ⟨l,m,n,p,q,rfl,hl,hm,hlm,hx⟩;rcases hx with ⟨ho,hx⟩|⟨ho,hx⟩
  ·exact⟨_,_,_,hx,fun K' hk=>⟨l,m,n,p,q,rfl,hl,hm,hlm,.inl ⟨ho,hk⟩⟩⟩
  ·exact⟨_,_,_,hx,fun K' hk=>⟨l,m,n,p,q,rfl,hl,hm,hlm,.inr ⟨ho,hk⟩⟩⟩
def ckP (l:List Pt)(m:List Ed)(n:Int):List Value→Option (Bool × Value)
 |[]=>some (decide (l.length≤1000)&&decide (m.length≤1000),iv (if cX l m n=true then 0 else 1))
 |_=>none
def aJY:Nat × XF:=(17,mX aR aU ckP)
end Go.Aw
end

noncomputable section
namespace Go.Aw
set_option maxRecDepth 100000
def r5 (p q:Pt):V2:=(p.1 - q.1,p.2 - q.2)
theorem D7 (v a b:Pt):bB v a b=cr (r5 a v) (r5 b v):=rfl
theorem sU {a b:Pt}(h:fK a b=true):j7 a b = -1:=by
 rw [xK] at h;have h:=of_decide_eq_true h;rcases wW a b with e|e|e <;> omega
theorem NL (a:Pt):j7 a a=0:=by
 unfold j7 XA iS;simp
theorem uH {s:Sg}(h:fK s.1 s.2=true):bT s=s:=by
 have:=sU h;unfold bT;rw [this];simp
theorem aD2 (a b:Pt):bB a b a=0:=by unfold bB;simp
theorem aBF (a b:Pt):bB a b b=0:=by unfold bB;rw [Int.mul_comm];omega
theorem YE {s t:Sg}(h1:dQ s=true)(h2:dQ t=true)(l1:fK s.1 s.2=true)(l2:fK t.1 t.2=true)(e:s.1=t.1)(hc:bB s.1 s.2 t.2=0):fD s t=4:=by
 unfold fD;rw [if_pos ⟨h1,h2⟩];unfold rD aZ;rw [hc,← e,aD2];rw [if_pos ⟨rfl,rfl⟩];unfold MG A6;rw [uH l1,uH l2,← e,NL,if_neg (by omega)];split
 ·rw [e,sU l2];rfl
 ·rw [sU l1];rfl
theorem SN {s t:Sg}(h1:dQ s=true)(h2:dQ t=true)(l1:fK s.1 s.2=true)(l2:fK t.1 t.2=true)(e:s.2=t.2)(hc:bB s.1 s.2 t.1=0):fD s t=4:=by
 unfold fD;rw [if_pos ⟨h1,h2⟩];unfold rD aZ;rw [hc,← e,aBF];rw [if_pos ⟨rfl,rfl⟩];unfold MG A6;rw [uH l1,uH l2,show j7 t.2 s.2=0 by rw [← e];exact NL _,if_neg (c:=(0:Int)<0) (by omega)];split
 ·rw [e,sU l2];rfl
 ·rw [sU l1];rfl
section
variable {l:List Pt}{m:List Ed}{n:Int}
theorem QG (hok:cV l m n=true){i:Nat}(hi:i<m.length):dQ (cL l m i)=true∧fK (cL l m i).1 (cL l m i).2=true:=by
 obtain⟨h1,h2,h3⟩:=KH hok hi;have h4:=Q0 hok (i:=(cW m i).a.toNat) (j:=(cW m i).b.toNat) (by omega) (by omega);have pa:=qI hok (i:=(cW m i).a.toNat) (by omega);have pb:=qI hok (i:=(cW m i).b.toNat) (by omega);refine⟨?_,h4⟩;unfold dQ bQ;have hne:jE (cL l m i).1 (cL l m i).2=false:=by
  rw [jC];intro e;have h4:fK (cL l m i).1 (cL l m i).2=true:=h4;rw [e] at h4;simp [fK] at h4
 rw [hne];simp only [Bool.and_eq_true,decide_eq_true_eq,Bool.not_false,and_true];simp only [cL,dN];omega
theorem aEy (hp:fS l m n=true){i k:Nat}(hi:i<m.length)(hk:k<m.length)(hne:i≠k):fD (cL l m i) (cL l m k)≠4∨fD (cL l m k) (cL l m i)≠4:=by
 simp only [fS,Bool.and_eq_true] at hp;rcases Nat.lt_or_ge k i with h|h
 ·have:=fI (f:=fun k=>C0 l m i k) (fI (f:=fun i=>mQ (fun k=>C0 l m i k) i) hp.2 hi) h;simp only [C0,Bool.or_eq_true,decide_eq_true_eq] at this;exact .inl (by omega)
 ·have:=fI (f:=fun i=>C0 l m k i) (fI (f:=fun i=>mQ (fun k=>C0 l m i k) i) hp.2 hk) (show i<k by omega);simp only [C0,Bool.or_eq_true,decide_eq_true_eq] at this;exact .inr (by omega)
theorem KK (l:List Pt)(m:List Ed){i:Nat}(hi:i<2*m.length):eG (bR (aW l m m.length) i)=r5 (dN l (bR (aW l m m.length) i).tt) (dN l (bR (aW l m m.length) i).fr):=by
 rcases mG (l:=l) (m:=m) hi with ⟨e,h⟩|⟨e,h⟩
 ·rw [h];rfl
 ·rw [h];rfl
theorem SW {a b:V2}(h:ray a b):(0<a.1∨a.1=0∧0<a.2)→¬ (b.1<0∨b.1=0∧b.2<0):=by
 obtain⟨h1,h2⟩:=h;unfold cr at h1;unfold dt at h2;rintro h3 h4;rcases h3 with h3|⟨h3,h3'⟩
 ·rcases h4 with h4|⟨h4,h4'⟩
  ·-- b=(b1/a1) a,so that both products are negative
   have k1:a.1*b.1<0:=Int.mul_neg_of_pos_of_neg h3 h4;have k2:a.1*(a.2*b.2)=a.2*a.2*b.1:=by
    have:a.1*b.2=a.2*b.1:=(by omega);rw [Int.mul_left_comm,this,← Int.mul_assoc]
   have k3:a.2*a.2*b.1≤0:=Int.mul_nonpos_of_nonneg_of_nonpos (sq0 a.2) (Int.le_of_lt h4);have k4:0<a.2*b.2:=(by omega);have k5:=Int.mul_pos h3 k4;omega
  ·rw [h4] at h1 h2;have:a.1*b.2<0:=Int.mul_neg_of_pos_of_neg h3 h4';simp only [Int.mul_zero] at h1;omega
 ·rw [h3] at h1 h2;rcases h4 with h4|⟨h4,h4'⟩
  ·have:a.2*b.1<0:=Int.mul_neg_of_pos_of_neg h3' h4;simp only [Int.zero_mul] at h1;omega
  ·have:a.2*b.2<0:=Int.mul_neg_of_pos_of_neg h3' h4';simp only [Int.zero_mul] at h2;omega
theorem RR (hok:cV l m n=true){i:Nat}(hi:i<2*m.length):(i % 2=0→0<(eG (bR (aW l m m.length) i)).1∨(eG (bR (aW l m m.length) i)).1=0∧0<(eG (bR (aW l m m.length) i)).2)∧(i % 2=1→(eG (bR (aW l m m.length) i)).1<0∨(eG (bR (aW l m m.length) i)).1=0∧(eG (bR (aW l m m.length) i)).2<0):=by
 have h4:=(QG hok (i:=i / 2) (by omega)).2;unfold fK at h4;simp only [Bool.or_eq_true,Bool.and_eq_true,decide_eq_true_eq] at h4;simp only [cL] at h4;rcases mG (l:=l) (m:=m) hi with ⟨e,h⟩|⟨e,h⟩
 ·rw [h];simp only [eG,dA];omega
 ·rw [h];simp only [eG,dB];omega
theorem KB {a b:V2}(h:ray a b):ray b a:=by
 obtain⟨h1,h2⟩:=h;refine⟨by rw [eO];omega,?_⟩;unfold dt at *;rw [Int.mul_comm b.1,Int.mul_comm b.2];exact h2
theorem aCq (hp:fS l m n=true){i k:Nat}(hi:i<2*m.length)(hk:k<2*m.length)(hf:(bR (aW l m m.length) i).fr=(bR (aW l m m.length) k).fr)(hr:ray (eG (bR (aW l m m.length) i)) (eG (bR (aW l m m.length) k))):i=k:=by
 have hok:=mC hp;have x1:=RR hok hi;have x2:=RR hok hk;have r1:=SW hr;have r2:=SW (KB hr);obtain⟨o1,o2⟩:=QG hok (i:=i / 2) (by omega);obtain⟨o3,o4⟩:=QG hok (i:=k / 2) (by omega);have par:i % 2=k % 2:=by
  rcases Nat.mod_two_eq_zero_or_one i with e|e <;> rcases Nat.mod_two_eq_zero_or_one k with e'|e'
  ·omega
  ·exact absurd (x2.2 e') (r1 (x1.1 e))
  ·exact absurd (x1.2 e) (r2 (x2.1 e'))
  ·omega
 by_cases he:i / 2=k / 2
 ·omega
 exfalso;have hm:=aEy hp (i:=i / 2) (k:=k / 2) (by omega) (by omega) he;have d1:=KK l m hi;have d2:=KK l m hk;rcases mG (l:=l) (m:=m) hi with ⟨e,h⟩|⟨e,h⟩ <;> rcases mG (l:=l) (m:=m) hk with ⟨e',h'⟩|⟨e',h'⟩
 ·rw [h,h'] at hf hr;have hv:(cL l m (i / 2)).1=(cL l m (k / 2)).1:=(by show dN l _=dN l _;exact congrArg (dN l) hf);have hc:bB (cL l m (i / 2)).1 (cL l m (i / 2)).2 (cL l m (k / 2)).2=0:=by
   rw [D7];have:=hr.1;rw [show r5 (cL l m (k / 2)).2 (cL l m (i / 2)).1=eG (dA l m (k / 2)) by rw [hv];rfl];exact this
  have hc':bB (cL l m (k / 2)).1 (cL l m (k / 2)).2 (cL l m (i / 2)).2=0:=by
   rw [D7];have:=(KB hr).1;rw [show r5 (cL l m (i / 2)).2 (cL l m (k / 2)).1=eG (dA l m (i / 2)) by rw [← hv];rfl];exact this
  rcases hm with hm|hm
  ·exact hm (YE o1 o3 o2 o4 hv hc)
  ·exact hm (YE o3 o1 o4 o2 hv.symm hc')
 ·omega
 ·omega
 ·rw [h,h'] at hf hr;have hv:(cL l m (i / 2)).2=(cL l m (k / 2)).2:=(by show dN l _=dN l _;exact congrArg (dN l) hf);have key:∀ (v a b:Pt),cr (r5 a v) (r5 b v)=0→bB a v b=0:=fun v a b hh=>by
   unfold cr r5 at hh;unfold bB;simp only [Int.mul_sub,Int.sub_mul] at *;rw [Int.mul_comm v.2 v.1,Int.mul_comm v.2 b.1,Int.mul_comm v.2 a.1] at *;rw [Int.mul_comm a.2 b.1] at *;rw [Int.mul_comm a.2 v.1] at *;rw [Int.mul_comm a.2 a.1] at *;omega
  have hc:bB (cL l m (i / 2)).1 (cL l m (i / 2)).2 (cL l m (k / 2)).1=0:=by
   refine key _ _ _ ?_;have:=hr.1;rw [show r5 (cL l m (k / 2)).1 (cL l m (i / 2)).2=eG (dB l m (k / 2)) by rw [hv];rfl];exact this
  have hc':bB (cL l m (k / 2)).1 (cL l m (k / 2)).2 (cL l m (i / 2)).1=0:=by
   refine key _ _ _ ?_;have:=(KB hr).1;rw [show r5 (cL l m (i / 2)).1 (cL l m (k / 2)).2=eG (dB l m (i / 2)) by rw [← hv];rfl];exact this
  rcases hm with hm|hm
  ·exact hm (SN o1 o3 o2 o4 hv hc)
  ·exact hm (SN o3 o1 o4 o2 hv.symm hc')
end
end Go.Aw
end
