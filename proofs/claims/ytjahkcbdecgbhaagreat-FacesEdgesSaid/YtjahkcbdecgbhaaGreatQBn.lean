/-
  Parts of the proof, put together. No condition.
-/
import Derived.Test.YtjahkcbdecgbhaaGreatQAz
import Derived.Test.YtjahkcbdecgbhaaGreatQBa
import Derived.Test.YtjahkcbdecgbhaaGreatQBk
import Derived.Test.YtjahkcbdecgbhaaGreatQBl
import Derived.Test.YtjahkcbdecgbhaaGreatQBm
set_option linter.unusedSimpArgs false
set_option linter.unusedVariables false
namespace Go.Aw
abbrev V2:=Int × Int
def cr (a b:V2):Int:=a.1*b.2 - a.2*b.1
def dt (a b:V2):Int:=a.1*b.1+a.2*b.2
def yG (a:V2):V2:=(-a.1,-a.2)
def up (a:V2):Prop:=0<a.2∨a.2=0∧0<a.1
def lo (a:V2):Prop:=a.2<0∨a.2=0∧a.1<0
instance (a:V2):Decidable (lo a):=inferInstanceAs (Decidable (_∨_))
theorem eV (a b:V2):cr b a = - cr a b:=by unfold cr;rw [Int.mul_comm b.1,Int.mul_comm b.2];omega
theorem aGU {a:V2}(h:lo a):up (yG a):=by unfold up yG;unfold lo at h;simp only;omega
theorem DH (a b:V2):cr (yG a) b = - cr a b:=by unfold cr yG;simp only [Int.neg_mul];omega
theorem C6 (a b:V2):cr a (yG b) = - cr a b:=by unfold cr yG;simp only [Int.mul_neg];omega
theorem K9 (a b:V2):dt (yG a) b = - dt a b:=by unfold dt yG;simp only [Int.neg_mul];omega
theorem KV (a b:V2):dt a (yG b) = - dt a b:=by unfold dt yG;simp only [Int.mul_neg];omega
theorem vU {a b:Int}(hb:0<b)(h:0≤a*b):0≤a:=by
 rcases Int.lt_or_le a 0 with h1|h1
 ·have:=Int.mul_neg_of_neg_of_pos h1 hb;omega
 ·exact h1
theorem aIj (a b c:V2):cr a c*b.2=cr a b*c.2+cr b c*a.2:=by
 unfold cr;simp only [Int.sub_mul];have e1:a.1*c.2*b.2=a.1*b.2*c.2:=(by rw [Int.mul_assoc,Int.mul_comm c.2,← Int.mul_assoc]);have e2:a.2*c.1*b.2=b.2*c.1*a.2:=(by rw [Int.mul_comm (b.2*c.1),Int.mul_assoc,Int.mul_comm c.1]);have e3:a.2*b.1*c.2=b.1*c.2*a.2:=(by rw [Int.mul_assoc,Int.mul_comm]);omega
theorem DN {a b c:V2}(ha:up a)(hb:up b)(hc:up c)(h1:0≤cr a b)(h2:0≤cr b c):0≤cr a c:=by
 have hid:=aIj a b c;have a2:0≤a.2:=(by unfold up at ha;omega);have c2:0≤c.2:=(by unfold up at hc;omega);rcases hb with hb|⟨hb,hb1⟩
 ·refine vU hb ?_;rw [hid];have:=Int.mul_nonneg h1 c2;have:=Int.mul_nonneg h2 a2;omega
 ·have e1:cr a b = -(a.2*b.1):=(by unfold cr;rw [hb];omega);rw [e1] at h1;have:a.2=0:=by
   rcases Int.lt_or_le 0 a.2 with h|h
   ·have:=Int.mul_pos h hb1;omega
   ·omega
  have a1:0<a.1:=(by unfold up at ha;omega);unfold cr;rw [this];have:=Int.mul_nonneg (Int.le_of_lt a1) c2;omega
theorem kZ {a b c:V2}(ha:up a)(hb:up b)(hc:up c)(h1:0≤cr a b)(h2:0≤cr b c)(h3:cr a c≤0):cr a b=0∧cr b c=0:=by
 have h4:0≤cr c a:=(by rw [eV];omega);have k1:=DN hb hc ha h2 h4;have k2:=DN hc ha hb h4 h1;rw [eV] at k1;rw [eV] at k2;omega
theorem KR {a b:V2}(ha:up a)(hb:up b)(h:cr a b=0):0<dt a b:=by
 unfold cr at h;unfold dt;rcases ha with ha|⟨ha,ha1⟩ <;> rcases hb with hb|⟨hb,hb1⟩
 ·-- a.1 b.2=a.2 b.1:same signs of a.1 and b.1
  have h2:=Int.mul_pos ha hb;have:0≤a.1*b.1:=by
   rcases Int.lt_or_le b.1 0 with h1|h1
   ·have:=Int.mul_neg_of_pos_of_neg ha h1;have h3:a.1<0:=by
     rcases Int.lt_or_le a.1 0 with h4|h4
     ·exact h4
     ·have:=Int.mul_nonneg h4 (Int.le_of_lt hb);omega
    exact Int.mul_nonneg_of_nonpos_of_nonpos (Int.le_of_lt h3) (Int.le_of_lt h1)
   ·have:=Int.mul_nonneg (Int.le_of_lt ha) h1;have h3:0≤a.1:=by
     refine vU hb ?_;omega
    exact Int.mul_nonneg h3 h1
  omega
 ·rw [hb] at h;have:=Int.mul_pos ha hb1;omega
 ·rw [ha] at h;have:=Int.mul_pos ha1 hb;omega
 ·have:=Int.mul_pos ha1 hb1;rw [ha];omega
def xA (a b:V2):Prop:=(¬ lo a∧lo b)∨((lo a↔lo b)∧0<cr a b)
def rk (u w:V2):Int:=if cr u w<0 then 0 else if 0<cr u w then 2 else if dt u w<0 then 1 else 3
def G6 (u w x:V2):Prop:=rk u w<rk u x∨rk u w=rk u x∧cr w x<0
def nz (a:V2):Prop:=¬ (a.1=0∧a.2=0)
theorem aJc {a:V2}(h:nz a)(hl:¬ lo a):up a:=by unfold nz at h;unfold lo at hl;unfold up;omega
def uv (a:V2):V2:=if lo a then yG a else a
theorem vN {a:V2}(h:nz a):up (uv a):=by
 unfold uv;split
 ·rename_i hl;exact aGU hl
 ·rename_i hl;exact aJc h hl
theorem three {u y x:V2}(hu:nz u)(hy:nz y)(hx:nz x) :
  (xA u x∧xA x y∧xA u y)∨(xA y u∧xA u x∧xA y x)∨(xA x y∧xA y u∧xA x u)→G6 u y x:=by
 have hU:=vN hu;have hY:=vN hy;have hX:=vN hx;have f1:=fun h1 h2 h3=>kZ hU hY hX h1 h2 h3;have f2:=fun h1 h2 h3=>kZ hU hX hY h1 h2 h3;have f3:=fun h1 h2 h3=>kZ hY hU hX h1 h2 h3;have f4:=fun h1 h2 h3=>kZ hY hX hU h1 h2 h3;have f5:=fun h1 h2 h3=>kZ hX hU hY h1 h2 h3;have f6:=fun h1 h2 h3=>kZ hX hY hU h1 h2 h3;have d1:=fun h=>KR hU hY h;have d2:=fun h=>KR hU hX h;have n1:=eV (uv u) (uv y);have n2:=eV (uv u) (uv x);have n3:=eV (uv y) (uv x);have n4:=eV u y;have n5:=eV u x;have n6:=eV y x;unfold xA G6 rk
 by_cases lu:lo u <;> by_cases ly:lo y <;> by_cases lx:lo x <;>
  simp only [uv,lu,ly,lx,if_true,if_false,DH,C6,K9,KV,not_true,not_false_iff,true_and,false_and,and_false,and_true,iff_true,true_iff,iff_false,false_or,or_false,not_false_eq_true,Int.neg_neg] at f1 f2 f3 f4 f5 f6 d1 d2 n1 n2 n3 ⊢ <;>
  (generalize cr u y=c1 at *;generalize cr u x=c2 at *;generalize cr y x=c3 at *;generalize dt u y=e1 at *;generalize dt u x=e2 at *;intro h;repeat' split) <;> omega
theorem aBR (a:V2):cr a a=0:=by unfold cr;rw [Int.mul_comm];omega
theorem WI {a b:V2}(h:xA a b):¬ xA b a:=by
 unfold xA at *;have:=eV a b;rintro (⟨h1,h2⟩|⟨h2,h3⟩) <;> rcases h with ⟨h4,h5⟩|⟨h5,h6⟩
 ·exact h1 h5
 ·exact h1 (h5.1 h2)
 ·exact h4 (h2.1 h5)
 ·omega
theorem PG {a b c:V2}(ha:nz a)(hb:nz b)(hc:nz c)(h1:¬ xA b a)(h2:¬ xA c b):¬ xA c a:=by
 have hA:=vN ha;have hB:=vN hb;have hC:=vN hc;have f1:=fun h1 h2=>DN hA hB hC h1 h2;have g1:=fun h1 h2 h3=>kZ hA hB hC h1 h2 h3;have n1:=eV a b;have n2:=eV a c;have n3:=eV b c;unfold xA at *
 by_cases la:lo a <;> by_cases lb:lo b <;> by_cases lc:lo c <;>
  simp only [uv,la,lb,lc,if_true,if_false,DH,C6,not_true,not_false_iff,true_and,false_and,and_false,and_true,iff_true,true_iff,iff_false,false_or,or_false,true_or,or_true,Int.neg_neg] at f1 g1 h1 h2 ⊢ <;> omega
def ray (a b:V2):Prop:=cr a b=0∧0<dt a b
theorem WE {a b:V2}(ha:nz a)(hb:nz b)(h:¬ ray a b):xA a b∨xA b a:=by
 have hA:=vN ha;have hB:=vN hb;have d:=fun h=>KR hA hB h;have n:=eV a b;unfold ray at h;unfold xA
 by_cases la:lo a <;> by_cases lb:lo b <;>
  simp only [uv,la,lb,if_true,if_false,DH,C6,K9,KV,not_true,not_false_iff,true_and,false_and,and_false,and_true,iff_true,true_iff,iff_false,false_or,or_false,true_or,or_true,Int.neg_neg] at d h ⊢ <;> omega
theorem sq0 (a:Int):0≤a*a:=by
 rcases Int.le_total 0 a with h|h
 ·exact Int.mul_nonneg h h
 ·exact Int.mul_nonneg_of_nonpos_of_nonpos h h
theorem I5 {u y:V2}(hu:nz u)(hy:nz y)(h:xA u y∨xA y u):G6 u y u:=by
 have hU:=vN hu;have hY:=vN hy;have d:=fun h=>KR hU hY h;have d2:0<dt u u:=by
  unfold dt;unfold nz at hu;have h1:=sq0 u.1;have h2:=sq0 u.2;by_cases h3:u.1=0
  ·have h4:u.2≠0:=fun h=>hu ⟨h3,h⟩;have:u.2*u.2≠0:=Int.mul_ne_zero h4 h4;omega
  ·have:u.1*u.1≠0:=Int.mul_ne_zero h3 h3;omega
 have n:=eV u y;have c0:=aBR u;unfold G6 rk;unfold xA at h;rw [c0]
 by_cases lu:lo u <;> by_cases ly:lo y <;>
  simp only [uv,lu,ly,if_true,if_false,DH,C6,K9,KV,not_true,not_false_iff,true_and,false_and,and_false,and_true,iff_true,true_iff,iff_false,false_or,or_false,true_or,or_true,Int.neg_neg] at d h ⊢ <;> (repeat' split) <;> omega
theorem QW {u y x:V2}(h:G6 u y x):¬ G6 u x y:=by
 unfold G6 at *;have:=eV x y;omega
end Go.Aw

noncomputable section
namespace Go.Aw
set_option maxRecDepth 100000
theorem uM (D:List Dt)(x y:Int):jL D x y=true↔xA (eL (bX D x.toNat)) (eL (bX D y.toNat)):=by
 unfold jL ZN;generalize eL (bX D x.toNat)=u;generalize eL (bX D y.toNat)=v;rw [decide_eq_true_iff];have hu:CD u=true↔lo u:=(by unfold CD lo;simp);have hv:CD v=true↔lo v:=(by unfold CD lo;simp);have hc:crP u v=cr u v:=rfl;unfold QQ xA jA;rw [hc];cases h1:CD u <;> cases h2:CD v <;> rw [h1] at hu <;> rw [h2] at hv <;> simp only [Bool.false_eq_true,false_iff,true_iff,if_true,if_false] at hu hv ⊢ <;> simp only [hu,hv,not_true,not_false_iff,true_and,false_and,false_or,or_false,and_false,iff_true,true_iff,iff_false,not_false_eq_true]
 ·split <;> (try split) <;> omega
 ·simp
 ·simp
 ·split <;> (try split) <;> omega
theorem PJ {a b c:Pt}(h1:fP a b=true)(h2:fP b c=true):fP a c=true:=by
 simp only [fP,Bool.or_eq_true,Bool.and_eq_true,decide_eq_true_eq] at *;omega
section
variable {l:List Pt}{m:List Ed}{n:Int}
theorem RN (hok:cY l m n=true):∀ {j i:Nat},i<j→j<l.length→fP (dL l i) (dL l j)=true
 |0,i,h,_=>by omega
 |j+1,i,h,hj=>by
  simp only [cY,Bool.and_eq_true] at hok;have h1:=gG hok.2.1 hj;simp only [CK,Bool.and_eq_true,Bool.or_eq_true,decide_eq_true_eq] at h1;have h2:fP (dL l j) (dL l (j+1))=true:=by
   rcases h1.2 with h|h
   ·omega
   ·exact h
  by_cases e:i=j
  ·rw [e];exact h2
  ·exact PJ (RN (by simp only [cY,Bool.and_eq_true];exact hok) (show i<j by omega) (by omega)) h2
theorem J0 (hok:cY l m n=true){i:Nat}(hi:i<m.length):0≤(cN m i).a∧(cN m i).a<(cN m i).b∧(cN m i).b<l.length:=by
 simp only [cY,Bool.and_eq_true] at hok;have h1:=gG hok.2.2.1 hi;simp only [HG,Bool.and_eq_true,decide_eq_true_eq] at h1;exact⟨h1.1.1.1.1.1,h1.1.1.1.1.2,h1.1.1.1.2⟩
theorem A3 (hok:cY l m n=true){i:Nat}(hi:i<2*m.length):nz (eL (bX (a9 l m m.length) i)):=by
 obtain⟨h1,h2,h3⟩:=J0 hok (i:=i / 2) (by omega);have h4:=RN hok (i:=(cN m (i / 2)).a.toNat) (j:=(cN m (i / 2)).b.toNat) (by omega) (by omega);simp only [fP,Bool.or_eq_true,Bool.and_eq_true,decide_eq_true_eq] at h4;unfold nz;rcases mM (l:=l) (m:=m) hi with ⟨e,h⟩|⟨e,h⟩
 ·rw [h];simp only [eL,dA,dQ];omega
 ·rw [h];simp only [eL,dB,dQ];omega
theorem aCG (hok:cY l m n=true):Ord (a9 l m m.length) (fun x=>0≤x∧x<(2*m.length:Nat)) where
 trans:=fun x y z hx hy hz h1 h2=>by
  have nx:=A3 hok (i:=x.toNat) (by omega);have ny:=A3 hok (i:=y.toNat) (by omega);have nz':=A3 hok (i:=z.toNat) (by omega);unfold AG at *;have b1:¬ xA (eL (bX (a9 l m m.length) y.toNat)) (eL (bX (a9 l m m.length) x.toNat)):=fun h=>(by rw [(uM _ _ _).2 h] at h1;cases h1);have b2:¬ xA (eL (bX (a9 l m m.length) z.toNat)) (eL (bX (a9 l m m.length) y.toNat)):=fun h=>(by rw [(uM _ _ _).2 h] at h2;cases h2);cases h:jL (a9 l m m.length) z x with
  |false=>rfl
  |true=>exact absurd ((uM _ _ _).1 h) (PG nx ny nz' b1 b2)
 asym:=fun x y hx hy h=>by
  unfold AG;cases h2:jL (a9 l m m.length) y x with
  |false=>rfl
  |true=>exact absurd ((uM _ _ _).1 h2) (WI ((uM _ _ _).1 h))
theorem WQ (D:List Dt)(s j:Nat):(PH D s j).Nodup:=by
 unfold PH;unfold List.Nodup;rw [List.pairwise_map];have h:List.Pairwise (fun a b:Nat=>a≠b) ((List.range j).filter fun i=>decide ((bX D i).fr.toNat=s)):=List.Pairwise.filter _ List.nodup_range;exact h.imp fun {a b} h e=>h (Int.ofNat.inj e)
theorem L4 (D:List Dt)(s j:Nat):(PH D s j).length≤j:=by
 unfold PH;rw [List.length_map];exact Nat.le_trans (List.length_filter_le _ _) (by rw [List.length_range];exact Nat.le_refl _)
theorem aC1 (hok:cY l m n=true){s:Nat}(hs:s<l.length):bK (outs l m) s=rW (a9 l m m.length) 1000 (PH (a9 l m m.length) s (2*m.length)):=by
 have hM:=(jX hok).1;have hfr:∀ i,i<2*m.length→(bX (a9 l m m.length) i).fr.toNat<l.length∧(bX (a9 l m m.length) i).no=i:=fun i hi=>by
  have:=mC (l:=l) hM hi;omega
 unfold outs;rw [RJ _ _ (by rw [nO];exact Nat.le_refl _),if_pos hs,DA _ hfr]
theorem y8 (hok:cY l m n=true){s:Nat}(hs:s<l.length):So (a9 l m m.length) (bK (outs l m) s) 0 (bK (outs l m) s).length∧(bK (outs l m) s).Perm (PH (a9 l m m.length) s (2*m.length)):=by
 obtain⟨hM,h3,h1,h4,h5,_,_⟩:=jX hok;rw [aC1 hok hs];have hl:=L4 (a9 l m m.length) s (2*m.length);have:=aDU (aCG hok) (f:=1000) (L:=PH (a9 l m m.length) s (2*m.length)) (by omega) (fun i _ hi=>by
  have hm:aN (PH (a9 l m m.length) s (2*m.length)) i∈PH (a9 l m m.length) s (2*m.length):=by
   rw [gP hi];exact List.getElem_mem hi
  obtain⟨k,hk,e,_⟩:=JO hm;rw [e];omega)
 rw [NN];exact this
theorem jO (hok:cY l m n=true){s:Nat}(hs:s<l.length){x:Int}:x∈bK (outs l m) s↔∃ i:Nat,i<2*m.length∧x=i∧(bX (a9 l m m.length) i).fr.toNat=s:=by
 rw [(y8 hok hs).2.mem_iff];exact⟨JO,fun ⟨i,h1,h2,h3⟩=>by rw [h2];exact QO h1 h3⟩
theorem D7 (hok:cY l m n=true){s:Nat}(hs:s<l.length):(bK (outs l m) s).Nodup:=(y8 hok hs).2.symm.nodup (WQ _ _ _)
theorem DF {d:Int}{E:Nat}(h0:0≤d)(h1:d<(2*E:Nat)):0≤eU d∧eU d<(2*E:Nat):=by unfold eU;split <;> omega
theorem I8 {d:Int}(h0:0≤d):eU (eU d)=d:=by unfold eU;split <;> split <;> omega
theorem KP (l:List Pt)(m:List Ed){d:Int}(h0:0≤d)(h1:d<(2*m.length:Nat)):(bX (a9 l m m.length) (eU d).toNat).fr=(bX (a9 l m m.length) d.toNat).tt∧(bX (a9 l m m.length) (eU d).toNat).tt=(bX (a9 l m m.length) d.toNat).fr∧eL (bX (a9 l m m.length) (eU d).toNat)=yG (eL (bX (a9 l m m.length) d.toNat)):=by
 obtain⟨hd1,hd2⟩:=E8 l m (N:=m.length) (i:=d.toNat / 2) (by omega);unfold eU;by_cases e:d % 2=0
 ·rw [if_pos e,show (d+1).toNat=2*(d.toNat / 2)+1 by omega,show bX (a9 l m m.length) d.toNat=dA l m (d.toNat / 2) by rw [← hd1];congr 1;omega,hd2];refine⟨rfl,rfl,?_⟩;simp only [eL,dA,dB,yG,Prod.mk.injEq];omega
 ·rw [if_neg e,show (d - 1).toNat=2*(d.toNat / 2) by omega,show bX (a9 l m m.length) d.toNat=dB l m (d.toNat / 2) by rw [← hd2];congr 1;omega,hd1];refine⟨rfl,rfl,?_⟩;simp only [eL,dA,dB,yG,Prod.mk.injEq];omega
theorem IC {x:Int}:∀ {L:List Int} {i:Nat},x∈L→∃ k,k<L.length∧rE x L i=((i+k:Nat):Int)∧aN L k=x
 |[],i,h=>by cases h
 |b::r,i,h=>by
  unfold rE;by_cases e:x=b
  ·rw [if_pos e];exact⟨0,Nat.succ_pos _,rfl,e.symm⟩
  ·rw [if_neg e];rcases List.mem_cons.1 h with h|h
   ·exact absurd h e
   ·obtain⟨k,h1,h2,h3⟩:=IC (L:=r) (i:=i+1) h;refine⟨k+1,by simpa using h1,by rw [h2];congr 1;omega,?_⟩;rw [← h3];rfl
theorem s8 (hok:cY l m n=true){d:Int}(h0:0≤d)(h1:d<(2*m.length:Nat)):∃ (s a:Nat),s=(bX (a9 l m m.length) d.toNat).tt.toNat∧s<l.length∧PE (a9 l m m.length) (outs l m) d=bK (outs l m) s∧a<(bK (outs l m) s).length ∧
  rE (eU d) (bK (outs l m) s) 0=a∧aN (bK (outs l m) s) a=eU d∧BZ (a9 l m m.length) (outs l m) d=aN (bK (outs l m) s) (if a=0 then (bK (outs l m) s).length - 1 else a - 1):=by
 obtain⟨hM,h3,h5,h4,h6,_,_⟩:=jX hok;have hf:=mC (l:=l) hM (i:=d.toNat) (by omega);have hb:=DF (E:=m.length) h0 h1;have hbd:=KP l m h0 h1;refine⟨(bX (a9 l m m.length) d.toNat).tt.toNat,?_⟩;have hs:(bX (a9 l m m.length) d.toNat).tt.toNat<l.length:=(by omega);have hmem:eU d∈bK (outs l m) (bX (a9 l m m.length) d.toNat).tt.toNat:=(jO hok hs).2 ⟨(eU d).toNat,by omega,by omega,by rw [hbd.1]⟩;obtain⟨k,k1,k2,k3⟩:=IC (i:=0) hmem;rw [Nat.zero_add] at k2;refine⟨k,rfl,hs,rfl,k1,k2,k3,?_⟩;unfold BZ PE;rw [k2];congr 1;split
 ·rename_i e;rw [e];have:((0:Nat):Int) - 1+((bK (outs l m) (bX (a9 l m m.length) d.toNat).tt.toNat).length:Int)=(((bK (outs l m) (bX (a9 l m m.length) d.toNat).tt.toNat).length - 1:Nat):Int):=(by omega);rw [this,Int.emod_eq_of_lt (by omega) (by omega)];rfl
 ·have:(k:Int) - 1+((bK (outs l m) (bX (a9 l m m.length) d.toNat).tt.toNat).length:Int)=((k - 1:Nat):Int)+(bK (outs l m) (bX (a9 l m m.length) d.toNat).tt.toNat).length:=(by omega);rw [this,Int.add_emod_right,Int.emod_eq_of_lt (by omega) (by omega)];rfl
theorem at_mem {L:List Int}{i:Nat}(h:i<L.length):aN L i∈L:=by rw [gP h];exact List.getElem_mem h
theorem OZ (hok:cY l m n=true){d:Int}(h0:0≤d)(h1:d<(2*m.length:Nat)):0≤BZ (a9 l m m.length) (outs l m) d∧BZ (a9 l m m.length) (outs l m) d<(2*m.length:Nat)∧(bX (a9 l m m.length) (BZ (a9 l m m.length) (outs l m) d).toNat).fr.toNat=(bX (a9 l m m.length) d.toNat).tt.toNat:=by
 obtain⟨s,a,e1,hs,e2,ha,e3,e4,e5⟩:=s8 hok h0 h1;rw [e5];have hi:(if a=0 then (bK (outs l m) s).length - 1 else a - 1)<(bK (outs l m) s).length:=(by split <;> omega);obtain⟨i,i1,i2,i3⟩:=(jO hok hs).1 (at_mem hi);rw [i2];exact⟨by omega,by omega,by rw [← e1];exact i3⟩
theorem OQ {L:List Int}(h:L.Nodup){i j:Nat}(hi:i<L.length)(hj:j<L.length)(e:aN L i=aN L j):i=j:=by
 rw [gP hi,gP hj] at e;exact (List.getElem_inj h).1 e
theorem aGl (hok:cY l m n=true){d d':Int}(h0:0≤d)(h1:d<(2*m.length:Nat))(h0':0≤d')(h1':d'<(2*m.length:Nat))(e:BZ (a9 l m m.length) (outs l m) d=BZ (a9 l m m.length) (outs l m) d'):d=d':=by
 have hn:=(OZ hok h0 h1).2.2;have hn':=(OZ hok h0' h1').2.2;obtain⟨s,a,e1,hs,e2,ha,e3,e4,e5⟩:=s8 hok h0 h1;obtain⟨s',a',e1',hs',e2',ha',e3',e4',e5'⟩:=s8 hok h0' h1';have hss:s=s':=(by rw [e1,e1',← hn,← hn',e]);subst hss;rw [e5,e5'] at e;have:=OQ (D7 hok hs) (by split <;> omega) (by split <;> omega) e;have haa:a=a':=by
  split at this <;> split at this <;> omega
 have hb:eU d=eU d':=(by rw [← e4,← e4',haa]);rw [← I8 h0,hb,I8 h0']
theorem aAe:∀ (n:Nat) (f:Nat→Nat),(∀ i,i≤n→f i<n)→∃ i j,i<j∧j≤n∧f i=f j
 |0,f,h=>by have:=h 0 (Nat.le_refl 0);omega
 |n+1,f,h=>by
  by_cases hc:∃ i,i≤n∧f i=f (n+1)
  ·obtain⟨i,h1,h2⟩:=hc;exact⟨i,n+1,by omega,Nat.le_refl _,h2⟩
  ·have hne:∀ i,i≤n→f i≠f (n+1):=fun i hi e=>hc ⟨i,hi,e⟩;obtain⟨i,j,h1,h2,h3⟩:=aAe n (fun i=>if f (n+1)<f i then f i - 1 else f i) (fun i hi=>by
    have a1:=h i (by omega);have a2:=h (n+1) (Nat.le_refl _);have a3:=hne i hi;show (if f (n+1)<f i then f i - 1 else f i)<n;split <;> omega)
   refine⟨i,j,h1,by omega,?_⟩;have a1:=hne i (by omega);have a2:=hne j h2;have h3:(if f (n+1)<f i then f i - 1 else f i)=(if f (n+1)<f j then f j - 1 else f j):=h3;split at h3 <;> split at h3 <;> omega
theorem BL (hok:cY l m n=true){d:Int}(h0:0≤d)(h1:d<(2*m.length:Nat)):∀ i,0≤pH (a9 l m m.length) (outs l m) d i∧pH (a9 l m m.length) (outs l m) d i<(2*m.length:Nat)
 |0=>⟨h0,h1⟩
 |i+1=>by
  have ih:=BL hok h0 h1 i;have:=OZ hok ih.1 ih.2;exact⟨this.1,this.2.1⟩
theorem SU (hok:cY l m n=true){d:Int}(h0:0≤d)(h1:d<(2*m.length:Nat)):∀ (i k:Nat),pH (a9 l m m.length) (outs l m) d i=pH (a9 l m m.length) (outs l m) d (i+k)→d=pH (a9 l m m.length) (outs l m) d k
 |0,k,h=>by rw [Nat.zero_add] at h;exact h
 |i+1,k,h=>by
  refine SU hok h0 h1 i k ?_;have a:=BL hok h0 h1 i;have b:=BL hok h0 h1 (i+k);refine aGl hok a.1 a.2 b.1 b.2 ?_;rw [show i+1+k=i+k+1 by omega] at h;exact h
theorem O7 (D:List Dt)(ls:List (List Int))(d:Int):∀ (k i N:Nat),i≤N→N<i+k→pH D ls d N=d→pH D ls d (FX D ls d k i)=d
 |0,i,N,h1,h2,_=>by omega
 |k+1,i,N,h1,h2,h3=>by
  unfold FX;split
  ·assumption
  ·rename_i h;refine O7 D ls d k (i+1) N ?_ (by omega) h3;rcases Nat.lt_or_ge i N with h4|h4
   ·exact h4
   ·exact absurd (by rw [show i=N by omega];exact h3) h
theorem KZ (hok:cY l m n=true):ZP (a9 l m m.length) (outs l m)=true:=by
 refine List.all_eq_true.2 fun d hd=>decide_eq_true ?_;have hd:=List.mem_range.1 hd;rw [bP] at hd;obtain⟨i,j,h1,h2,h3⟩:=aAe (2*m.length) (fun i=>(pH (a9 l m m.length) (outs l m) d i).toNat) (fun i _=>by
  have:=BL hok (d:=d) (by omega) (by omega) i;show (pH (a9 l m m.length) (outs l m) d i).toNat<2*m.length;omega)
 have a:=BL hok (d:=(d:Int)) (by omega) (by omega) i;have b:=BL hok (d:=(d:Int)) (by omega) (by omega) j;have e:=SU hok (d:=(d:Int)) (by omega) (by omega) i (j - i) (by rw [show i+(j - i)=j by omega];have h3:(pH (a9 l m m.length) (outs l m) d i).toNat=(pH (a9 l m m.length) (outs l m) d j).toNat:=h3;omega);unfold o6;rw [bP];exact O7 _ _ _ _ 1 (j - i) (by omega) (by omega) e.symm
theorem aIm (hok:cY l m n=true):GO l (a9 l m m.length) (outs l m)=true:=by
 obtain⟨hM,h3,h5,h4,h6,_,_⟩:=jX hok;simp only [GO,Bool.and_eq_true,decide_eq_true_eq];refine⟨⟨⟨⟨List.all_eq_true.2 fun p hp=>?_,List.all_eq_true.2 fun e he=>?_⟩,by rw [bP];omega⟩,eY l m⟩,by omega⟩
 ·obtain⟨i,hi,rfl⟩:=List.getElem_of_mem hp;have:=qZ hok hi;rw [kE hi] at this;unfold wide;simp only [Bool.and_eq_true,decide_eq_true_eq];omega
 ·obtain⟨i,hi,rfl⟩:=List.getElem_of_mem he;rw [← oU hi];rw [bP] at hi;have:=mC (l:=l) hM hi;simp only [Bool.and_eq_true,decide_eq_true_eq];omega
theorem JK (hok:cY l m n=true):vB l (a9 l m m.length) (outs l m)=true:=by
 obtain⟨hM,h3,h5,h4,h6,_,_⟩:=jX hok;unfold vB;rw [aIm hok,Bool.true_and];refine List.all_eq_true.2 fun i hi=>?_;have hi:=List.mem_range.1 hi;rw [bP] at hi;have hn:=OZ hok (d:=(i:Int)) (by omega) (by omega);obtain⟨s,a,e1,hs,e2,ha,e3,e4,e5⟩:=s8 hok (d:=(i:Int)) (by omega) (by omega);have hf:=mC (l:=l) hM (i:=i) hi;have hlen:(bK (outs l m) s).length≤1000:=by
  have h7:=(y8 hok hs).2.length_eq;have h8:=L4 (a9 l m m.length) s (2*m.length);omega
 simp only [Bool.and_eq_true,decide_eq_true_eq];refine⟨?_,hn.1,by rw [bP];omega⟩;unfold nxB;rw [e2,e3,bP,eY];simp only [Bool.and_eq_true,decide_eq_true_eq,Int.toNat_natCast];omega
theorem aFl (hok:cY l m n=true):XH (a9 l m m.length) (outs l m)=true:=by
 obtain⟨hM,h3,h5,h4,h6,_,_⟩:=jX hok;refine List.all_eq_true.2 fun L hL=>?_;obtain⟨s,hs,rfl⟩:=List.getElem_of_mem hL;have hs':=hs;rw [eY] at hs';have e:(outs l m)[s]=bK (outs l m) s:=by
  unfold bK;rw [List.getD_eq_getElem?_getD,List.getElem?_eq_getElem hs];rfl
 rw [e];have h7:=(y8 hok hs').2.length_eq;have h8:=L4 (a9 l m m.length) s (2*m.length);have h9:=S9 hok hs';simp only [Bool.and_eq_true,decide_eq_true_eq];refine⟨⟨by omega,by omega⟩,List.all_eq_true.2 fun x hx=>?_⟩;obtain⟨i,i1,i2,_⟩:=(jO hok hs').1 hx;simp only [Bool.and_eq_true,decide_eq_true_eq,bP];omega
end
end Go.Aw
end

noncomputable section
namespace Go.Aw
set_option maxRecDepth 100000
set_option maxHeartbeats 2000000
theorem AK (n:Nat):∀ {h:Heap},iI h=true→iI (mZ n h)=true
 |[],_=>rfl
 |(k,o)::r,h=>by
  simp only [iI,Bool.and_eq_true] at h;simp only [mZ,iI,Bool.and_eq_true];refine⟨?_,AK n h.2⟩;cases o with
  |cells wr g sz cs=>rfl
  |_=>exact h.1
def aIe:Nat × XF:=(69,fun args h nx K=>∃ l m n p q,args=[mapA p q n]∧gZ aP h p l∧gZ aR h q m∧(l.length≤1000∧m.length≤1000) ∧
 ((dE l m n=true∧K (.tuple #[.pointer (some ⟨nx+7,0,none⟩),iv 0]) (app (mZ nx (WD l m (oV p) (oV q) n)) (eJ h)) (nx+2004))∨(dE l m n=false∧K (.tuple #[.pointer none,iv 1]) h nx)))
theorem aJG:cJ Go.Proofs.Tryz.prog aIe.1 aIe.2:=by
 refine (gF (S:=fun args0 h0 n0 v1 h1 j=>∃ l m n c1 c2,(l.length≤1000∧m.length≤1000)∧args0=[aF l.length m.length c1 c2 n]∧h0=aC aP aR l m∧n0=2 ∧
  ((dE l m n=true∧v1=.tuple #[.pointer (some ⟨7,0,none⟩),iv 0]∧h1=WD l m c1 c2 n∧j=2004)∨(dE l m n=false∧v1=.tuple #[.pointer none,iv 1]∧h1=[]∧j=0))) (aK (xl:=[U0,W9,SO,SJ,VD,(155,aGO)]) (.cons aIC (.cons aID (.cons aEx (.cons aIc (.cons aJ9 (.cons aIJ .nil))))))) ?_).mono ?_ ?_
 ·rintro args0 h0 n0 v1 h1 j ⟨l,m,n,c1,c2,⟨hl,hm⟩,rfl,rfl,rfl,hc⟩;have hw:=w69 l m n c1 c2 hl hm fun hok=>⟨JK hok,KZ hok,aFl hok,(jX hok).2.2.1⟩;rcases hc with ⟨ho,rfl,rfl,rfl⟩|⟨ho,rfl,rfl,rfl⟩
  ·refine⟨AK 3 qI,_,hw,fun v h nx e=>?_⟩;rcases e with ⟨_,e⟩|⟨e,_⟩
   ·exact e
   ·rw [ho] at e;cases e
  ·refine⟨rfl,_,hw,fun v h nx e=>?_⟩;rcases e with ⟨e,_⟩|⟨_,rfl⟩
   ·rw [ho] at e;cases e
   ·exact kK rfl
 ·rintro args h nx K ⟨l,m,n,p,q,rfl,hl,hm,hlm,hx⟩;rcases hx with ⟨ho,hx⟩|⟨ho,hx⟩
  ·refine⟨_,_,2,_,_,_,⟨l,m,n,oV p,oV q,hlm,rfl,rfl,rfl,.inl ⟨ho,rfl,rfl,rfl⟩⟩,KQ aP aR rfl hl hm,?_⟩;have e:fV (fun k=>nx+k) (.tuple #[.pointer (some ⟨7,0,none⟩),iv 0])=.tuple #[.pointer (some ⟨nx+7,0,none⟩),iv 0]:=(by simp [fV,tr,dP,bR,dR,kA];rfl);rw [e];exact hx
  ·refine⟨_,_,2,_,[],0,⟨l,m,n,oV p,oV q,hlm,rfl,rfl,rfl,.inr ⟨ho,rfl,rfl,rfl⟩⟩,KQ aP aR rfl hl hm,?_⟩;simp only [pB,sN,mZ,lJ,Nat.add_zero];rw [kT rfl];exact hx
 ·rintro args h nx K ⟨l,m,n,p,q,rfl,hl,hm,hlm,hx⟩;rcases hx with ⟨ho,hx⟩|⟨ho,hx⟩
  ·exact⟨_,_,_,hx,fun K' hk=>⟨l,m,n,p,q,rfl,hl,hm,hlm,.inl ⟨ho,hk⟩⟩⟩
  ·exact⟨_,_,_,hx,fun K' hk=>⟨l,m,n,p,q,rfl,hl,hm,hlm,.inr ⟨ho,hk⟩⟩⟩
def ckP (l:List Pt)(m:List Ed)(n:Int):List Value→Option (Bool × Value)
 |[]=>some (decide (l.length≤1000)&&decide (m.length≤1000),iv (if dE l m n=true then 0 else 1))
 |_=>none
def aL0:Nat × XF:=(17,mX aP aR ckP)
end Go.Aw
end

noncomputable section
namespace Go.Aw
set_option maxRecDepth 100000
def sK (p q:Pt):V2:=(p.1 - q.1,p.2 - q.2)
theorem DV (v a b:Pt):bC v a b=cr (sK a v) (sK b v):=rfl
theorem sO {a b:Pt}(h:fP a b=true):kJ a b = -1:=by
 rw [xU] at h;have h:=of_decide_eq_true h;rcases xX a b with e|e|e <;> omega
theorem MV (a:Pt):kJ a a=0:=by
 unfold kJ X7 jA;simp
theorem uN {s:Sg}(h:fP s.1 s.2=true):bW s=s:=by
 have:=sO h;unfold bW;rw [this];simp
theorem aE6 (a b:Pt):bC a b a=0:=by unfold bC;simp
theorem aCk (a b:Pt):bC a b b=0:=by unfold bC;rw [Int.mul_comm];omega
theorem aAK {s t:Sg}(h1:dU s=true)(h2:dU t=true)(l1:fP s.1 s.2=true)(l2:fP t.1 t.2=true)(e:s.1=t.1)(hc:bC s.1 s.2 t.2=0):fI s t=4:=by
 unfold fI;rw [if_pos ⟨h1,h2⟩];unfold rT bA;rw [hc,← e,aE6];rw [if_pos ⟨rfl,rfl⟩];unfold NK BE;rw [uN l1,uN l2,← e,MV,if_neg (by omega)];split
 ·rw [e,sO l2];rfl
 ·rw [sO l1];rfl
theorem TW {s t:Sg}(h1:dU s=true)(h2:dU t=true)(l1:fP s.1 s.2=true)(l2:fP t.1 t.2=true)(e:s.2=t.2)(hc:bC s.1 s.2 t.1=0):fI s t=4:=by
 unfold fI;rw [if_pos ⟨h1,h2⟩];unfold rT bA;rw [hc,← e,aCk];rw [if_pos ⟨rfl,rfl⟩];unfold NK BE;rw [uN l1,uN l2,show kJ t.2 s.2=0 by rw [← e];exact MV _,if_neg (c:=(0:Int)<0) (by omega)];split
 ·rw [e,sO l2];rfl
 ·rw [sO l1];rfl
section
variable {l:List Pt}{m:List Ed}{n:Int}
theorem QV (hok:cY l m n=true){i:Nat}(hi:i<m.length):dU (cC l m i)=true∧fP (cC l m i).1 (cC l m i).2=true:=by
 obtain⟨h1,h2,h3⟩:=J0 hok hi;have h4:=RN hok (i:=(cN m i).a.toNat) (j:=(cN m i).b.toNat) (by omega) (by omega);have pa:=qZ hok (i:=(cN m i).a.toNat) (by omega);have pb:=qZ hok (i:=(cN m i).b.toNat) (by omega);refine⟨?_,h4⟩;unfold dU aX;have hne:jH (cC l m i).1 (cC l m i).2=false:=by
  rw [jD];intro e;have h4:fP (cC l m i).1 (cC l m i).2=true:=h4;rw [e] at h4;simp [fP] at h4
 rw [hne];simp only [Bool.and_eq_true,decide_eq_true_eq,Bool.not_false,and_true];simp only [cC,dQ];omega
theorem aH7 (hp:iA l m n=true){i k:Nat}(hi:i<m.length)(hk:k<m.length)(hne:i≠k):fI (cC l m i) (cC l m k)≠4∨fI (cC l m k) (cC l m i)≠4:=by
 simp only [iA,Bool.and_eq_true] at hp;rcases Nat.lt_or_ge k i with h|h
 ·have:=gG (f:=fun k=>C5 l m i k) (gG (f:=fun i=>nU (fun k=>C5 l m i k) i) hp.2 hi) h;simp only [C5,Bool.or_eq_true,decide_eq_true_eq] at this;exact .inl (by omega)
 ·have:=gG (f:=fun i=>C5 l m k i) (gG (f:=fun i=>nU (fun k=>C5 l m i k) i) hp.2 hk) (show i<k by omega);simp only [C5,Bool.or_eq_true,decide_eq_true_eq] at this;exact .inr (by omega)
theorem KD (l:List Pt)(m:List Ed){i:Nat}(hi:i<2*m.length):eL (bX (a9 l m m.length) i)=sK (dQ l (bX (a9 l m m.length) i).tt) (dQ l (bX (a9 l m m.length) i).fr):=by
 rcases mM (l:=l) (m:=m) hi with ⟨e,h⟩|⟨e,h⟩
 ·rw [h];rfl
 ·rw [h];rfl
theorem TL {a b:V2}(h:ray a b):(0<a.1∨a.1=0∧0<a.2)→¬ (b.1<0∨b.1=0∧b.2<0):=by
 obtain⟨h1,h2⟩:=h;unfold cr at h1;unfold dt at h2;rintro h3 h4;rcases h3 with h3|⟨h3,h3'⟩
 ·rcases h4 with h4|⟨h4,h4'⟩
  ·-- b=(b1/a1) a,so that both products are negative
   have k1:a.1*b.1<0:=Int.mul_neg_of_pos_of_neg h3 h4;have k2:a.1*(a.2*b.2)=a.2*a.2*b.1:=by
    have:a.1*b.2=a.2*b.1:=(by omega);rw [Int.mul_left_comm,this,← Int.mul_assoc]
   have k3:a.2*a.2*b.1≤0:=Int.mul_nonpos_of_nonneg_of_nonpos (sq0 a.2) (Int.le_of_lt h4);have k4:0<a.2*b.2:=(by omega);have k5:=Int.mul_pos h3 k4;omega
  ·rw [h4] at h1 h2;have:a.1*b.2<0:=Int.mul_neg_of_pos_of_neg h3 h4';simp only [Int.mul_zero] at h1;omega
 ·rw [h3] at h1 h2;rcases h4 with h4|⟨h4,h4'⟩
  ·have:a.2*b.1<0:=Int.mul_neg_of_pos_of_neg h3' h4;simp only [Int.zero_mul] at h1;omega
  ·have:a.2*b.2<0:=Int.mul_neg_of_pos_of_neg h3' h4';simp only [Int.zero_mul] at h2;omega
theorem UR (hok:cY l m n=true){i:Nat}(hi:i<2*m.length):(i % 2=0→0<(eL (bX (a9 l m m.length) i)).1∨(eL (bX (a9 l m m.length) i)).1=0∧0<(eL (bX (a9 l m m.length) i)).2)∧(i % 2=1→(eL (bX (a9 l m m.length) i)).1<0∨(eL (bX (a9 l m m.length) i)).1=0∧(eL (bX (a9 l m m.length) i)).2<0):=by
 have h4:=(QV hok (i:=i / 2) (by omega)).2;unfold fP at h4;simp only [Bool.or_eq_true,Bool.and_eq_true,decide_eq_true_eq] at h4;simp only [cC] at h4;rcases mM (l:=l) (m:=m) hi with ⟨e,h⟩|⟨e,h⟩
 ·rw [h];simp only [eL,dA];omega
 ·rw [h];simp only [eL,dB];omega
theorem L5 {a b:V2}(h:ray a b):ray b a:=by
 obtain⟨h1,h2⟩:=h;refine⟨by rw [eV];omega,?_⟩;unfold dt at *;rw [Int.mul_comm b.1,Int.mul_comm b.2];exact h2
theorem aD8 (hp:iA l m n=true){i k:Nat}(hi:i<2*m.length)(hk:k<2*m.length)(hf:(bX (a9 l m m.length) i).fr=(bX (a9 l m m.length) k).fr)(hr:ray (eL (bX (a9 l m m.length) i)) (eL (bX (a9 l m m.length) k))):i=k:=by
 have hok:=mI hp;have x1:=UR hok hi;have x2:=UR hok hk;have r1:=TL hr;have r2:=TL (L5 hr);obtain⟨o1,o2⟩:=QV hok (i:=i / 2) (by omega);obtain⟨o3,o4⟩:=QV hok (i:=k / 2) (by omega);have par:i % 2=k % 2:=by
  rcases Nat.mod_two_eq_zero_or_one i with e|e <;> rcases Nat.mod_two_eq_zero_or_one k with e'|e'
  ·omega
  ·exact absurd (x2.2 e') (r1 (x1.1 e))
  ·exact absurd (x1.2 e) (r2 (x2.1 e'))
  ·omega
 by_cases he:i / 2=k / 2
 ·omega
 exfalso;have hm:=aH7 hp (i:=i / 2) (k:=k / 2) (by omega) (by omega) he;have d1:=KD l m hi;have d2:=KD l m hk;rcases mM (l:=l) (m:=m) hi with ⟨e,h⟩|⟨e,h⟩ <;> rcases mM (l:=l) (m:=m) hk with ⟨e',h'⟩|⟨e',h'⟩
 ·rw [h,h'] at hf hr;have hv:(cC l m (i / 2)).1=(cC l m (k / 2)).1:=(by show dQ l _=dQ l _;exact congrArg (dQ l) hf);have hc:bC (cC l m (i / 2)).1 (cC l m (i / 2)).2 (cC l m (k / 2)).2=0:=by
   rw [DV];have:=hr.1;rw [show sK (cC l m (k / 2)).2 (cC l m (i / 2)).1=eL (dA l m (k / 2)) by rw [hv];rfl];exact this
  have hc':bC (cC l m (k / 2)).1 (cC l m (k / 2)).2 (cC l m (i / 2)).2=0:=by
   rw [DV];have:=(L5 hr).1;rw [show sK (cC l m (i / 2)).2 (cC l m (k / 2)).1=eL (dA l m (i / 2)) by rw [← hv];rfl];exact this
  rcases hm with hm|hm
  ·exact hm (aAK o1 o3 o2 o4 hv hc)
  ·exact hm (aAK o3 o1 o4 o2 hv.symm hc')
 ·omega
 ·omega
 ·rw [h,h'] at hf hr;have hv:(cC l m (i / 2)).2=(cC l m (k / 2)).2:=(by show dQ l _=dQ l _;exact congrArg (dQ l) hf);have key:∀ (v a b:Pt),cr (sK a v) (sK b v)=0→bC a v b=0:=fun v a b hh=>by
   unfold cr sK at hh;unfold bC;simp only [Int.mul_sub,Int.sub_mul] at *;rw [Int.mul_comm v.2 v.1,Int.mul_comm v.2 b.1,Int.mul_comm v.2 a.1] at *;rw [Int.mul_comm a.2 b.1] at *;rw [Int.mul_comm a.2 v.1] at *;rw [Int.mul_comm a.2 a.1] at *;omega
  have hc:bC (cC l m (i / 2)).1 (cC l m (i / 2)).2 (cC l m (k / 2)).1=0:=by
   refine key _ _ _ ?_;have:=hr.1;rw [show sK (cC l m (k / 2)).1 (cC l m (i / 2)).2=eL (dB l m (k / 2)) by rw [hv];rfl];exact this
  have hc':bC (cC l m (k / 2)).1 (cC l m (k / 2)).2 (cC l m (i / 2)).1=0:=by
   refine key _ _ _ ?_;have:=(L5 hr).1;rw [show sK (cC l m (i / 2)).1 (cC l m (k / 2)).2=eL (dB l m (i / 2)) by rw [← hv];rfl];exact this
  rcases hm with hm|hm
  ·exact hm (TW o1 o3 o2 o4 hv hc)
  ·exact hm (TW o3 o1 o4 o2 hv.symm hc')
end
end Go.Aw
end
