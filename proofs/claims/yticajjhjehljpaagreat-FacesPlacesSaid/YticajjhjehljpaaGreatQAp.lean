/-
  Parts of a proof. No condition.
-/
import Derived.Test.YticajjhjehljpaaGreatQAj
import Derived.Test.YticajjhjehljpaaGreatQAk
import Derived.Test.YticajjhjehljpaaGreatQAo
set_option linter.unusedSimpArgs false
set_option linter.unusedVariables false
namespace Go.Aw
abbrev V2:=Int × Int
def cr (a b:V2):Int:=a.1*b.2 - a.2*b.1
def dt (a b:V2):Int:=a.1*b.1+a.2*b.2
def AK (a:V2):V2:=(-a.1,-a.2)
def up (a:V2):Prop:=0<a.2∨a.2=0∧0<a.1
def lo (a:V2):Prop:=a.2<0∨a.2=0∧a.1<0
instance (a:V2):Decidable (lo a):=inferInstanceAs (Decidable (_∨_))
theorem fT (a b:V2):cr b a = - cr a b:=by unfold cr;rw [Int.mul_comm b.1,Int.mul_comm b.2];omega
theorem aLb {a:V2}(h:lo a):up (AK a):=by unfold up AK;unfold lo at h;simp only;omega
theorem F4 (a b:V2):cr (AK a) b = - cr a b:=by unfold cr AK;simp only [Int.neg_mul];omega
theorem F8 (a b:V2):cr a (AK b) = - cr a b:=by unfold cr AK;simp only [Int.mul_neg];omega
theorem NN (a b:V2):dt (AK a) b = - dt a b:=by unfold dt AK;simp only [Int.neg_mul];omega
theorem NW (a b:V2):dt a (AK b) = - dt a b:=by unfold dt AK;simp only [Int.mul_neg];omega
theorem yD {a b:Int}(hb:0<b)(h:0≤a*b):0≤a:=by
 rcases Int.lt_or_le a 0 with h1|h1
 ·have:=Int.mul_neg_of_neg_of_pos h1 hb;omega
 exact h1
theorem aN0 (a b c:V2):cr a c*b.2=cr a b*c.2+cr b c*a.2:=by
 unfold cr;simp only [Int.sub_mul];have e1:a.1*c.2*b.2=a.1*b.2*c.2:=(by rw [Int.mul_assoc,Int.mul_comm c.2,← Int.mul_assoc]);have e2:a.2*c.1*b.2=b.2*c.1*a.2:=(by rw [Int.mul_comm (b.2*c.1),Int.mul_assoc,Int.mul_comm c.1]);have e3:a.2*b.1*c.2=b.1*c.2*a.2:=(by rw [Int.mul_assoc,Int.mul_comm]);omega
theorem H3 {a b c:V2}(ha:up a)(hb:up b)(hc:up c)(h1:0≤cr a b)(h2:0≤cr b c):0≤cr a c:=by
 have hid:=aN0 a b c;have a2:0≤a.2:=(by unfold up at ha;omega);have c2:0≤c.2:=(by unfold up at hc;omega);rcases hb with hb|⟨hb,hb1⟩
 ·refine yD hb ?_;rw [hid];have:=Int.mul_nonneg h1 c2;have:=Int.mul_nonneg h2 a2;omega
 have e1:cr a b = -(a.2*b.1):=(by unfold cr;rw [hb];omega);rw [e1] at h1;have:a.2=0:=by
  rcases Int.lt_or_le 0 a.2 with h|h
  ·have:=Int.mul_pos h hb1;omega
  omega
 have a1:0<a.1:=(by unfold up at ha;omega);unfold cr;rw [this];have:=Int.mul_nonneg (Int.le_of_lt a1) c2;omega
theorem mM {a b c:V2}(ha:up a)(hb:up b)(hc:up c)(h1:0≤cr a b)(h2:0≤cr b c)(h3:cr a c≤0):cr a b=0∧cr b c=0:=by
 have h4:0≤cr c a:=(by rw [fT];omega);have k1:=H3 hb hc ha h2 h4;have k2:=H3 hc ha hb h4 h1;rw [fT] at k1;rw [fT] at k2;omega
theorem NR {a b:V2}(ha:up a)(hb:up b)(h:cr a b=0):0<dt a b:=by
 unfold cr at h;unfold dt;rcases ha with ha|⟨ha,ha1⟩ <;> rcases hb with hb|⟨hb,hb1⟩
 ·-- a.1 b.2=a.2 b.1:same signs of a.1 and b.1
  have h2:=Int.mul_pos ha hb;have:0≤a.1*b.1:=by
   rcases Int.lt_or_le b.1 0 with h1|h1
   ·have:=Int.mul_neg_of_pos_of_neg ha h1;have h3:a.1<0:=by
     rcases Int.lt_or_le a.1 0 with h4|h4
     ·exact h4
     have:=Int.mul_nonneg h4 (Int.le_of_lt hb);omega
    exact Int.mul_nonneg_of_nonpos_of_nonpos (Int.le_of_lt h3) (Int.le_of_lt h1)
   have:=Int.mul_nonneg (Int.le_of_lt ha) h1;have h3:0≤a.1:=by
    refine yD hb ?_;omega
   exact Int.mul_nonneg h3 h1
  omega
 ·rw [hb] at h;have:=Int.mul_pos ha hb1;omega
 ·rw [ha] at h;have:=Int.mul_pos ha1 hb;omega
 have:=Int.mul_pos ha1 hb1;rw [ha];omega
def zO (a b:V2):Prop:=(¬ lo a∧lo b)∨((lo a↔lo b)∧0<cr a b)
def rk (u w:V2):Int:=if cr u w<0 then 0 else if 0<cr u w then 2 else if dt u w<0 then 1 else 3
def DG (u w x:V2):Prop:=rk u w<rk u x∨rk u w=rk u x∧cr w x<0
def nz (a:V2):Prop:=¬ (a.1=0∧a.2=0)
theorem aOy {a:V2}(h:nz a)(hl:¬ lo a):up a:=by unfold nz at h;unfold lo at hl;unfold up;omega
def uv (a:V2):V2:=if lo a then AK a else a
theorem yC {a:V2}(h:nz a):up (uv a):=by
 unfold uv;split
 ·rename_i hl;exact aLb hl
 rename_i hl;exact aOy h hl
theorem three {u y x:V2}(hu:nz u)(hy:nz y)(hx:nz x) :
  (zO u x∧zO x y∧zO u y)∨(zO y u∧zO u x∧zO y x)∨(zO x y∧zO y u∧zO x u)→DG u y x:=by
 have hU:=yC hu;have hY:=yC hy;have hX:=yC hx;have f1:=fun h1 h2 h3=>mM hU hY hX h1 h2 h3;have f2:=fun h1 h2 h3=>mM hU hX hY h1 h2 h3;have f3:=fun h1 h2 h3=>mM hY hU hX h1 h2 h3;have f4:=fun h1 h2 h3=>mM hY hX hU h1 h2 h3;have f5:=fun h1 h2 h3=>mM hX hU hY h1 h2 h3;have f6:=fun h1 h2 h3=>mM hX hY hU h1 h2 h3;have d1:=fun h=>NR hU hY h;have d2:=fun h=>NR hU hX h;have n1:=fT (uv u) (uv y);have n2:=fT (uv u) (uv x);have n3:=fT (uv y) (uv x);have n4:=fT u y;have n5:=fT u x;have n6:=fT y x;unfold zO DG rk
 by_cases lu:lo u <;> by_cases ly:lo y <;> by_cases lx:lo x <;>
  simp only [uv,lu,ly,lx,if_true,if_false,F4,F8,NN,NW,not_true,not_false_iff,true_and,false_and,and_false,and_true,iff_true,true_iff,iff_false,false_or,or_false,not_false_eq_true,Int.neg_neg] at f1 f2 f3 f4 f5 f6 d1 d2 n1 n2 n3 ⊢ <;>
  (generalize cr u y=c1 at *;generalize cr u x=c2 at *;generalize cr y x=c3 at *;generalize dt u y=e1 at *;generalize dt u x=e2 at *;intro h;repeat' split) <;> omega
theorem aHx (a:V2):cr a a=0:=by unfold cr;rw [Int.mul_comm];omega
theorem aBF {a b:V2}(h:zO a b):¬ zO b a:=by
 unfold zO at *;have:=fT a b;rintro (⟨h1,h2⟩|⟨h2,h3⟩) <;> rcases h with ⟨h4,h5⟩|⟨h5,h6⟩
 ·exact h1 h5
 ·exact h1 (h5.1 h2)
 ·exact h4 (h2.1 h5)
 omega
theorem UQ {a b c:V2}(ha:nz a)(hb:nz b)(hc:nz c)(h1:¬ zO b a)(h2:¬ zO c b):¬ zO c a:=by
 have hA:=yC ha;have hB:=yC hb;have hC:=yC hc;have f1:=fun h1 h2=>H3 hA hB hC h1 h2;have g1:=fun h1 h2 h3=>mM hA hB hC h1 h2 h3;have n1:=fT a b;have n2:=fT a c;have n3:=fT b c;unfold zO at *
 by_cases la:lo a <;> by_cases lb:lo b <;> by_cases lc:lo c <;>
  simp only [uv,la,lb,lc,if_true,if_false,F4,F8,not_true,not_false_iff,true_and,false_and,and_false,and_true,iff_true,true_iff,iff_false,false_or,or_false,true_or,or_true,Int.neg_neg] at f1 g1 h1 h2 ⊢ <;> omega
def ray (a b:V2):Prop:=cr a b=0∧0<dt a b
theorem aBp {a b:V2}(ha:nz a)(hb:nz b)(h:¬ ray a b):zO a b∨zO b a:=by
 have hA:=yC ha;have hB:=yC hb;have d:=fun h=>NR hA hB h;have n:=fT a b;unfold ray at h;unfold zO
 by_cases la:lo a <;> by_cases lb:lo b <;>
  simp only [uv,la,lb,if_true,if_false,F4,F8,NN,NW,not_true,not_false_iff,true_and,false_and,and_false,and_true,iff_true,true_iff,iff_false,false_or,or_false,true_or,or_true,Int.neg_neg] at d h ⊢ <;> omega
theorem sq0 (a:Int):0≤a*a:=by
 rcases Int.le_total 0 a with h|h
 ·exact Int.mul_nonneg h h
 exact Int.mul_nonneg_of_nonpos_of_nonpos h h
theorem L5 {u y:V2}(hu:nz u)(hy:nz y)(h:zO u y∨zO y u):DG u y u:=by
 have hU:=yC hu;have hY:=yC hy;have d:=fun h=>NR hU hY h;have d2:0<dt u u:=by
  unfold dt;unfold nz at hu;have h1:=sq0 u.1;have h2:=sq0 u.2;by_cases h3:u.1=0
  ·have h4:u.2≠0:=fun h=>hu ⟨h3,h⟩;have:u.2*u.2≠0:=Int.mul_ne_zero h4 h4;omega
  have:u.1*u.1≠0:=Int.mul_ne_zero h3 h3;omega
 have n:=fT u y;have c0:=aHx u;unfold DG rk;unfold zO at h;rw [c0]
 by_cases lu:lo u <;> by_cases ly:lo y <;>
  simp only [uv,lu,ly,if_true,if_false,F4,F8,NN,NW,not_true,not_false_iff,true_and,false_and,and_false,and_true,iff_true,true_iff,iff_false,false_or,or_false,true_or,or_true,Int.neg_neg] at d h ⊢ <;> (repeat' split) <;> omega
theorem zH {u y x:V2}(h:DG u y x):¬ DG u x y:=by
 unfold DG at *;have:=fT x y;omega
end Go.Aw

noncomputable section
namespace Go.Aw
set_option maxRecDepth 100000
theorem wK (D:List Dt)(x y:Int):kE D x y=true↔zO (eU (cA D x.toNat)) (eU (cA D y.toNat)):=by
 show decide (aBy D x y<0)=true↔_;unfold aBy;generalize eU (cA D x.toNat)=u;generalize eU (cA D y.toNat)=v;rw [decide_eq_true_iff];have hu:E1 u=true↔lo u:=(by unfold E1 lo;simp);have hv:E1 v=true↔lo v:=(by unfold E1 lo;simp);have hc:crP u v=cr u v:=rfl;unfold VQ zO iO;rw [hc];cases h1:E1 u <;> cases h2:E1 v <;> rw [h1] at hu <;> rw [h2] at hv <;> simp only [Bool.false_eq_true,false_iff,true_iff,if_true,if_false] at hu hv ⊢ <;> simp only [hu,hv,not_true,not_false_iff,true_and,false_and,false_or,or_false,and_false,iff_true,true_iff,iff_false,not_false_eq_true]
 ·split <;> (try split) <;> omega
 ·simp
 ·simp
 split <;> (try split) <;> omega
theorem UG {a b c:Pt}(h1:eO a b=true)(h2:eO b c=true):eO a c=true:=by
 simp only [eO,Bool.or_eq_true,Bool.and_eq_true,decide_eq_true_eq] at *;omega
section
variable {l:List Pt}{m:List Ed}{n:Int}
theorem IL (hok:cQ l m n=true):∀ {j i:Nat},i<j→j<l.length→eO (fA l i) (fA l j)=true
 |0,i,h,_=>by omega
 |j+1,i,h,hj=>by
  simp only [cQ,Bool.and_eq_true] at hok;have h1:=eG hok.2.1 hj;simp only [EL,Bool.and_eq_true,Bool.or_eq_true,decide_eq_true_eq] at h1;have h2:eO (fA l j) (fA l (j+1))=true:=by
   rcases h1.2 with h|h
   ·omega
   exact h
  by_cases e:i=j
  ·rw [e];exact h2
  exact UG (IL (by simp only [cQ,Bool.and_eq_true];exact hok) (show i<j by omega) (by omega)) h2
theorem qV (hok:cQ l m n=true){i:Nat}(hi:i<m.length):0≤(bO m i).a∧(bO m i).a<(bO m i).b∧(bO m i).b<l.length:=by
 simp only [cQ,Bool.and_eq_true] at hok;have h1:=eG hok.2.2.1 hi;simp only [KJ,Bool.and_eq_true,decide_eq_true_eq] at h1;exact⟨h1.1.1.1.1.1,h1.1.1.1.1.2,h1.1.1.1.2⟩
theorem CD (hok:cQ l m n=true){i:Nat}(hi:i<2*m.length):nz (eU (cA (aQ l m m.length) i)):=by
 obtain⟨h1,h2,h3⟩:=qV hok (i:=i / 2) (by omega);have h4:=IL hok (i:=(bO m (i / 2)).a.toNat) (j:=(bO m (i / 2)).b.toNat) (by omega) (by omega);simp only [eO,Bool.or_eq_true,Bool.and_eq_true,decide_eq_true_eq] at h4;unfold nz;rcases kR (l:=l) (m:=m) hi with ⟨e,h⟩|⟨e,h⟩
 ·rw [h];simp only [eU,dA,eF];omega
 rw [h];simp only [eU,dB,eF];omega
theorem aI6 (hok:cQ l m n=true):Ord (aQ l m m.length) (fun x=>0≤x∧x<(2*m.length:Nat)) where
 trans:=fun x y z hx hy hz h1 h2=>by
  have nx:=CD hok (i:=x.toNat) (by omega);have ny:=CD hok (i:=y.toNat) (by omega);have nz':=CD hok (i:=z.toNat) (by omega);unfold zS at *;have b1:¬ zO (eU (cA (aQ l m m.length) y.toNat)) (eU (cA (aQ l m m.length) x.toNat)):=fun h=>(by rw [(wK _ _ _).2 h] at h1;cases h1);have b2:¬ zO (eU (cA (aQ l m m.length) z.toNat)) (eU (cA (aQ l m m.length) y.toNat)):=fun h=>(by rw [(wK _ _ _).2 h] at h2;cases h2);cases h:kE (aQ l m m.length) z x with
  |false=>rfl
  |true=>exact absurd ((wK _ _ _).1 h) (UQ nx ny nz' b1 b2)
 asym:=fun x y hx hy h=>by
  unfold zS;cases h2:kE (aQ l m m.length) y x with
  |false=>rfl
  |true=>exact absurd ((wK _ _ _).1 h2) (aBF ((wK _ _ _).1 h))
theorem aBI (D:List Dt)(s j:Nat):(VW D s j).Nodup:=by
 unfold VW;unfold List.Nodup;rw [List.pairwise_map];have h:List.Pairwise (fun a b:Nat=>a≠b) ((List.range j).filter fun i=>decide ((cA D i).fr.toNat=s)):=List.Pairwise.filter _ List.nodup_range;exact h.imp fun {a b} h e=>h (Int.ofNat.inj e)
theorem MQ (D:List Dt)(s j:Nat):(VW D s j).length≤j:=by
 unfold VW;rw [List.length_map];exact Nat.le_trans (List.length_filter_le _ _) (by rw [List.length_range];exact Nat.le_refl _)
theorem aGB (hok:cQ l m n=true){s:Nat}(hs:s<l.length):bQ (outs l m) s=pP (aQ l m m.length) 1000 (VW (aQ l m m.length) s (2*m.length)):=by
 have hM:=(cZ hok).1;have hfr:∀ i,i<2*m.length→(cA (aQ l m m.length) i).fr.toNat<l.length∧(cA (aQ l m m.length) i).no=i:=fun i hi=>by
  have:=fC (l:=l) hM hi;omega
 unfold outs;rw [T0 _ _ (by rw [o9];exact Nat.le_refl _),if_pos hs,FL _ hfr]
theorem B2 (hok:cQ l m n=true){s:Nat}(hs:s<l.length):So (aQ l m m.length) (bQ (outs l m) s) 0 (bQ (outs l m) s).length∧(bQ (outs l m) s).Perm (VW (aQ l m m.length) s (2*m.length)):=by
 obtain⟨hM,h3,h1,h4,h5,_,_⟩:=cZ hok;rw [aGB hok hs];have hl:=MQ (aQ l m m.length) s (2*m.length);have:=aA0 (aI6 hok) (f:=1000) (L:=VW (aQ l m m.length) s (2*m.length)) (by omega) (fun i _ hi=>by
  have hm:aK (VW (aQ l m m.length) s (2*m.length)) i∈VW (aQ l m m.length) s (2*m.length):=by
   rw [cX hi];exact List.getElem_mem hi
  obtain⟨k,hk,e,_⟩:=OJ hm;rw [e];omega)
 rw [rO];exact this
theorem jS (hok:cQ l m n=true){s:Nat}(hs:s<l.length){x:Int}:x∈bQ (outs l m) s↔∃ i:Nat,i<2*m.length∧x=i∧(cA (aQ l m m.length) i).fr.toNat=s:=by
 rw [(B2 hok hs).2.mem_iff];exact⟨OJ,fun ⟨i,h1,h2,h3⟩=>by rw [h2];exact V9 h1 h3⟩
theorem zG (hok:cQ l m n=true){s:Nat}(hs:s<l.length):(bQ (outs l m) s).Nodup:=(B2 hok hs).2.symm.nodup (aBI _ _ _)
theorem xB {d:Int}{E:Nat}(h0:0≤d)(h1:d<(2*E:Nat)):0≤dY d∧dY d<(2*E:Nat):=by unfold dY;split <;> omega
theorem CO {d:Int}(h0:0≤d):dY (dY d)=d:=by unfold dY;split <;> split <;> omega
theorem BO (l:List Pt)(m:List Ed){d:Int}(h0:0≤d)(h1:d<(2*m.length:Nat)):(cA (aQ l m m.length) (dY d).toNat).fr=(cA (aQ l m m.length) d.toNat).tt∧(cA (aQ l m m.length) (dY d).toNat).tt=(cA (aQ l m m.length) d.toNat).fr∧eU (cA (aQ l m m.length) (dY d).toNat)=AK (eU (cA (aQ l m m.length) d.toNat)):=by
 obtain⟨hd1,hd2⟩:=GI l m (N:=m.length) (i:=d.toNat / 2) (by omega);unfold dY;by_cases e:d % 2=0
 ·rw [if_pos e,show (d+1).toNat=2*(d.toNat / 2)+1 by omega,show cA (aQ l m m.length) d.toNat=dA l m (d.toNat / 2) by rw [← hd1];congr 1;omega,hd2];refine⟨rfl,rfl,?_⟩;simp only [eU,dA,dB,AK,Prod.mk.injEq];omega
 rw [if_neg e,show (d - 1).toNat=2*(d.toNat / 2) by omega,show cA (aQ l m m.length) d.toNat=dB l m (d.toNat / 2) by rw [← hd2];congr 1;omega,hd1];refine⟨rfl,rfl,?_⟩;simp only [eU,dA,dB,AK,Prod.mk.injEq];omega
theorem MN {x:Int}:∀ {L:List Int} {i:Nat},x∈L→∃ k,k<L.length∧tE x L i=((i+k:Nat):Int)∧aK L k=x
 |[],i,h=>by cases h
 |b::r,i,h=>by
  unfold tE;by_cases e:x=b
  ·rw [if_pos e];exact⟨0,Nat.succ_pos _,rfl,e.symm⟩
  rw [if_neg e];rcases List.mem_cons.1 h with h|h
  ·exact absurd h e
  obtain⟨k,h1,h2,h3⟩:=MN (L:=r) (i:=i+1) h;refine⟨k+1,by simpa using h1,by rw [h2];congr 1;omega,?_⟩;rw [← h3];rfl
theorem rX (hok:cQ l m n=true){d:Int}(h0:0≤d)(h1:d<(2*m.length:Nat)):∃ (s a:Nat),s=(cA (aQ l m m.length) d.toNat).tt.toNat∧s<l.length∧VU (aQ l m m.length) (outs l m) d=bQ (outs l m) s∧a<(bQ (outs l m) s).length ∧
  tE (dY d) (bQ (outs l m) s) 0=a∧aK (bQ (outs l m) s) a=dY d∧x6 (aQ l m m.length) (outs l m) d=aK (bQ (outs l m) s) (if a=0 then (bQ (outs l m) s).length - 1 else a - 1):=by
 obtain⟨hM,h3,h5,h4,h6,_,_⟩:=cZ hok;have hf:=fC (l:=l) hM (i:=d.toNat) (by omega);have hb:=xB (E:=m.length) h0 h1;have hbd:=BO l m h0 h1;refine⟨(cA (aQ l m m.length) d.toNat).tt.toNat,?_⟩;have hs:(cA (aQ l m m.length) d.toNat).tt.toNat<l.length:=(by omega);have hmem:dY d∈bQ (outs l m) (cA (aQ l m m.length) d.toNat).tt.toNat:=(jS hok hs).2 ⟨(dY d).toNat,by omega,by omega,by rw [hbd.1]⟩;obtain⟨k,k1,k2,k3⟩:=MN (i:=0) hmem;rw [Nat.zero_add] at k2;refine⟨k,rfl,hs,rfl,k1,k2,k3,?_⟩;unfold x6 VU;rw [k2];congr 1;split
 ·rename_i e;rw [e];have:((0:Nat):Int) - 1+((bQ (outs l m) (cA (aQ l m m.length) d.toNat).tt.toNat).length:Int)=(((bQ (outs l m) (cA (aQ l m m.length) d.toNat).tt.toNat).length - 1:Nat):Int):=(by omega);rw [this,Int.emod_eq_of_lt (by omega) (by omega)];rfl
 have:(k:Int) - 1+((bQ (outs l m) (cA (aQ l m m.length) d.toNat).tt.toNat).length:Int)=((k - 1:Nat):Int)+(bQ (outs l m) (cA (aQ l m m.length) d.toNat).tt.toNat).length:=(by omega);rw [this,Int.add_emod_right,Int.emod_eq_of_lt (by omega) (by omega)];rfl
theorem at_mem {L:List Int}{i:Nat}(h:i<L.length):aK L i∈L:=by rw [cX h];exact List.getElem_mem h
theorem GR (hok:cQ l m n=true){d:Int}(h0:0≤d)(h1:d<(2*m.length:Nat)):0≤x6 (aQ l m m.length) (outs l m) d∧x6 (aQ l m m.length) (outs l m) d<(2*m.length:Nat)∧(cA (aQ l m m.length) (x6 (aQ l m m.length) (outs l m) d).toNat).fr.toNat=(cA (aQ l m m.length) d.toNat).tt.toNat:=by
 obtain⟨s,a,e1,hs,e2,ha,e3,e4,e5⟩:=rX hok h0 h1;rw [e5];have hi:(if a=0 then (bQ (outs l m) s).length - 1 else a - 1)<(bQ (outs l m) s).length:=(by split <;> omega);obtain⟨i,i1,i2,i3⟩:=(jS hok hs).1 (at_mem hi);rw [i2];exact⟨by omega,by omega,by rw [← e1];exact i3⟩
theorem BM {L:List Int}(h:L.Nodup){i j:Nat}(hi:i<L.length)(hj:j<L.length)(e:aK L i=aK L j):i=j:=by
 rw [cX hi,cX hj] at e;exact (List.getElem_inj h).1 e
theorem aKx (hok:cQ l m n=true){d d':Int}(h0:0≤d)(h1:d<(2*m.length:Nat))(h0':0≤d')(h1':d'<(2*m.length:Nat))(e:x6 (aQ l m m.length) (outs l m) d=x6 (aQ l m m.length) (outs l m) d'):d=d':=by
 have hn:=(GR hok h0 h1).2.2;have hn':=(GR hok h0' h1').2.2;obtain⟨s,a,e1,hs,e2,ha,e3,e4,e5⟩:=rX hok h0 h1;obtain⟨s',a',e1',hs',e2',ha',e3',e4',e5'⟩:=rX hok h0' h1';have hss:s=s':=(by rw [e1,e1',← hn,← hn',e]);subst hss;rw [e5,e5'] at e;have:=BM (zG hok hs) (by split <;> omega) (by split <;> omega) e;have haa:a=a':=by
  split at this <;> split at this <;> omega
 have hb:dY d=dY d':=(by rw [← e4,← e4',haa]);rw [← CO h0,hb,CO h0']
theorem aDB:∀ (n:Nat) (f:Nat→Nat),(∀ i,i≤n→f i<n)→∃ i j,i<j∧j≤n∧f i=f j
 |0,f,h=>by have:=h 0 (Nat.le_refl 0);omega
 |n+1,f,h=>by
  by_cases hc:∃ i,i≤n∧f i=f (n+1)
  ·obtain⟨i,h1,h2⟩:=hc;exact⟨i,n+1,by omega,Nat.le_refl _,h2⟩
  have hne:∀ i,i≤n→f i≠f (n+1):=fun i hi e=>hc ⟨i,hi,e⟩;obtain⟨i,j,h1,h2,h3⟩:=aDB n (fun i=>if f (n+1)<f i then f i - 1 else f i) (fun i hi=>by
   have a1:=h i (by omega);have a2:=h (n+1) (Nat.le_refl _);have a3:=hne i hi;show (if f (n+1)<f i then f i - 1 else f i)<n;split <;> omega)
  refine⟨i,j,h1,by omega,?_⟩;have a1:=hne i (by omega);have a2:=hne j h2;have h3:(if f (n+1)<f i then f i - 1 else f i)=(if f (n+1)<f j then f j - 1 else f j):=h3;split at h3 <;> split at h3 <;> omega
theorem qE (hok:cQ l m n=true){d:Int}(h0:0≤d)(h1:d<(2*m.length:Nat)):∀ i,0≤jI (aQ l m m.length) (outs l m) d i∧jI (aQ l m m.length) (outs l m) d i<(2*m.length:Nat)
 |0=>⟨h0,h1⟩
 |i+1=>by
  have ih:=qE hok h0 h1 i;have:=GR hok ih.1 ih.2;exact⟨this.1,this.2.1⟩
theorem FF (hok:cQ l m n=true){d:Int}(h0:0≤d)(h1:d<(2*m.length:Nat)):∀ (i k:Nat),jI (aQ l m m.length) (outs l m) d i=jI (aQ l m m.length) (outs l m) d (i+k)→d=jI (aQ l m m.length) (outs l m) d k
 |0,k,h=>by rw [Nat.zero_add] at h;exact h
 |i+1,k,h=>by
  refine FF hok h0 h1 i k ?_;have a:=qE hok h0 h1 i;have b:=qE hok h0 h1 (i+k);refine aKx hok a.1 a.2 b.1 b.2 ?_;rw [show i+1+k=i+k+1 by omega] at h;exact h
theorem PW (D:List Dt)(ls:List (List Int))(d:Int):∀ (k i N:Nat),i≤N→N<i+k→jI D ls d N=d→jI D ls d (HY D ls d k i)=d
 |0,i,N,h1,h2,_=>by omega
 |k+1,i,N,h1,h2,h3=>by
  unfold HY;split
  ·assumption
  rename_i h;refine PW D ls d k (i+1) N ?_ (by omega) h3;rcases Nat.lt_or_ge i N with h4|h4
  ·exact h4
  exact absurd (by rw [show i=N by omega];exact h3) h
theorem uR (hok:cQ l m n=true):aCg (aQ l m m.length) (outs l m)=true:=by
 refine List.all_eq_true.2 fun d hd=>decide_eq_true ?_;have hd:=List.mem_range.1 hd;rw [a9] at hd;obtain⟨i,j,h1,h2,h3⟩:=aDB (2*m.length) (fun i=>(jI (aQ l m m.length) (outs l m) d i).toNat) (fun i _=>by
  have:=qE hok (d:=d) (by omega) (by omega) i;show (jI (aQ l m m.length) (outs l m) d i).toNat<2*m.length;omega)
 have a:=qE hok (d:=(d:Int)) (by omega) (by omega) i;have b:=qE hok (d:=(d:Int)) (by omega) (by omega) j;have e:=FF hok (d:=(d:Int)) (by omega) (by omega) i (j - i) (by rw [show i+(j - i)=j by omega];have h3:(jI (aQ l m m.length) (outs l m) d i).toNat=(jI (aQ l m m.length) (outs l m) d j).toNat:=h3;omega);unfold gU;rw [a9];exact PW _ _ _ _ 1 (j - i) (by omega) (by omega) e.symm
theorem aN2 (hok:cQ l m n=true):J2 l (aQ l m m.length) (outs l m)=true:=by
 obtain⟨hM,h3,h5,h4,h6,_,_⟩:=cZ hok;simp only [J2,Bool.and_eq_true,decide_eq_true_eq];refine⟨⟨⟨⟨List.all_eq_true.2 fun p hp=>?_,List.all_eq_true.2 fun e he=>?_⟩,by rw [a9];omega⟩,fP l m⟩,by omega⟩
 ·obtain⟨i,hi,rfl⟩:=List.getElem_of_mem hp;have:=mD hok hi;rw [nK hi] at this;unfold wide;simp only [Bool.and_eq_true,decide_eq_true_eq];omega
 obtain⟨i,hi,rfl⟩:=List.getElem_of_mem he;rw [← qR hi];rw [a9] at hi;have:=fC (l:=l) hM hi;simp only [Bool.and_eq_true,decide_eq_true_eq];omega
theorem OL (hok:cQ l m n=true):xO l (aQ l m m.length) (outs l m)=true:=by
 obtain⟨hM,h3,h5,h4,h6,_,_⟩:=cZ hok;unfold xO;rw [aN2 hok,Bool.true_and];refine List.all_eq_true.2 fun i hi=>?_;have hi:=List.mem_range.1 hi;rw [a9] at hi;have hn:=GR hok (d:=(i:Int)) (by omega) (by omega);obtain⟨s,a,e1,hs,e2,ha,e3,e4,e5⟩:=rX hok (d:=(i:Int)) (by omega) (by omega);have hf:=fC (l:=l) hM (i:=i) hi;have hlen:(bQ (outs l m) s).length≤1000:=by
  have h7:=(B2 hok hs).2.length_eq;have h8:=MQ (aQ l m m.length) s (2*m.length);omega
 simp only [Bool.and_eq_true,decide_eq_true_eq];refine⟨?_,hn.1,by rw [a9];omega⟩;unfold nxB;rw [e2,e3,a9,fP];simp only [Bool.and_eq_true,decide_eq_true_eq,Int.toNat_natCast];omega
theorem aL4 (hok:cQ l m n=true):aBb (aQ l m m.length) (outs l m)=true:=by
 obtain⟨hM,h3,h5,h4,h6,_,_⟩:=cZ hok;refine List.all_eq_true.2 fun L hL=>?_;obtain⟨s,hs,rfl⟩:=List.getElem_of_mem hL;have hs':=hs;rw [fP] at hs';have e:(outs l m)[s]=bQ (outs l m) s:=by
  unfold bQ;rw [List.getD_eq_getElem?_getD,List.getElem?_eq_getElem hs];rfl
 rw [e];have h7:=(B2 hok hs').2.length_eq;have h8:=MQ (aQ l m m.length) s (2*m.length);have h9:=ZP hok hs';simp only [Bool.and_eq_true,decide_eq_true_eq];refine⟨⟨by omega,by omega⟩,List.all_eq_true.2 fun x hx=>?_⟩;obtain⟨i,i1,i2,_⟩:=(jS hok hs').1 hx;simp only [Bool.and_eq_true,decide_eq_true_eq,a9];omega
end
set_option maxHeartbeats 2000000
theorem CS (n:Nat):∀ {h:Heap},iX h=true→iX (oD n h)=true
 |[],_=>rfl
 |(k,o)::r,h=>by
  simp only [iX,Bool.and_eq_true] at h;simp only [oD,iX,Bool.and_eq_true];refine⟨?_,CS n h.2⟩;cases o with
  |cells wr g sz cs=>rfl
  |_=>exact h.1
def aOv:Nat × XF:=(35,fun args h nx K=>∃ l m n p q,args=[mapA p q n]∧jG bC h p l∧jG bL h q m∧(l.length≤1000∧m.length≤1000) ∧
 ((a8 l m n=true∧K (.tuple #[.pointer (some ⟨nx+7,0,none⟩),iv 0]) (app (oD nx (hF0 l m (qU p) (qU q) n)) (eP h)) (nx+2004))∨(a8 l m n=false∧K (.tuple #[.pointer none,iv 1]) h nx)))
theorem aR3:cO Go.Proofs.Tryz.prog aOv.1 aOv.2:=by
 refine (gO (S:=fun args0 h0 n0 v1 h1 j=>∃ l m n c1 c2,(l.length≤1000∧m.length≤1000)∧args0=[kI l.length m.length c1 c2 n]∧h0=aL bC bL l m∧n0=2 ∧
  ((a8 l m n=true∧v1=.tuple #[.pointer (some ⟨7,0,none⟩),iv 0]∧h1=hF0 l m c1 c2 n∧j=2004)∨(a8 l m n=false∧v1=.tuple #[.pointer none,iv 1]∧h1=[]∧j=0))) (aH (xl:=[X8,OR,XJ,X6,YB,(83,aLT)]) (.cons aND (.cons aIl (.cons aJ4 (.cons aOC (.cons aMW (.cons aMX .nil))))))) ?_).mono ?_ ?_
 ·rintro args0 h0 n0 v1 h1 j ⟨l,m,n,c1,c2,⟨hl,hm⟩,rfl,rfl,rfl,hc⟩;have hw:=w69 l m n c1 c2 hl hm fun hok=>⟨OL hok,uR hok,aL4 hok,(cZ hok).2.2.1⟩;rcases hc with ⟨ho,rfl,rfl,rfl⟩|⟨ho,rfl,rfl,rfl⟩
  ·refine⟨CS 3 tL,_,hw,fun v h nx e=>?_⟩;rcases e with ⟨_,e⟩|⟨e,_⟩
   ·exact e
   rw [ho] at e;cases e
  refine⟨rfl,_,hw,fun v h nx e=>?_⟩;rcases e with ⟨e,_⟩|⟨_,rfl⟩
  ·rw [ho] at e;cases e
  exact lA rfl
 ·rintro args h nx K ⟨l,m,n,p,q,rfl,hl,hm,hlm,hx⟩;rcases hx with ⟨ho,hx⟩|⟨ho,hx⟩
  ·refine⟨_,_,2,_,_,_,⟨l,m,n,qU p,qU q,hlm,rfl,rfl,rfl,.inl ⟨ho,rfl,rfl,rfl⟩⟩,OA bC bL rfl hl hm,?_⟩;have e:iM (fun k=>nx+k) (.tuple #[.pointer (some ⟨7,0,none⟩),iv 0])=.tuple #[.pointer (some ⟨nx+7,0,none⟩),iv 0]:=(by simp [iM,tr,eM,cC,eN,kV];rfl);rw [e];exact hx
  refine⟨_,_,2,_,[],0,⟨l,m,n,qU p,qU q,hlm,rfl,rfl,rfl,.inr ⟨ho,rfl,rfl,rfl⟩⟩,OA bC bL rfl hl hm,?_⟩;simp only [pT,uG,oD,lY,Nat.add_zero];rw [gE rfl];exact hx
 rintro args h nx K ⟨l,m,n,p,q,rfl,hl,hm,hlm,hx⟩;rcases hx with ⟨ho,hx⟩|⟨ho,hx⟩
 ·exact⟨_,_,_,hx,fun K' hk=>⟨l,m,n,p,q,rfl,hl,hm,hlm,.inl ⟨ho,hk⟩⟩⟩
 exact⟨_,_,_,hx,fun K' hk=>⟨l,m,n,p,q,rfl,hl,hm,hlm,.inr ⟨ho,hk⟩⟩⟩
def vR (p q:Pt):V2:=(p.1 - q.1,p.2 - q.2)
theorem JS (v a b:Pt):aP v a b=cr (vR a v) (vR b v):=rfl
theorem vX {a b:Pt}(h:eO a b=true):kN a b = -1:=by
 rw [BF] at h;have h:=of_decide_eq_true h;rcases zV a b with e|e|e <;> omega
theorem QE (a:Pt):kN a a=0:=by
 unfold kN orI iO;simp
theorem xI {s:Sg}(h:eO s.1 s.2=true):bM s=s:=by
 have:=vX h;unfold bM;rw [this];simp
theorem aGm (a b:Pt):aP a b a=0:=by unfold aP;simp
theorem ZZ (a b:Pt):aP a b b=0:=by unfold aP;rw [Int.mul_comm];omega
theorem W4 {s t:Sg}(h1:dL s=true)(h2:dL t=true)(l1:eO s.1 s.2=true)(l2:eO t.1 t.2=true)(e:s.1=t.1)(hc:aP s.1 s.2 t.2=0):fF s t=4:=by
 unfold fF;rw [if_pos ⟨h1,h2⟩];unfold gV aV;rw [hc,← e,aGm];rw [if_pos ⟨rfl,rfl⟩];unfold HR vW;rw [xI l1,xI l2,← e,QE,if_neg (by omega)];split
 ·rw [e,vX l2];rfl
 rw [vX l1];rfl
theorem YQ {s t:Sg}(h1:dL s=true)(h2:dL t=true)(l1:eO s.1 s.2=true)(l2:eO t.1 t.2=true)(e:s.2=t.2)(hc:aP s.1 s.2 t.1=0):fF s t=4:=by
 unfold fF;rw [if_pos ⟨h1,h2⟩];unfold gV aV;rw [hc,← e,ZZ];rw [if_pos ⟨rfl,rfl⟩];unfold HR vW;rw [xI l1,xI l2,show kN t.2 s.2=0 by rw [← e];exact QE _,if_neg (c:=(0:Int)<0) (by omega)];split
 ·rw [e,vX l2];rfl
 rw [vX l1];rfl
section
variable {l:List Pt}{m:List Ed}{n:Int}
theorem lS (hok:cQ l m n=true){i:Nat}(hi:i<m.length):dL (aS l m i)=true∧eO (aS l m i).1 (aS l m i).2=true:=by
 obtain⟨h1,h2,h3⟩:=qV hok hi;have h4:=IL hok (i:=(bO m i).a.toNat) (j:=(bO m i).b.toNat) (by omega) (by omega);have pa:=mD hok (i:=(bO m i).a.toNat) (by omega);have pb:=mD hok (i:=(bO m i).b.toNat) (by omega);refine⟨?_,h4⟩;unfold dL aM;have hne:kD (aS l m i).1 (aS l m i).2=false:=by
  rw [jO];intro e;have h4:eO (aS l m i).1 (aS l m i).2=true:=h4;rw [e] at h4;simp [eO] at h4
 rw [hne];simp only [Bool.and_eq_true,decide_eq_true_eq,Bool.not_false,and_true];simp only [aS,eF];omega
theorem aFj (hp:eK l m n=true){i k:Nat}(hi:i<m.length)(hk:k<m.length)(hne:i≠k):fF (aS l m i) (aS l m k)≠4∨fF (aS l m k) (aS l m i)≠4:=by
 simp only [eK,Bool.and_eq_true] at hp;rcases Nat.lt_or_ge k i with h|h
 ·have:=eG (f:=fun k=>zP l m i k) (eG (f:=fun i=>nM (fun k=>zP l m i k) i) hp.2 hi) h;simp only [zP,Bool.or_eq_true,decide_eq_true_eq] at this;exact .inl (by omega)
 have:=eG (f:=fun i=>zP l m k i) (eG (f:=fun i=>nM (fun k=>zP l m i k) i) hp.2 hk) (show i<k by omega);simp only [zP,Bool.or_eq_true,decide_eq_true_eq] at this;exact .inr (by omega)
theorem y5 (l:List Pt)(m:List Ed){i:Nat}(hi:i<2*m.length):eU (cA (aQ l m m.length) i)=vR (eF l (cA (aQ l m m.length) i).tt) (eF l (cA (aQ l m m.length) i).fr):=by
 rcases kR (l:=l) (m:=m) hi with ⟨e,h⟩|⟨e,h⟩
 ·rw [h];rfl
 rw [h];rfl
theorem YT {a b:V2}(h:ray a b):(0<a.1∨a.1=0∧0<a.2)→¬ (b.1<0∨b.1=0∧b.2<0):=by
 obtain⟨h1,h2⟩:=h;unfold cr at h1;unfold dt at h2;rintro h3 h4;rcases h3 with h3|⟨h3,h3'⟩
 ·rcases h4 with h4|⟨h4,h4'⟩
  ·-- b=(b1/a1) a,so that both products are negative
   have k1:a.1*b.1<0:=Int.mul_neg_of_pos_of_neg h3 h4;have k2:a.1*(a.2*b.2)=a.2*a.2*b.1:=by
    have:a.1*b.2=a.2*b.1:=(by omega);rw [Int.mul_left_comm,this,← Int.mul_assoc]
   have k3:a.2*a.2*b.1≤0:=Int.mul_nonpos_of_nonneg_of_nonpos (sq0 a.2) (Int.le_of_lt h4);have k4:0<a.2*b.2:=(by omega);have k5:=Int.mul_pos h3 k4;omega
  rw [h4] at h1 h2;have:a.1*b.2<0:=Int.mul_neg_of_pos_of_neg h3 h4';simp only [Int.mul_zero] at h1;omega
 rw [h3] at h1 h2;rcases h4 with h4|⟨h4,h4'⟩
 ·have:a.2*b.1<0:=Int.mul_neg_of_pos_of_neg h3' h4;simp only [Int.zero_mul] at h1;omega
 have:a.2*b.2<0:=Int.mul_neg_of_pos_of_neg h3' h4';simp only [Int.zero_mul] at h2;omega
theorem ZV (hok:cQ l m n=true){i:Nat}(hi:i<2*m.length):(i % 2=0→0<(eU (cA (aQ l m m.length) i)).1∨(eU (cA (aQ l m m.length) i)).1=0∧0<(eU (cA (aQ l m m.length) i)).2)∧(i % 2=1→(eU (cA (aQ l m m.length) i)).1<0∨(eU (cA (aQ l m m.length) i)).1=0∧(eU (cA (aQ l m m.length) i)).2<0):=by
 have h4:=(lS hok (i:=i / 2) (by omega)).2;unfold eO at h4;simp only [Bool.or_eq_true,Bool.and_eq_true,decide_eq_true_eq] at h4;simp only [aS] at h4;rcases kR (l:=l) (m:=m) hi with ⟨e,h⟩|⟨e,h⟩
 ·rw [h];simp only [eU,dA];omega
 rw [h];simp only [eU,dB];omega
theorem M5 {a b:V2}(h:ray a b):ray b a:=by
 obtain⟨h1,h2⟩:=h;refine⟨by rw [fT];omega,?_⟩;unfold dt at *;rw [Int.mul_comm b.1,Int.mul_comm b.2];exact h2
theorem aGU (hp:eK l m n=true){i k:Nat}(hi:i<2*m.length)(hk:k<2*m.length)(hf:(cA (aQ l m m.length) i).fr=(cA (aQ l m m.length) k).fr)(hr:ray (eU (cA (aQ l m m.length) i)) (eU (cA (aQ l m m.length) k))):i=k:=by
 have hok:=cU hp;have x1:=ZV hok hi;have x2:=ZV hok hk;have r1:=YT hr;have r2:=YT (M5 hr);obtain⟨o1,o2⟩:=lS hok (i:=i / 2) (by omega);obtain⟨o3,o4⟩:=lS hok (i:=k / 2) (by omega);have par:i % 2=k % 2:=by
  rcases Nat.mod_two_eq_zero_or_one i with e|e <;> rcases Nat.mod_two_eq_zero_or_one k with e'|e'
  ·omega
  ·exact absurd (x2.2 e') (r1 (x1.1 e))
  ·exact absurd (x1.2 e) (r2 (x2.1 e'))
  omega
 by_cases he:i / 2=k / 2
 ·omega
 exfalso;have hm:=aFj hp (i:=i / 2) (k:=k / 2) (by omega) (by omega) he;have d1:=y5 l m hi;have d2:=y5 l m hk;rcases kR (l:=l) (m:=m) hi with ⟨e,h⟩|⟨e,h⟩ <;> rcases kR (l:=l) (m:=m) hk with ⟨e',h'⟩|⟨e',h'⟩
 ·rw [h,h'] at hf hr;have hv:(aS l m (i / 2)).1=(aS l m (k / 2)).1:=(by show eF l _=eF l _;exact congrArg (eF l) hf);have hc:aP (aS l m (i / 2)).1 (aS l m (i / 2)).2 (aS l m (k / 2)).2=0:=by
   rw [JS];have:=hr.1;rw [show vR (aS l m (k / 2)).2 (aS l m (i / 2)).1=eU (dA l m (k / 2)) by rw [hv];rfl];exact this
  have hc':aP (aS l m (k / 2)).1 (aS l m (k / 2)).2 (aS l m (i / 2)).2=0:=by
   rw [JS];have:=(M5 hr).1;rw [show vR (aS l m (i / 2)).2 (aS l m (k / 2)).1=eU (dA l m (i / 2)) by rw [← hv];rfl];exact this
  rcases hm with hm|hm
  ·exact hm (W4 o1 o3 o2 o4 hv hc)
  exact hm (W4 o3 o1 o4 o2 hv.symm hc')
 ·omega
 ·omega
 rw [h,h'] at hf hr;have hv:(aS l m (i / 2)).2=(aS l m (k / 2)).2:=(by show eF l _=eF l _;exact congrArg (eF l) hf);have key:∀ (v a b:Pt),cr (vR a v) (vR b v)=0→aP a v b=0:=fun v a b hh=>by
  unfold cr vR at hh;unfold aP;simp only [Int.mul_sub,Int.sub_mul] at *;rw [Int.mul_comm v.2 v.1,Int.mul_comm v.2 b.1,Int.mul_comm v.2 a.1] at *;rw [Int.mul_comm a.2 b.1] at *;rw [Int.mul_comm a.2 v.1] at *;rw [Int.mul_comm a.2 a.1] at *;omega
 have hc:aP (aS l m (i / 2)).1 (aS l m (i / 2)).2 (aS l m (k / 2)).1=0:=by
  refine key _ _ _ ?_;have:=hr.1;rw [show vR (aS l m (k / 2)).1 (aS l m (i / 2)).2=eU (dB l m (k / 2)) by rw [hv];rfl];exact this
 have hc':aP (aS l m (k / 2)).1 (aS l m (k / 2)).2 (aS l m (i / 2)).1=0:=by
  refine key _ _ _ ?_;have:=(M5 hr).1;rw [show vR (aS l m (i / 2)).1 (aS l m (k / 2)).2=eU (dB l m (i / 2)) by rw [← hv];rfl];exact this
 rcases hm with hm|hm
 ·exact hm (YQ o1 o3 o2 o4 hv hc)
 exact hm (YQ o3 o1 o4 o2 hv.symm hc')
end
theorem Q2 (v u w x:Pt):rR v u w x=true↔DG (vR u v) (vR w v) (vR x v):=by
 have h1:∀ a b,D7 v a b=rk (vR a v) (vR b v):=fun a b=>rfl;unfold rR DG;rw [h1,h1,JS];split
 ·rename_i e;rw [decide_eq_true_iff];constructor
  ·exact fun h=>.inr ⟨e,h⟩
  rintro (h|⟨_,h⟩)
  ·omega
  exact h
 rename_i e;rw [decide_eq_true_iff];constructor
 ·exact fun h=>.inl h
 rintro (h|⟨h,_⟩)
 ·exact h
 exact absurd h e
section
variable {l:List Pt}{m:List Ed}{n:Int}
abbrev CH (l:List Pt)(m:List Ed)(x:Int):V2:=eU (cA (aQ l m m.length) x.toNat)
theorem aEX (hp:eK l m n=true){s:Nat}(hs:s<l.length){i j:Nat}(hij:i<j)(hj:j<(bQ (outs l m) s).length):zO (CH l m (aK (bQ (outs l m) s) i)) (CH l m (aK (bQ (outs l m) s) j)):=by
 have hok:=cU hp;have hso:=(B2 hok hs).1 i j (Nat.zero_le _) hij hj;obtain⟨a,a1,a2,a3⟩:=(jS hok hs).1 (at_mem (show i<(bQ (outs l m) s).length by omega));obtain⟨b,b1,b2,b3⟩:=(jS hok hs).1 (at_mem hj);have hne:a≠b:=fun e=>by
  have:=BM (zG hok hs) (show i<_ by omega) hj (by rw [a2,b2,e]);omega
 have hM:=(cZ hok).1;have fa:=fC (l:=l) hM a1;have fb:=fC (l:=l) hM b1;have na:=CD hok a1;have nb:=CD hok b1;unfold zS at hso;rw [a2,b2] at hso ⊢;show zO (eU (cA (aQ l m m.length) ((a:Int)).toNat)) (eU (cA (aQ l m m.length) ((b:Int)).toNat));rw [Int.toNat_natCast,Int.toNat_natCast];rcases aBp na nb (fun hr=>hne (aGU hp a1 b1 (by omega) hr)) with h|h
 ·exact h
 exfalso;rw [(wK _ _ _).2 (by rw [Int.toNat_natCast,Int.toNat_natCast];exact h)] at hso;cases hso
theorem aA8 (hp:eK l m n=true){d:Int}(h0:0≤d)(h1:d<(2*m.length:Nat)){x:Nat}(hx:x<2*m.length)(hfx:(cA (aQ l m m.length) x).fr=(cA (aQ l m m.length) d.toNat).tt)(hne:(x:Int)≠x6 (aQ l m m.length) (outs l m) d) :
  DG (CH l m (dY d)) (CH l m (x6 (aQ l m m.length) (outs l m) d)) (CH l m x):=by
 have hok:=cU hp;obtain⟨s,a,e1,hs,e2,ha,e3,e4,e5⟩:=rX hok h0 h1;have hb:=xB (E:=m.length) h0 h1;have hmem:(x:Int)∈bQ (outs l m) s:=(jS hok hs).2 ⟨x,hx,rfl,by rw [hfx,e1]⟩;obtain⟨q,hq,hqe⟩:=List.getElem_of_mem hmem;rw [← cX hq] at hqe;have hord:∀ {i j:Nat},i<j→j<(bQ (outs l m) s).length→zO (CH l m (aK (bQ (outs l m) s) i)) (CH l m (aK (bQ (outs l m) s) j)):=fun hij hj=>aEX hp hs hij hj;have hnz:∀ {i:Nat},i<(bQ (outs l m) s).length→nz (CH l m (aK (bQ (outs l m) s) i)):=fun {i} hi=>by
  obtain⟨c,c1,c2,_⟩:=(jS hok hs).1 (at_mem hi);rw [c2];show nz (eU (cA (aQ l m m.length) ((c:Int)).toNat));rw [Int.toNat_natCast];exact CD hok c1
 rw [e5] at hne ⊢;rw [← e4,← hqe];rw [← hqe] at hne;generalize bQ (outs l m) s=L at *;by_cases ha0:a=0
 ·rw [if_pos ha0] at hne ⊢;have hqn:q≠L.length - 1:=fun e=>hne (by rw [e]);subst ha0;by_cases hq0:q=0
  ·rw [hq0];exact L5 (hnz ha) (hnz (by omega)) (.inl (hord (by omega) (by omega)))
  exact three (hnz ha) (hnz (by omega)) (hnz hq) (.inl ⟨hord (by omega) hq,hord (by omega) (by omega),hord (by omega) (by omega)⟩)
 rw [if_neg ha0] at hne ⊢;have hqn:q≠a - 1:=fun e=>hne (by rw [e]);by_cases hqa:q=a
 ·rw [hqa];exact L5 (hnz ha) (hnz (by omega)) (.inr (hord (by omega) ha))
 ·rcases Nat.lt_or_ge q a with h|h
  ·exact three (hnz ha) (hnz (by omega)) (hnz hq) (.inr (.inr ⟨hord (by omega) (by omega),hord (by omega) ha,hord (by omega) ha⟩))
  exact three (hnz ha) (hnz (by omega)) (hnz hq) (.inr (.inl ⟨hord (by omega) ha,hord (by omega) hq,hord (by omega) hq⟩))
theorem FA (l:List Pt)(m:List Ed){d:Int}(h0:0≤d)(h1:d<(2*m.length:Nat)):bR m d=(cA (aQ l m m.length) d.toNat).fr∧gH m d=(cA (aQ l m m.length) d.toNat).tt:=by
 have key:∀ {e:Int},0≤e→e<(2*m.length:Nat)→bR m e=(cA (aQ l m m.length) e.toNat).fr:=fun {e} he0 he1=>by
  unfold bR;rcases kR (l:=l) (m:=m) (N:=m.length) (i:=e.toNat) (by omega) with ⟨x,h⟩|⟨x,h⟩
  ·rw [h,if_pos (by omega),show (e / 2).toNat=e.toNat / 2 by omega];rfl
  rw [h,if_neg (by omega),show (e / 2).toNat=e.toNat / 2 by omega];rfl
 refine⟨key h0 h1,?_⟩;have hb:=xB (E:=m.length) h0 h1;unfold gH;rw [show d+1 - 2*(d % 2)=dY d by unfold dY;split <;> omega,key hb.1 hb.2];exact (BO l m h0 h1).1
theorem aDT (hp:eK l m n=true){d:Int}(h0:0≤d)(h1:d<(2*m.length:Nat)){k:List Bool}(hk:∀ i,i<2*m.length→cV k i=true):gQ l m k d (2*m.length)=x6 (aQ l m m.length) (outs l m) d:=by
 have hok:=cU hp;have hM:=(cZ hok).1;have hn:=GR hok h0 h1;have hfd:=FA l m h0 h1;have hbd:=BO l m h0 h1;have hb:=xB (E:=m.length) h0 h1;have hfr:=fC (l:=l) hM (i:=d.toNat) (by omega);obtain⟨Y,hY⟩:∃ Y:Nat,x6 (aQ l m m.length) (outs l m) d=Y:=⟨(x6 (aQ l m m.length) (outs l m) d).toNat,by omega⟩;have hYl:Y<2*m.length:=(by omega);have hYf:=fC (l:=l) hM hYl;have hfY:(cA (aQ l m m.length) Y).fr=(cA (aQ l m m.length) d.toNat).tt:=by
  have:=hn.2.2;rw [hY,Int.toNat_natCast] at this;omega
 -- a dart's direction from the point
 have hv:∀ {x:Nat},x<2*m.length→(cA (aQ l m m.length) x).fr=(cA (aQ l m m.length) d.toNat).tt→vR (eF l (gH m x)) (eF l (gH m d))=CH l m x:=fun {x} hx hf=>by
  have e:=FA l m (d:=(x:Int)) (by omega) (by omega);have e2:=y5 l m hx;rw [hf] at e2;show _=eU (cA (aQ l m m.length) ((x:Int)).toNat);rw [Int.toNat_natCast,e2,e.2,hfd.2,Int.toNat_natCast]
 have hu:vR (eF l (bR m d)) (eF l (gH m d))=CH l m (dY d):=by
  have e2:=y5 l m (i:=(dY d).toNat) (by omega);rw [hbd.1,hbd.2.1] at e2;rw [hfd.1,hfd.2];exact e2.symm
 have hc:∀ {x:Nat},x<2*m.length→(bR m x=gH m d↔(cA (aQ l m m.length) x).fr=(cA (aQ l m m.length) d.toNat).tt):=fun {x} hx=>by
  rw [(FA l m (d:=(x:Int)) (by omega) (by omega)).1,hfd.2,Int.toNat_natCast]
 have hsoon:∀ {x:Nat},x<2*m.length→(cA (aQ l m m.length) x).fr=(cA (aQ l m m.length) d.toNat).tt→x≠Y→rR (eF l (gH m d)) (eF l (bR m d)) (eF l (gH m Y)) (eF l (gH m x))=true∧rR (eF l (gH m d)) (eF l (bR m d)) (eF l (gH m x)) (eF l (gH m Y))=false:=fun {x} hx hf hne=>by
  have h:=aA8 hp h0 h1 hx hf (by rw [hY];omega);rw [hY] at h;refine⟨(Q2 _ _ _ _).2 (by rw [hu,hv hYl hfY,hv hx hf];exact h),?_⟩;cases hq:rR (eF l (gH m d)) (eF l (bR m d)) (eF l (gH m x)) (eF l (gH m Y)) with
  |false=>rfl
  |true =>
   have:=(Q2 _ _ _ _).1 hq;rw [hu,hv hYl hfY,hv hx hf] at this;exact absurd this (zH h)
 have key:∀ j,j≤2*m.length→(Y<j→gQ l m k d j=Y)∧(j≤Y→gQ l m k d j = -1∨∃ c:Nat,c<j∧gQ l m k d j=c∧(cA (aQ l m m.length) c).fr=(cA (aQ l m m.length) d.toNat).tt):=by
  intro j
  induction j with
  |zero=>exact fun _=>⟨fun h=>by omega,fun _=>.inl rfl⟩
  |succ j ih =>
   intro hj;obtain⟨i1,i2⟩:=ih (by omega);rcases Nat.lt_trichotomy j Y with h|h|h
   ·refine⟨fun h'=>by omega,fun _=>?_⟩;unfold gQ;split
    ·rename_i hc';exact .inr ⟨j,Nat.lt_succ_self j,rfl,(hc (by omega)).1 hc'.1.2⟩
    ·rcases i2 (by omega) with e|⟨c,c1,c2,c3⟩
     ·exact .inl e
     exact .inr ⟨c,by omega,c2,c3⟩
   ·subst h;refine⟨fun _=>?_,fun h'=>by omega⟩;refine aJM ⟨⟨hk j hYl,(hc hYl).2 hfY⟩,?_⟩;rcases i2 (Nat.le_refl _) with e|⟨c,c1,c2,c3⟩
    ·exact .inl (by omega)
    rw [c2];exact .inr (hsoon (by omega) c3 (by omega)).1
   refine⟨fun _=>?_,fun h'=>by omega⟩;rw [aFW (fun hh=>?_),i1 h];obtain⟨⟨_,q1⟩,q2⟩:=hh;rw [i1 h] at q2;rcases q2 with q2|q2
   ·omega
   rw [(hsoon (by omega) ((hc (by omega)).1 q1) (by omega)).2] at q2;cases q2
 rw [(key _ (Nat.le_refl _)).1 hYl,hY]
end
theorem oL (of w:List Int)(fc:Int)(hw:∀ t,t<w.length→(aK w t).toNat<of.length)(i:Nat):∀ k,k≤w.length→((∃ t,t<k∧(aK w t).toNat=i)→aK (dV of w fc k) i=fc)∧((¬ ∃ t,t<k∧(aK w t).toNat=i)→aK (dV of w fc k) i=aK of i)
 |0,_=>⟨fun ⟨t,h,_⟩=>by omega,fun _=>rfl⟩
 |k+1,hk=>by
  obtain⟨i1,i2⟩:=oL of w fc hw i k (by omega);have hs:=UU (dV of w fc k) (aK w k).toNat fc i (by rw [fR];exact hw k (by omega));unfold dV;rw [hs];by_cases e:i=(aK w k).toNat
  ·rw [if_pos e];exact⟨fun _=>rfl,fun h=>absurd ⟨k,Nat.lt_succ_self k,e.symm⟩ h⟩
  rw [if_neg e];refine⟨fun ⟨t,h1,h2⟩=>i1 ⟨t,?_,h2⟩,fun h=>i2 fun ⟨t,h1,h2⟩=>h ⟨t,by omega,h2⟩⟩;rcases Nat.lt_or_ge t k with h|h
  ·exact h
  exact absurd (by rw [← h2,show t=k by omega]) e
theorem oK (L:List Bool)(x:Nat)(v:Bool)(i:Nat)(hx:x<L.length):cV (L.set x v) i=if i=x then v else cV L i:=by
 unfold cV;rw [List.getD_eq_getElem?_getD,List.getD_eq_getElem?_getD,List.getElem?_set];by_cases h:x=i
 ·subst h;simp [hx]
 rw [if_neg h,if_neg (fun e=>h e.symm)]
theorem oM (s:List Bool)(w:List Int)(hw:∀ t,t<w.length→(aK w t).toNat<s.length)(i:Nat):∀ k,k≤w.length→((∃ t,t<k∧(aK w t).toNat=i)→cV (fW s w k) i=true)∧((¬ ∃ t,t<k∧(aK w t).toNat=i)→cV (fW s w k) i=cV s i)
 |0,_=>⟨fun ⟨t,h,_⟩=>by omega,fun _=>rfl⟩
 |k+1,hk=>by
  obtain⟨i1,i2⟩:=oM s w hw i k (by omega);have hs:=oK (fW s w k) (aK w k).toNat true i (by rw [lW];exact hw k (by omega));unfold fW;rw [hs];by_cases e:i=(aK w k).toNat
  ·rw [if_pos e];exact⟨fun _=>rfl,fun h=>absurd ⟨k,Nat.lt_succ_self k,e.symm⟩ h⟩
  rw [if_neg e];refine⟨fun ⟨t,h1,h2⟩=>i1 ⟨t,?_,h2⟩,fun h=>i2 fun ⟨t,h1,h2⟩=>h ⟨t,by omega,h2⟩⟩;rcases Nat.lt_or_ge t k with h|h
  ·exact h
  exact absurd (by rw [← h2,show t=k by omega]) e
theorem aAa {f:Int→Int}{d:Int}{N T:Nat}:∀ {k i:Nat},i≤T→T≤i+k→(∀ t,i≤t→t<T→nY f d N t=true)→nY f d N T=false→vY f d N k i=T
 |0,i,h1,h2,_,_=>by unfold vY;omega
 |k+1,i,h1,h2,h3,h4=>by
  unfold vY;by_cases e:i=T
  ·rw [e,h4];rfl
  rw [h3 i (Nat.le_refl _) (by omega),if_pos rfl];exact aAa (by omega) (by omega) (fun t a b=>h3 t (by omega) b) h4
section
variable {l:List Pt}{m:List Ed}{n:Int}
theorem aFd {E i:Nat}(h:i<E):cV (List.replicate E true) i=true:=by
 unfold cV;rw [List.getD_eq_getElem?_getD,List.getElem?_replicate,if_pos h];rfl
theorem QP (hp:eK l m n=true){d:Nat}(hd:d<2*m.length):kA l m (List.replicate (2*m.length) true) d=j8 (aQ l m m.length) (outs l m) d:=by
 have hok:=cU hp;have hin:=qE hok (d:=(d:Int)) (by omega) (by omega);have hx:∀ i,qL (IW l m (List.replicate (2*m.length) true)) d i=jI (aQ l m m.length) (outs l m) d (i+1):=by
  intro i
  induction i with
  |zero=>exact aDT hp (by omega) (by omega) (fun i hi=>aFd hi)
  |succ i ih =>
   unfold qL;rw [ih];have:=hin (i+1);exact aDT hp this.1 this.2 (fun i hi=>aFd hi)
 have hw:=List.all_eq_true.1 (uR hok) d (List.mem_range.2 (by rw [a9];exact hd));have hw:=of_decide_eq_true hw;obtain⟨p1,p2,p3⟩:=gI (aQ l m m.length) (outs l m) d (aQ l m m.length).length 1;unfold j8;unfold gU at hw ⊢;generalize HY (aQ l m m.length) (outs l m) d (aQ l m m.length).length 1=T at *;rw [a9] at p2;have hN:vY (IW l m (List.replicate (2*m.length) true)) d (2*m.length) (2*m.length+2) 0=T - 1:=by
  refine aAa (Nat.zero_le _) (by omega) (fun t _ ht=>?_) ?_
  ·unfold nY;rw [hx];have a:=hin (t+1);have b:=p3 (t+1) (by omega) (by omega);rw [decide_eq_false b,decide_eq_true a.1,decide_eq_true (show t≤2*m.length by omega)];rfl
  unfold nY;rw [hx,show T - 1+1=T by omega,hw,decide_eq_true rfl];rfl
 unfold kA;rw [hN];unfold E7;apply List.ext_getElem?;intro i;cases i with
 |zero =>
  rw [List.getElem?_cons_zero,List.getElem?_map,List.getElem?_range (by omega)];rfl
 |succ i =>
  rw [List.getElem?_cons_succ,List.getElem?_map,List.getElem?_map];by_cases h:i<T - 1
  ·rw [List.getElem?_range h,List.getElem?_range (by omega)];simp only [Option.map_some];rw [hx]
  rw [List.getElem?_eq_none (by rw [List.length_range];omega),List.getElem?_eq_none (by rw [List.length_range];omega)];rfl
theorem PF (l:List Pt)(m:List Ed){w:List Int}(hw:inR (aQ l m m.length) w=true):∀ k,k≤w.length→nZ l m w k=B8 l (aQ l m m.length) w k
 |0,_=>rfl
 |k+1,h=>by
  unfold nZ B8;rw [PF l m hw k (by omega)];have hk:=s9 hw (i:=k) (by omega);rw [a9] at hk;have:=FA l m hk.1 (by omega);unfold SD M9 eF;rw [this.1,this.2]
structure Fre (m:List Ed) (s:Fst) (t:OP):Prop where
 len:s.of.length=2*m.length
 seen:t.seen.length=2*m.length
 face:t.face.length=2*m.length
 of:∀ i,i<2*m.length→(cV t.seen i=true∧0≤aK s.of i∧aK s.of i=aK t.face i)∨(cV t.seen i=false∧aK s.of i<0)
 many:s.faces=t.many
 low:0≤t.many
 out:s.outside=t.out
 ok:s.ok=!t.flat
theorem aDH (hp:eK l m n=true){s:Fst}{t:OP}(h:Fre m s t){d:Nat}(hd:d<2*m.length):Fre m (qS l m s d) (iY l (aQ l m m.length) (outs l m) t d)∧cV (iY l (aQ l m m.length) (outs l m) t d).seen d=true∧∀ i,cV t.seen i=true→i<2*m.length→cV (iY l (aQ l m m.length) (outs l m) t d).seen i=true:=by
 have hok:=cU hp;unfold qS iY;rcases h.of d hd with ⟨h1,h2,h3⟩|⟨h1,h2⟩
 ·rw [if_pos h2,if_pos h1];exact⟨h,h1,fun i hi _=>hi⟩
 rw [if_neg (by omega),if_neg (by rw [h1];decide)];simp only;rw [QP hp hd];have w:=TZ (l:=l) (OL hok) (d:=d) (by rw [a9];exact hd);have hfirst:aK (j8 (aQ l m m.length) (outs l m) d) 0=d:=by
  unfold j8;unfold aK;rw [List.getD_eq_getElem?_getD,List.getElem?_map,List.getElem?_range (by
   have:=(gI (aQ l m m.length) (outs l m) d (aQ l m m.length).length 1).1;unfold gU;omega)]
  rfl
 generalize j8 (aQ l m m.length) (outs l m) d=W at w hfirst ⊢;rw [PF l m w.1 _ (Nat.le_refl _),h.many,h.out,h.ok];generalize B8 l (aQ l m m.length) W W.length=A;have hr:∀ t,t<W.length→(aK W t).toNat<2*m.length:=fun t ht=>by
  have:=s9 w.1 (i:=t) ht;rw [a9] at this;omega
 have hset:∀ fc:Int,0≤fc→∀ i,i<2*m.length→(cV (fW t.seen W W.length) i=true∧0≤aK (dV s.of W fc W.length) i∧aK (dV s.of W fc W.length) i=aK (dV t.face W fc W.length) i)∨(cV (fW t.seen W W.length) i=false∧aK (dV s.of W fc W.length) i<0):=fun fc hfc i hi=>by
  obtain⟨a1,a2⟩:=oL s.of W fc (by rw [h.len];exact hr) i _ (Nat.le_refl _);obtain⟨b1,b2⟩:=oL t.face W fc (by rw [h.face];exact hr) i _ (Nat.le_refl _);obtain⟨c1,c2⟩:=oM t.seen W (by rw [h.seen];exact hr) i _ (Nat.le_refl _);by_cases e:∃ k,k<W.length∧(aK W k).toNat=i
  ·rw [a1 e,b1 e,c1 e];exact .inl ⟨rfl,hfc,rfl⟩
  rw [a2 e,b2 e,c2 e];exact h.of i hi
 refine⟨⟨by rw [fR];exact h.len,by rw [lW];exact h.seen,by rw [fR];exact h.face,?_,rfl,?_,?_,?_⟩,?_,?_⟩
 ·have:=h.low;by_cases hA:0<A
  ·simp only [if_pos hA];exact hset _ (by omega)
  simp only [if_neg hA];exact hset _ (by omega)
 ·have:=h.low;show 0≤if 0<A then t.many+1 else t.many
  split <;> omega
 ·show (if A<0 then t.out+1 else t.out)=if 0<A then t.out else if A<0 then t.out+1 else t.out
  split <;> split <;> (first|rfl|omega)
 ·show (if A=0 then false else !t.flat)=!(if 0<A then t.flat else if A<0 then t.flat else true);by_cases hA:0<A
  ·rw [if_pos hA,if_neg (by omega)]
  by_cases hA2:A<0
  ·rw [if_neg hA,if_pos hA2,if_neg (by omega)]
  rw [if_neg hA,if_neg hA2,if_pos (by omega)];rfl
 ·exact (oM t.seen W (by rw [h.seen];exact hr) d _ (Nat.le_refl _)).1 ⟨0,by omega,by rw [hfirst];rfl⟩
 intro i hi hi2;obtain⟨c1,c2⟩:=oM t.seen W (by rw [h.seen];exact hr) i _ (Nat.le_refl _);by_cases e:∃ k,k<W.length∧(aK W k).toNat=i
 ·exact c1 e
 show cV (fW t.seen W W.length) i=true;rw [c2 e];exact hi
theorem AF (hp:eK l m n=true):∀ d,d≤2*m.length→Fre m (kG l m d) (bW l (aQ l m m.length) (outs l m) d)∧∀ i,i<d→cV (bW l (aQ l m m.length) (outs l m) d).seen i=true
 |0,_=>by
  refine⟨⟨by simp [kG],by simp [bW,a9],by simp [bW,a9],fun i hi=>.inr ?_,rfl,Int.le_refl 0,rfl,rfl⟩,fun i hi=>by omega⟩;unfold kG bW cV aK;rw [List.getD_eq_getElem?_getD,List.getD_eq_getElem?_getD,List.getElem?_replicate,List.getElem?_replicate,a9,if_pos hi,if_pos hi];exact⟨rfl,by decide⟩
 |d+1,h=>by
  obtain⟨i1,i2⟩:=AF hp d (by omega);obtain⟨a1,a2,a3⟩:=aDH hp i1 (d:=d) (by omega);refine⟨a1,fun i hi=>?_⟩;by_cases e:i=d
  ·rw [e];exact a2
  exact a3 i (i2 i (by omega)) (by omega)
theorem UK {f g:Nat→Bool}{n:Nat}(h:∀ i,i<n→f i=g i):nM f n=nM g n:=by
 rw [Bool.eq_iff_iff];exact⟨fun a=>fO fun i hi=>by rw [← h i hi];exact eG a hi,fun a=>fO fun i hi=>by rw [h i hi];exact eG a hi⟩
theorem aH7 (hp:eK l m n=true):(yX (c8 l m)&&(decide ((c8 l m).many=n)&&nM (E3 l m) m.length))=(MT (fD l m)&&(decide ((fD l m).faces=n)&&nM (faB m (fD l m).of) m.length)):=by
 obtain⟨_,_,_,_,_,hn,_⟩:=cZ (cU hp);obtain⟨h1,h2⟩:=AF hp (2*m.length) (Nat.le_refl _);have e:c8 l m=bW l (aQ l m m.length) (outs l m) (2*m.length):=by
  unfold c8 nmD;rw [a9]
 have hof:∀ i,i<2*m.length→aK (fD l m).of i=aK (c8 l m).face i:=fun i hi=>by
  rw [e];rcases h1.of i hi with ⟨_,_,h⟩|⟨h,_⟩
  ·exact h
  rw [h2 i hi] at h;cases h
 have hall:nM (E3 l m) m.length=nM (faB m (fD l m).of) m.length:=by
  refine UK fun i hi=>?_;unfold E3 faB;rw [hof (2*i) (by omega),hof (2*i+1) (by omega)]
 rw [hall];unfold yX MT;have k1:(fD l m).faces=(c8 l m).many:=(by rw [e];exact h1.many);have k2:(fD l m).outside=(c8 l m).out:=(by rw [e];exact h1.out);have k3:(fD l m).ok=!(c8 l m).flat:=(by rw [e];exact h1.ok);rw [k1,k2,k3];by_cases hc:(c8 l m).many=n
 ·rw [decide_eq_true hc,decide_eq_true (show 1≤(c8 l m).many by omega)];cases decide ((c8 l m).out=1) <;> cases (c8 l m).flat <;> rfl
 rw [decide_eq_false hc];simp
end
def G3 (S T:List Bool):Prop:=∀ i,cV S i=true→cV T i=true
theorem G3.refl (S:List Bool):G3 S S:=fun _ h=>h
theorem G3.trans {A B C:List Bool}(h1:G3 A B)(h2:G3 B C):G3 A C:=fun i h=>h2 i (h1 i h)
theorem XW:∀ {S T:List Bool},T.length=S.length→G3 S T→gZ T≤gZ S∧(gZ T=gZ S→T=S)
 |[],[],_,_=>⟨Nat.le_refl _,fun _=>rfl⟩
 |[],_::_,h,_=>by simp at h
 |_::_,[],h,_=>by simp at h
 |a::S,b::T,hl,h=>by
  obtain⟨i1,i2⟩:=XW (S:=S) (T:=T) (by simpa using hl) fun i hi=>h (i+1) hi;have h0:a=true→b=true:=h 0;unfold gZ at *;simp only [List.countP_cons];cases a <;> cases b <;> simp at h0 ⊢
  ·exact⟨by omega,fun e=>i2 (by omega)⟩
  ·omega
  exact⟨i1,i2⟩
theorem aBj {S:List Bool}{i:Nat}(h:S.length≤i):cV S i=false:=by
 unfold cV;rw [List.getD_eq_getElem?_getD,List.getElem?_eq_none h];rfl
theorem OM (S:List Bool)(p:Nat):G3 S (S.set p true):=fun i hi=>by
 by_cases h:p<S.length
 ·rw [oK _ _ _ _ h];split
  ·rfl
  exact hi
 rw [List.set_eq_of_length_le (by omega)];exact hi
section
variable {D:List Dt}{ls:List (List Int)}{nP:Nat}
theorem LJ (hL:∀ q,∀ x∈bQ ls q,oA D x<nP):∀ (n:Nat) (S:List Bool) (p:Nat),S.length=nP→p<nP→cV S p=false→gZ S≤n →
  G3 S (E8 D ls n S p)∧cV (E8 D ls n S p) p=true∧∀ q,cV (E8 D ls n S p) q=true→cV S q=false→∀ x∈bQ ls q,cV (E8 D ls n S p) (oA D x)=true
 |0,S,p,h1,h2,h3,h4=>by have:=aAl (by omega) h3;omega
 |n+1,S,p,h1,h2,h3,h4=>by
  have hcs:=N8 (S:=S) (p:=p) (by omega) h3
  have key:∀ (L:List Int) (M:List Bool),M.length=nP→gZ M≤n→(∀ x∈L,oA D x<nP) →
    G3 M (L.foldl (fun S x=>if cV S (oA D x)=true then S else E8 D ls n S (oA D x)) M)∧(∀ x∈L,cV (L.foldl (fun S x=>if cV S (oA D x)=true then S else E8 D ls n S (oA D x)) M) (oA D x)=true) ∧
    ∀ q,cV (L.foldl (fun S x=>if cV S (oA D x)=true then S else E8 D ls n S (oA D x)) M) q=true→cV M q=false→∀ x∈bQ ls q,cV (L.foldl (fun S x=>if cV S (oA D x)=true then S else E8 D ls n S (oA D x)) M) (oA D x)=true:=by
   intro L
   induction L with
   |nil=>exact fun M _ _ _=>⟨G3.refl M,fun x hx=>(by cases hx),fun q hq hf=>by rw [List.foldl_nil] at hq;rw [hq] at hf;cases hf⟩
   |cons y r ih =>
    intro M hM hc hr;rw [List.foldl_cons];by_cases hy:cV M (oA D y)=true
    ·rw [if_pos hy];obtain⟨k1,k2,k3⟩:=ih M hM hc fun x hx=>hr x (.tail _ hx);refine⟨k1,fun x hx=>?_,k3⟩;rcases List.mem_cons.1 hx with rfl|hx
     ·exact k1 _ hy
     exact k2 x hx
    rw [if_neg hy];have hyf:cV M (oA D y)=false:=(by simpa using hy);obtain⟨v1,v2,v3⟩:=LJ hL n M (oA D y) hM (hr y (.head _)) hyf hc;obtain⟨c1,c2⟩:=HN D ls n M (oA D y);obtain⟨k1,k2,k3⟩:=ih (E8 D ls n M (oA D y)) (by omega) (by omega) fun x hx=>hr x (.tail _ hx);refine⟨v1.trans k1,fun x hx=>?_,fun q hq hf x hx=>?_⟩
    ·rcases List.mem_cons.1 hx with rfl|hx
     ·exact k1 _ v2
     exact k2 x hx
    ·cases hv:cV (E8 D ls n M (oA D y)) q with
     |true=>exact k1 _ (v3 q hv hf x hx)
     |false=>exact k3 q hq hv x hx
  obtain⟨k1,k2,k3⟩:=key (bQ ls p) (S.set p true) (by rw [List.length_set];exact h1) (by omega) (hL p);have hp0:cV (S.set p true) p=true:=(by rw [oK _ _ _ _ (by omega),if_pos rfl]);show G3 S ((bQ ls p).foldl _ (S.set p true))∧cV ((bQ ls p).foldl _ (S.set p true)) p=true∧∀ q,cV ((bQ ls p).foldl _ (S.set p true)) q=true→_;refine⟨(OM S p).trans k1,k1 _ hp0,fun q hq hf x hx=>?_⟩;by_cases e:q=p
  ·rw [e] at hx;exact k2 x hx
  exact k3 q hq (by rw [oK _ _ _ _ (by omega),if_neg e];exact hf) x hx
theorem ZY {Z:Nat→Prop}(hZ:∀ q,Z q→∀ x∈bQ ls q,Z (oA D x)):∀ (n:Nat) (S:List Bool) (p:Nat),(∀ i,cV S i=true→Z i)→Z p→∀ i,cV (E8 D ls n S p) i=true→Z i
 |0,S,p,h1,h2=>h1
 |n+1,S,p,h1,h2=>by
  have key:∀ (L:List Int) (M:List Bool),(∀ i,cV M i=true→Z i)→(∀ x∈L,Z (oA D x))→∀ i,cV (L.foldl (fun S x=>if cV S (oA D x)=true then S else E8 D ls n S (oA D x)) M) i=true→Z i:=by
   intro L
   induction L with
   |nil=>exact fun M h _=>h
   |cons y r ih =>
    intro M hM hr;rw [List.foldl_cons];split
    ·exact ih M hM fun x hx=>hr x (.tail _ hx)
    exact ih _ (ZY hZ n M (oA D y) hM (hr y (.head _))) fun x hx=>hr x (.tail _ hx)
  exact key (bQ ls p) (S.set p true) (fun i hi=>by
   rcases A4 _ _ _ hi with e|h
   ·rw [e];exact h2
   exact h1 i h) (hZ p h2)
end
theorem aHr (s:List Bool)(e:Ed):G3 s (vD s e):=by
 unfold vD;split
 ·exact (OM s _).trans (OM _ _)
 exact G3.refl s
theorem AW (m:List Ed)(s:List Bool):∀ {i j:Nat},i≤j→G3 (nF m s i) (nF m s j)
 |i,0,h=>by rw [show i=0 by omega];exact G3.refl _
 |i,j+1,h=>by
  by_cases e:i=j+1
  ·rw [e];exact G3.refl _
  exact (AW m s (show i≤j by omega)).trans (aHr _ _)
theorem DY (l:List Pt)(m:List Ed):∀ k,(nF m (dO l m k) m.length=dO l m k)∨gZ (dO l m k)+k≤gZ (dO l m 0)
 |0=>.inr (Nat.le_refl _)
 |k+1=>by
  rcases DY l m k with h|h
  ·left;have:dO l m (k+1)=dO l m k:=h;rw [this];exact h
  have hl:=sF m (dO l m k) m.length;obtain⟨c1,c2⟩:=XW hl (AW m (dO l m k) (Nat.zero_le _));by_cases e:gZ (nF m (dO l m k) m.length)=gZ (dO l m k)
  ·left;have:dO l m (k+1)=dO l m k:=c2 e;rw [this];exact c2 e
  right;show gZ (nF m (dO l m k) m.length)+(k+1)≤_;have c1':gZ (nF m (dO l m k) m.length)≤gZ (dO l m k):=c1;omega
theorem aIp {n:Nat}(h:1≤n):gZ (nG n)+1≤n:=by
 have h1:=uX n;have h2:gZ (nG n)≤(nG n).length:=List.countP_le_length;rcases Nat.lt_or_ge (gZ (nG n)) n with h3|h3
 ·omega
 exfalso;have h4:cV (nG n) 0=true:=by
  unfold nG cV;rw [List.getD_eq_getElem?_getD,List.getElem?_map,List.getElem?_range (by omega)];rfl
 have h5:gZ (nG n)=(nG n).length:=(by omega);have h6:=(List.countP_eq_length.1 h5) _ (List.getElem_mem (l:=nG n) (n:=0) (by omega));rw [qZ (by omega)] at h4;rw [h4] at h6;cases h6
section
variable {l:List Pt}{m:List Ed}{n:Int}
theorem aKi (hok:cQ l m n=true):TE l m=C4 l m:=by
 obtain⟨hM,h3,h1l,h4,h6,_,_⟩:=cZ hok;have hdt:∀ {i:Nat},i<2*m.length→0≤(cA (aQ l m m.length) i).fr∧(cA (aQ l m m.length) i).fr<l.length∧0≤(cA (aQ l m m.length) i).tt∧(cA (aQ l m m.length) i).tt<l.length:=fun {i} hi=>by
  have:=fC (l:=l) hM hi;omega
 have hls:∀ q,∀ x∈bQ (outs l m) q,∃ i:Nat,i<2*m.length∧x=i∧(cA (aQ l m m.length) i).fr.toNat=q∧q<l.length:=fun q x hx=>by
  by_cases hq:q<l.length
  ·obtain⟨i,a,b,c⟩:=(jS hok hq).1 hx;exact⟨i,a,b,c,hq⟩
  exfalso;unfold bQ at hx;rw [List.getD_eq_getElem?_getD,List.getElem?_eq_none (by rw [fP];omega)] at hx;cases hx
 have hL:∀ q,∀ x∈bQ (outs l m) q,oA (aQ l m m.length) x<l.length:=fun q x hx=>by
  obtain⟨i,a,b,_,_⟩:=hls q x hx;have:=hdt a;unfold oA;rw [b,Int.toNat_natCast];omega
 have hS0:∀ i,cV (List.replicate (outs l m).length false) i=false:=fun i=>by
  unfold cV;rw [List.getD_eq_getElem?_getD,List.getElem?_replicate];split <;> rfl
 have hcnt:gZ (List.replicate (outs l m).length false)≤1000:=by
  have:gZ (List.replicate (outs l m).length false)≤(List.replicate (outs l m).length false).length:=List.countP_le_length;have e:=fP l m;rw [List.length_replicate] at this;omega
 obtain⟨v1,v2,v3⟩:=LJ (nP:=l.length) hL 1000 (List.replicate (outs l m).length false) 0 (by rw [List.length_replicate,fP]) (by omega) (hS0 0) hcnt;have hlen:(fM (aQ l m m.length) (outs l m)).length=l.length:=by
  unfold fM;rw [(HN _ _ _ _ _).2,List.length_replicate,fP]
 have hR:∀ q,cV (fM (aQ l m m.length) (outs l m)) q=true→∀ x∈bQ (outs l m) q,cV (fM (aQ l m m.length) (outs l m)) (oA (aQ l m m.length) x)=true:=fun q hq x hx=>v3 q hq (hS0 q) x hx
 -- along an edge,both ways
 have hedge:∀ {e:Nat},e<m.length→(2*e:Nat)<2*m.length∧((2*e:Nat):Int)∈bQ (outs l m) (bO m e).a.toNat∧oA (aQ l m m.length) ((2*e:Nat):Int)=(bO m e).b.toNat∧((2*e+1:Nat):Int)∈bQ (outs l m) (bO m e).b.toNat∧oA (aQ l m m.length) ((2*e+1:Nat):Int)=(bO m e).a.toNat:=fun {e} he=>by
  obtain⟨d1,d2⟩:=GI l m he;have hE:=qV hok he;refine⟨by omega,(jS hok (by omega)).2 ⟨2*e,by omega,rfl,by rw [d1];rfl⟩,?_,(jS hok (by omega)).2 ⟨2*e+1,by omega,rfl,by rw [d2];rfl⟩,?_⟩
  ·unfold oA;rw [Int.toNat_natCast,d1];rfl
  unfold oA;rw [Int.toNat_natCast,d2];rfl
 have hcR:∀ {e:Nat},e<m.length→(cV (fM (aQ l m m.length) (outs l m)) (bO m e).a.toNat=true∨cV (fM (aQ l m m.length) (outs l m)) (bO m e).b.toNat=true)→cV (fM (aQ l m m.length) (outs l m)) (bO m e).a.toNat=true∧cV (fM (aQ l m m.length) (outs l m)) (bO m e).b.toNat=true:=fun {e} he h=>by
  obtain⟨_,a1,a2,a3,a4⟩:=hedge he;rcases h with h|h
  ·exact⟨h,by rw [← a2];exact hR _ h _ a1⟩
  exact⟨by rw [← a4];exact hR _ h _ a3,h⟩
 -- the reference's lie in the program's
 have hsub:∀ k,G3 (dO l m k) (fM (aQ l m m.length) (outs l m)):=by
  intro k
  induction k with
  |zero =>
   intro i hi;have:i=0:=by
    change cV (nG l.length) i=true at hi;by_cases hil:i<l.length
    ·unfold nG cV at hi;rw [List.getD_eq_getElem?_getD,List.getElem?_map,List.getElem?_range hil] at hi;simp at hi;exact hi
    rw [aBj (by rw [uX];omega)] at hi;cases hi
   rw [this];exact v2
  |succ k ih =>
   have key:∀ j,j≤m.length→G3 (nF m (dO l m k) j) (fM (aQ l m m.length) (outs l m)):=by
    intro j
    induction j with
    |zero=>exact fun _=>ih
    |succ j jh =>
     intro hj i hi;have jh:=jh (by omega);unfold nF vD at hi;split at hi
     ·rename_i hc;have hc:=hcR (e:=j) (by omega) (by
       rcases Bool.or_eq_true_iff.1 hc with hc|hc
       ·exact .inl (jh _ hc)
       exact .inr (jh _ hc))
      rcases A4 _ _ _ hi with e|hi
      ·rw [e];exact hc.2
      ·rcases A4 _ _ _ hi with e|hi
       ·rw [e];exact hc.1
       exact jh _ hi
     exact jh _ hi
   exact key m.length (Nat.le_refl _)
 -- the program's lie in the reference's
 have hst:nF m (dO l m l.length) m.length=dO l m l.length:=by
  rcases DY l m l.length with h|h
  ·exact h
  exfalso;have:=aIp h1l;have h2:gZ (dO l m l.length)+l.length≤gZ (nG l.length):=h;omega
 have hcC:∀ {e:Nat},e<m.length→(cV (dO l m l.length) (bO m e).a.toNat=true∨cV (dO l m l.length) (bO m e).b.toNat=true)→cV (dO l m l.length) (bO m e).a.toNat=true∧cV (dO l m l.length) (bO m e).b.toNat=true:=fun {e} he h=>by
  have hE:=qV hok he;have h1:=AW m (dO l m l.length) (Nat.zero_le e);have h2:=AW m (dO l m l.length) (show e+1≤m.length by omega);rw [hst] at h2;have hlen':(nF m (dO l m l.length) e).length=l.length:=(by rw [sF,sI]);have h3:nF m (dO l m l.length) (e+1)=vD (nF m (dO l m l.length) e) (bO m e):=rfl;have hc:(cV (nF m (dO l m l.length) e) (bO m e).a.toNat || cV (nF m (dO l m l.length) e) (bO m e).b.toNat)=true:=by
   rcases h with h|h
   ·rw [h1 _ h];rfl
   rw [h1 _ h,Bool.or_true]
  rw [h3,vD,if_pos hc] at h2;exact⟨h2 _ (by rw [oK _ _ _ _ (by rw [List.length_set];omega)];split <;> first|rfl|rw [oK _ _ _ _ (by omega),if_pos rfl]),h2 _ (by rw [oK _ _ _ _ (by rw [List.length_set];omega),if_pos rfl])⟩
 have hsup:G3 (fM (aQ l m m.length) (outs l m)) (dO l m l.length):=by
  refine ZY (Z:=fun i=>cV (dO l m l.length) i=true) (fun q hq x hx=>?_) 1000 _ 0 (fun i hi=>by rw [hS0] at hi;cases hi) ?_
  ·obtain⟨i,a,b,c,d⟩:=hls q x hx;rw [b];show cV (dO l m l.length) (oA (aQ l m m.length) (i:Int))=true;unfold oA;rw [Int.toNat_natCast];rcases kR (l:=l) (m:=m) a with ⟨_,h⟩|⟨_,h⟩
   ·rw [h] at c ⊢;exact (hcC (e:=i / 2) (by omega) (.inl (by rw [show (bO m (i / 2)).a.toNat=q from c];exact hq))).2
   rw [h] at c ⊢;exact (hcC (e:=i / 2) (by omega) (.inr (by rw [show (bO m (i / 2)).b.toNat=q from c];exact hq))).1
  have h0:G3 (dO l m 0) (dO l m l.length):=by
   have:∀ k,G3 (dO l m 0) (dO l m k):=by
    intro k
    induction k with
    |zero=>exact G3.refl _
    |succ k ih=>exact ih.trans (AW m (dO l m k) (Nat.zero_le _))
   exact this _
  refine h0 0 ?_;show cV (nG l.length) 0=true;unfold nG cV;rw [List.getD_eq_getElem?_getD,List.getElem?_map,List.getElem?_range (by omega)];rfl
 have hall:∀ {S:List Bool},S.length=l.length→(S.all id=true↔∀ i,i<l.length→cV S i=true):=fun {S} hS=>by
  rw [List.all_eq_true];constructor
  ·intro h i hi;rw [qZ (by omega)];exact h _ (List.getElem_mem _)
  intro h b hb;obtain⟨i,hi,rfl⟩:=List.getElem_of_mem hb;rw [← qZ hi];exact h i (by omega)
 unfold TE C4;rw [Bool.eq_iff_iff,hall hlen,hall (sI l m _)];exact⟨fun h i hi=>hsup i (h i hi),fun h i hi=>hsub _ i (h i hi)⟩
theorem aFq (l:List Pt)(m:List Ed)(n:Int):a8 l m n=NB l m n:=by
 unfold a8 NB;cases hp:eK l m n with
 |false=>rfl
 |true=>rw [aKi (cU hp),aH7 hp]
end
end Go.Aw
end
