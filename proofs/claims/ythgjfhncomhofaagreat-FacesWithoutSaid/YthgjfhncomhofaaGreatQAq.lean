/-
  Parts of a proof. No condition.
-/
import Derived.Test.YthgjfhncomhofaaGreatQAk
import Derived.Test.YthgjfhncomhofaaGreatQAl
import Derived.Test.YthgjfhncomhofaaGreatQAp
set_option linter.unusedSimpArgs false
set_option linter.unusedVariables false
namespace Go.Aw
abbrev V2:=Int × Int
def cr (a b:V2):Int:=a.1*b.2 - a.2*b.1
def dt (a b:V2):Int:=a.1*b.1+a.2*b.2
def D4 (a:V2):V2:=(-a.1,-a.2)
def up (a:V2):Prop:=0<a.2\/a.2=0/\0<a.1
def lo (a:V2):Prop:=a.2<0\/a.2=0/\a.1<0
instance (a:V2):Decidable (lo a):=inferInstanceAs (Decidable (_\/_))
theorem gP (a b:V2):cr b a = - cr a b:=by unfold cr;rw[Int.mul_comm b.1,Int.mul_comm b.2];omega
theorem aMe {a:V2}(h:lo a):up (D4 a):=by unfold up D4;unfold lo at h;simp only;omega
theorem IT (a b:V2):cr (D4 a) b = - cr a b:=by unfold cr D4;simp only[Int.neg_mul];omega
theorem H6 (a b:V2):cr a (D4 b) = - cr a b:=by unfold cr D4;simp only[Int.mul_neg];omega
theorem Q5 (a b:V2):dt (D4 a) b = - dt a b:=by unfold dt D4;simp only[Int.neg_mul];omega
theorem RX (a b:V2):dt a (D4 b) = - dt a b:=by unfold dt D4;simp only[Int.mul_neg];omega
theorem AL {a b:Int}(hb:0<b)(h:0<=a*b):0<=a:=by
 rcases Int.lt_or_le a 0 with h1|h1
 ·have:=Int.mul_neg_of_neg_of_pos h1 hb;omega
 exact h1
theorem aPr (a b c:V2):cr a c*b.2=cr a b*c.2+cr b c*a.2:=by
 unfold cr;simp only[Int.sub_mul];have e1:a.1*c.2*b.2=a.1*b.2*c.2:=(by rw[Int.mul_assoc,Int.mul_comm c.2,<- Int.mul_assoc]);have e2:a.2*c.1*b.2=b.2*c.1*a.2:=(by rw[Int.mul_comm (b.2*c.1),Int.mul_assoc,Int.mul_comm c.1]);have e3:a.2*b.1*c.2=b.1*c.2*a.2:=(by rw[Int.mul_assoc,Int.mul_comm]);omega
theorem J2 {a b c:V2}(ha:up a)(hb:up b)(hc:up c)(h1:0<=cr a b)(h2:0<=cr b c):0<=cr a c:=by
 have hid:=aPr a b c;have a2:0<=a.2:=(by unfold up at ha;omega);have c2:0<=c.2:=(by unfold up at hc;omega);rcases hb with hb|⟨hb,hb1⟩
 ·refine AL hb ?_;rw[hid];have:=Int.mul_nonneg h1 c2;have:=Int.mul_nonneg h2 a2;omega
 have e1:cr a b = -(a.2*b.1):=(by unfold cr;rw[hb];omega);rw[e1]at h1;have:a.2=0:=by
  rcases Int.lt_or_le 0 a.2 with h|h
  ·have:=Int.mul_pos h hb1;omega
  omega
 have a1:0<a.1:=(by unfold up at ha;omega);unfold cr;rw[this];have:=Int.mul_nonneg (Int.le_of_lt a1) c2;omega
theorem nW {a b c:V2}(ha:up a)(hb:up b)(hc:up c)(h1:0<=cr a b)(h2:0<=cr b c)(h3:cr a c<=0):cr a b=0/\cr b c=0:=by
 have h4:0<=cr c a:=(by rw[gP];omega);have k1:=J2 hb hc ha h2 h4;have k2:=J2 hc ha hb h4 h1;rw[gP]at k1;rw[gP]at k2;omega
theorem QR {a b:V2}(ha:up a)(hb:up b)(h:cr a b=0):0<dt a b:=by
 unfold cr at h;unfold dt;rcases ha with ha|⟨ha,ha1⟩ <;> rcases hb with hb|⟨hb,hb1⟩
 ·-- a.1 b.2=a.2 b.1:same signs of a.1 and b.1
  have h2:=Int.mul_pos ha hb;have:0<=a.1*b.1:=by
   rcases Int.lt_or_le b.1 0 with h1|h1
   ·have:=Int.mul_neg_of_pos_of_neg ha h1;have h3:a.1<0:=by
     rcases Int.lt_or_le a.1 0 with h4|h4
     ·exact h4
     have:=Int.mul_nonneg h4 (Int.le_of_lt hb);omega
    exact Int.mul_nonneg_of_nonpos_of_nonpos (Int.le_of_lt h3) (Int.le_of_lt h1)
   have:=Int.mul_nonneg (Int.le_of_lt ha) h1;have h3:0<=a.1:=by
    refine AL hb ?_;omega
   exact Int.mul_nonneg h3 h1
  omega
 ·rw[hb]at h;have:=Int.mul_pos ha hb1;omega
 ·rw[ha]at h;have:=Int.mul_pos ha1 hb;omega
 have:=Int.mul_pos ha1 hb1;rw[ha];omega
def BZ (a b:V2):Prop:=(¬ lo a/\lo b)\/((lo a↔lo b)/\0<cr a b)
def rk (u w:V2):Int:=if cr u w<0 then 0 else if 0<cr u w then 2 else if dt u w<0 then 1 else 3
def NF (u w x:V2):Prop:=rk u w<rk u x\/rk u w=rk u x/\cr w x<0
def nz (a:V2):Prop:=¬(a.1=0/\a.2=0)
theorem aPo {a:V2}(h:nz a)(hl:¬ lo a):up a:=by unfold nz at h;unfold lo at hl;unfold up;omega
def uv (a:V2):V2:=if lo a then D4 a else a
theorem AI {a:V2}(h:nz a):up (uv a):=by
 unfold uv;split
 ·rename_i hl;exact aMe hl
 rename_i hl;exact aPo h hl
theorem three {u y x:V2}(hu:nz u)(hy:nz y)(hx:nz x) :
  (BZ u x/\BZ x y/\BZ u y)\/(BZ y u/\BZ u x/\BZ y x)\/(BZ x y/\BZ y u/\BZ x u)->NF u y x:=by
 have hU:=AI hu;have hY:=AI hy;have hX:=AI hx;have f1:=fun h1 h2 h3=>nW hU hY hX h1 h2 h3;have f2:=fun h1 h2 h3=>nW hU hX hY h1 h2 h3;have f3:=fun h1 h2 h3=>nW hY hU hX h1 h2 h3;have f4:=fun h1 h2 h3=>nW hY hX hU h1 h2 h3;have f5:=fun h1 h2 h3=>nW hX hU hY h1 h2 h3;have f6:=fun h1 h2 h3=>nW hX hY hU h1 h2 h3;have d1:=fun h=>QR hU hY h;have d2:=fun h=>QR hU hX h;have n1:=gP (uv u) (uv y);have n2:=gP (uv u) (uv x);have n3:=gP (uv y) (uv x);have n4:=gP u y;have n5:=gP u x;have n6:=gP y x;unfold BZ NF rk
 by_cases lu:lo u <;> by_cases ly:lo y <;> by_cases lx:lo x <;>
  simp only[uv,lu,ly,lx,if_true,if_false,IT,H6,Q5,RX,not_true,not_false_iff,true_and,false_and,and_false,and_true,iff_true,true_iff,iff_false,false_or,or_false,not_false_eq_true,Int.neg_neg]at f1 f2 f3 f4 f5 f6 d1 d2 n1 n2 n3 ⊢ <;>
  (generalize cr u y=c1 at *;generalize cr u x=c2 at *;generalize cr y x=c3 at *;generalize dt u y=e1 at *;generalize dt u x=e2 at *;intro h;repeat' split) <;> omega
theorem aJU (a:V2):cr a a=0:=by unfold cr;rw[Int.mul_comm];omega
theorem aDw {a b:V2}(h:BZ a b):¬ BZ b a:=by
 unfold BZ at *;have:=gP a b;rintro(⟨h1,h2⟩|⟨h2,h3⟩) <;> rcases h with⟨h4,h5⟩|⟨h5,h6⟩
 ·exact h1 h5
 ·exact h1 (h5.1 h2)
 ·exact h4 (h2.1 h5)
 omega
theorem XT {a b c:V2}(ha:nz a)(hb:nz b)(hc:nz c)(h1:¬ BZ b a)(h2:¬ BZ c b):¬ BZ c a:=by
 have hA:=AI ha;have hB:=AI hb;have hC:=AI hc;have f1:=fun h1 h2=>J2 hA hB hC h1 h2;have g1:=fun h1 h2 h3=>nW hA hB hC h1 h2 h3;have n1:=gP a b;have n2:=gP a c;have n3:=gP b c;unfold BZ at *
 by_cases la:lo a <;> by_cases lb:lo b <;> by_cases lc:lo c <;>
  simp only[uv,la,lb,lc,if_true,if_false,IT,H6,not_true,not_false_iff,true_and,false_and,and_false,and_true,iff_true,true_iff,iff_false,false_or,or_false,true_or,or_true,Int.neg_neg]at f1 g1 h1 h2 ⊢ <;> omega
def ray (a b:V2):Prop:=cr a b=0/\0<dt a b
theorem aCH {a b:V2}(ha:nz a)(hb:nz b)(h:¬ ray a b):BZ a b\/BZ b a:=by
 have hA:=AI ha;have hB:=AI hb;have d:=fun h=>QR hA hB h;have n:=gP a b;unfold ray at h;unfold BZ
 by_cases la:lo a <;> by_cases lb:lo b <;>
  simp only[uv,la,lb,if_true,if_false,IT,H6,Q5,RX,not_true,not_false_iff,true_and,false_and,and_false,and_true,iff_true,true_iff,iff_false,false_or,or_false,true_or,or_true,Int.neg_neg]at d h ⊢ <;> omega
theorem sq0 (a:Int):0<=a*a:=by
 rcases Int.le_total 0 a with h|h
 ·exact Int.mul_nonneg h h
 exact Int.mul_nonneg_of_nonpos_of_nonpos h h
theorem O7 {u y:V2}(hu:nz u)(hy:nz y)(h:BZ u y\/BZ y u):NF u y u:=by
 have hU:=AI hu;have hY:=AI hy;have d:=fun h=>QR hU hY h;have d2:0<dt u u:=by
  unfold dt;unfold nz at hu;have h1:=sq0 u.1;have h2:=sq0 u.2;by_cases h3:u.1=0
  ·have h4:u.2≠0:=fun h=>hu ⟨h3,h⟩;have:u.2*u.2≠0:=Int.mul_ne_zero h4 h4;omega
  have:u.1*u.1≠0:=Int.mul_ne_zero h3 h3;omega
 have n:=gP u y;have c0:=aJU u;unfold NF rk;unfold BZ at h;rw[c0]
 by_cases lu:lo u <;> by_cases ly:lo y <;>
  simp only[uv,lu,ly,if_true,if_false,IT,H6,Q5,RX,not_true,not_false_iff,true_and,false_and,and_false,and_true,iff_true,true_iff,iff_false,false_or,or_false,true_or,or_true,Int.neg_neg]at d h ⊢ <;> (repeat' split) <;> omega
theorem YP {u y x:V2}(h:NF u y x):¬ NF u x y:=by
 unfold NF at *;have:=gP x y;omega
end Go.Aw

noncomputable section
namespace Go.Aw
set_option maxRecDepth 100000
theorem y5 (D:List Dt)(x y:Int):gI D x y=true↔BZ (gG (cV D x.toNat)) (gG (cV D y.toNat)):=by
 show decide (aCD D x y<0)=true↔_;unfold aCD;generalize gG (cV D x.toNat)=u;generalize gG (cV D y.toNat)=v;rw[decide_eq_true_iff];have hu:HP u=true↔lo u:=(by unfold HP lo;simp);have hv:HP v=true↔lo v:=(by unfold HP lo;simp);have hc:crP u v=cr u v:=rfl;unfold YQ BZ jN;rw[hc];cases h1:HP u <;> cases h2:HP v <;> rw[h1]at hu <;> rw[h2]at hv <;> simp only[Bool.false_eq_true,false_iff,true_iff,if_true,if_false]at hu hv ⊢ <;> simp only[hu,hv,not_true,not_false_iff,true_and,false_and,false_or,or_false,and_false,iff_true,true_iff,iff_false,not_false_eq_true]
 ·split <;> (try split) <;> omega
 ·simp
 ·simp
 split <;> (try split) <;> omega
theorem rE {a b c:Pt}(h1:bL a b=true)(h2:bL b c=true):bL a c=true:=by
 simp only[bL,Bool.or_eq_true,af,ag]at *;omega
section
variable {l:List Pt}{m:List Ed}{n:Int}
theorem JC (hok:lG l m=true):∀{j i:Nat},i<j->j<l.length->bL (bI l i) (bI l j)=true
 |0,i,h,_=>by omega
 |j+1,i,h,hj=>by
  simp only[lG,af]at hok;have h1:=eR hok.2.1 hj;simp only[FK,af,Bool.or_eq_true,ag]at h1;have h2:bL (bI l j) (bI l (j+1))=true:=by
   rcases h1.2 with h|h
   ·omega
   exact h
  by_cases e:i=j
  ·rw[e];exact h2
  exact rE (JC (by simp only[lG,af];exact hok) (aa:i<j) aa) h2
theorem yP (hok:lG l m=true){i:Nat}(hi:i<m.length):0<=(aU m i).a/\(aU m i).a<(aU m i).b/\(aU m i).b<l.length:=by
 simp only[lG,af]at hok;have h1:=eR hok.2.2.1 hi;simp only[G8,af,ag]at h1;exact⟨h1.1.1.1.1.1,h1.1.1.1.1.2,h1.1.1.1.2⟩
theorem EJ (hok:lG l m=true){i:Nat}(hi:i<2*m.length):nz (gG (cV (bA l m m.length) i)):=by
 obtain⟨h1,h2,h3⟩:=yP hok (i:=i / 2) aa;have h4:=JC hok (i:=(aU m (i / 2)).a.toNat) (j:=(aU m (i / 2)).b.toNat) aa aa;simp only[bL,Bool.or_eq_true,af,ag]at h4;unfold nz;rcases pE (l:=l) (m:=m) hi with⟨e,h⟩|⟨e,h⟩
 ·rw[h];simp only[gG,dA,fC];omega
 rw[h];simp only[gG,dB,fC];omega
theorem aIQ (hok:lG l m=true):Ord (bA l m m.length) (fun x=>0<=x/\x<(2*m.length:Nat)) where
 trans:=fun x y z hx hy hz h1 h2=>by
  have nx:=EJ hok (i:=x.toNat) aa;have ny:=EJ hok (i:=y.toNat) aa;have nz':=EJ hok (i:=z.toNat) aa;unfold BP at *;have b1:¬ BZ (gG (cV (bA l m m.length) y.toNat)) (gG (cV (bA l m m.length) x.toNat)):=fun h=>(by rw[(y5 _ _ _).2 h]at h1;cases h1);have b2:¬ BZ (gG (cV (bA l m m.length) z.toNat)) (gG (cV (bA l m m.length) y.toNat)):=fun h=>(by rw[(y5 _ _ _).2 h]at h2;cases h2);cases h:gI (bA l m m.length) z x with
  |false=>rfl
  |true=>exact absurd ((y5 _ _ _).1 h) (XT nx ny nz' b1 b2)
 asym:=fun x y hx hy h=>by
  unfold BP;cases h2:gI (bA l m m.length) y x with
  |false=>rfl
  |true=>exact absurd ((y5 _ _ _).1 h2) (aDw ((y5 _ _ _).1 h))
theorem aD3 (D:List Dt)(s j:Nat):(SW D s j).Nodup:=by
 unfold SW;unfold List.Nodup;rw[List.pairwise_map];have h:List.Pairwise (fun a b:Nat=>a≠b) ((List.range j).filter fun i=>decide ((cV D i).fr.toNat=s)):=List.Pairwise.filter _ List.nodup_range;exact h.imp fun{a b} h e=>h (Int.ofNat.inj e)
theorem PY (D:List Dt)(s j:Nat):(SW D s j).length<=j:=by
 unfold SW;rw[List.length_map];exact Nat.le_trans (List.length_filter_le _ _) (by rw[List.length_range];exact ah _)
theorem aHD (hok:lG l m=true){s:Nat}(hs:s<l.length):cH (outs l m) s=kO (bA l m m.length) 1000 (SW (bA l m m.length) s (2*m.length)):=by
 have hM:=(sE hok).1;have hfr:∀ i,i<2*m.length->(cV (bA l m m.length) i).fr.toNat<l.length/\(cV (bA l m m.length) i).no=i:=fun i hi=>by
  have:=oZ (l:=l) hM hi;omega
 unfold outs;rw[Y6 _ _ (by rw[qB];exact ah _),if_pos hs,IC _ hfr]
theorem C2 (hok:lG l m=true){s:Nat}(hs:s<l.length):So (bA l m m.length) (cH (outs l m) s) 0 (cH (outs l m) s).length/\(cH (outs l m) s).Perm (SW (bA l m m.length) s (2*m.length)):=by
 obtain⟨hM,h3,h1,h4,h5,_,_⟩:=sE hok;rw[aHD hok hs];have hl:=PY (bA l m m.length) s (2*m.length);have:=Q6 (aIQ hok) (f:=1000) (L:=SW (bA l m m.length) s (2*m.length)) aa (fun i _ hi=>by
  have hm:aG (SW (bA l m m.length) s (2*m.length)) i∈SW (bA l m m.length) s (2*m.length):=by
   rw[fK hi];exact List.getElem_mem hi
  obtain⟨k,hk,e,_⟩:=QM hm;rw[e];omega)
 rw[qQ];exact this
theorem lB (hok:lG l m=true){s:Nat}(hs:s<l.length){x:Int}:x∈cH (outs l m) s↔∃ i:Nat,i<2*m.length/\x=i/\(cV (bA l m m.length) i).fr.toNat=s:=by
 rw[(C2 hok hs).2.mem_iff];exact⟨QM,fun⟨i,h1,h2,h3⟩=>by rw[h2];exact YB h1 h3⟩
theorem JF (hok:lG l m=true){s:Nat}(hs:s<l.length):(cH (outs l m) s).Nodup:=(C2 hok hs).2.symm.nodup (aD3 _ _ _)
theorem I4 {d:Int}{E:Nat}(h0:0<=d)(h1:d<(2*E:Nat)):0<=gR d/\gR d<(2*E:Nat):=by unfold gR;split <;> omega
theorem PH {d:Int}(h0:0<=d):gR (gR d)=d:=by unfold gR;split <;> split <;> omega
theorem RW (l:List Pt)(m:List Ed){d:Int}(h0:0<=d)(h1:d<(2*m.length:Nat)):(cV (bA l m m.length) (gR d).toNat).fr=(cV (bA l m m.length) d.toNat).tt/\(cV (bA l m m.length) (gR d).toNat).tt=(cV (bA l m m.length) d.toNat).fr/\gG (cV (bA l m m.length) (gR d).toNat)=D4 (gG (cV (bA l m m.length) d.toNat)):=by
 obtain⟨hd1,hd2⟩:=E7 l m (N:=m.length) (i:=d.toNat / 2) aa;unfold gR;by_cases e:d % 2=0
 ·rw[if_pos e,(aa:(d+1).toNat=2*(d.toNat / 2)+1),show cV (bA l m m.length) d.toNat=dA l m (d.toNat / 2) by rw[<- hd1];congr 1;omega,hd2];refine⟨rfl,rfl,?_⟩;simp only[gG,dA,dB,D4,Prod.mk.injEq];omega
 rw[if_neg e,(aa:(d - 1).toNat=2*(d.toNat / 2)),show cV (bA l m m.length) d.toNat=dB l m (d.toNat / 2) by rw[<- hd2];congr 1;omega,hd1];refine⟨rfl,rfl,?_⟩;simp only[gG,dA,dB,D4,Prod.mk.injEq];omega
theorem PC {x:Int}:∀{L:List Int} {i:Nat},x∈L->∃ k,k<L.length/\DP x L i=((i+k:Nat):Int)/\aG L k=x
 |[],i,h=>by cases h
 |b::r,i,h=>by
  unfold DP;by_cases e:x=b
  ·rw[if_pos e];exact⟨0,Nat.succ_pos _,rfl,e.symm⟩
  rw[if_neg e];rcases List.mem_cons.1 h with h|h
  ·exact absurd h e
  obtain⟨k,h1,h2,h3⟩:=PC (L:=r) (i:=i+1) h;refine⟨k+1,by simpa using h1,by rw[h2];congr 1;omega,?_⟩;rw[<- h3];rfl
theorem yF (hok:lG l m=true){d:Int}(h0:0<=d)(h1:d<(2*m.length:Nat)):∃(s a:Nat),s=(cV (bA l m m.length) d.toNat).tt.toNat/\s<l.length/\XN (bA l m m.length) (outs l m) d=cH (outs l m) s/\a<(cH (outs l m) s).length /\
  DP (gR d) (cH (outs l m) s) 0=a/\aG (cH (outs l m) s) a=gR d/\BY (bA l m m.length) (outs l m) d=aG (cH (outs l m) s) (if a=0 then(cH (outs l m) s).length - 1 else a - 1):=by
 obtain⟨hM,h3,h5,h4,h6,_,_⟩:=sE hok;have hf:=oZ (l:=l) hM (i:=d.toNat) aa;have hb:=I4 (E:=m.length) h0 h1;have hbd:=RW l m h0 h1;refine⟨(cV (bA l m m.length) d.toNat).tt.toNat,?_⟩;have hs:(cV (bA l m m.length) d.toNat).tt.toNat<l.length:=aa;have hmem:gR d∈cH (outs l m) (cV (bA l m m.length) d.toNat).tt.toNat:=(lB hok hs).2 ⟨(gR d).toNat,aa,aa,by rw[hbd.1]⟩;obtain⟨k,k1,k2,k3⟩:=PC (i:=0) hmem;rw[Nat.zero_add]at k2;refine⟨k,rfl,hs,rfl,k1,k2,k3,?_⟩;unfold BY XN;rw[k2];congr 1;split
 ·rename_i e;rw[e];have:((0:Nat):Int) - 1+((cH (outs l m) (cV (bA l m m.length) d.toNat).tt.toNat).length:Int)=(((cH (outs l m) (cV (bA l m m.length) d.toNat).tt.toNat).length - 1:Nat):Int):=aa;rw[this,Int.emod_eq_of_lt aa aa];rfl
 have:(k:Int) - 1+((cH (outs l m) (cV (bA l m m.length) d.toNat).tt.toNat).length:Int)=((k - 1:Nat):Int)+(cH (outs l m) (cV (bA l m m.length) d.toNat).tt.toNat).length:=aa;rw[this,Int.add_emod_right,Int.emod_eq_of_lt aa aa];rfl
theorem at_mem {L:List Int}{i:Nat}(h:i<L.length):aG L i∈L:=by rw[fK h];exact List.getElem_mem h
theorem OK (hok:lG l m=true){d:Int}(h0:0<=d)(h1:d<(2*m.length:Nat)):0<=BY (bA l m m.length) (outs l m) d/\BY (bA l m m.length) (outs l m) d<(2*m.length:Nat)/\(cV (bA l m m.length) (BY (bA l m m.length) (outs l m) d).toNat).fr.toNat=(cV (bA l m m.length) d.toNat).tt.toNat:=by
 obtain⟨s,a,e1,hs,e2,ha,e3,e4,e5⟩:=yF hok h0 h1;rw[e5];have hi:(if a=0 then(cH (outs l m) s).length - 1 else a - 1)<(cH (outs l m) s).length:=(by split <;> omega);obtain⟨i,i1,i2,i3⟩:=(lB hok hs).1 (at_mem hi);rw[i2];exact⟨aa,aa,by rw[<- e1];exact i3⟩
theorem CV {L:List Int}(h:L.Nodup){i j:Nat}(hi:i<L.length)(hj:j<L.length)(e:aG L i=aG L j):i=j:=by
 rw[fK hi,fK hj]at e;exact(List.getElem_inj h).1 e
theorem aMq (hok:lG l m=true){d d':Int}(h0:0<=d)(h1:d<(2*m.length:Nat))(h0':0<=d')(h1':d'<(2*m.length:Nat))(e:BY (bA l m m.length) (outs l m) d=BY (bA l m m.length) (outs l m) d'):d=d':=by
 have hn:=(OK hok h0 h1).2.2;have hn':=(OK hok h0' h1').2.2;obtain⟨s,a,e1,hs,e2,ha,e3,e4,e5⟩:=yF hok h0 h1;obtain⟨s',a',e1',hs',e2',ha',e3',e4',e5'⟩:=yF hok h0' h1';have hss:s=s':=(by rw[e1,e1',<- hn,<- hn',e]);subst hss;rw[e5,e5']at e;have:=CV (JF hok hs) (by split <;> omega) (by split <;> omega) e;have haa:a=a':=by
  split at this <;> split at this <;> omega
 have hb:gR d=gR d':=(by rw[<- e4,<- e4',haa]);rw[<- PH h0,hb,PH h0']
theorem Y3:∀(n:Nat) (f:Nat->Nat),(∀ i,i<=n->f i<n)->∃ i j,i<j/\j<=n/\f i=f j
 |0,f,h=>by have:=h 0 (ah 0);omega
 |n+1,f,h=>by
  by_cases hc:∃ i,i<=n/\f i=f (n+1)
  ·obtain⟨i,h1,h2⟩:=hc;exact⟨i,n+1,aa,ah _,h2⟩
  have hne:∀ i,i<=n->f i≠f (n+1):=fun i hi e=>hc ⟨i,hi,e⟩;obtain⟨i,j,h1,h2,h3⟩:=Y3 n (fun i=>if f (n+1)<f i then f i - 1 else f i) (fun i hi=>by
   have a1:=h i aa;have a2:=h (n+1) (ah _);have a3:=hne i hi;show(if f (n+1)<f i then f i - 1 else f i)<n;split <;> omega)
  refine⟨i,j,h1,aa,?_⟩;have a1:=hne i aa;have a2:=hne j h2;have h3:(if f (n+1)<f i then f i - 1 else f i)=(if f (n+1)<f j then f j - 1 else f j):=h3;split at h3 <;> split at h3 <;> omega
theorem wD (hok:lG l m=true){d:Int}(h0:0<=d)(h1:d<(2*m.length:Nat)):∀ i,0<=j3 (bA l m m.length) (outs l m) d i/\j3 (bA l m m.length) (outs l m) d i<(2*m.length:Nat)
 |0=>⟨h0,h1⟩
 |i+1=>by
  have ih:=wD hok h0 h1 i;have:=OK hok ih.1 ih.2;exact⟨this.1,this.2.1⟩
theorem aC3 (hok:lG l m=true){d:Int}(h0:0<=d)(h1:d<(2*m.length:Nat)):∀(i k:Nat),j3 (bA l m m.length) (outs l m) d i=j3 (bA l m m.length) (outs l m) d (i+k)->d=j3 (bA l m m.length) (outs l m) d k
 |0,k,h=>by rw[Nat.zero_add]at h;exact h
 |i+1,k,h=>by
  refine aC3 hok h0 h1 i k ?_;have a:=wD hok h0 h1 i;have b:=wD hok h0 h1 (i+k);refine aMq hok a.1 a.2 b.1 b.2 ?_;rw[(aa:i+1+k=i+k+1)]at h;exact h
theorem VQ (D:List Dt)(ls:List (List Int))(d:Int):∀(k i N:Nat),i<=N->N<i+k->j3 D ls d N=d->j3 D ls d (LO D ls d k i)=d
 |0,i,N,h1,h2,_=>by omega
 |k+1,i,N,h1,h2,h3=>by
  unfold LO;split
  ·assumption
  rename_i h;refine VQ D ls d k (i+1) N ?_ aa h3;rcases Nat.lt_or_ge i N with h4|h4
  ·exact h4
  exact absurd (by rw[(aa:i=N)];exact h3) h
theorem FA (hok:lG l m=true):RJ (bA l m m.length) (outs l m)=true:=by
 refine List.all_eq_true.2 fun d hd=>ai ?_;have hd:=List.mem_range.1 hd;rw[bT]at hd;obtain⟨i,j,h1,h2,h3⟩:=Y3 (2*m.length) (fun i=>(j3 (bA l m m.length) (outs l m) d i).toNat) (fun i _=>by
  have:=wD hok (d:=d) aa aa i;show(j3 (bA l m m.length) (outs l m) d i).toNat<2*m.length;omega)
 have a:=wD hok (d:=(d:Int)) aa aa i;have b:=wD hok (d:=(d:Int)) aa aa j;have e:=aC3 hok (d:=(d:Int)) aa aa i (j - i) (by rw[(aa:i+(j - i)=j)];have h3:(j3 (bA l m m.length) (outs l m) d i).toNat=(j3 (bA l m m.length) (outs l m) d j).toNat:=h3;omega);unfold m5;rw[bT];exact VQ _ _ _ _ 1 (j - i) aa aa e.symm
theorem aQm (hok:lG l m=true):M9 l (bA l m m.length) (outs l m)=true:=by
 obtain⟨hM,h3,h5,h4,h6,_,_⟩:=sE hok;simp only[M9,af,ag];refine⟨⟨⟨⟨List.all_eq_true.2 fun p hp=>?_,List.all_eq_true.2 fun e he=>?_⟩,by rw[bT];omega⟩,fV l m⟩,aa⟩
 ·obtain⟨i,hi,rfl⟩:=List.getElem_of_mem hp;have:=A1 hok hi;rw[gK hi]at this;unfold wide;simp only[af,ag];omega
 obtain⟨i,hi,rfl⟩:=List.getElem_of_mem he;rw[<- sH hi];rw[bT]at hi;have:=oZ (l:=l) hM hi;simp only[af,ag];omega
theorem W9 (hok:lG l m=true):vV l (bA l m m.length) (outs l m)=true:=by
 obtain⟨hM,h3,h5,h4,h6,_,_⟩:=sE hok;unfold vV;rw[aQm hok,Bool.true_and];refine List.all_eq_true.2 fun i hi=>?_;have hi:=List.mem_range.1 hi;rw[bT]at hi;have hn:=OK hok (d:=(i:Int)) aa aa;obtain⟨s,a,e1,hs,e2,ha,e3,e4,e5⟩:=yF hok (d:=(i:Int)) aa aa;have hf:=oZ (l:=l) hM (i:=i) hi;have hlen:(cH (outs l m) s).length<=1000:=by
  have h7:=(C2 hok hs).2.length_eq;have h8:=PY (bA l m m.length) s (2*m.length);omega
 simp only[af,ag];refine⟨?_,hn.1,by rw[bT];omega⟩;unfold nxB;rw[e2,e3,bT,fV];simp only[af,ag,Int.toNat_natCast];omega
theorem aEK (hok:lG l m=true):S4 (bA l m m.length) (outs l m)=true:=by
 obtain⟨hM,h3,h5,h4,h6,_,_⟩:=sE hok;refine List.all_eq_true.2 fun L hL=>?_;obtain⟨s,hs,rfl⟩:=List.getElem_of_mem hL;have hs':=hs;rw[fV]at hs';have e:(outs l m)[s]=cH (outs l m) s:=by
  unfold cH;rw[List.getD_eq_getElem?_getD,List.getElem?_eq_getElem hs];rfl
 rw[e];have h7:=(C2 hok hs').2.length_eq;have h8:=PY (bA l m m.length) s (2*m.length);have h9:=QO hok hs';simp only[af,ag];refine⟨⟨aa,aa⟩,List.all_eq_true.2 fun x hx=>?_⟩;obtain⟨i,i1,i2,_⟩:=(lB hok hs').1 hx;simp only[af,ag,bT];omega
end
def wZ (p q:Pt):V2:=(p.1 - q.1,p.2 - q.2)
theorem JS (v a b:Pt):bO v a b=cr (wZ a v) (wZ b v):=rfl
theorem qS {a b:Pt}(h:bL a b=true):iV a b = -1:=by
 rw[DR]at h;have h:=of_decide_eq_true h;rcases CO a b with e|e|e <;> omega
theorem UR (a:Pt):iV a a=0:=by
 unfold iV orI jN;simp
theorem yV {s:Sg}(h:bL s.1 s.2=true):bY s=s:=by
 have:=qS h;unfold bY;rw[this];simp
theorem aI1 (a b:Pt):bO a b a=0:=by unfold bO;simp
theorem aAS (a b:Pt):bO a b b=0:=by unfold bO;rw[Int.mul_comm];omega
theorem WL {s t:Sg}(h1:c8 s=true)(h2:c8 t=true)(l1:bL s.1 s.2=true)(l2:bL t.1 t.2=true)(e:s.1=t.1)(hc:bO s.1 s.2 t.2=0):dW s t=4:=by
 unfold dW;rw[if_pos ⟨h1,h2⟩];unfold pC bH;rw[hc,<- e,aI1];rw[if_pos ⟨rfl,rfl⟩];unfold K7 wY;rw[yV l1,yV l2,<- e,UR,if_neg aa];split
 ·rw[e,qS l2];rfl
 rw[qS l1];rfl
theorem aA1 {s t:Sg}(h1:c8 s=true)(h2:c8 t=true)(l1:bL s.1 s.2=true)(l2:bL t.1 t.2=true)(e:s.2=t.2)(hc:bO s.1 s.2 t.1=0):dW s t=4:=by
 unfold dW;rw[if_pos ⟨h1,h2⟩];unfold pC bH;rw[hc,<- e,aAS];rw[if_pos ⟨rfl,rfl⟩];unfold K7 wY;rw[yV l1,yV l2,show iV t.2 s.2=0 by rw[<- e];exact UR _,if_neg (c:=(0:Int)<0) aa];split
 ·rw[e,qS l2];rfl
 rw[qS l1];rfl
section
variable {l:List Pt}{m:List Ed}{n:Int}
theorem sY (hok:eO l m n=true){i:Nat}(hi:i<m.length):c8 (bB l m i)=true/\bL (bB l m i).1 (bB l m i).2=true:=by
 obtain⟨h1,h2,h3⟩:=yP (cE hok) hi;have h4:=JC (cE hok) (i:=(aU m i).a.toNat) (j:=(aU m i).b.toNat) aa aa;have pa:=A1 (cE hok) (i:=(aU m i).a.toNat) aa;have pb:=A1 (cE hok) (i:=(aU m i).b.toNat) aa;refine⟨?_,h4⟩;unfold c8 bF;have hne:fS (bB l m i).1 (bB l m i).2=false:=by
  rw[j7];intro e;have h4:bL (bB l m i).1 (bB l m i).2=true:=h4;rw[e]at h4;simp[bL]at h4
 rw[hne];simp only[af,ag,Bool.not_false,and_true];simp only[bB,fC];omega
theorem aME (hp:fE l m n=true){i k:Nat}(hi:i<m.length)(hk:k<m.length)(hne:i≠k):dW (bB l m i) (bB l m k)≠4\/dW (bB l m k) (bB l m i)≠4:=by
 simp only[fE,af]at hp;rcases Nat.lt_or_ge k i with h|h
 ·have:=eR (f:=fun k=>EH l m i k) (eR (f:=fun i=>oK (fun k=>EH l m i k) i) hp.2 hi) h;simp only[EH,Bool.or_eq_true,ag]at this;exact .inl aa
 have:=eR (f:=fun i=>EH l m k i) (eR (f:=fun i=>oK (fun k=>EH l m i k) i) hp.2 hk) (aa:i<k);simp only[EH,Bool.or_eq_true,ag]at this;exact .inr aa
theorem QG (l:List Pt)(m:List Ed){i:Nat}(hi:i<2*m.length):gG (cV (bA l m m.length) i)=wZ (fC l (cV (bA l m m.length) i).tt) (fC l (cV (bA l m m.length) i).fr):=by
 rcases pE (l:=l) (m:=m) hi with⟨e,h⟩|⟨e,h⟩
 ·rw[h];rfl
 rw[h];rfl
theorem aAO {a b:V2}(h:ray a b):(0<a.1\/a.1=0/\0<a.2)->¬(b.1<0\/b.1=0/\b.2<0):=by
 obtain⟨h1,h2⟩:=h;unfold cr at h1;unfold dt at h2;rintro h3 h4;rcases h3 with h3|⟨h3,h3'⟩
 ·rcases h4 with h4|⟨h4,h4'⟩
  ·-- b=(b1/a1) a,so that both products are negative
   have k1:a.1*b.1<0:=Int.mul_neg_of_pos_of_neg h3 h4;have k2:a.1*(a.2*b.2)=a.2*a.2*b.1:=by
    have:a.1*b.2=a.2*b.1:=aa;rw[Int.mul_left_comm,this,<- Int.mul_assoc]
   have k3:a.2*a.2*b.1<=0:=Int.mul_nonpos_of_nonneg_of_nonpos (sq0 a.2) (Int.le_of_lt h4);have k4:0<a.2*b.2:=aa;have k5:=Int.mul_pos h3 k4;omega
  rw[h4]at h1 h2;have:a.1*b.2<0:=Int.mul_neg_of_pos_of_neg h3 h4';simp only[Int.mul_zero]at h1;omega
 rw[h3]at h1 h2;rcases h4 with h4|⟨h4,h4'⟩
 ·have:a.2*b.1<0:=Int.mul_neg_of_pos_of_neg h3' h4;simp only[Int.zero_mul]at h1;omega
 have:a.2*b.2<0:=Int.mul_neg_of_pos_of_neg h3' h4';simp only[Int.zero_mul]at h2;omega
theorem aB8 (hok:eO l m n=true){i:Nat}(hi:i<2*m.length):(i % 2=0->0<(gG (cV (bA l m m.length) i)).1\/(gG (cV (bA l m m.length) i)).1=0/\0<(gG (cV (bA l m m.length) i)).2)/\(i % 2=1->(gG (cV (bA l m m.length) i)).1<0\/(gG (cV (bA l m m.length) i)).1=0/\(gG (cV (bA l m m.length) i)).2<0):=by
 have h4:=(sY hok (i:=i / 2) aa).2;unfold bL at h4;simp only[Bool.or_eq_true,af,ag]at h4;simp only[bB]at h4;rcases pE (l:=l) (m:=m) hi with⟨e,h⟩|⟨e,h⟩
 ·rw[h];simp only[gG,dA];omega
 rw[h];simp only[gG,dB];omega
theorem SM {a b:V2}(h:ray a b):ray b a:=by
 obtain⟨h1,h2⟩:=h;refine⟨by rw[gP];omega,?_⟩;unfold dt at *;rw[Int.mul_comm b.1,Int.mul_comm b.2];exact h2
theorem aIW (hp:fE l m n=true){i k:Nat}(hi:i<2*m.length)(hk:k<2*m.length)(hf:(cV (bA l m m.length) i).fr=(cV (bA l m m.length) k).fr)(hr:ray (gG (cV (bA l m m.length) i)) (gG (cV (bA l m m.length) k))):i=k:=by
 have hok:=eC hp;have x1:=aB8 hok hi;have x2:=aB8 hok hk;have r1:=aAO hr;have r2:=aAO (SM hr);obtain⟨o1,o2⟩:=sY hok (i:=i / 2) aa;obtain⟨o3,o4⟩:=sY hok (i:=k / 2) aa;have par:i % 2=k % 2:=by
  rcases Nat.mod_two_eq_zero_or_one i with e|e <;> rcases Nat.mod_two_eq_zero_or_one k with e'|e'
  ·omega
  ·exact absurd (x2.2 e') (r1 (x1.1 e))
  ·exact absurd (x1.2 e) (r2 (x2.1 e'))
  omega
 by_cases he:i / 2=k / 2
 ·omega
 exfalso;have hm:=aME hp (i:=i / 2) (k:=k / 2) aa aa he;have d1:=QG l m hi;have d2:=QG l m hk;rcases pE (l:=l) (m:=m) hi with⟨e,h⟩|⟨e,h⟩ <;> rcases pE (l:=l) (m:=m) hk with⟨e',h'⟩|⟨e',h'⟩
 ·rw[h,h']at hf hr;have hv:(bB l m (i / 2)).1=(bB l m (k / 2)).1:=(by show fC l _=fC l _;exact congrArg (fC l) hf);have hc:bO (bB l m (i / 2)).1 (bB l m (i / 2)).2 (bB l m (k / 2)).2=0:=by
   rw[JS];have:=hr.1;rw[show wZ (bB l m (k / 2)).2 (bB l m (i / 2)).1=gG (dA l m (k / 2)) by rw[hv];rfl];exact this
  have hc':bO (bB l m (k / 2)).1 (bB l m (k / 2)).2 (bB l m (i / 2)).2=0:=by
   rw[JS];have:=(SM hr).1;rw[show wZ (bB l m (i / 2)).2 (bB l m (k / 2)).1=gG (dA l m (i / 2)) by rw[<- hv];rfl];exact this
  rcases hm with hm|hm
  ·exact hm (WL o1 o3 o2 o4 hv hc)
  exact hm (WL o3 o1 o4 o2 hv.symm hc')
 ·omega
 ·omega
 rw[h,h']at hf hr;have hv:(bB l m (i / 2)).2=(bB l m (k / 2)).2:=(by show fC l _=fC l _;exact congrArg (fC l) hf);have key:∀(v a b:Pt),cr (wZ a v) (wZ b v)=0->bO a v b=0:=fun v a b hh=>by
  unfold cr wZ at hh;unfold bO;simp only[Int.mul_sub,Int.sub_mul]at *;rw[Int.mul_comm v.2 v.1,Int.mul_comm v.2 b.1,Int.mul_comm v.2 a.1]at *;rw[Int.mul_comm a.2 b.1]at *;rw[Int.mul_comm a.2 v.1]at *;rw[Int.mul_comm a.2 a.1]at *;omega
 have hc:bO (bB l m (i / 2)).1 (bB l m (i / 2)).2 (bB l m (k / 2)).1=0:=by
  refine key _ _ _ ?_;have:=hr.1;rw[show wZ (bB l m (k / 2)).1 (bB l m (i / 2)).2=gG (dB l m (k / 2)) by rw[hv];rfl];exact this
 have hc':bO (bB l m (k / 2)).1 (bB l m (k / 2)).2 (bB l m (i / 2)).1=0:=by
  refine key _ _ _ ?_;have:=(SM hr).1;rw[show wZ (bB l m (i / 2)).1 (bB l m (k / 2)).2=gG (dB l m (i / 2)) by rw[<- hv];rfl];exact this
 rcases hm with hm|hm
 ·exact hm (aA1 o1 o3 o2 o4 hv hc)
 exact hm (aA1 o3 o1 o4 o2 hv.symm hc')
end
theorem VK (v u w x:Pt):tF v u w x=true↔NF (wZ u v) (wZ w v) (wZ x v):=by
 have h1:∀ a b,GO v a b=rk (wZ a v) (wZ b v):=fun a b=>rfl;unfold tF NF;rw[h1,h1,JS];split
 ·rename_i e;rw[decide_eq_true_iff];constructor
  ·exact fun h=>.inr ⟨e,h⟩
  rintro(h|⟨_,h⟩)
  ·omega
  exact h
 rename_i e;rw[decide_eq_true_iff];constructor
 ·exact fun h=>.inl h
 rintro(h|⟨h,_⟩)
 ·exact h
 exact absurd h e
section
variable {l:List Pt}{m:List Ed}{n:Int}
abbrev N0 (l:List Pt)(m:List Ed)(x:Int):V2:=gG (cV (bA l m m.length) x.toNat)
theorem aGu (hp:fE l m n=true){s:Nat}(hs:s<l.length){i j:Nat}(hij:i<j)(hj:j<(cH (outs l m) s).length):BZ (N0 l m (aG (cH (outs l m) s) i)) (N0 l m (aG (cH (outs l m) s) j)):=by
 have hok:=eC hp;have hso:=(C2 (cE hok) hs).1 i j (Nat.zero_le _) hij hj;obtain⟨a,a1,a2,a3⟩:=(lB (cE hok) hs).1 (at_mem ((aa:i<(cH (outs l m) s).length)));obtain⟨b,b1,b2,b3⟩:=(lB (cE hok) hs).1 (at_mem hj);have hne:a≠b:=fun e=>by
  have:=CV (JF (cE hok) hs) (aa:i<_) hj (by rw[a2,b2,e]);omega
 have hM:=(qG hok).1;have fa:=oZ (l:=l) hM a1;have fb:=oZ (l:=l) hM b1;have na:=EJ (cE hok) a1;have nb:=EJ (cE hok) b1;unfold BP at hso;rw[a2,b2]at hso ⊢;show BZ (gG (cV (bA l m m.length) ((a:Int)).toNat)) (gG (cV (bA l m m.length) ((b:Int)).toNat));rw[Int.toNat_natCast,Int.toNat_natCast];rcases aCH na nb (fun hr=>hne (aIW hp a1 b1 aa hr))with h|h
 ·exact h
 exfalso;rw[(y5 _ _ _).2 (by rw[Int.toNat_natCast,Int.toNat_natCast];exact h)]at hso;cases hso
theorem aHA (hp:fE l m n=true){d:Int}(h0:0<=d)(h1:d<(2*m.length:Nat)){x:Nat}(hx:x<2*m.length)(hfx:(cV (bA l m m.length) x).fr=(cV (bA l m m.length) d.toNat).tt)(hne:(x:Int)≠BY (bA l m m.length) (outs l m) d) :
  NF (N0 l m (gR d)) (N0 l m (BY (bA l m m.length) (outs l m) d)) (N0 l m x):=by
 have hok:=eC hp;obtain⟨s,a,e1,hs,e2,ha,e3,e4,e5⟩:=yF (cE hok) h0 h1;have hb:=I4 (E:=m.length) h0 h1;have hmem:(x:Int)∈cH (outs l m) s:=(lB (cE hok) hs).2 ⟨x,hx,rfl,by rw[hfx,e1]⟩;obtain⟨q,hq,hqe⟩:=List.getElem_of_mem hmem;rw[<- fK hq]at hqe;have hord:∀{i j:Nat},i<j->j<(cH (outs l m) s).length->BZ (N0 l m (aG (cH (outs l m) s) i)) (N0 l m (aG (cH (outs l m) s) j)):=fun hij hj=>aGu hp hs hij hj;have hnz:∀{i:Nat},i<(cH (outs l m) s).length->nz (N0 l m (aG (cH (outs l m) s) i)):=fun{i} hi=>by
  obtain⟨c,c1,c2,_⟩:=(lB (cE hok) hs).1 (at_mem hi);rw[c2];show nz (gG (cV (bA l m m.length) ((c:Int)).toNat));rw[Int.toNat_natCast];exact EJ (cE hok) c1
 rw[e5]at hne ⊢;rw[<- e4,<- hqe];rw[<- hqe]at hne;generalize cH (outs l m) s=L at *;by_cases ha0:a=0
 ·rw[if_pos ha0]at hne ⊢;have hqn:q≠L.length - 1:=fun e=>hne (by rw[e]);subst ha0;by_cases hq0:q=0
  ·rw[hq0];exact O7 (hnz ha) (hnz aa) (.inl (hord aa aa))
  exact three (hnz ha) (hnz aa) (hnz hq) (.inl ⟨hord aa hq,hord aa aa,hord aa aa⟩)
 rw[if_neg ha0]at hne ⊢;have hqn:q≠a - 1:=fun e=>hne (by rw[e]);by_cases hqa:q=a
 ·rw[hqa];exact O7 (hnz ha) (hnz aa) (.inr (hord aa ha))
 ·rcases Nat.lt_or_ge q a with h|h
  ·exact three (hnz ha) (hnz aa) (hnz hq) (.inr (.inr ⟨hord aa aa,hord aa ha,hord aa ha⟩))
  exact three (hnz ha) (hnz aa) (hnz hq) (.inr (.inl ⟨hord aa ha,hord aa hq,hord aa hq⟩))
theorem IL (l:List Pt)(m:List Ed){d:Int}(h0:0<=d)(h1:d<(2*m.length:Nat)):dD m d=(cV (bA l m m.length) d.toNat).fr/\j0 m d=(cV (bA l m m.length) d.toNat).tt:=by
 have key:∀{e:Int},0<=e->e<(2*m.length:Nat)->dD m e=(cV (bA l m m.length) e.toNat).fr:=fun{e} he0 he1=>by
  unfold dD;rcases pE (l:=l) (m:=m) (N:=m.length) (i:=e.toNat) aa with⟨x,h⟩|⟨x,h⟩
  ·rw[h,if_pos aa,(aa:(e / 2).toNat=e.toNat / 2)];rfl
  rw[h,if_neg aa,(aa:(e / 2).toNat=e.toNat / 2)];rfl
 refine⟨key h0 h1,?_⟩;have hb:=I4 (E:=m.length) h0 h1;unfold j0;rw[show d+1 - 2*(d % 2)=gR d by unfold gR;split <;> omega,key hb.1 hb.2];exact(RW l m h0 h1).1
theorem aEf (hp:fE l m n=true){d:Int}(h0:0<=d)(h1:d<(2*m.length:Nat)){k:List Bool}(hk:∀ i,i<2*m.length->dG k i=true):iX l m k d (2*m.length)=BY (bA l m m.length) (outs l m) d:=by
 have hok:=eC hp;have hM:=(qG hok).1;have hn:=OK (cE hok) h0 h1;have hfd:=IL l m h0 h1;have hbd:=RW l m h0 h1;have hb:=I4 (E:=m.length) h0 h1;have hfr:=oZ (l:=l) hM (i:=d.toNat) aa;obtain⟨Y,hY⟩:∃ Y:Nat,BY (bA l m m.length) (outs l m) d=Y:=⟨(BY (bA l m m.length) (outs l m) d).toNat,aa⟩;have hYl:Y<2*m.length:=aa;have hYf:=oZ (l:=l) hM hYl;have hfY:(cV (bA l m m.length) Y).fr=(cV (bA l m m.length) d.toNat).tt:=by
  have:=hn.2.2;rw[hY,Int.toNat_natCast]at this;omega
 -- a dart's direction from the point
 have hv:∀{x:Nat},x<2*m.length->(cV (bA l m m.length) x).fr=(cV (bA l m m.length) d.toNat).tt->wZ (fC l (j0 m x)) (fC l (j0 m d))=N0 l m x:=fun{x} hx hf=>by
  have e:=IL l m (d:=(x:Int)) aa aa;have e2:=QG l m hx;rw[hf]at e2;show _=gG (cV (bA l m m.length) ((x:Int)).toNat);rw[Int.toNat_natCast,e2,e.2,hfd.2,Int.toNat_natCast]
 have hu:wZ (fC l (dD m d)) (fC l (j0 m d))=N0 l m (gR d):=by
  have e2:=QG l m (i:=(gR d).toNat) aa;rw[hbd.1,hbd.2.1]at e2;rw[hfd.1,hfd.2];exact e2.symm
 have hc:∀{x:Nat},x<2*m.length->(dD m x=j0 m d↔(cV (bA l m m.length) x).fr=(cV (bA l m m.length) d.toNat).tt):=fun{x} hx=>by
  rw[(IL l m (d:=(x:Int)) aa aa).1,hfd.2,Int.toNat_natCast]
 have hsoon:∀{x:Nat},x<2*m.length->(cV (bA l m m.length) x).fr=(cV (bA l m m.length) d.toNat).tt->x≠Y->tF (fC l (j0 m d)) (fC l (dD m d)) (fC l (j0 m Y)) (fC l (j0 m x))=true/\tF (fC l (j0 m d)) (fC l (dD m d)) (fC l (j0 m x)) (fC l (j0 m Y))=false:=fun{x} hx hf hne=>by
  have h:=aHA hp h0 h1 hx hf (by rw[hY];omega);rw[hY]at h;refine⟨(VK _ _ _ _).2 (by rw[hu,hv hYl hfY,hv hx hf];exact h),?_⟩;cases hq:tF (fC l (j0 m d)) (fC l (dD m d)) (fC l (j0 m x)) (fC l (j0 m Y))with
  |false=>rfl
  |true =>
   have:=(VK _ _ _ _).1 hq;rw[hu,hv hYl hfY,hv hx hf]at this;exact absurd this (YP h)
 have key:∀ j,j<=2*m.length->(Y<j->iX l m k d j=Y)/\(j<=Y->iX l m k d j = -1\/∃ c:Nat,c<j/\iX l m k d j=c/\(cV (bA l m m.length) c).fr=(cV (bA l m m.length) d.toNat).tt):=by
  intro j
  induction j with
  |zero=>exact fun _=>⟨fun h=>by omega,fun _=>.inl rfl⟩
  |succ j ih =>
   intro hj;obtain⟨i1,i2⟩:=ih aa;rcases Nat.lt_trichotomy j Y with h|h|h
   ·refine⟨fun h'=>by omega,fun _=>?_⟩;unfold iX;split
    ·rename_i hc';exact .inr ⟨j,Nat.lt_succ_self j,rfl,(hc aa).1 hc'.1.2⟩
    ·rcases i2 aa with e|⟨c,c1,c2,c3⟩
     ·exact .inl e
     exact .inr ⟨c,aa,c2,c3⟩
   ·subst h;refine⟨fun _=>?_,fun h'=>by omega⟩;refine aLM ⟨⟨hk j hYl,(hc hYl).2 hfY⟩,?_⟩;rcases i2 (ah _)with e|⟨c,c1,c2,c3⟩
    ·exact .inl aa
    rw[c2];exact .inr (hsoon aa c3 aa).1
   refine⟨fun _=>?_,fun h'=>by omega⟩;rw[aJp (fun hh=>?_),i1 h];obtain⟨⟨_,q1⟩,q2⟩:=hh;rw[i1 h]at q2;rcases q2 with q2|q2
   ·omega
   rw[(hsoon aa ((hc aa).1 q1) aa).2]at q2;cases q2
 rw[(key _ (ah _)).1 hYl,hY]
end
theorem rS (of w:List Int)(fc:Int)(hw:∀ t,t<w.length->(aG w t).toNat<of.length)(i:Nat):∀ k,k<=w.length->((∃ t,t<k/\(aG w t).toNat=i)->aG (cX of w fc k) i=fc)/\((¬ ∃ t,t<k/\(aG w t).toNat=i)->aG (cX of w fc k) i=aG of i)
 |0,_=>⟨fun⟨t,h,_⟩=>by omega,fun _=>rfl⟩
 |k+1,hk=>by
  obtain⟨i1,i2⟩:=rS of w fc hw i k aa;have hs:=lR (cX of w fc k) (aG w k).toNat fc i (by rw[fA];exact hw k aa);unfold cX;rw[hs];by_cases e:i=(aG w k).toNat
  ·rw[if_pos e];exact⟨fun _=>rfl,fun h=>absurd ⟨k,Nat.lt_succ_self k,e.symm⟩ h⟩
  rw[if_neg e];refine⟨fun⟨t,h1,h2⟩=>i1 ⟨t,?_,h2⟩,fun h=>i2 fun⟨t,h1,h2⟩=>h ⟨t,aa,h2⟩⟩;rcases Nat.lt_or_ge t k with h|h
  ·exact h
  exact absurd (by rw[<- h2,(aa:t=k)]) e
theorem pG (L:List Bool)(x:Nat)(v:Bool)(i:Nat)(hx:x<L.length):dG (L.set x v) i=if i=x then v else dG L i:=by
 unfold dG;rw[List.getD_eq_getElem?_getD,List.getD_eq_getElem?_getD,List.getElem?_set];by_cases h:x=i
 ·subst h;simp[hx]
 rw[if_neg h,if_neg (fun e=>h e.symm)]
theorem rT (s:List Bool)(w:List Int)(hw:∀ t,t<w.length->(aG w t).toNat<s.length)(i:Nat):∀ k,k<=w.length->((∃ t,t<k/\(aG w t).toNat=i)->dG (dP s w k) i=true)/\((¬ ∃ t,t<k/\(aG w t).toNat=i)->dG (dP s w k) i=dG s i)
 |0,_=>⟨fun⟨t,h,_⟩=>by omega,fun _=>rfl⟩
 |k+1,hk=>by
  obtain⟨i1,i2⟩:=rT s w hw i k aa;have hs:=pG (dP s w k) (aG w k).toNat true i (by rw[jL];exact hw k aa);unfold dP;rw[hs];by_cases e:i=(aG w k).toNat
  ·rw[if_pos e];exact⟨fun _=>rfl,fun h=>absurd ⟨k,Nat.lt_succ_self k,e.symm⟩ h⟩
  rw[if_neg e];refine⟨fun⟨t,h1,h2⟩=>i1 ⟨t,?_,h2⟩,fun h=>i2 fun⟨t,h1,h2⟩=>h ⟨t,aa,h2⟩⟩;rcases Nat.lt_or_ge t k with h|h
  ·exact h
  exact absurd (by rw[<- h2,(aa:t=k)]) e
theorem aAL {f:Int->Int}{d:Int}{N T:Nat}:∀{k i:Nat},i<=T->T<=i+k->(∀ t,i<=t->t<T->o8 f d N t=true)->o8 f d N T=false->xJ f d N k i=T
 |0,i,h1,h2,_,_=>by unfold xJ;omega
 |k+1,i,h1,h2,h3,h4=>by
  unfold xJ;by_cases e:i=T
  ·rw[e,h4];rfl
  rw[h3 i (ah _) aa,if_pos rfl];exact aAL aa aa (fun t a b=>h3 t aa b) h4
section
variable {l:List Pt}{m:List Ed}{n:Int}
theorem aGi {E i:Nat}(h:i<E):dG (List.replicate E true) i=true:=by
 unfold dG;rw[List.getD_eq_getElem?_getD,List.getElem?_replicate,if_pos h];rfl
theorem aGY (hp:fE l m n=true){d:Nat}(hd:d<2*m.length):m0 l m (List.replicate (2*m.length) true) d=zY (bA l m m.length) (outs l m) d:=by
 have hok:=eC hp;have hin:=wD (cE hok) (d:=(d:Int)) aa aa;have hx:∀ i,tA (LP l m (List.replicate (2*m.length) true)) d i=j3 (bA l m m.length) (outs l m) d (i+1):=by
  intro i
  induction i with
  |zero=>exact aEf hp aa aa (fun i hi=>aGi hi)
  |succ i ih =>
   unfold tA;rw[ih];have:=hin (i+1);exact aEf hp this.1 this.2 (fun i hi=>aGi hi)
 have hw:=List.all_eq_true.1 (FA (cE hok)) d (List.mem_range.2 (by rw[bT];exact hd));have hw:=of_decide_eq_true hw;obtain⟨p1,p2,p3⟩:=oE (bA l m m.length) (outs l m) d (bA l m m.length).length 1;unfold zY;unfold m5 at hw ⊢;generalize LO (bA l m m.length) (outs l m) d (bA l m m.length).length 1=T at *;rw[bT]at p2;have hN:xJ (LP l m (List.replicate (2*m.length) true)) d (2*m.length) (2*m.length+2) 0=T - 1:=by
  refine aAL (Nat.zero_le _) aa (fun t _ ht=>?_) ?_
  ·unfold o8;rw[hx];have a:=hin (t+1);have b:=p3 (t+1) aa aa;rw[aj b,ai a.1,ai (aa:t<=2*m.length)];rfl
  unfold o8;rw[hx,(aa:T - 1+1=T),hw,ai rfl];rfl
 unfold m0;rw[hN];unfold HG;apply List.ext_getElem?;intro i;cases i with
 |zero =>
  rw[List.getElem?_cons_zero,List.getElem?_map,List.getElem?_range aa];rfl
 |succ i =>
  rw[List.getElem?_cons_succ,List.getElem?_map,List.getElem?_map];by_cases h:i<T - 1
  ·rw[List.getElem?_range h,List.getElem?_range aa];simp only[Option.map_some];rw[hx]
  rw[List.getElem?_eq_none (by rw[List.length_range];omega),List.getElem?_eq_none (by rw[List.length_range];omega)];rfl
theorem aBO (l:List Pt)(m:List Ed){w:List Int}(hw:inR (bA l m m.length) w=true):∀ k,k<=w.length->qE l m w k=NC l (bA l m m.length) w k
 |0,_=>rfl
 |k+1,h=>by
  unfold qE NC;rw[aBO l m hw k aa];have hk:=qW hw (i:=k) aa;rw[bT]at hk;have:=IL l m hk.1 aa;unfold TI crI fC;rw[this.1,this.2]
structure Fre (m:List Ed) (s:Fst) (t:IW):Prop where
 len:s.of.length=2*m.length
 seen:t.seen.length=2*m.length
 face:t.face.length=2*m.length
 of:∀ i,i<2*m.length->(dG t.seen i=true/\0<=aG s.of i/\aG s.of i=aG t.face i)\/(dG t.seen i=false/\aG s.of i<0)
 many:s.faces=t.many
 low:0<=t.many
 out:s.outside=t.out
 ok:s.ok=!t.flat
theorem aDU (hp:fE l m n=true){s:Fst}{t:IW}(h:Fre m s t){d:Nat}(hd:d<2*m.length):Fre m (sS l m s d) (jU l (bA l m m.length) (outs l m) t d)/\dG (jU l (bA l m m.length) (outs l m) t d).seen d=true/\∀ i,dG t.seen i=true->i<2*m.length->dG (jU l (bA l m m.length) (outs l m) t d).seen i=true:=by
 have hok:=eC hp;unfold sS jU;rcases h.of d hd with⟨h1,h2,h3⟩|⟨h1,h2⟩
 ·rw[if_pos h2,if_pos h1];exact⟨h,h1,fun i hi _=>hi⟩
 rw[if_neg aa,if_neg (by rw[h1];decide)];simp only;rw[aGY hp hd];have w:=Y7 (l:=l) (W9 (cE hok)) (d:=d) (by rw[bT];exact hd);have hfirst:aG (zY (bA l m m.length) (outs l m) d) 0=d:=by
  unfold zY;unfold aG;rw[List.getD_eq_getElem?_getD,List.getElem?_map,List.getElem?_range (by
   have:=(oE (bA l m m.length) (outs l m) d (bA l m m.length).length 1).1;unfold m5;omega)]
  rfl
 generalize zY (bA l m m.length) (outs l m) d=W at w hfirst ⊢;rw[aBO l m w.1 _ (ah _),h.many,h.out,h.ok];generalize NC l (bA l m m.length) W W.length=A;have hr:∀ t,t<W.length->(aG W t).toNat<2*m.length:=fun t ht=>by
  have:=qW w.1 (i:=t) ht;rw[bT]at this;omega
 have hset:∀ fc:Int,0<=fc->∀ i,i<2*m.length->(dG (dP t.seen W W.length) i=true/\0<=aG (cX s.of W fc W.length) i/\aG (cX s.of W fc W.length) i=aG (cX t.face W fc W.length) i)\/(dG (dP t.seen W W.length) i=false/\aG (cX s.of W fc W.length) i<0):=fun fc hfc i hi=>by
  obtain⟨a1,a2⟩:=rS s.of W fc (by rw[h.len];exact hr) i _ (ah _);obtain⟨b1,b2⟩:=rS t.face W fc (by rw[h.face];exact hr) i _ (ah _);obtain⟨c1,c2⟩:=rT t.seen W (by rw[h.seen];exact hr) i _ (ah _);by_cases e:∃ k,k<W.length/\(aG W k).toNat=i
  ·rw[a1 e,b1 e,c1 e];exact .inl ⟨rfl,hfc,rfl⟩
  rw[a2 e,b2 e,c2 e];exact h.of i hi
 refine⟨⟨by rw[fA];exact h.len,by rw[jL];exact h.seen,by rw[fA];exact h.face,?_,rfl,?_,?_,?_⟩,?_,?_⟩
 ·have:=h.low;by_cases hA:0<A
  ·simp only[if_pos hA];exact hset _ aa
  simp only[if_neg hA];exact hset _ aa
 ·have:=h.low;show 0<=if 0<A then t.many+1 else t.many
  split <;> omega
 ·show(if A<0 then t.out+1 else t.out)=if 0<A then t.out else if A<0 then t.out+1 else t.out
  split <;> split <;> (first|rfl|omega)
 ·show(if A=0 then false else !t.flat)=!(if 0<A then t.flat else if A<0 then t.flat else true);by_cases hA:0<A
  ·rw[if_pos hA,if_neg aa]
  by_cases hA2:A<0
  ·rw[if_neg hA,if_pos hA2,if_neg aa]
  rw[if_neg hA,if_neg hA2,if_pos aa];rfl
 ·exact(rT t.seen W (by rw[h.seen];exact hr) d _ (ah _)).1 ⟨0,aa,by rw[hfirst];rfl⟩
 intro i hi hi2;obtain⟨c1,c2⟩:=rT t.seen W (by rw[h.seen];exact hr) i _ (ah _);by_cases e:∃ k,k<W.length/\(aG W k).toNat=i
 ·exact c1 e
 show dG (dP t.seen W W.length) i=true;rw[c2 e];exact hi
theorem QV (hp:fE l m n=true):∀ d,d<=2*m.length->Fre m (lD l m d) (bR l (bA l m m.length) (outs l m) d)/\∀ i,i<d->dG (bR l (bA l m m.length) (outs l m) d).seen i=true
 |0,_=>by
  refine⟨⟨by simp[lD],by simp[bR,bT],by simp[bR,bT],fun i hi=>.inr ?_,rfl,Int.le_refl 0,rfl,rfl⟩,fun i hi=>by omega⟩;unfold lD bR dG aG;rw[List.getD_eq_getElem?_getD,List.getD_eq_getElem?_getD,List.getElem?_replicate,List.getElem?_replicate,bT,if_pos hi,if_pos hi];exact⟨rfl,by decide⟩
 |d+1,h=>by
  obtain⟨i1,i2⟩:=QV hp d aa;obtain⟨a1,a2,a3⟩:=aDU hp i1 (d:=d) aa;refine⟨a1,fun i hi=>?_⟩;by_cases e:i=d
  ·rw[e];exact a2
  exact a3 i (i2 i aa) aa
theorem XD {f g:Nat->Bool}{n:Nat}(h:∀ i,i<n->f i=g i):oK f n=oK g n:=by
 rw[Bool.eq_iff_iff];exact⟨fun a=>eN fun i hi=>by rw[<- h i hi];exact eR a hi,fun a=>eN fun i hi=>by rw[h i hi];exact eR a hi⟩
theorem aIJ (hp:fE l m n=true):(nC (bG l m)&&(decide ((bG l m).many=n)&&oK (KT l m) m.length))=(vC (cQ l m)&&(decide ((cQ l m).faces=n)&&oK (faB m (cQ l m).of) m.length)):=by
 obtain⟨_,_,_,_,_,hn,_⟩:=qG (eC hp);obtain⟨h1,h2⟩:=QV hp (2*m.length) (ah _);have e:bG l m=bR l (bA l m m.length) (outs l m) (2*m.length):=by
  unfold bG ZW;rw[bT]
 have hof:∀ i,i<2*m.length->aG (cQ l m).of i=aG (bG l m).face i:=fun i hi=>by
  rw[e];rcases h1.of i hi with⟨_,_,h⟩|⟨h,_⟩
  ·exact h
  rw[h2 i hi]at h;cases h
 have hall:oK (KT l m) m.length=oK (faB m (cQ l m).of) m.length:=by
  refine XD fun i hi=>?_;unfold KT faB;rw[hof (2*i) aa,hof (2*i+1) aa]
 rw[hall];unfold nC vC;have k1:(cQ l m).faces=(bG l m).many:=(by rw[e];exact h1.many);have k2:(cQ l m).outside=(bG l m).out:=(by rw[e];exact h1.out);have k3:(cQ l m).ok=!(bG l m).flat:=(by rw[e];exact h1.ok);rw[k1,k2,k3];by_cases hc:(bG l m).many=n
 ·rw[ai hc,ai (aa:1<=(bG l m).many)];cases decide ((bG l m).out=1) <;> cases(bG l m).flat <;> rfl
 rw[aj hc];simp
end
def LW (S T:List Bool):Prop:=∀ i,dG S i=true->dG T i=true
theorem LW.refl (S:List Bool):LW S S:=fun _ h=>h
theorem LW.trans {A B C:List Bool}(h1:LW A B)(h2:LW B C):LW A C:=fun i h=>h2 i (h1 i h)
theorem aBN:∀{S T:List Bool},T.length=S.length->LW S T->jH T<=jH S/\(jH T=jH S->T=S)
 |[],[],_,_=>⟨ah _,fun _=>rfl⟩
 |[],_::_,h,_=>by simp at h
 |_::_,[],h,_=>by simp at h
 |a::S,b::T,hl,h=>by
  obtain⟨i1,i2⟩:=aBN (S:=S) (T:=T) (by simpa using hl) fun i hi=>h (i+1) hi;have h0:a=true->b=true:=h 0;unfold jH at *;simp only[List.countP_cons];cases a <;> cases b <;> simp at h0 ⊢
  ·exact⟨aa,fun e=>i2 aa⟩
  ·omega
  exact⟨i1,i2⟩
theorem aDA {S:List Bool}{i:Nat}(h:S.length<=i):dG S i=false:=by
 unfold dG;rw[List.getD_eq_getElem?_getD,List.getElem?_eq_none h];rfl
theorem QA (S:List Bool)(p:Nat):LW S (S.set p true):=fun i hi=>by
 by_cases h:p<S.length
 ·rw[pG _ _ _ _ h];split
  ·rfl
  exact hi
 rw[List.set_eq_of_length_le aa];exact hi
section
variable {D:List Dt}{ls:List (List Int)}{nP:Nat}
theorem OQ (hL:∀ q,∀ x∈cH ls q,pI D x<nP):∀(n:Nat) (S:List Bool) (p:Nat),S.length=nP->p<nP->dG S p=false->jH S<=n ->
  LW S (IF D ls n S p)/\dG (IF D ls n S p) p=true/\∀ q,dG (IF D ls n S p) q=true->dG S q=false->∀ x∈cH ls q,dG (IF D ls n S p) (pI D x)=true
 |0,S,p,h1,h2,h3,h4=>by have:=aAm aa h3;omega
 |n+1,S,p,h1,h2,h3,h4=>by
  have hcs:=SH (S:=S) (p:=p) aa h3
  have key:∀(L:List Int) (M:List Bool),M.length=nP->jH M<=n->(∀ x∈L,pI D x<nP) ->
    LW M (L.foldl (fun S x=>if dG S (pI D x)=true then S else IF D ls n S (pI D x)) M)/\(∀ x∈L,dG (L.foldl (fun S x=>if dG S (pI D x)=true then S else IF D ls n S (pI D x)) M) (pI D x)=true) /\
    ∀ q,dG (L.foldl (fun S x=>if dG S (pI D x)=true then S else IF D ls n S (pI D x)) M) q=true->dG M q=false->∀ x∈cH ls q,dG (L.foldl (fun S x=>if dG S (pI D x)=true then S else IF D ls n S (pI D x)) M) (pI D x)=true:=by
   intro L
   induction L with
   |nil=>exact fun M _ _ _=>⟨LW.refl M,fun x hx=>(by cases hx),fun q hq hf=>by rw[List.foldl_nil]at hq;rw[hq]at hf;cases hf⟩
   |cons y r ih =>
    intro M hM hc hr;rw[List.foldl_cons];by_cases hy:dG M (pI D y)=true
    ·rw[if_pos hy];obtain⟨k1,k2,k3⟩:=ih M hM hc fun x hx=>hr x (.tail _ hx);refine⟨k1,fun x hx=>?_,k3⟩;rcases List.mem_cons.1 hx with rfl|hx
     ·exact k1 _ hy
     exact k2 x hx
    rw[if_neg hy];have hyf:dG M (pI D y)=false:=(by simpa using hy);obtain⟨v1,v2,v3⟩:=OQ hL n M (pI D y) hM (hr y (.head _)) hyf hc;obtain⟨c1,c2⟩:=K9 D ls n M (pI D y);obtain⟨k1,k2,k3⟩:=ih (IF D ls n M (pI D y)) aa aa fun x hx=>hr x (.tail _ hx);refine⟨v1.trans k1,fun x hx=>?_,fun q hq hf x hx=>?_⟩
    ·rcases List.mem_cons.1 hx with rfl|hx
     ·exact k1 _ v2
     exact k2 x hx
    ·cases hv:dG (IF D ls n M (pI D y)) q with
     |true=>exact k1 _ (v3 q hv hf x hx)
     |false=>exact k3 q hq hv x hx
  obtain⟨k1,k2,k3⟩:=key (cH ls p) (S.set p true) (by rw[List.length_set];exact h1) aa (hL p);have hp0:dG (S.set p true) p=true:=(by rw[pG _ _ _ _ aa,if_pos rfl]);show LW S ((cH ls p).foldl _ (S.set p true))/\dG ((cH ls p).foldl _ (S.set p true)) p=true/\∀ q,dG ((cH ls p).foldl _ (S.set p true)) q=true->_;refine⟨(QA S p).trans k1,k1 _ hp0,fun q hq hf x hx=>?_⟩;by_cases e:q=p
  ·rw[e]at hx;exact k2 x hx
  exact k3 q hq (by rw[pG _ _ _ _ aa,if_neg e];exact hf) x hx
theorem aB2 {Z:Nat->Prop}(hZ:∀ q,Z q->∀ x∈cH ls q,Z (pI D x)):∀(n:Nat) (S:List Bool) (p:Nat),(∀ i,dG S i=true->Z i)->Z p->∀ i,dG (IF D ls n S p) i=true->Z i
 |0,S,p,h1,h2=>h1
 |n+1,S,p,h1,h2=>by
  have key:∀(L:List Int) (M:List Bool),(∀ i,dG M i=true->Z i)->(∀ x∈L,Z (pI D x))->∀ i,dG (L.foldl (fun S x=>if dG S (pI D x)=true then S else IF D ls n S (pI D x)) M) i=true->Z i:=by
   intro L
   induction L with
   |nil=>exact fun M h _=>h
   |cons y r ih =>
    intro M hM hr;rw[List.foldl_cons];split
    ·exact ih M hM fun x hx=>hr x (.tail _ hx)
    exact ih _ (aB2 hZ n M (pI D y) hM (hr y (.head _))) fun x hx=>hr x (.tail _ hx)
  exact key (cH ls p) (S.set p true) (fun i hi=>by
   rcases DD _ _ _ hi with e|h
   ·rw[e];exact h2
   exact h1 i h) (hZ p h2)
end
theorem aIm (s:List Bool)(e:Ed):LW s (zT s e):=by
 unfold zT;split
 ·exact(QA s _).trans (QA _ _)
 exact LW.refl s
theorem CI (m:List Ed)(s:List Bool):∀{i j:Nat},i<=j->LW (pO m s i) (pO m s j)
 |i,0,h=>by rw[(aa:i=0)];exact LW.refl _
 |i,j+1,h=>by
  by_cases e:i=j+1
  ·rw[e];exact LW.refl _
  exact(CI m s (aa:i<=j)).trans (aIm _ _)
theorem GM (l:List Pt)(m:List Ed):∀ k,(pO m (eX l m k) m.length=eX l m k)\/jH (eX l m k)+k<=jH (eX l m 0)
 |0=>.inr (ah _)
 |k+1=>by
  rcases GM l m k with h|h
  ·left;have:eX l m (k+1)=eX l m k:=h;rw[this];exact h
  have hl:=yH m (eX l m k) m.length;obtain⟨c1,c2⟩:=aBN hl (CI m (eX l m k) (Nat.zero_le _));by_cases e:jH (pO m (eX l m k) m.length)=jH (eX l m k)
  ·left;have:eX l m (k+1)=eX l m k:=c2 e;rw[this];exact c2 e
  right;show jH (pO m (eX l m k) m.length)+(k+1)<=_;have c1':jH (pO m (eX l m k) m.length)<=jH (eX l m k):=c1;omega
theorem aK7 {n:Nat}(h:1<=n):jH (oY n)+1<=n:=by
 have h1:=xZ n;have h2:jH (oY n)<=(oY n).length:=List.countP_le_length;rcases Nat.lt_or_ge (jH (oY n)) n with h3|h3
 ·omega
 exfalso;have h4:dG (oY n) 0=true:=by
  unfold oY dG;rw[List.getD_eq_getElem?_getD,List.getElem?_map,List.getElem?_range aa];rfl
 have h5:jH (oY n)=(oY n).length:=aa;have h6:=(List.countP_eq_length.1 h5) _ (List.getElem_mem (l:=oY n) (n:=0) aa);rw[sM aa]at h4;rw[h4]at h6;cases h6
section
variable {l:List Pt}{m:List Ed}{n:Int}
theorem aFo (hok:eO l m n=true):sU l m=mK l m:=by
 obtain⟨hM,h3,h1l,h4,h6,_,_⟩:=qG hok;have hdt:∀{i:Nat},i<2*m.length->0<=(cV (bA l m m.length) i).fr/\(cV (bA l m m.length) i).fr<l.length/\0<=(cV (bA l m m.length) i).tt/\(cV (bA l m m.length) i).tt<l.length:=fun{i} hi=>by
  have:=oZ (l:=l) hM hi;omega
 have hls:∀ q,∀ x∈cH (outs l m) q,∃ i:Nat,i<2*m.length/\x=i/\(cV (bA l m m.length) i).fr.toNat=q/\q<l.length:=fun q x hx=>by
  by_cases hq:q<l.length
  ·obtain⟨i,a,b,c⟩:=(lB (cE hok) hq).1 hx;exact⟨i,a,b,c,hq⟩
  exfalso;unfold cH at hx;rw[List.getD_eq_getElem?_getD,List.getElem?_eq_none (by rw[fV];omega)]at hx;cases hx
 have hL:∀ q,∀ x∈cH (outs l m) q,pI (bA l m m.length) x<l.length:=fun q x hx=>by
  obtain⟨i,a,b,_,_⟩:=hls q x hx;have:=hdt a;unfold pI;rw[b,Int.toNat_natCast];omega
 have hS0:∀ i,dG (List.replicate (outs l m).length false) i=false:=fun i=>by
  unfold dG;rw[List.getD_eq_getElem?_getD,List.getElem?_replicate];split <;> rfl
 have hcnt:jH (List.replicate (outs l m).length false)<=1000:=by
  have:jH (List.replicate (outs l m).length false)<=(List.replicate (outs l m).length false).length:=List.countP_le_length;have e:=fV l m;rw[List.length_replicate]at this;omega
 obtain⟨v1,v2,v3⟩:=OQ (nP:=l.length) hL 1000 (List.replicate (outs l m).length false) 0 (by rw[List.length_replicate,fV]) aa (hS0 0) hcnt;have hlen:(gL (bA l m m.length) (outs l m)).length=l.length:=by
  unfold gL;rw[(K9 _ _ _ _ _).2,List.length_replicate,fV]
 have hR:∀ q,dG (gL (bA l m m.length) (outs l m)) q=true->∀ x∈cH (outs l m) q,dG (gL (bA l m m.length) (outs l m)) (pI (bA l m m.length) x)=true:=fun q hq x hx=>v3 q hq (hS0 q) x hx
 -- along an edge,both ways
 have hedge:∀{e:Nat},e<m.length->(2*e:Nat)<2*m.length/\((2*e:Nat):Int)∈cH (outs l m) (aU m e).a.toNat/\pI (bA l m m.length) ((2*e:Nat):Int)=(aU m e).b.toNat/\((2*e+1:Nat):Int)∈cH (outs l m) (aU m e).b.toNat/\pI (bA l m m.length) ((2*e+1:Nat):Int)=(aU m e).a.toNat:=fun{e} he=>by
  obtain⟨d1,d2⟩:=E7 l m he;have hE:=yP (cE hok) he;refine⟨aa,(lB (cE hok) aa).2 ⟨2*e,aa,rfl,by rw[d1];rfl⟩,?_,(lB (cE hok) aa).2 ⟨2*e+1,aa,rfl,by rw[d2];rfl⟩,?_⟩
  ·unfold pI;rw[Int.toNat_natCast,d1];rfl
  unfold pI;rw[Int.toNat_natCast,d2];rfl
 have hcR:∀{e:Nat},e<m.length->(dG (gL (bA l m m.length) (outs l m)) (aU m e).a.toNat=true\/dG (gL (bA l m m.length) (outs l m)) (aU m e).b.toNat=true)->dG (gL (bA l m m.length) (outs l m)) (aU m e).a.toNat=true/\dG (gL (bA l m m.length) (outs l m)) (aU m e).b.toNat=true:=fun{e} he h=>by
  obtain⟨_,a1,a2,a3,a4⟩:=hedge he;rcases h with h|h
  ·exact⟨h,by rw[<- a2];exact hR _ h _ a1⟩
  exact⟨by rw[<- a4];exact hR _ h _ a3,h⟩
 -- the reference's lie in the program's
 have hsub:∀ k,LW (eX l m k) (gL (bA l m m.length) (outs l m)):=by
  intro k
  induction k with
  |zero =>
   intro i hi;have:i=0:=by
    change dG (oY l.length) i=true at hi;by_cases hil:i<l.length
    ·unfold oY dG at hi;rw[List.getD_eq_getElem?_getD,List.getElem?_map,List.getElem?_range hil]at hi;simp at hi;exact hi
    rw[aDA (by rw[xZ];omega)]at hi;cases hi
   rw[this];exact v2
  |succ k ih =>
   have key:∀ j,j<=m.length->LW (pO m (eX l m k) j) (gL (bA l m m.length) (outs l m)):=by
    intro j
    induction j with
    |zero=>exact fun _=>ih
    |succ j jh =>
     intro hj i hi;have jh:=jh aa;unfold pO zT at hi;split at hi
     ·rename_i hc;have hc:=hcR (e:=j) aa (by
       rcases Bool.or_eq_true_iff.1 hc with hc|hc
       ·exact .inl (jh _ hc)
       exact .inr (jh _ hc))
      rcases DD _ _ _ hi with e|hi
      ·rw[e];exact hc.2
      ·rcases DD _ _ _ hi with e|hi
       ·rw[e];exact hc.1
       exact jh _ hi
     exact jh _ hi
   exact key m.length (ah _)
 -- the program's lie in the reference's
 have hst:pO m (eX l m l.length) m.length=eX l m l.length:=by
  rcases GM l m l.length with h|h
  ·exact h
  exfalso;have:=aK7 h1l;have h2:jH (eX l m l.length)+l.length<=jH (oY l.length):=h;omega
 have hcC:∀{e:Nat},e<m.length->(dG (eX l m l.length) (aU m e).a.toNat=true\/dG (eX l m l.length) (aU m e).b.toNat=true)->dG (eX l m l.length) (aU m e).a.toNat=true/\dG (eX l m l.length) (aU m e).b.toNat=true:=fun{e} he h=>by
  have hE:=yP (cE hok) he;have h1:=CI m (eX l m l.length) (Nat.zero_le e);have h2:=CI m (eX l m l.length) (aa:e+1<=m.length);rw[hst]at h2;have hlen':(pO m (eX l m l.length) e).length=l.length:=(by rw[yH,B7]);have h3:pO m (eX l m l.length) (e+1)=zT (pO m (eX l m l.length) e) (aU m e):=rfl;have hc:(dG (pO m (eX l m l.length) e) (aU m e).a.toNat || dG (pO m (eX l m l.length) e) (aU m e).b.toNat)=true:=by
   rcases h with h|h
   ·rw[h1 _ h];rfl
   rw[h1 _ h,Bool.or_true]
  rw[h3,zT,if_pos hc]at h2;exact⟨h2 _ (by rw[pG _ _ _ _ (by rw[List.length_set];omega)];split <;> first|rfl|rw[pG _ _ _ _ aa,if_pos rfl]),h2 _ (by rw[pG _ _ _ _ (by rw[List.length_set];omega),if_pos rfl])⟩
 have hsup:LW (gL (bA l m m.length) (outs l m)) (eX l m l.length):=by
  refine aB2 (Z:=fun i=>dG (eX l m l.length) i=true) (fun q hq x hx=>?_) 1000 _ 0 (fun i hi=>by rw[hS0]at hi;cases hi) ?_
  ·obtain⟨i,a,b,c,d⟩:=hls q x hx;rw[b];show dG (eX l m l.length) (pI (bA l m m.length) (i:Int))=true;unfold pI;rw[Int.toNat_natCast];rcases pE (l:=l) (m:=m) a with⟨_,h⟩|⟨_,h⟩
   ·rw[h]at c ⊢;exact(hcC (e:=i / 2) aa (.inl (by rw[show(aU m (i / 2)).a.toNat=q from c];exact hq))).2
   rw[h]at c ⊢;exact(hcC (e:=i / 2) aa (.inr (by rw[show(aU m (i / 2)).b.toNat=q from c];exact hq))).1
  have h0:LW (eX l m 0) (eX l m l.length):=by
   have:∀ k,LW (eX l m 0) (eX l m k):=by
    intro k
    induction k with
    |zero=>exact LW.refl _
    |succ k ih=>exact ih.trans (CI m (eX l m k) (Nat.zero_le _))
   exact this _
  refine h0 0 ?_;show dG (oY l.length) 0=true;unfold oY dG;rw[List.getD_eq_getElem?_getD,List.getElem?_map,List.getElem?_range aa];rfl
 have hall:∀{S:List Bool},S.length=l.length->(S.all id=true↔∀ i,i<l.length->dG S i=true):=fun{S} hS=>by
  rw[List.all_eq_true];constructor
  ·intro h i hi;rw[sM aa];exact h _ (List.getElem_mem _)
  intro h b hb;obtain⟨i,hi,rfl⟩:=List.getElem_of_mem hb;rw[<- sM hi];exact h i aa
 unfold sU mK;rw[Bool.eq_iff_iff,hall hlen,hall (B7 l m _)];exact⟨fun h i hi=>hsup i (h i hi),fun h i hi=>hsub _ i (h i hi)⟩
theorem W4 (l:List Pt)(m:List Ed)(n:Int):iY l m n=sP l m n:=by
 unfold iY sP;cases hp:fE l m n with
 |false=>rfl
 |true=>rw[aFo (eC hp),aIJ hp]
end
end Go.Aw
end
