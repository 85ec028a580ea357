/-
  Parts of a proof. No condition.
-/
import Derived.Test.YtjahkcbdecgbhaaGreatQBh
import Derived.Test.YtjahkcbdecgbhaaGreatQBs
set_option linter.unusedSimpArgs false
set_option linter.unusedVariables false
noncomputable section
namespace Go.Aw
set_option maxRecDepth 100000
theorem mem_erase (L:List Int):∀ (b:Nat) (h:b<L.length) (x:Int),x∈L↔x=L[b]∨x∈L.eraseIdx b:=by
 induction L with
 |nil=>intro b h;cases h
 |cons a r ih =>
  intro b h x;cases b with
  |zero=>simp
  |succ b =>
   rw [List.mem_cons,ih b (by simpa using h) x];simp only [List.eraseIdx_cons_succ,List.getElem_cons_succ,List.mem_cons];constructor
   ·rintro (h|h|h)
    ·exact .inr (.inl h)
    ·exact .inl h
    ·exact .inr (.inr h)
   ·rintro (h|h|h)
    ·exact .inr (.inl h)
    ·exact .inl h
    ·exact .inr (.inr h)
theorem aFi {R:Int→Int→Prop}(hR:∀ x y,R x y→R y x→False):∀ {a b:List Int},a.Pairwise R→b.Pairwise R→(∀ x,x∈a↔x∈b)→a=b
 |[],[],_,_,_=>rfl
 |[],y::b,_,_,h=>absurd ((h y).2 (.head _)) (by simp)
 |x::a,[],_,_,h=>absurd ((h x).1 (.head _)) (by simp)
 |x::a,y::b,ha,hb,h=>by
  obtain⟨ha1,ha2⟩:=List.pairwise_cons.1 ha;obtain⟨hb1,hb2⟩:=List.pairwise_cons.1 hb;have hxy:x=y:=by
   rcases List.mem_cons.1 ((h x).1 (.head _)) with h1|h1
   ·exact h1
   ·rcases List.mem_cons.1 ((h y).2 (.head _)) with h2|h2
    ·exact h2.symm
    ·exact absurd (hb1 x h1) fun q=>hR _ _ q (ha1 y h2)
  subst hxy;have hx1:x∉a:=fun q=>hR _ _ (ha1 x q) (ha1 x q);have hx2:x∉b:=fun q=>hR _ _ (hb1 x q) (hb1 x q);rw [aFi hR ha2 hb2 fun z=>by
   constructor
   ·intro hz;exact ((List.mem_cons.1 ((h z).1 (.tail _ hz))).resolve_left fun e=>hx1 (e▸hz))
   ·intro hz;exact ((List.mem_cons.1 ((h z).2 (.tail _ hz))).resolve_left fun e=>hx2 (e▸hz))]
def zL (lt:Int→Int→Bool)(L:List Int):Nat→Nat
 |0=>0
 |i+1=>if lt (aM L (i+1)) (aM L (zL lt L i))=true then i+1 else zL lt L i
theorem FL (lt:Int→Int→Bool)(L:List Int):∀ i,zL lt L i≤i
 |0=>Nat.le_refl _
 |i+1=>by
  unfold zL;split
  ·exact Nat.le_refl _
  ·exact Nat.le_succ_of_le (FL lt L i)
structure aHn (lt:Int→Int→Bool) (U:Int→Prop):Prop where
 trans:∀ x y z,U x→U y→U z→lt x y=true→lt y z=true→lt x z=true
 total:∀ x y,U x→U y→x≠y→lt x y=false→lt y x=true
theorem aAr {lt:Int→Int→Bool}{U:Int→Prop}(hO:aHn lt U){L:List Int}(hU:∀ x∈L,U x)(hn:L.Nodup):∀ i,i<L.length→∀ j,j≤i→j≠zL lt L i→lt (aM L (zL lt L i)) (aM L j)=true
 |0,h,j,hj,hne=>absurd (Nat.le_zero.1 hj) hne
 |i+1,h,j,hj,hne=>by
  have ih:=aAr hO hU hn i (by omega);have hb:=FL lt L i;have hm:∀ k,k<L.length→U (aM L k):=fun k hk=>hU _ (by rw [dD hk];exact List.getElem_mem hk);unfold zL at hne ⊢;split
  ·rename_i h1;rw [if_pos h1] at hne;by_cases e:j=zL lt L i
   ·rw [e];exact h1
   ·exact hO.trans _ _ _ (hm _ h) (hm _ (by omega)) (hm _ (by omega)) h1 (ih j (by omega) e)
  ·rename_i h1;rw [if_neg h1] at hne;by_cases e:j=i+1
   ·subst e;refine hO.total _ _ (hm _ h) (hm _ (by omega)) ?_ (by simpa using h1);rw [dD h,dD (by omega)];intro e2;exact List.pairwise_iff_getElem.1 hn _ _ (by omega) h (by omega) e2.symm
   ·exact ih j (by omega) hne
def RB (lt:Int→Int→Bool):Nat→List Int→List Int
 |0,_=>[]
 |k+1,L=>if L.length=0 then [] else aM L (zL lt L (L.length - 1))::RB lt k (L.eraseIdx (zL lt L (L.length - 1)))
theorem aBE {lt:Int→Int→Bool}{U:Int→Prop}(hO:aHn lt U):∀ (k:Nat) (L:List Int),L.length≤k→(∀ x∈L,U x)→L.Nodup→(RB lt k L).Pairwise (fun x y=>lt x y=true)∧∀ x,x∈RB lt k L↔x∈L
 |0,L,hk,_,_=>by
  have:L=[]:=List.eq_nil_of_length_eq_zero (by omega);subst this;exact⟨.nil,fun x=>Iff.rfl⟩
 |k+1,L,hk,hU,hn=>by
  unfold RB;split
  ·rename_i h;have:L=[]:=List.eq_nil_of_length_eq_zero h;subst this;exact⟨.nil,fun x=>Iff.rfl⟩
  ·rename_i h;have hb:=FL lt L (L.length - 1);have hlt:zL lt L (L.length - 1)<L.length:=(by omega);have hmin:=aAr hO hU hn (L.length - 1) (by omega);generalize zL lt L (L.length - 1)=b at hb hlt hmin;have hp:=mem_erase L b hlt;have hmem:∀ x,x∈L.eraseIdx b→x∈L:=fun x hx=>(List.eraseIdx_sublist L b).subset hx;obtain⟨i1,i2⟩:=aBE hO k (L.eraseIdx b) (by rw [List.length_eraseIdx,if_pos hlt];omega) (fun x hx=>hU x (hmem x hx)) (hn.sublist (List.eraseIdx_sublist L b));refine⟨List.pairwise_cons.2 ⟨fun y hy=>?_,i1⟩,fun x=>?_⟩
   ·obtain⟨j,hj,hne,rfl⟩:=List.mem_eraseIdx_iff_getElem.1 ((i2 y).1 hy);have:=hmin j (by omega) hne
    rwa [dD (i:=j) hj] at this
   ·rw [List.mem_cons,i2,dD hlt,hp x]
theorem idt (ax ay bx b_y cx cy dx dy y:Int):((bx - ax)*(cy - ay) - (b_y - ay)*(cx - ax))*(2*dx - y)+((bx - ax)*(dy - ay) - (b_y - ay)*(dx - ax))*(y - 2*cx)=(2*(dx - cx)*cy+(dy - cy)*(y - 2*cx))*(bx - ax) - (2*(bx - ax)*ay+(b_y - ay)*(y - 2*ax))*(dx - cx):=by grind
theorem aIi (s t:Sg)(y:Int):bA s.1 s.2 t.1*(2*t.2.1 - y)+bA s.1 s.2 t.2*(y - 2*t.1.1)=AM t y*yC s - AM s y*yC t:=idt _ _ _ _ _ _ _ _ _
theorem U6 {p q u v:Int}(hu:0<u)(hv:0<v)(h:p*u+q*v=0):(p=0∧q=0)∨(p<0∧0<q)∨(0<p∧q<0):=by
 have key:∀ {a b:Int},0<b→(0<a→0<a*b)∧(a<0→a*b<0)∧(a=0→a*b=0):=fun {a b} hb =>
  ⟨fun h=>Int.mul_pos h hb,fun h=>Int.mul_neg_of_neg_of_pos h hb,fun h=>by rw [h,Int.zero_mul]⟩
 obtain⟨a1,a2,a3⟩:=key (a:=p) hu;obtain⟨b1,b2,b3⟩:=key (a:=q) hv;rcases Int.lt_trichotomy p 0 with h1|h1|h1 <;> rcases Int.lt_trichotomy q 0 with h2|h2|h2
 ·have:=a2 h1;have:=b2 h2;omega
 ·have:=a2 h1;have:=b3 h2;omega
 ·exact .inr (.inl ⟨h1,h2⟩)
 ·have:=a3 h1;have:=b2 h2;omega
 ·exact .inl ⟨h1,h2⟩
 ·have:=a3 h1;have:=b1 h2;omega
 ·exact .inr (.inr ⟨h1,h2⟩)
 ·have:=a1 h1;have:=b3 h2;omega
 ·have:=a1 h1;have:=b1 h2;omega
theorem aBU {s t:Sg}{x:Int}(hs:s.1.1≤x∧x<s.2.1)(ht:t.1.1≤x∧x<t.2.1)(h:AM s (2*x+1)*yC t=AM t (2*x+1)*yC s):jQ s t≠0∧jQ s t≠1:=by
 have e1:=aIi s t (2*x+1);have e2:=aIi t s (2*x+1);rw [h,Int.sub_self] at e1;rw [h,Int.sub_self] at e2;have c1:=U6 (by omega) (by omega) e1;have c2:=U6 (by omega) (by omega) e2;unfold jQ bB;generalize bA s.1 s.2 t.1=p at *;generalize bA s.1 s.2 t.2=q at *;generalize bA t.1 t.2 s.1=r at *;generalize bA t.1 t.2 s.2=w at *;have hz:∀ n:Int,GX n=0↔n=0:=fun n=>(by unfold GX;split <;> (try split) <;> omega);by_cases h0:GX p=0∧GX q=0
 ·rw [if_pos h0];have key:∀ {a b:Int × Int},a.1<b.1→jM a b = -1:=fun {a b} h=>by
   unfold jM WQ gH;rw [if_pos h];rfl
  have es:bN s=(s.1,s.2):=(by unfold bN;rw [key (show s.1.1<s.2.1 by omega)];rfl);have et:bN t=(t.1,t.2):=(by unfold bN;rw [key (show t.1.1<t.2.1 by omega)];rfl);have hl:jM (HY s t) (vI s t) = -1:=by
   unfold HY vI;rw [es,et];refine key ?_;split <;> split <;> dsimp only <;> omega
  rw [hl];decide
 ·rw [if_neg h0];have hp:∀ n:Int,0<n→GX n=1:=fun n h=>(by unfold GX;rw [if_neg (by omega),if_pos h]);have hm:∀ n:Int,n<0→GX n = -1:=fun n h=>(by unfold GX;rw [if_pos h]);have h00:GX 0=0:=rfl;rcases c1 with ⟨a1,a2⟩|⟨a1,a2⟩|⟨a1,a2⟩
  ·exact absurd ⟨(hz p).2 a1,(hz q).2 a2⟩ h0
  ·rw [hm p a1,hp q a2];rcases c2 with ⟨b1,b2⟩|⟨b1,b2⟩|⟨b1,b2⟩
   ·rw [b1,b2,h00];decide
   ·rw [hm r b1,hp w b2];decide
   ·rw [hp r b1,hm w b2];decide
  ·rw [hp p a1,hm q a2];rcases c2 with ⟨b1,b2⟩|⟨b1,b2⟩|⟨b1,b2⟩
   ·rw [b1,b2,h00];decide
   ·rw [hm r b1,hp w b2];decide
   ·rw [hp r b1,hm w b2];decide
section
variable {l:List Pt}{m:List Ed}{n x:Int}
def W1 (l:List Pt)(m:List Ed)(x:Int)(y:Int):Prop:=0≤y∧y<m.length∧cT l x (cC m y.toNat)=true
def z7 (l:List Pt)(m:List Ed)(y:Int)(a b:Int):Bool:=decide (AM (aY l m a.toNat) y*yC (aY l m b.toNat)<AM (aY l m b.toNat) y*yC (aY l m a.toNat))
theorem RQ (a b:Int):jJ (.cols l m x) a b=z7 l m (2*x+1) a b:=by
 show decide (gH (AM (aY l m a.toNat) (2*x+1)*(2*yC (aY l m b.toNat))) (AM (aY l m b.toNat) (2*x+1)*(2*yC (aY l m a.toNat)))<0)=_;unfold z7 gH;have e:∀ p q:Int,p*(2*q)=2*(p*q):=fun p q=>(by rw [← Int.mul_assoc,Int.mul_comm p 2,Int.mul_assoc]);rw [e,e];generalize AM (aY l m a.toNat) (2*x+1)*yC (aY l m b.toNat)=P;generalize AM (aY l m b.toNat) (2*x+1)*yC (aY l m a.toNat)=Q;by_cases h:P<Q
 ·rw [if_pos (by omega),decide_eq_true h];rfl
 ·rw [if_neg (by omega),decide_eq_false h];split <;> rfl
theorem xR {y:Int}(h:W1 l m x y):(aY l m y.toNat).1.1≤x∧x<(aY l m y.toNat).2.1:=by
 have:=h.2.2;simp only [cT,Bool.and_eq_true,decide_eq_true_eq] at this;exact this
theorem AU {y:Int}(h:W1 l m x y):0<yC (aY l m y.toNat):=by
 have:=xR h;unfold yC;omega
theorem ZK {N1 N2 N3 d1 d2 d3:Int}(h1:0<d1)(h2:0<d2)(h3:0<d3)(a:N1*d2<N2*d1)(b:N2*d3<N3*d2):N1*d3<N3*d1:=by
 have e1:=Int.mul_lt_mul_of_pos_right a h3;have e2:=Int.mul_lt_mul_of_pos_right b h1;have e3:N1*d2*d3=N1*d3*d2:=(by rw [Int.mul_assoc,Int.mul_comm d2,← Int.mul_assoc]);have e4:N2*d1*d3=N2*d3*d1:=(by rw [Int.mul_assoc,Int.mul_comm d1,← Int.mul_assoc]);have e5:N3*d2*d1=N3*d1*d2:=(by rw [Int.mul_assoc,Int.mul_comm d2,← Int.mul_assoc]);exact Int.lt_of_mul_lt_mul_right (a:=d2) (by omega) (by omega)
theorem YI {N1 N2 N3 d1 d2 d3:Int}(h1:0<d1)(h2:0<d2)(h3:0<d3)(a:N1*d2≤N2*d1)(b:N2*d3≤N3*d2):N1*d3≤N3*d1:=by
 have e1:=Int.mul_le_mul_of_nonneg_right a (Int.le_of_lt h3);have e2:=Int.mul_le_mul_of_nonneg_right b (Int.le_of_lt h1);have e3:N1*d2*d3=N1*d3*d2:=(by rw [Int.mul_assoc,Int.mul_comm d2,← Int.mul_assoc]);have e4:N2*d1*d3=N2*d3*d1:=(by rw [Int.mul_assoc,Int.mul_comm d1,← Int.mul_assoc]);have e5:N3*d2*d1=N3*d1*d2:=(by rw [Int.mul_assoc,Int.mul_comm d2,← Int.mul_assoc]);exact Int.le_of_mul_le_mul_right (show N1*d3*d2≤N3*d1*d2 by omega) h2
theorem aCK (l:List Pt)(m:List Ed)(x:Int):Ord (.cols l m x) (W1 l m x) where
 trans:=fun a b c ha hb hc h1 h2=>by
  unfold w9 at *;rw [RQ] at *;have h1:=of_decide_eq_false h1;have h2:=of_decide_eq_false h2;have:=YI (AU ha) (AU hb) (AU hc) (Int.not_lt.1 h1) (Int.not_lt.1 h2);exact decide_eq_false (Int.not_lt.2 this)
 asym:=fun a b ha hb h=>by
  unfold w9;rw [RQ] at *;have h:=of_decide_eq_true h;exact decide_eq_false (by omega)
theorem aHz (ho:eK l m n=true){i k:Nat}(hi:i<m.length)(hk:k<m.length)(hne:i≠k):jQ (aY l m i) (aY l m k)=0∨jQ (aY l m i) (aY l m k)=1∨jQ (aY l m k) (aY l m i)=0∨jQ (aY l m k) (aY l m i)=1:=by
 have hp:gI l m n=true:=(by simp only [eK,Bool.and_eq_true] at ho;exact ho.1);have hok:=lE hp;have key:∀ {i k:Nat},i<m.length→k<i→jQ (aY l m i) (aY l m k)=0∨jQ (aY l m i) (aY l m k)=1:=fun {i k} hi hk=>by
  simp only [gI,Bool.and_eq_true] at hp;have h:=eV (f:=fun k=>AD l m i k) (eV (f:=fun i=>mS (fun k=>AD l m i k) i) hp.2 hi) hk;simp only [AD,Bool.or_eq_true,decide_eq_true_eq] at h;unfold eZ at h;rw [if_pos ⟨(EA hok hi).1,(EA hok (by omega)).1⟩] at h;exact h
 rcases Nat.lt_or_ge k i with h|h
 ·exact (key hi h).elim .inl fun h=>.inr (.inl h)
 ·exact (key hk (show i<k by omega)).elim (fun h=>.inr (.inr (.inl h))) fun h=>.inr (.inr (.inr h))
theorem aAi (ho:eK l m n=true):aHn (z7 l m (2*x+1)) (W1 l m x) where
 trans:=fun a b c ha hb hc h1 h2=>decide_eq_true (ZK (AU ha) (AU hb) (AU hc) (of_decide_eq_true h1) (of_decide_eq_true h2))
 total:=fun a b ha hb hne h=>by
  have h:=of_decide_eq_false h;refine decide_eq_true ?_;have hn:AM (aY l m a.toNat) (2*x+1)*yC (aY l m b.toNat)≠AM (aY l m b.toNat) (2*x+1)*yC (aY l m a.toNat):=fun e=>by
   have t1:=aBU (xR ha) (xR hb) e;have t2:=aBU (xR hb) (xR ha) e.symm;have h1:=ha.1;have h2:=hb.1;have h3:=ha.2.1;have h4:=hb.2.1;rcases aHz ho (i:=a.toNat) (k:=b.toNat) (by omega) (by omega) (by omega) with h|h|h|h
   ·exact t1.1 h
   ·exact t1.2 h
   ·exact t2.1 h
   ·exact t2.2 h
  omega
theorem GN (P:Ed→Bool)(m:List Ed):∀ i y,y∈bZ P m i↔0≤y∧y<i∧P (cC m y.toNat)=true
 |0,y=>⟨fun h=>(by cases h),fun h=>(by omega)⟩
 |i+1,y=>by
  have ih:=GN P m i y;cases hp:P (cC m i) with
  |true =>
   rw [zS hp,List.mem_append,List.mem_singleton,ih];constructor
   ·rintro (h|h)
    ·exact⟨h.1,by omega,h.2.2⟩
    ·subst h;exact⟨by omega,by omega,hp⟩
   ·rintro ⟨h1,h2,h3⟩;by_cases e:y=i
    ·exact .inr e
    ·exact .inl ⟨h1,by omega,h3⟩
  |false =>
   rw [rZ hp,ih];constructor
   ·rintro ⟨h1,h2,h3⟩;exact⟨h1,by omega,h3⟩
   ·rintro ⟨h1,h2,h3⟩;by_cases e:y=i
    ·subst e;rw [Int.toNat_natCast,hp] at h3;cases h3
    ·exact⟨h1,by omega,h3⟩
theorem wV (P:Ed→Bool)(m:List Ed):∀ i,(bZ P m i).Nodup
 |0=>List.nodup_nil
 |i+1=>by
  have ih:=wV P m i;cases hp:P (cC m i) with
  |true =>
   rw [zS hp];refine List.nodup_append.2 ⟨ih,List.pairwise_singleton _ _,fun a ha b hb e=>?_⟩;have:=(GN P m i a).1 ha;rw [List.mem_singleton.1 hb] at e;omega
  |false=>rw [rZ hp];exact ih
theorem aAL {y:Int}:y∈bZ (cT l x) m m.length↔W1 l m x y:=GN _ _ _ _
theorem O0 (hm:m.length≤1000):So (.cols l m x) (nR l m x) 0 (nR l m x).length∧(nR l m x).Perm (bZ (cT l x) m m.length):=by
 have hl:=pR (cT l x) m m.length;have:=VZ (aCK l m x) (f:=1000) (L:=bZ (cT l x) m m.length) (by omega) (fun i _ hi=>aAL.1 (by rw [dD hi];exact List.getElem_mem hi));unfold nR;rw [qC];exact this
theorem yA (hm:m.length≤1000){y:Int}:y∈nR l m x↔W1 l m x y:=by rw [(O0 hm).2.mem_iff];exact aAL
def rcL (l:List Pt)(m:List Ed)(x:Int):List Int:=RB (z7 l m (2*x+1)) (bZ (cT l x) m m.length).length (bZ (cT l x) m m.length)
theorem aGD (ho:eK l m n=true):nR l m x=rcL l m x:=by
 have hm:m.length≤1000:=(by have:=(jF (kR ho)).2.2.2.2.1;omega);obtain⟨c1,c2⟩:=O0 (l:=l) (m:=m) (x:=x) hm;have hS:=aAi (x:=x) ho;have hnd:=c2.symm.nodup (wV (cT l x) m m.length);obtain⟨s1,s2⟩:=aBE hS (bZ (cT l x) m m.length).length (bZ (cT l x) m m.length) (Nat.le_refl _) (fun y hy=>aAL.1 hy) (wV _ _ _);refine aFi (R:=fun a b=>z7 l m (2*x+1) a b=true) (fun a b h1 h2=>?_) ?_ s1 fun y=>?_
 ·have h1:=of_decide_eq_true h1;have h2:=of_decide_eq_true h2;omega
 ·rw [List.pairwise_iff_getElem];intro i j hi hj hij;have h:=c1 i j (Nat.zero_le _) hij hj;unfold w9 at h;rw [RQ,dD hi,dD hj] at h;refine hS.total _ _ ((yA hm).1 (List.getElem_mem hj)) ((yA hm).1 (List.getElem_mem hi)) (fun e=>?_) h;exact List.pairwise_iff_getElem.1 hnd i j hi hj hij e.symm
 ·rw [c2.mem_iff];exact (s2 y).symm
end
end Go.Aw
end

noncomputable section
namespace Go.Aw
set_option maxRecDepth 100000
set_option maxHeartbeats 2000000
theorem aKT:cO Go.Proofs.Tryz.prog 72 aJ9:=UQ (aL (xl:=[aCD]) (.cons aM0 .nil)) fun a ⟨ho,hlm,hb⟩=>w72 a.l a.m a.n a.c1 a.c2 a.f a.b ho hlm hb fun y hy=>⟨((yA hlm.2).1 hy).1,((yA hlm.2).1 hy).2.1⟩
def YQ (l:List Pt)(m:List Ed)(n x:Int):Bool:=eK l m n&&MC x
def clP (l:List Pt)(m:List Ed)(n:Int):List Value→Option (Bool × List Int × Option Int)
 |[.int .i64 x]=>some (decide (l.length≤1000)&&decide (m.length≤1000),if YQ l m n x=true then SE l m x else [],some (if YQ l m n x=true then 0 else 1))
 |_=>none
theorem UC {l:List Pt}{m:List Ed}{n:Int}{r:List Value}{out:List Int}{e:Option Int}(hs:clP l m n r=some (true,out,e)):∃ x,r=[iv x]∧(l.length≤1000∧m.length≤1000)∧out=(if YQ l m n x=true then SE l m x else [])∧e=some (if YQ l m n x=true then 0 else 1):=by
 unfold clP at hs;split at hs
 ·injection hs with hs;injection hs with h1 h2;injection h2 with h2 h3;simp only [Bool.and_eq_true,decide_eq_true_eq] at h1;exact⟨_,rfl,h1,h2.symm,h3.symm⟩
 ·cases hs
theorem TY (l:List Pt)(m:List Ed)(x:Int):(SE l m x).length=(nR l m x).length+1:=KX _ _ _
def aGk:Nat × XF:=(19,mRX clP)
theorem aLo:cO Go.Proofs.Tryz.prog aGk.1 aGk.2:=aBH (nW (aEt (xl:=[aHc,(72,aJ9)]) (.cons aLf (.cons aKT .nil)) 4) 6).1 fun l m n r out e hs=>by
 obtain⟨x,rfl,hlm,rfl,rfl⟩:=UC hs;clear hs;refine⟨rfl,fun c1 c2=>?_⟩;(conv=>whnf);refine⟨l,m,n,.slice (some ⟨0,0,none⟩) l.length c1,.slice (some ⟨1,0,none⟩) m.length c2,rfl,aI aQ rfl,aI aU rfl,hlm,?_⟩;have hfb:YQ l m n x=(eK l m n&&MC x):=rfl;cases ho:eK l m n with
 |false =>
  rw [ho,Bool.false_and] at hfb;refine .inr ⟨rfl,?_⟩;rw [hfb];(conv=>whnf);rfl
 |true =>
  rw [ho,Bool.true_and] at hfb;refine .inl ⟨rfl,?_⟩;rw [hfb];cases hb:MC x with
  |false =>
   (conv=>whnf);refine⟨⟨l,m,n,c1,c2,x,false⟩,⟨ho,hlm,hb⟩,rfl,rfl,rfl,?_⟩;(conv=>whnf);rfl
  |true =>
   rw [if_pos rfl,if_pos rfl];have hpos:0<(SE l m x).length:=(by rw [TY];exact Nat.succ_pos _);(conv=>whnf);refine⟨⟨l,m,n,c1,c2,x,true⟩,⟨ho,hlm,hb⟩,rfl,rfl,rfl,?_⟩;(conv=>whnf);show Yields aO (SE l m x) (some 0) (jN (some 0) (.slice (some ⟨2009,0,none⟩) (SE l m x).length (SE l m x).length)) (h72 ⟨l,m,n,c1,c2,x,true⟩) 2010;exact kY aO hpos rfl
end Go.Aw
end
