/-
  Parts of a proof. No condition.
-/
import Derived.Test.YtjahkcbdecgbhaaGreatQAo
set_option linter.unusedSimpArgs false
set_option linter.unusedVariables false
noncomputable section
namespace Go.Aw
set_option maxRecDepth 100000
def XY (n a b:Int):Bool:=decide ((if b<a then b else a)≤n)&&decide (n≤(if a<b then b else a))
def aFU:Nat × XF:=(247,gX (s3 cI cI cI fun n a b=>(true,.bool (XY n a b))))
theorem aLr:cO Go.Proofs.Tryz.prog aFU.1 aFU.2:=x3 cI cI cI (xl:=[]) .nil (fun _ _ _=>rfl) fun n a b _=>by
 unfold cV
 repeat' (conv=>whnf
          refine bm (fun h=>?_) (fun h=>?_))
 all_goals (conv=>whnf)
 all_goals (simp only [aA,aC] at *;(try simp at h);(try simp);simp_all [XY] <;> omega)
def oS (p:Int × Int)(s:Sg):Bool:=XY p.1 s.1.1 s.2.1&&XY p.2 s.1.2 s.2.2&&decide (bB s.1 s.2 p=0)
def X67:Nat × XF:=(223,gX (s2 cP cS fun p s=>(wide p&&gV s,.bool (oS p s))))
theorem x67:cO Go.Proofs.Tryz.prog X67.1 X67.2:=x2 cP cS (xl:=[aFU,X57]) (.cons aLr (.cons x57 .nil)) (fun _ _=>rfl) fun p s hp=>by
 obtain⟨px,py⟩:=p;obtain⟨⟨ax,ay⟩,⟨bx,b_y⟩⟩:=s;simp only [gV,Bool.and_eq_true] at hp;unfold cV
 repeat' (conv=>whnf
          refine bm (fun h=>?_) (fun h=>?_))
 all_goals (conv=>whnf)
 all_goals (simp only [aA,aC,B7] at *;(try simp at h);(try simp);(try simp_all [oS]))
def X66:Nat × XF:=(222,gX (s1 cS fun s=>(true,.bool (dV s))))
theorem x66:cO Go.Proofs.Tryz.prog X66.1 X66.2:=x1 cS (xl:=[X56]) (.cons x56 .nil) (fun _=>rfl) fun s _=>by
 obtain⟨⟨ax,ay⟩,⟨bx,b_y⟩⟩:=s;unfold cV
 repeat' (conv=>whnf
          refine bm (fun h=>?_) (fun h=>?_))
 all_goals (conv=>whnf)
 all_goals (simp [aA,aC,jI] at *;simp [dV,jI, *])
theorem yK (a b:Int × Int):jM a b≤0↔a.1<b.1∨(a.1=b.1∧a.2≤b.2):=by
 unfold jM WQ gH;split <;> split <;> (try split) <;> (try split) <;> omega
theorem mG (a b c:Int × Int):bB a b c=0↔bA a b c=0:=by
 unfold bB GX;split <;> (try split) <;> omega
theorem UI (p:Int × Int)(s:Sg)(h:dV s=true):onS p s=oS p s:=by
 obtain⟨px,py⟩:=p;obtain⟨⟨ax,ay⟩,⟨bx,b2⟩⟩:=s;have hne:¬ (ax=bx∧ay=b2):=by
  simp only [dV,jI,Bool.and_eq_true,Bool.not_eq_true',Bool.and_true,Bool.and_eq_false_imp,decide_eq_true_eq,decide_eq_false_iff_not] at h;intro⟨e1,e2⟩;exact h.2 e1 e2
 clear h;unfold onS oS G8;by_cases hc:bB (ax,ay) (bx,b2) (px,py)=0
 ·have hcr:=(mG _ _ _).1 hc;simp only [bA] at hcr;rw [decide_eq_true hc,Bool.true_and,Bool.and_true,Bool.eq_iff_iff];simp only [XY,Bool.and_eq_true,decide_eq_true_eq,yK];by_cases h1:ax<bx
  ·have he:bN ((ax,ay),(bx,b2))=((ax,ay),(bx,b2)):=by
    unfold bN;rw [if_neg];have:=(yK (ax,ay) (bx,b2)).2 (.inl h1);simp only at *;omega
   rw [he];have hb:=U3 (ax:=ax) (ay:=ay) (bx:=bx) (b2:=b2) (px:=px) (py:=py) (by omega) h1;simp only at *;rw [hb];omega
  ·by_cases h2:bx<ax
   ·have he:bN ((ax,ay),(bx,b2))=((bx,b2),(ax,ay)):=by
     unfold bN;rw [if_pos];have:=(yK (ax,ay) (bx,b2));simp only at *;omega
    rw [he];have hsw:=PX (ax,ay) (bx,b2) (px,py);simp only [bA] at hsw;have hb:=U3 (ax:=bx) (ay:=b2) (bx:=ax) (b2:=ay) (px:=px) (py:=py) (by omega) h2;simp only at *;rw [hb];omega
   ·have hx:ax=bx:=(by omega);subst hx;have hE:b2 - ay≠0:=(by omega);rw [Int.sub_self,Int.zero_mul] at hcr;have ht:px - ax=0:=aA3 (D:=b2 - ay) (by omega) hE;have hpx:px=ax:=(by omega);subst hpx;by_cases h3:ay<b2
    ·have he:bN ((px,ay),(px,b2))=((px,ay),(px,b2)):=by
      unfold bN;rw [if_neg];have:=(yK (px,ay) (px,b2)).2 (.inr ⟨rfl,by omega⟩);simp only at *;omega
     rw [he];have h4:¬ (b2<ay):=(by omega);simp only [Int.lt_irrefl,if_false,h3,h4,if_true];simp
    ·have he:bN ((px,ay),(px,b2))=((px,b2),(px,ay)):=by
      unfold bN;rw [if_pos];have:=(yK (px,ay) (px,b2));simp only at *;omega
     rw [he];have h4:b2<ay:=(by omega);simp only [Int.lt_irrefl,if_false,h3,h4,if_true];simp
 ·simp [hc]
end Go.Aw
end

noncomputable section
namespace Go.Aw
open Go.RowKit
def mv (k0 q:Nat):Nat→Nat:=fun k=>match Nat.beq k k0 with|true=>q|false=>k
theorem NI {k0 q k:Nat}(h:k≠k0):mv k0 q k=k:=by
 unfold mv;split
 ·rename_i hb;exact absurd (beq_true hb) h
 ·rfl
theorem aEQ (k0 q:Nat):mv k0 q k0=q:=by
 unfold mv;rw [Nat.beq_refl]
theorem iY {b n0 nx:Nat}{I:KS}{e0 e:List (Nat × Value)}{h0 h:Heap}(k0 q:Nat)(hb:b≤k0)(hbn:b≤n0)(hI:I e0 h0 n0)(he:∀ p∈e0,look e p.1=some (gP (mv k0 q) p.2)∧xD n0 p.2)
  (hh:∀ p∈h0,p.1<n0∧∃ o',look h (mv k0 q p.1)=some o'∧bX (mv k0 q) n0 p.2 o') (hq:∀ p∈h0,p.1≠k0→p.1≠q):qU b I e h nx:=by
 refine⟨e0,h0,n0,mv k0 q,hI,fun t v hv=>he (t,v) (a8 hv),fun k o hk=>hh (k,o) (a8 hk),fun k k' o o' hk hk' e=>?_,fun k hk=>NI (by omega),hbn⟩;by_cases h1:k=k0
 ·by_cases h2:k'=k0
  ·rw [h1,h2]
  ·subst h1;rw [aEQ,NI h2] at e;exact absurd e.symm (hq (k',o') (a8 hk') h2)
 ·by_cases h2:k'=k0
  ·subst h2;rw [aEQ,NI h1] at e;exact absurd e (hq (k,o) (a8 hk) h1)
  ·rw [NI h1,NI h2] at e;exact e
def jN:Option Int→Value→Value
 |none,v=>v
 |some e,v=>.tuple #[v,.int .i64 e]
section
variable {α:Type}(E:El α)
def fX (s:List Value→Option (Bool × List α × Option Int)):XF:=fun args h nx K=>match s args with
 |some p=>dK p.1 (match p.2.1 with
  |[]=>K (jN p.2.2 (.slice none 0 0)) h nx
  |a::r=>K (jN p.2.2 (.slice (some ⟨nx,0,none⟩) (a::r).length (a::r).length)) (bO h nx (.cells true false E.sz (flat E.fl (a::r)))) (nx+1))
 |none=>False
def Yields (l:List α)(e:Option Int):KE:=fun v h _=>match l with
 |[]=>v=jN e (.slice none 0 0)
 |a::r=>∃ q,v=jN e (.slice (some ⟨q,0,none⟩) (a::r).length (a::r).length)∧look h q=some (.cells true false E.sz (flat E.fl (a::r)))
theorem uT {ρ:Nat→Nat}(e:Option Int){k n c:Nat}:gP ρ (jN e (.slice (some ⟨k,0,none⟩) n c))=jN e (.slice (some ⟨ρ k,0,none⟩) n c):=by
 cases e with
 |none=>rfl
 |some e=>simp [jN,gP,tr,dT,bT,dU,j8]
theorem uI (e:Option Int):gT (jN e (.slice none 0 0))=true:=by cases e <;> rfl
theorem O4 (e:Option Int)(n c:Nat):xD 1 (jN e (.slice (some ⟨0,0,none⟩) n c)):=by
 cases e with
 |none=>exact⟨Nat.one_pos,fun h=>by cases h⟩
 |some e =>
  intro v hv;simp at hv;rcases hv with rfl|rfl
  ·exact⟨Nat.one_pos,fun h=>by cases h⟩
  ·trivial
theorem aID {P:Program}{C:VC}{f:Nat}{s:List Value→Option (Bool × List α × Option Int)}(hC:bG P C)
  (hs:∀ args l e,s args=some (true,l,e)→eH args=true∧C f args [] 0 (Yields E l e)):cO P f (fX E s):=by
 refine (gC (S:=fun args0 h0 n0 v1 h1 m=>∃ l e,s args0=some (true,l,e)∧h0=[]∧n0=0∧(match l with
  |[]=>v1=jN e (.slice none 0 0)∧h1=[]∧m=0
  |a::r=>v1=jN e (.slice (some ⟨0,0,none⟩) (a::r).length (a::r).length)∧h1=[(0,.cells true false E.sz (flat E.fl (a::r)))]∧m=1)) hC ?_).mono ?_ ?_
 ·rintro args0 h0 n0 v1 h1 m ⟨l,e,e1,rfl,rfl,hl⟩;obtain⟨a1,a2⟩:=hs args0 l e e1;cases l with
  |nil =>
   obtain⟨rfl,rfl,rfl⟩:=hl;exact⟨rfl,_,a2,fun v h nx hv=>by rw [show v=_ from hv];exact kH (uI e)⟩
  |cons a r =>
   obtain⟨rfl,rfl,rfl⟩:=hl;refine⟨rfl,_,a2,fun v h nx hv=>?_⟩;obtain⟨q,rfl,hq⟩:=hv;refine⟨fun _=>q,⟨fun t u hu=>?_,fun k o hk=>?_,fun k k' o o' hk hk' _=>?_,fun k hk=>absurd hk (Nat.not_lt_zero k),Nat.zero_le _⟩⟩
   ·rw [aD] at hu;split at hu
    ·rename_i hb;injection hu with hu;subst hu;exact⟨by rw [aD,hb,uT],O4 e _ _⟩
    ·exact bP hu
   ·rw [aD] at hk;split at hk
    ·rename_i hb;injection hk with hk;subst hk;exact⟨by rw [← beq_true hb];exact Nat.one_pos,_,hq,aN (aF E _)⟩
    ·exact bP hk
   ·rw [aD] at hk hk';split at hk
    ·rename_i hb1;split at hk'
     ·rename_i hb2;exact (beq_true hb1).symm.trans (beq_true hb2)
     ·exact bP hk'
    ·exact bP hk
 ·intro args h nx K hx;unfold fX at hx;split at hx
  case h_2=>exact hx.elim
  rename_i p e1;obtain⟨b,l,e⟩:=p;obtain⟨rfl,hx⟩:=aG.1 hx;obtain⟨a1,a2⟩:=hs args l e e1;cases l with
  |nil =>
   refine⟨args,[],0,_,[],0,⟨[],e,e1,rfl,rfl,rfl,rfl,rfl⟩,aFz fun u hu=>bU a1 hu,?_⟩;simp only [o5,sL,mU,lD,m0 (uI e),Nat.add_zero];exact hx
  |cons a r =>
   refine⟨args,[],0,_,[(0,.cells true false E.sz (flat E.fl (a::r)))],1,⟨a::r,e,e1,rfl,rfl,rfl,rfl,rfl⟩,aFz fun u hu=>bU a1 hu,?_⟩;have hm:(flat E.fl (a::r)).map (bS (fun k=>nx+k))=flat E.fl (a::r):=bL (aF E _);simp only [o5,sL,T3,Bool.and_self,mU,TR,hm,uT,Nat.add_zero];exact hx
 ·intro args h nx K hx;unfold fX at hx;split at hx
  case h_2=>exact hx.elim
  rename_i p e1;obtain⟨hb,hx⟩:=aG.1 hx;cases hl:p.2.1 with
  |nil =>
   rw [hl] at hx;exact⟨_,_,_,hx,fun K' hk=>by unfold fX;rw [e1];simp only [hl];exact aJ hb hk⟩
  |cons a r =>
   rw [hl] at hx;exact⟨_,_,_,hx,fun K' hk=>by unfold fX;rw [e1];simp only [hl];exact aJ hb hk⟩
end
end Go.Aw
end

namespace Go.Aw
theorem par {ex ey ux uy wx wy:Int}(h:ex*uy=ey*ux):ex*(wx*uy - wy*ux)=ux*(wx*ey - wy*ex):=by
 have h1:ex*(wx*uy)=wx*(ey*ux):=(by rw [← h,← Int.mul_assoc,Int.mul_comm ex wx,Int.mul_assoc]);rw [Int.mul_sub,Int.mul_sub,h1];congr 1
 ·rw [← Int.mul_assoc,Int.mul_comm (wx*ey),← Int.mul_assoc,Int.mul_comm ux]
 ·rw [← Int.mul_assoc,Int.mul_comm ex,Int.mul_assoc,Int.mul_comm ex,← Int.mul_assoc,Int.mul_comm wy,Int.mul_assoc]
theorem aIk {ex ux q r:Int}(he:0<ex)(h:ex*q=ux*r)(hne:¬ (q=0∧r - q=0)):(0≤ux∧ux≤ex)↔(0≤q*(r - q)):=by
 have hr:r≠0:=by
  intro hr;subst hr;rw [Int.mul_zero] at h;have:q=0:=by
   rcases Int.mul_eq_zero.1 h with h|h
   ·omega
   ·exact h
  exact hne ⟨this,by omega⟩
 have e2:ex*(r - q)=(ex - ux)*r:=(by rw [Int.mul_sub,Int.sub_mul,h]);have key:(ex*ex)*(q*(r - q))=(ux*(ex - ux))*(r*r):=by
  calc (ex*ex)*(q*(r - q))=(ex*q)*(ex*(r - q)):=by rw [Int.mul_assoc,Int.mul_assoc,← Int.mul_assoc ex q,Int.mul_comm ex q,Int.mul_assoc q ex]
   _=(ux*r)*((ex - ux)*r):=by rw [h,e2]
   _=(ux*(ex - ux))*(r*r):=by rw [Int.mul_assoc,Int.mul_assoc,← Int.mul_assoc r,Int.mul_comm r (ex - ux),Int.mul_assoc (ex - ux)]
 have hrr:0<r*r:=by
  rcases Int.lt_or_gt_of_ne hr with h|h
  ·exact Int.mul_pos_of_neg_of_neg h h
  ·exact Int.mul_pos h h
 have hee:0<ex*ex:=Int.mul_pos he he;constructor
 ·intro⟨h1,h2⟩;have h3:0≤(ux*(ex - ux))*(r*r):=Int.mul_nonneg (Int.mul_nonneg h1 (by omega)) (by omega);rw [← key] at h3;by_cases hq:0≤q*(r - q)
  ·exact hq
  ·have:(ex*ex)*(q*(r - q))<0:=Int.mul_neg_of_pos_of_neg hee (by omega);omega
 ·intro hq;have h3:0≤(ex*ex)*(q*(r - q)):=Int.mul_nonneg (by omega) hq;rw [key] at h3;have h4:0≤ux*(ex - ux):=by
   by_cases h4:0≤ux*(ex - ux)
   ·exact h4
   ·have:(ux*(ex - ux))*(r*r)<0:=Int.mul_neg_of_neg_of_pos (by omega) hrr;omega
  constructor
  ·by_cases h5:0≤ux
   ·exact h5
   ·have:ux*(ex - ux)<0:=Int.mul_neg_of_neg_of_pos (by omega) (by omega);omega
  ·by_cases h5:ux≤ex
   ·exact h5
   ·have:ux*(ex - ux)<0:=Int.mul_neg_of_pos_of_neg (by omega) (by omega);omega
end Go.Aw

namespace Go.Aw
theorem J2 {a b:Int}(ha:0<a)(h:0≤a*b):0≤b:=by
 by_cases hb:0≤b
 ·exact hb
 ·have:a*b<0:=Int.mul_neg_of_pos_of_neg ha (by omega);omega
theorem aKI {ex ey ux uy:Int}(he:0<ex)(h:ex*uy=ey*ux)(h0:0≤ux)(h1:ux≤ex):(0≤ey→0≤uy∧uy≤ey)∧(ey≤0→ey≤uy∧uy≤0):=by
 have e2:ex*(ey - uy)=ey*(ex - ux):=by
  rw [Int.mul_sub,Int.mul_sub,h,Int.mul_comm ex ey]
 constructor
 ·intro hy;constructor
  ·exact J2 he (by rw [h];exact Int.mul_nonneg hy h0)
  ·have:=J2 he (show 0≤ex*(ey - uy) by rw [e2];exact Int.mul_nonneg hy (by omega));omega
 ·intro hy;constructor
  ·have:0≤ex*(uy - ey):=by
    have:ex*(uy - ey)=(-ey)*(ex - ux):=by
     rw [Int.neg_mul,← e2,← Int.mul_neg];congr 1;omega
    rw [this];exact Int.mul_nonneg (by omega) (by omega)
   have:=J2 he this;omega
  ·have:0≤ex*(-uy):=by
    rw [Int.mul_neg,h,← Int.neg_mul];exact Int.mul_nonneg (by omega) h0
   have:=J2 he this;omega
def MD (e u:Int):Prop:=(if 0<e then 0 else e)≤u∧u≤(if e<0 then 0 else e)
theorem C0 {e u:Int}:MD (-e) (-u)↔MD e u:=by
 unfold MD;split <;> split <;> split <;> split <;> omega
theorem aDI {e u:Int}(h:0<e):MD e u↔(0≤u∧u≤e):=by
 unfold MD;split <;> split <;> omega
theorem yS {ex ey ux uy q r:Int}(he:0<ex)(h:ex*uy=ey*ux)(h1:ex*q=ux*r)(hne:¬ (q=0∧r - q=0)):(MD ex ux∧MD ey uy)↔0≤q*(r - q):=by
 rw [← aIk he h1 hne,aDI he];constructor
 ·exact fun h=>h.1
 ·intro h2;refine⟨h2,?_⟩;obtain⟨k1,k2⟩:=aKI he h h2.1 h2.2;unfold MD;by_cases hy:0≤ey
  ·have:=k1 hy;split <;> split <;> omega
  ·have:=k2 (by omega);split <;> split <;> omega
theorem aEk {ex ey ux uy q r:Int}(he:¬ (ex=0∧ey=0))(h:ex*uy=ey*ux)(h1:ex*q=ux*r)(h2:ey*q=uy*r)(hne:¬ (q=0∧r - q=0)):(MD ex ux∧MD ey uy)↔0≤q*(r - q):=by
 by_cases a1:0<ex
 ·exact yS a1 h h1 hne
 ·by_cases a2:ex<0
  ·rw [← C0 (e:=ex),← C0 (e:=ey)];exact yS (by omega) (by rw [Int.neg_mul_neg,Int.neg_mul_neg,h]) (by rw [Int.neg_mul,Int.neg_mul,h1]) hne
  ·by_cases a3:0<ey
   ·rw [And.comm];exact yS a3 h.symm h2 hne
   ·rw [← C0 (e:=ex),← C0 (e:=ey),And.comm];exact yS (by omega) (by rw [Int.neg_mul_neg,Int.neg_mul_neg,h]) (by rw [Int.neg_mul,Int.neg_mul,h2]) hne
theorem once {ex ey wx wy vx vy:Int}(hd:ex*wy - ey*wx≠0)(h1:ex*vy=ey*vx)(h2:wx*vy=wy*vx):vx=0∧vy=0:=by
 constructor
 ·have:(ex*wy - ey*wx)*vx=0:=by
   rw [Int.sub_mul,Int.mul_assoc,← h2,Int.mul_right_comm ey,← h1,Int.mul_assoc,Int.mul_comm vy,Int.sub_self]
  rcases Int.mul_eq_zero.1 this with h|h
  ·exact absurd h hd
  ·exact h
 ·have:(ex*wy - ey*wx)*vy=0:=by
   rw [Int.sub_mul,Int.mul_assoc ey,h2,Int.mul_right_comm ex,h1,← Int.mul_assoc,Int.mul_right_comm ey,Int.sub_self]
  rcases Int.mul_eq_zero.1 this with h|h
  ·exact absurd h hd
  ·exact h
theorem para {ex ey wx wy vx vy:Int}(hw:¬ (wx=0∧wy=0))(h1:wx*ey=wy*ex)(h2:wx*vy=wy*vx):ex*vy=ey*vx:=by
 have k1:wx*(ex*vy - ey*vx)=0:=by
  rw [Int.mul_sub,← Int.mul_assoc,Int.mul_right_comm,h2,← Int.mul_assoc,h1,Int.mul_right_comm,Int.sub_self]
 have k2:wy*(ex*vy - ey*vx)=0:=by
  rw [Int.mul_sub,← Int.mul_assoc,← h1,Int.mul_left_comm wy,← h2,Int.mul_left_comm ey,Int.mul_assoc,Int.sub_self]
 by_cases h:wx=0
 ·rcases Int.mul_eq_zero.1 k2 with h'|h'
  ·exact absurd ⟨h,h'⟩ hw
  ·omega
 ·rcases Int.mul_eq_zero.1 k1 with h'|h'
  ·exact absurd h' h
  ·omega
end Go.Aw

namespace Go.Aw
def mC (p:Int × Int):List (Int × Int)→Bool
 |[]=>false
 |q::r=>jI q p || mC p r
def lO (s t:Sg)(out:List (Int × Int))(p:Int × Int):List (Int × Int):=if oS p s=true∧oS p t=true∧mC p out=false then out++[p] else out
def pO (s t:Sg):List (Int × Int):=lO s t (lO s t (lO s t (lO s t [] s.1) s.2) t.1) t.2
theorem iZ (a b:Int × Int):jI a b=true↔a=b:=by
 obtain⟨a1,a2⟩:=a;obtain⟨b1,b2⟩:=b;simp [jI]
theorem T9 (n a b:Int):XY n a b=true↔MD (b - a) (n - a):=by
 simp only [XY,MD,Bool.and_eq_true,decide_eq_true_eq];split <;> split <;> (try split) <;> (try split) <;> omega
theorem aDm {ax ay bx b2 px py wx wy c d:Int}(hne:¬ (bx - ax=0∧b2 - ay=0))(h0:(bx - ax)*(py - ay) - (b2 - ay)*(px - ax)=0)
  (hc:c=wx*(ay - py) - wy*(ax - px)) (hd:d=wx*(b2 - py) - wy*(bx - px)) (hn:¬ (c=0∧d=0)):(XY px ax bx=true∧XY py ay b2=true)↔c*d≤0:=by
 have h:(bx - ax)*(py - ay)=(b2 - ay)*(px - ax):=(by omega);have p1:=par (wx:=wx) (wy:=wy) h;have p2:=par (wx:=wy) (wy:=wx) h.symm;have q1:wx*(py - ay) - wy*(px - ax) = -c:=by
  subst hc;simp only [Int.mul_sub];omega
 have q2:wy*(px - ax) - wx*(py - ay)=c:=(by omega);have r1:wx*(b2 - ay) - wy*(bx - ax)=d - c:=by
  subst hc hd;simp only [Int.mul_sub];omega
 have r2:wy*(bx - ax) - wx*(b2 - ay) = -(d - c):=(by omega);rw [q1,r1] at p1;rw [q2,r2] at p2;have p3:(b2 - ay)*(-c)=(py - ay)*(d - c):=by
  rw [Int.mul_neg,p2,Int.mul_neg,Int.neg_neg]
 rw [T9,T9,aEk hne h p1 p3 (by omega)];have:d - c - -c=d:=(by omega);rw [this,Int.neg_mul];omega
theorem aD8 (a b:Int):GX a*GX b≤0↔a*b≤0:=by
 unfold GX
 by_cases a1:a<0 <;> by_cases a2:0<a <;> by_cases b1:b<0 <;> by_cases b2:0<b <;> simp only [a1,a2,b1,b2,if_true,if_false] <;>
  first
  |(exfalso;omega)
  |(have:=Int.mul_pos_of_neg_of_neg a1 b1;omega)
  |(have:=Int.mul_neg_of_neg_of_pos a1 b2;omega)
  |(have:=Int.mul_neg_of_pos_of_neg a2 b1;omega)
  |(have:=Int.mul_pos a2 b2;omega)
  |(have:a=0:=by omega
    subst this;simp)
  |(have:b=0:=by omega
    subst this;simp)
theorem nZ (a b p q:Int × Int)(h:q=a∨q=b):bA a b p=(b.1 - a.1)*(p.2 - q.2) - (b.2 - a.2)*(p.1 - q.1):=by
 rcases h with rfl|rfl
 ·rfl
 ·have e1:p.2 - a.2=(p.2 - q.2)+(q.2 - a.2):=(by omega);have e2:p.1 - a.1=(p.1 - q.1)+(q.1 - a.1):=(by omega);have e3:=Int.mul_comm (q.1 - a.1) (q.2 - a.2);rw [bA,e1,e2,Int.mul_add,Int.mul_add];omega
theorem xH (s t:Sg)(p:Int × Int)(hp:p=t.1∨p=t.2)(hs:s.1≠s.2)(h0:bB s.1 s.2 p=0)(hn:¬ (bB t.1 t.2 s.1=0∧bB t.1 t.2 s.2=0)) :
  oS p s=decide (bB t.1 t.2 s.1*bB t.1 t.2 s.2≤0):=by
 have k:=aDm (wx:=t.2.1 - t.1.1) (wy:=t.2.2 - t.1.2) (px:=p.1) (py:=p.2) (ax:=s.1.1) (ay:=s.1.2) (bx:=s.2.1) (b2:=s.2.2) (by
  intro h;apply hs;exact Prod.ext (by omega) (by omega)) ((mG _ _ _).1 h0) (nZ t.1 t.2 s.1 p hp) (nZ t.1 t.2 s.2 p hp) (by
  rw [mG,mG] at hn;exact hn)
 rw [Bool.eq_iff_iff,decide_eq_true_eq];unfold bB;rw [aD8,← k,oS,h0];simp
theorem C6 (s:Sg)(p:Int × Int)(h0:bB s.1 s.2 p≠0):oS p s=false:=by
 unfold oS;simp [h0]
theorem oO (s:Sg)(p:Int × Int)(hp:p=s.1∨p=s.2):oS p s=true:=by
 have h0:bB s.1 s.2 p=0:=by
  rw [mG,bA];rcases hp with rfl|rfl
  ·simp
  ·rw [Int.mul_comm];omega
 have hb:∀ a b:Int,XY a a b=true∧XY b a b=true:=by
  intro a b;simp only [XY,Bool.and_eq_true,decide_eq_true_eq];split <;> split <;> omega
 unfold oS;rw [h0];rcases hp with rfl|rfl
 ·simp [(hb _ _).1]
 ·simp [(hb _ _).2]
theorem F8 (s t:Sg)(p:Int × Int)(hp:p=t.1∨p=t.2)(ht:t.1≠t.2)(h1:bB t.1 t.2 s.1=0)(h2:bB t.1 t.2 s.2=0):bB s.1 s.2 p=0:=by
 rw [mG,nZ t.1 t.2 _ p hp] at h1 h2;have hw:¬ (t.2.1 - t.1.1=0∧t.2.2 - t.1.2=0):=by
  intro h;apply ht;exact Prod.ext (by omega) (by omega)
 have e1:(t.2.1 - t.1.1)*(s.2.2 - s.1.2)=(t.2.2 - t.1.2)*(s.2.1 - s.1.1):=by
  rw [show s.2.2 - s.1.2=(s.2.2 - p.2) - (s.1.2 - p.2) by omega,show s.2.1 - s.1.1=(s.2.1 - p.1) - (s.1.1 - p.1) by omega,Int.mul_sub,Int.mul_sub (t.2.2 - t.1.2)];omega
 have e2:(t.2.1 - t.1.1)*(p.2 - s.1.2)=(t.2.2 - t.1.2)*(p.1 - s.1.1):=by
  rw [show p.2 - s.1.2 = -(s.1.2 - p.2) by omega,show p.1 - s.1.1 = -(s.1.1 - p.1) by omega,Int.mul_neg,Int.mul_neg];omega
 have:=para hw e1 e2;rw [mG,bA];omega
theorem JH (s t:Sg)(ht:t.1≠t.2)(h:bB t.1 t.2 s.1=0∧bB t.1 t.2 s.2=0):bB s.1 s.2 t.1=0∧bB s.1 s.2 t.2=0 :=
 ⟨F8 s t _ (.inl rfl) ht h.1 h.2,F8 s t _ (.inr rfl) ht h.1 h.2⟩
theorem uM (s t:Sg)(p q:Int × Int)(hp:p=s.1∨p=s.2)(hq:q=t.1∨q=t.2)(h1:bB t.1 t.2 p=0)(h2:bB s.1 s.2 q=0)(hn:¬ (bB s.1 s.2 t.1=0∧bB s.1 s.2 t.2=0)):p=q:=by
 rw [mG,nZ t.1 t.2 _ q hq] at h1;have h2':=h2;rw [mG,nZ s.1 s.2 _ p hp] at h2;have hd:(s.2.1 - s.1.1)*(t.2.2 - t.1.2) - (s.2.2 - s.1.2)*(t.2.1 - t.1.1)≠0:=by
  intro hd;apply hn;have e0:bA s.1 s.2 t.2=bA s.1 s.2 t.1:=by
   rw [bA,bA,show t.2.2 - s.1.2=(t.2.2 - t.1.2)+(t.1.2 - s.1.2) by omega,show t.2.1 - s.1.1=(t.2.1 - t.1.1)+(t.1.1 - s.1.1) by omega,Int.mul_add,Int.mul_add];omega
  rw [mG] at h2';rw [mG,mG,e0];rcases hq with rfl|rfl
  ·exact⟨h2',h2'⟩
  ·rw [← e0];exact⟨h2',h2'⟩
 have e2:(t.2.1 - t.1.1)*(q.2 - p.2)=(t.2.2 - t.1.2)*(q.1 - p.1):=by
  rw [show q.2 - p.2 = -(p.2 - q.2) by omega,show q.1 - p.1 = -(p.1 - q.1) by omega,Int.mul_neg,Int.mul_neg];omega
 have:=once hd (by omega) e2;exact Prod.ext (by omega) (by omega)
def oP (s t:Sg):Int:=match pO s t with
 |[]=>if bB s.1 s.2 t.1*bB s.1 s.2 t.2<0∧bB t.1 t.2 s.1*bB t.1 t.2 s.2<0 then 3 else 0
 |[p]=>if (jI p s.1=true∨jI p s.2=true)∧(jI p t.1=true∨jI p t.2=true) then 1 else 2
 |_::_::_=>4
theorem jB (a b:Int × Int):jI a b=false↔a≠b:=by
 rw [ne_eq,← iZ];simp
theorem aBy (s t:Sg)(hs:s.1≠s.2)(ht:t.1≠t.2)(hn:¬ (bB s.1 s.2 t.1=0∧bB s.1 s.2 t.2=0)):jQ s t=oP s t:=by
 have hn':¬ (bB t.1 t.2 s.1=0∧bB t.1 t.2 s.2=0):=fun h=>hn (JH s t ht h);have b3:=fun h0=>xH s t t.1 (.inl rfl) hs h0 hn';have b4:=fun h0=>xH s t t.2 (.inr rfl) hs h0 hn';have b1:=fun h0=>xH t s s.1 (.inl rfl) ht h0 hn;have b2:=fun h0=>xH t s s.2 (.inr rfl) ht h0 hn;have f3:=C6 s t.1;have f4:=C6 s t.2;have f1:=C6 t s.1;have f2:=C6 t s.2;have o13:=uM s t s.1 t.1 (.inl rfl) (.inl rfl);have o14:=uM s t s.1 t.2 (.inl rfl) (.inr rfl);have o23:=uM s t s.2 t.1 (.inr rfl) (.inl rfl);have o24:=uM s t s.2 t.2 (.inr rfl) (.inr rfl);have g1:=oO s s.1 (.inl rfl);have g2:=oO s s.2 (.inr rfl);have g3:=oO t t.1 (.inl rfl);have g4:=oO t t.2 (.inr rfl);have z1:bB s.1 s.2 s.1=0:=(by rw [mG,bA];simp);have z2:bB s.1 s.2 s.2=0:=(by rw [mG,bA,Int.mul_comm];omega);have z3:bB t.1 t.2 t.1=0:=(by rw [mG,bA];simp);have z4:bB t.1 t.2 t.2=0:=(by rw [mG,bA,Int.mul_comm];omega);have rf:∀ p,jI p p=true:=fun p=>(iZ p p).2 rfl;have n1:bB s.1 s.2 t.1≠0→jI s.1 t.1=false∧jI s.2 t.1=false∧jI t.1 s.1=false∧jI t.1 s.2=false:=fun h=>by
  rw [jB,jB,jB,jB];exact⟨fun e=>h (e▸z1),fun e=>h (by rw [← e];exact z2),fun e=>h (e▸z1),fun e=>h (by rw [e];exact z2)⟩
 have n2:bB s.1 s.2 t.2≠0→jI s.1 t.2=false∧jI s.2 t.2=false∧jI t.2 s.1=false∧jI t.2 s.2=false:=fun h=>by
  rw [jB,jB,jB,jB];exact⟨fun e=>h (e▸z1),fun e=>h (by rw [← e];exact z2),fun e=>h (e▸z1),fun e=>h (by rw [e];exact z2)⟩
 have n3:bB t.1 t.2 s.1≠0→jI s.1 t.1=false∧jI s.1 t.2=false∧jI t.1 s.1=false∧jI t.2 s.1=false:=fun h=>by
  rw [jB,jB,jB,jB];exact⟨fun e=>h (by rw [e];exact z3),fun e=>h (by rw [e];exact z4),fun e=>h (by rw [← e];exact z3),fun e=>h (by rw [← e];exact z4)⟩
 have n4:bB t.1 t.2 s.2≠0→jI s.2 t.1=false∧jI s.2 t.2=false∧jI t.1 s.2=false∧jI t.2 s.2=false:=fun h=>by
  rw [jB,jB,jB,jB];exact⟨fun e=>h (by rw [e];exact z3),fun e=>h (by rw [e];exact z4),fun e=>h (by rw [← e];exact z3),fun e=>h (by rw [← e];exact z4)⟩
 have o13':bB t.1 t.2 s.1=0→bB s.1 s.2 t.1=0→jI s.1 t.1=true∧jI t.1 s.1=true:=fun h h'=>by
  have:=o13 h h' hn;rw [iZ,iZ];exact⟨this,this.symm⟩
 have o14':bB t.1 t.2 s.1=0→bB s.1 s.2 t.2=0→jI s.1 t.2=true∧jI t.2 s.1=true:=fun h h'=>by
  have:=o14 h h' hn;rw [iZ,iZ];exact⟨this,this.symm⟩
 have o23':bB t.1 t.2 s.2=0→bB s.1 s.2 t.1=0→jI s.2 t.1=true∧jI t.1 s.2=true:=fun h h'=>by
  have:=o23 h h' hn;rw [iZ,iZ];exact⟨this,this.symm⟩
 have o24':bB t.1 t.2 s.2=0→bB s.1 s.2 t.2=0→jI s.2 t.2=true∧jI t.2 s.2=true:=fun h h'=>by
  have:=o24 h h' hn;rw [iZ,iZ];exact⟨this,this.symm⟩
 clear o13 o14 o23 o24 z1 z2 z3 z4;unfold jQ;rw [if_neg hn];generalize hA:bB s.1 s.2 t.1=A at *;generalize hB:bB s.1 s.2 t.2=B at *;generalize hC:bB t.1 t.2 s.1=C at *;generalize hD:bB t.1 t.2 s.2=D at *;unfold oP pO;rw [hA,hB,hC,hD];by_cases h:0<A*B∨0<C*D
 ·have p3:oS t.1 s=false:=by
   by_cases h0:A=0
   ·rw [b3 h0,decide_eq_false_iff_not];subst h0;simp at h;omega
   ·exact f3 h0
  have p4:oS t.2 s=false:=by
   by_cases h0:B=0
   ·rw [b4 h0,decide_eq_false_iff_not];subst h0;simp at h;omega
   ·exact f4 h0
  have p1:oS s.1 t=false:=by
   by_cases h0:C=0
   ·rw [b1 h0,decide_eq_false_iff_not];subst h0;simp at h;omega
   ·exact f1 h0
  have p2:oS s.2 t=false:=by
   by_cases h0:D=0
   ·rw [b2 h0,decide_eq_false_iff_not];subst h0;simp at h;omega
   ·exact f2 h0
  unfold VN;rw [if_pos h];simp only [lO,p1,p2,p3,p4,g1,g2,g3,g4,Bool.false_eq_true,false_and,and_false,if_false];rw [if_neg];omega
 ·have hAB:A*B≤0:=(by omega);have hCD:C*D≤0:=(by omega);simp only [hAB,hCD,decide_true] at b1 b2 b3 b4;unfold VN;rw [if_neg h];by_cases a0:A=0 <;> by_cases b0:B=0 <;> by_cases c0:C=0 <;> by_cases d0:D=0 <;> simp only [a0,b0,c0,d0,not_true,not_false_eq_true,true_implies,false_implies,ne_eq,and_self,and_true,true_and,and_false,false_and] at hn hn' b1 b2 b3 b4 f1 f2 f3 f4 n1 n2 n3 n4 o13' o14' o23' o24'
  all_goals (simp only [lO,mC,rf,g1,g2,g3,g4, *,or_self,or_true,true_or,and_self,if_true,Bool.false_eq_true,Bool.or_false,Bool.or_self,Bool.or_true,and_true,true_and,false_and,and_false,if_false,List.nil_append,or_false,false_or,Bool.true_eq_false])
  all_goals (try (simp only [rf, *,or_self,or_true,true_or,and_self,if_true,Bool.false_eq_true,and_true,true_and,false_and,and_false,if_false,or_false,false_or];done))
  have nAB:A*B≠0:=Int.mul_ne_zero a0 b0;have nCD:C*D≠0:=Int.mul_ne_zero c0 d0;rw [if_pos ⟨by omega,by omega⟩]
def key (p:Int × Int):Int:=p.1*100000+p.2
theorem qQ {a b:Int × Int}(ha:aZ a=true)(hb:aZ b=true):jM a b=gH (key a) (key b):=by
 simp only [aZ,Bool.and_eq_true,decide_eq_true_eq] at ha hb;obtain⟨a1,a2⟩:=a;obtain⟨b1,b2⟩:=b;simp only at ha hb;unfold jM WQ gH key;simp only;by_cases h1:a1<b1
 ·rw [if_pos h1,if_pos (show a1*100000+a2<b1*100000+b2 by omega)];rfl
 ·by_cases h2:b1<a1
  ·rw [if_neg h1,if_pos h2,if_neg (show ¬ (a1*100000+a2<b1*100000+b2) by omega),if_pos (show b1*100000+b2<a1*100000+a2 by omega)];rfl
  ·rw [if_neg h1,if_neg h2,if_pos rfl];have:a1=b1:=(by omega);subst this;by_cases h3:a2<b2
   ·rw [if_pos h3,if_pos (by omega)]
   ·rw [if_neg h3,if_neg (show ¬ (a1*100000+a2<a1*100000+b2) by omega)];by_cases h4:b2<a2
    ·rw [if_pos h4,if_pos (by omega)]
    ·rw [if_neg h4,if_neg (by omega)]
theorem UT {a b:Int × Int}(ha:aZ a=true)(hb:aZ b=true):jI a b=true↔key a=key b:=by
 simp only [aZ,Bool.and_eq_true,decide_eq_true_eq] at ha hb;simp only [jI,Bool.and_eq_true,decide_eq_true_eq,key,and_true];omega
theorem PI {a b:Int × Int}(ha:aZ a=true)(hb:aZ b=true):jI a b=false↔key a≠key b:=by
 rw [← Bool.not_eq_true,UT ha hb]
theorem aGM (a b:Int):gH a b≤0↔a≤b:=by unfold gH;split <;> (try split) <;> omega
theorem aBM (a b:Int):gH a b<0↔a<b:=by unfold gH;split <;> (try split) <;> omega
theorem ZV (a b:Int):0<gH a b↔b<a:=by unfold gH;split <;> (try split) <;> omega
theorem aDR (a b:Int):aDQ (gH a b)=if a<b then 4 else if a=b then 1 else 0:=by
 unfold aDQ gH;split
 ·rfl
 ·split
  ·rw [if_neg (by omega),if_neg (by omega),if_neg (by omega)]
  ·rw [if_neg (by omega),if_pos rfl,if_pos (by omega)]
theorem uH {s:Sg}(h:dV s=true):aZ s.1=true∧aZ s.2=true∧s.1≠s.2:=by
 simp only [dV,Bool.and_eq_true,Bool.not_eq_true'] at h;exact⟨h.1.1,h.1.2,(jB _ _).1 h.2⟩
def kF (p1 p2 p3 p4 e13 e14 e23 e24:Bool):Int :=
 match p1,p2,p3&&!(p1&&e13)&&!(p2&&e23),p4&&!(p1&&e14)&&!(p2&&e24) with
 |false,false,false,false=>0
 |true,false,false,false=>if e13 || e14 then 1 else 2
 |false,true,false,false=>if e23 || e24 then 1 else 2
 |false,false,true,false=>if e13 || e23 then 1 else 2
 |false,false,false,true=>if e14 || e24 then 1 else 2
 |_,_,_,_=>4
set_option maxHeartbeats 2000000 in
theorem aIQ {k1 k2 k3 k4 a1 a2 b1 b2:Int}(ha:(k1<k2∧a1=k1∧a2=k2)∨(k2<k1∧a1=k2∧a2=k1))(hb:(k3<k4∧b1=k3∧b2=k4)∨(k4<k3∧b1=k4∧b2=k3)) :
  (if (if a1<b1 then b1 else a1)<(if b2<a2 then b2 else a2) then (4:Int) else if (if a1<b1 then b1 else a1)=(if b2<a2 then b2 else a2) then 1 else 0)
   = kF (decide (b1≤k1∧k1≤b2)) (decide (b1≤k2∧k2≤b2)) (decide (a1≤k3∧k3≤a2)) (decide (a1≤k4∧k4≤a2)) (decide (k1=k3)) (decide (k1=k4)) (decide (k2=k3)) (decide (k2=k4)):=by
 rcases ha with ⟨a,xa,ya⟩|⟨a,xa,ya⟩ <;> rcases hb with ⟨b,xb,yb⟩|⟨b,xb,yb⟩ <;>
 by_cases q1:b1≤k1∧k1≤b2 <;> by_cases q2:b1≤k2∧k2≤b2 <;> by_cases q3:a1≤k3∧k3≤a2 <;> by_cases q4:a1≤k4∧k4≤a2 <;> (try (exfalso;omega)) <;>
  by_cases u1:k1=k3 <;> (try (exfalso;omega)) <;> by_cases u2:k1=k4 <;> (try (exfalso;omega)) <;> by_cases u3:k2=k3 <;> (try (exfalso;omega)) <;> by_cases u4:k2=k4 <;> (try (exfalso;omega)) <;>
  (first|rw [decide_eq_true q1]|rw [decide_eq_false q1]) <;> (first|rw [decide_eq_true q2]|rw [decide_eq_false q2]) <;> (first|rw [decide_eq_true q3]|rw [decide_eq_false q3]) <;> (first|rw [decide_eq_true q4]|rw [decide_eq_false q4]) <;>
  (first|rw [decide_eq_true u1]|rw [decide_eq_false u1]) <;> (first|rw [decide_eq_true u2]|rw [decide_eq_false u2]) <;> (first|rw [decide_eq_true u3]|rw [decide_eq_false u3]) <;> (first|rw [decide_eq_true u4]|rw [decide_eq_false u4]) <;>
  simp only [kF,Bool.and_true,Bool.not_true,Bool.and_false,Bool.not_false,Bool.or_true,Bool.or_false,Bool.true_or,if_true,Bool.false_eq_true,if_false,Bool.true_and,Bool.false_and] <;> split <;> split <;> (try split) <;> (try split) <;> omega
theorem p9 (a b:Int × Int):jI a b=jI b a:=by
 rw [Bool.eq_iff_iff,iZ,iZ];exact eq_comm
set_option maxHeartbeats 2000000 in
theorem aB2 (s t:Sg)(h:bB s.1 s.2 t.1=0)(n12:jI s.1 s.2=false)(n34:jI t.1 t.2=false) :
  oP s t=kF (oS s.1 t) (oS s.2 t) (oS t.1 s) (oS t.2 s) (jI s.1 t.1) (jI s.1 t.2) (jI s.2 t.1) (jI s.2 t.2):=by
 have g1:=oO s s.1 (.inl rfl);have g2:=oO s s.2 (.inr rfl);have g3:=oO t t.1 (.inl rfl);have g4:=oO t t.2 (.inr rfl);have rf:∀ p,jI p p=true:=fun p=>(iZ p p).2 rfl;have n21:jI s.2 s.1=false:=(by rw [p9];exact n12);have n43:jI t.2 t.1=false:=(by rw [p9];exact n34);have c1:=p9 t.1 s.1;have c2:=p9 t.1 s.2;have c3:=p9 t.2 s.1;have c4:=p9 t.2 s.2;unfold oP pO;simp only [h,lO,g1,g2,g3,g4,true_and];generalize oS s.1 t=p1;generalize oS s.2 t=p2;generalize oS t.1 s=p3;generalize oS t.2 s=p4;generalize he13:jI s.1 t.1=e13 at *;generalize he14:jI s.1 t.2=e14 at *;generalize he23:jI s.2 t.1=e23 at *;generalize he24:jI s.2 t.2=e24 at *;clear g1 g2 g3 g4 h;generalize s.1=P1 at *;generalize s.2=P2 at *;generalize t.1=P3 at *;generalize t.2=P4 at *;cases p1 <;> cases p2 <;> cases p3 <;> cases p4 <;> simp only [mC,rf,n12,n21,n34,n43,he13,he14,he23,he24,c1,c2,c3,c4,kF,Bool.false_eq_true,false_and,and_false,and_self,and_true,true_and,if_true,if_false,List.nil_append,Bool.or_false,Bool.false_or,Bool.true_and,Bool.false_and,or_true,true_or,or_false,false_or,Int.zero_mul,Int.lt_irrefl,Bool.not_false,Bool.or_true,Bool.true_or]
 all_goals (cases e13 <;> cases e14 <;> cases e23 <;> cases e24 <;> simp [mC,rf,n12,n21,n34,n43,he13,he14,he23,he24,c1,c2,c3,c4,kF])
theorem ZT (s t:Sg)(hs:dV s=true)(ht:dV t=true)(h:bB s.1 s.2 t.1=0∧bB s.1 s.2 t.2=0):jQ s t=oP s t:=by
 obtain⟨r1,r2,ns⟩:=uH hs;obtain⟨r3,r4,nt⟩:=uH ht;have h':=JH t s ns h;have n12:key s.1≠key s.2:=(PI r1 r2).1 ((jB _ _).2 ns);have n34:key t.1≠key t.2:=(PI r3 r4).1 ((jB _ _).2 nt);have p3:oS t.1 s=G8 t.1 s:=(by rw [← UI _ _ hs,onS,h.1];simp);have p4:oS t.2 s=G8 t.2 s:=(by rw [← UI _ _ hs,onS,h.2];simp);have p1:oS s.1 t=G8 s.1 t:=(by rw [← UI _ _ ht,onS,h'.1];simp);have p2:oS s.2 t=G8 s.2 t:=(by rw [← UI _ _ ht,onS,h'.2];simp);have es:∃ a,aZ (bN s).1=true∧aZ (bN s).2=true∧((key s.1<key s.2∧key (bN s).1=key s.1∧key (bN s).2=key s.2)∨(key s.2<key s.1∧key (bN s).1=key s.2∧key (bN s).2=key s.1))∧a=true:=by
  refine⟨true,?_⟩;unfold bN;simp only [qQ r1 r2,ZV];by_cases hk:key s.2<key s.1
  ·rw [if_pos hk];exact⟨r2,r1,.inr ⟨hk,rfl,rfl⟩,trivial⟩
  ·rw [if_neg hk];exact⟨r1,r2,.inl ⟨by omega,rfl,rfl⟩,trivial⟩
 have et:∃ a,aZ (bN t).1=true∧aZ (bN t).2=true∧((key t.1<key t.2∧key (bN t).1=key t.1∧key (bN t).2=key t.2)∨(key t.2<key t.1∧key (bN t).1=key t.2∧key (bN t).2=key t.1))∧a=true:=by
  refine⟨true,?_⟩;unfold bN;simp only [qQ r3 r4,ZV];by_cases hk:key t.2<key t.1
  ·rw [if_pos hk];exact⟨r4,r3,.inr ⟨hk,rfl,rfl⟩,trivial⟩
  ·rw [if_neg hk];exact⟨r3,r4,.inl ⟨by omega,rfl,rfl⟩,trivial⟩
 obtain⟨_,ra1,ra2,ha,_⟩:=es;obtain⟨_,rb1,rb2,hb,_⟩:=et;rw [aB2 s t h.1 ((jB _ _).2 ns) ((jB _ _).2 nt),p1,p2,p3,p4];unfold jQ;rw [if_pos h];have hl:aZ (HY s t)=true∧key (HY s t)=(if key (bN s).1<key (bN t).1 then key (bN t).1 else key (bN s).1):=by
  unfold HY;simp only [qQ ra1 rb1,aBM];by_cases hk:key (bN s).1<key (bN t).1
  ·rw [if_pos hk,if_pos hk];exact⟨rb1,rfl⟩
  ·rw [if_neg hk,if_neg hk];exact⟨ra1,rfl⟩
 have hh:aZ (vI s t)=true∧key (vI s t)=(if key (bN t).2<key (bN s).2 then key (bN t).2 else key (bN s).2):=by
  unfold vI;simp only [qQ rb2 ra2,aBM];by_cases hk:key (bN t).2<key (bN s).2
  ·rw [if_pos hk,if_pos hk];exact⟨rb2,rfl⟩
  ·rw [if_neg hk,if_neg hk];exact⟨ra2,rfl⟩
 have hbet:∀ (p:Int × Int) (g:Sg),aZ p=true→aZ (bN g).1=true→aZ (bN g).2=true→G8 p g=decide (key (bN g).1≤key p∧key p≤key (bN g).2):=by
  intro p g hp h1 h2;unfold G8;rw [qQ h1 hp,qQ hp h2,Bool.eq_iff_iff];simp only [Bool.and_eq_true,decide_eq_true_eq,aGM]
 have heq:∀ a b:Int × Int,aZ a=true→aZ b=true→jI a b=decide (key a=key b):=by
  intro a b h1 h2;rw [Bool.eq_iff_iff,decide_eq_true_eq,UT h1 h2]
 rw [qQ hl.1 hh.1,aDR,hl.2,hh.2,aIQ ha hb,hbet _ _ r1 rb1 rb2,hbet _ _ r2 rb1 rb2,hbet _ _ r3 ra1 ra2,hbet _ _ r4 ra1 ra2,heq _ _ r1 r3,heq _ _ r1 r4,heq _ _ r2 r3,heq _ _ r2 r4]
theorem VA (s t:Sg)(hs:dV s=true)(ht:dV t=true):jQ s t=oP s t:=by
 by_cases h:bB s.1 s.2 t.1=0∧bB s.1 s.2 t.2=0
 ·exact ZT s t hs ht h
 ·exact aBy s t (uH hs).2.2 (uH ht).2.2 h
end Go.Aw

noncomputable section
namespace Go.Aw
theorem aW {ρ:Nat→Nat}{n sz:Nat}{wr g:Bool}{cs cs':List Value}(hg:dF cs=true)(e:cs'=cs):bX ρ n (.cells wr g sz cs) (.cells wr g sz cs'):=by
 subst e;exact aN hg
theorem s8 {α:Type}(fl:α→List Value)(l m:List α):flat fl (l++m)=flat fl l++flat fl m:=by
 induction l with
 |nil=>rfl
 |cons a r ih=>simp only [List.cons_append,flat,ih,List.append_assoc]
theorem kY {α:Type}(E:El α){l:List α}{e:Option Int}{h:Heap}{q nx:Nat}(hl:0<l.length)(hq:look h q=some (.cells true false E.sz (flat E.fl l))):Yields E l e (jN e (.slice (some ⟨q,0,none⟩) l.length l.length)) h nx:=by
 cases l with
 |nil=>cases hl
 |cons a r=>exact⟨q,rfl,hq⟩
end Go.Aw
end

noncomputable section
namespace Go.Aw
open Go.RowKit
section
variable {α β:Type}(E:El α)
def vOf (l:List α)(e:Option Int):Value:=match l with
 |[]=>jN e (.slice none 0 0)
 |a::r=>jN e (.slice (some ⟨0,0,none⟩) (a::r).length (a::r).length)
def hOf (l:List α):Heap:=match l with
 |[]=>[]
 |a::r=>[(0,.cells true false E.sz (flat E.fl (a::r)))]
def mOf (l:List α):Nat:=match l with
 |[]=>0
 |_::_=>1
theorem OZ {l:List α}{e:Option Int}{v:Value}{h:Heap}{nx:Nat}(hv:Yields E l e v h nx):JR (vOf l e) (hOf E l) (mOf l) v h nx:=by
 cases l with
 |nil =>
  rw [show v=_ from hv];exact kH (uI e)
 |cons a r =>
  obtain⟨q,rfl,hq⟩:=hv;refine⟨fun _=>q,⟨fun t u hu=>?_,fun k o hk=>?_,fun k k' o o' hk hk' _=>?_,fun k hk=>absurd hk (Nat.not_lt_zero k),Nat.zero_le _⟩⟩
  ·rw [aD] at hu;split at hu
   ·rename_i hb;injection hu with hu;subst hu;exact⟨by rw [aD,hb];show _=some (gP (fun _=>q) (jN e (.slice (some ⟨0,0,none⟩) (a::r).length (a::r).length)));rw [uT],O4 e _ _⟩
   ·exact bP hu
  ·rw [show hOf E (a::r)=[(0,.cells true false E.sz (flat E.fl (a::r)))] from rfl,aD] at hk;split at hk
   ·rename_i hb;injection hk with hk;subst hk;exact⟨by rw [← beq_true hb];exact Nat.one_pos,_,hq,aN (aF E _)⟩
   ·exact bP hk
  ·rw [show hOf E (a::r)=[(0,.cells true false E.sz (flat E.fl (a::r)))] from rfl,aD] at hk hk';split at hk
   ·rename_i hb1;split at hk'
    ·rename_i hb2;exact (beq_true hb1).symm.trans (beq_true hb2)
    ·exact bP hk'
   ·exact bP hk
def PB (l:List α)(e:Option Int)(h:Heap)(nx:Nat)(K:KE):Prop:=match l with
 |[]=>K (jN e (.slice none 0 0)) h nx
 |a::r=>K (jN e (.slice (some ⟨nx,0,none⟩) (a::r).length (a::r).length)) (bO h nx (.cells true false E.sz (flat E.fl (a::r)))) (nx+1)
theorem aCF {l:List α}{e:Option Int}{h:Heap}{nx:Nat}{K:KE}(hk:PB E l e h nx K):K (gP (fun k=>nx+k) (vOf l e)) (app (mU nx (hOf E l)) (o5 (hOf E l) h)) (nx+mOf l):=by
 cases l with
 |nil =>
  show K (gP (fun k=>nx+k) (jN e (.slice none 0 0))) (app [] h) (nx+0);rw [m0 (uI e)];exact hk
 |cons a r =>
  have hm:(flat E.fl (a::r)).map (bS (fun k=>nx+k))=flat E.fl (a::r):=bL (aF E _);show K (gP (fun k=>nx+k) (jN e (.slice (some ⟨0,0,none⟩) (a::r).length (a::r).length))) (app [(nx+0,.cells true false E.sz ((flat E.fl (a::r)).map (bS (fun k=>nx+k))))] h) (nx+1);rw [uT,hm];exact hk
theorem WL (l:List α):gM (hOf E l)=true:=by cases l <;> rfl
def yOf (T:List Value→Heap→Nat→List α→Option Int→Prop):XF:=xOf fun args0 h0 n0 v1 h1 m=>∃ l e,T args0 h0 n0 l e∧v1=vOf l e∧h1=hOf E l∧m=mOf l
theorem Q6 {P:Program}{C:VC}{f:Nat}{T:List Value→Heap→Nat→List α→Option Int→Prop}(hC:bG P C)(hT:∀ args0 h0 n0 l e,T args0 h0 n0 l e→C f args0 h0 n0 (Yields E l e)):cO P f (yOf E T) :=
 gC hC fun args0 h0 n0 v1 h1 m ⟨l,e,ht,hv,hh,hm⟩=>by
  subst hv hh hm;exact⟨WL E l,_,hT _ _ _ _ _ ht,fun v h nx hq=>OZ E hq⟩
theorem K1 {T:List Value→Heap→Nat→List α→Option Int→Prop}{args0:List Value}{h0:Heap}{n0:Nat}{l:List α}{e:Option Int}{args:List Value}{h:Heap}{nx:Nat}{K:KE}(ht:T args0 h0 n0 l e)(hi:In args0 h0 n0 args h nx)(hk:PB E l e h nx K):yOf E T args h nx K :=
 ⟨args0,h0,n0,_,_,_,⟨l,e,ht,rfl,rfl,rfl⟩,hi,aCF E hk⟩
def rfX (E2:El β)(s:List α→List Value→Option (Bool × List β × Option Int)):XF:=fun args h nx K=>match args with
 |v::r=>∃ l,gZ E h v l∧(match s l r with|some p=>dK p.1 (PB E2 p.2.1 p.2.2 h nx K)|none=>False)
 |_=>False
end
section
variable {α:Type}(E:El α)
theorem P0 {a0 b0 a b:Value}{o1 o2:aV}{h:Heap}{nx n1 c1 n2 c2:Nat}(ha0:a0=.slice (some ⟨0,0,none⟩) n1 c1)(hb0:b0=.slice (some ⟨0,0,none⟩) n2 c2)
  (h1:In [a0] [(0,o1)] 1 [a] h nx) (h2:In [b0] [(0,o2)] 1 [b] h nx) (g1:∃ sz cs,o1=.cells false true sz cs∧dF cs=true) (g2:∃ sz cs,o2=.cells false true sz cs∧dF cs=true) :
  In [a0,.slice (some ⟨1,0,none⟩) n2 c2] [(0,o1),(1,o2)] 2 [a,b] h nx:=by
 subst ha0 hb0;obtain⟨s1,cs1,rfl,gc1⟩:=g1;obtain⟨s2,cs2,rfl,gc2⟩:=g2;intro ι B w H hs;obtain⟨ι1,e1,k1,R1⟩:=h1 ι B w H (fun v hv=>hs v (by cases hv with|head=>exact .head _|tail _ hm=>cases hm));obtain⟨ι2,e2,k2,R2⟩:=h2 ι B w H (fun v hv=>hs v (by cases hv with|head=>exact .tail _ (.head _)|tail _ hm=>cases hm));simp only [List.map_cons,List.map_nil,List.cons.injEq,and_true] at e1 e2;have q1:=R1.obj 0 _ rfl;have q2:=R2.obj 0 _ rfl;have kk1:=k1 _ (.head _);have kk2:=k2 _ (.head _);refine⟨fun k=>if k=0 then ι1 0 else ι2 0,?_,?_,⟨?_,?_,?_,Nat.le_refl _,?_⟩⟩
 ·simp only [List.map_cons,List.map_nil,e1,e2];rfl
 ·intro v hv;cases hv with
  |head=>exact⟨show (0:Nat)<2 by decide,kk1.2⟩
  |tail _ hm =>
   cases hm with
   |head=>exact⟨show (1:Nat)<2 by decide,kk2.2⟩
   |tail _ hm=>cases hm
 ·intro k o hk;have key:∀ {ι:Nat→Loc} {sz:Nat} {cs:List Value} {loc:Loc} (ι':Nat→Loc),dF cs=true→kI ι w.heap.size w (.cells false true sz cs) loc→kI ι' w.heap.size w (.cells false true sz cs) loc:=by
   intro ι sz cs loc ι' hg ho;cases loc with
   |nil p=>exact ho
   |lay b o e =>
    obtain⟨x1,x2,x3⟩:=ho;refine⟨x1,x2,fun i v hv=>?_⟩;rw [x3 i v hv,lT (a9 hg (List.mem_of_getElem? hv)),lT (a9 hg (List.mem_of_getElem? hv))]
  rw [aD] at hk;split at hk
  ·rename_i hb;injection hk with hk;subst hk;rw [← beq_true hb];exact key _ gc1 q1
  ·rw [aD] at hk;split at hk
   ·rename_i hb;injection hk with hk;subst hk;rw [← beq_true hb];exact key _ gc2 q2
   ·exact bP hk
 ·intro k k' o o' hk hk' hne hal b hb;exfalso;rw [aD] at hk;split at hk
  ·injection hk with hk;subst hk;cases hal
  ·rw [aD] at hk;split at hk
   ·injection hk with hk;subst hk;cases hal
   ·exact bP hk
 ·intro k o hk;rw [aD] at hk;split at hk
  ·rename_i hb;rw [← beq_true hb];decide
  ·rw [aD] at hk;split at hk
   ·rename_i hb;rw [← beq_true hb];decide
   ·exact bP hk
 ·intro k o hk;rw [aD] at hk;split at hk
  ·injection hk with hk;subst hk;exact fun v hv=>cG (a9 gc1 hv)
  ·rw [aD] at hk;split at hk
   ·injection hk with hk;subst hk;exact fun v hv=>cG (a9 gc2 hv)
   ·exact bP hk
theorem MK {h:Heap}{nx:Nat}{v:Value}{l:List α}(hl:gZ E h v l):∃ c,In [.slice (some ⟨0,0,none⟩) l.length c] [(0,.cells false true E.sz (flat E.fl l))] 1 [v] h nx:=by
 unfold gZ at hl;split at hl
 ·rename_i n c;obtain⟨rfl,rfl,rfl⟩:=hl;exact⟨0,RH rfl true E.sz E.pos⟩
 ·rename_i k o n c;obtain⟨rfl,wr,g,sz,cs,hk,hcs⟩:=hl;exact⟨c,aBS rfl hk hcs (aF E l) true E.sz E.pos⟩
 ·exact hl.elim
def l2X (s:List α→List α→Option (Bool × Value)):XF:=fun args h nx K=>match args with
 |[a,b]=>∃ l1 l2,gZ E h a l1∧gZ E h b l2∧(match s l1 l2 with|some p=>dK p.1 (K p.2 h nx)|none=>False)
 |_=>False
theorem aFN {P:Program}{C:VC}{f:Nat}{s:List α→List α→Option (Bool × Value)}(hC:bG P C)
  (hs:∀ l1 l2 v,s l1 l2=some (true,v)→gT v=true∧∀ c1 c2,C f [.slice (some ⟨0,0,none⟩) l1.length c1,.slice (some ⟨1,0,none⟩) l2.length c2] [(0,.cells false true E.sz (flat E.fl l1)),(1,.cells false true E.sz (flat E.fl l2))] 2 (fun u _ _=>u=v)):cO P f (l2X E s):=by
 refine (gC (S:=fun args0 h0 n0 v1 h1 m=>∃ l1 l2 c1 c2,s l1 l2=some (true,v1)∧args0=[.slice (some ⟨0,0,none⟩) l1.length c1,.slice (some ⟨1,0,none⟩) l2.length c2]∧h0=[(0,.cells false true E.sz (flat E.fl l1)),(1,.cells false true E.sz (flat E.fl l2))]∧n0=2∧h1=[]∧m=0) hC ?_).mono ?_ ?_
 ·rintro args0 h0 n0 v1 h1 m ⟨l1,l2,c1,c2,e1,rfl,rfl,rfl,rfl,rfl⟩;obtain⟨a2,a3⟩:=hs l1 l2 v1 e1;exact⟨rfl,_,a3 c1 c2,fun v h nx e=>by rw [e];exact kH a2⟩
 ·intro args h nx K hx;unfold l2X at hx;split at hx
  case h_2=>exact hx.elim
  rename_i a b;obtain⟨l1,l2,hl1,hl2,hx⟩:=hx;split at hx
  case h_2=>exact hx.elim
  rename_i p e1;obtain⟨bb,u⟩:=p;obtain⟨rfl,hx⟩:=aG.1 hx;obtain⟨a2,a3⟩:=hs l1 l2 u e1;obtain⟨c1,i1⟩:=MK (nx:=nx) E hl1;obtain⟨c2,i2⟩:=MK (nx:=nx) E hl2;refine⟨_,_,2,u,[],0,⟨l1,l2,c1,c2,e1,rfl,rfl,rfl,rfl,rfl⟩,P0 rfl rfl i1 i2 ⟨_,_,rfl,aF E l1⟩ ⟨_,_,rfl,aF E l2⟩,?_⟩;simp only [o5,sL,mU,lD,m0 a2,Nat.add_zero];exact hx
 ·intro args h nx K hx;unfold l2X at hx;split at hx
  case h_2=>exact hx.elim
  rename_i a b;obtain⟨l1,l2,hl1,hl2,hx⟩:=hx;split at hx
  case h_2=>exact hx.elim
  rename_i p e1;obtain⟨hb,hx⟩:=aG.1 hx;exact⟨p.2,h,nx,hx,fun K' hk=>⟨l1,l2,hl1,hl2,by rw [e1];exact aJ hb hk⟩⟩
end
end Go.Aw
end
