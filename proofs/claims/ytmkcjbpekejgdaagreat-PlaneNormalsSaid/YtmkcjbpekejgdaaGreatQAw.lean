/-
  Parts of a proof. No condition.
-/
import Derived.Test.YtmkcjbpekejgdaaGreatQAs
import Derived.Test.YtmkcjbpekejgdaaGreatQAv
set_option linter.unusedSimpArgs false
set_option linter.unusedVariables false
noncomputable section
namespace Go.Aw
set_option maxRecDepth 100000
def lowS (s t:Sg):Int × Int:=if ordS (endsS s).1 (endsS t).1<0 then (endsS t).1 else (endsS s).1
def highS (s t:Sg):Int × Int:=if ordS (endsS t).2 (endsS s).2<0 then (endsS t).2 else (endsS s).2
def tblS (o:Int):Int:=if o = -1 then 4 else if o=0 then 1 else 0
def kindS (a b c d:Int):Int :=
 if 0<a*b∨0<c*d then 0
 else if (c=0∨d=0)∧(a=0∨b=0) then 1
 else if (c=0∨d=0)∨(a=0∨b=0) then 2
 else 3
def meetS (s t:Sg):Int :=
 if turnS s.1 s.2 t.1=0∧turnS s.1 s.2 t.2=0 then tblS (ordS (lowS s t) (highS s t))
 else kindS (turnS s.1 s.2 t.1) (turnS s.1 s.2 t.2) (turnS t.1 t.2 s.1) (turnS t.1 t.2 s.2)
def u8 (n:Int):Value:=.int .u8 n
theorem ordS_low (a b:Int × Int):ordS a b = -1∨ordS a b=0∨ordS a b=1:=by
 unfold ordS orI cmpI
 split <;> split <;> (try split) <;> (try split) <;> omega
theorem nth_tbl {o:Int}(h:o = -1∨o=0∨o=1){k:Nat}(hk:k=(o+1).toNat):nth [u8 4,u8 1,u8 0] k=some (u8 (tblS o)):=by
 subst hk
 rcases h with rfl|rfl|rfl <;> rfl
theorem fit_ord (a b:Int × Int):cfgS.A.fits .i64 (cfgS.A.add (ordS a b) 1)=true:=by
 rcases ordS_low a b with e|e|e <;> rw [e] <;> rfl
theorem ix_ord (a b:Int × Int):cfgS.A.andB (cfgS.A.le 0 (cfgS.A.add (ordS a b) 1)) (cfgS.A.lt (cfgS.A.add (ordS a b) 1) (cfgS.A.num 3))=true:=by
 rcases ordS_low a b with e|e|e <;> rw [e] <;> rfl
def X68:Nat × XF:=(56,gX (s2 cS cS fun s t=>(wideS s&&wideS t,u8 (meetS s t))))
theorem x68:XOK Go.Proofs.Tryz.prog X68.1 X68.2:=x2 cS cS (xl:=[X55,X74,X106]) (.cons x55 (.cons x74 (.cons x106 .nil))) (fun _ _=>rfl) fun s t hp=>by
 obtain⟨⟨ax,ay⟩,⟨bx,b2⟩⟩:=s
 obtain⟨⟨cx,cy⟩,⟨dx,dy⟩⟩:=t
 have l1:=turn_low (ax,ay) (bx,b2) (cx,cy)
 have l2:=turn_low (ax,ay) (bx,b2) (dx,dy)
 have l3:=turn_low (cx,cy) (dx,dy) (ax,ay)
 have l4:=turn_low (cx,cy) (dx,dy) (bx,b2)
 have m1:=mulB (A:=1) (B:=1) l1.1 l1.2 l2.1 l2.2
 have m2:=mulB (A:=1) (B:=1) l3.1 l3.2 l4.1 l4.2
 simp only [wideS,Bool.and_eq_true] at hp
 unfold Does1
 repeat' (conv=>whnf
          refine bm (fun h=>?_) (fun h=>?_))
 all_goals (try (refine boV (nth_tbl (ordS_low _ _) (by show 0+(_+1:Int).toNat*1=_;rw [Nat.zero_add,Nat.mul_one])) ?_))
 all_goals (try (conv=>whnf))
 all_goals (clear l3 l4)
 all_goals first
  |(show _=_
    simp only [cA_add,cA_mul,cA_lt,cA_eq,cA_fits,cA_eqB,cA_andB,cA_notB,cA_le,cA_num,fitsK,pEta,Bool.and_eq_true,beq_iff_eq,beq_eq_false_iff_ne,ne_eq,decide_eq_true_eq,decide_eq_false_iff_not,not_and,Bool.not_eq_true',Bool.not_eq_false'] at *
    simp only [meetS,kindS,lowS,highS]
    simp_all [u8,iv]
    done)
  |(show _=_
    simp only [cA_lt,cA_eq,cA_eqB,pEta,beq_iff_eq,decide_eq_true_eq,decide_eq_false_iff_not] at *
    simp only [meetS,lowS,highS, *,and_self,if_true,if_false]
    done)
  |(rw [fit_ord] at h;cases h)
  |(rw [ix_ord] at h;cases h)
  |(simp [hp] at h;done)
  |(simp only [cA_mul,cA_fits,fitsK,pEta,Bool.eq_false_iff,ne_eq,Bool.and_eq_true,decide_eq_true_eq] at h;omega)
  |skip
 trace_state
end Go.Aw
end

noncomputable section
namespace Go.Aw
set_option maxRecDepth 100000
def btw (n a b:Int):Bool:=decide ((if b<a then b else a)≤n)&&decide (n≤(if a<b then b else a))
def X120:Nat × XF:=(144,gX (s3 cI cI cI fun n a b=>(true,.bool (btw n a b))))
theorem x120:XOK Go.Proofs.Tryz.prog X120.1 X120.2:=x3 cI cI cI (xl:=[]) .nil (fun _ _ _=>rfl) fun n a b _=>by
 unfold Does1
 repeat' (conv=>whnf
          refine bm (fun h=>?_) (fun h=>?_))
 all_goals (conv=>whnf)
 all_goals (simp only [cfgS,std] at *;(try simp at h);(try simp);simp_all [btw] <;> omega)
def onR (p:Int × Int)(s:Sg):Bool:=btw p.1 s.1.1 s.2.1&&btw p.2 s.1.2 s.2.2&&decide (turnS s.1 s.2 p=0)
def X67:Nat × XF:=(141,gX (s2 cP cS fun p s=>(wide p&&wideS s,.bool (onR p s))))
theorem x67:XOK Go.Proofs.Tryz.prog X67.1 X67.2:=x2 cP cS (xl:=[X120,X57]) (.cons x120 (.cons x57 .nil)) (fun _ _=>rfl) fun p s hp=>by
 obtain⟨px,py⟩:=p
 obtain⟨⟨ax,ay⟩,⟨bx,b_y⟩⟩:=s
 simp only [wideS,Bool.and_eq_true] at hp
 unfold Does1
 repeat' (conv=>whnf
          refine bm (fun h=>?_) (fun h=>?_))
 all_goals (conv=>whnf)
 all_goals (simp only [cfgS,std,pEta] at *;(try simp at h);(try simp);(try simp_all [onR]))
theorem ordS_le (a b:Int × Int):ordS a b≤0↔a.1<b.1∨(a.1=b.1∧a.2≤b.2):=by
 unfold ordS orI cmpI
 split <;> split <;> (try split) <;> (try split) <;> omega
theorem turn0 (a b c:Int × Int):turnS a b c=0↔crossI a b c=0:=by
 unfold turnS sgn
 split <;> (try split) <;> omega
theorem on_eq (p:Int × Int)(s:Sg)(h:rightG s=true):onS p s=onR p s:=by
 obtain⟨px,py⟩:=p
 obtain⟨⟨ax,ay⟩,⟨bx,b2⟩⟩:=s
 have hne:¬ (ax=bx∧ay=b2):=by
  simp only [rightG,eqP,Bool.and_eq_true,Bool.not_eq_true',Bool.and_true,Bool.and_eq_false_imp,decide_eq_true_eq,decide_eq_false_iff_not] at h
  intro⟨e1,e2⟩
  exact h.2 e1 e2
 clear h
 unfold onS onR betS
 by_cases hc:turnS (ax,ay) (bx,b2) (px,py)=0
 ·have hcr:=(turn0 _ _ _).1 hc
  simp only [crossI] at hcr
  rw [decide_eq_true hc,Bool.true_and,Bool.and_true,Bool.eq_iff_iff]
  simp only [btw,Bool.and_eq_true,decide_eq_true_eq,ordS_le]
  by_cases h1:ax<bx
  ·have he:endsS ((ax,ay),(bx,b2))=((ax,ay),(bx,b2)):=by
    unfold endsS
    rw [if_neg]
    have:=(ordS_le (ax,ay) (bx,b2)).2 (.inl h1)
    simp only at *
    omega
   rw [he]
   have hb:=lex_box (ax:=ax) (ay:=ay) (bx:=bx) (b2:=b2) (px:=px) (py:=py) (by omega) h1
   simp only at *
   rw [hb]
   omega
  ·by_cases h2:bx<ax
   ·have he:endsS ((ax,ay),(bx,b2))=((bx,b2),(ax,ay)):=by
     unfold endsS
     rw [if_pos]
     have:=(ordS_le (ax,ay) (bx,b2))
     simp only at *
     omega
    rw [he]
    have hsw:=cross_swap (ax,ay) (bx,b2) (px,py)
    simp only [crossI] at hsw
    have hb:=lex_box (ax:=bx) (ay:=b2) (bx:=ax) (b2:=ay) (px:=px) (py:=py) (by omega) h2
    simp only at *
    rw [hb]
    omega
   ·have hx:ax=bx:=by omega
    subst hx
    have hE:b2 - ay≠0:=by omega
    rw [Int.sub_self,Int.zero_mul] at hcr
    have ht:px - ax=0:=coll0 (D:=b2 - ay) (by omega) hE
    have hpx:px=ax:=by omega
    subst hpx
    by_cases h3:ay<b2
    ·have he:endsS ((px,ay),(px,b2))=((px,ay),(px,b2)):=by
      unfold endsS
      rw [if_neg]
      have:=(ordS_le (px,ay) (px,b2)).2 (.inr ⟨rfl,by omega⟩)
      simp only at *
      omega
     rw [he]
     have h4:¬ (b2<ay):=by omega
     simp only [Int.lt_irrefl,if_false,h3,h4,if_true]
     simp
    ·have he:endsS ((px,ay),(px,b2))=((px,b2),(px,ay)):=by
      unfold endsS
      rw [if_pos]
      have:=(ordS_le (px,ay) (px,b2))
      simp only at *
      omega
     rw [he]
     have h4:b2<ay:=by omega
     simp only [Int.lt_irrefl,if_false,h3,h4,if_true]
     simp
 ·simp [hc]
end Go.Aw
end

noncomputable section
namespace Go.Aw
open Go.RowKit
def mv (k0 q:Nat):Nat→Nat:=fun k=>match Nat.beq k k0 with|true=>q|false=>k
theorem mv_ne {k0 q k:Nat}(h:k≠k0):mv k0 q k=k:=by
 unfold mv
 split
 ·rename_i hb;exact absurd (beq_true hb) h
 ·rfl
theorem mv_eq (k0 q:Nat):mv k0 q k0=q:=by
 unfold mv
 rw [Nat.beq_refl]
theorem Into_mv {b n0 nx:Nat}{I:KS}{e0 e:List (Nat × Value)}{h0 h:Heap}(k0 q:Nat)(hb:b≤k0)(hbn:b≤n0)(hI:I e0 h0 n0)(he:∀ p∈e0,look e p.1=some (ren (mv k0 q) p.2)∧nmT n0 p.2)
  (hh:∀ p∈h0,p.1<n0∧∃ o',look h (mv k0 q p.1)=some o'∧ObjRen (mv k0 q) n0 p.2 o') (hq:∀ p∈h0,p.1≠k0→p.1≠q):Into b I e h nx:=by
 refine⟨e0,h0,n0,mv k0 q,hI,fun t v hv=>he (t,v) (look_mem hv),fun k o hk=>hh (k,o) (look_mem hk),fun k k' o o' hk hk' e=>?_,fun k hk=>mv_ne (by omega),hbn⟩
 by_cases h1:k=k0
 ·by_cases h2:k'=k0
  ·rw [h1,h2]
  ·subst h1
   rw [mv_eq,mv_ne h2] at e
   exact absurd e.symm (hq (k',o') (look_mem hk') h2)
 ·by_cases h2:k'=k0
  ·subst h2
   rw [mv_eq,mv_ne h1] at e
   exact absurd e (hq (k,o) (look_mem hk) h1)
  ·rw [mv_ne h1,mv_ne h2] at e
   exact e
def wrapV:Option Int→Value→Value
 |none,v=>v
 |some e,v=>.tuple #[v,.int .i64 e]
section
variable {α:Type}(E:El α)
def fX (s:List Value→Option (Bool × List α × Option Int)):XF:=fun args h nx K=>match s args with
 |some p=>must p.1 (match p.2.1 with
  |[]=>K (wrapV p.2.2 (.slice none 0 0)) h nx
  |a::r=>K (wrapV p.2.2 (.slice (some ⟨nx,0,none⟩) (a::r).length (a::r).length)) (hput h nx (.cells true false E.sz (flat E.fl (a::r)))) (nx+1))
 |none=>False
def Yields (l:List α)(e:Option Int):KE:=fun v h _=>match l with
 |[]=>v=wrapV e (.slice none 0 0)
 |a::r=>∃ q,v=wrapV e (.slice (some ⟨q,0,none⟩) (a::r).length (a::r).length)∧look h q=some (.cells true false E.sz (flat E.fl (a::r)))
theorem wrapV_ren {ρ:Nat→Nat}(e:Option Int){k n c:Nat}:ren ρ (wrapV e (.slice (some ⟨k,0,none⟩) n c))=wrapV e (.slice (some ⟨ρ k,0,none⟩) n c):=by
 cases e with
 |none=>rfl
 |some e=>simp [wrapV,ren,tr,trA,trS,trP,at0]
theorem wrapV_nil (e:Option Int):gT (wrapV e (.slice none 0 0))=true:=by cases e <;> rfl
theorem wrapV_nm (e:Option Int)(n c:Nat):nmT 1 (wrapV e (.slice (some ⟨0,0,none⟩) n c)):=by
 cases e with
 |none=>exact⟨Nat.one_pos,fun h=>by cases h⟩
 |some e =>
  intro v hv
  simp at hv
  rcases hv with rfl|rfl
  ·exact⟨Nat.one_pos,fun h=>by cases h⟩
  ·trivial
theorem fX_ok {P:Program}{C:VC}{f:Nat}{s:List Value→Option (Bool × List α × Option Int)}(hC:CallsOK P C)
  (hs:∀ args l e,s args=some (true,l,e)→allGA args=true∧C f args [] 0 (Yields E l e)):XOK P f (fX E s):=by
 refine (xOf_ok (S:=fun args0 h0 n0 v1 h1 m=>∃ l e,s args0=some (true,l,e)∧h0=[]∧n0=0∧(match l with
  |[]=>v1=wrapV e (.slice none 0 0)∧h1=[]∧m=0
  |a::r=>v1=wrapV e (.slice (some ⟨0,0,none⟩) (a::r).length (a::r).length)∧h1=[(0,.cells true false E.sz (flat E.fl (a::r)))]∧m=1)) hC ?_).mono ?_ ?_
 ·rintro args0 h0 n0 v1 h1 m ⟨l,e,e1,rfl,rfl,hl⟩
  obtain⟨a1,a2⟩:=hs args0 l e e1
  cases l with
  |nil =>
   obtain⟨rfl,rfl,rfl⟩:=hl
   exact⟨rfl,_,a2,fun v h nx hv=>by rw [show v=_ from hv];exact Outc_g (wrapV_nil e)⟩
  |cons a r =>
   obtain⟨rfl,rfl,rfl⟩:=hl
   refine⟨rfl,_,a2,fun v h nx hv=>?_⟩
   obtain⟨q,rfl,hq⟩:=hv
   refine⟨fun _=>q,⟨fun t u hu=>?_,fun k o hk=>?_,fun k k' o o' hk hk' _=>?_,fun k hk=>absurd hk (Nat.not_lt_zero k),Nat.zero_le _⟩⟩
   ·rw [look_cons] at hu
    split at hu
    ·rename_i hb
     injection hu with hu
     subst hu
     exact⟨by rw [look_cons,hb,wrapV_ren],wrapV_nm e _ _⟩
    ·exact noLook hu
   ·rw [look_cons] at hk
    split at hk
    ·rename_i hb
     injection hk with hk
     subst hk
     exact⟨by rw [← beq_true hb];exact Nat.one_pos,_,hq,ObjRen_g (flat_g E _)⟩
    ·exact noLook hk
   ·rw [look_cons] at hk hk'
    split at hk
    ·rename_i hb1
     split at hk'
     ·rename_i hb2;exact (beq_true hb1).symm.trans (beq_true hb2)
     ·exact noLook hk'
    ·exact noLook hk
 ·intro args h nx K hx
  unfold fX at hx
  split at hx
  case h_2=>exact hx.elim
  rename_i p e1
  obtain⟨b,l,e⟩:=p
  obtain⟨rfl,hx⟩:=must_iff.1 hx
  obtain⟨a1,a2⟩:=hs args l e e1
  cases l with
  |nil =>
   refine⟨args,[],0,_,[],0,⟨[],e,e1,rfl,rfl,rfl,rfl,rfl⟩,In_g fun u hu=>allGA_mem a1 hu,?_⟩
   simp only [past,ownH,shH,app_nil,ren_g (wrapV_nil e),Nat.add_zero]
   exact hx
  |cons a r =>
   refine⟨args,[],0,_,[(0,.cells true false E.sz (flat E.fl (a::r)))],1,⟨a::r,e,e1,rfl,rfl,rfl,rfl,rfl⟩,In_g fun u hu=>allGA_mem a1 hu,?_⟩
   have hm:(flat E.fl (a::r)).map (ren1 (fun k=>nx+k))=flat E.fl (a::r):=map_trS_g (flat_g E _)
   simp only [past,ownH,isOwn,Bool.and_self,shH,shO,hm,wrapV_ren,Nat.add_zero]
   exact hx
 ·intro args h nx K hx
  unfold fX at hx
  split at hx
  case h_2=>exact hx.elim
  rename_i p e1
  obtain⟨hb,hx⟩:=must_iff.1 hx
  cases hl:p.2.1 with
  |nil =>
   rw [hl] at hx
   exact⟨_,_,_,hx,fun K' hk=>by unfold fX;rw [e1];simp only [hl];exact must_of hb hk⟩
  |cons a r =>
   rw [hl] at hx
   exact⟨_,_,_,hx,fun K' hk=>by unfold fX;rw [e1];simp only [hl];exact must_of hb hk⟩
end
end Go.Aw
end

namespace Go.Aw
theorem par {ex ey ux uy wx wy:Int}(h:ex*uy=ey*ux):ex*(wx*uy - wy*ux)=ux*(wx*ey - wy*ex):=by
 have h1:ex*(wx*uy)=wx*(ey*ux):=by rw [← h,← Int.mul_assoc,Int.mul_comm ex wx,Int.mul_assoc]
 rw [Int.mul_sub,Int.mul_sub,h1]
 congr 1
 ·rw [← Int.mul_assoc,Int.mul_comm (wx*ey),← Int.mul_assoc,Int.mul_comm ux]
 ·rw [← Int.mul_assoc,Int.mul_comm ex,Int.mul_assoc,Int.mul_comm ex,← Int.mul_assoc,Int.mul_comm wy,Int.mul_assoc]
theorem sides {ex ux q r:Int}(he:0<ex)(h:ex*q=ux*r)(hne:¬ (q=0∧r - q=0)):(0≤ux∧ux≤ex)↔(0≤q*(r - q)):=by
 have hr:r≠0:=by
  intro hr
  subst hr
  rw [Int.mul_zero] at h
  have:q=0:=by
   rcases Int.mul_eq_zero.1 h with h|h
   ·omega
   ·exact h
  exact hne ⟨this,by omega⟩
 have e2:ex*(r - q)=(ex - ux)*r:=by rw [Int.mul_sub,Int.sub_mul,h]
 have key:(ex*ex)*(q*(r - q))=(ux*(ex - ux))*(r*r):=by
  calc (ex*ex)*(q*(r - q))=(ex*q)*(ex*(r - q)):=by rw [Int.mul_assoc,Int.mul_assoc,← Int.mul_assoc ex q,Int.mul_comm ex q,Int.mul_assoc q ex]
   _=(ux*r)*((ex - ux)*r):=by rw [h,e2]
   _=(ux*(ex - ux))*(r*r):=by rw [Int.mul_assoc,Int.mul_assoc,← Int.mul_assoc r,Int.mul_comm r (ex - ux),Int.mul_assoc (ex - ux)]
 have hrr:0<r*r:=by
  rcases Int.lt_or_gt_of_ne hr with h|h
  ·exact Int.mul_pos_of_neg_of_neg h h
  ·exact Int.mul_pos h h
 have hee:0<ex*ex:=Int.mul_pos he he
 constructor
 ·intro⟨h1,h2⟩
  have h3:0≤(ux*(ex - ux))*(r*r):=Int.mul_nonneg (Int.mul_nonneg h1 (by omega)) (by omega)
  rw [← key] at h3
  by_cases hq:0≤q*(r - q)
  ·exact hq
  ·have:(ex*ex)*(q*(r - q))<0:=Int.mul_neg_of_pos_of_neg hee (by omega)
   omega
 ·intro hq
  have h3:0≤(ex*ex)*(q*(r - q)):=Int.mul_nonneg (by omega) hq
  rw [key] at h3
  have h4:0≤ux*(ex - ux):=by
   by_cases h4:0≤ux*(ex - ux)
   ·exact h4
   ·have:(ux*(ex - ux))*(r*r)<0:=Int.mul_neg_of_neg_of_pos (by omega) hrr
    omega
  constructor
  ·by_cases h5:0≤ux
   ·exact h5
   ·have:ux*(ex - ux)<0:=Int.mul_neg_of_neg_of_pos (by omega) (by omega)
    omega
  ·by_cases h5:ux≤ex
   ·exact h5
   ·have:ux*(ex - ux)<0:=Int.mul_neg_of_pos_of_neg (by omega) (by omega)
    omega
end Go.Aw

namespace Go.Aw
theorem posdiv {a b:Int}(ha:0<a)(h:0≤a*b):0≤b:=by
 by_cases hb:0≤b
 ·exact hb
 ·have:a*b<0:=Int.mul_neg_of_pos_of_neg ha (by omega)
  omega
theorem boxy {ex ey ux uy:Int}(he:0<ex)(h:ex*uy=ey*ux)(h0:0≤ux)(h1:ux≤ex):(0≤ey→0≤uy∧uy≤ey)∧(ey≤0→ey≤uy∧uy≤0):=by
 have e2:ex*(ey - uy)=ey*(ex - ux):=by
  rw [Int.mul_sub,Int.mul_sub,h,Int.mul_comm ex ey]
 constructor
 ·intro hy
  constructor
  ·exact posdiv he (by rw [h];exact Int.mul_nonneg hy h0)
  ·have:=posdiv he (show 0≤ex*(ey - uy) by rw [e2];exact Int.mul_nonneg hy (by omega))
   omega
 ·intro hy
  constructor
  ·have:0≤ex*(uy - ey):=by
    have:ex*(uy - ey)=(-ey)*(ex - ux):=by
     rw [Int.neg_mul,← e2,← Int.mul_neg];congr 1;omega
    rw [this];exact Int.mul_nonneg (by omega) (by omega)
   have:=posdiv he this
   omega
  ·have:0≤ex*(-uy):=by
    rw [Int.mul_neg,h,← Int.neg_mul];exact Int.mul_nonneg (by omega) h0
   have:=posdiv he this
   omega
def inb (e u:Int):Prop:=(if 0<e then 0 else e)≤u∧u≤(if e<0 then 0 else e)
theorem inb_neg {e u:Int}:inb (-e) (-u)↔inb e u:=by
 unfold inb
 split <;> split <;> split <;> split <;> omega
theorem inb_pos {e u:Int}(h:0<e):inb e u↔(0≤u∧u≤e):=by
 unfold inb
 split <;> split <;> omega
theorem boxside1 {ex ey ux uy q r:Int}(he:0<ex)(h:ex*uy=ey*ux)(h1:ex*q=ux*r)(hne:¬ (q=0∧r - q=0)):(inb ex ux∧inb ey uy)↔0≤q*(r - q):=by
 rw [← sides he h1 hne,inb_pos he]
 constructor
 ·exact fun h=>h.1
 ·intro h2
  refine⟨h2,?_⟩
  obtain⟨k1,k2⟩:=boxy he h h2.1 h2.2
  unfold inb
  by_cases hy:0≤ey
  ·have:=k1 hy
   split <;> split <;> omega
  ·have:=k2 (by omega)
   split <;> split <;> omega
theorem boxside {ex ey ux uy q r:Int}(he:¬ (ex=0∧ey=0))(h:ex*uy=ey*ux)(h1:ex*q=ux*r)(h2:ey*q=uy*r)(hne:¬ (q=0∧r - q=0)):(inb ex ux∧inb ey uy)↔0≤q*(r - q):=by
 by_cases a1:0<ex
 ·exact boxside1 a1 h h1 hne
 ·by_cases a2:ex<0
  ·rw [← inb_neg (e:=ex),← inb_neg (e:=ey)]
   exact boxside1 (by omega) (by rw [Int.neg_mul_neg,Int.neg_mul_neg,h]) (by rw [Int.neg_mul,Int.neg_mul,h1]) hne
  ·by_cases a3:0<ey
   ·rw [And.comm]
    exact boxside1 a3 h.symm h2 hne
   ·rw [← inb_neg (e:=ex),← inb_neg (e:=ey),And.comm]
    exact boxside1 (by omega) (by rw [Int.neg_mul_neg,Int.neg_mul_neg,h]) (by rw [Int.neg_mul,Int.neg_mul,h2]) hne
theorem once {ex ey wx wy vx vy:Int}(hd:ex*wy - ey*wx≠0)(h1:ex*vy=ey*vx)(h2:wx*vy=wy*vx):vx=0∧vy=0:=by
 constructor
 ·have:(ex*wy - ey*wx)*vx=0:=by
   rw [Int.sub_mul,Int.mul_assoc,← h2,Int.mul_right_comm ey,← h1,Int.mul_assoc,Int.mul_comm vy,Int.sub_self]
  rcases Int.mul_eq_zero.1 this with h|h
  ·exact absurd h hd
  ·exact h
 ·have:(ex*wy - ey*wx)*vy=0:=by
   rw [Int.sub_mul,Int.mul_assoc ey,h2,Int.mul_right_comm ex,h1,← Int.mul_assoc,Int.mul_right_comm ey,Int.sub_self]
  rcases Int.mul_eq_zero.1 this with h|h
  ·exact absurd h hd
  ·exact h
theorem para {ex ey wx wy vx vy:Int}(hw:¬ (wx=0∧wy=0))(h1:wx*ey=wy*ex)(h2:wx*vy=wy*vx):ex*vy=ey*vx:=by
 have k1:wx*(ex*vy - ey*vx)=0:=by
  rw [Int.mul_sub,← Int.mul_assoc,Int.mul_right_comm,h2,← Int.mul_assoc,h1,Int.mul_right_comm,Int.sub_self]
 have k2:wy*(ex*vy - ey*vx)=0:=by
  rw [Int.mul_sub,← Int.mul_assoc,← h1,Int.mul_left_comm wy,← h2,Int.mul_left_comm ey,Int.mul_assoc,Int.sub_self]
 by_cases h:wx=0
 ·rcases Int.mul_eq_zero.1 k2 with h'|h'
  ·exact absurd ⟨h,h'⟩ hw
  ·omega
 ·rcases Int.mul_eq_zero.1 k1 with h'|h'
  ·exact absurd h' h
  ·omega
end Go.Aw

namespace Go.Aw
def knownS (p:Int × Int):List (Int × Int)→Bool
 |[]=>false
 |q::r=>eqP q p || knownS p r
def addE (s t:Sg)(out:List (Int × Int))(p:Int × Int):List (Int × Int):=if onR p s=true∧onR p t=true∧knownS p out=false then out++[p] else out
def endsL (s t:Sg):List (Int × Int):=addE s t (addE s t (addE s t (addE s t [] s.1) s.2) t.1) t.2
theorem eqP_iff (a b:Int × Int):eqP a b=true↔a=b:=by
 obtain⟨a1,a2⟩:=a
 obtain⟨b1,b2⟩:=b
 simp [eqP]
theorem btw_inb (n a b:Int):btw n a b=true↔inb (b - a) (n - a):=by
 simp only [btw,inb,Bool.and_eq_true,decide_eq_true_eq]
 split <;> split <;> (try split) <;> (try split) <;> omega
theorem side_sc {ax ay bx b2 px py wx wy c d:Int}(hne:¬ (bx - ax=0∧b2 - ay=0))(h0:(bx - ax)*(py - ay) - (b2 - ay)*(px - ax)=0)
  (hc:c=wx*(ay - py) - wy*(ax - px)) (hd:d=wx*(b2 - py) - wy*(bx - px)) (hn:¬ (c=0∧d=0)):(btw px ax bx=true∧btw py ay b2=true)↔c*d≤0:=by
 have h:(bx - ax)*(py - ay)=(b2 - ay)*(px - ax):=by omega
 have p1:=par (wx:=wx) (wy:=wy) h
 have p2:=par (wx:=wy) (wy:=wx) h.symm
 have q1:wx*(py - ay) - wy*(px - ax) = -c:=by
  subst hc;simp only [Int.mul_sub];omega
 have q2:wy*(px - ax) - wx*(py - ay)=c:=by omega
 have r1:wx*(b2 - ay) - wy*(bx - ax)=d - c:=by
  subst hc hd;simp only [Int.mul_sub];omega
 have r2:wy*(bx - ax) - wx*(b2 - ay) = -(d - c):=by omega
 rw [q1,r1] at p1
 rw [q2,r2] at p2
 have p3:(b2 - ay)*(-c)=(py - ay)*(d - c):=by
  rw [Int.mul_neg,p2,Int.mul_neg,Int.neg_neg]
 rw [btw_inb,btw_inb,boxside hne h p1 p3 (by omega)]
 have:d - c - -c=d:=by omega
 rw [this,Int.neg_mul]
 omega
theorem sgn_mul (a b:Int):sgn a*sgn b≤0↔a*b≤0:=by
 unfold sgn
 by_cases a1:a<0 <;> by_cases a2:0<a <;> by_cases b1:b<0 <;> by_cases b2:0<b <;> simp only [a1,a2,b1,b2,if_true,if_false] <;>
  first
  |(exfalso;omega)
  |(have:=Int.mul_pos_of_neg_of_neg a1 b1;omega)
  |(have:=Int.mul_neg_of_neg_of_pos a1 b2;omega)
  |(have:=Int.mul_neg_of_pos_of_neg a2 b1;omega)
  |(have:=Int.mul_pos a2 b2;omega)
  |(have:a=0:=by omega
    subst this;simp)
  |(have:b=0:=by omega
    subst this;simp)
theorem cross_base (a b p q:Int × Int)(h:q=a∨q=b):crossI a b p=(b.1 - a.1)*(p.2 - q.2) - (b.2 - a.2)*(p.1 - q.1):=by
 rcases h with rfl|rfl
 ·rfl
 ·have e1:p.2 - a.2=(p.2 - q.2)+(q.2 - a.2):=by omega
  have e2:p.1 - a.1=(p.1 - q.1)+(q.1 - a.1):=by omega
  have e3:=Int.mul_comm (q.1 - a.1) (q.2 - a.2)
  rw [crossI,e1,e2,Int.mul_add,Int.mul_add]
  omega
theorem onR_side (s t:Sg)(p:Int × Int)(hp:p=t.1∨p=t.2)(hs:s.1≠s.2)(h0:turnS s.1 s.2 p=0)(hn:¬ (turnS t.1 t.2 s.1=0∧turnS t.1 t.2 s.2=0)) :
  onR p s=decide (turnS t.1 t.2 s.1*turnS t.1 t.2 s.2≤0):=by
 have k:=side_sc (wx:=t.2.1 - t.1.1) (wy:=t.2.2 - t.1.2) (px:=p.1) (py:=p.2) (ax:=s.1.1) (ay:=s.1.2) (bx:=s.2.1) (b2:=s.2.2) (by
  intro h;apply hs;exact Prod.ext (by omega) (by omega)) ((turn0 _ _ _).1 h0) (cross_base t.1 t.2 s.1 p hp) (cross_base t.1 t.2 s.2 p hp) (by
  rw [turn0,turn0] at hn;exact hn)
 rw [Bool.eq_iff_iff,decide_eq_true_eq]
 unfold turnS
 rw [sgn_mul,← k,onR,h0]
 simp
theorem onR_off (s:Sg)(p:Int × Int)(h0:turnS s.1 s.2 p≠0):onR p s=false:=by
 unfold onR
 simp [h0]
theorem onR_end (s:Sg)(p:Int × Int)(hp:p=s.1∨p=s.2):onR p s=true:=by
 have h0:turnS s.1 s.2 p=0:=by
  rw [turn0,crossI]
  rcases hp with rfl|rfl
  ·simp
  ·rw [Int.mul_comm];omega
 have hb:∀ a b:Int,btw a a b=true∧btw b a b=true:=by
  intro a b
  simp only [btw,Bool.and_eq_true,decide_eq_true_eq]
  split <;> split <;> omega
 unfold onR
 rw [h0]
 rcases hp with rfl|rfl
 ·simp [(hb _ _).1]
 ·simp [(hb _ _).2]
theorem same_line1 (s t:Sg)(p:Int × Int)(hp:p=t.1∨p=t.2)(ht:t.1≠t.2)(h1:turnS t.1 t.2 s.1=0)(h2:turnS t.1 t.2 s.2=0):turnS s.1 s.2 p=0:=by
 rw [turn0,cross_base t.1 t.2 _ p hp] at h1 h2
 have hw:¬ (t.2.1 - t.1.1=0∧t.2.2 - t.1.2=0):=by
  intro h;apply ht;exact Prod.ext (by omega) (by omega)
 have e1:(t.2.1 - t.1.1)*(s.2.2 - s.1.2)=(t.2.2 - t.1.2)*(s.2.1 - s.1.1):=by
  rw [show s.2.2 - s.1.2=(s.2.2 - p.2) - (s.1.2 - p.2) by omega,show s.2.1 - s.1.1=(s.2.1 - p.1) - (s.1.1 - p.1) by omega,Int.mul_sub,Int.mul_sub (t.2.2 - t.1.2)]
  omega
 have e2:(t.2.1 - t.1.1)*(p.2 - s.1.2)=(t.2.2 - t.1.2)*(p.1 - s.1.1):=by
  rw [show p.2 - s.1.2 = -(s.1.2 - p.2) by omega,show p.1 - s.1.1 = -(s.1.1 - p.1) by omega,Int.mul_neg,Int.mul_neg]
  omega
 have:=para hw e1 e2
 rw [turn0,crossI]
 omega
theorem same_line (s t:Sg)(ht:t.1≠t.2)(h:turnS t.1 t.2 s.1=0∧turnS t.1 t.2 s.2=0):turnS s.1 s.2 t.1=0∧turnS s.1 s.2 t.2=0 :=
 ⟨same_line1 s t _ (.inl rfl) ht h.1 h.2,same_line1 s t _ (.inr rfl) ht h.1 h.2⟩
theorem one_point (s t:Sg)(p q:Int × Int)(hp:p=s.1∨p=s.2)(hq:q=t.1∨q=t.2)(h1:turnS t.1 t.2 p=0)(h2:turnS s.1 s.2 q=0)(hn:¬ (turnS s.1 s.2 t.1=0∧turnS s.1 s.2 t.2=0)):p=q:=by
 rw [turn0,cross_base t.1 t.2 _ q hq] at h1
 have h2':=h2
 rw [turn0,cross_base s.1 s.2 _ p hp] at h2
 have hd:(s.2.1 - s.1.1)*(t.2.2 - t.1.2) - (s.2.2 - s.1.2)*(t.2.1 - t.1.1)≠0:=by
  intro hd
  apply hn
  have e0:crossI s.1 s.2 t.2=crossI s.1 s.2 t.1:=by
   rw [crossI,crossI,show t.2.2 - s.1.2=(t.2.2 - t.1.2)+(t.1.2 - s.1.2) by omega,show t.2.1 - s.1.1=(t.2.1 - t.1.1)+(t.1.1 - s.1.1) by omega,Int.mul_add,Int.mul_add]
   omega
  rw [turn0] at h2'
  rw [turn0,turn0,e0]
  rcases hq with rfl|rfl
  ·exact⟨h2',h2'⟩
  ·rw [← e0];exact⟨h2',h2'⟩
 have e2:(t.2.1 - t.1.1)*(q.2 - p.2)=(t.2.2 - t.1.2)*(q.1 - p.1):=by
  rw [show q.2 - p.2 = -(p.2 - q.2) by omega,show q.1 - p.1 = -(p.1 - q.1) by omega,Int.mul_neg,Int.mul_neg]
  omega
 have:=once hd (by omega) e2
 exact Prod.ext (by omega) (by omega)
def meetR (s t:Sg):Int:=match endsL s t with
 |[]=>if turnS s.1 s.2 t.1*turnS s.1 s.2 t.2<0∧turnS t.1 t.2 s.1*turnS t.1 t.2 s.2<0 then 3 else 0
 |[p]=>if (eqP p s.1=true∨eqP p s.2=true)∧(eqP p t.1=true∨eqP p t.2=true) then 1 else 2
 |_::_::_=>4
theorem eqP_f (a b:Int × Int):eqP a b=false↔a≠b:=by
 rw [ne_eq,← eqP_iff];simp
theorem meet_two (s t:Sg)(hs:s.1≠s.2)(ht:t.1≠t.2)(hn:¬ (turnS s.1 s.2 t.1=0∧turnS s.1 s.2 t.2=0)):meetS s t=meetR s t:=by
 have hn':¬ (turnS t.1 t.2 s.1=0∧turnS t.1 t.2 s.2=0):=fun h=>hn (same_line s t ht h)
 have b3:=fun h0=>onR_side s t t.1 (.inl rfl) hs h0 hn'
 have b4:=fun h0=>onR_side s t t.2 (.inr rfl) hs h0 hn'
 have b1:=fun h0=>onR_side t s s.1 (.inl rfl) ht h0 hn
 have b2:=fun h0=>onR_side t s s.2 (.inr rfl) ht h0 hn
 have f3:=onR_off s t.1
 have f4:=onR_off s t.2
 have f1:=onR_off t s.1
 have f2:=onR_off t s.2
 have o13:=one_point s t s.1 t.1 (.inl rfl) (.inl rfl)
 have o14:=one_point s t s.1 t.2 (.inl rfl) (.inr rfl)
 have o23:=one_point s t s.2 t.1 (.inr rfl) (.inl rfl)
 have o24:=one_point s t s.2 t.2 (.inr rfl) (.inr rfl)
 have g1:=onR_end s s.1 (.inl rfl)
 have g2:=onR_end s s.2 (.inr rfl)
 have g3:=onR_end t t.1 (.inl rfl)
 have g4:=onR_end t t.2 (.inr rfl)
 have z1:turnS s.1 s.2 s.1=0:=by rw [turn0,crossI];simp
 have z2:turnS s.1 s.2 s.2=0:=by rw [turn0,crossI,Int.mul_comm];omega
 have z3:turnS t.1 t.2 t.1=0:=by rw [turn0,crossI];simp
 have z4:turnS t.1 t.2 t.2=0:=by rw [turn0,crossI,Int.mul_comm];omega
 have rf:∀ p,eqP p p=true:=fun p=>(eqP_iff p p).2 rfl
 have n1:turnS s.1 s.2 t.1≠0→eqP s.1 t.1=false∧eqP s.2 t.1=false∧eqP t.1 s.1=false∧eqP t.1 s.2=false:=fun h=>by
  rw [eqP_f,eqP_f,eqP_f,eqP_f]
  exact⟨fun e=>h (e▸z1),fun e=>h (by rw [← e];exact z2),fun e=>h (e▸z1),fun e=>h (by rw [e];exact z2)⟩
 have n2:turnS s.1 s.2 t.2≠0→eqP s.1 t.2=false∧eqP s.2 t.2=false∧eqP t.2 s.1=false∧eqP t.2 s.2=false:=fun h=>by
  rw [eqP_f,eqP_f,eqP_f,eqP_f]
  exact⟨fun e=>h (e▸z1),fun e=>h (by rw [← e];exact z2),fun e=>h (e▸z1),fun e=>h (by rw [e];exact z2)⟩
 have n3:turnS t.1 t.2 s.1≠0→eqP s.1 t.1=false∧eqP s.1 t.2=false∧eqP t.1 s.1=false∧eqP t.2 s.1=false:=fun h=>by
  rw [eqP_f,eqP_f,eqP_f,eqP_f]
  exact⟨fun e=>h (by rw [e];exact z3),fun e=>h (by rw [e];exact z4),fun e=>h (by rw [← e];exact z3),fun e=>h (by rw [← e];exact z4)⟩
 have n4:turnS t.1 t.2 s.2≠0→eqP s.2 t.1=false∧eqP s.2 t.2=false∧eqP t.1 s.2=false∧eqP t.2 s.2=false:=fun h=>by
  rw [eqP_f,eqP_f,eqP_f,eqP_f]
  exact⟨fun e=>h (by rw [e];exact z3),fun e=>h (by rw [e];exact z4),fun e=>h (by rw [← e];exact z3),fun e=>h (by rw [← e];exact z4)⟩
 have o13':turnS t.1 t.2 s.1=0→turnS s.1 s.2 t.1=0→eqP s.1 t.1=true∧eqP t.1 s.1=true:=fun h h'=>by
  have:=o13 h h' hn;rw [eqP_iff,eqP_iff];exact⟨this,this.symm⟩
 have o14':turnS t.1 t.2 s.1=0→turnS s.1 s.2 t.2=0→eqP s.1 t.2=true∧eqP t.2 s.1=true:=fun h h'=>by
  have:=o14 h h' hn;rw [eqP_iff,eqP_iff];exact⟨this,this.symm⟩
 have o23':turnS t.1 t.2 s.2=0→turnS s.1 s.2 t.1=0→eqP s.2 t.1=true∧eqP t.1 s.2=true:=fun h h'=>by
  have:=o23 h h' hn;rw [eqP_iff,eqP_iff];exact⟨this,this.symm⟩
 have o24':turnS t.1 t.2 s.2=0→turnS s.1 s.2 t.2=0→eqP s.2 t.2=true∧eqP t.2 s.2=true:=fun h h'=>by
  have:=o24 h h' hn;rw [eqP_iff,eqP_iff];exact⟨this,this.symm⟩
 clear o13 o14 o23 o24 z1 z2 z3 z4
 unfold meetS
 rw [if_neg hn]
 generalize hA:turnS s.1 s.2 t.1=A at *
 generalize hB:turnS s.1 s.2 t.2=B at *
 generalize hC:turnS t.1 t.2 s.1=C at *
 generalize hD:turnS t.1 t.2 s.2=D at *
 unfold meetR endsL
 rw [hA,hB,hC,hD]
 by_cases h:0<A*B∨0<C*D
 ·have p3:onR t.1 s=false:=by
   by_cases h0:A=0
   ·rw [b3 h0,decide_eq_false_iff_not];subst h0;simp at h;omega
   ·exact f3 h0
  have p4:onR t.2 s=false:=by
   by_cases h0:B=0
   ·rw [b4 h0,decide_eq_false_iff_not];subst h0;simp at h;omega
   ·exact f4 h0
  have p1:onR s.1 t=false:=by
   by_cases h0:C=0
   ·rw [b1 h0,decide_eq_false_iff_not];subst h0;simp at h;omega
   ·exact f1 h0
  have p2:onR s.2 t=false:=by
   by_cases h0:D=0
   ·rw [b2 h0,decide_eq_false_iff_not];subst h0;simp at h;omega
   ·exact f2 h0
  unfold kindS
  rw [if_pos h]
  simp only [addE,p1,p2,p3,p4,g1,g2,g3,g4,Bool.false_eq_true,false_and,and_false,if_false]
  rw [if_neg]
  omega
 ·have hAB:A*B≤0:=by omega
  have hCD:C*D≤0:=by omega
  simp only [hAB,hCD,decide_true] at b1 b2 b3 b4
  unfold kindS
  rw [if_neg h]
  by_cases a0:A=0 <;> by_cases b0:B=0 <;> by_cases c0:C=0 <;> by_cases d0:D=0 <;> simp only [a0,b0,c0,d0,not_true,not_false_eq_true,true_implies,false_implies,ne_eq,and_self,and_true,true_and,and_false,false_and] at hn hn' b1 b2 b3 b4 f1 f2 f3 f4 n1 n2 n3 n4 o13' o14' o23' o24'
  all_goals (simp only [addE,knownS,rf,g1,g2,g3,g4, *,or_self,or_true,true_or,and_self,if_true,Bool.false_eq_true,Bool.or_false,Bool.or_self,Bool.or_true,and_true,true_and,false_and,and_false,if_false,List.nil_append,or_false,false_or,Bool.true_eq_false])
  all_goals (try (simp only [rf, *,or_self,or_true,true_or,and_self,if_true,Bool.false_eq_true,and_true,true_and,false_and,and_false,if_false,or_false,false_or];done))
  have nAB:A*B≠0:=Int.mul_ne_zero a0 b0
  have nCD:C*D≠0:=Int.mul_ne_zero c0 d0
  rw [if_pos ⟨by omega,by omega⟩]
def key (p:Int × Int):Int:=p.1*100000+p.2
theorem ord_key {a b:Int × Int}(ha:rightS a=true)(hb:rightS b=true):ordS a b=cmpI (key a) (key b):=by
 simp only [rightS,Bool.and_eq_true,decide_eq_true_eq] at ha hb
 obtain⟨a1,a2⟩:=a
 obtain⟨b1,b2⟩:=b
 simp only at ha hb
 unfold ordS orI cmpI key
 simp only
 by_cases h1:a1<b1
 ·rw [if_pos h1,if_pos (show a1*100000+a2<b1*100000+b2 by omega)];rfl
 ·by_cases h2:b1<a1
  ·rw [if_neg h1,if_pos h2,if_neg (show ¬ (a1*100000+a2<b1*100000+b2) by omega),if_pos (show b1*100000+b2<a1*100000+a2 by omega)];rfl
  ·rw [if_neg h1,if_neg h2,if_pos rfl]
   have:a1=b1:=by omega
   subst this
   by_cases h3:a2<b2
   ·rw [if_pos h3,if_pos (by omega)]
   ·rw [if_neg h3,if_neg (show ¬ (a1*100000+a2<a1*100000+b2) by omega)]
    by_cases h4:b2<a2
    ·rw [if_pos h4,if_pos (by omega)]
    ·rw [if_neg h4,if_neg (by omega)]
theorem eqP_key {a b:Int × Int}(ha:rightS a=true)(hb:rightS b=true):eqP a b=true↔key a=key b:=by
 simp only [rightS,Bool.and_eq_true,decide_eq_true_eq] at ha hb
 simp only [eqP,Bool.and_eq_true,decide_eq_true_eq,key,and_true]
 omega
theorem eqP_keyf {a b:Int × Int}(ha:rightS a=true)(hb:rightS b=true):eqP a b=false↔key a≠key b:=by
 rw [← Bool.not_eq_true,eqP_key ha hb]
theorem cmp_le (a b:Int):cmpI a b≤0↔a≤b:=by unfold cmpI;split <;> (try split) <;> omega
theorem cmp_lt (a b:Int):cmpI a b<0↔a<b:=by unfold cmpI;split <;> (try split) <;> omega
theorem cmp_gt (a b:Int):0<cmpI a b↔b<a:=by unfold cmpI;split <;> (try split) <;> omega
theorem tbl_cmp (a b:Int):tblS (cmpI a b)=if a<b then 4 else if a=b then 1 else 0:=by
 unfold tblS cmpI
 split
 ·rfl
 ·split
  ·rw [if_neg (by omega),if_neg (by omega),if_neg (by omega)]
  ·rw [if_neg (by omega),if_pos rfl,if_pos (by omega)]
theorem right_two {s:Sg}(h:rightG s=true):rightS s.1=true∧rightS s.2=true∧s.1≠s.2:=by
 simp only [rightG,Bool.and_eq_true,Bool.not_eq_true'] at h
 exact⟨h.1.1,h.1.2,(eqP_f _ _).1 h.2⟩
def kF (p1 p2 p3 p4 e13 e14 e23 e24:Bool):Int :=
 match p1,p2,p3&&!(p1&&e13)&&!(p2&&e23),p4&&!(p1&&e14)&&!(p2&&e24) with
 |false,false,false,false=>0
 |true,false,false,false=>if e13 || e14 then 1 else 2
 |false,true,false,false=>if e23 || e24 then 1 else 2
 |false,false,true,false=>if e13 || e23 then 1 else 2
 |false,false,false,true=>if e14 || e24 then 1 else 2
 |_,_,_,_=>4
set_option maxHeartbeats 2000000 in
theorem collK {k1 k2 k3 k4 a1 a2 b1 b2:Int}(ha:(k1<k2∧a1=k1∧a2=k2)∨(k2<k1∧a1=k2∧a2=k1))(hb:(k3<k4∧b1=k3∧b2=k4)∨(k4<k3∧b1=k4∧b2=k3)) :
  (if (if a1<b1 then b1 else a1)<(if b2<a2 then b2 else a2) then (4:Int) else if (if a1<b1 then b1 else a1)=(if b2<a2 then b2 else a2) then 1 else 0)
   = kF (decide (b1≤k1∧k1≤b2)) (decide (b1≤k2∧k2≤b2)) (decide (a1≤k3∧k3≤a2)) (decide (a1≤k4∧k4≤a2)) (decide (k1=k3)) (decide (k1=k4)) (decide (k2=k3)) (decide (k2=k4)):=by
 rcases ha with ⟨a,xa,ya⟩|⟨a,xa,ya⟩ <;> rcases hb with ⟨b,xb,yb⟩|⟨b,xb,yb⟩ <;>
 by_cases q1:b1≤k1∧k1≤b2 <;> by_cases q2:b1≤k2∧k2≤b2 <;> by_cases q3:a1≤k3∧k3≤a2 <;> by_cases q4:a1≤k4∧k4≤a2 <;> (try (exfalso;omega)) <;>
  by_cases u1:k1=k3 <;> (try (exfalso;omega)) <;> by_cases u2:k1=k4 <;> (try (exfalso;omega)) <;> by_cases u3:k2=k3 <;> (try (exfalso;omega)) <;> by_cases u4:k2=k4 <;> (try (exfalso;omega)) <;>
  (first|rw [decide_eq_true q1]|rw [decide_eq_false q1]) <;> (first|rw [decide_eq_true q2]|rw [decide_eq_false q2]) <;> (first|rw [decide_eq_true q3]|rw [decide_eq_false q3]) <;> (first|rw [decide_eq_true q4]|rw [decide_eq_false q4]) <;>
  (first|rw [decide_eq_true u1]|rw [decide_eq_false u1]) <;> (first|rw [decide_eq_true u2]|rw [decide_eq_false u2]) <;> (first|rw [decide_eq_true u3]|rw [decide_eq_false u3]) <;> (first|rw [decide_eq_true u4]|rw [decide_eq_false u4]) <;>
  simp only [kF,Bool.and_true,Bool.not_true,Bool.and_false,Bool.not_false,Bool.or_true,Bool.or_false,Bool.true_or,if_true,Bool.false_eq_true,if_false,Bool.true_and,Bool.false_and] <;> split <;> split <;> (try split) <;> (try split) <;> omega
theorem eqP_comm (a b:Int × Int):eqP a b=eqP b a:=by
 rw [Bool.eq_iff_iff,eqP_iff,eqP_iff];exact eq_comm
set_option maxHeartbeats 2000000 in
theorem meetR_kF (s t:Sg)(h:turnS s.1 s.2 t.1=0)(n12:eqP s.1 s.2=false)(n34:eqP t.1 t.2=false) :
  meetR s t=kF (onR s.1 t) (onR s.2 t) (onR t.1 s) (onR t.2 s) (eqP s.1 t.1) (eqP s.1 t.2) (eqP s.2 t.1) (eqP s.2 t.2):=by
 have g1:=onR_end s s.1 (.inl rfl)
 have g2:=onR_end s s.2 (.inr rfl)
 have g3:=onR_end t t.1 (.inl rfl)
 have g4:=onR_end t t.2 (.inr rfl)
 have rf:∀ p,eqP p p=true:=fun p=>(eqP_iff p p).2 rfl
 have n21:eqP s.2 s.1=false:=by rw [eqP_comm];exact n12
 have n43:eqP t.2 t.1=false:=by rw [eqP_comm];exact n34
 have c1:=eqP_comm t.1 s.1
 have c2:=eqP_comm t.1 s.2
 have c3:=eqP_comm t.2 s.1
 have c4:=eqP_comm t.2 s.2
 unfold meetR endsL
 simp only [h,addE,g1,g2,g3,g4,true_and]
 generalize onR s.1 t=p1
 generalize onR s.2 t=p2
 generalize onR t.1 s=p3
 generalize onR t.2 s=p4
 generalize he13:eqP s.1 t.1=e13 at *
 generalize he14:eqP s.1 t.2=e14 at *
 generalize he23:eqP s.2 t.1=e23 at *
 generalize he24:eqP s.2 t.2=e24 at *
 clear g1 g2 g3 g4 h
 generalize s.1=P1 at *
 generalize s.2=P2 at *
 generalize t.1=P3 at *
 generalize t.2=P4 at *
 cases p1 <;> cases p2 <;> cases p3 <;> cases p4 <;> simp only [knownS,rf,n12,n21,n34,n43,he13,he14,he23,he24,c1,c2,c3,c4,kF,Bool.false_eq_true,false_and,and_false,and_self,and_true,true_and,if_true,if_false,List.nil_append,Bool.or_false,Bool.false_or,Bool.true_and,Bool.false_and,or_true,true_or,or_false,false_or,Int.zero_mul,Int.lt_irrefl,Bool.not_false,Bool.or_true,Bool.true_or]
 all_goals (cases e13 <;> cases e14 <;> cases e23 <;> cases e24 <;> simp [knownS,rf,n12,n21,n34,n43,he13,he14,he23,he24,c1,c2,c3,c4,kF])
theorem meet_one (s t:Sg)(hs:rightG s=true)(ht:rightG t=true)(h:turnS s.1 s.2 t.1=0∧turnS s.1 s.2 t.2=0):meetS s t=meetR s t:=by
 obtain⟨r1,r2,ns⟩:=right_two hs
 obtain⟨r3,r4,nt⟩:=right_two ht
 have h':=same_line t s ns h
 have n12:key s.1≠key s.2:=(eqP_keyf r1 r2).1 ((eqP_f _ _).2 ns)
 have n34:key t.1≠key t.2:=(eqP_keyf r3 r4).1 ((eqP_f _ _).2 nt)
 have p3:onR t.1 s=betS t.1 s:=by rw [← on_eq _ _ hs,onS,h.1];simp
 have p4:onR t.2 s=betS t.2 s:=by rw [← on_eq _ _ hs,onS,h.2];simp
 have p1:onR s.1 t=betS s.1 t:=by rw [← on_eq _ _ ht,onS,h'.1];simp
 have p2:onR s.2 t=betS s.2 t:=by rw [← on_eq _ _ ht,onS,h'.2];simp
 have es:∃ a,rightS (endsS s).1=true∧rightS (endsS s).2=true∧((key s.1<key s.2∧key (endsS s).1=key s.1∧key (endsS s).2=key s.2)∨(key s.2<key s.1∧key (endsS s).1=key s.2∧key (endsS s).2=key s.1))∧a=true:=by
  refine⟨true,?_⟩
  unfold endsS
  simp only [ord_key r1 r2,cmp_gt]
  by_cases hk:key s.2<key s.1
  ·rw [if_pos hk];exact⟨r2,r1,.inr ⟨hk,rfl,rfl⟩,trivial⟩
  ·rw [if_neg hk];exact⟨r1,r2,.inl ⟨by omega,rfl,rfl⟩,trivial⟩
 have et:∃ a,rightS (endsS t).1=true∧rightS (endsS t).2=true∧((key t.1<key t.2∧key (endsS t).1=key t.1∧key (endsS t).2=key t.2)∨(key t.2<key t.1∧key (endsS t).1=key t.2∧key (endsS t).2=key t.1))∧a=true:=by
  refine⟨true,?_⟩
  unfold endsS
  simp only [ord_key r3 r4,cmp_gt]
  by_cases hk:key t.2<key t.1
  ·rw [if_pos hk];exact⟨r4,r3,.inr ⟨hk,rfl,rfl⟩,trivial⟩
  ·rw [if_neg hk];exact⟨r3,r4,.inl ⟨by omega,rfl,rfl⟩,trivial⟩
 obtain⟨_,ra1,ra2,ha,_⟩:=es
 obtain⟨_,rb1,rb2,hb,_⟩:=et
 rw [meetR_kF s t h.1 ((eqP_f _ _).2 ns) ((eqP_f _ _).2 nt),p1,p2,p3,p4]
 unfold meetS
 rw [if_pos h]
 have hl:rightS (lowS s t)=true∧key (lowS s t)=(if key (endsS s).1<key (endsS t).1 then key (endsS t).1 else key (endsS s).1):=by
  unfold lowS
  simp only [ord_key ra1 rb1,cmp_lt]
  by_cases hk:key (endsS s).1<key (endsS t).1
  ·rw [if_pos hk,if_pos hk];exact⟨rb1,rfl⟩
  ·rw [if_neg hk,if_neg hk];exact⟨ra1,rfl⟩
 have hh:rightS (highS s t)=true∧key (highS s t)=(if key (endsS t).2<key (endsS s).2 then key (endsS t).2 else key (endsS s).2):=by
  unfold highS
  simp only [ord_key rb2 ra2,cmp_lt]
  by_cases hk:key (endsS t).2<key (endsS s).2
  ·rw [if_pos hk,if_pos hk];exact⟨rb2,rfl⟩
  ·rw [if_neg hk,if_neg hk];exact⟨ra2,rfl⟩
 have hbet:∀ (p:Int × Int) (g:Sg),rightS p=true→rightS (endsS g).1=true→rightS (endsS g).2=true→betS p g=decide (key (endsS g).1≤key p∧key p≤key (endsS g).2):=by
  intro p g hp h1 h2
  unfold betS
  rw [ord_key h1 hp,ord_key hp h2,Bool.eq_iff_iff]
  simp only [Bool.and_eq_true,decide_eq_true_eq,cmp_le]
 have heq:∀ a b:Int × Int,rightS a=true→rightS b=true→eqP a b=decide (key a=key b):=by
  intro a b h1 h2
  rw [Bool.eq_iff_iff,decide_eq_true_eq,eqP_key h1 h2]
 rw [ord_key hl.1 hh.1,tbl_cmp,hl.2,hh.2,collK ha hb,hbet _ _ r1 rb1 rb2,hbet _ _ r2 rb1 rb2,hbet _ _ r3 ra1 ra2,hbet _ _ r4 ra1 ra2,heq _ _ r1 r3,heq _ _ r1 r4,heq _ _ r2 r3,heq _ _ r2 r4]
theorem meet_eq (s t:Sg)(hs:rightG s=true)(ht:rightG t=true):meetS s t=meetR s t:=by
 by_cases h:turnS s.1 s.2 t.1=0∧turnS s.1 s.2 t.2=0
 ·exact meet_one s t hs ht h
 ·exact meet_two s t (right_two hs).2.2 (right_two ht).2.2 h
end Go.Aw
