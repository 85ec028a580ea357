/-
  Parts of a proof. No condition.
-/
import Derived.Test.YticajjhjehljpaaGreatQAo
import Derived.Test.YticajjhjehljpaaGreatQAp
set_option linter.unusedSimpArgs false
set_option linter.unusedVariables false
noncomputable section
namespace Go.Aw
open Go.RowKit
theorem X6 {a0 b0 a b:Value}{n:Int}{r:List Value}(hr:eY r=true){h0 h:Heap}{n0 nx:Nat}(i:In [a0,b0] h0 n0 [a,b] h nx)(ha:∃ x y z,a0=.slice x y z)(hb:∃ x y z,b0=.slice x y z) :
  In (.agg #[a0,b0,.int .i64 n]::r) h0 n0 (.agg #[a,b,.int .i64 n]::r) h nx:=by
 intro ι B w H hs;have hag:j0 ι nx (.agg #[a,b,.int .i64 n]):=hs _ (.head _);have sa:fV ι nx a:=hag a (by simp);have sb:fV ι nx b:=hag b (by simp);obtain⟨ι0,e1,e2,e3⟩:=i ι B w H (fun v hv=>by
  simp only [List.mem_cons,List.not_mem_nil,or_false] at hv;rcases hv with rfl|rfl
  ·exact kU (fO sa)
  ·exact kU (fO sb))
 simp only [List.map_cons,List.map_nil,List.cons.injEq,and_true] at e1;obtain⟨x,y,z,rfl⟩:=ha;obtain⟨x',y',z',rfl⟩:=hb;have t1:tr ι a=bQ ι a:=(by rw [sZ (fO sa),x8 sa]);have t2:tr ι b=bQ ι b:=(by rw [sZ (fO sb),x8 sb]);refine⟨ι0,?_,?_,e3⟩
 ·rw [List.map_cons,List.map_cons];congr 1
  ·show Value.agg (Array.map (bQ ι) #[a,b,.int .i64 n])=Value.agg (Array.map (bQ ι0) #[_,_,.int .i64 n]);simp only [List.map_toArray,List.map_cons,List.map_nil];rw [← t1,← t2,e1.1,e1.2];rfl
  ·exact List.map_congr_left fun v hv=>by rw [fU (bV hr hv),fU (bV hr hv)]
 ·intro v hv;cases hv with
  |head =>
   intro u hu;simp only [List.mem_cons,List.not_mem_nil,or_false] at hu;rcases hu with rfl|rfl|rfl
   ·exact e2 _ (.head _)
   ·exact e2 _ (.tail _ (.head _))
   ·exact cD rfl
  |tail _ hm=>exact dD (bV hr hm)
section
variable {α β:Type}(E:El α)(G:El β)
def aC (n m:Nat)(c1 c2:Nat)(k:Int):Value:=.agg #[.slice (some ⟨0,0,none⟩) n c1,.slice (some ⟨1,0,none⟩) m c2,.int .i64 k]
def aE (l:List α)(m:List β):Heap:=[(0,.cells false true E.sz (flat E.fl l)),(1,.cells false true G.sz (flat G.fl m))]
def mX (s:List α→List β→Int→List Value→Option (Bool × Value)):XF:=fun args h nx K=>match args with
 |.agg ⟨[p,q,.int .i64 n]⟩::r=>∃ l m,n9 E h p l∧n9 G h q m∧(match s l m n r with|some pr=>dI pr.1 (K pr.2 h nx)|none=>False)
 |_=>False
theorem aAB {p q:Value}{n:Int}{r:List Value}(hr:eY r=true){h:Heap}{nx:Nat}{l:List α}{m:List β}(hl:n9 E h p l)(hm:n9 G h q m) :
  ∃ c1 c2,In (aC l.length m.length c1 c2 n::r) (aE E G l m) 2 (.agg #[p,q,.int .i64 n]::r) h nx:=by
 obtain⟨c1,i1⟩:=aDT (nx:=nx) E hl;obtain⟨c2,i2⟩:=aDT (nx:=nx) G hm;exact⟨c1,c2,X6 hr (aB3 rfl rfl i1 i2 ⟨_,_,rfl,aF E l⟩ ⟨_,_,rfl,aF G m⟩) ⟨_,_,_,rfl⟩ ⟨_,_,_,rfl⟩⟩
theorem AQ {P:Program}{C:VC}{f:Nat}{s:List α→List β→Int→List Value→Option (Bool × Value)}(hC:bF P C)
  (hs:∀ l m n r v,s l m n r=some (true,v)→eY r=true∧gT v=true∧∀ c1 c2,C f (aC l.length m.length c1 c2 n::r) (aE E G l m) 2 (fun u _ _=>u=v)):dK P f (mX E G s):=by
 refine (jU (S:=fun args0 h0 n0 v1 h1 k=>∃ l m n r c1 c2,s l m n r=some (true,v1)∧args0=aC l.length m.length c1 c2 n::r∧h0=aE E G l m∧n0=2∧h1=[]∧k=0) hC ?_).mono ?_ ?_
 ·rintro args0 h0 n0 v1 h1 k ⟨l,m,n,r,c1,c2,e1,rfl,rfl,rfl,rfl,rfl⟩;obtain⟨a1,a2,a3⟩:=hs l m n r v1 e1;exact⟨rfl,_,a3 c1 c2,fun v h nx e=>by rw [e];exact mJ a2⟩
 ·intro args h nx K hx;unfold mX at hx;split at hx
  case h_2=>exact hx.elim
  rename_i p q n r;obtain⟨l,m,hl,hm,hx⟩:=hx;split at hx
  case h_2=>exact hx.elim
  rename_i pr e1;obtain⟨bb,u⟩:=pr;obtain⟨rfl,hx⟩:=aD.1 hx;obtain⟨a1,a2,a3⟩:=hs l m n r u e1;obtain⟨c1,c2,i⟩:=aAB (n:=n) (nx:=nx) E G a1 hl hm;refine⟨_,_,2,u,[],0,⟨l,m,n,r,c1,c2,e1,rfl,rfl,rfl,rfl,rfl⟩,i,?_⟩;simp only [qH,wQ,m8,nJ,sI a2,Nat.add_zero];exact hx
 ·intro args h nx K hx;unfold mX at hx;split at hx
  case h_2=>exact hx.elim
  rename_i p q n r;obtain⟨l,m,hl,hm,hx⟩:=hx;split at hx
  case h_2=>exact hx.elim
  rename_i pr e1;obtain⟨hb,hx⟩:=aD.1 hx;exact⟨pr.2,h,nx,hx,fun K' hk=>⟨l,m,hl,hm,by rw [e1];exact aJ hb hk⟩⟩
end
section
variable {α β γ δ:Type}(E:El α)(G:El β)(J:El γ)(D:El δ)
def mapA (p q:Value)(n:Int):Value:=.agg #[p,q,.int .i64 n]
def wrW:List Value→Value→Value
 |[],v=>v
 |a::r,v=>.agg (v::a::r).toArray
theorem S7 {ρ:Nat→Nat}{rest:List Value}(hr:dE rest=true){k n c:Nat}:iM ρ (wrW rest (.slice (some ⟨k,0,none⟩) n c))=wrW rest (.slice (some ⟨ρ k,0,none⟩) n c):=by
 cases rest with
 |nil=>simp [wrW,iM,tr,dS,bQ,dU,j3]
 |cons a r =>
  show Value.agg (Array.map (bQ (j3 ρ)) (_::a::r).toArray)=Value.agg (_::a::r).toArray;rw [List.map_toArray,List.map_cons];congr 2;rw [List.cons.injEq];refine⟨by simp [bQ,dU,j3],?_⟩
  conv=>rhs;rw [← List.map_id (a::r)]
  exact List.map_congr_left fun v hv=>mT (a9 hr hv)
theorem aFo {rest:List Value}(hr:dE rest=true){n c:Nat}:BK 1 (wrW rest (.slice (some ⟨0,0,none⟩) n c)):=by
 cases rest with
 |nil=>exact⟨Nat.one_pos,fun h=>by cases h⟩
 |cons a r =>
  intro v hv;rcases List.mem_cons.1 hv with rfl|hv
  ·exact⟨Nat.one_pos,fun h=>by cases h⟩
  ·exact cD (a9 hr hv)
def ylH (out:List δ):Heap:=[(0,.cells true false D.sz (flat D.fl out))]
def ylV (out:List δ)(rest:List Value)(k:Nat):Value:=wrW rest (.slice (some ⟨k,0,none⟩) out.length out.length)
def YW (out:List δ)(rest:List Value):KE:=fun v h _=>∃ q,v=ylV out rest q∧look h q=some (.cells true false D.sz (flat D.fl out))
theorem aEV {out:List δ}{rest:List Value}(hr:dE rest=true){v:Value}{h:Heap}{nx:Nat}(hy:YW D out rest v h nx):K1 (ylV out rest 0) (ylH D out) 1 v h nx:=by
 obtain⟨q,rfl,hq⟩:=hy;refine⟨fun _=>q,fun t v hv=>?_,fun k o hk=>?_,fun k k' o o' hk hk' _=>?_,fun k hk=>absurd hk (Nat.not_lt_zero _),Nat.zero_le _⟩
 ·rw [aB] at hv;split at hv
  ·rename_i hb;injection hv with hv;subst hv;refine⟨?_,aFo hr⟩;rw [aB,hb];show _=some (iM (fun _=>q) (wrW rest (.slice (some ⟨0,0,none⟩) out.length out.length)));rw [S7 hr];rfl
  ·exact cK hv
 ·unfold ylH at hk;rw [aB] at hk;split at hk
  ·rename_i hb;injection hk with hk;subst hk;rw [← beq_true hb];exact⟨Nat.one_pos,_,hq,rfl,rfl,rfl,(bP (aF D out)).symm,fun v hv=>cD (a9 (aF D out) hv)⟩
  ·exact cK hk
 ·unfold ylH at hk hk';rw [aB] at hk hk';split at hk
  ·rename_i h1;split at hk'
   ·rename_i h2;exact (beq_true h1).symm.trans (beq_true h2)
   ·exact cK hk'
  ·exact cK hk
theorem aHQ {out:List δ}{rest:List Value}(hr:dE rest=true){h:Heap}{nx:Nat}{K:KE}(hk:K (ylV out rest nx) (cC h nx (.cells true false D.sz (flat D.fl out))) (nx+1)) :
  K (iM (fun k=>nx+k) (ylV out rest 0)) (app (m8 nx (ylH D out)) (qH (ylH D out) h)) (nx+1):=by
 have hm:(flat D.fl out).map (bM (fun k=>nx+k))=flat D.fl out:=bP (aF D _);have e1:iM (fun k=>nx+k) (ylV out rest 0)=ylV out rest nx:=S7 hr;have e2:app (m8 nx (ylH D out)) (qH (ylH D out) h)=cC h nx (.cells true false D.sz (flat D.fl out)):=by
  show (nx+0,aS.cells true false D.sz ((flat D.fl out).map (bM (fun k=>nx+k))))::h=_;rw [hm];rfl
 rw [e1,e2];exact hk
abbrev YS (δ:Type):=Option (Bool × List δ × List Value)
end
end Go.Aw
end

noncomputable section
namespace Go.Aw
section
variable {ρ:Nat→Nat}{n0 k:Nat}{h:Heap}{o o':aS}{r:List (Nat × aS)}{wr g:Bool}{sz:Nat}{cs:List Value}
theorem iN {α:Type}{P:α→Prop}:∀ p∈([]:List α),P p:=fun _ h=>by cases h
theorem iE {e:List (Nat × Value)}{v:Value}{s:List (Nat × Value)}(h1:look e k=some (iM ρ v))(h2:Z5 n0 v=true)(h3:∀ p∈s,look e p.1=some (iM ρ p.2)∧BK n0 p.2):∀ p∈(k,v)::s,look e p.1=some (iM ρ p.2)∧BK n0 p.2 :=
 List.forall_mem_cons.2 ⟨⟨h1,JN h2⟩,h3⟩
theorem iW (h1:Nat.ble (k+1) n0=true)(h2:look h (ρ k)=some o')(h4:bT ρ n0 o o')(h3:∀ p∈r,p.1<n0∧∃ o',look h (ρ p.1)=some o'∧bT ρ n0 p.2 o'):∀ p∈(k,o)::r,p.1<n0∧∃ o',look h (ρ p.1)=some o'∧bT ρ n0 p.2 o' :=
 List.forall_mem_cons.2 ⟨⟨Nat.le_of_ble_eq_true h1,_,h2,h4⟩,h3⟩
theorem iG (h1:Nat.ble (k+1) n0=true)(h2:look h (ρ k)=some (.cells wr g sz cs))(h4:dE cs=true)(h3:∀ p∈r,p.1<n0∧∃ o',look h (ρ p.1)=some o'∧bT ρ n0 p.2 o'):∀ p∈(k,.cells wr g sz cs)::r,p.1<n0∧∃ o',look h (ρ p.1)=some o'∧bT ρ n0 p.2 o' :=
 iW h1 h2 (aI h4) h3
theorem iF {α:Type}{E:El α}{l:List α}(h1:Nat.ble (k+1) n0=true)(h2:look h (ρ k)=some (.cells wr g sz (flat E.fl l)))(h3:∀ p∈r,p.1<n0∧∃ o',look h (ρ p.1)=some o'∧bT ρ n0 p.2 o'):∀ p∈(k,.cells wr g sz (flat E.fl l))::r,p.1<n0∧∃ o',look h (ρ p.1)=some o'∧bT ρ n0 p.2 o' :=
 iG h1 h2 (aF E l) h3
theorem iC (h1:Nat.ble (k+1) n0=true)(h2:look h (ρ k)=some (.cells wr g sz (cs.map (bM ρ))))(h4:Q7 n0 cs=true)(h3:∀ p∈r,p.1<n0∧∃ o',look h (ρ p.1)=some o'∧bT ρ n0 p.2 o'):∀ p∈(k,.cells wr g sz cs)::r,p.1<n0∧∃ o',look h (ρ p.1)=some o'∧bT ρ n0 p.2 o' :=
 iW h1 h2 ⟨rfl,rfl,rfl,rfl,xR h4⟩ h3
theorem iJ {cs':List Value}(h1:Nat.ble (k+1) n0=true)(h2:look h (ρ k)=some (.cells wr g sz cs'))(h4:dE cs=true)(h5:cs'=cs)(h3:∀ p∈r,p.1<n0∧∃ o',look h (ρ p.1)=some o'∧bT ρ n0 p.2 o'):∀ p∈(k,.cells wr g sz cs)::r,p.1<n0∧∃ o',look h (ρ p.1)=some o'∧bT ρ n0 p.2 o' :=
 iW h1 h2 (cV h4 h5) h3
theorem iK {k0 q:Nat}(h1:(Nat.beq k k0 || !Nat.beq k q)=true)(h3:∀ p∈r,p.1≠k0→p.1≠q):∀ p∈(k,o)::r,p.1≠k0→p.1≠q :=
 List.forall_mem_cons.2 ⟨fun hk e=>by
  simp only [Bool.or_eq_true,Bool.not_eq_true'] at h1;rcases h1 with h1|h1
  ·exact hk (beq_true h1)
  ·exact beq_false h1 e,h3⟩
end
end Go.Aw
end

noncomputable section
namespace Go.Aw
set_option maxRecDepth 100000
def Z9 (s:Sg):List Value:=[iv s.1.1,iv s.1.2,iv s.2.1,iv s.2.2]
def hE (s t:Sg)(ps:List (Int × Int)):Heap:=[(0,.cells true false 1 (Z9 s)),(1,.cells true false 1 (Z9 t)),(2,.cells true false 2 (flat a8.fl ps))]
def iI (s t:Sg):Int:=if dJ s=true∧dJ t=true then kX s t else 0
def X22:Nat × XF:=(115,gX (s2 cS cS fun s t=>(true,u8 (iI s t))))
theorem x22:dK Go.Proofs.Tryz.prog X22.1 X22.2:=x2 cS cS (xl:=[X64,X68]) (.cons x64 (.cons x68 .nil)) (fun _ _=>rfl) fun s t _=>by
 obtain⟨⟨ax,ay⟩,⟨bx,b2⟩⟩:=s;obtain⟨⟨cx,cy⟩,⟨dx,dy⟩⟩:=t;unfold eZ
 repeat' ((conv=>whnf);refine bm (fun g=>?_) (fun g=>?_))
 all_goals (conv=>whnf)
 all_goals (simp only [KR,K3,WS,Bool.not_eq_true',Bool.not_eq_false',beq_iff_eq,beq_eq_false_iff_ne,ne_eq,Bool.not_eq_false,Bool.not_eq_true] at *)
 all_goals first
  |(show u8 _=u8 _;simp [iI, *];done)
  |(simp_all [A4];done)
  |trace_state
def aGx:Nat × XF:=(109,gX (s2 cP cP fun a b=>(true,iv (jS a b))))
theorem aIC:dK Go.Proofs.Tryz.prog aGx.1 aGx.2:=x2 cP cP (xl:=[OU,Y8]) (.cons QD (.cons aGk .nil)) (fun _ _=>rfl) fun a b _=>by
 obtain⟨ax,ay⟩:=a;obtain⟨bx,b_y⟩:=b;unfold eZ
 conv=>whnf
 refine⟨[gH ax bx,gH ay b_y],⟨rfl,_,_,_,_,rfl,rfl⟩,?_⟩
 conv=>whnf
 rfl
section
variable {α β γ δ:Type}(a:Cd α)(b:Cd β)(c:Cd γ)(d:Cd δ)
def s4 (F:α→β→γ→δ→Bool × Value):List Value→Option (Bool × Value)
 |[u,v,w,t]=>(match a.dec u with|some x=>(match b.dec v with|some y=>(match c.dec w with|some z=>(match d.dec t with|some s=>some (F x y z s)|none=>none)|none=>none)|none=>none)|none=>none)
 |_=>none
theorem aEF {F:α→β→γ→δ→Bool × Value}{args:List Value}{r:Bool × Value}(h:s4 a b c d F args=some r):∃ x y z s,args=[a.enc x,b.enc y,c.enc z,d.enc s]∧F x y z s=r:=by
 unfold s4 at h;split at h
 ·split at h
  ·rename_i x e;split at h
   ·rename_i y e2;split at h
    ·rename_i z e3;split at h
     ·rename_i s e4;injection h with h;exact⟨x,y,z,s,by rw [a.ok _ _ e,b.ok _ _ e2,c.ok _ _ e3,d.ok _ _ e4],h⟩
     ·cases h
    ·cases h
   ·cases h
  ·cases h
 ·cases h
theorem x4' {xl:List (Nat × XF)}(hx:lB xl){f:Nat}{F:α→β→γ→δ→Bool × Value}(hg:∀ x y z s,gT (F x y z s).2=true)(h:∀ x y z s,(F x y z s).1=true→eZ xl f [a.enc x,b.enc y,c.enc z,d.enc s] (F x y z s).2):dK Go.Proofs.Tryz.prog f (gX (s4 a b c d F)) :=
 uD (aR hx) fun args v hs=>by
  obtain⟨x,y,z,s,rfl,e⟩:=aEF a b c d hs;have h1:(F x y z s).1=true:=(by rw [e]);have h2:(F x y z s).2=v:=(by rw [e]);subst h2;exact⟨by simp [eY,a.gr,b.gr,c.gr,d.gr],hg x y z s,h x y z s h1⟩
end
theorem aEc {b:Bool}(h:aA.A.eqB b false=true):b=false:=by cases b <;> first|rfl|cases h
theorem aEf {b:Bool}(h:aA.A.eqB b false=false):b=true:=by cases b <;> first|rfl|cases h
def mxI (a b:Int):Int:=if b > a then b else a
def mnI (a b:Int):Int:=if b<a then b else a
def apI (a b c d:Int):Bool:=decide (mxI a b<mnI c d) || decide (mxI c d<mnI a b)
def aGT:Nat × XF:=(149,gX (s4 cI cI cI cI fun a b c d=>(true,.bool (apI a b c d))))
theorem aKq:dK Go.Proofs.Tryz.prog aGT.1 aGT.2:=x4' cI cI cI cI (xl:=[]) .nil (fun _ _ _ _=>rfl) fun a b c d _=>by
 unfold eZ
 repeat' (conv=>whnf
          refine bm (fun h=>?_) (fun h=>?_))
 all_goals (conv=>whnf)
 all_goals (show _=Value.bool (apI a b c d))
 ·have h1:decide (mxI a b<mnI c d)=false:=aEc h;unfold apI;rw [h1];rfl
 ·have h1:decide (mxI a b<mnI c d)=true:=aEf h;unfold apI;rw [h1];rfl
def yU (s t:Sg):Bool:=apI s.1.1 s.2.1 t.1.1 t.2.1 || apI s.1.2 s.2.2 t.1.2 t.2.2
def aG0:Nat × XF:=(90,gX (s2 cS cS fun s t=>(true,.bool (yU s t))))
theorem aK9:dK Go.Proofs.Tryz.prog aG0.1 aG0.2:=x2 cS cS (xl:=[aGT]) (.cons aKq .nil) (fun _ _=>rfl) fun s t _=>by
 obtain⟨⟨ax,ay⟩,⟨bx,b2⟩⟩:=s;obtain⟨⟨cx,cy⟩,⟨dx,dy⟩⟩:=t;unfold eZ
 repeat' (conv=>whnf
          refine bm (fun h=>?_) (fun h=>?_))
 all_goals (conv=>whnf)
 ·have h1:apI ax bx cx dx=false:=aEc h;show _=Value.bool (yU _ _);unfold yU;rw [h1];rfl
 ·have h1:apI ax bx cx dx=true:=aEf h;show _=Value.bool (yU _ _);unfold yU;rw [h1];rfl
def E6 (s t:Sg):Int:=if yU s t=true then 0 else iI s t
def SH:Nat × XF:=(67,gX (s2 cS cS fun s t=>(true,u8 (E6 s t))))
theorem aDS:dK Go.Proofs.Tryz.prog SH.1 SH.2:=x2 cS cS (xl:=[aG0,X22]) (.cons aK9 (.cons x22 .nil)) (fun _ _=>rfl) fun s t _=>by
 obtain⟨⟨ax,ay⟩,⟨bx,b2⟩⟩:=s;obtain⟨⟨cx,cy⟩,⟨dx,dy⟩⟩:=t;unfold eZ
 repeat' (conv=>whnf
          refine bm (fun h=>?_) (fun h=>?_))
 all_goals (conv=>whnf)
 ·have h1:yU ((ax,ay),(bx,b2)) ((cx,cy),(dx,dy))=true:=h;show _=u8 _;simp only [E6,h1,if_true];rfl
 ·have h1:yU ((ax,ay),(bx,b2)) ((cx,cy),(dx,dy))=false:=h;show _=u8 _;simp only [E6,h1];rfl
def fP (a b:Int × Int):Bool:=decide (a.1<b.1) || (decide (a.1=b.1)&&decide (a.2<b.2))
def aJi (a b c:Int × Int):Int:=(b.1 - a.1)*(c.1 - a.1)+(b.2 - a.2)*(c.2 - a.2)
def NS (v u w:Int × Int):Int:=if aV v u w<0 then 0 else if 0<aV v u w then 2 else if aJi v u w<0 then 1 else 3
def AT (v u w x:Int × Int):Bool:=if NS v u w=NS v u x then decide (aV v w x<0) else decide (NS v u w<NS v u x)
abbrev Pt:=Int × Int
structure Ed where
 a:Int
 b:Int
 l:Int
 r:Int
 n:Int
def aX:El Ed:=⟨fun e=>[iv e.a,iv e.b,iv e.l,iv e.r,iv e.n],5,fun _=>rfl,fun _=>rfl,by decide⟩
def dG (m:List Ed)(i:Nat):Ed:=m.getD i ⟨0,0,0,0,0⟩
theorem I8 {m:List Ed}{i:Nat}(h:i<m.length):dG m i=m[i]:=by
 unfold dG;rw [List.getD_eq_getElem?_getD,List.getElem?_eq_getElem h];rfl
theorem aDz (m:List Ed){i o:Nat}(hi:i<m.length)(ho:o=i*5):m9 (flat aX.fl m) o 5=some [iv (dG m i).a,iv (dG m i).b,iv (dG m i).l,iv (dG m i).r,iv (dG m i).n]:=by
 rw [I8 hi];exact D5 aX m hi ho
theorem L9 (m:List Ed)(k:Nat){i o:Nat}{v:Value}(hi:i<m.length)(hk:(aX.fl (dG m i))[k]? = some v)(hk5:k<5)(ho:o=i*5+k):nth (flat aX.fl m) o=some v:=by
 rw [I8 hi] at hk;exact mI aX m hi hk hk5 ho
theorem tT (l:List Pt){i o:Nat}(hi:i<l.length)(ho:o=i*2):m9 (flat a8.fl l) o 2=some [iv (pZ l i).1,iv (pZ l i).2]:=by
 rw [KF hi];exact D5 a8 l hi ho
theorem bJ {α:Type}(E:El α){l:List α}{k c:Nat}{wr g:Bool}{sz:Nat}{h:Heap}(hk:look h k=some (.cells wr g sz (flat E.fl l))):n9 E h (.slice (some ⟨k,0,none⟩) l.length c) l :=
 ⟨rfl,wr,g,sz,_,hk,by rw [List.drop_zero,List.take_length]⟩
def kV (m:List Ed)(d:Int):Int:=if d % 2=0 then (dG m (d / 2).toNat).a else (dG m (d / 2).toNat).b
def wV (m:List Ed)(d:Int):Int:=kV m (d+1 - 2*(d % 2))
abbrev MS:=List Pt→List Ed→Int→List Value→Option (Bool × Value)
def inD (m:List Ed)(d:Int):Bool:=decide (0≤d)&&decide (d<2*m.length)&&decide (m.length≤1000000)
def sMD (F:List Pt→List Ed→Int→Int→Bool × Value):MS:=fun l m n r=>match r with
 |[.int .i64 d]=>some (F l m n d)
 |_=>none
theorem IP {F:List Pt→List Ed→Int→Int→Bool × Value}{l:List Pt}{m:List Ed}{n:Int}{r:List Value}{v:Value}(h:sMD F l m n r=some (true,v)):∃ d,r=[iv d]∧(F l m n d).1=true∧(F l m n d).2=v:=by
 unfold sMD at h;split at h
 ·rename_i d;injection h with h;exact⟨d,rfl,by rw [h],by rw [h]⟩
 ·cases h
def lU:El Bool:=⟨fun b=>[.bool b],1,fun _=>rfl,fun _=>rfl,by decide⟩
def cM (k:List Bool)(i:Nat):Bool:=k.getD i false
theorem qQ {k:List Bool}{i:Nat}(h:i<k.length):cM k i=k[i]:=by
 unfold cM;rw [List.getD_eq_getElem?_getD,List.getElem?_eq_getElem h];rfl
theorem aC6 (k:List Bool){i o:Nat}(hi:i<k.length)(ho:o=i*1):nth (flat lU.fl k) o=some (.bool (cM k i)):=by
 rw [qQ hi];exact mI lU k hi (k:=0) rfl Nat.one_pos (by rw [ho];rfl)
def jY (l:List Pt)(i:Int):Pt:=pZ l i.toNat
def ND (l:List Pt)(m:List Ed):Bool:=l.all wide&&m.all (fun e=>decide (0≤e.a)&&decide (e.a<l.length)&&decide (0≤e.b)&&decide (e.b<l.length))&&decide (m.length≤1000)&&decide (l.length≤1000)
theorem uO {l:List Pt}{m:List Ed}(h:ND l m=true){i:Nat}(hi:i<m.length):0≤(dG m i).a∧(dG m i).a<l.length∧0≤(dG m i).b∧(dG m i).b<l.length:=by
 simp only [ND,Bool.and_eq_true] at h;have:=List.all_eq_true.1 h.1.1.2 _ (List.getElem_mem hi);rw [I8 hi];simp only [Bool.and_eq_true,decide_eq_true_eq] at this;omega
def qK (l:List Pt)(m:List Ed)(k:List Bool)(d:Int):Nat→Int
 |0=>-1
 |j+1=>if (cM k j=true∧kV m j=wV m d)∧(qK l m k d j<0∨AT (jY l (wV m d)) (jY l (kV m d)) (jY l (wV m j)) (jY l (wV m (qK l m k d j)))=true) then j else qK l m k d j
theorem aK2 {l:List Pt}{m:List Ed}{k:List Bool}{d:Int}{j:Nat}(h:¬ ((cM k j=true∧kV m j=wV m d)∧(qK l m k d j<0∨AT (jY l (wV m d)) (jY l (kV m d)) (jY l (wV m j)) (jY l (wV m (qK l m k d j)))=true))):qK l m k d (j+1)=qK l m k d j:=by
 conv=>lhs;unfold qK
 exact if_neg h
theorem aJT {l:List Pt}{m:List Ed}{k:List Bool}{d:Int}{j:Nat}(h:((cM k j=true∧kV m j=wV m d)∧(qK l m k d j<0∨AT (jY l (wV m d)) (jY l (kV m d)) (jY l (wV m j)) (jY l (wV m (qK l m k d j)))=true))):qK l m k d (j+1)=j:=by
 conv=>lhs;unfold qK
 exact if_pos h
def bI (a b:Nat)(c1 c2:Nat)(n:Int):aS:=.cells true false 1 [.slice (some ⟨0,0,none⟩) a c1,.slice (some ⟨1,0,none⟩) b c2,iv n]
def aH (k:List Int)(i:Nat):Int:=k.getD i 0
theorem jQ {k:List Int}{i:Nat}(h:i<k.length):aH k i=k[i]:=by
 unfold aH;rw [List.getD_eq_getElem?_getD,List.getElem?_eq_getElem h];rfl
theorem j1 (k:List Int){i o:Nat}(hi:i<k.length)(ho:o=i*1):nth (flat aU.fl k) o=some (iv (aH k i)):=by
 rw [jQ hi];exact mI aU k hi (k:=0) rfl Nat.one_pos (by rw [ho];rfl)
def aDR (l:List Pt)(m:List Ed)(d:Int):Int:=(jY l (kV m d)).1*(jY l (wV m d)).2 - (jY l (wV m d)).1*(jY l (kV m d)).2
def LS (l:List Pt)(m:List Ed)(k:List Int):Nat→Int
 |0=>0
 |i+1=>LS l m k i+aDR l m (aH k i)
def aJM (m:List Ed)(k:List Int):Bool:=k.all (inD m)
theorem DB {α:Type}(E:El α)(o:List α)(x:α){n:Nat}(hn:n=o.length):((flat E.fl o).drop 0).take (n*E.sz)++E.fl x=flat E.fl (o++[x]):=by
 subst hn;rw [List.drop_zero,← cG E o,List.take_length,AD];simp [flat]
theorem aB5 {i N s:Nat}{p:Prop}(hN:N=i*s)(hi:i+1≤1000000000)
  (h:aA.A.andB (aA.A.andB ((i+1).ble 1000000000) ((0+i*s).ble N)) (aA.A.andB ((0+i*s).beq N) (Nat.beq s s))=false):p:=by
 exfalso;have h1:(i+1).ble 1000000000=true:=Nat.ble_eq_true_of_le hi;have h2:(0+i*s).ble N=true:=Nat.ble_eq_true_of_le (by omega);have h3:(0+i*s).beq N=true:=(by rw [hN,Nat.zero_add];exact Nat.beq_refl _);rw [h1,h2,h3,Nat.beq_refl] at h;cases h
def WX (f:Int→Int)(d:Int):Nat→Int
 |0=>f d
 |i+1=>f (WX f d i)
def NG (f:Int→Int)(d:Int)(N i:Nat):Bool:=(!decide (WX f d i=d))&&(decide (0≤WX f d i)&&decide (i≤N))
def WR (f:Int→Int)(d:Int)(N:Nat):Nat→Nat→Nat
 |0,i=>i
 |k+1,i=>if NG f d N i=true then WR f d N k (i+1) else i
def aIQ (f:Int→Int)(d:Int)(i:Nat):List Int:=d::(List.range i).map (WX f d)
def aBK (l:List Pt)(m:List Ed)(k:List Bool)(d:Int):Int:=qK l m k d (2*m.length)
def QT (l:List Pt)(m:List Ed)(k:List Bool)(d:Int):List Int:=aIQ (aBK l m k) d (WR (aBK l m k) d (2*m.length) (2*m.length+2) 0)
def eU (of w:List Int)(face:Int):Nat→List Int
 |0=>of
 |i+1=>(eU of w face i).set (aH w i).toNat face
theorem iU (of w:List Int)(face:Int):∀ i,(eU of w face i).length=of.length
 |0=>rfl
 |i+1=>by unfold eU;rw [List.length_set];exact iU of w face i
structure Fst where
 of:List Int
 faces:Int
 outside:Int
 ok:Bool
def P9 (l:List Pt)(m:List Ed)(s:Fst)(d:Nat):Fst :=
 if 0≤aH s.of d then s else
  let w:=QT l m (List.replicate (2*m.length) true) d;let a:=LS l m w w.length;let fc:=if 0<a then s.faces+1 else 0
  ⟨eU s.of w fc w.length,if 0<a then s.faces+1 else s.faces,if a<0 then s.outside+1 else s.outside,if a=0 then false else s.ok⟩
def LB (l:List Pt)(m:List Ed):Nat→Fst
 |0=>⟨List.replicate (2*m.length) (-1),0,0,true⟩
 |d+1=>P9 l m (LB l m d) d
def mK (l:List Pt)(m:List Ed):Fst:=LB l m (2*m.length)
def aEQ (s:Fst):Bool:=s.ok&&(decide (s.outside=1)&&decide (1≤s.faces))
theorem B4 (l:List Int):∀ (i:Nat) (v:Int),i<l.length→eC (flat aU.fl l) (i*1) [iv v]=flat aU.fl (l.set i v):=by
 induction l with
 |nil=>intro i v h;cases h
 |cons a r ih =>
  intro i v h;cases i with
  |zero=>rfl
  |succ i =>
   have:=ih i v (by simpa using h);simp only [List.set_cons_succ,flat,← this];have e:(i+1)*1=i*1+1:=(by omega);rw [e];unfold eC;show List.take (i*1+1) (iv a::flat aU.fl r)++_++List.drop (i*1+1+1) (iv a::flat aU.fl r)=_;rfl
theorem D3 {of w:List Int}{c:Int}{t o:Nat}(ho:o=(aH w t).toNat*1)(hi:(aH w t).toNat<of.length):eC (flat aU.fl (eU of w c t)) o [iv c]=flat aU.fl (eU of w c (t+1)):=by
 rw [ho,B4 _ _ _ (by rw [iU];exact hi)];rfl
theorem rU (l:List Bool):∀ (i:Nat) (v:Bool),i<l.length→eC (flat lU.fl l) (i*1) [.bool v]=flat lU.fl (l.set i v):=by
 induction l with
 |nil=>intro i v h;cases h
 |cons a r ih =>
  intro i v h;cases i with
  |zero=>rfl
  |succ i =>
   have:=ih i v (by simpa using h);simp only [List.set_cons_succ,flat,← this];have e:(i+1)*1=i*1+1:=(by omega);rw [e];unfold eC;show List.take (i*1+1) (.bool a::flat lU.fl r)++_++List.drop (i*1+1+1) (.bool a::flat lU.fl r)=_;rfl
def qJ (i:Nat):List Bool:=(List.range i).map fun (t:Nat)=>decide ((t:Int)=0)
theorem ER (i:Nat):(qJ i).length=i:=by simp [qJ]
def J0 (s:List Bool)(e:Ed):List Bool:=if (cM s e.a.toNat || cM s e.b.toNat)=true then (s.set e.a.toNat true).set e.b.toNat true else s
def oY (m:List Ed)(s:List Bool):Nat→List Bool
 |0=>s
 |i+1=>J0 (oY m s i) (dG m i)
def dV (l:List Pt)(m:List Ed):Nat→List Bool
 |0=>qJ l.length
 |i+1=>oY m (dV l m i) m.length
def VO (l:List Pt)(m:List Ed):Bool:=(dV l m l.length).all id
theorem YD (s:List Bool)(e:Ed):(J0 s e).length=s.length:=by
 unfold J0;split <;> simp
theorem qT (m:List Ed)(s:List Bool):∀ i,(oY m s i).length=s.length
 |0=>rfl
 |i+1=>by unfold oY;rw [YD];exact qT m s i
theorem rJ (l:List Pt)(m:List Ed):∀ i,(dV l m i).length=l.length
 |0=>ER _
 |i+1=>by unfold dV;rw [qT];exact rJ l m i
theorem aHw {s:List Bool}{a b o1 o2:Nat}(h1:o1=a*1)(h2:o2=b*1)(ha:a<s.length)(hb:b<s.length):eC (eC (flat lU.fl s) o1 [.bool true]) o2 [.bool true]=flat lU.fl ((s.set a true).set b true):=by
 rw [h1,h2,rU _ _ _ ha,rU _ _ _ (by rw [List.length_set];exact hb)]
theorem kH {x N:Nat}{p:Prop}(h:x.ble N=false)(hx:x≤N):p:=by
 rw [Nat.ble_eq_true_of_le hx] at h;cases h
def z7 (l:List Pt)(m:List Ed)(c1 c2:Nat)(n:Int):Heap:=(2,bI l.length m.length c1 c2 n)::aE a8 aX l m
def A0 (l:List Pt)(m:List Ed)(c1 c2:Nat)(n:Int)(s:List Bool):Heap:=(3,.cells true false 1 (flat lU.fl s))::z7 l m c1 c2 n
def bZ (l:List Pt)(m:List Ed)(i:Nat):Sg:=(jY l (dG m i).a,jY l (dG m i).b)
def sgS:MS:=sMD fun l m _ d=>(ND l m&&(decide (0≤d)&&decide (d<m.length)),sgv (bZ l m d.toNat))
def aAR:Nat × XF:=(80,mX a8 aX sgS)
theorem aHJ:dK Go.Proofs.Tryz.prog aAR.1 aAR.2:=AQ a8 aX (aR (xl:=[]) .nil) fun l m n r v hs=>by
 obtain⟨d,rfl,hd,rfl⟩:=IP hs;clear hs;simp only [Bool.and_eq_true,decide_eq_true_eq] at hd;obtain⟨hM,h0,hd⟩:=hd;have he:=uO hM (i:=d.toNat) (by omega);refine⟨rfl,rfl,fun c1 c2=>?_⟩;((conv=>whnf);refine bm (fun h1=>?_) (fun h1=>?_))
 ·(conv=>whnf);refine lD (L9 m 0 (i:=d.toNat) (by omega) rfl (by decide) ?_) ?_
  ·show _+Int.toNat d*5+0=_;omega
  ((conv=>whnf);refine bm (fun h2=>?_) (fun h2=>?_))
  ·(conv=>whnf);refine K6 (tT l (i:=(dG m d.toNat).a.toNat) (by omega) ?_) ?_
   ·show _+Int.toNat (dG m d.toNat).a*2=_;omega
   ((conv=>whnf);refine bm (fun h3=>?_) (fun h3=>?_))
   ·(conv=>whnf);refine lD (L9 m 1 (i:=d.toNat) (by omega) rfl (by decide) ?_) ?_
    ·show _+Int.toNat d*5+1=_;omega
    ((conv=>whnf);refine bm (fun h4=>?_) (fun h4=>?_))
    ·(conv=>whnf);refine K6 (tT l (i:=(dG m d.toNat).b.toNat) (by omega) ?_) ?_
     ·show _+Int.toNat (dG m d.toNat).b*2=_;omega
     (conv=>whnf);rfl
    ·exfalso;simp [aA,aG] at h4;omega
   ·exfalso;simp [aA,aG] at h3;omega
  ·exfalso;simp [aA,aG] at h2;omega
 ·exfalso;simp [aA,aG] at h1;omega
end Go.Aw
end

noncomputable section
namespace Go.Aw
def mG (f:Nat→Bool)(n:Nat):Bool:=(List.range n).all f
theorem j9 {f:Nat→Bool}{n i:Nat}(hi:i<n)(h:f i=false):mG f n=false:=by
 unfold mG;rw [List.all_eq_false];exact⟨i,List.mem_range.2 hi,by rw [h];exact Bool.false_ne_true⟩
theorem kJ {f:Nat→Bool}{n:Nat}(h:∀ i,i<n→f i=true):mG f n=true:=by
 unfold mG;rw [List.all_eq_true];exact fun i hi=>h i (List.mem_range.1 hi)
theorem eH {f:Nat→Bool}{n i:Nat}(h:mG f n=true)(hi:i<n):f i=true:=List.all_eq_true.1 h i (List.mem_range.2 hi)
def QE (l:List Pt)(i:Nat):Bool:=aW (pZ l i)&&(decide (i=0) || fP (pZ l (i - 1)) (pZ l i))
def bfE (d e:Ed):Bool:=decide (d.a<e.a) || (decide (d.a=e.a)&&decide (d.b<e.b))
def P5 (l:List Pt)(m:List Ed)(i:Nat):Bool :=
 decide (0≤(dG m i).a)&&decide ((dG m i).a<(dG m i).b)&&decide ((dG m i).b<l.length)&&decide (-1≤(dG m i).n)&&decide ((dG m i).n<200)&&(decide (i=0) || bfE (dG m (i - 1)) (dG m i))
def x6 (m:List Ed)(s:List Bool):Nat→List Bool
 |0=>s
 |i+1=>((x6 m s i).set (dG m i).a.toNat true).set (dG m i).b.toNat true
theorem FP (m:List Ed)(s:List Bool):∀ i,(x6 m s i).length=s.length
 |0=>rfl
 |i+1=>by unfold x6;rw [List.length_set,List.length_set];exact FP m s i
def H3 (l:List Pt)(m:List Ed)(i k:Nat):Bool:=decide (iI (bZ l m i) (bZ l m k)=0) || decide (iI (bZ l m i) (bZ l m k)=1)
def szB (l:List Pt)(m:List Ed)(n:Int):Bool:=decide (l.length≤400)&&decide (3≤m.length)&&decide (m.length≤400)&&decide (1≤n)&&decide (n≤100)
def cL (l:List Pt)(m:List Ed)(n:Int):Bool:=szB l m n&&(mG (QE l) l.length&&(mG (P5 l m) m.length&&(x6 m (List.replicate l.length false) m.length).all id))
def iP (l:List Pt)(m:List Ed)(n:Int):Bool:=cL l m n&&mG (fun i=>mG (fun k=>H3 l m i k) i) m.length
theorem QQ {l:List Pt}{m:List Ed}(hl:l.length≤1000)(hm:m.length≤1000)(h1:∀ i,i<l.length→QE l i=true)(h2:∀ i,i<m.length→P5 l m i=true):ND l m=true:=by
 simp only [ND,Bool.and_eq_true,decide_eq_true_eq];refine⟨⟨⟨List.all_eq_true.2 fun p hp=>?_,List.all_eq_true.2 fun e he=>?_⟩,hm⟩,hl⟩
 ·obtain⟨i,hi,rfl⟩:=List.getElem_of_mem hp;have:=h1 i hi;rw [QE,KF hi,Bool.and_eq_true] at this;exact nF this.1
 ·obtain⟨i,hi,rfl⟩:=List.getElem_of_mem he;have:=h2 i hi;rw [P5,I8 hi] at this;simp only [Bool.and_eq_true,decide_eq_true_eq] at this ⊢;omega
theorem aFD {l:List Pt}{m:List Ed}{n:Int}{i k:Nat}(hi:i<m.length)(hk:k<i)(h:H3 l m i k=false):iP l m n=false:=by
 have:mG (fun k=>H3 l m i k) i=false:=j9 hk h;have:mG (fun i=>mG (fun k=>H3 l m i k) i) m.length=false:=j9 hi this;simp [iP,this]
theorem aGG {l:List Pt}{m:List Ed}{n:Int}(h:szB l m n=false):cL l m n=false:=by simp [cL,h]
theorem aAX {l:List Pt}{m:List Ed}{n:Int}{i:Nat}(hi:i<l.length)(h:QE l i=false):cL l m n=false:=by simp [cL,j9 hi h]
theorem yX {l:List Pt}{m:List Ed}{n:Int}{i:Nat}(hi:i<m.length)(h:P5 l m i=false):cL l m n=false:=by simp [cL,j9 hi h]
end Go.Aw
end

noncomputable section
namespace Go.Aw
set_option maxRecDepth 100000
theorem EO {l:List Pt}{m:List Ed}{i:Nat}{ed:Ed}(hed:dG m i=ed)(h:¬ (0≤ed.a∧ed.a<ed.b∧ed.b<l.length∧-1≤ed.n∧ed.n<200)):P5 l m i=false:=by
 cases hb:P5 l m i with
 |false=>rfl
 |true =>
  rw [P5,hed] at hb;simp only [Bool.and_eq_true,decide_eq_true_eq] at hb;exact absurd ⟨hb.1.1.1.1.1,hb.1.1.1.1.2,hb.1.1.1.2,hb.1.1.2,hb.1.2⟩ h
theorem aFx {l:List Pt}{m:List Ed}{i:Nat}{ed d:Ed}(hed:dG m i=ed)(hd:dG m (i - 1)=d)(hi:i≠0)(h:bfE d ed=false):P5 l m i=false:=by
 rw [P5,hed,hd,h,decide_eq_false hi,Bool.or_false,Bool.and_false]
theorem TE {l:List Pt}{m:List Ed}{i:Nat}{ed:Ed}(hed:dG m i=ed)(h:0≤ed.a∧ed.a<ed.b∧ed.b<l.length∧-1≤ed.n∧ed.n<200)(ho:(decide (i=0) || bfE (dG m (i - 1)) ed)=true):P5 l m i=true:=by
 rw [P5,hed,ho];simp only [Bool.and_eq_true,decide_eq_true_eq,and_true];omega
theorem fC {l:List Pt}{m:List Ed}{n:Int}(h:cL l m n=true):ND l m=true∧3≤m.length∧1≤l.length∧l.length≤400∧m.length≤400∧1≤n∧n≤100:=by
 simp only [cL,Bool.and_eq_true] at h;obtain⟨h1,h2,h3,h4⟩:=h;simp only [szB,Bool.and_eq_true,decide_eq_true_eq] at h1;have hM:=QQ (l:=l) (m:=m) (by omega) (by omega) (fun i hi=>eH h2 hi) (fun i hi=>eH h3 hi);have:=uO hM (i:=0) (by omega);exact⟨hM,by omega,by omega,by omega,by omega,by omega,by omega⟩
theorem cN {l:List Pt}{m:List Ed}{n:Int}(h:iP l m n=true):cL l m n=true:=by
 simp only [iP,Bool.and_eq_true] at h;exact h.1
def faB (m:List Ed)(of:List Int)(i:Nat):Bool:=decide ((dG m i).l=aH of (2*i))&&decide ((dG m i).r=aH of (2*i+1))
def aFS (l:List Pt)(m:List Ed)(n:Int):Bool:=iP l m n&&(VO l m&&(aEQ (mK l m)&&(decide ((mK l m).faces=n)&&mG (faB m (mK l m).of) m.length)))
def K2:List Bool→Nat→Int
 |[],_=>-1
 |b::r,i=>if b=false then i else K2 r (i+1)
theorem LL:∀ (l:List Bool) (i:Nat),decide (0≤K2 l i)=!(l.all id)
 |[],i=>rfl
 |b::r,i=>by
  cases b with
  |false=>simp [K2]
  |true=>simpa [K2] using LL r (i+1)
def ixS (l:List Bool):List Value→Option (Bool × Value)
 |[.bool false]=>some (decide (l.length≤1000000),iv (K2 l 0))
 |_=>none
theorem aDh {l:List Bool}{r:List Value}{v:Value}(hs:ixS l r=some (true,v)):r=[.bool false]∧l.length≤1000000∧v=iv (K2 l 0):=by
 unfold ixS at hs;split at hs
 ·injection hs with hs;injection hs with h1 h2;exact⟨rfl,by simpa using h1,h2.symm⟩
 ·cases hs
def XC (l:List Bool)(c:Nat)(j:Int):List (Nat × Value):=[(0,.slice (some ⟨0,0,none⟩) l.length c),(1,.bool false),(7,iv l.length),(8,iv j)]
def hBo (l:List Bool):Heap:=[(0,.cells false true 1 (flat lU.fl l))]
def aBc:Nat × XF:=(170,lX lU ixS)
theorem aHu:dK Go.Proofs.Tryz.prog aBc.1 aBc.2:=UY lU (aR (xl:=[]) .nil) fun l r v hs=>by
 obtain⟨rfl,hlen,rfl⟩:=aDh hs;refine⟨rfl,rfl,fun c=>?_⟩;(conv=>whnf);refine⟨fun q e h nx=>∃ (i:Nat) (j:Int),j=i∧i≤l.length∧q=l.length - i∧K2 l 0=K2 (l.drop i) i∧e=XC l c j∧h=hBo l∧nx=1,⟨l.length,?_⟩,?_⟩
 ·refine c8 (e0:=XC l c 0) (h0:=hBo l) (n0:=1) ⟨0,0,rfl,Nat.zero_le _,rfl,rfl,rfl,rfl,rfl⟩ ?_ ?_ (by decide)
  ·unfold XC;((repeat' refine iE rfl rfl ?_);exact iN)
  ·unfold hBo;((repeat'(first|refine iF rfl rfl ?_|refine iC rfl rfl rfl ?_|refine iJ rfl rfl rfl rfl ?_));exact iN)
 ·rintro q e h nx ⟨i,j,hj,hi,rfl,hb,rfl,rfl,rfl⟩;unfold XC hBo;((conv=>whnf);refine bm (fun h1=>?_) (fun h1=>?_))
  ·have hlt:i<l.length:=(by simp [aA,aG] at h1;omega);have hd:l.drop i=cM l i::l.drop (i+1):=(by rw [qQ hlt];exact List.drop_eq_getElem_cons hlt);rw [hd,K2] at hb;((conv=>whnf);refine bm (fun h2=>?_) (fun h2=>?_))
   ·(conv=>whnf);refine lD (aC6 l (i:=i) hlt ?_) ?_
    ·show _+Int.toNat j*1=_;omega
    ((conv=>whnf);refine bm (fun h3=>?_) (fun h3=>?_))
    ·have h3:cM l i=false:=(by simpa [aA,aG] using h3);(conv=>whnf);rw [hb,if_pos h3,hj]
    ·have h3:¬ cM l i=false:=(by simpa [aA,aG] using h3);((conv=>whnf);refine bm (fun h4=>?_) (fun h4=>?_))
     ·(conv=>whnf);refine⟨l.length - (i+1),by omega,?_⟩;refine c8 (e0:=XC l c (j+1)) (h0:=hBo l) (n0:=1) ⟨i+1,j+1,by omega,hlt,rfl,by rw [hb,if_neg h3],rfl,rfl,rfl⟩ ?_ ?_ (by decide)
      ·unfold XC;((repeat' refine iE rfl rfl ?_);exact iN)
      ·unfold hBo;((repeat'(first|refine iF rfl rfl ?_|refine iC rfl rfl rfl ?_|refine iJ rfl rfl rfl rfl ?_));exact iN)
     ·exfalso;simp [aA,aG,aK] at h4;omega
   ·exfalso;simp [aA,aG] at h2;omega
  ·have hge:l.length≤i:=(by simp [aA,aG] at h1;omega);(conv=>whnf);rw [hb,List.drop_eq_nil_of_le hge];rfl
def ctS (l:List Bool):List Value→Option (Bool × Value)
 |[.bool false]=>some (decide (l.length≤1000000),.bool (!(l.all id)))
 |_=>none
theorem aDf {l:List Bool}{r:List Value}{v:Value}(hs:ctS l r=some (true,v)):r=[.bool false]∧l.length≤1000000∧v=.bool (!(l.all id)):=by
 unfold ctS at hs;split at hs
 ·injection hs with hs;injection hs with h1 h2;exact⟨rfl,by simpa using h1,h2.symm⟩
 ·cases hs
def RY:Nat × XF:=(142,lX lU ctS)
theorem aED:dK Go.Proofs.Tryz.prog RY.1 RY.2:=UY lU (aR (xl:=[aBc]) (.cons aHu .nil)) fun l r v hs=>by
 obtain⟨rfl,hlen,rfl⟩:=aDf hs;refine⟨rfl,rfl,fun c=>?_⟩;(conv=>whnf);refine⟨l,bJ lU rfl,?_⟩;((conv=>whnf);refine bm (fun h1=>?_) (fun h1=>?_))
 ·(conv=>whnf);rw [← LL l 0];rfl
 ·exact absurd hlen (by simpa using h1)
theorem KV (n:Nat):rep n [.bool false]=flat lU.fl (List.replicate n false):=by
 induction n with
 |zero=>rfl
 |succ n ih=>simp only [List.replicate_succ,flat,← ih];rfl
theorem aGl (n:Nat):rep n [iv 0]=flat aU.fl (List.replicate n 0):=by
 induction n with
 |zero=>rfl
 |succ n ih=>simp only [List.replicate_succ,flat,← ih];rfl
theorem wM (a b:Pt):fP a b=decide (jS a b<0):=by
 unfold fP jS XS gH;by_cases h1:a.1<b.1
 ·simp [h1]
 ·by_cases h2:b.1<a.1
  ·have h3:¬ a.1=b.1:=(by omega);simp [h1,h2,h3]
  ·have h3:a.1=b.1:=(by omega);simp only [h1,h2,if_false,h3];by_cases h4:a.2<b.2 <;> by_cases h5:b.2<a.2 <;> simp [h4,h5]
theorem UP (d e:Ed):bfE d e=decide (XS (gH d.a e.a) (gH d.b e.b)<0):=wM (d.a,d.b) (e.a,e.b)
end Go.Aw
end
