/-
  Parts of a proof. No condition.
-/
import Derived.Test.YticajjhjehljpaaGreatQAh
set_option linter.unusedSimpArgs false
set_option linter.unusedVariables false
noncomputable section
namespace Go.Aw
open Go.RowKit
theorem aCs {a0 b0 a b:Value}{n:Int}{r:List Value}(hr:fN r=true){h0 h:Heap}{n0 nx:Nat}(i:In [a0,b0] h0 n0 [a,b] h nx)(ha:∃ x y z,a0=.slice x y z)(hb:∃ x y z,b0=.slice x y z) :
  In (.agg #[a0,b0,.int .i64 n]::r) h0 n0 (.agg #[a,b,.int .i64 n]::r) h nx:=by
 intro ι B w H hs;have hag:kU ι nx (.agg #[a,b,.int .i64 n]):=hs _ (.head _);have sa:gP ι nx a:=hag a (by simp);have sb:gP ι nx b:=hag b (by simp);obtain⟨ι0,e1,e2,e3⟩:=i ι B w H (fun v hv=>by
  simp only [List.mem_cons,List.not_mem_nil,or_false] at hv;rcases hv with rfl|rfl
  ·exact lW (fZ sa)
  exact lW (fZ sb))
 simp only [List.map_cons,List.map_nil,List.cons.injEq,and_true] at e1;obtain⟨x,y,z,rfl⟩:=ha;obtain⟨x',y',z',rfl⟩:=hb;have t1:tr ι a=bO ι a:=(by rw [u7 (fZ sa),yY sa]);have t2:tr ι b=bO ι b:=(by rw [u7 (fZ sb),yY sb]);refine⟨ι0,?_,?_,e3⟩
 ·rw [List.map_cons,List.map_cons];congr 1
  ·show Value.agg (Array.map (bO ι) #[a,b,.int .i64 n])=Value.agg (Array.map (bO ι0) #[_,_,.int .i64 n]);simp only [List.map_toArray,List.map_cons,List.map_nil];rw [← t1,← t2,e1.1,e1.2];rfl
  exact List.map_congr_left fun v hv=>by rw [gU (cA hr hv),gU (cA hr hv)]
 intro v hv;cases hv with
 |head =>
  intro u hu;simp only [List.mem_cons,List.not_mem_nil,or_false] at hu;rcases hu with rfl|rfl|rfl
  ·exact e2 _ (.head _)
  ·exact e2 _ (.tail _ (.head _))
  exact bY rfl
 |tail _ hm=>exact bU (cA hr hm)
section
variable {α β:Type}(E:El α)(G:El β)
def l8 (n m:Nat)(c1 c2:Nat)(k:Int):Value:=.agg #[.slice (some ⟨0,0,none⟩) n c1,.slice (some ⟨1,0,none⟩) m c2,.int .i64 k]
def bR (l:List α)(m:List β):Heap:=[(0,.cells false true E.sz (flat E.fl l)),(1,.cells false true G.sz (flat G.fl m))]
def mX (s:List α→List β→Int→List Value→Option (Bool × Value)):XF:=fun args h nx K=>match args with
 |.agg ⟨[p,q,.int .i64 n]⟩::r=>∃ l m,oM E h p l∧oM G h q m∧(match s l m n r with|some pr=>dT pr.1 (K pr.2 h nx)|none=>False)
 |_=>False
theorem aD2 {p q:Value}{n:Int}{r:List Value}(hr:fN r=true){h:Heap}{nx:Nat}{l:List α}{m:List β}(hl:oM E h p l)(hm:oM G h q m) :
  ∃ c1 c2,In (l8 l.length m.length c1 c2 n::r) (bR E G l m) 2 (.agg #[p,q,.int .i64 n]::r) h nx:=by
 obtain⟨c1,i1⟩:=aHH (nx:=nx) E hl;obtain⟨c2,i2⟩:=aHH (nx:=nx) G hm;exact⟨c1,c2,aCs hr (aAI rfl rfl i1 i2 ⟨_,_,rfl,aC E l⟩ ⟨_,_,rfl,aC G m⟩) ⟨_,_,_,rfl⟩ ⟨_,_,_,rfl⟩⟩
theorem OG {P:Program}{C:VC}{f:Nat}{s:List α→List β→Int→List Value→Option (Bool × Value)}(hC:bC P C)
  (hs:∀ l m n r v,s l m n r=some (true,v)→fN r=true∧gT v=true∧∀ c1 c2,C f (l8 l.length m.length c1 c2 n::r) (bR E G l m) 2 (fun u _ _=>u=v)):dJ P f (mX E G s):=by
 refine (jD (S:=fun args0 h0 n0 v1 h1 k=>∃ l m n r c1 c2,s l m n r=some (true,v1)∧args0=l8 l.length m.length c1 c2 n::r∧h0=bR E G l m∧n0=2∧h1=[]∧k=0) hC ?_).mono ?_ ?_
 ·rintro args0 h0 n0 v1 h1 k ⟨l,m,n,r,c1,c2,e1,rfl,rfl,rfl,rfl,rfl⟩;obtain⟨a1,a2,a3⟩:=hs l m n r v1 e1;exact⟨rfl,_,a3 c1 c2,fun v h nx e=>by rw [e];exact lJ a2⟩
 ·intro args h nx K hx;unfold mX at hx;split at hx
  case h_2=>exact hx.elim
  rename_i p q n r;obtain⟨l,m,hl,hm,hx⟩:=hx;split at hx
  case h_2=>exact hx.elim
  rename_i pr e1;obtain⟨bb,u⟩:=pr;obtain⟨rfl,hx⟩:=aD.1 hx;obtain⟨a1,a2,a3⟩:=hs l m n r u e1;obtain⟨c1,c2,i⟩:=aD2 (n:=n) (nx:=nx) E G a1 hl hm;refine⟨_,_,2,u,[],0,⟨l,m,n,r,c1,c2,e1,rfl,rfl,rfl,rfl,rfl⟩,i,?_⟩;simp only [rZ,zL,oP,o5,iQ a2,Nat.add_zero];exact hx
 intro args h nx K hx;unfold mX at hx;split at hx
 case h_2=>exact hx.elim
 rename_i p q n r;obtain⟨l,m,hl,hm,hx⟩:=hx;split at hx
 case h_2=>exact hx.elim
 rename_i pr e1;obtain⟨hb,hx⟩:=aD.1 hx;exact⟨pr.2,h,nx,hx,fun K' hk=>⟨l,m,hl,hm,by rw [e1];exact aJ hb hk⟩⟩
end
theorem aB2 {n sz:Nat}{wr g:Bool}{cs:List Value}(h:∀ v∈cs,bJ id v=v∧CC n v):bT id n (.cells wr g sz cs) (.cells wr g sz cs) :=
 ⟨rfl,rfl,rfl,(by conv=>lhs;rw [← List.map_id cs]
                  exact List.map_congr_left fun v hv=>(h v hv).1.symm),fun v hv=>(h v hv).2⟩
section
variable {α β γ δ:Type}(E:El α)(G:El β)(J:El γ)(D:El δ)
def mapA (p q:Value)(n:Int):Value:=.agg #[p,q,.int .i64 n]
def wrW:List Value→Value→Value
 |[],v=>v
 |a::r,v=>.agg (v::a::r).toArray
theorem W2 {ρ:Nat→Nat}{rest:List Value}(hr:dL rest=true){k n c:Nat}:fL ρ (wrW rest (.slice (some ⟨k,0,none⟩) n c))=wrW rest (.slice (some ⟨ρ k,0,none⟩) n c):=by
 cases rest with
 |nil=>simp [wrW,fL,tr,dW,bO,dY,jR]
 |cons a r =>
  show Value.agg (Array.map (bO (jR ρ)) (_::a::r).toArray)=Value.agg (_::a::r).toArray;rw [List.map_toArray,List.map_cons];congr 2;rw [List.cons.injEq];refine⟨by simp [bO,dY,jR],?_⟩
  conv=>rhs;rw [← List.map_id (a::r)]
  exact List.map_congr_left fun v hv=>nU (aT hr hv)
theorem aJd {rest:List Value}(hr:dL rest=true){n c:Nat}:x6 1 (wrW rest (.slice (some ⟨0,0,none⟩) n c)):=by
 cases rest with
 |nil=>exact⟨Nat.one_pos,fun h=>by cases h⟩
 |cons a r =>
  intro v hv;rcases List.mem_cons.1 hv with rfl|hv
  ·exact⟨Nat.one_pos,fun h=>by cases h⟩
  exact bY (aT hr hv)
def ylH (out:List δ):Heap:=[(0,.cells true false D.sz (flat D.fl out))]
def ylV (out:List δ)(rest:List Value)(k:Nat):Value:=wrW rest (.slice (some ⟨k,0,none⟩) out.length out.length)
def YW (out:List δ)(rest:List Value):KE:=fun v h _=>∃ q,v=ylV out rest q∧look h q=some (.cells true false D.sz (flat D.fl out))
theorem aJB {out:List δ}{rest:List Value}(hr:dL rest=true){v:Value}{h:Heap}{nx:Nat}(hy:YW D out rest v h nx):L5 (ylV out rest 0) (ylH D out) 1 v h nx:=by
 obtain⟨q,rfl,hq⟩:=hy;refine⟨fun _=>q,fun t v hv=>?_,fun k o hk=>?_,fun k k' o o' hk hk' _=>?_,fun k hk=>absurd hk (Nat.not_lt_zero _),Nat.zero_le _⟩
 ·rw [aB] at hv;split at hv
  ·rename_i hb;injection hv with hv;subst hv;refine⟨?_,aJd hr⟩;rw [aB,hb];show _=some (fL (fun _=>q) (wrW rest (.slice (some ⟨0,0,none⟩) out.length out.length)));rw [W2 hr];rfl
  exact bZ hv
 ·unfold ylH at hk;rw [aB] at hk;split at hk
  ·rename_i hb;injection hk with hk;subst hk;rw [← beq_true hb];exact⟨Nat.one_pos,_,hq,rfl,rfl,rfl,(a8 (aC D out)).symm,fun v hv=>bY (aT (aC D out) hv)⟩
  exact bZ hk
 unfold ylH at hk hk';rw [aB] at hk hk';split at hk
 ·rename_i h1;split at hk'
  ·rename_i h2;exact (beq_true h1).symm.trans (beq_true h2)
  exact bZ hk'
 exact bZ hk
theorem aLX {out:List δ}{rest:List Value}(hr:dL rest=true){h:Heap}{nx:Nat}{K:KE}(hk:K (ylV out rest nx) (cU h nx (.cells true false D.sz (flat D.fl out))) (nx+1)) :
  K (fL (fun k=>nx+k) (ylV out rest 0)) (app (oP nx (ylH D out)) (rZ (ylH D out) h)) (nx+1):=by
 have hm:(flat D.fl out).map (bJ (fun k=>nx+k))=flat D.fl out:=a8 (aC D _);have e1:fL (fun k=>nx+k) (ylV out rest 0)=ylV out rest nx:=W2 hr;have e2:app (oP nx (ylH D out)) (rZ (ylH D out) h)=cU h nx (.cells true false D.sz (flat D.fl out)):=by
  show (nx+0,bH.cells true false D.sz ((flat D.fl out).map (bJ (fun k=>nx+k))))::h=_;rw [hm];rfl
 rw [e1,e2];exact hk
abbrev YS (δ:Type):=Option (Bool × List δ × List Value)
end
section
variable {ρ:Nat→Nat}{n0 k:Nat}{h:Heap}{o o':bH}{r:List (Nat × bH)}{wr g:Bool}{sz:Nat}{cs:List Value}
theorem iN {α:Type}{P:α→Prop}:∀ p∈([]:List α),P p:=fun _ h=>by cases h
theorem iE {e:List (Nat × Value)}{v:Value}{s:List (Nat × Value)}(h1:look e k=some (fL ρ v))(h2:aDJ n0 v=true)(h3:∀ p∈s,look e p.1=some (fL ρ p.2)∧x6 n0 p.2):∀ p∈(k,v)::s,look e p.1=some (fL ρ p.2)∧x6 n0 p.2 :=
 List.forall_mem_cons.2 ⟨⟨h1,gO h2⟩,h3⟩
theorem iW (h1:Nat.ble (k+1) n0=true)(h2:look h (ρ k)=some o')(h4:bT ρ n0 o o')(h3:∀ p∈r,p.1<n0∧∃ o',look h (ρ p.1)=some o'∧bT ρ n0 p.2 o'):∀ p∈(k,o)::r,p.1<n0∧∃ o',look h (ρ p.1)=some o'∧bT ρ n0 p.2 o' :=
 List.forall_mem_cons.2 ⟨⟨Nat.le_of_ble_eq_true h1,_,h2,h4⟩,h3⟩
theorem iG (h1:Nat.ble (k+1) n0=true)(h2:look h (ρ k)=some (.cells wr g sz cs))(h4:dL cs=true)(h3:∀ p∈r,p.1<n0∧∃ o',look h (ρ p.1)=some o'∧bT ρ n0 p.2 o'):∀ p∈(k,.cells wr g sz cs)::r,p.1<n0∧∃ o',look h (ρ p.1)=some o'∧bT ρ n0 p.2 o' :=
 iW h1 h2 (aG h4) h3
theorem iF {α:Type}{E:El α}{l:List α}(h1:Nat.ble (k+1) n0=true)(h2:look h (ρ k)=some (.cells wr g sz (flat E.fl l)))(h3:∀ p∈r,p.1<n0∧∃ o',look h (ρ p.1)=some o'∧bT ρ n0 p.2 o'):∀ p∈(k,.cells wr g sz (flat E.fl l))::r,p.1<n0∧∃ o',look h (ρ p.1)=some o'∧bT ρ n0 p.2 o' :=
 iG h1 h2 (aC E l) h3
theorem iC (h1:Nat.ble (k+1) n0=true)(h2:look h (ρ k)=some (.cells wr g sz (cs.map (bJ ρ))))(h4:TI n0 cs=true)(h3:∀ p∈r,p.1<n0∧∃ o',look h (ρ p.1)=some o'∧bT ρ n0 p.2 o'):∀ p∈(k,.cells wr g sz cs)::r,p.1<n0∧∃ o',look h (ρ p.1)=some o'∧bT ρ n0 p.2 o' :=
 iW h1 h2 ⟨rfl,rfl,rfl,rfl,cY h4⟩ h3
theorem iJ {cs':List Value}(h1:Nat.ble (k+1) n0=true)(h2:look h (ρ k)=some (.cells wr g sz cs'))(h4:dL cs=true)(h5:cs'=cs)(h3:∀ p∈r,p.1<n0∧∃ o',look h (ρ p.1)=some o'∧bT ρ n0 p.2 o'):∀ p∈(k,.cells wr g sz cs)::r,p.1<n0∧∃ o',look h (ρ p.1)=some o'∧bT ρ n0 p.2 o' :=
 iW h1 h2 (bW h4 h5) h3
theorem iK {k0 q:Nat}(h1:(Nat.beq k k0 || !Nat.beq k q)=true)(h3:∀ p∈r,p.1≠k0→p.1≠q):∀ p∈(k,o)::r,p.1≠k0→p.1≠q :=
 List.forall_mem_cons.2 ⟨fun hk e=>by
  simp only [Bool.or_eq_true,Bool.not_eq_true'] at h1;rcases h1 with h1|h1
  ·exact hk (beq_true h1)
  exact beq_false h1 e,h3⟩
end
set_option maxRecDepth 100000
def aCK (s:Sg):List Value:=[iv s.1.1,iv s.1.2,iv s.2.1,iv s.2.2]
def hE (s t:Sg)(ps:List (Int × Int)):Heap:=[(0,.cells true false 1 (aCK s)),(1,.cells true false 1 (aCK t)),(2,.cells true false 2 (flat dC.fl ps))]
def iO (s t:Sg):Int:=if dR s=true∧dR t=true then fR s t else 0
def X22:Nat × XF:=(115,gX (s2 cS cS fun s t=>(true,u8 (iO s t))))
theorem x22:dJ Go.Proofs.Tryz.prog X22.1 X22.2:=x2 cS cS (xl:=[X64,X68]) (.cons x64 (.cons x68 .nil)) (fun _ _=>rfl) fun s t _=>by
 obtain⟨⟨ax,ay⟩,⟨bx,b2⟩⟩:=s;obtain⟨⟨cx,cy⟩,⟨dx,dy⟩⟩:=t;unfold eR
 repeat' ((conv=>whnf);apply bm<;>intro g)
 all_goals (conv=>whnf)
 all_goals (simp only [NQ,MH,Z1,Bool.not_eq_true',Bool.not_eq_false',beq_iff_eq,beq_eq_false_iff_ne,ne_eq,Bool.not_eq_false,Bool.not_eq_true] at *)
 all_goals first
  |(show u8 _=u8 _;simp [iO, *];done)
  |(simp_all [CL];done)
  |trace_state
def aK7:Nat × XF:=(109,gX (s2 cP cP fun a b=>(true,iv (jK a b))))
theorem aLh:dJ Go.Proofs.Tryz.prog aK7.1 aK7.2:=x2 cP cP (xl:=[PZ,aBe]) (.cons SS (.cons aIh .nil)) (fun _ _=>rfl) fun a b _=>by
 obtain⟨ax,ay⟩:=a;obtain⟨bx,b_y⟩:=b;unfold eR
 conv=>whnf
 refine⟨[gB ax bx,gB ay b_y],⟨rfl,_,_,_,_,rfl,rfl⟩,?_⟩
 conv=>whnf
 rfl
section
variable {α β γ δ:Type}(a:Cd α)(b:Cd β)(c:Cd γ)(d:Cd δ)
def s4 (F:α→β→γ→δ→Bool × Value):List Value→Option (Bool × Value)
 |[u,v,w,t]=>(match a.dec u with|some x=>(match b.dec v with|some y=>(match c.dec w with|some z=>(match d.dec t with|some s=>some (F x y z s)|none=>none)|none=>none)|none=>none)|none=>none)
 |_=>none
theorem aIw {F:α→β→γ→δ→Bool × Value}{args:List Value}{r:Bool × Value}(h:s4 a b c d F args=some r):∃ x y z s,args=[a.enc x,b.enc y,c.enc z,d.enc s]∧F x y z s=r:=by
 unfold s4 at h;split at h
 ·split at h
  ·rename_i x e;split at h
   ·rename_i y e2;split at h
    ·rename_i z e3;split at h
     ·rename_i s e4;injection h with h;exact⟨x,y,z,s,by rw [a.ok _ _ e,b.ok _ _ e2,c.ok _ _ e3,d.ok _ _ e4],h⟩
     ·cases h
    ·cases h
   ·cases h
  ·cases h
 ·cases h
theorem x4' {xl:List (Nat × XF)}(hx:kG xl){f:Nat}{F:α→β→γ→δ→Bool × Value}(hg:∀ x y z s,gT (F x y z s).2=true)(h:∀ x y z s,(F x y z s).1=true→eR xl f [a.enc x,b.enc y,c.enc z,d.enc s] (F x y z s).2):dJ Go.Proofs.Tryz.prog f (gX (s4 a b c d F)) :=
 vW (aK hx) fun args v hs=>by
  obtain⟨x,y,z,s,rfl,e⟩:=aIw a b c d hs;have h1:(F x y z s).1=true:=(by rw [e]);have h2:(F x y z s).2=v:=(by rw [e]);subst h2;exact⟨by simp [fN,a.gr,b.gr,c.gr,d.gr],hg x y z s,h x y z s h1⟩
end
theorem aHB {b:Bool}(h:aA.A.eqB b false=true):b=false:=by cases b <;> first|rfl|cases h
theorem aHt {b:Bool}(h:aA.A.eqB b false=false):b=true:=by cases b <;> first|rfl|cases h
def mxI (a b:Int):Int:=if b > a then b else a
def mnI (a b:Int):Int:=if b<a then b else a
def apI (a b c d:Int):Bool:=decide (mxI a b<mnI c d) || decide (mxI c d<mnI a b)
def aJg:Nat × XF:=(149,gX (s4 cI cI cI cI fun a b c d=>(true,.bool (apI a b c d))))
theorem aNa:dJ Go.Proofs.Tryz.prog aJg.1 aJg.2:=x4' cI cI cI cI (xl:=[]) .nil (fun _ _ _ _=>rfl) fun a b c d _=>by
 unfold eR
 repeat' (conv=>whnf
          apply bm<;>intro h)
 all_goals (conv=>whnf)
 all_goals (show _=Value.bool (apI a b c d))
 ·have h1:decide (mxI a b<mnI c d)=false:=aHB h;unfold apI;rw [h1];rfl
 have h1:decide (mxI a b<mnI c d)=true:=aHt h;unfold apI;rw [h1];rfl
def oF (s t:Sg):Bool:=apI s.1.1 s.2.1 t.1.1 t.2.1 || apI s.1.2 s.2.2 t.1.2 t.2.2
def aDs:Nat × XF:=(90,gX (s2 cS cS fun s t=>(true,.bool (oF s t))))
theorem aLm:dJ Go.Proofs.Tryz.prog aDs.1 aDs.2:=x2 cS cS (xl:=[aJg]) (.cons aNa .nil) (fun _ _=>rfl) fun s t _=>by
 obtain⟨⟨ax,ay⟩,⟨bx,b2⟩⟩:=s;obtain⟨⟨cx,cy⟩,⟨dx,dy⟩⟩:=t;unfold eR
 repeat' (conv=>whnf
          apply bm<;>intro h)
 all_goals (conv=>whnf)
 ·have h1:apI ax bx cx dx=false:=aHB h;show _=Value.bool (oF _ _);unfold oF;rw [h1];rfl
 have h1:apI ax bx cx dx=true:=aHt h;show _=Value.bool (oF _ _);unfold oF;rw [h1];rfl
def ID (s t:Sg):Int:=if oF s t=true then 0 else iO s t
def VF:Nat × XF:=(67,gX (s2 cS cS fun s t=>(true,u8 (ID s t))))
theorem aHM:dJ Go.Proofs.Tryz.prog VF.1 VF.2:=x2 cS cS (xl:=[aDs,X22]) (.cons aLm (.cons x22 .nil)) (fun _ _=>rfl) fun s t _=>by
 obtain⟨⟨ax,ay⟩,⟨bx,b2⟩⟩:=s;obtain⟨⟨cx,cy⟩,⟨dx,dy⟩⟩:=t;unfold eR
 repeat' (conv=>whnf
          apply bm<;>intro h)
 all_goals (conv=>whnf)
 ·have h1:oF ((ax,ay),(bx,b2)) ((cx,cy),(dx,dy))=true:=h;show _=u8 _;simp only [ID,h1,if_true];rfl
 have h1:oF ((ax,ay),(bx,b2)) ((cx,cy),(dx,dy))=false:=h;show _=u8 _;simp only [ID,h1];rfl
def fJ (a b:Int × Int):Bool:=decide (a.1<b.1) || (decide (a.1=b.1)&&decide (a.2<b.2))
def aMU (a b c:Int × Int):Int:=(b.1 - a.1)*(c.1 - a.1)+(b.2 - a.2)*(c.2 - a.2)
def QP (v u w:Int × Int):Int:=if aL v u w<0 then 0 else if 0<aL v u w then 2 else if aMU v u w<0 then 1 else 3
def CK (v u w x:Int × Int):Bool:=if QP v u w=QP v u x then decide (aL v w x<0) else decide (QP v u w<QP v u x)
abbrev Pt:=Int × Int
structure Ed where
 a:Int
 b:Int
 l:Int
 r:Int
 n:Int
def dP:El Ed:=⟨fun e=>[iv e.a,iv e.b,iv e.l,iv e.r,iv e.n],5,fun _=>rfl,fun _=>rfl,by decide⟩
def cN (m:List Ed)(i:Nat):Ed:=m.getD i ⟨0,0,0,0,0⟩
theorem NF {m:List Ed}{i:Nat}(h:i<m.length):cN m i=m[i]:=by
 unfold cN;rw [List.getD_eq_getElem?_getD,List.getElem?_eq_getElem h];rfl
theorem ZI (m:List Ed){i o:Nat}(hi:i<m.length)(ho:o=i*5):oK (flat dP.fl m) o 5=some [iv (cN m i).a,iv (cN m i).b,iv (cN m i).l,iv (cN m i).r,iv (cN m i).n]:=by
 rw [NF hi];exact zE dP m hi ho
theorem aA0 (m:List Ed)(k:Nat){i o:Nat}{v:Value}(hi:i<m.length)(hk:(dP.fl (cN m i))[k]? = some v)(hk5:k<5)(ho:o=i*5+k):nth (flat dP.fl m) o=some v:=by
 rw [NF hi] at hk;exact lY dP m hi hk hk5 ho
theorem vY (l:List Pt){i o:Nat}(hi:i<l.length)(ho:o=i*2):oK (flat dC.fl l) o 2=some [iv (mL l i).1,iv (mL l i).2]:=by
 rw [E5 hi];exact zE dC l hi ho
theorem bF {α:Type}(E:El α){l:List α}{k c:Nat}{wr g:Bool}{sz:Nat}{h:Heap}(hk:look h k=some (.cells wr g sz (flat E.fl l))):oM E h (.slice (some ⟨k,0,none⟩) l.length c) l :=
 ⟨rfl,wr,g,sz,_,hk,by rw [List.drop_zero,List.take_length]⟩
def lS (m:List Ed)(d:Int):Int:=if d % 2=0 then (cN m (d / 2).toNat).a else (cN m (d / 2).toNat).b
def AF (m:List Ed)(d:Int):Int:=lS m (d+1 - 2*(d % 2))
abbrev MS:=List Pt→List Ed→Int→List Value→Option (Bool × Value)
def sMD (F:List Pt→List Ed→Int→Int→Bool × Value):MS:=fun l m n r=>match r with
 |[.int .i64 d]=>some (F l m n d)
 |_=>none
theorem aGs {F:List Pt→List Ed→Int→Int→Bool × Value}{l:List Pt}{m:List Ed}{n:Int}{r:List Value}{v:Value}(h:sMD F l m n r=some (true,v)):∃ d,r=[iv d]∧(F l m n d).1=true∧(F l m n d).2=v:=by
 unfold sMD at h;split at h
 ·rename_i d;injection h with h;exact⟨d,rfl,by rw [h],by rw [h]⟩
 ·cases h
def pP:El Bool:=⟨fun b=>[.bool b],1,fun _=>rfl,fun _=>rfl,by decide⟩
def cV (k:List Bool)(i:Nat):Bool:=k.getD i false
theorem tB {k:List Bool}{i:Nat}(h:i<k.length):cV k i=k[i]:=by
 unfold cV;rw [List.getD_eq_getElem?_getD,List.getElem?_eq_getElem h];rfl
theorem aI3 (k:List Bool){i o:Nat}(hi:i<k.length)(ho:o=i*1):nth (flat pP.fl k) o=some (.bool (cV k i)):=by
 rw [tB hi];exact lY pP k hi (k:=0) rfl Nat.one_pos (by rw [ho];rfl)
def kA (l:List Pt)(i:Int):Pt:=mL l i.toNat
def F7 (l:List Pt)(m:List Ed):Bool:=l.all wide&&m.all (fun e=>decide (0≤e.a)&&decide (e.a<l.length)&&decide (0≤e.b)&&decide (e.b<l.length))&&decide (m.length≤1000)&&decide (l.length≤1000)
theorem tO {l:List Pt}{m:List Ed}(h:F7 l m=true){i:Nat}(hi:i<m.length):0≤(cN m i).a∧(cN m i).a<l.length∧0≤(cN m i).b∧(cN m i).b<l.length:=by
 simp only [F7,Bool.and_eq_true] at h;have:=List.all_eq_true.1 h.1.1.2 _ (List.getElem_mem hi);rw [NF hi];simp only [Bool.and_eq_true,decide_eq_true_eq] at this;omega
def rY (l:List Pt)(m:List Ed)(k:List Bool)(d:Int):Nat→Int
 |0=>-1
 |j+1=>if (cV k j=true∧lS m j=AF m d)∧(rY l m k d j<0∨CK (kA l (AF m d)) (kA l (lS m d)) (kA l (AF m j)) (kA l (AF m (rY l m k d j)))=true) then j else rY l m k d j
theorem aOd {l:List Pt}{m:List Ed}{k:List Bool}{d:Int}{j:Nat}(h:¬ ((cV k j=true∧lS m j=AF m d)∧(rY l m k d j<0∨CK (kA l (AF m d)) (kA l (lS m d)) (kA l (AF m j)) (kA l (AF m (rY l m k d j)))=true))):rY l m k d (j+1)=rY l m k d j:=by
 conv=>lhs;unfold rY
 exact if_neg h
theorem aMY {l:List Pt}{m:List Ed}{k:List Bool}{d:Int}{j:Nat}(h:((cV k j=true∧lS m j=AF m d)∧(rY l m k d j<0∨CK (kA l (AF m d)) (kA l (lS m d)) (kA l (AF m j)) (kA l (AF m (rY l m k d j)))=true))):rY l m k d (j+1)=j:=by
 conv=>lhs;unfold rY
 exact if_pos h
def mY (a b:Nat)(c1 c2:Nat)(n:Int):bH:=.cells true false 1 [.slice (some ⟨0,0,none⟩) a c1,.slice (some ⟨1,0,none⟩) b c2,iv n]
def aE (k:List Int)(i:Nat):Int:=k.getD i 0
theorem bX {k:List Int}{i:Nat}(h:i<k.length):aE k i=k[i]:=by
 unfold aE;rw [List.getD_eq_getElem?_getD,List.getElem?_eq_getElem h];rfl
theorem iY (k:List Int){i o:Nat}(hi:i<k.length)(ho:o=i*1):nth (flat aR.fl k) o=some (iv (aE k i)):=by
 rw [bX hi];exact lY aR k hi (k:=0) rfl Nat.one_pos (by rw [ho];rfl)
def aHr (l:List Pt)(m:List Ed)(d:Int):Int:=(kA l (lS m d)).1*(kA l (AF m d)).2 - (kA l (AF m d)).1*(kA l (lS m d)).2
def WG (l:List Pt)(m:List Ed)(k:List Int):Nat→Int
 |0=>0
 |i+1=>WG l m k i+aHr l m (aE k i)
theorem nQ {α:Type}(E:El α)(o:List α)(x:α){n:Nat}(hn:n=o.length):((flat E.fl o).drop 0).take (n*E.sz)++E.fl x=flat E.fl (o++[x]):=by
 subst hn;rw [List.drop_zero,← cJ E o,List.take_length,CO];simp [flat]
theorem xY {i N s:Nat}{p:Prop}(hN:N=i*s)(hi:i+1≤1000000000)
  (h:aA.A.andB (aA.A.andB ((i+1).ble 1000000000) ((0+i*s).ble N)) (aA.A.andB ((0+i*s).beq N) (Nat.beq s s))=false):p:=by
 exfalso;have h1:(i+1).ble 1000000000=true:=Nat.ble_eq_true_of_le hi;have h2:(0+i*s).ble N=true:=Nat.ble_eq_true_of_le (by omega);have h3:(0+i*s).beq N=true:=(by rw [hN,Nat.zero_add];exact Nat.beq_refl _);rw [h1,h2,h3,Nat.beq_refl] at h;cases h
def aAd (f:Int→Int)(d:Int):Nat→Int
 |0=>f d
 |i+1=>f (aAd f d i)
def QG (f:Int→Int)(d:Int)(N i:Nat):Bool:=(!decide (aAd f d i=d))&&(decide (0≤aAd f d i)&&decide (i≤N))
def aA8 (f:Int→Int)(d:Int)(N:Nat):Nat→Nat→Nat
 |0,i=>i
 |k+1,i=>if QG f d N i=true then aA8 f d N k (i+1) else i
def aLM (f:Int→Int)(d:Int)(i:Nat):List Int:=d::(List.range i).map (aAd f d)
def aFr (l:List Pt)(m:List Ed)(k:List Bool)(d:Int):Int:=rY l m k d (2*m.length)
def R4 (l:List Pt)(m:List Ed)(k:List Bool)(d:Int):List Int:=aLM (aFr l m k) d (aA8 (aFr l m k) d (2*m.length) (2*m.length+2) 0)
def fI (of w:List Int)(face:Int):Nat→List Int
 |0=>of
 |i+1=>(fI of w face i).set (aE w i).toNat face
theorem jJ (of w:List Int)(face:Int):∀ i,(fI of w face i).length=of.length
 |0=>rfl
 |i+1=>by unfold fI;rw [List.length_set];exact jJ of w face i
structure Fst where
 of:List Int
 faces:Int
 outside:Int
 ok:Bool
def RV (l:List Pt)(m:List Ed)(s:Fst)(d:Nat):Fst :=
 if 0≤aE s.of d then s else
  let w:=R4 l m (List.replicate (2*m.length) true) d;let a:=WG l m w w.length;let fc:=if 0<a then s.faces+1 else 0
  ⟨fI s.of w fc w.length,if 0<a then s.faces+1 else s.faces,if a<0 then s.outside+1 else s.outside,if a=0 then false else s.ok⟩
def PY (l:List Pt)(m:List Ed):Nat→Fst
 |0=>⟨List.replicate (2*m.length) (-1),0,0,true⟩
 |d+1=>RV l m (PY l m d) d
def nZ (l:List Pt)(m:List Ed):Fst:=PY l m (2*m.length)
def aIX (s:Fst):Bool:=s.ok&&(decide (s.outside=1)&&decide (1≤s.faces))
theorem M0 (l:List Int):∀ (i:Nat) (v:Int),i<l.length→eY (flat aR.fl l) (i*1) [iv v]=flat aR.fl (l.set i v):=by
 induction l with
 |nil=>intro i v h;cases h
 |cons a r ih =>
  intro i v h;cases i with
  |zero=>rfl
  |succ i =>
   have:=ih i v (by simpa using h);simp only [List.set_cons_succ,flat,← this];have e:(i+1)*1=i*1+1:=(by omega);rw [e];unfold eY;show List.take (i*1+1) (iv a::flat aR.fl r)++_++List.drop (i*1+1+1) (iv a::flat aR.fl r)=_;rfl
theorem EX {of w:List Int}{c:Int}{t o:Nat}(ho:o=(aE w t).toNat*1)(hi:(aE w t).toNat<of.length):eY (flat aR.fl (fI of w c t)) o [iv c]=flat aR.fl (fI of w c (t+1)):=by
 rw [ho,M0 _ _ _ (by rw [jJ];exact hi)];rfl
theorem AN (l:List Bool):∀ (i:Nat) (v:Bool),i<l.length→eY (flat pP.fl l) (i*1) [.bool v]=flat pP.fl (l.set i v):=by
 induction l with
 |nil=>intro i v h;cases h
 |cons a r ih =>
  intro i v h;cases i with
  |zero=>rfl
  |succ i =>
   have:=ih i v (by simpa using h);simp only [List.set_cons_succ,flat,← this];have e:(i+1)*1=i*1+1:=(by omega);rw [e];unfold eY;show List.take (i*1+1) (.bool a::flat pP.fl r)++_++List.drop (i*1+1+1) (.bool a::flat pP.fl r)=_;rfl
def r6 (i:Nat):List Bool:=(List.range i).map fun (t:Nat)=>decide ((t:Int)=0)
theorem HY (i:Nat):(r6 i).length=i:=by simp [r6]
def LO (s:List Bool)(e:Ed):List Bool:=if (cV s e.a.toNat || cV s e.b.toNat)=true then (s.set e.a.toNat true).set e.b.toNat true else s
def pY (m:List Ed)(s:List Bool):Nat→List Bool
 |0=>s
 |i+1=>LO (pY m s i) (cN m i)
def eN (l:List Pt)(m:List Ed):Nat→List Bool
 |0=>r6 l.length
 |i+1=>pY m (eN l m i) m.length
def TN (l:List Pt)(m:List Ed):Bool:=(eN l m l.length).all id
theorem aDk (s:List Bool)(e:Ed):(LO s e).length=s.length:=by
 unfold LO;split <;> simp
theorem tJ (m:List Ed)(s:List Bool):∀ i,(pY m s i).length=s.length
 |0=>rfl
 |i+1=>by unfold pY;rw [aDk];exact tJ m s i
theorem sH (l:List Pt)(m:List Ed):∀ i,(eN l m i).length=l.length
 |0=>HY _
 |i+1=>by unfold eN;rw [tJ];exact sH l m i
theorem aLJ {s:List Bool}{a b o1 o2:Nat}(h1:o1=a*1)(h2:o2=b*1)(ha:a<s.length)(hb:b<s.length):eY (eY (flat pP.fl s) o1 [.bool true]) o2 [.bool true]=flat pP.fl ((s.set a true).set b true):=by
 rw [h1,h2,AN _ _ _ ha,AN _ _ _ (by rw [List.length_set];exact hb)]
theorem mE {x N:Nat}{p:Prop}(h:x.ble N=false)(hx:x≤N):p:=by
 rw [Nat.ble_eq_true_of_le hx] at h;cases h
def AU (l:List Pt)(m:List Ed)(c1 c2:Nat)(n:Int):Heap:=(2,mY l.length m.length c1 c2 n)::bR dC dP l m
def B6 (l:List Pt)(m:List Ed)(c1 c2:Nat)(n:Int)(s:List Bool):Heap:=(3,.cells true false 1 (flat pP.fl s))::AU l m c1 c2 n
def aP (l:List Pt)(m:List Ed)(i:Nat):Sg:=(kA l (cN m i).a,kA l (cN m i).b)
def sgS:MS:=sMD fun l m _ d=>(F7 l m&&(decide (0≤d)&&decide (d<m.length)),sgv (aP l m d.toNat))
def K7:Nat × XF:=(80,mX dC dP sgS)
theorem aFF:dJ Go.Proofs.Tryz.prog K7.1 K7.2:=OG dC dP (aK (xl:=[]) .nil) fun l m n r v hs=>by
 obtain⟨d,rfl,hd,rfl⟩:=aGs hs;clear hs;simp only [Bool.and_eq_true,decide_eq_true_eq] at hd;obtain⟨hM,h0,hd⟩:=hd;have he:=tO hM (i:=d.toNat) (by omega);refine⟨rfl,rfl,fun c1 c2=>?_⟩;((conv=>whnf);apply bm<;>intro h1);rotate_left
 ·exfalso;simp [aA,aF] at h1;omega
 (conv=>whnf);refine kW (aA0 m 0 (i:=d.toNat) (by omega) rfl (by decide) ?_) ?_
 ·show _+Int.toNat d*5+0=_;omega
 ((conv=>whnf);apply bm<;>intro h2);rotate_left
 ·exfalso;simp [aA,aF] at h2;omega
 (conv=>whnf);refine JA (vY l (i:=(cN m d.toNat).a.toNat) (by omega) ?_) ?_
 ·show _+Int.toNat (cN m d.toNat).a*2=_;omega
 ((conv=>whnf);apply bm<;>intro h3)
 ·(conv=>whnf);refine kW (aA0 m 1 (i:=d.toNat) (by omega) rfl (by decide) ?_) ?_
  ·show _+Int.toNat d*5+1=_;omega
  ((conv=>whnf);apply bm<;>intro h4)
  ·(conv=>whnf);refine JA (vY l (i:=(cN m d.toNat).b.toNat) (by omega) ?_) ?_
   ·show _+Int.toNat (cN m d.toNat).b*2=_;omega
   (conv=>whnf);rfl
  exfalso;simp [aA,aF] at h4;omega
 exfalso;simp [aA,aF] at h3;omega
def mW (f:Nat→Bool)(n:Nat):Bool:=(List.range n).all f
theorem lA {f:Nat→Bool}{n i:Nat}(hi:i<n)(h:f i=false):mW f n=false:=by
 unfold mW;rw [List.all_eq_false];exact⟨i,List.mem_range.2 hi,by rw [h];exact Bool.false_ne_true⟩
theorem lD {f:Nat→Bool}{n:Nat}(h:∀ i,i<n→f i=true):mW f n=true:=by
 unfold mW;rw [List.all_eq_true];exact fun i hi=>h i (List.mem_range.1 hi)
theorem dU {f:Nat→Bool}{n i:Nat}(h:mW f n=true)(hi:i<n):f i=true:=List.all_eq_true.1 h i (List.mem_range.2 hi)
def SM (l:List Pt)(i:Nat):Bool:=aI (mL l i)&&(decide (i=0) || fJ (mL l (i - 1)) (mL l i))
def bfE (d e:Ed):Bool:=decide (d.a<e.a) || (decide (d.a=e.a)&&decide (d.b<e.b))
def UJ (l:List Pt)(m:List Ed)(i:Nat):Bool :=
 decide (0≤(cN m i).a)&&decide ((cN m i).a<(cN m i).b)&&decide ((cN m i).b<l.length)&&decide (-1≤(cN m i).n)&&decide ((cN m i).n<200)&&(decide (i=0) || bfE (cN m (i - 1)) (cN m i))
def AD (m:List Ed)(s:List Bool):Nat→List Bool
 |0=>s
 |i+1=>((AD m s i).set (cN m i).a.toNat true).set (cN m i).b.toNat true
theorem EP (m:List Ed)(s:List Bool):∀ i,(AD m s i).length=s.length
 |0=>rfl
 |i+1=>by unfold AD;rw [List.length_set,List.length_set];exact EP m s i
def F6 (l:List Pt)(m:List Ed)(i k:Nat):Bool:=decide (iO (aP l m i) (aP l m k)=0) || decide (iO (aP l m i) (aP l m k)=1)
def szB (l:List Pt)(m:List Ed)(n:Int):Bool:=decide (l.length≤400)&&decide (3≤m.length)&&decide (m.length≤400)&&decide (1≤n)&&decide (n≤100)
def cM (l:List Pt)(m:List Ed)(n:Int):Bool:=szB l m n&&(mW (SM l) l.length&&(mW (UJ l m) m.length&&(AD m (List.replicate l.length false) m.length).all id))
def gW (l:List Pt)(m:List Ed)(n:Int):Bool:=cM l m n&&mW (fun i=>mW (fun k=>F6 l m i k) i) m.length
theorem TP {l:List Pt}{m:List Ed}(hl:l.length≤1000)(hm:m.length≤1000)(h1:∀ i,i<l.length→SM l i=true)(h2:∀ i,i<m.length→UJ l m i=true):F7 l m=true:=by
 simp only [F7,Bool.and_eq_true,decide_eq_true_eq];refine⟨⟨⟨List.all_eq_true.2 fun p hp=>?_,List.all_eq_true.2 fun e he=>?_⟩,hm⟩,hl⟩
 ·obtain⟨i,hi,rfl⟩:=List.getElem_of_mem hp;have:=h1 i hi;rw [SM,E5 hi,Bool.and_eq_true] at this;exact lV this.1
 obtain⟨i,hi,rfl⟩:=List.getElem_of_mem he;have:=h2 i hi;rw [UJ,NF hi] at this;simp only [Bool.and_eq_true,decide_eq_true_eq] at this ⊢;omega
theorem aIY {l:List Pt}{m:List Ed}{n:Int}{i k:Nat}(hi:i<m.length)(hk:k<i)(h:F6 l m i k=false):gW l m n=false:=by
 have:mW (fun k=>F6 l m i k) i=false:=lA hk h;have:mW (fun i=>mW (fun k=>F6 l m i k) i) m.length=false:=lA hi this;simp [gW,this]
theorem aJ5 {l:List Pt}{m:List Ed}{n:Int}(h:szB l m n=false):cM l m n=false:=by simp [cM,h]
theorem aD9 {l:List Pt}{m:List Ed}{n:Int}{i:Nat}(hi:i<l.length)(h:SM l i=false):cM l m n=false:=by simp [cM,lA hi h]
theorem A1 {l:List Pt}{m:List Ed}{n:Int}{i:Nat}(hi:i<m.length)(h:UJ l m i=false):cM l m n=false:=by simp [cM,lA hi h]
theorem HP {l:List Pt}{m:List Ed}{i:Nat}{ed:Ed}(hed:cN m i=ed)(h:¬ (0≤ed.a∧ed.a<ed.b∧ed.b<l.length∧-1≤ed.n∧ed.n<200)):UJ l m i=false:=by
 cases hb:UJ l m i with
 |false=>rfl
 |true =>
  rw [UJ,hed] at hb;simp only [Bool.and_eq_true,decide_eq_true_eq] at hb;exact absurd ⟨hb.1.1.1.1.1,hb.1.1.1.1.2,hb.1.1.1.2,hb.1.1.2,hb.1.2⟩ h
theorem aJ8 {l:List Pt}{m:List Ed}{i:Nat}{ed d:Ed}(hed:cN m i=ed)(hd:cN m (i - 1)=d)(hi:i≠0)(h:bfE d ed=false):UJ l m i=false:=by
 rw [UJ,hed,hd,h,decide_eq_false hi,Bool.or_false,Bool.and_false]
theorem VL {l:List Pt}{m:List Ed}{i:Nat}{ed:Ed}(hed:cN m i=ed)(h:0≤ed.a∧ed.a<ed.b∧ed.b<l.length∧-1≤ed.n∧ed.n<200)(ho:(decide (i=0) || bfE (cN m (i - 1)) ed)=true):UJ l m i=true:=by
 rw [UJ,hed,ho];simp only [Bool.and_eq_true,decide_eq_true_eq,and_true];omega
theorem dM {l:List Pt}{m:List Ed}{n:Int}(h:cM l m n=true):F7 l m=true∧3≤m.length∧1≤l.length∧l.length≤400∧m.length≤400∧1≤n∧n≤100:=by
 simp only [cM,Bool.and_eq_true] at h;obtain⟨h1,h2,h3,h4⟩:=h;simp only [szB,Bool.and_eq_true,decide_eq_true_eq] at h1;have hM:=TP (l:=l) (m:=m) (by omega) (by omega) (fun i hi=>dU h2 hi) (fun i hi=>dU h3 hi);have:=tO hM (i:=0) (by omega);exact⟨hM,by omega,by omega,by omega,by omega,by omega,by omega⟩
theorem cH {l:List Pt}{m:List Ed}{n:Int}(h:gW l m n=true):cM l m n=true:=by
 simp only [gW,Bool.and_eq_true] at h;exact h.1
def faB (m:List Ed)(of:List Int)(i:Nat):Bool:=decide ((cN m i).l=aE of (2*i))&&decide ((cN m i).r=aE of (2*i+1))
def aIk (l:List Pt)(m:List Ed)(n:Int):Bool:=gW l m n&&(TN l m&&(aIX (nZ l m)&&(decide ((nZ l m).faces=n)&&mW (faB m (nZ l m).of) m.length)))
def LX:List Bool→Nat→Int
 |[],_=>-1
 |b::r,i=>if b=false then i else LX r (i+1)
theorem PQ:∀ (l:List Bool) (i:Nat),decide (0≤LX l i)=!(l.all id)
 |[],i=>rfl
 |b::r,i=>by
  cases b with
  |false=>simp [LX]
  |true=>simpa [LX] using PQ r (i+1)
def ixS (l:List Bool):List Value→Option (Bool × Value)
 |[.bool false]=>some (decide (l.length≤1000000),iv (LX l 0))
 |_=>none
theorem aEy {l:List Bool}{r:List Value}{v:Value}(hs:ixS l r=some (true,v)):r=[.bool false]∧l.length≤1000000∧v=iv (LX l 0):=by
 unfold ixS at hs;split at hs
 ·injection hs with hs;injection hs with h1 h2;exact⟨rfl,by simpa using h1,h2.symm⟩
 ·cases hs
def aA2 (l:List Bool)(c:Nat)(j:Int):List (Nat × Value):=[(0,.slice (some ⟨0,0,none⟩) l.length c),(1,.bool false),(7,iv l.length),(8,iv j)]
def hBo (l:List Bool):Heap:=[(0,.cells false true 1 (flat pP.fl l))]
def aBd:Nat × XF:=(170,lX pP ixS)
theorem aKR:dJ Go.Proofs.Tryz.prog aBd.1 aBd.2:=CP pP (aK (xl:=[]) .nil) fun l r v hs=>by
 obtain⟨rfl,hlen,rfl⟩:=aEy hs;refine⟨rfl,rfl,fun c=>?_⟩;(conv=>whnf);refine⟨fun q e h nx=>∃ (i:Nat) (j:Int),j=i∧i≤l.length∧q=l.length - i∧LX l 0=LX (l.drop i) i∧e=aA2 l c j∧h=hBo l∧nx=1,⟨l.length,?_⟩,?_⟩
 ·refine cZ (e0:=aA2 l c 0) (h0:=hBo l) (n0:=1) ⟨0,0,rfl,Nat.zero_le _,rfl,rfl,rfl,rfl,rfl⟩ ?_ ?_ (by decide)
  ·unfold aA2;((repeat' refine iE rfl rfl ?_);exact iN)
  unfold hBo;((repeat'(first|refine iF rfl rfl ?_|refine iC rfl rfl rfl ?_|refine iJ rfl rfl rfl rfl ?_));exact iN)
 rintro q e h nx ⟨i,j,hj,hi,rfl,hb,rfl,rfl,rfl⟩;unfold aA2 hBo;((conv=>whnf);apply bm<;>intro h1);rotate_left
 ·have hge:l.length≤i:=(by simp [aA,aF] at h1;omega);(conv=>whnf);rw [hb,List.drop_eq_nil_of_le hge];rfl
 have hlt:i<l.length:=(by simp [aA,aF] at h1;omega);have hd:l.drop i=cV l i::l.drop (i+1):=(by rw [tB hlt];exact List.drop_eq_getElem_cons hlt);rw [hd,LX] at hb;((conv=>whnf);apply bm<;>intro h2);rotate_left
 ·exfalso;simp [aA,aF] at h2;omega
 (conv=>whnf);refine kW (aI3 l (i:=i) hlt ?_) ?_
 ·show _+Int.toNat j*1=_;omega
 ((conv=>whnf);apply bm<;>intro h3)
 ·have h3:cV l i=false:=(by simpa [aA,aF] using h3);(conv=>whnf);rw [hb,if_pos h3,hj]
 have h3:¬ cV l i=false:=(by simpa [aA,aF] using h3);((conv=>whnf);apply bm<;>intro h4)
 ·(conv=>whnf);refine⟨l.length - (i+1),by omega,?_⟩;refine cZ (e0:=aA2 l c (j+1)) (h0:=hBo l) (n0:=1) ⟨i+1,j+1,by omega,hlt,rfl,by rw [hb,if_neg h3],rfl,rfl,rfl⟩ ?_ ?_ (by decide)
  ·unfold aA2;((repeat' refine iE rfl rfl ?_);exact iN)
  unfold hBo;((repeat'(first|refine iF rfl rfl ?_|refine iC rfl rfl rfl ?_|refine iJ rfl rfl rfl rfl ?_));exact iN)
 exfalso;simp [aA,aF,aH] at h4;omega
def ctS (l:List Bool):List Value→Option (Bool × Value)
 |[.bool false]=>some (decide (l.length≤1000000),.bool (!(l.all id)))
 |_=>none
theorem aFt {l:List Bool}{r:List Value}{v:Value}(hs:ctS l r=some (true,v)):r=[.bool false]∧l.length≤1000000∧v=.bool (!(l.all id)):=by
 unfold ctS at hs;split at hs
 ·injection hs with hs;injection hs with h1 h2;exact⟨rfl,by simpa using h1,h2.symm⟩
 ·cases hs
def U0:Nat × XF:=(142,lX pP ctS)
theorem aGZ:dJ Go.Proofs.Tryz.prog U0.1 U0.2:=CP pP (aK (xl:=[aBd]) (.cons aKR .nil)) fun l r v hs=>by
 obtain⟨rfl,hlen,rfl⟩:=aFt hs;refine⟨rfl,rfl,fun c=>?_⟩;(conv=>whnf);refine⟨l,bF pP rfl,?_⟩;((conv=>whnf);apply bm<;>intro h1)
 ·(conv=>whnf);rw [← PQ l 0];rfl
 exact absurd hlen (by simpa using h1)
theorem S9 (n:Nat):rep n [.bool false]=flat pP.fl (List.replicate n false):=by
 induction n with
 |zero=>rfl
 |succ n ih=>simp only [List.replicate_succ,flat,← ih];rfl
theorem aJE (n:Nat):rep n [iv 0]=flat aR.fl (List.replicate n 0):=by
 induction n with
 |zero=>rfl
 |succ n ih=>simp only [List.replicate_succ,flat,← ih];rfl
theorem zN (a b:Pt):fJ a b=decide (jK a b<0):=by
 unfold fJ jK ZW gB;by_cases h1:a.1<b.1
 ·simp [h1]
 by_cases h2:b.1<a.1
 ·have h3:¬ a.1=b.1:=(by omega);simp [h1,h2,h3]
 have h3:a.1=b.1:=(by omega);simp only [h1,h2,if_false,h3];by_cases h4:a.2<b.2 <;> by_cases h5:b.2<a.2 <;> simp [h4,h5]
theorem VG (d e:Ed):bfE d e=decide (ZW (gB d.a e.a) (gB d.b e.b)<0):=zN (d.a,d.b) (e.a,e.b)
def liS (l:List Pt)(m:List Ed)(n:Int):List Value→Option (Bool × Value)
 |[]=>some (decide (l.length≤1000)&&decide (m.length≤1000),.bool (cM l m n))
 |_=>none
theorem aFq {l:List Pt}{m:List Ed}{n:Int}{r:List Value}{v:Value}(h:liS l m n r=some (true,v)):r=[]∧l.length≤1000∧m.length≤1000∧v=.bool (cM l m n):=by
 unfold liS at h;split at h
 ·injection h with h;injection h with h1 h2;simp only [Bool.and_eq_true,decide_eq_true_eq] at h1;exact⟨rfl,h1.1,h1.2,h2.symm⟩
 ·cases h
def OE (N c:Nat)(j:Int):List (Nat × Value):=[(1,.pointer (some ⟨2,0,none⟩)),(35,.slice (some ⟨0,0,none⟩) N c),(36,iv N),(37,iv j)]
def C4 (N M c:Nat)(j:Int):List (Nat × Value):=[(1,.pointer (some ⟨2,0,none⟩)),(5,.slice (some ⟨3,0,none⟩) N N),(66,.slice (some ⟨1,0,none⟩) M c),(67,iv M),(68,iv j)]
def W4:Nat × XF:=(79,mX dC dP liS)
theorem aMe:dJ Go.Proofs.Tryz.prog W4.1 W4.2:=OG dC dP (aK (xl:=[X17,aK7,PZ,aBe,U0]) (.cons x17 (.cons aLh (.cons SS (.cons aIh (.cons aGZ .nil)))))) fun l m n r v hs=>by
 obtain⟨rfl,hl,hm,rfl⟩:=aFq hs;clear hs;refine⟨rfl,rfl,fun c1 c2=>?_⟩;have hszf:¬ (l.length≤400∧3≤m.length∧m.length≤400∧1≤n∧n≤100)→cM l m n=false:=fun h=>aJ5 (by
  cases hz:szB l m n with
  |false=>rfl
  |true=>simp only [szB,Bool.and_eq_true,decide_eq_true_eq] at hz;exact absurd ⟨hz.1.1.1.1,hz.1.1.1.2,hz.1.1.2,hz.1.2,hz.2⟩ h)
 ((conv=>whnf);apply bm<;>intro a1);rotate_left
 ·have a1:400<l.length:=(by simp [aA,aF] at a1;omega);(conv=>whnf);rw [hszf (by omega)]
 have a1:¬ 400<l.length:=(by simp [aA,aF] at a1;omega);((conv=>whnf);apply bm<;>intro a2);rotate_left
 ·have a2:m.length<3:=(by simp [aA,aF] at a2;omega);(conv=>whnf);rw [hszf (by omega)]
 have a2:¬ m.length<3:=(by simp [aA,aF] at a2;omega);((conv=>whnf);apply bm<;>intro a3);rotate_left
 ·have a3:400<m.length:=(by simp [aA,aF] at a3;omega);(conv=>whnf);rw [hszf (by omega)]
 have a3:¬ 400<m.length:=(by simp [aA,aF] at a3;omega);((conv=>whnf);apply bm<;>intro a4);rotate_left
 ·have a4:n<1:=(by simp [aA,aF] at a4;omega);(conv=>whnf);rw [hszf (by omega)]
 have a4:¬ n<1:=(by simp [aA,aF] at a4;omega);((conv=>whnf);apply bm<;>intro a5)
 ·have a5:100<n:=(by simp [aA,aF] at a5;omega);(conv=>whnf);rw [hszf (by omega)]
 have a5:¬ 100<n:=(by simp [aA,aF] at a5;omega);have hsz:szB l m n=true:=by
  simp only [szB,Bool.and_eq_true,decide_eq_true_eq];omega
 clear hszf;(conv=>whnf);refine⟨fun q e h nx=>∃ (i:Nat) (j:Int),j=i∧i≤l.length∧q=l.length - i∧(∀ t,t<i→SM l t=true)∧e=OE l.length c1 j∧h=AU l m c1 c2 n∧nx=3,⟨l.length,?_⟩,?_⟩
 ·refine cZ (e0:=OE l.length c1 0) (h0:=AU l m c1 c2 n) (n0:=3) ⟨0,0,rfl,Nat.zero_le _,rfl,fun t ht=>absurd ht (Nat.not_lt_zero t),rfl,rfl,rfl⟩ ?_ ?_ (by decide)
  ·unfold OE;((repeat' refine iE rfl rfl ?_);exact iN)
  unfold AU mY bR;((repeat'(first|refine iF rfl rfl ?_|refine iC rfl rfl rfl ?_|refine iJ rfl rfl rfl rfl ?_));exact iN)
 rintro q e h nx ⟨i,j,hj,hi,rfl,hpt,rfl,rfl,rfl⟩;unfold OE AU mY bR;((conv=>whnf);apply bm<;>intro b1)
 ·have hlt:i<l.length:=(by simp [aA,aF] at b1;omega);((conv=>whnf);apply bm<;>intro b2);rotate_left
  ·exfalso;simp [aA,aF] at b2;omega
  (conv=>whnf);refine JA (vY l (i:=i) hlt ?_) ?_
  ·show _+Int.toNat j*2=_;omega
  ((conv=>whnf);apply bm<;>intro b3);rotate_left
  ·have hr:aI (mL l i)=false:=(by simpa [aA,aF] using b3);(conv=>whnf);rw [aD9 hlt (show SM l i=false by rw [SM,hr];rfl)]
  have hr:aI (mL l i)=true:=(by simpa [aA,aF] using b3);((conv=>whnf);apply bm<;>intro b4);rotate_left
  ·have hi0:i=0:=(by simp [aA,aF] at b4;omega);have hyes:SM l i=true:=(by rw [SM,hr,hi0];rfl);((conv=>whnf);apply bm<;>intro b9)
   ·(conv=>whnf);refine⟨l.length - (i+1),by omega,?_⟩;refine cZ (e0:=OE l.length c1 (j+1)) (h0:=AU l m c1 c2 n) (n0:=3) ⟨i+1,j+1,by omega,by omega,rfl,fun t ht=>?_,rfl,rfl,rfl⟩ ?_ ?_ (by decide)
    ·by_cases hti:t=i
     ·rw [hti];exact hyes
     exact hpt t (by omega)
    ·unfold OE;((repeat' refine iE rfl rfl ?_);exact iN)
    unfold AU mY bR;((repeat'(first|refine iF rfl rfl ?_|refine iC rfl rfl rfl ?_|refine iJ rfl rfl rfl rfl ?_));exact iN)
   exfalso;simp [aA,aF,aH] at b9;omega
  have hi0:i≠0:=(by simp [aA,aF] at b4;omega);((conv=>whnf);apply bm<;>intro b5);rotate_left
  ·exfalso;simp [aA,aF,aH] at b5;omega
  ((conv=>whnf);apply bm<;>intro b6);rotate_left
  ·exfalso;simp [aA,aF] at b6;omega
  (conv=>whnf);refine JA (vY l (i:=i - 1) (by omega) ?_) ?_
  ·show _+Int.toNat (j - 1)*2=_;omega
  ((conv=>whnf);apply bm<;>intro b8)
  ·have b8:fJ (mL l (i - 1)) (mL l i)=false:=by
    rw [zN];have:0≤jK (mL l (i - 1)) (mL l i):=(by simpa [aA,aF] using b8);exact decide_eq_false (by omega)
   (conv=>whnf);rw [aD9 hlt (show SM l i=false by rw [SM,hr,b8,decide_eq_false hi0];rfl)]
  have b8:fJ (mL l (i - 1)) (mL l i)=true:=by
   rw [zN];have:¬ 0≤jK (mL l (i - 1)) (mL l i):=(by simpa [aA,aF] using b8);exact decide_eq_true (by omega)
  have hyes:SM l i=true:=(by rw [SM,hr,b8];simp);((conv=>whnf);apply bm<;>intro b9)
  ·(conv=>whnf);refine⟨l.length - (i+1),by omega,?_⟩;refine cZ (e0:=OE l.length c1 (j+1)) (h0:=AU l m c1 c2 n) (n0:=3) ⟨i+1,j+1,by omega,by omega,rfl,fun t ht=>?_,rfl,rfl,rfl⟩ ?_ ?_ (by decide)
   ·by_cases hti:t=i
    ·rw [hti];exact hyes
    exact hpt t (by omega)
   ·unfold OE;((repeat' refine iE rfl rfl ?_);exact iN)
   unfold AU mY bR;((repeat'(first|refine iF rfl rfl ?_|refine iC rfl rfl rfl ?_|refine iJ rfl rfl rfl rfl ?_));exact iN)
  exfalso;simp [aA,aF,aH] at b9;omega
 have hge:i=l.length:=(by simp [aA,aF] at b1;omega);subst hge;clear b1 hi hj;((conv=>whnf);apply bm<;>intro m1);rotate_left
 ·exfalso;simp [aA,aF] at m1;omega
 (conv=>whnf);refine⟨fun q e h nx=>∃ (i:Nat) (j:Int),j=i∧i≤m.length∧q=m.length - i∧(∀ t,t<i→UJ l m t=true)∧e=C4 l.length m.length c2 j∧h=B6 l m c1 c2 n (AD m (List.replicate l.length false) i)∧nx=4,⟨m.length,?_⟩,?_⟩
 ·refine cZ (e0:=C4 l.length m.length c2 0) (h0:=B6 l m c1 c2 n (List.replicate l.length false)) (n0:=4) ⟨0,0,rfl,Nat.zero_le _,rfl,fun t ht=>absurd ht (Nat.not_lt_zero t),rfl,rfl,rfl⟩ ?_ ?_ (by decide)
  ·unfold C4;((repeat' refine iE rfl rfl ?_);exact iN)
  unfold B6 AU mY bR;have hrep:=S9 l.length;((repeat'(first|refine iW rfl rfl (bW (aC pP _) hrep) ?_|refine iF rfl rfl ?_|refine iC rfl rfl rfl ?_|refine iJ rfl rfl rfl rfl ?_));exact iN)
 rintro q e h nx ⟨i,j,hj,hi,rfl,hed0,rfl,rfl,rfl⟩;have rl:(AD m (List.replicate l.length false) i).length=l.length:=(by rw [EP,List.length_replicate]);have nxt:AD m (List.replicate l.length false) (i+1)=((AD m (List.replicate l.length false) i).set (cN m i).a.toNat true).set (cN m i).b.toNat true:=rfl;generalize hs0:AD m (List.replicate l.length false) i=s at rl nxt;have hsl:(flat pP.fl s).length=l.length:=(by rw [cJ,rl];exact Nat.mul_one _);unfold C4 B6 AU mY bR;((conv=>whnf);apply bm<;>intro d1);rotate_left
 ·have hge:i=m.length:=(by simp [aA,aF] at d1;omega);subst hge;(conv=>whnf);refine⟨s,⟨rl.symm,_,_,_,_,rfl,by rw [List.drop_zero,List.take_length]⟩,?_⟩;((conv=>whnf);apply bm<;>intro g1)
  ·(conv=>whnf);rw [cM,hsz,lD hpt,lD hed0,hs0];show Value.bool (!(!(s.all id)))=_;rw [Bool.not_not];rfl
  exfalso;have g1:decide (s.length≤1000000)=false:=g1;simp at g1;omega
 have hlt:i<m.length:=(by simp [aA,aF] at d1;omega);((conv=>whnf);apply bm<;>intro d2);rotate_left
 ·exfalso;simp [aA,aF] at d2;omega
 (conv=>whnf);refine JA (ZI m (i:=i) hlt ?_) ?_
 ·show _+Int.toNat j*5=_;omega
 generalize hed:cN m i=ed at nxt;((conv=>whnf);apply bm<;>intro f1);rotate_left
 ·have f1:¬ 0≤ed.a:=(by simp [aA,aF] at f1;omega);(conv=>whnf);rw [A1 hlt (HP hed (by omega))]
 have f1:0≤ed.a:=(by simp [aA,aF] at f1;omega);((conv=>whnf);apply bm<;>intro f2);rotate_left
 ·have f2:¬ ed.a<ed.b:=(by simp [aA,aF] at f2;omega);(conv=>whnf);rw [A1 hlt (HP hed (by omega))]
 have f2:ed.a<ed.b:=(by simp [aA,aF] at f2;omega);((conv=>whnf);apply bm<;>intro f3);rotate_left
 ·have f3:¬ ed.b<l.length:=(by simp [aA,aF] at f3;omega);(conv=>whnf);rw [A1 hlt (HP hed (by omega))]
 have f3:ed.b<l.length:=(by simp [aA,aF] at f3;omega);((conv=>whnf);apply bm<;>intro f4);rotate_left
 ·have f4:¬ -1≤ed.n:=(by simp [aA,aF] at f4;omega);(conv=>whnf);rw [A1 hlt (HP hed (by omega))]
 have f4 : -1≤ed.n:=(by simp [aA,aF] at f4;omega);((conv=>whnf);apply bm<;>intro f5)
 ·have f5:200≤ed.n:=(by simp [aA,aF] at f5;omega);(conv=>whnf);rw [A1 hlt (HP hed (by omega))]
 have f5:ed.n<200:=(by simp [aA,aF] at f5;omega);((conv=>whnf);apply bm<;>intro f6);rotate_left
 ·have f6:i=0:=(by simp [aA,aF] at f6;omega);have hyes:UJ l m i=true:=VL hed ⟨f1,f2,f3,f4,f5⟩ (by simp [f6]);((conv=>whnf);apply bm<;>intro k1)
  ·((conv=>whnf);apply bm<;>intro k2)
   ·((conv=>whnf);apply bm<;>intro k3)
    ·((conv=>whnf);apply bm<;>intro k4)
     ·((conv=>whnf);apply bm<;>intro k5)
      ·(conv=>whnf);refine⟨m.length - (i+1),by omega,?_⟩;refine cZ (e0:=C4 l.length m.length c2 (j+1)) (h0:=B6 l m c1 c2 n (AD m (List.replicate l.length false) (i+1))) (n0:=4) ⟨i+1,j+1,by omega,by omega,rfl,fun t ht=>?_,rfl,rfl,rfl⟩ ?_ ?_ (by decide)
       ·by_cases hti:t=i
        ·rw [hti];exact hyes
        exact hed0 t (by omega)
       ·unfold C4;((repeat' refine iE rfl rfl ?_);exact iN)
       unfold B6 AU mY bR;have cU:=aLJ (s:=s) (a:=ed.a.toNat) (b:=ed.b.toNat) (o1:=0+ed.a.toNat*1) (o2:=0+ed.b.toNat*1) (by omega) (by omega) (by omega) (by omega);rw [nxt];((repeat'(first|refine iW rfl rfl (bW (aC pP _) cU) ?_|refine iF rfl rfl ?_|refine iC rfl rfl rfl ?_|refine iJ rfl rfl rfl rfl ?_));exact iN)
      exfalso;simp [aA,aF,aH] at k5;omega
     have hpl:(eY (flat pP.fl s) (0+ed.a.toNat*1) [.bool true]).length=l.length:=(by rw [iB (by rw [hsl];show 0+ed.a.toNat*1+1≤l.length;omega)];exact hsl);have k4:(0+ed.b.toNat*1+1).ble (eY (flat pP.fl s) (0+ed.a.toNat*1) [.bool true]).length=false:=k4;rw [hpl] at k4;exact mE k4 (by omega)
    exfalso;simp [aA,aF] at k3;omega
   rw [hsl] at k2;exact mE k2 (by show 0+ed.a.toNat*1+1≤l.length;omega)
  exfalso;simp [aA,aF] at k1;omega
 have f6:0<i:=(by simp [aA,aF] at f6;omega);((conv=>whnf);apply bm<;>intro f7);rotate_left
 ·exfalso;simp [aA,aF,aH] at f7;omega
 ((conv=>whnf);apply bm<;>intro f8);rotate_left
 ·exfalso;simp [aA,aF] at f8;omega
 (conv=>whnf);refine kW (aA0 m 0 (i:=i - 1) (by omega) rfl (by decide) ?_) ?_
 ·show _+Int.toNat (j - 1)*5+0=_;omega
 ((conv=>whnf);apply bm<;>intro f9);rotate_left
 ·exfalso;simp [aA,aF,aH] at f9;omega
 ((conv=>whnf);apply bm<;>intro f10);rotate_left
 ·exfalso;simp [aA,aF] at f10;omega
 (conv=>whnf);refine kW (aA0 m 1 (i:=i - 1) (by omega) rfl (by decide) ?_) ?_
 ·show _+Int.toNat (j - 1)*5+1=_;omega
 generalize hd0:cN m (i - 1)=dd;(conv=>whnf);refine⟨[gB dd.a ed.a,gB dd.b ed.b],⟨rfl,_,_,_,_,rfl,rfl⟩,?_⟩;((conv=>whnf);apply bm<;>intro f11)
 ·have f11:bfE dd ed=false:=by
   rw [VG];have:0≤ZW (gB dd.a ed.a) (gB dd.b ed.b):=(by simpa [aA,aF] using f11);exact decide_eq_false (by omega)
  (conv=>whnf);rw [A1 hlt (aJ8 hed hd0 (by omega) f11)]
 have f11:bfE dd ed=true:=by
  rw [VG];have:¬ 0≤ZW (gB dd.a ed.a) (gB dd.b ed.b):=(by simpa [aA,aF] using f11);exact decide_eq_true (by omega)
 have hyes:UJ l m i=true:=VL hed ⟨f1,f2,f3,f4,f5⟩ (by rw [hd0,f11,Bool.or_true]);((conv=>whnf);apply bm<;>intro k1);rotate_left
 ·exfalso;simp [aA,aF] at k1;omega
 ((conv=>whnf);apply bm<;>intro k2);rotate_left
 ·rw [hsl] at k2;exact mE k2 (by show 0+ed.a.toNat*1+1≤l.length;omega)
 ((conv=>whnf);apply bm<;>intro k3);rotate_left
 ·exfalso;simp [aA,aF] at k3;omega
 ((conv=>whnf);apply bm<;>intro k4);rotate_left
 ·have hpl:(eY (flat pP.fl s) (0+ed.a.toNat*1) [.bool true]).length=l.length:=(by rw [iB (by rw [hsl];show 0+ed.a.toNat*1+1≤l.length;omega)];exact hsl);have k4:(0+ed.b.toNat*1+1).ble (eY (flat pP.fl s) (0+ed.a.toNat*1) [.bool true]).length=false:=k4;rw [hpl] at k4;exact mE k4 (by omega)
 ((conv=>whnf);apply bm<;>intro k5)
 ·(conv=>whnf);refine⟨m.length - (i+1),by omega,?_⟩;refine cZ (e0:=C4 l.length m.length c2 (j+1)) (h0:=B6 l m c1 c2 n (AD m (List.replicate l.length false) (i+1))) (n0:=4) ⟨i+1,j+1,by omega,by omega,rfl,fun t ht=>?_,rfl,rfl,rfl⟩ ?_ ?_ (by decide)
  ·by_cases hti:t=i
   ·rw [hti];exact hyes
   exact hed0 t (by omega)
  ·unfold C4;((repeat' refine iE rfl rfl ?_);exact iN)
  unfold B6 AU mY bR;have cU:=aLJ (s:=s) (a:=ed.a.toNat) (b:=ed.b.toNat) (o1:=0+ed.a.toNat*1) (o2:=0+ed.b.toNat*1) (by omega) (by omega) (by omega) (by omega);rw [nxt];((repeat'(first|refine iW rfl rfl (bW (aC pP _) cU) ?_|refine iF rfl rfl ?_|refine iC rfl rfl rfl ?_|refine iJ rfl rfl rfl rfl ?_));exact iN)
 exfalso;simp [aA,aF,aH] at k5;omega
theorem apart {F1 F2 G1 G2 s1 s2 t1 t2 c:Int}(hi:G1*s2 - G2*s1=F2*t1 - F1*t2)(hd:G1 - G2=F2 - F1)(hF:F1*F2<0)(hG:G1*G2<0)
  (h1:s1≤c) (h2:s2≤c) (h3:c+1≤t1) (h4:c+1≤t2):False:=by
 have key:∀ {F1 F2 G1 G2 s1 s2 t1 t2:Int},G1*s2 - G2*s1=F2*t1 - F1*t2→G1 - G2=F2 - F1→F1<0→0<F2→0<G1→G2<0→s1≤c→s2≤c→c+1≤t1→c+1≤t2→False:=by
  intro F1 F2 G1 G2 s1 s2 t1 t2 hi hd f1 f2 g1 g2 h1 h2 h3 h4;have e1:=Int.mul_le_mul_of_nonneg_left h2 (Int.le_of_lt g1);have e2:=Int.mul_le_mul_of_nonneg_left h1 (show 0≤-G2 by omega);have e3:=Int.mul_le_mul_of_nonneg_left h3 (Int.le_of_lt f2);have e4:=Int.mul_le_mul_of_nonneg_left h4 (show 0≤-F1 by omega);have d:(G1 - G2)*c=(F2 - F1)*c:=(by rw [hd]);simp only [Int.mul_add,Int.mul_one,Int.neg_mul,Int.sub_mul] at e1 e2 e3 e4 d;omega
 rcases Int.lt_or_le F1 0 with f1|f1
 ·have f2:0<F2:=by
   rcases Int.lt_or_le 0 F2 with h|h
   ·exact h
   have:=Int.mul_nonneg_of_nonpos_of_nonpos (Int.le_of_lt f1) h;omega
  rcases Int.lt_or_le G1 0 with g1|g1
  ·have g2:0<G2:=by
    rcases Int.lt_or_le 0 G2 with h|h
    ·exact h
    have:=Int.mul_nonneg_of_nonpos_of_nonpos (Int.le_of_lt g1) h;omega
   omega
  have g1':0<G1:=by
   rcases Int.lt_or_le 0 G1 with h|h
   ·exact h
   have:G1=0:=(by omega);rw [this] at hG;omega
  have g2:G2<0:=by
   rcases Int.lt_or_le G2 0 with h|h
   ·exact h
   have:=Int.mul_nonneg g1 h;omega
  exact key hi hd f1 f2 g1' g2 h1 h2 h3 h4
 have f1':0<F1:=by
  rcases Int.lt_or_le 0 F1 with h|h
  ·exact h
  have:F1=0:=(by omega);rw [this] at hF;omega
 have f2:F2<0:=by
  rcases Int.lt_or_le F2 0 with h|h
  ·exact h
  have:=Int.mul_nonneg f1 h;omega
 rcases Int.lt_or_le G1 0 with g1|g1
 ·have g2:0<G2:=by
   rcases Int.lt_or_le 0 G2 with h|h
   ·exact h
   have:=Int.mul_nonneg_of_nonpos_of_nonpos (Int.le_of_lt g1) h;omega
  exact key (F1:=F2) (F2:=F1) (G1:=G2) (G2:=G1) (s1:=s2) (s2:=s1) (t1:=t2) (t2:=t1) (by omega) (by omega) f2 f1' g2 g1 h2 h1 h4 h3
 have g2:G2<0:=by
  rcases Int.lt_or_le G2 0 with h|h
  ·exact h
  have:=Int.mul_nonneg g1 h;omega
 omega
theorem QA {a b:Int}(h:C8 a*C8 b<0):a*b<0:=by
 unfold C8 at h
 split at h <;> split at h <;> first
  |omega
  |(exact Int.mul_neg_of_neg_of_pos (by omega) (by omega))
  |(exact Int.mul_neg_of_pos_of_neg (by omega) (by omega))
  |(split at h <;> first|omega|(exact Int.mul_neg_of_neg_of_pos (by omega) (by omega))|(exact Int.mul_neg_of_pos_of_neg (by omega) (by omega)))
theorem aBY (s t:Sg):aL t.1 t.2 s.1 - aL t.1 t.2 s.2=aL s.1 s.2 t.2 - aL s.1 s.2 t.1:=by
 obtain⟨⟨a,b⟩,⟨c,d⟩⟩:=s;obtain⟨⟨e,f⟩,⟨g,h⟩⟩:=t;simp only [aL,Int.sub_mul,Int.mul_sub,Int.mul_comm,Int.mul_left_comm,Int.mul_assoc];omega
theorem aAE (s t:Sg):aL t.1 t.2 s.1*s.2.1 - aL t.1 t.2 s.2*s.1.1=aL s.1 s.2 t.2*t.1.1 - aL s.1 s.2 t.1*t.2.1:=by
 obtain⟨⟨a,b⟩,⟨c,d⟩⟩:=s;obtain⟨⟨e,f⟩,⟨g,h⟩⟩:=t;simp only [aL,Int.sub_mul,Int.mul_sub,Int.mul_comm,Int.mul_left_comm,Int.mul_assoc];omega
theorem aBZ (s t:Sg):aL t.1 t.2 s.1*s.2.2 - aL t.1 t.2 s.2*s.1.2=aL s.1 s.2 t.2*t.1.2 - aL s.1 s.2 t.1*t.2.2:=by
 obtain⟨⟨a,b⟩,⟨c,d⟩⟩:=s;obtain⟨⟨e,f⟩,⟨g,h⟩⟩:=t;simp only [aL,Int.sub_mul,Int.mul_sub,Int.mul_comm,Int.mul_left_comm,Int.mul_assoc];omega
theorem WU {a b c d:Int}(h:apI a b c d=true):(∃ k,a≤k∧b≤k∧k+1≤c∧k+1≤d)∨(∃ k,c≤k∧d≤k∧k+1≤a∧k+1≤b):=by
 unfold apI mxI mnI at h;simp only [Bool.or_eq_true,decide_eq_true_eq] at h;rcases h with h|h
 ·refine .inl ⟨if b > a then b else a,?_⟩;split at h <;> split at h <;> omega
 refine .inr ⟨if d > c then d else c,?_⟩;split at h <;> split at h <;> omega
theorem aAm {s t:Sg}(h:oF s t=true):¬ (aS s.1 s.2 t.1*aS s.1 s.2 t.2<0∧aS t.1 t.2 s.1*aS t.1 t.2 s.2<0):=by
 rintro ⟨h1,h2⟩;have h1:=QA h1;have h2:=QA h2;have d1:=aBY s t;have d2:=aBY t s;unfold oF at h;rw [Bool.or_eq_true] at h;rcases h with h|h
 ·rcases WU h with ⟨k,a1,a2,a3,a4⟩|⟨k,a1,a2,a3,a4⟩
  ·exact apart (aAE s t) d1 h1 h2 a1 a2 a3 a4
  exact apart (aAE t s) d2 h2 h1 a1 a2 a3 a4
 ·rcases WU h with ⟨k,a1,a2,a3,a4⟩|⟨k,a1,a2,a3,a4⟩
  ·exact apart (aBZ s t) d1 h1 h2 a1 a2 a3 a4
  exact apart (aBZ t s) d2 h2 h1 a1 a2 a3 a4
theorem aFY {s t:Sg}(h:oF s t=true)(p:Pt):¬ (r8 p s=true∧r8 p t=true):=by
 rintro ⟨h1,h2⟩;simp only [r8,XN,Bool.and_eq_true,decide_eq_true_eq] at h1 h2;obtain⟨⟨⟨x1,x2⟩,y1,y2⟩,_⟩:=h1;obtain⟨⟨⟨x3,x4⟩,y3,y4⟩,_⟩:=h2;unfold oF at h;rw [Bool.or_eq_true] at h;rcases h with h|h
 ·rcases WU h with ⟨k,a1,a2,a3,a4⟩|⟨k,a1,a2,a3,a4⟩ <;>
   (split at x1 <;> split at x2 <;> split at x3 <;> split at x4 <;> omega)
 ·rcases WU h with ⟨k,a1,a2,a3,a4⟩|⟨k,a1,a2,a3,a4⟩ <;>
   (split at y1 <;> split at y2 <;> split at y3 <;> split at y4 <;> omega)
theorem aBE {s t:Sg}(h:oF s t=true):iO s t=0:=by
 unfold iO;split
 ·rename_i hr;rw [aED s t hr.1 hr.2];have he:QY s t=[]:=by
   unfold QY;have:∀ p,LV s t [] p=[]:=fun p=>by
    unfold LV;rw [if_neg (fun hh=>aFY h p ⟨hh.1,hh.2.1⟩)]
   rw [this,this,this,this]
  unfold GN;rw [he];exact if_neg (aAm h)
 rfl
theorem aBk (s t:Sg):ID s t=iO s t:=by
 unfold ID;split
 ·rename_i h;rw [aBE h]
 rfl
def C5 (v:Pt):Bool:=decide (v.2<0) || (decide (v.2=0)&&decide (v.1<0))
def aJJ:Nat × XF:=(171,gX (s1 cP fun v=>(true,.bool (C5 v))))
theorem aNG:dJ Go.Proofs.Tryz.prog aJJ.1 aJJ.2:=x1 cP (xl:=[]) .nil (fun _=>rfl) fun a _=>by
 obtain⟨ax,ay⟩:=a;unfold eR
 repeat' ((conv=>whnf);apply bm<;>intro h)
 all_goals (conv=>whnf)
 all_goals (simp only [aAK,aDe,NQ,MH,beq_iff_eq,beq_eq_false_iff_ne,ne_eq,Bool.not_eq_false,Bool.not_eq_true,decide_eq_true_eq,decide_eq_false_iff_not] at *)
 all_goals (show _=Value.bool (C5 _);unfold C5;simp_all)
def crP (w v:Pt):Int:=w.1*v.2 - w.2*v.1
def T2 (w v:Pt):Int:=if C5 w=C5 v then gB 0 (crP w v) else if C5 v=true then -1 else 1
def aIy:Nat × XF:=(144,gX (s2 cP cP fun w v=>(wide w&&wide v,iv (T2 w v))))
theorem aNj:dJ Go.Proofs.Tryz.prog aIy.1 aIy.2:=x2 cP cP (xl:=[aJJ,PZ]) (.cons aNG (.cons SS .nil)) (fun _ _=>rfl) fun w v hp=>by
 obtain⟨wx,wy⟩:=w;obtain⟨vx,vy⟩:=v;simp only [wide,Bool.and_eq_true,decide_eq_true_eq] at hp;have m1:=IT (a:=wx) (b:=vy) (A:=1000000) (B:=1000000) (by omega) (by omega) (by omega) (by omega);have m2:=IT (a:=wy) (b:=vx) (A:=1000000) (B:=1000000) (by omega) (by omega) (by omega) (by omega);unfold eR
 repeat' ((conv=>whnf);apply bm<;>intro h)
 all_goals (conv=>whnf)
 all_goals first
  |(exfalso;simp [aA,aF,aH] at h;omega)
  |(show iv _=iv (T2 _ _);unfold T2;simp [aA,aF] at *;simp_all;done)
  |(show iv _=iv (T2 _ _);unfold T2 crP;simp [aA,aF] at *;simp_all)
  |trace_state
structure Dt where
 dx:Int
 dy:Int
 no:Int
 fr:Int
 tt:Int
def rP:El Dt:=⟨fun e=>[iv e.dx,iv e.dy,iv e.no,iv e.fr,iv e.tt],5,fun _=>rfl,fun _=>rfl,by decide⟩
def bL (m:List Dt)(i:Nat):Dt:=m.getD i ⟨0,0,0,0,0⟩
theorem pG {m:List Dt}{i:Nat}(h:i<m.length):bL m i=m[i]:=by
 unfold bL;rw [List.getD_eq_getElem?_getD,List.getElem?_eq_getElem h];rfl
theorem aGX (m:List Dt){i o:Nat}(hi:i<m.length)(ho:o=i*5):oK (flat rP.fl m) o 5=some [iv (bL m i).dx,iv (bL m i).dy,iv (bL m i).no,iv (bL m i).fr,iv (bL m i).tt]:=by
 rw [pG hi];exact zE rP m hi ho
def eE (d:Dt):Pt:=(d.dx,d.dy)
theorem X1 (m:List Dt){i o:Nat}(hi:i<m.length)(ho:o=i*5):oK (flat rP.fl m) o 2=some [iv (eE (bL m i)).1,iv (eE (bL m i)).2]:=by
 have h1:nth (flat rP.fl m) o=some (iv (bL m i).dx):=by
  rw [pG hi];exact lY rP m hi (k:=0) rfl (by decide) (by rw [ho];rfl)
 have h2:nth (flat rP.fl m) (o+1)=some (iv (bL m i).dy):=by
  rw [pG hi];exact lY rP m hi (k:=1) rfl (by decide) (by rw [ho];rfl)
 simp only [oK,h1,h2];rfl
def aDy (h:Heap)(p:Nat)(D:List Dt):Prop:=∃ b c k0 k1 wr g sz r0 wr1 g1 sz1 r1 wr2 g2 sz2 cs n0 c0 n1 c1 F cc,
 look h p=some (.cells wr g sz (.pointer (some ⟨b,0,none⟩)::r0)) ∧
 look h b=some (.cells wr1 g1 sz1 (.slice (some ⟨k0,0,none⟩) n0 c0::.slice (some ⟨k1,0,none⟩) n1 c1::iv F::.slice (some ⟨c,0,none⟩) D.length cc::r1)) ∧
 look h c=some (.cells wr2 g2 sz2 cs)∧cs.take (flat rP.fl D).length=flat rP.fl D
def aBI (D:List Dt):Bool:=D.all fun d=>wide (eE d)
def Z9 (D:List Dt)(x y:Int):Int:=T2 (eE (bL D x.toNat)) (eE (bL D y.toNat))
def VN (D:List Dt)(x y:Int):Bool:=decide (0≤x)&&decide (x<D.length)&&(decide (0≤y)&&decide (y<D.length))&&aBI D
def aBJ:Nat × XF:=(143,fun args h nx K=>∃ x y p D,args=[iv x,iv y,.pointer (some ⟨p,0,none⟩)]∧aDy h p D∧dT (VN D x y) (K (iv (Z9 D x y)) h nx))
def aJP (D:List Dt)(n0 c0 n1 c1:Nat)(F:Int)(cc:Nat):Heap:=[(0,.cells false false 1 [.pointer (some ⟨1,0,none⟩)]),(1,.cells false false 1 [.slice (some ⟨3,0,none⟩) n0 c0,.slice (some ⟨4,0,none⟩) n1 c1,iv F,.slice (some ⟨2,0,none⟩) D.length cc]),(2,.cells false true 5 (flat rP.fl D))]
def aNt (p b c k0 k1:Nat):Nat→Nat
 |0=>p
 |1=>b
 |2=>c
 |3=>k0
 |_=>k1
theorem aJM {h:Heap}{p nx:Nat}{D:List Dt}(hd:aDy h p D)(x y:Int):∃ n0 c0 n1 c1 F cc,In [iv x,iv y,.pointer (some ⟨0,0,none⟩)] (aJP D n0 c0 n1 c1 F cc) 5 [iv x,iv y,.pointer (some ⟨p,0,none⟩)] h nx:=by
 obtain⟨b,c,k0,k1,wr,g,sz,r0,wr1,g1,sz1,r1,wr2,g2,sz2,cs,n0,c0,n1,c1,F,cc,h1,h2,h3,h4⟩:=hd;refine⟨n0,c0,n1,c1,F,cc,nT (aNt p b c k0 k1) rfl ?_ ?_⟩
 ·refine List.forall_mem_cons.2 ⟨bU rfl,List.forall_mem_cons.2 ⟨bU rfl,List.forall_mem_cons.2 ⟨⟨by decide,rfl⟩,fun _ h=>by cases h⟩⟩⟩
 intro k o hk;unfold aJP at hk;rw [aB] at hk;split at hk
 ·rename_i hb;injection hk with hk;subst hk;rw [← beq_true hb]
  refine⟨by decide,false,1,_,rfl,by decide,(fun h=>by cases h),List.forall_mem_cons.2 ⟨⟨by decide,rfl⟩,fun _ h=>by cases h⟩,wr,g,sz,_,h1,rfl⟩
 rw [aB] at hk;split at hk
 ·rename_i hb;injection hk with hk;subst hk;rw [← beq_true hb]
  refine⟨by decide,false,1,_,rfl,by decide,(fun h=>by cases h),?_,wr1,g1,sz1,_,h2,rfl⟩;refine List.forall_mem_cons.2 ⟨⟨by decide,fun h=>by cases h⟩,List.forall_mem_cons.2 ⟨⟨by decide,fun h=>by cases h⟩,List.forall_mem_cons.2 ⟨bY rfl,List.forall_mem_cons.2 ⟨⟨by decide,fun h=>by cases h⟩,fun _ h=>by cases h⟩⟩⟩⟩
 rw [aB] at hk;split at hk
 ·rename_i hb;injection hk with hk;subst hk;rw [← beq_true hb]
  exact⟨by decide,true,5,_,rfl,by decide,fun _=>aC rP D,fun v hv=>bY (aT (aC rP D) hv),wr2,g2,sz2,cs,h3,by rw [h4];exact (a8 (aC rP D)).symm⟩
 exact bZ hk
theorem aKN:dJ Go.Proofs.Tryz.prog aBJ.1 aBJ.2:=by
 refine (jD (S:=fun args0 h0 n0 v1 h1 m=>∃ x y D n1 c1 n2 c2 F cc,VN D x y=true∧args0=[iv x,iv y,.pointer (some ⟨0,0,none⟩)]∧h0=aJP D n1 c1 n2 c2 F cc∧n0=5∧v1=iv (Z9 D x y)∧h1=[]∧m=0) (aK (xl:=[aIy]) (.cons aNj .nil)) ?_).mono ?_ ?_
 ·rintro args0 h0 n0 v1 h1 m ⟨x,y,D,n1,c1,n2,c2,F,cc,hok,rfl,rfl,rfl,rfl,rfl,rfl⟩;refine⟨rfl,fun u _ _=>u=iv (Z9 D x y),?_,fun v h nx e=>by rw [e];exact lJ rfl⟩;simp only [VN,Bool.and_eq_true,decide_eq_true_eq] at hok;obtain⟨⟨⟨h0,h1⟩,h2,h3⟩,hw⟩:=hok;have wx:wide (eE (bL D x.toNat))=true:=by
   rw [pG (by omega)];exact List.all_eq_true.1 hw _ (List.getElem_mem _)
  have wy:wide (eE (bL D y.toNat))=true:=by
   rw [pG (by omega)];exact List.all_eq_true.1 hw _ (List.getElem_mem _)
  ((conv=>whnf);apply bm<;>intro a1);rotate_left
  ·exfalso;simp [aA,aF] at a1;omega
  (conv=>whnf);refine JA (X1 D (i:=x.toNat) (by omega) ?_) ?_
  ·show _+Int.toNat x*5=_;omega
  ((conv=>whnf);apply bm<;>intro a2)
  ·(conv=>whnf);refine JA (X1 D (i:=y.toNat) (by omega) ?_) ?_
   ·show _+Int.toNat y*5=_;omega
   ((conv=>whnf);apply bm<;>intro a3)
   ·(conv=>whnf);rfl
   exfalso;have a3:(wide (eE (bL D x.toNat))&&wide (eE (bL D y.toNat)))=false:=a3;rw [wx,wy] at a3;cases a3
  exfalso;simp [aA,aF] at a2;omega
 ·rintro args h nx K ⟨x,y,p,D,rfl,hd,hx⟩;obtain⟨hb,hx⟩:=aD.1 hx;obtain⟨n0,c0,n1,c1,F,cc,i⟩:=aJM (nx:=nx) hd x y;refine⟨_,_,5,_,[],0,⟨x,y,D,n0,c0,n1,c1,F,cc,hb,rfl,rfl,rfl,rfl,rfl,rfl⟩,i,?_⟩;exact hx
 rintro args h nx K ⟨x,y,p,D,rfl,hd,hx⟩;obtain⟨hb,hx⟩:=aD.1 hx;exact⟨_,_,_,hx,fun K' hk'=>⟨x,y,p,D,rfl,hd,aJ hb hk'⟩⟩
set_option maxHeartbeats 2000000
def aLt (xl:List (Nat × XF))(k:Nat):DC:={ aA with X:=look xl,M:=k }
theorem aEd {xl:List (Nat × XF)}(h:kG xl)(k:Nat):pA Go.Proofs.Tryz.prog (aLt xl k) where
 ar:=dV.ar
 tab:=dV.tab
 mixed:=dV.mixed
 funcs:=dV.funcs
 xs:=h.look
def EE (s:Sg)(y:Int):Int:=2*(s.2.1 - s.1.1)*s.1.2+(s.2.2 - s.1.2)*(y - 2*s.1.1)
def CT (s:Sg):Int:=s.2.1 - s.1.1
theorem TV {s:Sg}(hs:aI s.1=true∧aI s.2=true){y:Int}(h0:0≤y)(h1:y≤30000):(-200000000≤2*(s.2.1 - s.1.1)*s.1.2∧2*(s.2.1 - s.1.1)*s.1.2≤200000000)∧(-300000000≤(s.2.2 - s.1.2)*(y - 2*s.1.1)∧(s.2.2 - s.1.2)*(y - 2*s.1.1)≤300000000):=by
 obtain⟨h2,h3⟩:=hs;simp only [aI,Bool.and_eq_true,decide_eq_true_eq] at h2 h3;have m1:=IT (a:=2*(s.2.1 - s.1.1)) (b:=s.1.2) (A:=20000) (B:=10000) (by omega) (by omega) (by omega) (by omega);have m2:=IT (a:=s.2.2 - s.1.2) (b:=y - 2*s.1.1) (A:=10000) (B:=30000) (by omega) (by omega) (by omega) (by omega);omega
theorem aC2 {s t:Sg}(hs:aI s.1=true∧aI s.2=true)(ht:aI t.1=true∧aI t.2=true){y:Int}(h0:0≤y)(h1:y≤30000):(-10000000000000≤EE s y*(2*CT t)∧EE s y*(2*CT t)≤10000000000000)∧(-5000000000000≤EE s y*CT t∧EE s y*CT t≤5000000000000):=by
 have b1:=TV hs h0 h1;obtain⟨h2,h3⟩:=ht;simp only [aI,Bool.and_eq_true,decide_eq_true_eq] at h2 h3;have e:EE s y=2*(s.2.1 - s.1.1)*s.1.2+(s.2.2 - s.1.2)*(y - 2*s.1.1):=rfl;have e2:CT t=t.2.1 - t.1.1:=rfl;have m1:=IT (a:=EE s y) (b:=2*CT t) (A:=500000000) (B:=20000) (by omega) (by omega) (by omega) (by omega);have m2:=IT (a:=EE s y) (b:=CT t) (A:=500000000) (B:=10000) (by omega) (by omega) (by omega) (by omega);omega
def hgV (s t:Sg)(x:Int):Int:=gB (EE s (2*x+1)*(2*CT t)) (EE t (2*x+1)*(2*CT s))
def okX (x:Int):Bool:=decide (0≤x)&&decide (x≤10000)
def rgS (s:Sg):Bool:=aI s.1&&aI s.2
def aHS:Nat × XF:=(106,gX (s3 cS cS cI fun s t x=>(rgS s&&rgS t&&okX x,iv (hgV s t x))))
theorem aN8:dJ Go.Proofs.Tryz.prog aHS.1 aHS.2:=vW (jN (aEd (xl:=[PZ]) (.cons SS .nil) 4) 6).1 fun args v hs=>by
 obtain⟨s,t,x,rfl,e⟩:=aBS cS cS cI hs;injection e with hp e;subst e;clear hs;refine⟨rfl,rfl,?_⟩;simp only [rgS,okX,Bool.and_eq_true,decide_eq_true_eq] at hp;obtain⟨⟨hS,hT⟩,h0,h1⟩:=hp;have b1:=TV hS (y:=2*x+1) (by omega) (by omega);have b2:=TV hT (y:=2*x+1) (by omega) (by omega);have b3:=aC2 hS hT (y:=2*x+1) (by omega) (by omega);have b4:=aC2 hT hS (y:=2*x+1) (by omega) (by omega);obtain⟨⟨ax,ay⟩,⟨bx,b_y⟩⟩:=s;obtain⟨⟨cx,cy⟩,⟨dx,dy⟩⟩:=t;obtain⟨hS1,hS2⟩:=hS;obtain⟨hT1,hT2⟩:=hT;simp only [aI,Bool.and_eq_true,decide_eq_true_eq] at hS1 hS2 hT1 hT2;unfold hgV;unfold EE CT at *;dsimp only at *
 repeat' (((conv=>whnf);apply bm<;>intro g))
 all_goals (conv=>whnf)
 all_goals first
  |rfl
  |(exfalso;simp [aLt,aA,aF,aH] at g;omega)
theorem X8 {l:List Pt}{m:List Ed}(hM:F7 l m=true)(hr:l.all aI=true){i:Nat}(hi:i<m.length):aI (aP l m i).1=true∧aI (aP l m i).2=true:=by
 have he:=tO hM hi;have key:∀ a:Int,0≤a→a<l.length→aI (kA l a)=true:=fun a h0 h1=>by
  unfold kA mL;rw [List.getD_eq_getElem?_getD,List.getElem?_eq_getElem (by omega)];exact List.all_eq_true.1 hr _ (List.getElem_mem _)
 exact⟨key _ he.1 he.2.1,key _ he.2.2.1 he.2.2.2⟩
section
variable {α:Type}(E:El α)
theorem aCc {ι ι':Nat→Loc}{B:Nat}{w:World}{sz:Nat}{cs:List Value}{loc:Loc}(hg:dL cs=true)(h:kI ι B w (.cells true false sz cs) loc):kI ι' B w (.cells true false sz cs) loc:=by
 cases loc with
 |nil p=>exact h
 |lay b o e =>
  obtain⟨x1,x2,arr,t,x3,x4,x5⟩:=h;refine⟨x1,x2,arr,t,x3,x4,fun i v hv=>?_⟩;rw [x5 i v hv,nU (aT hg (List.mem_of_getElem? hv)),nU (aT hg (List.mem_of_getElem? hv))]
end
def E1 (k:Nat)(ι:Nat→Loc):Nat→Loc:=fun j=>if j=0 then ι k else ι (j - 1)
theorem FZ (k:Nat)(ι:Nat→Loc):E1 k ι 0=ι k:=if_pos rfl
theorem tT (k:Nat)(ι:Nat→Loc)(j:Nat):E1 k ι (1+j)=ι j:=by
 unfold E1;rw [if_neg (by omega),Nat.add_sub_cancel_left]
def T6 (F:Heap)(nx:Nat):Prop:=1≤nx∧∀ j o,look F j=some o→0<j∧j<nx∧bT id nx o o
theorem bM {b n0 nx:Nat}{I:KS}{e0 e:List (Nat × Value)}{F:Heap}{o0 o:bH}(hF:T6 F n0)(hI:I e0 ((0,o0)::F) n0)(he:∀ p∈e0,look e p.1=some (fL id p.2)∧x6 n0 p.2)(ho:bT id n0 o0 o)(hb:b≤n0) :
  r5 b I e ((0,o)::F) nx:=by
 refine⟨e0,(0,o0)::F,n0,id,hI,fun t v hv=>he (t,v) (aW hv),fun k q hk=>?_,fun k k' q q' _ _ e=>e,fun k _=>rfl,hb⟩;rw [aB] at hk;split at hk
 ·rename_i hb1;injection hk with hk;subst hk;have:=beq_true hb1;subst this;exact⟨hF.1,o,rfl,ho⟩
 obtain⟨h1,h2,h3⟩:=hF.2 k q hk;refine⟨h2,q,?_,h3⟩;show look ((0,o)::F) k=some q;rw [aB];rename_i hb1;rw [hb1];exact hk
theorem kE {n:Nat}:∀ (h:Heap) {j:Nat} {o:bH},look h j=some o→look (oP n h) (n+j)=some (YU n o)
 |[],j,o,hl=>(by cases hl)
 |(i,q)::r,j,o,hl=>by
  rw [aB] at hl;simp only [oP];rw [aB];split at hl
  ·rename_i hb;injection hl with hl;subst hl;have:=beq_true hb;subst this;rw [Nat.beq_refl]
  rename_i hb;have hne:Nat.beq (n+i) (n+j)=false:=by
   cases hb':Nat.beq (n+i) (n+j) with
   |false=>rfl
   |true =>
    have:=beq_true hb';have:i=j:=(by omega);subst this;rw [Nat.beq_refl] at hb;cases hb
  rw [hne];exact kE r hl
theorem K9 {ι:Nat→Loc}{σ:Nat→Nat}{n:Nat}{v:Value}(h:oL ι n v):oL (jR σ) n v:=by
 cases v with
 |pointer a=>cases a with
  |none=>trivial
  |some a=>exact⟨h.1,rfl⟩
 |slice a l c=>cases a with
  |none=>trivial
  |some a=>exact⟨h.1,fun hf=>by cases hf⟩
 |map a=>cases a with
  |none=>trivial
  |some a=>exact⟨h.1,rfl⟩
 |agg c=>exact h.elim
 |tuple c=>exact h.elim
 |_=>trivial
theorem aD7 {ι:Nat→Loc}{σ:Nat→Nat}{n:Nat}{v:Value}(h:gP ι n v):gP (jR σ) n v:=by
 cases v with
 |func f a c =>
  refine⟨?_,fun x hx=>K9 (h.2 x hx)⟩;have h1:=h.1;cases f with
  |yield l=>exact⟨h1.1,rfl⟩
  |_=>trivial
 |pointer a=>have:=K9 (ι:=ι) (σ:=σ) (n:=n) (v:=.pointer a);cases a <;> exact this h
 |slice a l c=>have:=K9 (ι:=ι) (σ:=σ) (n:=n) (v:=.slice a l c);cases a <;> exact this h
 |map a=>have:=K9 (ι:=ι) (σ:=σ) (n:=n) (v:=.map a);cases a <;> exact this h
 |agg c=>exact h.elim
 |tuple c=>exact h.elim
 |_=>trivial
section
variable {ι ι0:Nat→Loc}{B n:Nat}{w:World}
theorem aHv {v:Value}(hs:gP ι n v)(hι:∀ j,j<n→ι0 (1+j)=ι j):gP ι0 (1+n) (bJ (fun k=>1+k) v) :=
 jM (m:=n) (gZ (ι:=ι) (ι':=fun k=>ι0 (1+k)) (Nat.le_refl _) hι hs) (fun k hk=>by omega)
theorem aHu {v:Value}(hs:gP ι n v)(hι:∀ j,j<n→ι0 (1+j)=ι j):bO ι0 (bJ (fun k=>1+k) v)=bO ι v:=by
 unfold bJ;rw [iS (n:=1+n) (aHv hs hι)];exact mF (ι:=ι) (ι':=fun k=>ι0 (1+k)) hι hs
theorem aHf {v:Value}(hs:gP ι n v):CC (1+n) (bJ (fun k=>1+k) v) :=
 jM (m:=n) (aD7 hs) (fun k hk=>by omega)
theorem aLW {v:Value}(hs:gP ι n v):bJ id (bJ (fun k=>1+k) v)=bJ (fun k=>1+k) v:=by
 unfold bJ;rw [iS (n:=1+n) (aHf hs)];rfl
theorem aEF {wr g:Bool}{sz:Nat}{cs:List Value}{l:Loc}(h:kI ι B w (.cells wr g sz cs) l)(hs:∀ v∈cs,gP ι n v)(hι:∀ j,j<n→ι0 (1+j)=ι j):kI ι0 B w (YU 1 (.cells wr g sz cs)) l:=by
 have hg:∀ {q:Prop},(g=true→dL cs=true)→g=true→dL (cs.map (bJ fun k=>1+k))=true:=fun hq e=>vH fun v hv=>by
  obtain⟨u,hu,rfl⟩:=List.mem_map.1 hv;exact aH9 (aT (hq e) hu)
 have key:∀ {Φ:Nat→Value→Prop},(∀ (i:Nat) v,cs[i]? = some v→Φ i (bO ι v))→∀ (i:Nat) v,(cs.map (bJ fun k=>1+k))[i]? = some v→Φ i (bO ι0 v):=fun hΦ i v hv=>by
  rw [List.getElem?_map] at hv;obtain⟨u,hu,rfl⟩:=Option.map_eq_some_iff.1 hv;rw [aHu (hs u (List.mem_of_getElem? hu)) hι];exact hΦ i u hu
 cases l with
 |nil p =>
  have h1:cs=[]∧(sz=0∨wr=true→p.isSome=true):=(by cases wr <;> exact h);obtain⟨rfl,hz⟩:=h1;cases wr <;> exact⟨rfl,hz⟩
 |lay b o e =>
  cases wr with
  |true =>
   obtain⟨x1,x2,arr,t,x3,x4,x5⟩:=h;exact⟨x1,hg (q:=True) x2,arr,t,x3,by rw [List.length_map];exact x4,key (Φ:=fun i v=>arr[o+i]? = some v) x5⟩
  |false =>
   obtain⟨x1,x2,x3⟩:=h;exact⟨x1,hg (q:=True) x2,key (Φ:=fun i v=>w.cell? ⟨b,o+i,none⟩=some v) x3⟩
theorem aAa {wr g:Bool}{sz:Nat}{cs:List Value}{l:Loc}(h:kI ι0 B w (YU 1 (.cells wr g sz cs)) l)(hs:∀ v∈cs,gP ι n v)(hι:∀ j,j<n→ι0 (1+j)=ι j)(hg0:g=true→dL cs=true):kI ι B w (.cells wr g sz cs) l:=by
 have key:∀ {Φ:Nat→Value→Prop},(∀ (i:Nat) v,(cs.map (bJ fun k=>1+k))[i]? = some v→Φ i (bO ι0 v))→∀ (i:Nat) v,cs[i]? = some v→Φ i (bO ι v):=fun hΦ i v hv=>by
  rw [← aHu (hs v (List.mem_of_getElem? hv)) hι];exact hΦ i _ (by rw [List.getElem?_map,hv];rfl)
 cases l with
 |nil p =>
  have h1:cs.map (bJ fun k=>1+k)=[]∧(sz=0∨wr=true→p.isSome=true):=(by cases wr <;> exact h);have h2:cs=[]:=(by simpa using h1.1);cases wr <;> exact⟨h2,h1.2⟩
 |lay b o e =>
  cases wr with
  |true =>
   obtain⟨x1,x2,arr,t,x3,x4,x5⟩:=h;rw [List.length_map] at x4;exact⟨x1,hg0,arr,t,x3,x4,key (Φ:=fun i v=>arr[o+i]? = some v) x5⟩
  |false =>
   obtain⟨x1,x2,x3⟩:=h;exact⟨x1,hg0,key (Φ:=fun i v=>w.cell? ⟨b,o+i,none⟩=some v) x3⟩
end
theorem aAq (n:Nat)(o:bH):(YU n o).alone=o.alone:=by cases o <;> rfl
section
variable {α:Type}(E:El α)
end
inductive CW where
 |dirs (D:List Dt)
 |cols (l:List Pt) (m:List Ed) (x:Int)
instance:Coe (List Dt) CW:=⟨.dirs⟩
def CW.num:CW→Nat
 |.dirs D=>D.length
 |.cols _ m _=>m.length
def oS:CW→Bool
 |.dirs D=>aBI D
 |.cols l m x=>F7 l m&&l.all aI&&okX x
def cmC:CW→Int→Int→Int
 |.dirs D,a,b=>Z9 D a b
 |.cols l m x,a,b=>hgV (aP l m a.toNat) (aP l m b.toNat) x
def okC (C:CW)(x y:Int):Bool:=decide (0≤x)&&decide (x<C.num)&&(decide (0≤y)&&decide (y<C.num))&&oS C
def fcC:CW→Nat
 |.dirs _=>143
 |.cols _ _ _=>105
def SP:CW→Nat × Nat→List Value
 |.dirs _,p=>[.pointer (some ⟨p.1,0,none⟩)]
 |.cols _ _ _,p=>[.pointer (some ⟨p.1,0,none⟩),.pointer (some ⟨p.2,0,none⟩)]
def kK (C:CW)(p:Nat × Nat):Value:=.func (.func (fcC C)) #[] ⟨SP C p⟩
def XC (h:Heap)(p q:Nat)(l:List Pt)(m:List Ed)(x:Int):Prop:=∃ b k0 k1 wr g sz r0 wr1 g1 sz1 r1 wr2 g2 sz2 cs2 wr3 g3 sz3 cs3 wr4 g4 sz4 r4 c0 c1 F,
 look h p=some (.cells wr g sz (.pointer (some ⟨b,0,none⟩)::r0)) ∧
 look h b=some (.cells wr1 g1 sz1 (.slice (some ⟨k0,0,none⟩) l.length c0::.slice (some ⟨k1,0,none⟩) m.length c1::iv F::r1)) ∧
 (look h k0=some (.cells wr2 g2 sz2 cs2)∧cs2.take (flat dC.fl l).length=flat dC.fl l) ∧
 (look h k1=some (.cells wr3 g3 sz3 cs3)∧cs3.take (flat dP.fl m).length=flat dP.fl m) ∧
 look h q=some (.cells wr4 g4 sz4 (iv x::r4))
def aGB (l:List Pt)(m:List Ed)(x:Int)(c0 c1:Nat)(F:Int):Heap:=[(0,.cells false false 1 [.pointer (some ⟨1,0,none⟩)]),(1,.cells false false 1 [.slice (some ⟨3,0,none⟩) l.length c0,.slice (some ⟨4,0,none⟩) m.length c1,iv F]),(2,.cells false true 1 [iv x]),
 (3,.cells false true dC.sz (flat dC.fl l)),(4,.cells false true dP.sz (flat dP.fl m))]
def aMf (p b q k0 k1:Nat):Nat→Nat
 |0=>p
 |1=>b
 |2=>q
 |3=>k0
 |_=>k1
theorem aDu {h:Heap}{p q nx:Nat}{l:List Pt}{m:List Ed}{x:Int}(hd:XC h p q l m x){r:List Value}(hr:fN r=true):∃ c0 c1 F,In (r++[.pointer (some ⟨0,0,none⟩),.pointer (some ⟨2,0,none⟩)]) (aGB l m x c0 c1 F) 5 (r++[.pointer (some ⟨p,0,none⟩),.pointer (some ⟨q,0,none⟩)]) h nx:=by
 obtain⟨b0,k0,k1,wr,g,sz,r0,wr1,g1,sz1,r1,wr2,g2,sz2,cs2,wr3,g3,sz3,cs3,wr4,g4,sz4,r4,c0,c1,F,h1,h2,⟨h3,h3t⟩,⟨h4,h4t⟩,h5⟩:=hd;refine⟨c0,c1,F,nT (aMf p b0 q k0 k1) ?_ ?_ ?_⟩
 ·rw [List.map_append,show r.map (fL (aMf p b0 q k0 k1))=r from by
   conv=>rhs;rw [← List.map_id r]
   exact List.map_congr_left fun v hv=>iQ (cA hr hv)]
  rfl
 ·intro v hv;rcases List.mem_append.1 hv with hv|hv
  ·exact bU (cA hr hv)
  simp only [List.mem_cons,List.not_mem_nil,or_false] at hv;rcases hv with rfl|rfl <;> exact⟨by decide,rfl⟩
 intro k o hk;unfold aGB at hk;rw [aB] at hk;split at hk
 ·rename_i hb;injection hk with hk;subst hk;rw [← beq_true hb]
  refine⟨by decide,false,1,_,rfl,by decide,(fun h=>by cases h),List.forall_mem_cons.2 ⟨⟨by decide,rfl⟩,fun _ h=>by cases h⟩,wr,g,sz,_,h1,rfl⟩
 rw [aB] at hk;split at hk
 ·rename_i hb;injection hk with hk;subst hk;rw [← beq_true hb]
  refine⟨by decide,false,1,_,rfl,by decide,(fun h=>by cases h),?_,wr1,g1,sz1,_,h2,rfl⟩;refine List.forall_mem_cons.2 ⟨⟨by decide,fun h=>by cases h⟩,List.forall_mem_cons.2 ⟨⟨by decide,fun h=>by cases h⟩,List.forall_mem_cons.2 ⟨bY rfl,fun _ h=>by cases h⟩⟩⟩
 rw [aB] at hk;split at hk
 ·rename_i hb;injection hk with hk;subst hk;rw [← beq_true hb]
  exact⟨by decide,true,1,_,rfl,by decide,fun _=>rfl,List.forall_mem_cons.2 ⟨bY rfl,fun _ h=>by cases h⟩,wr4,g4,sz4,_,h5,rfl⟩
 rw [aB] at hk;split at hk
 ·rename_i hb;injection hk with hk;subst hk;rw [← beq_true hb]
  exact⟨by decide,true,_,_,rfl,dC.pos,fun _=>aC dC l,fun v hv=>bY (aT (aC dC l) hv),wr2,g2,sz2,cs2,h3,by rw [h3t];exact (a8 (aC dC l)).symm⟩
 rw [aB] at hk;split at hk
 ·rename_i hb;injection hk with hk;subst hk;rw [← beq_true hb]
  exact⟨by decide,true,_,_,rfl,dP.pos,fun _=>aC dP m,fun v hv=>bY (aT (aC dP m) hv),wr3,g3,sz3,cs3,h4,by rw [h4t];exact (a8 (aC dP m)).symm⟩
 exact bZ hk
def YJ:Nat × XF:=(105,fun args h nx K=>∃ a b p q l m x,args=[iv a,iv b,.pointer (some ⟨p,0,none⟩),.pointer (some ⟨q,0,none⟩)]∧XC h p q l m x∧dT (okC (.cols l m x) a b) (K (iv (cmC (.cols l m x) a b)) h nx))
theorem aLi:dJ Go.Proofs.Tryz.prog YJ.1 YJ.2:=by
 refine (jD (S:=fun args0 h0 n0 v1 h1 j=>∃ a b l m x c0 c1 F,okC (.cols l m x) a b=true∧args0=[iv a,iv b,.pointer (some ⟨0,0,none⟩),.pointer (some ⟨2,0,none⟩)]∧h0=aGB l m x c0 c1 F∧n0=5∧v1=iv (cmC (.cols l m x) a b)∧h1=[]∧j=0) (aK (xl:=[K7,aHS]) (.cons aFF (.cons aN8 .nil))) ?_).mono ?_ ?_
 ·rintro args0 h0 n0 v1 h1 j ⟨a,b,l,m,x,c0,c1,F,hok,rfl,rfl,rfl,rfl,rfl,rfl⟩;refine⟨rfl,fun u _ _=>u=iv (cmC (.cols l m x) a b),?_,fun v h nx e=>by rw [e];exact lJ rfl⟩;have hok:(decide (0≤a)&&decide (a<(m.length:Int))&&(decide (0≤b)&&decide (b<(m.length:Int)))&&(F7 l m&&l.all aI&&okX x))=true:=hok;simp only [Bool.and_eq_true,decide_eq_true_eq] at hok;obtain⟨⟨⟨h0,h1⟩,h2,h3⟩,⟨hM,hR⟩,hx⟩:=hok;have hS:=X8 hM hR (i:=a.toNat) (by omega);have hT:=X8 hM hR (i:=b.toNat) (by omega);(conv=>whnf);refine⟨l,m,bF dC rfl,bF dP rfl,?_⟩;refine aJ (show (F7 l m&&(decide (0≤a)&&decide (a<m.length)))=true by rw [hM,decide_eq_true h0,decide_eq_true h1];rfl) ?_;(conv=>whnf);refine⟨l,m,bF dC rfl,bF dP rfl,?_⟩;refine aJ (show (F7 l m&&(decide (0≤b)&&decide (b<m.length)))=true by rw [hM,decide_eq_true h2,decide_eq_true h3];rfl) ?_;(conv=>whnf);refine aJ (show (rgS (aP l m a.toNat)&&rgS (aP l m b.toNat)&&okX x)=true by unfold rgS;rw [hS.1,hS.2,hT.1,hT.2,hx];rfl) ?_;(conv=>whnf);rfl
 ·rintro args h nx K ⟨a,b,p,q,l,m,x,rfl,hd,hx⟩;obtain⟨hb,hx⟩:=aD.1 hx;obtain⟨c0,c1,F,i⟩:=aDu (nx:=nx) hd (r:=[iv a,iv b]) rfl;exact⟨_,_,5,_,[],0,⟨a,b,l,m,x,c0,c1,F,hb,rfl,rfl,rfl,rfl,rfl,rfl⟩,i,hx⟩
 rintro args h nx K ⟨a,b,p,q,l,m,x,rfl,hd,hx⟩;obtain⟨hb,hx⟩:=aD.1 hx;exact⟨_,_,_,hx,fun K' hk'=>⟨a,b,p,q,l,m,x,rfl,hd,aJ hb hk'⟩⟩
def LU (h:Heap)(p:Nat × Nat):CW→Prop
 |.dirs D=>aDy h p.1 D
 |.cols l m x=>XC h p.1 p.2 l m x
def CQ (xl:List (Nat × XF)):VC:=fun f args h nx K=>(∃ (C:CW) (x y:Int) (p:Nat × Nat),f=fcC C∧args=iv x::iv y::SP C p∧LU h p C∧dT (okC C x y) (K (iv (cmC C x y)) h nx))∨CX (look xl) f args h nx K
theorem xC (C:CW)(x y:Int)(p:Nat × Nat)(h:Heap)(nx:Nat)(K:KE)(hC:LU h p C)(hk:dT (okC C x y) (K (iv (cmC C x y)) h nx)):CX (look [aBJ,YJ]) (fcC C) (iv x::iv y::SP C p) h nx K:=by
 cases C with
 |dirs D =>
  refine⟨x,y,p.1,D,rfl,hC,?_⟩;have e:okC (.dirs D) x y=VN D x y:=rfl;rw [← e];exact hk
 |cols l m z=>exact⟨x,y,p.1,p.2,l,m,z,rfl,hC,hk⟩
theorem aLr {xl:List (Nat × XF)}(h:kG xl):bC Go.Proofs.Tryz.prog (CQ xl):=by
 intro f args hp nx K hx ι B w H hs;rcases hx with ⟨C,x,y,p,rfl,rfl,hC,hk⟩|hx
 ·exact OI (kG.cons (l:=[YJ]) aKN (.cons aLi .nil)).look _ _ _ _ _ (xC C x y p hp nx K hC hk) ι B w H hs
 exact OI h.look f args hp nx K hx ι B w H hs
theorem aI4 {xl:List (Nat × XF)}(h:kG xl):dS (CQ xl):=by
 intro f args hp nx K hx;rcases hx with ⟨C,x,y,p,rfl,rfl,hC,hk⟩|hx
 ·obtain⟨hb,hk⟩:=aD.1 hk;exact⟨_,_,_,hk,fun K' hk'=>.inl ⟨C,x,y,p,rfl,rfl,hC,aJ hb hk'⟩⟩
 obtain⟨v,h',nx',k1,k2⟩:=A3 h.look f args hp nx K hx;exact⟨v,h',nx',k1,fun K' hk'=>.inr (k2 K' hk')⟩
def aLZ (xl:List (Nat × XF)):VC:=rS aA none (CQ xl) noY
theorem CH {xl:List (Nat × XF)}(h:kG xl):bC Go.Proofs.Tryz.prog (aLZ xl):=tL dV (aLr h) MA (aI4 h) uR none
end Go.Aw
end
