/-
  Parts of a proof. No condition.
-/
import Derived.Test.YtjahkcbdecgbhaaGreatQAo
import Derived.Test.YtjahkcbdecgbhaaGreatQAp
set_option linter.unusedSimpArgs false
set_option linter.unusedVariables false
noncomputable section
namespace Go.Aw
open Go.RowKit
theorem aAF {a0 b0 a b:Value}{n:Int}{r:List Value}(hr:fC r=true){h0 h:Heap}{n0 nx:Nat}(i:In [a0,b0] h0 n0 [a,b] h nx)(ha:∃ x y z,a0=.slice x y z)(hb:∃ x y z,b0=.slice x y z) :
  In (.agg #[a0,b0,.int .i64 n]::r) h0 n0 (.agg #[a,b,.int .i64 n]::r) h nx:=by
 intro ι B w H hs;have hag:j6 ι nx (.agg #[a,b,.int .i64 n]):=hs _ (.head _);have sa:gG ι nx a:=hag a (by simp);have sb:gG ι nx b:=hag b (by simp);obtain⟨ι0,e1,e2,e3⟩:=i ι B w H (fun v hv=>by
  simp only [List.mem_cons,List.not_mem_nil,or_false] at hv;rcases hv with rfl|rfl
  ·exact lC (gR sa)
  ·exact lC (gR sb))
 simp only [List.map_cons,List.map_nil,List.cons.injEq,and_true] at e1;obtain⟨x,y,z,rfl⟩:=ha;obtain⟨x',y',z',rfl⟩:=hb;have t1:tr ι a=bS ι a:=(by rw [tL (gR sa),yG sa]);have t2:tr ι b=bS ι b:=(by rw [tL (gR sb),yG sb]);refine⟨ι0,?_,?_,e3⟩
 ·rw [List.map_cons,List.map_cons];congr 1
  ·show Value.agg (Array.map (bS ι) #[a,b,.int .i64 n])=Value.agg (Array.map (bS ι0) #[_,_,.int .i64 n]);simp only [List.map_toArray,List.map_cons,List.map_nil];rw [← t1,← t2,e1.1,e1.2];rfl
  ·exact List.map_congr_left fun v hv=>by rw [fZ (cC hr hv),fZ (cC hr hv)]
 ·intro v hv;cases hv with
  |head =>
   intro u hu;simp only [List.mem_cons,List.not_mem_nil,or_false] at hu;rcases hu with rfl|rfl|rfl
   ·exact e2 _ (.head _)
   ·exact e2 _ (.tail _ (.head _))
   ·exact cA rfl
  |tail _ hm=>exact cY (cC hr hm)
section
variable {α β:Type}(E:El α)(G:El β)
def aD (n m:Nat)(c1 c2:Nat)(k:Int):Value:=.agg #[.slice (some ⟨0,0,none⟩) n c1,.slice (some ⟨1,0,none⟩) m c2,.int .i64 k]
def aH (l:List α)(m:List β):Heap:=[(0,.cells false true E.sz (flat E.fl l)),(1,.cells false true G.sz (flat G.fl m))]
def mX (s:List α→List β→Int→List Value→Option (Bool × Value)):XF:=fun args h nx K=>match args with
 |.agg ⟨[p,q,.int .i64 n]⟩::r=>∃ l m,jQ E h p l∧jQ G h q m∧(match s l m n r with|some pr=>dP pr.1 (K pr.2 h nx)|none=>False)
 |_=>False
theorem QX {p q:Value}{n:Int}{r:List Value}(hr:fC r=true){h:Heap}{nx:Nat}{l:List α}{m:List β}(hl:jQ E h p l)(hm:jQ G h q m) :
  ∃ c1 c2,In (aD l.length m.length c1 c2 n::r) (aH E G l m) 2 (.agg #[p,q,.int .i64 n]::r) h nx:=by
 obtain⟨c1,i1⟩:=aAm (nx:=nx) E hl;obtain⟨c2,i2⟩:=aAm (nx:=nx) G hm;exact⟨c1,c2,aAF hr (aAv rfl rfl i1 i2 ⟨_,_,rfl,aE E l⟩ ⟨_,_,rfl,aE G m⟩) ⟨_,_,_,rfl⟩ ⟨_,_,_,rfl⟩⟩
theorem PJ {P:Program}{C:VC}{f:Nat}{s:List α→List β→Int→List Value→Option (Bool × Value)}(hC:bL P C)
  (hs:∀ l m n r v,s l m n r=some (true,v)→fC r=true∧gT v=true∧∀ c1 c2,C f (aD l.length m.length c1 c2 n::r) (aH E G l m) 2 (fun u _ _=>u=v)):dM P f (mX E G s):=by
 refine (jX (S:=fun args0 h0 n0 v1 h1 k=>∃ l m n r c1 c2,s l m n r=some (true,v1)∧args0=aD l.length m.length c1 c2 n::r∧h0=aH E G l m∧n0=2∧h1=[]∧k=0) hC ?_).mono ?_ ?_
 ·rintro args0 h0 n0 v1 h1 k ⟨l,m,n,r,c1,c2,e1,rfl,rfl,rfl,rfl,rfl⟩;obtain⟨a1,a2,a3⟩:=hs l m n r v1 e1;exact⟨rfl,_,a3 c1 c2,fun v h nx e=>by rw [e];exact mI a2⟩
 ·intro args h nx K hx;unfold mX at hx;split at hx
  case h_2=>exact hx.elim
  rename_i p q n r;obtain⟨l,m,hl,hm,hx⟩:=hx;split at hx
  case h_2=>exact hx.elim
  rename_i pr e1;obtain⟨bb,u⟩:=pr;obtain⟨rfl,hx⟩:=aG.1 hx;obtain⟨a1,a2,a3⟩:=hs l m n r u e1;obtain⟨c1,c2,i⟩:=QX (n:=n) (nx:=nx) E G a1 hl hm;refine⟨_,_,2,u,[],0,⟨l,m,n,r,c1,c2,e1,rfl,rfl,rfl,rfl,rfl⟩,i,?_⟩;simp only [qW,w8,lT,nQ,r5 a2,Nat.add_zero];exact hx
 ·intro args h nx K hx;unfold mX at hx;split at hx
  case h_2=>exact hx.elim
  rename_i p q n r;obtain⟨l,m,hl,hm,hx⟩:=hx;split at hx
  case h_2=>exact hx.elim
  rename_i pr e1;obtain⟨hb,hx⟩:=aG.1 hx;exact⟨pr.2,h,nx,hx,fun K' hk=>⟨l,m,hl,hm,by rw [e1];exact aJ hb hk⟩⟩
end
theorem aAE {n sz:Nat}{wr g:Bool}{cs:List Value}(h:∀ v∈cs,bR id v=v∧AB n v):bO id n (.cells wr g sz cs) (.cells wr g sz cs) :=
 ⟨rfl,rfl,rfl,(by conv=>lhs;rw [← List.map_id cs]
                  exact List.map_congr_left fun v hv=>(h v hv).1.symm),fun v hv=>(h v hv).2⟩
theorem aGU {a0:List Value}{h0:Heap}{n0:Nat}{a:List Value}{h:Heap}{nx:Nat}(i:In a0 h0 n0 a h nx){b:Value}{n2 c2 sz:Nat}{cs:List Value}(hg:c9 cs=true)
  (i2:In [.slice (some ⟨0,0,none⟩) n2 c2] [(0,.cells false true sz cs)] 1 [b] h nx) (hlow:∀ k o,look h0 k=some o→o.alone=false) :
  In (a0++[.slice (some ⟨n0,0,none⟩) n2 c2]) (app h0 [(n0,.cells false true sz cs)]) (n0+1) (a++[b]) h nx:=by
 intro ι B w H hs;obtain⟨ι1,e1,k1,R1⟩:=i ι B w H (fun v hv=>hs v (List.mem_append_left _ hv));obtain⟨ι2,e2,k2,R2⟩:=i2 ι B w H (fun v hv=>hs v (List.mem_append_right _ hv));simp only [List.map_cons,List.map_nil,List.cons.injEq,and_true] at e2;have q2:=R2.obj 0 _ rfl;have kk2:=k2 _ (.head _);let ι0:Nat→Loc:=fun k=>if k<n0 then ι1 k else ι2 0
 have hlt:∀ k,k<n0→ι0 k=ι1 k:=fun k hk=>if_pos hk;have hat:ι0 n0=ι2 0:=if_neg (Nat.lt_irrefl _);have hcase:∀ k o,look (app h0 [(n0,.cells false true sz cs)]) k=some o→(look h0 k=some o∧k<n0)∨(k=n0∧o=.cells false true sz cs):=by
  intro k o hk;rw [fY] at hk;split at hk
  ·rename_i o' ho;injection hk with hk;subst hk;exact .inl ⟨ho,R1.low k _ ho⟩
  ·rw [aC] at hk;split at hk
   ·rename_i hb;injection hk with hk;exact .inr ⟨(beq_true hb).symm,hk.symm⟩
   ·exact bY hk
 refine⟨ι0,?_,?_,⟨?_,?_,?_,Nat.le_refl _,?_⟩⟩
 ·rw [List.map_append,List.map_append,e1];congr 1
  ·refine List.map_congr_left fun v hv=>?_;exact (EW (ι:=ι1) (ι':=ι0) (n:=n0) hlt (k1 v hv)).symm
  ·simp only [List.map_cons,List.map_nil,e2];simp only [tr,dS,bS,dT,hat]
 ·intro v hv;rcases List.mem_append.1 hv with hv|hv
  ·exact oQ (Nat.le_succ _) hlt (k1 v hv)
  ·simp only [List.mem_cons,List.not_mem_nil,or_false] at hv;subst hv;exact⟨Nat.lt_succ_self _,fun h=>kk2.2 (by rw [← h];show _=(ι0 n0).fI;rw [hat])⟩
 ·intro k o hk;rcases hcase k o hk with ⟨h1,h2⟩|⟨rfl,rfl⟩
  ·rw [hlt k h2];exact (R1.obj k o h1).names (R1.sc k o h1) hlt
  ·rw [hat];cases hl:ι2 0 with
   |nil p=>rw [hl] at q2;exact q2
   |lay b o e =>
    rw [hl] at q2;obtain⟨x1,x2,x3⟩:=q2;refine⟨x1,x2,fun i v hv=>?_⟩;rw [x3 i v hv,jM (aU hg (List.mem_of_getElem? hv)),jM (aU hg (List.mem_of_getElem? hv))]
 ·intro k k' o o' hk hk' hne hal b hb;rcases hcase k o hk with ⟨h1,h2⟩|⟨rfl,rfl⟩
  ·rw [hlow k o h1] at hal;cases hal
  ·cases hal
 ·intro k o hk;rcases hcase k o hk with ⟨h1,h2⟩|⟨rfl,rfl⟩ <;> omega
 ·intro k o hk;rcases hcase k o hk with ⟨h1,h2⟩|⟨rfl,rfl⟩
  ·exact (R1.sc k o h1).mono (Nat.le_succ _) hlt
  ·exact fun v hv=>cA (aU hg hv)
section
variable {α β γ δ:Type}(E:El α)(G:El β)(J:El γ)(D:El δ)
def mapA (p q:Value)(n:Int):Value:=.agg #[p,q,.int .i64 n]
def j9 (l:List α)(m:List β)(k:List γ):Heap:=[(0,.cells false true E.sz (flat E.fl l)),(1,.cells false true G.sz (flat G.fl m)),(2,.cells false true J.sz (flat J.fl k))]
theorem aCo {p q o:Value}{n:Int}{r:List Value}(hr:fC r=true){h:Heap}{nx:Nat}{l:List α}{m:List β}{k:List γ}(hl:jQ E h p l)(hm:jQ G h q m)(hk:jQ J h o k) :
  ∃ c1 c2 c3,In (aD l.length m.length c1 c2 n::(r++[.slice (some ⟨2,0,none⟩) k.length c3])) (j9 E G J l m k) 3 (mapA p q n::(r++[o])) h nx:=by
 obtain⟨c1,c2,i⟩:=QX (n:=n) (nx:=nx) E G hr hl hm;obtain⟨c3,i3⟩:=aAm (nx:=nx) J hk;refine⟨c1,c2,c3,aGU i (aE J k) i3 fun j ob hj=>?_⟩;unfold aH at hj;rw [aC] at hj;split at hj
 ·injection hj with hj;subst hj;rfl
 ·rw [aC] at hj;split at hj
  ·injection hj with hj;subst hj;rfl
  ·exact bY hj
def wrW:List Value→Value→Value
 |[],v=>v
 |a::r,v=>.agg (v::a::r).toArray
theorem VQ {ρ:Nat→Nat}{rest:List Value}(hr:c9 rest=true){k n c:Nat}:iB ρ (wrW rest (.slice (some ⟨k,0,none⟩) n c))=wrW rest (.slice (some ⟨ρ k,0,none⟩) n c):=by
 cases rest with
 |nil=>simp [wrW,iB,tr,dS,bS,dT,lB]
 |cons a r =>
  show Value.agg (Array.map (bS (lB ρ)) (_::a::r).toArray)=Value.agg (_::a::r).toArray;rw [List.map_toArray,List.map_cons];congr 2;rw [List.cons.injEq];refine⟨by simp [bS,dT,lB],?_⟩
  conv=>rhs;rw [← List.map_id (a::r)]
  exact List.map_congr_left fun v hv=>jM (aU hr hv)
theorem aGE {rest:List Value}(hr:c9 rest=true){n c:Nat}:A0 1 (wrW rest (.slice (some ⟨0,0,none⟩) n c)):=by
 cases rest with
 |nil=>exact⟨Nat.one_pos,fun h=>by cases h⟩
 |cons a r =>
  intro v hv;rcases List.mem_cons.1 hv with rfl|hv
  ·exact⟨Nat.one_pos,fun h=>by cases h⟩
  ·exact cA (aU hr hv)
def ylH (out:List δ):Heap:=[(0,.cells true false D.sz (flat D.fl out))]
def ylV (out:List δ)(rest:List Value)(k:Nat):Value:=wrW rest (.slice (some ⟨k,0,none⟩) out.length out.length)
def YW (out:List δ)(rest:List Value):KE:=fun v h _=>∃ q,v=ylV out rest q∧look h q=some (.cells true false D.sz (flat D.fl out))
theorem aHb {out:List δ}{rest:List Value}(hr:c9 rest=true){v:Value}{h:Heap}{nx:Nat}(hy:YW D out rest v h nx):L6 (ylV out rest 0) (ylH D out) 1 v h nx:=by
 obtain⟨q,rfl,hq⟩:=hy;refine⟨fun _=>q,fun t v hv=>?_,fun k o hk=>?_,fun k k' o o' hk hk' _=>?_,fun k hk=>absurd hk (Nat.not_lt_zero _),Nat.zero_le _⟩
 ·rw [aC] at hv;split at hv
  ·rename_i hb;injection hv with hv;subst hv;refine⟨?_,aGE hr⟩;rw [aC,hb];show _=some (iB (fun _=>q) (wrW rest (.slice (some ⟨0,0,none⟩) out.length out.length)));rw [VQ hr];rfl
  ·exact bY hv
 ·unfold ylH at hk;rw [aC] at hk;split at hk
  ·rename_i hb;injection hk with hk;subst hk;rw [← beq_true hb];exact⟨Nat.one_pos,_,hq,rfl,rfl,rfl,(bW (aE D out)).symm,fun v hv=>cA (aU (aE D out) hv)⟩
  ·exact bY hk
 ·unfold ylH at hk hk';rw [aC] at hk hk';split at hk
  ·rename_i h1;split at hk'
   ·rename_i h2;exact (beq_true h1).symm.trans (beq_true h2)
   ·exact bY hk'
  ·exact bY hk
theorem aII {out:List δ}{rest:List Value}(hr:c9 rest=true){h:Heap}{nx:Nat}{K:KE}(hk:K (ylV out rest nx) (cV h nx (.cells true false D.sz (flat D.fl out))) (nx+1)) :
  K (iB (fun k=>nx+k) (ylV out rest 0)) (app (lT nx (ylH D out)) (qW (ylH D out) h)) (nx+1):=by
 have hm:(flat D.fl out).map (bR (fun k=>nx+k))=flat D.fl out:=bW (aE D _);have e1:iB (fun k=>nx+k) (ylV out rest 0)=ylV out rest nx:=VQ hr;have e2:app (lT nx (ylH D out)) (qW (ylH D out) h)=cV h nx (.cells true false D.sz (flat D.fl out)):=by
  show (nx+0,aT.cells true false D.sz ((flat D.fl out).map (bR (fun k=>nx+k))))::h=_;rw [hm];rfl
 rw [e1,e2];exact hk
abbrev YS (δ:Type):=Option (Bool × List δ × List Value)
end
end Go.Aw
end

noncomputable section
namespace Go.Aw
section
variable {ρ:Nat→Nat}{n0 k:Nat}{h:Heap}{o o':aT}{r:List (Nat × aT)}{wr g:Bool}{sz:Nat}{cs:List Value}
theorem iN {α:Type}{P:α→Prop}:∀ p∈([]:List α),P p:=fun _ h=>by cases h
theorem iE {e:List (Nat × Value)}{v:Value}{s:List (Nat × Value)}(h1:look e k=some (iB ρ v))(h2:aAg n0 v=true)(h3:∀ p∈s,look e p.1=some (iB ρ p.2)∧A0 n0 p.2):∀ p∈(k,v)::s,look e p.1=some (iB ρ p.2)∧A0 n0 p.2 :=
 List.forall_mem_cons.2 ⟨⟨h1,jC h2⟩,h3⟩
theorem iW (h1:Nat.ble (k+1) n0=true)(h2:look h (ρ k)=some o')(h4:bO ρ n0 o o')(h3:∀ p∈r,p.1<n0∧∃ o',look h (ρ p.1)=some o'∧bO ρ n0 p.2 o'):∀ p∈(k,o)::r,p.1<n0∧∃ o',look h (ρ p.1)=some o'∧bO ρ n0 p.2 o' :=
 List.forall_mem_cons.2 ⟨⟨Nat.le_of_ble_eq_true h1,_,h2,h4⟩,h3⟩
theorem iG (h1:Nat.ble (k+1) n0=true)(h2:look h (ρ k)=some (.cells wr g sz cs))(h4:c9 cs=true)(h3:∀ p∈r,p.1<n0∧∃ o',look h (ρ p.1)=some o'∧bO ρ n0 p.2 o'):∀ p∈(k,.cells wr g sz cs)::r,p.1<n0∧∃ o',look h (ρ p.1)=some o'∧bO ρ n0 p.2 o' :=
 iW h1 h2 (aK h4) h3
theorem iF {α:Type}{E:El α}{l:List α}(h1:Nat.ble (k+1) n0=true)(h2:look h (ρ k)=some (.cells wr g sz (flat E.fl l)))(h3:∀ p∈r,p.1<n0∧∃ o',look h (ρ p.1)=some o'∧bO ρ n0 p.2 o'):∀ p∈(k,.cells wr g sz (flat E.fl l))::r,p.1<n0∧∃ o',look h (ρ p.1)=some o'∧bO ρ n0 p.2 o' :=
 iG h1 h2 (aE E l) h3
theorem iC (h1:Nat.ble (k+1) n0=true)(h2:look h (ρ k)=some (.cells wr g sz (cs.map (bR ρ))))(h4:RO n0 cs=true)(h3:∀ p∈r,p.1<n0∧∃ o',look h (ρ p.1)=some o'∧bO ρ n0 p.2 o'):∀ p∈(k,.cells wr g sz cs)::r,p.1<n0∧∃ o',look h (ρ p.1)=some o'∧bO ρ n0 p.2 o' :=
 iW h1 h2 ⟨rfl,rfl,rfl,rfl,kV h4⟩ h3
theorem iJ {cs':List Value}(h1:Nat.ble (k+1) n0=true)(h2:look h (ρ k)=some (.cells wr g sz cs'))(h4:c9 cs=true)(h5:cs'=cs)(h3:∀ p∈r,p.1<n0∧∃ o',look h (ρ p.1)=some o'∧bO ρ n0 p.2 o'):∀ p∈(k,.cells wr g sz cs)::r,p.1<n0∧∃ o',look h (ρ p.1)=some o'∧bO ρ n0 p.2 o' :=
 iW h1 h2 (bG h4 h5) h3
theorem iK {k0 q:Nat}(h1:(Nat.beq k k0 || !Nat.beq k q)=true)(h3:∀ p∈r,p.1≠k0→p.1≠q):∀ p∈(k,o)::r,p.1≠k0→p.1≠q :=
 List.forall_mem_cons.2 ⟨fun hk e=>by
  simp only [Bool.or_eq_true,Bool.not_eq_true'] at h1;rcases h1 with h1|h1
  ·exact hk (beq_true h1)
  ·exact beq_false h1 e,h3⟩
end
end Go.Aw
end

noncomputable section
namespace Go.Aw
set_option maxRecDepth 100000
def aA2 (s:Sg):List Value:=[iv s.1.1,iv s.1.2,iv s.2.1,iv s.2.2]
def hE (s t:Sg)(ps:List (Int × Int)):Heap:=[(0,.cells true false 1 (aA2 s)),(1,.cells true false 1 (aA2 t)),(2,.cells true false 2 (flat aZ.fl ps))]
def jJ (s t:Sg):Int:=if eI s=true∧eI t=true then qL s t else 0
def X22:Nat × XF:=(198,gX (s2 cS cS fun s t=>(true,u8 (jJ s t))))
theorem x22:dM Go.Proofs.Tryz.prog X22.1 X22.2:=x2 cS cS (xl:=[X64,X68]) (.cons x64 (.cons x68 .nil)) (fun _ _=>rfl) fun s t _=>by
 obtain⟨⟨ax,ay⟩,⟨bx,b2⟩⟩:=s;obtain⟨⟨cx,cy⟩,⟨dx,dy⟩⟩:=t;unfold fB
 repeat' ((conv=>whnf);refine bm (fun g=>?_) (fun g=>?_))
 all_goals (conv=>whnf)
 all_goals (simp only [LJ,nJ,XJ,Bool.not_eq_true',Bool.not_eq_false',beq_iff_eq,beq_eq_false_iff_ne,ne_eq,Bool.not_eq_false,Bool.not_eq_true] at *)
 all_goals first
  |(show u8 _=u8 _;simp [jJ, *];done)
  |(simp_all [BD];done)
  |trace_state
def aG0:Nat × XF:=(170,gX (s2 cP cP fun a b=>(true,iv (j3 a b))))
theorem aIz:dM Go.Proofs.Tryz.prog aG0.1 aG0.2:=x2 cP cP (xl:=[QA,aBV]) (.cons W3 (.cons aHf .nil)) (fun _ _=>rfl) fun a b _=>by
 obtain⟨ax,ay⟩:=a;obtain⟨bx,b_y⟩:=b;unfold fB
 conv=>whnf
 refine⟨[gY ax bx,gY ay b_y],⟨rfl,_,_,_,_,rfl,rfl⟩,?_⟩
 conv=>whnf
 rfl
section
variable {α β γ δ:Type}(a:Cd α)(b:Cd β)(c:Cd γ)(d:Cd δ)
def s4 (F:α→β→γ→δ→Bool × Value):List Value→Option (Bool × Value)
 |[u,v,w,t]=>(match a.dec u with|some x=>(match b.dec v with|some y=>(match c.dec w with|some z=>(match d.dec t with|some s=>some (F x y z s)|none=>none)|none=>none)|none=>none)|none=>none)
 |_=>none
theorem aH0 {F:α→β→γ→δ→Bool × Value}{args:List Value}{r:Bool × Value}(h:s4 a b c d F args=some r):∃ x y z s,args=[a.enc x,b.enc y,c.enc z,d.enc s]∧F x y z s=r:=by
 unfold s4 at h;split at h
 ·split at h
  ·rename_i x e;split at h
   ·rename_i y e2;split at h
    ·rename_i z e3;split at h
     ·rename_i s e4;injection h with h;exact⟨x,y,z,s,by rw [a.ok _ _ e,b.ok _ _ e2,c.ok _ _ e3,d.ok _ _ e4],h⟩
     ·cases h
    ·cases h
   ·cases h
  ·cases h
 ·cases h
theorem x4' {xl:List (Nat × XF)}(hx:m7 xl){f:Nat}{F:α→β→γ→δ→Bool × Value}(hg:∀ x y z s,gT (F x y z s).2=true)(h:∀ x y z s,(F x y z s).1=true→fB xl f [a.enc x,b.enc y,c.enc z,d.enc s] (F x y z s).2):dM Go.Proofs.Tryz.prog f (gX (s4 a b c d F)) :=
 sC (aO hx) fun args v hs=>by
  obtain⟨x,y,z,s,rfl,e⟩:=aH0 a b c d hs;have h1:(F x y z s).1=true:=(by rw [e]);have h2:(F x y z s).2=v:=(by rw [e]);subst h2;exact⟨by simp [fC,a.gr,b.gr,c.gr,d.gr],hg x y z s,h x y z s h1⟩
end
theorem aFh {b:Bool}(h:aA.A.eqB b false=true):b=false:=by cases b <;> first|rfl|cases h
theorem aEH {b:Bool}(h:aA.A.eqB b false=false):b=true:=by cases b <;> first|rfl|cases h
def mxI (a b:Int):Int:=if b > a then b else a
def mnI (a b:Int):Int:=if b<a then b else a
def apI (a b c d:Int):Bool:=decide (mxI a b<mnI c d) || decide (mxI c d<mnI a b)
def aGS:Nat × XF:=(228,gX (s4 cI cI cI cI fun a b c d=>(true,.bool (apI a b c d))))
theorem aKa:dM Go.Proofs.Tryz.prog aGS.1 aGS.2:=x4' cI cI cI cI (xl:=[]) .nil (fun _ _ _ _=>rfl) fun a b c d _=>by
 unfold fB
 repeat' (conv=>whnf
          refine bm (fun h=>?_) (fun h=>?_))
 all_goals (conv=>whnf)
 all_goals (show _=Value.bool (apI a b c d))
 ·have h1:decide (mxI a b<mnI c d)=false:=aFh h;unfold apI;rw [h1];rfl
 ·have h1:decide (mxI a b<mnI c d)=true:=aEH h;unfold apI;rw [h1];rfl
def AS (s t:Sg):Bool:=apI s.1.1 s.2.1 t.1.1 t.2.1 || apI s.1.2 s.2.2 t.1.2 t.2.2
def aFH:Nat × XF:=(197,gX (s2 cS cS fun s t=>(true,.bool (AS s t))))
theorem aKD:dM Go.Proofs.Tryz.prog aFH.1 aFH.2:=x2 cS cS (xl:=[aGS]) (.cons aKa .nil) (fun _ _=>rfl) fun s t _=>by
 obtain⟨⟨ax,ay⟩,⟨bx,b2⟩⟩:=s;obtain⟨⟨cx,cy⟩,⟨dx,dy⟩⟩:=t;unfold fB
 repeat' (conv=>whnf
          refine bm (fun h=>?_) (fun h=>?_))
 all_goals (conv=>whnf)
 ·have h1:apI ax bx cx dx=false:=aFh h;show _=Value.bool (AS _ _);unfold AS;rw [h1];rfl
 ·have h1:apI ax bx cx dx=true:=aEH h;show _=Value.bool (AS _ _);unfold AS;rw [h1];rfl
def EL (s t:Sg):Int:=if AS s t=true then 0 else jJ s t
def TK:Nat × XF:=(119,gX (s2 cS cS fun s t=>(true,u8 (EL s t))))
theorem aF8:dM Go.Proofs.Tryz.prog TK.1 TK.2:=x2 cS cS (xl:=[aFH,X22]) (.cons aKD (.cons x22 .nil)) (fun _ _=>rfl) fun s t _=>by
 obtain⟨⟨ax,ay⟩,⟨bx,b2⟩⟩:=s;obtain⟨⟨cx,cy⟩,⟨dx,dy⟩⟩:=t;unfold fB
 repeat' (conv=>whnf
          refine bm (fun h=>?_) (fun h=>?_))
 all_goals (conv=>whnf)
 ·have h1:AS ((ax,ay),(bx,b2)) ((cx,cy),(dx,dy))=true:=h;show _=u8 _;simp only [EL,h1,if_true];rfl
 ·have h1:AS ((ax,ay),(bx,b2)) ((cx,cy),(dx,dy))=false:=h;show _=u8 _;simp only [EL,h1];rfl
def iP (a b:Int × Int):Bool:=decide (a.1<b.1) || (decide (a.1=b.1)&&decide (a.2<b.2))
def aKc (a b c:Int × Int):Int:=(b.1 - a.1)*(c.1 - a.1)+(b.2 - a.2)*(c.2 - a.2)
def NP (v u w:Int × Int):Int:=if bE v u w<0 then 0 else if 0<bE v u w then 2 else if aKc v u w<0 then 1 else 3
def A2 (v u w x:Int × Int):Bool:=if NP v u w=NP v u x then decide (bE v w x<0) else decide (NP v u w<NP v u x)
abbrev Pt:=Int × Int
structure Ed where
 a:Int
 b:Int
 l:Int
 r:Int
 n:Int
def aY:El Ed:=⟨fun e=>[iv e.a,iv e.b,iv e.l,iv e.r,iv e.n],5,fun _=>rfl,fun _=>rfl,by decide⟩
def cX (m:List Ed)(i:Nat):Ed:=m.getD i ⟨0,0,0,0,0⟩
theorem KP {m:List Ed}{i:Nat}(h:i<m.length):cX m i=m[i]:=by
 unfold cX;rw [List.getD_eq_getElem?_getD,List.getElem?_eq_getElem h];rfl
theorem YH (m:List Ed){i o:Nat}(hi:i<m.length)(ho:o=i*5):m5 (flat aY.fl m) o 5=some [iv (cX m i).a,iv (cX m i).b,iv (cX m i).l,iv (cX m i).r,iv (cX m i).n]:=by
 rw [KP hi];exact GH aY m hi ho
theorem aDI (m:List Ed)(k:Nat){i o:Nat}{v:Value}(hi:i<m.length)(hk:(aY.fl (cX m i))[k]? = some v)(hk5:k<5)(ho:o=i*5+k):nth (flat aY.fl m) o=some v:=by
 rw [KP hi] at hk;exact mN aY m hi hk hk5 ho
theorem uY (l:List Pt){i o:Nat}(hi:i<l.length)(ho:o=i*2):m5 (flat aZ.fl l) o 2=some [iv (tQ l i).1,iv (tQ l i).2]:=by
 rw [J0 hi];exact GH aZ l hi ho
theorem aM {α:Type}(E:El α){l:List α}{k c:Nat}{wr g:Bool}{sz:Nat}{h:Heap}(hk:look h k=some (.cells wr g sz (flat E.fl l))):jQ E h (.slice (some ⟨k,0,none⟩) l.length c) l :=
 ⟨rfl,wr,g,sz,_,hk,by rw [List.drop_zero,List.take_length]⟩
def kZ (m:List Ed)(d:Int):Int:=if d % 2=0 then (cX m (d / 2).toNat).a else (cX m (d / 2).toNat).b
def wQ (m:List Ed)(d:Int):Int:=kZ m (d+1 - 2*(d % 2))
abbrev MS:=List Pt→List Ed→Int→List Value→Option (Bool × Value)
def inD (m:List Ed)(d:Int):Bool:=decide (0≤d)&&decide (d<2*m.length)&&decide (m.length≤1000000)
def sMD (F:List Pt→List Ed→Int→Int→Bool × Value):MS:=fun l m n r=>match r with
 |[.int .i64 d]=>some (F l m n d)
 |_=>none
theorem aEh {F:List Pt→List Ed→Int→Int→Bool × Value}{l:List Pt}{m:List Ed}{n:Int}{r:List Value}{v:Value}(h:sMD F l m n r=some (true,v)):∃ d,r=[iv d]∧(F l m n d).1=true∧(F l m n d).2=v:=by
 unfold sMD at h;split at h
 ·rename_i d;injection h with h;exact⟨d,rfl,by rw [h],by rw [h]⟩
 ·cases h
def oO:El Bool:=⟨fun b=>[.bool b],1,fun _=>rfl,fun _=>rfl,by decide⟩
def dF (k:List Bool)(i:Nat):Bool:=k.getD i false
theorem vZ {k:List Bool}{i:Nat}(h:i<k.length):dF k i=k[i]:=by
 unfold dF;rw [List.getD_eq_getElem?_getD,List.getElem?_eq_getElem h];rfl
theorem aGO (k:List Bool){i o:Nat}(hi:i<k.length)(ho:o=i*1):nth (flat oO.fl k) o=some (.bool (dF k i)):=by
 rw [vZ hi];exact mN oO k hi (k:=0) rfl Nat.one_pos (by rw [ho];rfl)
def kA (l:List Pt)(i:Int):Pt:=tQ l i.toNat
def YT (l:List Pt)(m:List Ed):Bool:=l.all wide&&m.all (fun e=>decide (0≤e.a)&&decide (e.a<l.length)&&decide (0≤e.b)&&decide (e.b<l.length))&&decide (m.length≤1000)&&decide (l.length≤1000)
theorem zH {l:List Pt}{m:List Ed}(h:YT l m=true){i:Nat}(hi:i<m.length):0≤(cX m i).a∧(cX m i).a<l.length∧0≤(cX m i).b∧(cX m i).b<l.length:=by
 simp only [YT,Bool.and_eq_true] at h;have:=List.all_eq_true.1 h.1.1.2 _ (List.getElem_mem hi);rw [KP hi];simp only [Bool.and_eq_true,decide_eq_true_eq] at this;omega
def qT (l:List Pt)(m:List Ed)(k:List Bool)(d:Int):Nat→Int
 |0=>-1
 |j+1=>if (dF k j=true∧kZ m j=wQ m d)∧(qT l m k d j<0∨A2 (kA l (wQ m d)) (kA l (kZ m d)) (kA l (wQ m j)) (kA l (wQ m (qT l m k d j)))=true) then j else qT l m k d j
theorem aKl {l:List Pt}{m:List Ed}{k:List Bool}{d:Int}{j:Nat}(h:¬ ((dF k j=true∧kZ m j=wQ m d)∧(qT l m k d j<0∨A2 (kA l (wQ m d)) (kA l (kZ m d)) (kA l (wQ m j)) (kA l (wQ m (qT l m k d j)))=true))):qT l m k d (j+1)=qT l m k d j:=by
 conv=>lhs;unfold qT
 exact if_neg h
theorem aKd {l:List Pt}{m:List Ed}{k:List Bool}{d:Int}{j:Nat}(h:((dF k j=true∧kZ m j=wQ m d)∧(qT l m k d j<0∨A2 (kA l (wQ m d)) (kA l (kZ m d)) (kA l (wQ m j)) (kA l (wQ m (qT l m k d j)))=true))):qT l m k d (j+1)=j:=by
 conv=>lhs;unfold qT
 exact if_pos h
def bP (a b:Nat)(c1 c2:Nat)(n:Int):aT:=.cells true false 1 [.slice (some ⟨0,0,none⟩) a c1,.slice (some ⟨1,0,none⟩) b c2,iv n]
def aB (k:List Int)(i:Nat):Int:=k.getD i 0
theorem dK {k:List Int}{i:Nat}(h:i<k.length):aB k i=k[i]:=by
 unfold aB;rw [List.getD_eq_getElem?_getD,List.getElem?_eq_getElem h];rfl
theorem cF (k:List Int){i o:Nat}(hi:i<k.length)(ho:o=i*1):nth (flat aL.fl k) o=some (iv (aB k i)):=by
 rw [dK hi];exact mN aL k hi (k:=0) rfl Nat.one_pos (by rw [ho];rfl)
def aEO (l:List Pt)(m:List Ed)(d:Int):Int:=(kA l (kZ m d)).1*(kA l (wQ m d)).2 - (kA l (wQ m d)).1*(kA l (kZ m d)).2
def NL (l:List Pt)(m:List Ed)(k:List Int):Nat→Int
 |0=>0
 |i+1=>NL l m k i+aEO l m (aB k i)
def aKn (m:List Ed)(k:List Int):Bool:=k.all (inD m)
theorem gQ {α:Type}(E:El α)(o:List α)(x:α){n:Nat}(hn:n=o.length):((flat E.fl o).drop 0).take (n*E.sz)++E.fl x=flat E.fl (o++[x]):=by
 subst hn;rw [List.drop_zero,← bJ E o,List.take_length,rL];simp [flat]
theorem sN {i N s:Nat}{p:Prop}(hN:N=i*s)(hi:i+1≤1000000000)
  (h:aA.A.andB (aA.A.andB ((i+1).ble 1000000000) ((0+i*s).ble N)) (aA.A.andB ((0+i*s).beq N) (Nat.beq s s))=false):p:=by
 exfalso;have h1:(i+1).ble 1000000000=true:=Nat.ble_eq_true_of_le hi;have h2:(0+i*s).ble N=true:=Nat.ble_eq_true_of_le (by omega);have h3:(0+i*s).beq N=true:=(by rw [hN,Nat.zero_add];exact Nat.beq_refl _);rw [h1,h2,h3,Nat.beq_refl] at h;cases h
def WW (f:Int→Int)(d:Int):Nat→Int
 |0=>f d
 |i+1=>f (WW f d i)
def O2 (f:Int→Int)(d:Int)(N i:Nat):Bool:=(!decide (WW f d i=d))&&(decide (0≤WW f d i)&&decide (i≤N))
def XA (f:Int→Int)(d:Int)(N:Nat):Nat→Nat→Nat
 |0,i=>i
 |k+1,i=>if O2 f d N i=true then XA f d N k (i+1) else i
def aJ1 (f:Int→Int)(d:Int)(i:Nat):List Int:=d::(List.range i).map (WW f d)
def aDk (l:List Pt)(m:List Ed)(k:List Bool)(d:Int):Int:=qT l m k d (2*m.length)
def Q9 (l:List Pt)(m:List Ed)(k:List Bool)(d:Int):List Int:=aJ1 (aDk l m k) d (XA (aDk l m k) d (2*m.length) (2*m.length+2) 0)
def fO (of w:List Int)(face:Int):Nat→List Int
 |0=>of
 |i+1=>(fO of w face i).set (aB w i).toNat face
theorem jA (of w:List Int)(face:Int):∀ i,(fO of w face i).length=of.length
 |0=>rfl
 |i+1=>by unfold fO;rw [List.length_set];exact jA of w face i
structure Fst where
 of:List Int
 faces:Int
 outside:Int
 ok:Bool
def QB (l:List Pt)(m:List Ed)(s:Fst)(d:Nat):Fst :=
 if 0≤aB s.of d then s else
  let w:=Q9 l m (List.replicate (2*m.length) true) d;let a:=NL l m w w.length;let fc:=if 0<a then s.faces+1 else 0
  ⟨fO s.of w fc w.length,if 0<a then s.faces+1 else s.faces,if a<0 then s.outside+1 else s.outside,if a=0 then false else s.ok⟩
def PQ (l:List Pt)(m:List Ed):Nat→Fst
 |0=>⟨List.replicate (2*m.length) (-1),0,0,true⟩
 |d+1=>QB l m (PQ l m d) d
def mS (l:List Pt)(m:List Ed):Fst:=PQ l m (2*m.length)
def aGd (s:Fst):Bool:=s.ok&&(decide (s.outside=1)&&decide (1≤s.faces))
theorem lZ (l:List Int):∀ (i:Nat) (v:Int),i<l.length→dE (flat aL.fl l) (i*1) [iv v]=flat aL.fl (l.set i v):=by
 induction l with
 |nil=>intro i v h;cases h
 |cons a r ih =>
  intro i v h;cases i with
  |zero=>rfl
  |succ i =>
   have:=ih i v (by simpa using h);simp only [List.set_cons_succ,flat,← this];have e:(i+1)*1=i*1+1:=(by omega);rw [e];unfold dE;show List.take (i*1+1) (iv a::flat aL.fl r)++_++List.drop (i*1+1+1) (iv a::flat aL.fl r)=_;rfl
theorem FU {of w:List Int}{c:Int}{t o:Nat}(ho:o=(aB w t).toNat*1)(hi:(aB w t).toNat<of.length):dE (flat aL.fl (fO of w c t)) o [iv c]=flat aL.fl (fO of w c (t+1)):=by
 rw [ho,lZ _ _ _ (by rw [jA];exact hi)];rfl
theorem yX (l:List Bool):∀ (i:Nat) (v:Bool),i<l.length→dE (flat oO.fl l) (i*1) [.bool v]=flat oO.fl (l.set i v):=by
 induction l with
 |nil=>intro i v h;cases h
 |cons a r ih =>
  intro i v h;cases i with
  |zero=>rfl
  |succ i =>
   have:=ih i v (by simpa using h);simp only [List.set_cons_succ,flat,← this];have e:(i+1)*1=i*1+1:=(by omega);rw [e];unfold dE;show List.take (i*1+1) (.bool a::flat oO.fl r)++_++List.drop (i*1+1+1) (.bool a::flat oO.fl r)=_;rfl
def rU (i:Nat):List Bool:=(List.range i).map fun (t:Nat)=>decide ((t:Int)=0)
theorem E8 (i:Nat):(rU i).length=i:=by simp [rU]
def PE (s:List Bool)(e:Ed):List Bool:=if (dF s e.a.toNat || dF s e.b.toNat)=true then (s.set e.a.toNat true).set e.b.toNat true else s
def qX (m:List Ed)(s:List Bool):Nat→List Bool
 |0=>s
 |i+1=>PE (qX m s i) (cX m i)
def eT (l:List Pt)(m:List Ed):Nat→List Bool
 |0=>rU l.length
 |i+1=>qX m (eT l m i) m.length
def aG1 (l:List Pt)(m:List Ed):Bool:=(eT l m l.length).all id
theorem aBc (s:List Bool)(e:Ed):(PE s e).length=s.length:=by
 unfold PE;split <;> simp
theorem yB (m:List Ed)(s:List Bool):∀ i,(qX m s i).length=s.length
 |0=>rfl
 |i+1=>by unfold qX;rw [aBc];exact yB m s i
theorem DT (l:List Pt)(m:List Ed):∀ i,(eT l m i).length=l.length
 |0=>E8 _
 |i+1=>by unfold eT;rw [yB];exact DT l m i
theorem aIc {s:List Bool}{a b o1 o2:Nat}(h1:o1=a*1)(h2:o2=b*1)(ha:a<s.length)(hb:b<s.length):dE (dE (flat oO.fl s) o1 [.bool true]) o2 [.bool true]=flat oO.fl ((s.set a true).set b true):=by
 rw [h1,h2,yX _ _ _ ha,yX _ _ _ (by rw [List.length_set];exact hb)]
theorem lE {x N:Nat}{p:Prop}(h:x.ble N=false)(hx:x≤N):p:=by
 rw [Nat.ble_eq_true_of_le hx] at h;cases h
def zZ (l:List Pt)(m:List Ed)(c1 c2:Nat)(n:Int):Heap:=(2,bP l.length m.length c1 c2 n)::aH aZ aY l m
def BA (l:List Pt)(m:List Ed)(c1 c2:Nat)(n:Int)(s:List Bool):Heap:=(3,.cells true false 1 (flat oO.fl s))::zZ l m c1 c2 n
def dO (l:List Pt)(m:List Ed)(i:Nat):Sg:=(kA l (cX m i).a,kA l (cX m i).b)
def sgS:MS:=sMD fun l m _ d=>(YT l m&&(decide (0≤d)&&decide (d<m.length)),sgv (dO l m d.toNat))
def aDv:Nat × XF:=(98,mX aZ aY sgS)
theorem aKk:dM Go.Proofs.Tryz.prog aDv.1 aDv.2:=PJ aZ aY (aO (xl:=[]) .nil) fun l m n r v hs=>by
 obtain⟨d,rfl,hd,rfl⟩:=aEh hs;clear hs;simp only [Bool.and_eq_true,decide_eq_true_eq] at hd;obtain⟨hM,h0,hd⟩:=hd;have he:=zH hM (i:=d.toNat) (by omega);refine⟨rfl,rfl,fun c1 c2=>?_⟩;((conv=>whnf);refine bm (fun h1=>?_) (fun h1=>?_))
 ·(conv=>whnf);refine eP (aDI m 0 (i:=d.toNat) (by omega) rfl (by decide) ?_) ?_
  ·show _+Int.toNat d*5+0=_;omega
  ((conv=>whnf);refine bm (fun h2=>?_) (fun h2=>?_))
  ·(conv=>whnf);refine IF (uY l (i:=(cX m d.toNat).a.toNat) (by omega) ?_) ?_
   ·show _+Int.toNat (cX m d.toNat).a*2=_;omega
   ((conv=>whnf);refine bm (fun h3=>?_) (fun h3=>?_))
   ·(conv=>whnf);refine eP (aDI m 1 (i:=d.toNat) (by omega) rfl (by decide) ?_) ?_
    ·show _+Int.toNat d*5+1=_;omega
    ((conv=>whnf);refine bm (fun h4=>?_) (fun h4=>?_))
    ·(conv=>whnf);refine IF (uY l (i:=(cX m d.toNat).b.toNat) (by omega) ?_) ?_
     ·show _+Int.toNat (cX m d.toNat).b*2=_;omega
     (conv=>whnf);rfl
    ·exfalso;simp [aA,aF] at h4;omega
   ·exfalso;simp [aA,aF] at h3;omega
  ·exfalso;simp [aA,aF] at h2;omega
 ·exfalso;simp [aA,aF] at h1;omega
end Go.Aw
end

noncomputable section
namespace Go.Aw
def m8 (f:Nat→Bool)(n:Nat):Bool:=(List.range n).all f
theorem kO {f:Nat→Bool}{n i:Nat}(hi:i<n)(h:f i=false):m8 f n=false:=by
 unfold m8;rw [List.all_eq_false];exact⟨i,List.mem_range.2 hi,by rw [h];exact Bool.false_ne_true⟩
theorem kG {f:Nat→Bool}{n:Nat}(h:∀ i,i<n→f i=true):m8 f n=true:=by
 unfold m8;rw [List.all_eq_true];exact fun i hi=>h i (List.mem_range.1 hi)
theorem fH {f:Nat→Bool}{n i:Nat}(h:m8 f n=true)(hi:i<n):f i=true:=List.all_eq_true.1 h i (List.mem_range.2 hi)
def QM (l:List Pt)(i:Nat):Bool:=cG (tQ l i)&&(decide (i=0) || iP (tQ l (i - 1)) (tQ l i))
def bfE (d e:Ed):Bool:=decide (d.a<e.a) || (decide (d.a=e.a)&&decide (d.b<e.b))
def SK (l:List Pt)(m:List Ed)(i:Nat):Bool :=
 decide (0≤(cX m i).a)&&decide ((cX m i).a<(cX m i).b)&&decide ((cX m i).b<l.length)&&decide (-1≤(cX m i).n)&&decide ((cX m i).n<200)&&(decide (i=0) || bfE (cX m (i - 1)) (cX m i))
def xV (m:List Ed)(s:List Bool):Nat→List Bool
 |0=>s
 |i+1=>((xV m s i).set (cX m i).a.toNat true).set (cX m i).b.toNat true
theorem GM (m:List Ed)(s:List Bool):∀ i,(xV m s i).length=s.length
 |0=>rfl
 |i+1=>by unfold xV;rw [List.length_set,List.length_set];exact GM m s i
def O8 (l:List Pt)(m:List Ed)(i k:Nat):Bool:=decide (jJ (dO l m i) (dO l m k)=0) || decide (jJ (dO l m i) (dO l m k)=1)
def szB (l:List Pt)(m:List Ed)(n:Int):Bool:=decide (l.length≤400)&&decide (3≤m.length)&&decide (m.length≤400)&&decide (1≤n)&&decide (n≤100)
def dH (l:List Pt)(m:List Ed)(n:Int):Bool:=szB l m n&&(m8 (QM l) l.length&&(m8 (SK l m) m.length&&(xV m (List.replicate l.length false) m.length).all id))
def mE (l:List Pt)(m:List Ed)(n:Int):Bool:=dH l m n&&m8 (fun i=>m8 (fun k=>O8 l m i k) i) m.length
theorem QV {l:List Pt}{m:List Ed}(hl:l.length≤1000)(hm:m.length≤1000)(h1:∀ i,i<l.length→QM l i=true)(h2:∀ i,i<m.length→SK l m i=true):YT l m=true:=by
 simp only [YT,Bool.and_eq_true,decide_eq_true_eq];refine⟨⟨⟨List.all_eq_true.2 fun p hp=>?_,List.all_eq_true.2 fun e he=>?_⟩,hm⟩,hl⟩
 ·obtain⟨i,hi,rfl⟩:=List.getElem_of_mem hp;have:=h1 i hi;rw [QM,J0 hi,Bool.and_eq_true] at this;exact nM this.1
 ·obtain⟨i,hi,rfl⟩:=List.getElem_of_mem he;have:=h2 i hi;rw [SK,KP hi] at this;simp only [Bool.and_eq_true,decide_eq_true_eq] at this ⊢;omega
theorem aFq {l:List Pt}{m:List Ed}{n:Int}{i k:Nat}(hi:i<m.length)(hk:k<i)(h:O8 l m i k=false):mE l m n=false:=by
 have:m8 (fun k=>O8 l m i k) i=false:=kO hk h;have:m8 (fun i=>m8 (fun k=>O8 l m i k) i) m.length=false:=kO hi this;simp [mE,this]
theorem aGl {l:List Pt}{m:List Ed}{n:Int}(h:szB l m n=false):dH l m n=false:=by simp [dH,h]
theorem ZE {l:List Pt}{m:List Ed}{n:Int}{i:Nat}(hi:i<l.length)(h:QM l i=false):dH l m n=false:=by simp [dH,kO hi h]
theorem zY {l:List Pt}{m:List Ed}{n:Int}{i:Nat}(hi:i<m.length)(h:SK l m i=false):dH l m n=false:=by simp [dH,kO hi h]
end Go.Aw
end

noncomputable section
namespace Go.Aw
set_option maxRecDepth 100000
theorem FQ {l:List Pt}{m:List Ed}{i:Nat}{ed:Ed}(hed:cX m i=ed)(h:¬ (0≤ed.a∧ed.a<ed.b∧ed.b<l.length∧-1≤ed.n∧ed.n<200)):SK l m i=false:=by
 cases hb:SK l m i with
 |false=>rfl
 |true =>
  rw [SK,hed] at hb;simp only [Bool.and_eq_true,decide_eq_true_eq] at hb;exact absurd ⟨hb.1.1.1.1.1,hb.1.1.1.1.2,hb.1.1.1.2,hb.1.1.2,hb.1.2⟩ h
theorem aFQ {l:List Pt}{m:List Ed}{i:Nat}{ed d:Ed}(hed:cX m i=ed)(hd:cX m (i - 1)=d)(hi:i≠0)(h:bfE d ed=false):SK l m i=false:=by
 rw [SK,hed,hd,h,decide_eq_false hi,Bool.or_false,Bool.and_false]
theorem T6 {l:List Pt}{m:List Ed}{i:Nat}{ed:Ed}(hed:cX m i=ed)(h:0≤ed.a∧ed.a<ed.b∧ed.b<l.length∧-1≤ed.n∧ed.n<200)(ho:(decide (i=0) || bfE (cX m (i - 1)) ed)=true):SK l m i=true:=by
 rw [SK,hed,ho];simp only [Bool.and_eq_true,decide_eq_true_eq,and_true];omega
theorem kN {l:List Pt}{m:List Ed}{n:Int}(h:dH l m n=true):YT l m=true∧3≤m.length∧1≤l.length∧l.length≤400∧m.length≤400∧1≤n∧n≤100:=by
 simp only [dH,Bool.and_eq_true] at h;obtain⟨h1,h2,h3,h4⟩:=h;simp only [szB,Bool.and_eq_true,decide_eq_true_eq] at h1;have hM:=QV (l:=l) (m:=m) (by omega) (by omega) (fun i hi=>fH h2 hi) (fun i hi=>fH h3 hi);have:=zH hM (i:=0) (by omega);exact⟨hM,by omega,by omega,by omega,by omega,by omega,by omega⟩
theorem nW {l:List Pt}{m:List Ed}{n:Int}(h:mE l m n=true):dH l m n=true:=by
 simp only [mE,Bool.and_eq_true] at h;exact h.1
def faB (m:List Ed)(of:List Int)(i:Nat):Bool:=decide ((cX m i).l=aB of (2*i))&&decide ((cX m i).r=aB of (2*i+1))
def aCr (l:List Pt)(m:List Ed)(n:Int):Bool:=mE l m n&&(aG1 l m&&(aGd (mS l m)&&(decide ((mS l m).faces=n)&&m8 (faB m (mS l m).of) m.length)))
def ckS (l:List Pt)(m:List Ed)(n:Int):List Value→Option (Bool × Value)
 |[]=>some (decide (l.length≤1000)&&decide (m.length≤1000),iv (if aCr l m n=true then 0 else 1))
 |_=>none
def aKA:Nat × XF:=(18,mX aZ aY ckS)
def K1:List Bool→Nat→Int
 |[],_=>-1
 |b::r,i=>if b=false then i else K1 r (i+1)
theorem NG:∀ (l:List Bool) (i:Nat),decide (0≤K1 l i)=!(l.all id)
 |[],i=>rfl
 |b::r,i=>by
  cases b with
  |false=>simp [K1]
  |true=>simpa [K1] using NG r (i+1)
def ixS (l:List Bool):List Value→Option (Bool × Value)
 |[.bool false]=>some (decide (l.length≤1000000),iv (K1 l 0))
 |_=>none
theorem aEs {l:List Bool}{r:List Value}{v:Value}(hs:ixS l r=some (true,v)):r=[.bool false]∧l.length≤1000000∧v=iv (K1 l 0):=by
 unfold ixS at hs;split at hs
 ·injection hs with hs;injection hs with h1 h2;exact⟨rfl,by simpa using h1,h2.symm⟩
 ·cases hs
def YD (l:List Bool)(c:Nat)(j:Int):List (Nat × Value):=[(0,.slice (some ⟨0,0,none⟩) l.length c),(1,.bool false),(7,iv l.length),(8,iv j)]
def hBo (l:List Bool):Heap:=[(0,.cells false true 1 (flat oO.fl l))]
def aBU:Nat × XF:=(241,lX oO ixS)
theorem aIC:dM Go.Proofs.Tryz.prog aBU.1 aBU.2:=M0 oO (aO (xl:=[]) .nil) fun l r v hs=>by
 obtain⟨rfl,hlen,rfl⟩:=aEs hs;refine⟨rfl,rfl,fun c=>?_⟩;(conv=>whnf);refine⟨fun q e h nx=>∃ (i:Nat) (j:Int),j=i∧i≤l.length∧q=l.length - i∧K1 l 0=K1 (l.drop i) i∧e=YD l c j∧h=hBo l∧nx=1,⟨l.length,?_⟩,?_⟩
 ·refine cO (e0:=YD l c 0) (h0:=hBo l) (n0:=1) ⟨0,0,rfl,Nat.zero_le _,rfl,rfl,rfl,rfl,rfl⟩ ?_ ?_ (by decide)
  ·unfold YD;((repeat' refine iE rfl rfl ?_);exact iN)
  ·unfold hBo;((repeat'(first|refine iF rfl rfl ?_|refine iC rfl rfl rfl ?_|refine iJ rfl rfl rfl rfl ?_));exact iN)
 ·rintro q e h nx ⟨i,j,hj,hi,rfl,hb,rfl,rfl,rfl⟩;unfold YD hBo;((conv=>whnf);refine bm (fun h1=>?_) (fun h1=>?_))
  ·have hlt:i<l.length:=(by simp [aA,aF] at h1;omega);have hd:l.drop i=dF l i::l.drop (i+1):=(by rw [vZ hlt];exact List.drop_eq_getElem_cons hlt);rw [hd,K1] at hb;((conv=>whnf);refine bm (fun h2=>?_) (fun h2=>?_))
   ·(conv=>whnf);refine eP (aGO l (i:=i) hlt ?_) ?_
    ·show _+Int.toNat j*1=_;omega
    ((conv=>whnf);refine bm (fun h3=>?_) (fun h3=>?_))
    ·have h3:dF l i=false:=(by simpa [aA,aF] using h3);(conv=>whnf);rw [hb,if_pos h3,hj]
    ·have h3:¬ dF l i=false:=(by simpa [aA,aF] using h3);((conv=>whnf);refine bm (fun h4=>?_) (fun h4=>?_))
     ·(conv=>whnf);refine⟨l.length - (i+1),by omega,?_⟩;refine cO (e0:=YD l c (j+1)) (h0:=hBo l) (n0:=1) ⟨i+1,j+1,by omega,hlt,rfl,by rw [hb,if_neg h3],rfl,rfl,rfl⟩ ?_ ?_ (by decide)
      ·unfold YD;((repeat' refine iE rfl rfl ?_);exact iN)
      ·unfold hBo;((repeat'(first|refine iF rfl rfl ?_|refine iC rfl rfl rfl ?_|refine iJ rfl rfl rfl rfl ?_));exact iN)
     ·exfalso;simp [aA,aF,aI] at h4;omega
   ·exfalso;simp [aA,aF] at h2;omega
  ·have hge:l.length≤i:=(by simp [aA,aF] at h1;omega);(conv=>whnf);rw [hb,List.drop_eq_nil_of_le hge];rfl
def ctS (l:List Bool):List Value→Option (Bool × Value)
 |[.bool false]=>some (decide (l.length≤1000000),.bool (!(l.all id)))
 |_=>none
theorem aCV {l:List Bool}{r:List Value}{v:Value}(hs:ctS l r=some (true,v)):r=[.bool false]∧l.length≤1000000∧v=.bool (!(l.all id)):=by
 unfold ctS at hs;split at hs
 ·injection hs with hs;injection hs with h1 h2;exact⟨rfl,by simpa using h1,h2.symm⟩
 ·cases hs
def V8:Nat × XF:=(208,lX oO ctS)
theorem aEv:dM Go.Proofs.Tryz.prog V8.1 V8.2:=M0 oO (aO (xl:=[aBU]) (.cons aIC .nil)) fun l r v hs=>by
 obtain⟨rfl,hlen,rfl⟩:=aCV hs;refine⟨rfl,rfl,fun c=>?_⟩;(conv=>whnf);refine⟨l,aM oO rfl,?_⟩;((conv=>whnf);refine bm (fun h1=>?_) (fun h1=>?_))
 ·(conv=>whnf);rw [← NG l 0];rfl
 ·exact absurd hlen (by simpa using h1)
theorem Q6 (n:Nat):rep n [.bool false]=flat oO.fl (List.replicate n false):=by
 induction n with
 |zero=>rfl
 |succ n ih=>simp only [List.replicate_succ,flat,← ih];rfl
theorem R3 (n:Nat):rep n [iv 0]=flat aL.fl (List.replicate n 0):=by
 induction n with
 |zero=>rfl
 |succ n ih=>simp only [List.replicate_succ,flat,← ih];rfl
theorem yC (a b:Pt):iP a b=decide (j3 a b<0):=by
 unfold iP j3 YO gY;by_cases h1:a.1<b.1
 ·simp [h1]
 ·by_cases h2:b.1<a.1
  ·have h3:¬ a.1=b.1:=(by omega);simp [h1,h2,h3]
  ·have h3:a.1=b.1:=(by omega);simp only [h1,h2,if_false,h3];by_cases h4:a.2<b.2 <;> by_cases h5:b.2<a.2 <;> simp [h4,h5]
theorem TJ (d e:Ed):bfE d e=decide (YO (gY d.a e.a) (gY d.b e.b)<0):=yC (d.a,d.b) (e.a,e.b)
end Go.Aw
end
