/-
  Parts of the proof, put together. No condition.
-/
import Derived.Test.YtjahkcbdecgbhaaGreatQAs
import Derived.Test.YtjahkcbdecgbhaaGreatQAt
set_option linter.unusedSimpArgs false
set_option linter.unusedVariables false
noncomputable section
namespace Go.Aw
open Go.RowKit
theorem Y0 {a0 b0 a b:Value}{n:Int}{r:List Value}(hr:dU r=true){h0 h:Heap}{n0 nx:Nat}(i:In [a0,b0] h0 n0 [a,b] h nx)(ha:∃ x y z,a0=.slice x y z)(hb:∃ x y z,b0=.slice x y z) :
  In (.agg #[a0,b0,.int .i64 n]::r) h0 n0 (.agg #[a,b,.int .i64 n]::r) h nx:=by
 intro ι B w H hs;have hag:kH ι nx (.agg #[a,b,.int .i64 n]):=hs _ (.head _);have sa:gN ι nx a:=hag a (by simp);have sb:gN ι nx b:=hag b (by simp);obtain⟨ι0,e1,e2,e3⟩:=i ι B w H (fun v hv=>by
  simp only [List.mem_cons,List.not_mem_nil,or_false] at hv;rcases hv with rfl|rfl
  ·exact lL (fZ sa)
  ·exact lL (fZ sb))
 simp only [List.map_cons,List.map_nil,List.cons.injEq,and_true] at e1;obtain⟨x,y,z,rfl⟩:=ha;obtain⟨x',y',z',rfl⟩:=hb;have t1:tr ι a=bS ι a:=(by rw [uK (fZ sa),yE sa]);have t2:tr ι b=bS ι b:=(by rw [uK (fZ sb),yE sb]);refine⟨ι0,?_,?_,e3⟩
 ·rw [List.map_cons,List.map_cons];congr 1
  ·show Value.agg (Array.map (bS ι) #[a,b,.int .i64 n])=Value.agg (Array.map (bS ι0) #[_,_,.int .i64 n]);simp only [List.map_toArray,List.map_cons,List.map_nil];rw [← t1,← t2,e1.1,e1.2];rfl
  ·exact List.map_congr_left fun v hv=>by rw [gJ (bY hr hv),gJ (bY hr hv)]
 ·intro v hv;cases hv with
  |head =>
   intro u hu;simp only [List.mem_cons,List.not_mem_nil,or_false] at hu;rcases hu with rfl|rfl|rfl
   ·exact e2 _ (.head _)
   ·exact e2 _ (.tail _ (.head _))
   ·exact cM rfl
  |tail _ hm=>exact dL (bY hr hm)
section
variable {α β:Type}(E:El α)(G:El β)
def aE (n m:Nat)(c1 c2:Nat)(k:Int):Value:=.agg #[.slice (some ⟨0,0,none⟩) n c1,.slice (some ⟨1,0,none⟩) m c2,.int .i64 k]
def aB (l:List α)(m:List β):Heap:=[(0,.cells false true E.sz (flat E.fl l)),(1,.cells false true G.sz (flat G.fl m))]
def mX (s:List α→List β→Int→List Value→Option (Bool × Value)):XF:=fun args h nx K=>match args with
 |.agg ⟨[p,q,.int .i64 n]⟩::r=>∃ l m,gP E h p l∧gP G h q m∧(match s l m n r with|some pr=>dE pr.1 (K pr.2 h nx)|none=>False)
 |_=>False
theorem JX {p q:Value}{n:Int}{r:List Value}(hr:dU r=true){h:Heap}{nx:Nat}{l:List α}{m:List β}(hl:gP E h p l)(hm:gP G h q m) :
  ∃ c1 c2,In (aE l.length m.length c1 c2 n::r) (aB E G l m) 2 (.agg #[p,q,.int .i64 n]::r) h nx:=by
 obtain⟨c1,i1⟩:=NO (nx:=nx) E hl;obtain⟨c2,i2⟩:=NO (nx:=nx) G hm;exact⟨c1,c2,Y0 hr (Q3 rfl rfl i1 i2 ⟨_,_,rfl,aI E l⟩ ⟨_,_,rfl,aI G m⟩) ⟨_,_,_,rfl⟩ ⟨_,_,_,rfl⟩⟩
theorem l7 {P:Program}{C:VC}{f:Nat}{s:List α→List β→Int→List Value→Option (Bool × Value)}(hC:bE P C)
  (hs:∀ l m n r v,s l m n r=some (true,v)→dU r=true∧gT v=true∧∀ c1 c2,C f (aE l.length m.length c1 c2 n::r) (aB E G l m) 2 (fun u _ _=>u=v)):cE P f (mX E G s):=by
 refine (gF (S:=fun args0 h0 n0 v1 h1 k=>∃ l m n r c1 c2,s l m n r=some (true,v1)∧args0=aE l.length m.length c1 c2 n::r∧h0=aB E G l m∧n0=2∧h1=[]∧k=0) hC ?_).mono ?_ ?_
 ·rintro args0 h0 n0 v1 h1 k ⟨l,m,n,r,c1,c2,e1,rfl,rfl,rfl,rfl,rfl⟩;obtain⟨a1,a2,a3⟩:=hs l m n r v1 e1;exact⟨rfl,_,a3 c1 c2,fun v h nx e=>by rw [e];exact kP a2⟩
 ·intro args h nx K hx;unfold mX at hx;split at hx
  case h_2=>exact hx.elim
  rename_i p q n r;obtain⟨l,m,hl,hm,hx⟩:=hx;split at hx
  case h_2=>exact hx.elim
  rename_i pr e1;obtain⟨bb,u⟩:=pr;obtain⟨rfl,hx⟩:=aF.1 hx;obtain⟨a1,a2,a3⟩:=hs l m n r u e1;obtain⟨c1,c2,i⟩:=JX (n:=n) (nx:=nx) E G a1 hl hm;refine⟨_,_,2,u,[],0,⟨l,m,n,r,c1,c2,e1,rfl,rfl,rfl,rfl,rfl⟩,i,?_⟩;simp only [nT,rI,l8,kC,pQ a2,Nat.add_zero];exact hx
 ·intro args h nx K hx;unfold mX at hx;split at hx
  case h_2=>exact hx.elim
  rename_i p q n r;obtain⟨l,m,hl,hm,hx⟩:=hx;split at hx
  case h_2=>exact hx.elim
  rename_i pr e1;obtain⟨hb,hx⟩:=aF.1 hx;exact⟨pr.2,h,nx,hx,fun K' hk=>⟨l,m,hl,hm,by rw [e1];exact aJ hb hk⟩⟩
end
theorem aFn {a0:List Value}{h0:Heap}{n0:Nat}{a:List Value}{h:Heap}{nx:Nat}(i:In a0 h0 n0 a h nx){b:Value}{n2 c2 sz:Nat}{cs:List Value}(hg:c7 cs=true)
  (i2:In [.slice (some ⟨0,0,none⟩) n2 c2] [(0,.cells false true sz cs)] 1 [b] h nx) (hlow:∀ k o,look h0 k=some o→o.alone=false) :
  In (a0++[.slice (some ⟨n0,0,none⟩) n2 c2]) (app h0 [(n0,.cells false true sz cs)]) (n0+1) (a++[b]) h nx:=by
 intro ι B w H hs;obtain⟨ι1,e1,k1,R1⟩:=i ι B w H (fun v hv=>hs v (List.mem_append_left _ hv));obtain⟨ι2,e2,k2,R2⟩:=i2 ι B w H (fun v hv=>hs v (List.mem_append_right _ hv));simp only [List.map_cons,List.map_nil,List.cons.injEq,and_true] at e2;have q2:=R2.obj 0 _ rfl;have kk2:=k2 _ (.head _);let ι0:Nat→Loc:=fun k=>if k<n0 then ι1 k else ι2 0
 have hlt:∀ k,k<n0→ι0 k=ι1 k:=fun k hk=>if_pos hk;have hat:ι0 n0=ι2 0:=if_neg (Nat.lt_irrefl _);have hcase:∀ k o,look (app h0 [(n0,.cells false true sz cs)]) k=some o→(look h0 k=some o∧k<n0)∨(k=n0∧o=.cells false true sz cs):=by
  intro k o hk;rw [fY] at hk;split at hk
  ·rename_i o' ho;injection hk with hk;subst hk;exact .inl ⟨ho,R1.low k _ ho⟩
  ·rw [aD] at hk;split at hk
   ·rename_i hb;injection hk with hk;exact .inr ⟨(beq_true hb).symm,hk.symm⟩
   ·exact bX hk
 refine⟨ι0,?_,?_,⟨?_,?_,?_,Nat.le_refl _,?_⟩⟩
 ·rw [List.map_append,List.map_append,e1];congr 1
  ·refine List.map_congr_left fun v hv=>?_;exact (FV (ι:=ι1) (ι':=ι0) (n:=n0) hlt (k1 v hv)).symm
  ·simp only [List.map_cons,List.map_nil,e2];simp only [tr,dO,bS,dS,hat]
 ·intro v hv;rcases List.mem_append.1 hv with hv|hv
  ·exact pG (Nat.le_succ _) hlt (k1 v hv)
  ·simp only [List.mem_cons,List.not_mem_nil,or_false] at hv;subst hv;exact⟨Nat.lt_succ_self _,fun h=>kk2.2 (by rw [← h];show _=(ι0 n0).gG;rw [hat])⟩
 ·intro k o hk;rcases hcase k o hk with ⟨h1,h2⟩|⟨rfl,rfl⟩
  ·rw [hlt k h2];exact (R1.obj k o h1).names (R1.sc k o h1) hlt
  ·rw [hat];cases hl:ι2 0 with
   |nil p=>rw [hl] at q2;exact q2
   |lay b o e =>
    rw [hl] at q2;obtain⟨x1,x2,x3⟩:=q2;refine⟨x1,x2,fun i v hv=>?_⟩;rw [x3 i v hv,lF (bA hg (List.mem_of_getElem? hv)),lF (bA hg (List.mem_of_getElem? hv))]
 ·intro k k' o o' hk hk' hne hal b hb;rcases hcase k o hk with ⟨h1,h2⟩|⟨rfl,rfl⟩
  ·rw [hlow k o h1] at hal;cases hal
  ·cases hal
 ·intro k o hk;rcases hcase k o hk with ⟨h1,h2⟩|⟨rfl,rfl⟩ <;> omega
 ·intro k o hk;rcases hcase k o hk with ⟨h1,h2⟩|⟨rfl,rfl⟩
  ·exact (R1.sc k o h1).mono (Nat.le_succ _) hlt
  ·exact fun v hv=>cM (bA hg hv)
section
variable {α β γ δ:Type}(E:El α)(G:El β)(J:El γ)(D:El δ)
def mapA (p q:Value)(n:Int):Value:=.agg #[p,q,.int .i64 n]
def jL (l:List α)(m:List β)(k:List γ):Heap:=[(0,.cells false true E.sz (flat E.fl l)),(1,.cells false true G.sz (flat G.fl m)),(2,.cells false true J.sz (flat J.fl k))]
theorem T1 {p q o:Value}{n:Int}{r:List Value}(hr:dU r=true){h:Heap}{nx:Nat}{l:List α}{m:List β}{k:List γ}(hl:gP E h p l)(hm:gP G h q m)(hk:gP J h o k) :
  ∃ c1 c2 c3,In (aE l.length m.length c1 c2 n::(r++[.slice (some ⟨2,0,none⟩) k.length c3])) (jL E G J l m k) 3 (mapA p q n::(r++[o])) h nx:=by
 obtain⟨c1,c2,i⟩:=JX (n:=n) (nx:=nx) E G hr hl hm;obtain⟨c3,i3⟩:=NO (nx:=nx) J hk;refine⟨c1,c2,c3,aFn i (aI J k) i3 fun j ob hj=>?_⟩;unfold aB at hj;rw [aD] at hj;split at hj
 ·injection hj with hj;subst hj;rfl
 ·rw [aD] at hj;split at hj
  ·injection hj with hj;subst hj;rfl
  ·exact bX hj
def mLX (s:List α→List β→Int→List γ→List Value→Option (Bool × Value)):XF:=fun args h nx K =>
 ∃ p q n r o l m k,args=mapA p q n::(r++[o])∧gP E h p l∧gP G h q m∧gP J h o k∧(match s l m n k r with|some pr=>dE pr.1 (K pr.2 h nx)|none=>False)
theorem X9 {P:Program}{C:VC}{f:Nat}{s:List α→List β→Int→List γ→List Value→Option (Bool × Value)}(hC:bE P C)
  (hs:∀ l m n k r v,s l m n k r=some (true,v)→dU r=true∧gT v=true∧∀ c1 c2 c3,C f (aE l.length m.length c1 c2 n::(r++[.slice (some ⟨2,0,none⟩) k.length c3])) (jL E G J l m k) 3 (fun u _ _=>u=v)):cE P f (mLX E G J s):=by
 refine (gF (S:=fun args0 h0 n0 v1 h1 j=>∃ l m n k r c1 c2 c3,s l m n k r=some (true,v1)∧args0=aE l.length m.length c1 c2 n::(r++[.slice (some ⟨2,0,none⟩) k.length c3])∧h0=jL E G J l m k∧n0=3∧h1=[]∧j=0) hC ?_).mono ?_ ?_
 ·rintro args0 h0 n0 v1 h1 j ⟨l,m,n,k,r,c1,c2,c3,e1,rfl,rfl,rfl,rfl,rfl⟩;obtain⟨a1,a2,a3⟩:=hs l m n k r v1 e1;exact⟨rfl,_,a3 c1 c2 c3,fun v h nx e=>by rw [e];exact kP a2⟩
 ·rintro args h nx K ⟨p,q,n,r,o,l,m,k,rfl,hl,hm,hk,hx⟩;split at hx
  case h_2=>exact hx.elim
  rename_i pr e1;obtain⟨bb,u⟩:=pr;obtain⟨rfl,hx⟩:=aF.1 hx;obtain⟨a1,a2,a3⟩:=hs l m n k r u e1;obtain⟨c1,c2,c3,i⟩:=T1 (n:=n) (nx:=nx) E G J a1 hl hm hk;refine⟨_,_,3,u,[],0,⟨l,m,n,k,r,c1,c2,c3,e1,rfl,rfl,rfl,rfl,rfl⟩,i,?_⟩;simp only [nT,rI,l8,kC,pQ a2,Nat.add_zero];exact hx
 ·rintro args h nx K ⟨p,q,n,r,o,l,m,k,rfl,hl,hm,hk,hx⟩;split at hx
  case h_2=>exact hx.elim
  rename_i pr e1;obtain⟨hb,hx⟩:=aF.1 hx;exact⟨pr.2,h,nx,hx,fun K' hk'=>⟨p,q,n,r,o,l,m,k,rfl,hl,hm,hk,by rw [e1];exact aJ hb hk'⟩⟩
def wrW:List Value→Value→Value
 |[],v=>v
 |a::r,v=>.agg (v::a::r).toArray
theorem UB {ρ:Nat→Nat}{rest:List Value}(hr:c7 rest=true){k n c:Nat}:jH ρ (wrW rest (.slice (some ⟨k,0,none⟩) n c))=wrW rest (.slice (some ⟨ρ k,0,none⟩) n c):=by
 cases rest with
 |nil=>simp [wrW,jH,tr,dO,bS,dS,lH]
 |cons a r =>
  show Value.agg (Array.map (bS (lH ρ)) (_::a::r).toArray)=Value.agg (_::a::r).toArray;rw [List.map_toArray,List.map_cons];congr 2;rw [List.cons.injEq];refine⟨by simp [bS,dS,lH],?_⟩
  conv=>rhs;rw [← List.map_id (a::r)]
  exact List.map_congr_left fun v hv=>lF (bA hr hv)
theorem aEM {rest:List Value}(hr:c7 rest=true){n c:Nat}:BM 1 (wrW rest (.slice (some ⟨0,0,none⟩) n c)):=by
 cases rest with
 |nil=>exact⟨Nat.one_pos,fun h=>by cases h⟩
 |cons a r =>
  intro v hv;rcases List.mem_cons.1 hv with rfl|hv
  ·exact⟨Nat.one_pos,fun h=>by cases h⟩
  ·exact cM (bA hr hv)
def ylH (out:List δ):Heap:=[(0,.cells true false D.sz (flat D.fl out))]
def S4 (out:List δ)(rest:List Value)(k:Nat):Value:=wrW rest (.slice (some ⟨k,0,none⟩) out.length out.length)
def YW (out:List δ)(rest:List Value):KE:=fun v h _=>∃ q,v=S4 out rest q∧look h q=some (.cells true false D.sz (flat D.fl out))
theorem OS {out:List δ}{rest:List Value}(hr:c7 rest=true){v:Value}{h:Heap}{nx:Nat}(hy:YW D out rest v h nx):JJ (S4 out rest 0) (ylH D out) 1 v h nx:=by
 obtain⟨q,rfl,hq⟩:=hy;refine⟨fun _=>q,fun t v hv=>?_,fun k o hk=>?_,fun k k' o o' hk hk' _=>?_,fun k hk=>absurd hk (Nat.not_lt_zero _),Nat.zero_le _⟩
 ·rw [aD] at hv;split at hv
  ·rename_i hb;injection hv with hv;subst hv;refine⟨?_,aEM hr⟩;rw [aD,hb];show _=some (jH (fun _=>q) (wrW rest (.slice (some ⟨0,0,none⟩) out.length out.length)));rw [UB hr];rfl
  ·exact bX hv
 ·unfold ylH at hk;rw [aD] at hk;split at hk
  ·rename_i hb;injection hk with hk;subst hk;rw [← beq_true hb];exact⟨Nat.one_pos,_,hq,rfl,rfl,rfl,(cB (aI D out)).symm,fun v hv=>cM (bA (aI D out) hv)⟩
  ·exact bX hk
 ·unfold ylH at hk hk';rw [aD] at hk hk';split at hk
  ·rename_i h1;split at hk'
   ·rename_i h2;exact (beq_true h1).symm.trans (beq_true h2)
   ·exact bX hk'
  ·exact bX hk
theorem aAG {out:List δ}{rest:List Value}(hr:c7 rest=true){h:Heap}{nx:Nat}{K:KE}(hk:K (S4 out rest nx) (bM h nx (.cells true false D.sz (flat D.fl out))) (nx+1)) :
  K (jH (fun k=>nx+k) (S4 out rest 0)) (app (l8 nx (ylH D out)) (nT (ylH D out) h)) (nx+1):=by
 have hm:(flat D.fl out).map (bO (fun k=>nx+k))=flat D.fl out:=cB (aI D _);have e1:jH (fun k=>nx+k) (S4 out rest 0)=S4 out rest nx:=UB hr;have e2:app (l8 nx (ylH D out)) (nT (ylH D out) h)=bM h nx (.cells true false D.sz (flat D.fl out)):=by
  show (nx+0,aV.cells true false D.sz ((flat D.fl out).map (bO (fun k=>nx+k))))::h=_;rw [hm];rfl
 rw [e1,e2];exact hk
abbrev YS (δ:Type):=Option (Bool × List δ × List Value)
def mYX (s:List α→List β→Int→List Value→YS δ):XF:=fun args h nx K=>∃ p q n r l m,args=mapA p q n::r∧gP E h p l∧gP G h q m ∧
 (match s l m n r with|some pr=>dE pr.1 (K (S4 pr.2.1 pr.2.2 nx) (bM h nx (.cells true false D.sz (flat D.fl pr.2.1))) (nx+1))|none=>False)
theorem QF {P:Program}{C:VC}{f:Nat}{s:List α→List β→Int→List Value→YS δ}(hC:bE P C)
  (hs:∀ l m n r out rest,s l m n r=some (true,out,rest)→dU r=true∧c7 rest=true∧∀ c1 c2,C f (aE l.length m.length c1 c2 n::r) (aB E G l m) 2 (YW D out rest)):cE P f (mYX E G D s):=by
 refine (gF (S:=fun args0 h0 n0 v1 h1 j=>∃ l m n r c1 c2 out rest,s l m n r=some (true,out,rest)∧args0=aE l.length m.length c1 c2 n::r∧h0=aB E G l m∧n0=2∧v1=S4 out rest 0∧h1=ylH D out∧j=1) hC ?_).mono ?_ ?_
 ·rintro args0 h0 n0 v1 h1 j ⟨l,m,n,r,c1,c2,out,rest,e1,rfl,rfl,rfl,rfl,rfl,rfl⟩;obtain⟨a1,a2,a3⟩:=hs l m n r out rest e1;exact⟨rfl,_,a3 c1 c2,fun v h nx e=>OS D a2 e⟩
 ·rintro args h nx K ⟨p,q,n,r,l,m,rfl,hl,hm,hx⟩;split at hx
  case h_2=>exact hx.elim
  rename_i pr e1;obtain⟨bb,out,rest⟩:=pr;obtain⟨rfl,hx⟩:=aF.1 hx;obtain⟨a1,a2,a3⟩:=hs l m n r out rest e1;obtain⟨c1,c2,i⟩:=JX (n:=n) (nx:=nx) E G a1 hl hm;exact⟨_,_,2,_,_,1,⟨l,m,n,r,c1,c2,out,rest,e1,rfl,rfl,rfl,rfl,rfl,rfl⟩,i,aAG D a2 hx⟩
 ·rintro args h nx K ⟨p,q,n,r,l,m,rfl,hl,hm,hx⟩;split at hx
  case h_2=>exact hx.elim
  rename_i pr e1;obtain⟨hb,hx⟩:=aF.1 hx;exact⟨_,_,_,hx,fun K' hk'=>⟨p,q,n,r,l,m,rfl,hl,hm,by rw [e1];exact aJ hb hk'⟩⟩
def aHX (s:List α→List β→Int→List γ→List Value→YS δ):XF:=fun args h nx K=>∃ p q n r o l m k,args=mapA p q n::(r++[o])∧gP E h p l∧gP G h q m∧gP J h o k ∧
 (match s l m n k r with|some pr=>dE pr.1 (K (S4 pr.2.1 pr.2.2 nx) (bM h nx (.cells true false D.sz (flat D.fl pr.2.1))) (nx+1))|none=>False)
theorem aCT {P:Program}{C:VC}{f:Nat}{s:List α→List β→Int→List γ→List Value→YS δ}(hC:bE P C)
  (hs:∀ l m n k r out rest,s l m n k r=some (true,out,rest)→dU r=true∧c7 rest=true∧∀ c1 c2 c3,C f (aE l.length m.length c1 c2 n::(r++[.slice (some ⟨2,0,none⟩) k.length c3])) (jL E G J l m k) 3 (YW D out rest)):cE P f (aHX E G J D s):=by
 refine (gF (S:=fun args0 h0 n0 v1 h1 j=>∃ l m n k r c1 c2 c3 out rest,s l m n k r=some (true,out,rest)∧args0=aE l.length m.length c1 c2 n::(r++[.slice (some ⟨2,0,none⟩) k.length c3])∧h0=jL E G J l m k∧n0=3∧v1=S4 out rest 0∧h1=ylH D out∧j=1) hC ?_).mono ?_ ?_
 ·rintro args0 h0 n0 v1 h1 j ⟨l,m,n,k,r,c1,c2,c3,out,rest,e1,rfl,rfl,rfl,rfl,rfl,rfl⟩;obtain⟨a1,a2,a3⟩:=hs l m n k r out rest e1;exact⟨rfl,_,a3 c1 c2 c3,fun v h nx e=>OS D a2 e⟩
 ·rintro args h nx K ⟨p,q,n,r,o,l,m,k,rfl,hl,hm,hk,hx⟩;split at hx
  case h_2=>exact hx.elim
  rename_i pr e1;obtain⟨bb,out,rest⟩:=pr;obtain⟨rfl,hx⟩:=aF.1 hx;obtain⟨a1,a2,a3⟩:=hs l m n k r out rest e1;obtain⟨c1,c2,c3,i⟩:=T1 (n:=n) (nx:=nx) E G J a1 hl hm hk;exact⟨_,_,3,_,_,1,⟨l,m,n,k,r,c1,c2,c3,out,rest,e1,rfl,rfl,rfl,rfl,rfl,rfl⟩,i,aAG D a2 hx⟩
 ·rintro args h nx K ⟨p,q,n,r,o,l,m,k,rfl,hl,hm,hk,hx⟩;split at hx
  case h_2=>exact hx.elim
  rename_i pr e1;obtain⟨hb,hx⟩:=aF.1 hx;exact⟨_,_,_,hx,fun K' hk'=>⟨p,q,n,r,o,l,m,k,rfl,hl,hm,hk,by rw [e1];exact aJ hb hk'⟩⟩
end
end Go.Aw
end

noncomputable section
namespace Go.Aw
section
variable {ρ:Nat→Nat}{n0 k:Nat}{h:Heap}{o o':aV}{r:List (Nat × aV)}{wr g:Bool}{sz:Nat}{cs:List Value}
theorem iN {α:Type}{P:α→Prop}:∀ p∈([]:List α),P p:=fun _ h=>by cases h
theorem iE {e:List (Nat × Value)}{v:Value}{s:List (Nat × Value)}(h1:look e k=some (jH ρ v))(h2:ZG n0 v=true)(h3:∀ p∈s,look e p.1=some (jH ρ p.2)∧BM n0 p.2):∀ p∈(k,v)::s,look e p.1=some (jH ρ p.2)∧BM n0 p.2 :=
 List.forall_mem_cons.2 ⟨⟨h1,JS h2⟩,h3⟩
theorem iW (h1:Nat.ble (k+1) n0=true)(h2:look h (ρ k)=some o')(h4:bU ρ n0 o o')(h3:∀ p∈r,p.1<n0∧∃ o',look h (ρ p.1)=some o'∧bU ρ n0 p.2 o'):∀ p∈(k,o)::r,p.1<n0∧∃ o',look h (ρ p.1)=some o'∧bU ρ n0 p.2 o' :=
 List.forall_mem_cons.2 ⟨⟨Nat.le_of_ble_eq_true h1,_,h2,h4⟩,h3⟩
theorem iG (h1:Nat.ble (k+1) n0=true)(h2:look h (ρ k)=some (.cells wr g sz cs))(h4:c7 cs=true)(h3:∀ p∈r,p.1<n0∧∃ o',look h (ρ p.1)=some o'∧bU ρ n0 p.2 o'):∀ p∈(k,.cells wr g sz cs)::r,p.1<n0∧∃ o',look h (ρ p.1)=some o'∧bU ρ n0 p.2 o' :=
 iW h1 h2 (aM h4) h3
theorem iF {α:Type}{E:El α}{l:List α}(h1:Nat.ble (k+1) n0=true)(h2:look h (ρ k)=some (.cells wr g sz (flat E.fl l)))(h3:∀ p∈r,p.1<n0∧∃ o',look h (ρ p.1)=some o'∧bU ρ n0 p.2 o'):∀ p∈(k,.cells wr g sz (flat E.fl l))::r,p.1<n0∧∃ o',look h (ρ p.1)=some o'∧bU ρ n0 p.2 o' :=
 iG h1 h2 (aI E l) h3
theorem iC (h1:Nat.ble (k+1) n0=true)(h2:look h (ρ k)=some (.cells wr g sz (cs.map (bO ρ))))(h4:RH n0 cs=true)(h3:∀ p∈r,p.1<n0∧∃ o',look h (ρ p.1)=some o'∧bU ρ n0 p.2 o'):∀ p∈(k,.cells wr g sz cs)::r,p.1<n0∧∃ o',look h (ρ p.1)=some o'∧bU ρ n0 p.2 o' :=
 iW h1 h2 ⟨rfl,rfl,rfl,rfl,xG h4⟩ h3
theorem iJ {cs':List Value}(h1:Nat.ble (k+1) n0=true)(h2:look h (ρ k)=some (.cells wr g sz cs'))(h4:c7 cs=true)(h5:cs'=cs)(h3:∀ p∈r,p.1<n0∧∃ o',look h (ρ p.1)=some o'∧bU ρ n0 p.2 o'):∀ p∈(k,.cells wr g sz cs)::r,p.1<n0∧∃ o',look h (ρ p.1)=some o'∧bU ρ n0 p.2 o' :=
 iW h1 h2 (bG h4 h5) h3
theorem iK {k0 q:Nat}(h1:(Nat.beq k k0 || !Nat.beq k q)=true)(h3:∀ p∈r,p.1≠k0→p.1≠q):∀ p∈(k,o)::r,p.1≠k0→p.1≠q :=
 List.forall_mem_cons.2 ⟨fun hk e=>by
  simp only [Bool.or_eq_true,Bool.not_eq_true'] at h1;rcases h1 with h1|h1
  ·exact hk (beq_true h1)
  ·exact beq_false h1 e,h3⟩
end
end Go.Aw
end

noncomputable section
namespace Go.Aw
set_option maxRecDepth 100000
def aAW:List Value→Option (Bool × List (Int × Int) × Option Int)
 |[u,v]=>(match aAO u with|some s=>(match aAO v with|some t=>some (gM s&&gM t,pU s t,none)|none=>none)|none=>none)
 |_=>none
theorem WL {args:List Value}{l:List (Int × Int)}{e:Option Int}(hs:aAW args=some (true,l,e)):∃ s t,args=[sgv s,sgv t]∧(gM s&&gM t)=true∧l=pU s t∧e=none:=by
 unfold aAW at hs;split at hs
 ·split at hs
  ·rename_i s e1;split at hs
   ·rename_i t e2;injection hs with hs;injection hs with h1 h2;injection h2 with h2 h3;exact⟨s,t,by rw [J0 e1,J0 e2],h1,h2.symm,h3.symm⟩
   ·cases hs
  ·cases hs
 ·cases hs
def eE (v:Value)(j:Int):List (Nat × Value):=[(2,.pointer (some ⟨0,0,none⟩)),(3,.pointer (some ⟨1,0,none⟩)),(5,v),(6,.slice (some ⟨2,0,none⟩) 4 4),(7,iv j)]
def IW (s:Sg):List Value:=[iv s.1.1,iv s.1.2,iv s.2.1,iv s.2.2]
def hE (s t:Sg)(ps:List (Int × Int)):Heap:=[(0,.cells true false 1 (IW s)),(1,.cells true false 1 (IW t)),(2,.cells true false 2 (flat aR.fl ps))]
def EU (s t:Sg)(ps out:List (Int × Int)):Heap:=[(0,.cells true false 1 (IW s)),(1,.cells true false 1 (IW t)),(2,.cells true false 2 (flat aR.fl ps)),(3,.cells true false 2 (flat aR.fl out))]
def eI (v:Value)(j:Int)(b1 b2 b:Bool)(k:Int):List (Nat × Value):=[(2,.pointer (some ⟨0,0,none⟩)),(3,.pointer (some ⟨1,0,none⟩)),(5,v),(6,.slice (some ⟨2,0,none⟩) 4 4),(7,iv j),(8,.bool b1),(9,.bool b2),(10,.bool b),(11,iv k)]
theorem VV (p q:Int × Int)(l:List (Int × Int)):lR p (l++[q])=(lR p l || jE q p):=by
 induction l with
 |nil=>simp [lR]
 |cons a r ih=>simp only [List.cons_append,lR,ih,Bool.or_assoc]
theorem E5 {p:Int × Int}{l:List (Int × Int)}{k:Nat}(h:k<l.length):lR p (l.take (k+1))=(lR p (l.take k) || jE (iM l k) p):=by
 rw [List.take_add_one,List.getElem?_eq_getElem h,nO h,← VV];rfl
theorem UW {s t:Sg}(l out:List (Int × Int)):(l.foldl (lI s t) out).length≤out.length+l.length:=by
 induction l generalizing out with
 |nil=>simp
 |cons a r ih =>
  have:=ih (lI s t out a);have h2:(lI s t out a).length≤out.length+1:=by
   unfold lI;split <;> simp
  simp only [List.foldl_cons,List.length_cons];omega
theorem OL {s t:Sg}{l:List (Int × Int)}(h:l.length≤4):(l.foldl (lI s t) []).length≤4:=by
 have:=UW (s:=s) (t:=t) l [];simp at this;omega
theorem VO (l:List (Int × Int))(p:Int × Int):List.take (l.length*2) (List.drop 0 (flat aR.fl l))++[iv p.1,iv p.2]=flat aR.fl (l++[p]):=by
 rw [rU,List.drop_zero,List.take_of_length_le (by rw [bD];exact Nat.le_refl _)];rfl
def X70:Nat × XF:=(264,fX aR aAW)
theorem x70:cE Go.Proofs.Tryz.prog X70.1 X70.2:=aIf aR (aK (xl:=[X67]) (.cons x67 .nil)) fun args l e hs=>by
 obtain⟨s,t,rfl,hw,rfl,rfl⟩:=WL hs;refine⟨rfl,?_⟩;clear hs;obtain⟨⟨ax,ay⟩,⟨bx,b2⟩⟩:=s;obtain⟨⟨cx,cy⟩,⟨dx,dy⟩⟩:=t;obtain⟨ps,hps⟩:∃ ps:List (Int × Int),ps=[(ax,ay),(bx,b2),(cx,cy),(dx,dy)]:=⟨_,rfl⟩;(conv=>whnf)
 refine⟨fun n e h nx=>∃ (i:Nat) (j:Int) (out:List (Int × Int)),j=i∧i≤4∧n=4 - i∧out=(ps.take i).foldl (lI ((ax,ay),(bx,b2)) ((cx,cy),(dx,dy))) [] ∧
  ((out=[]∧e=eE (.slice none 0 0) j∧h=hE ((ax,ay),(bx,b2)) ((cx,cy),(dx,dy)) ps∧nx=3)∨(0<out.length∧e=eE (.slice (some ⟨3,0,none⟩) out.length out.length) j∧h=EU ((ax,ay),(bx,b2)) ((cx,cy),(dx,dy)) ps out∧nx=4)),⟨4,?_⟩,?_⟩
 ·subst hps;refine aL (e0:=eE (.slice none 0 0) 0) (h0:=hE ((ax,ay),(bx,b2)) ((cx,cy),(dx,dy)) [(ax,ay),(bx,b2),(cx,cy),(dx,dy)]) (n0:=3) ⟨0,0,[],rfl,by decide,rfl,rfl,.inl ⟨rfl,rfl,rfl,rfl⟩⟩ ?_ ?_ (by decide)
  ·unfold eE;((repeat' refine iE rfl rfl ?_);exact iN)
  ·unfold hE;((repeat'(first|refine iF rfl rfl ?_|refine iJ rfl rfl rfl rfl ?_));exact iN)
 ·have hl4:ps.length=4:=(by rw [hps];rfl);simp only [Bool.and_eq_true] at hw;have hww:∀ p∈ps,wide p=true:=by
   have h1:=hw.1;have h2:=hw.2;simp only [gM,Bool.and_eq_true] at h1 h2;subst hps;exact List.forall_mem_cons.2 ⟨h1.1,List.forall_mem_cons.2 ⟨h1.2,List.forall_mem_cons.2 ⟨h2.1,List.forall_mem_cons.2 ⟨h2.2,fun _ h=>(by cases h)⟩⟩⟩⟩
  rintro n e h nx ⟨i,j,out,hj,hi,rfl,ho,⟨ho0,rfl,rfl,rfl⟩|⟨hol,rfl,rfl,rfl⟩⟩
  ·unfold eE hE;((conv=>whnf);refine bm (fun g1=>?_) (fun g1=>?_))
   ·have hlt:i<ps.length:=(by simp [aA,aC] at g1;omega);have hwp:wide (iM ps i)=true:=(by rw [nO hlt];exact hww _ (List.getElem_mem hlt));((conv=>whnf);refine bm (fun g2=>?_) (fun g2=>?_))
    ·(conv=>whnf);refine oY (L4 ps hlt ?_) ?_
     ·simp [aA,aC];omega
     ((conv=>whnf);refine bm (fun g3=>?_) (fun g3=>?_))
     ·((conv=>whnf);refine bm (fun g4=>?_) (fun g4=>?_))
      ·(conv=>whnf);refine oY (L4 ps hlt ?_) ?_
       ·simp [aA,aC];omega
       ((conv=>whnf);refine bm (fun g5=>?_) (fun g5=>?_))
       ·(conv=>whnf);refine⟨fun n e h nx=>n=0∧e=eI (.slice none 0 0) j (oU (iM ps i) ((ax,ay),(bx,b2))) (oU (iM ps i) ((cx,cy),(dx,dy))) false 0∧h=hE ((ax,ay),(bx,b2)) ((cx,cy),(dx,dy)) ps∧nx=3,⟨0,?_⟩,?_⟩
        ·refine aL (e0:=eI (.slice none 0 0) j (oU (iM ps i) ((ax,ay),(bx,b2))) (oU (iM ps i) ((cx,cy),(dx,dy))) false 0) (h0:=hE ((ax,ay),(bx,b2)) ((cx,cy),(dx,dy)) ps) (n0:=3) ⟨rfl,rfl,rfl,rfl⟩ ?_ ?_ (by decide)
         ·unfold eI;((repeat' refine iE rfl rfl ?_);exact iN)
         ·unfold hE;((repeat'(first|refine iF rfl rfl ?_|refine iJ rfl rfl rfl rfl ?_));exact iN)
        ·rintro n e h nx ⟨rfl,rfl,rfl,rfl⟩;have hat:ps.take (i+1)=ps.take i++[iM ps i]:=by
          rw [nO hlt,List.take_add_one,List.getElem?_eq_getElem hlt];rfl
         have ho':(ps.take (i+1)).foldl (lI ((ax,ay),(bx,b2)) ((cx,cy),(dx,dy))) []=lI ((ax,ay),(bx,b2)) ((cx,cy),(dx,dy)) [] (iM ps i):=by
          rw [hat,List.foldl_append,← ho,ho0];rfl
         unfold eI hE
         repeat' first
          |((conv=>whnf)
            refine oY (L4 ps hlt ?_) ?_
            ·simp [aA,aC];omega)
          |(((conv=>whnf);refine bm (fun g=>?_) (fun g=>?_)))
         all_goals (conv=>whnf)
         ·clear g1 g2 g3 g4 g5;rename_i ga gb _;refine⟨4 - (i+1),by omega,?_⟩
          refine iU (e0:=eE (.slice (some ⟨3,0,none⟩) 1 1) (j+1)) (h0:=EU ((ax,ay),(bx,b2)) ((cx,cy),(dx,dy)) ps [iM ps i]) (n0:=4) 3 4 (by decide) (by decide)
           ⟨i+1,j+1,[iM ps i],by omega,by omega,rfl,?_,.inr ⟨Nat.one_pos,rfl,rfl,rfl⟩⟩ ?_ ?_ ?_
          ·simp only [iB,beq_iff_eq] at ga gb;rw [ho',lI,if_pos ⟨ga,gb,rfl⟩];rfl
          ·unfold eE;((repeat' refine iE rfl rfl ?_);exact iN)
          ·unfold EU;((repeat'(first|refine iF rfl rfl ?_|refine iJ rfl rfl rfl rfl ?_));exact iN)
          ·unfold EU;((repeat' refine iK rfl ?_);exact iN)
         ·exfalso;simp only [oZ,iQ,aH,Bool.eq_false_iff,ne_eq,Bool.and_eq_true,decide_eq_true_eq] at g;omega
         ·exfalso;rw [g] at g2;cases g2
         ·clear g1 g2 g3 g4 g5;rename_i ga gb;refine⟨4 - (i+1),by omega,?_⟩;refine aL (e0:=eE (.slice none 0 0) (j+1)) (h0:=hE ((ax,ay),(bx,b2)) ((cx,cy),(dx,dy)) ps) (n0:=3) ⟨i+1,j+1,[],by omega,by omega,rfl,?_,.inl ⟨rfl,rfl,rfl,rfl⟩⟩ ?_ ?_ (by decide)
          ·simp only [iB,beq_eq_false_iff_ne,ne_eq] at gb;rw [ho',lI,if_neg fun h=>gb h.2.1]
          ·unfold eE;((repeat' refine iE rfl rfl ?_);exact iN)
          ·unfold hE;((repeat'(first|refine iF rfl rfl ?_|refine iJ rfl rfl rfl rfl ?_));exact iN)
         ·exfalso;simp only [oZ,iQ,aH,Bool.eq_false_iff,ne_eq,Bool.and_eq_true,decide_eq_true_eq] at g;omega
         ·clear g1 g2 g3 g4 g5;rename_i ga;refine⟨4 - (i+1),by omega,?_⟩;refine aL (e0:=eE (.slice none 0 0) (j+1)) (h0:=hE ((ax,ay),(bx,b2)) ((cx,cy),(dx,dy)) ps) (n0:=3) ⟨i+1,j+1,[],by omega,by omega,rfl,?_,.inl ⟨rfl,rfl,rfl,rfl⟩⟩ ?_ ?_ (by decide)
          ·simp only [iB,beq_eq_false_iff_ne,ne_eq] at ga;rw [ho',lI,if_neg fun h=>ga h.1]
          ·unfold eE;((repeat' refine iE rfl rfl ?_);exact iN)
          ·unfold hE;((repeat'(first|refine iF rfl rfl ?_|refine iJ rfl rfl rfl rfl ?_));exact iN)
         ·exfalso;simp only [oZ,iQ,aH,Bool.eq_false_iff,ne_eq,Bool.and_eq_true,decide_eq_true_eq] at g;omega
       ·exfalso;simp only [hwp,Bool.true_and] at g5;rw [show gM _=true from hw.2] at g5;cases g5
      ·exfalso;rw [g4] at g2;cases g2
     ·exfalso;simp only [hwp,Bool.true_and] at g3;rw [show gM _=true from hw.1] at g3;cases g3
    ·exfalso;simp only [nN,R9,tP,oK,Bool.eq_false_iff,ne_eq,Bool.and_eq_true,decide_eq_true_eq] at g1 g2;omega
   ·(conv=>whnf);have h4:i=4:=(by simp only [nN,oK,decide_eq_false_iff_not] at g1;omega);subst h4;have:pU ((ax,ay),(bx,b2)) ((cx,cy),(dx,dy))=[]:=by
     rw [← ho0,ho,hps];rfl
    rw [this];rfl
  ·have out_len:out.length≤4:=(by rw [ho];exact OL (by rw [List.length_take];omega));unfold eE EU;((conv=>whnf);refine bm (fun g1=>?_) (fun g1=>?_))
   ·have hlt:i<ps.length:=(by simp [aA,aC] at g1;omega);have hwp:wide (iM ps i)=true:=(by rw [nO hlt];exact hww _ (List.getElem_mem hlt));((conv=>whnf);refine bm (fun g2=>?_) (fun g2=>?_))
    ·(conv=>whnf);refine oY (L4 ps hlt ?_) ?_
     ·simp [aA,aC];omega
     ((conv=>whnf);refine bm (fun g3=>?_) (fun g3=>?_))
     ·((conv=>whnf);refine bm (fun g4=>?_) (fun g4=>?_))
      ·(conv=>whnf);refine oY (L4 ps hlt ?_) ?_
       ·simp [aA,aC];omega
       ((conv=>whnf);refine bm (fun g5=>?_) (fun g5=>?_))
       ·(conv=>whnf);refine⟨fun n e h nx=>∃ (k:Nat) (jk:Int),jk=k∧k≤out.length∧n=out.length - k∧e=eI (.slice (some ⟨3,0,none⟩) out.length out.length) j (oU (iM ps i) ((ax,ay),(bx,b2))) (oU (iM ps i) ((cx,cy),(dx,dy))) (lR (iM ps i) (out.take k)) jk∧h=EU ((ax,ay),(bx,b2)) ((cx,cy),(dx,dy)) ps out∧nx=4,⟨out.length,?_⟩,?_⟩
        ·refine aL (e0:=eI (.slice (some ⟨3,0,none⟩) out.length out.length) j (oU (iM ps i) ((ax,ay),(bx,b2))) (oU (iM ps i) ((cx,cy),(dx,dy))) false 0) (h0:=EU ((ax,ay),(bx,b2)) ((cx,cy),(dx,dy)) ps out) (n0:=4) ⟨0,0,rfl,Nat.zero_le _,rfl,rfl,rfl,rfl⟩ ?_ ?_ (by decide)
         ·unfold eI;((repeat' refine iE rfl rfl ?_);exact iN)
         ·unfold EU;((repeat'(first|refine iF rfl rfl ?_|refine iJ rfl rfl rfl rfl ?_));exact iN)
        ·rintro n e h nx ⟨k,jk,hjk,hk,rfl,rfl,rfl,rfl⟩;have hat:ps.take (i+1)=ps.take i++[iM ps i]:=by
          rw [nO hlt,List.take_add_one,List.getElem?_eq_getElem hlt];rfl
         have ho':(ps.take (i+1)).foldl (lI ((ax,ay),(bx,b2)) ((cx,cy),(dx,dy))) []=lI ((ax,ay),(bx,b2)) ((cx,cy),(dx,dy)) out (iM ps i):=by
          rw [hat,List.foldl_append,← ho];rfl
         unfold eI EU;((conv=>whnf);refine bm (fun f1=>?_) (fun f1=>?_))
         ·have hltk:k<out.length:=by simp [aA,aC] at f1;omega
          repeat' first
           |((conv=>whnf)
             refine oY (L4 out hltk ?_) ?_
             ·simp [aA,aC];omega)
           |((conv=>whnf)
             refine oY (L4 ps hlt ?_) ?_
             ·simp [aA,aC];omega)
           |(((conv=>whnf);refine bm (fun g=>?_) (fun g=>?_)))
          all_goals (conv=>whnf)
          ·clear g1 g2 g3 g4 g5;rename_i ga _ _;refine⟨out.length - (k+1),by omega,?_⟩;refine aL (e0:=eI (.slice (some ⟨3,0,none⟩) out.length out.length) j (oU (iM ps i) ((ax,ay),(bx,b2))) (oU (iM ps i) ((cx,cy),(dx,dy))) (jE (iM out k) (iM ps i)) (jk+1)) (h0:=EU ((ax,ay),(bx,b2)) ((cx,cy),(dx,dy)) ps out) (n0:=4) ⟨k+1,jk+1,by omega,hltk,rfl,?_,rfl,rfl⟩ ?_ ?_ (by decide)
           ·simp only [iB,beq_iff_eq,beq_eq_false_iff_ne,ne_eq,Bool.not_eq_false] at ga;rw [E5 hltk,ga];rfl
           ·unfold eI;((repeat' refine iE rfl rfl ?_);exact iN)
           ·unfold EU;((repeat'(first|refine iF rfl rfl ?_|refine iJ rfl rfl rfl rfl ?_));exact iN)
          ·exfalso;have:=out_len;simp only [oZ,iQ,aH,Bool.eq_false_iff,ne_eq,Bool.and_eq_true,decide_eq_true_eq] at g;omega
          ·exfalso;rw [g] at g2;cases g2
          ·exfalso;simp only [nN,R9,tP,oK,Bool.eq_false_iff,ne_eq,Bool.and_eq_true,decide_eq_true_eq] at g;omega
          ·clear g1 g2 g3 g4 g5;rename_i ga;refine⟨out.length - (k+1),by omega,?_⟩;refine aL (e0:=eI (.slice (some ⟨3,0,none⟩) out.length out.length) j (oU (iM ps i) ((ax,ay),(bx,b2))) (oU (iM ps i) ((cx,cy),(dx,dy))) true (jk+1)) (h0:=EU ((ax,ay),(bx,b2)) ((cx,cy),(dx,dy)) ps out) (n0:=4) ⟨k+1,jk+1,by omega,hltk,rfl,?_,rfl,rfl⟩ ?_ ?_ (by decide)
           ·simp only [iB,beq_iff_eq,beq_eq_false_iff_ne,ne_eq,Bool.not_eq_false] at ga;rw [E5 hltk,ga];rfl
           ·unfold eI;((repeat' refine iE rfl rfl ?_);exact iN)
           ·unfold EU;((repeat'(first|refine iF rfl rfl ?_|refine iJ rfl rfl rfl rfl ?_));exact iN)
          ·exfalso;simp only [oZ,iQ,aH,Bool.eq_false_iff,ne_eq,Bool.and_eq_true,decide_eq_true_eq] at g;omega
         ·have hkk:k=out.length:=by simp only [nN,oK,decide_eq_false_iff_not] at f1;omega
          repeat' first
           |((conv=>whnf)
             refine oY (L4 ps hlt ?_) ?_
             ·simp [aA,aC];omega)
           |(((conv=>whnf);refine bm (fun g=>?_) (fun g=>?_)))
          all_goals (conv=>whnf)
          ·exfalso;rename_i gc _;have:=Nat.le_of_ble_eq_true gc;omega
          ·exfalso;rename_i gc _;have:=Nat.le_of_ble_eq_true gc;omega
          ·exfalso;rename_i gc;have:=Nat.le_of_ble_eq_true gc;omega
          ·clear g1 g2 g3 g4 g5;rename_i ga gb gx _ _ _;refine⟨4 - (i+1),by omega,?_⟩
           refine iU (e0:=eE (.slice (some ⟨3,0,none⟩) (out.length+1) (out.length+1)) (j+1)) (h0:=EU ((ax,ay),(bx,b2)) ((cx,cy),(dx,dy)) ps (out++[iM ps i])) (n0:=4) 3 5 (by decide) (by decide)
            ⟨i+1,j+1,out++[iM ps i],by omega,by omega,rfl,?_,.inr ⟨by rw [List.length_append];exact Nat.succ_pos _,by rw [List.length_append];rfl,rfl,rfl⟩⟩ ?_ ?_ ?_
           ·simp only [iB,kV,beq_iff_eq,Bool.not_eq_true'] at ga gb gx;rw [ho',lI,if_pos ⟨ga,gb,by rw [hkk,List.take_length] at gx;exact gx⟩]
           ·unfold eE;((repeat' refine iE rfl rfl ?_);exact iN)
           ·unfold EU;((repeat'(first|refine iW rfl rfl (bG (aI aR _) (VO out _)) ?_|refine iF rfl rfl ?_|refine iJ rfl rfl rfl rfl ?_));exact iN)
           ·unfold EU;((repeat' refine iK rfl ?_);exact iN)
          ·exfalso;simp only [oZ,iQ,aH,Bool.eq_false_iff,ne_eq,Bool.and_eq_true,decide_eq_true_eq] at g;omega
          ·exfalso;have hf:(flat aR.fl out).length=out.length*2:=bD aR out;have hol4:out.length≤4:=(by rw [ho];exact OL (by rw [List.length_take];omega));simp only [tP,hf] at g;revert g;simp;omega
          ·exfalso;rw [g] at g2;cases g2
          ·clear g1 g2 g3 g4 g5;rename_i gx;refine⟨4 - (i+1),by omega,?_⟩;refine aL (e0:=eE (.slice (some ⟨3,0,none⟩) out.length out.length) (j+1)) (h0:=EU ((ax,ay),(bx,b2)) ((cx,cy),(dx,dy)) ps out) (n0:=4) ⟨i+1,j+1,out,by omega,by omega,rfl,?_,.inr ⟨hol,rfl,rfl,rfl⟩⟩ ?_ ?_ (by decide)
           ·simp only [iB,kV,beq_eq_false_iff_ne,ne_eq,Bool.not_eq_false'] at gx;rw [ho',lI,if_neg fun h=>by rw [hkk,List.take_length] at gx;rw [gx] at h;exact absurd h.2.2 (by decide)]
           ·unfold eE;((repeat' refine iE rfl rfl ?_);exact iN)
           ·unfold EU;((repeat'(first|refine iF rfl rfl ?_|refine iJ rfl rfl rfl rfl ?_));exact iN)
          ·exfalso;simp only [oZ,iQ,aH,Bool.eq_false_iff,ne_eq,Bool.and_eq_true,decide_eq_true_eq] at g;omega
          ·clear g1 g2 g3 g4 g5;rename_i gx;refine⟨4 - (i+1),by omega,?_⟩;refine aL (e0:=eE (.slice (some ⟨3,0,none⟩) out.length out.length) (j+1)) (h0:=EU ((ax,ay),(bx,b2)) ((cx,cy),(dx,dy)) ps out) (n0:=4) ⟨i+1,j+1,out,by omega,by omega,rfl,?_,.inr ⟨hol,rfl,rfl,rfl⟩⟩ ?_ ?_ (by decide)
           ·simp only [iB,kV,beq_eq_false_iff_ne,ne_eq,Bool.not_eq_false'] at gx;rw [ho',lI,if_neg fun h=>gx h.2.1]
           ·unfold eE;((repeat' refine iE rfl rfl ?_);exact iN)
           ·unfold EU;((repeat'(first|refine iF rfl rfl ?_|refine iJ rfl rfl rfl rfl ?_));exact iN)
          ·exfalso;simp only [oZ,iQ,aH,Bool.eq_false_iff,ne_eq,Bool.and_eq_true,decide_eq_true_eq] at g;omega
          ·clear g1 g2 g3 g4 g5;rename_i gx;refine⟨4 - (i+1),by omega,?_⟩;refine aL (e0:=eE (.slice (some ⟨3,0,none⟩) out.length out.length) (j+1)) (h0:=EU ((ax,ay),(bx,b2)) ((cx,cy),(dx,dy)) ps out) (n0:=4) ⟨i+1,j+1,out,by omega,by omega,rfl,?_,.inr ⟨hol,rfl,rfl,rfl⟩⟩ ?_ ?_ (by decide)
           ·simp only [iB,kV,beq_eq_false_iff_ne,ne_eq,Bool.not_eq_false'] at gx;rw [ho',lI,if_neg fun h=>gx h.1]
           ·unfold eE;((repeat' refine iE rfl rfl ?_);exact iN)
           ·unfold EU;((repeat'(first|refine iF rfl rfl ?_|refine iJ rfl rfl rfl rfl ?_));exact iN)
          ·exfalso;simp only [oZ,iQ,aH,Bool.eq_false_iff,ne_eq,Bool.and_eq_true,decide_eq_true_eq] at g;omega
       ·exfalso;simp only [hwp,Bool.true_and] at g5;rw [show gM _=true from hw.2] at g5;cases g5
      ·exfalso;rw [g4] at g2;cases g2
     ·exfalso;simp only [hwp,Bool.true_and] at g3;rw [show gM _=true from hw.1] at g3;cases g3
    ·exfalso;simp only [nN,R9,tP,oK,Bool.eq_false_iff,ne_eq,Bool.and_eq_true,decide_eq_true_eq] at g1 g2;omega
   ·(conv=>whnf);have h4:i=4:=(by simp only [nN,oK,decide_eq_false_iff_not] at g1;omega);subst h4;have:pU ((ax,ay),(bx,b2)) ((cx,cy),(dx,dy))=out:=by
     rw [ho,hps];rfl
    rw [this];exact v7 (q:=3) (h:=EU ((ax,ay),(bx,b2)) ((cx,cy),(dx,dy)) ps out) (nx:=4) (e:=none) aR hol rfl
end Go.Aw
end
