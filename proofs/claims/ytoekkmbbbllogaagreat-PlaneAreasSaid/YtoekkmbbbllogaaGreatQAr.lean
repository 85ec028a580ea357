/-
  Parts of a proof. No condition.
-/
import Derived.Test.YtoekkmbbbllogaaGreatQAq
set_option linter.unusedSimpArgs false
set_option linter.unusedVariables false
noncomputable section
namespace Go.Aw
open Go.RowKit
def memF (f:Nat):List Nat→Bool
 |[]=>false
 |g::r=>Nat.beq f g || memF f r
def mixC (c:Cfg)(vs:List Nat)(X:Nat→Option XF):VC:=fun f args h nx K=>match memF f vs with
 |true=>vcall c 3 false f args h nx K
 |false=>CX X f args h nx K
theorem mixC_ok {P:Program}{c:Cfg}(hc:CfgOK P c){vs:List Nat}{X:Nat→Option XF}(hX:∀ f x,X f=some x→XOK P f x):CallsOK P (mixC c vs X):=by
 intro f args h nx K hl
 unfold mixC at hl
 split at hl
 ·exact (vcall_ok hc 3).1 f args h nx K hl
 ·exact CX_ok hX f args h nx K hl
theorem mixC_det {P:Program}{c:Cfg}(hc:CfgOK P c){vs:List Nat}{X:Nat→Option XF}(hX:∀ f x,X f=some x→XOK P f x):DetC (mixC c vs X):=by
 intro f args h nx
 cases hm:memF f vs with
 |true =>
  have e:(fun K=>mixC c vs X f args h nx K)=fun K=>vcall c 3 false f args h nx K:=by
   funext K
   unfold mixC
   rw [hm]
  show DetE (fun K=>mixC c vs X f args h nx K)
  rw [e]
  exact (vcall_ok hc 3).2.2.1 f args h nx
 |false =>
  have e:(fun K=>mixC c vs X f args h nx K)=fun K=>CX X f args h nx K:=by
   funext K
   unfold mixC
   rw [hm]
  show DetE (fun K=>mixC c vs X f args h nx K)
  rw [e]
  exact CX_det hX f args h nx
section
variable {α β:Type}(E:El α)
def vOf (l:List α)(e:Option Int):Value:=match l with
 |[]=>wrapV e (.slice none 0 0)
 |a::r=>wrapV e (.slice (some ⟨0,0,none⟩) (a::r).length (a::r).length)
def hOf (l:List α):Heap:=match l with
 |[]=>[]
 |a::r=>[(0,.cells true false E.sz (flat E.fl (a::r)))]
def mOf (l:List α):Nat:=match l with
 |[]=>0
 |_::_=>1
theorem Yields_Outc {l:List α}{e:Option Int}{v:Value}{h:Heap}{nx:Nat}(hv:Yields E l e v h nx):Outc (vOf l e) (hOf E l) (mOf l) v h nx:=by
 cases l with
 |nil =>
  rw [show v=_ from hv]
  exact Outc_g (wrapV_nil e)
 |cons a r =>
  obtain⟨q,rfl,hq⟩:=hv
  refine⟨fun _=>q,⟨fun t u hu=>?_,fun k o hk=>?_,fun k k' o o' hk hk' _=>?_,fun k hk=>absurd hk (Nat.not_lt_zero k),Nat.zero_le _⟩⟩
  ·rw [look_cons] at hu
   split at hu
   ·rename_i hb
    injection hu with hu
    subst hu
    exact⟨by rw [look_cons,hb];show _=some (ren (fun _=>q) (wrapV e (.slice (some ⟨0,0,none⟩) (a::r).length (a::r).length)));rw [wrapV_ren],wrapV_nm e _ _⟩
   ·exact noLook hu
  ·rw [show hOf E (a::r)=[(0,.cells true false E.sz (flat E.fl (a::r)))] from rfl,look_cons] at hk
   split at hk
   ·rename_i hb
    injection hk with hk
    subst hk
    exact⟨by rw [← beq_true hb];exact Nat.one_pos,_,hq,ObjRen_g (flat_g E _)⟩
   ·exact noLook hk
  ·rw [show hOf E (a::r)=[(0,.cells true false E.sz (flat E.fl (a::r)))] from rfl,look_cons] at hk hk'
   split at hk
   ·rename_i hb1
    split at hk'
    ·rename_i hb2;exact (beq_true hb1).symm.trans (beq_true hb2)
    ·exact noLook hk'
   ·exact noLook hk
def outK (l:List α)(e:Option Int)(h:Heap)(nx:Nat)(K:KE):Prop:=match l with
 |[]=>K (wrapV e (.slice none 0 0)) h nx
 |a::r=>K (wrapV e (.slice (some ⟨nx,0,none⟩) (a::r).length (a::r).length)) (hput h nx (.cells true false E.sz (flat E.fl (a::r)))) (nx+1)
theorem outK_eq {l:List α}{e:Option Int}{h:Heap}{nx:Nat}{K:KE}(hk:outK E l e h nx K):K (ren (fun k=>nx+k) (vOf l e)) (app (shH nx (hOf E l)) (past (hOf E l) h)) (nx+mOf l):=by
 cases l with
 |nil =>
  show K (ren (fun k=>nx+k) (wrapV e (.slice none 0 0))) (app [] h) (nx+0)
  rw [ren_g (wrapV_nil e)]
  exact hk
 |cons a r =>
  have hm:(flat E.fl (a::r)).map (ren1 (fun k=>nx+k))=flat E.fl (a::r):=map_trS_g (flat_g E _)
  show K (ren (fun k=>nx+k) (wrapV e (.slice (some ⟨0,0,none⟩) (a::r).length (a::r).length))) (app [(nx+0,.cells true false E.sz ((flat E.fl (a::r)).map (ren1 (fun k=>nx+k))))] h) (nx+1)
  rw [wrapV_ren,hm]
  exact hk
theorem cellsH_of (l:List α):cellsH (hOf E l)=true:=by cases l <;> rfl
def yOf (T:List Value→Heap→Nat→List α→Option Int→Prop):XF:=xOf fun args0 h0 n0 v1 h1 m=>∃ l e,T args0 h0 n0 l e∧v1=vOf l e∧h1=hOf E l∧m=mOf l
theorem yOf_ok {P:Program}{C:VC}{f:Nat}{T:List Value→Heap→Nat→List α→Option Int→Prop}(hC:CallsOK P C)(hT:∀ args0 h0 n0 l e,T args0 h0 n0 l e→C f args0 h0 n0 (Yields E l e)):XOK P f (yOf E T) :=
 xOf_ok hC fun args0 h0 n0 v1 h1 m ⟨l,e,ht,hv,hh,hm⟩=>by
  subst hv hh hm
  exact⟨cellsH_of E l,_,hT _ _ _ _ _ ht,fun v h nx hq=>Yields_Outc E hq⟩
theorem yOf_use {T:List Value→Heap→Nat→List α→Option Int→Prop}{args0:List Value}{h0:Heap}{n0:Nat}{l:List α}{e:Option Int}{args:List Value}{h:Heap}{nx:Nat}{K:KE}(ht:T args0 h0 n0 l e)(hi:In args0 h0 n0 args h nx)(hk:outK E l e h nx K):yOf E T args h nx K :=
 ⟨args0,h0,n0,_,_,_,⟨l,e,ht,rfl,rfl,rfl⟩,hi,outK_eq E hk⟩
def rfX (E2:El β)(s:List α→List Value→Option (Bool × List β × Option Int)):XF:=fun args h nx K=>match args with
 |v::r=>∃ l,LsAt E h v l∧(match s l r with|some p=>must p.1 (outK E2 p.2.1 p.2.2 h nx K)|none=>False)
 |_=>False
theorem rfX_ok (E2:El β){P:Program}{C:VC}{f:Nat}{s:List α→List Value→Option (Bool × List β × Option Int)}(hC:CallsOK P C)
  (hs:∀ l r out e,s l r=some (true,out,e)→allGA r=true∧∀ c,C f (.slice (some ⟨0,0,none⟩) l.length c::r) [(0,.cells false true E.sz (flat E.fl l))] 1 (Yields E2 out e)):XOK P f (rfX E E2 s):=by
 refine (yOf_ok E2 (T:=fun args0 h0 n0 out e=>∃ l r c,s l r=some (true,out,e)∧args0=.slice (some ⟨0,0,none⟩) l.length c::r∧h0=[(0,.cells false true E.sz (flat E.fl l))]∧n0=1) hC ?_).mono ?_ ?_
 ·rintro args0 h0 n0 out e ⟨l,r,c,e1,rfl,rfl,rfl⟩
  exact (hs l r out e e1).2 c
 ·intro args h nx K hx
  unfold rfX at hx
  split at hx
  case h_2=>exact hx.elim
  rename_i v r
  obtain⟨l,hl,hx⟩:=hx
  split at hx
  case h_2=>exact hx.elim
  rename_i p e1
  obtain⟨b,out,e⟩:=p
  obtain⟨rfl,hx⟩:=must_iff.1 hx
  obtain⟨a1,a3⟩:=hs l r out e e1
  unfold LsAt at hl
  split at hl
  ·rename_i n c
   obtain⟨rfl,rfl,rfl⟩:=hl
   exact yOf_use E2 ⟨[],r,0,e1,rfl,rfl,rfl⟩ (In_nil a1 true E.sz E.pos) hx
  ·rename_i k o n c
   obtain⟨rfl,wr,g,sz,cs,hk,hcs⟩:=hl
   exact yOf_use E2 ⟨l,r,c,e1,rfl,rfl,rfl⟩ (In_sl a1 hk hcs (flat_g E l) true E.sz E.pos) hx
  ·exact hl.elim
 ·intro args h nx K hx
  unfold rfX at hx
  split at hx
  case h_2=>exact hx.elim
  rename_i v r
  obtain⟨l,hl,hx⟩:=hx
  split at hx
  case h_2=>exact hx.elim
  rename_i p e1
  obtain⟨hb,hx⟩:=must_iff.1 hx
  obtain⟨b,out,e⟩:=p
  cases out with
  |nil=>exact⟨_,_,_,hx,fun K' hk=>⟨l,hl,by rw [e1];exact must_of hb hk⟩⟩
  |cons a t=>exact⟨_,_,_,hx,fun K' hk=>⟨l,hl,by rw [e1];exact must_of hb hk⟩⟩
end
section
variable {α:Type}(E:El α)
theorem In_two {a0 b0 a b:Value}{o1 o2:AObj}{h:Heap}{nx n1 c1 n2 c2:Nat}(ha0:a0=.slice (some ⟨0,0,none⟩) n1 c1)(hb0:b0=.slice (some ⟨0,0,none⟩) n2 c2)
  (h1:In [a0] [(0,o1)] 1 [a] h nx) (h2:In [b0] [(0,o2)] 1 [b] h nx) (g1:∃ sz cs,o1=.cells false true sz cs∧allG cs=true) (g2:∃ sz cs,o2=.cells false true sz cs∧allG cs=true) :
  In [a0,.slice (some ⟨1,0,none⟩) n2 c2] [(0,o1),(1,o2)] 2 [a,b] h nx:=by
 subst ha0 hb0
 obtain⟨s1,cs1,rfl,gc1⟩:=g1
 obtain⟨s2,cs2,rfl,gc2⟩:=g2
 intro ι B w H hs
 obtain⟨ι1,e1,k1,R1⟩:=h1 ι B w H (fun v hv=>hs v (by cases hv with|head=>exact .head _|tail _ hm=>cases hm))
 obtain⟨ι2,e2,k2,R2⟩:=h2 ι B w H (fun v hv=>hs v (by cases hv with|head=>exact .tail _ (.head _)|tail _ hm=>cases hm))
 simp only [List.map_cons,List.map_nil,List.cons.injEq,and_true] at e1 e2
 have q1:=R1.obj 0 _ rfl
 have q2:=R2.obj 0 _ rfl
 have kk1:=k1 _ (.head _)
 have kk2:=k2 _ (.head _)
 refine⟨fun k=>if k=0 then ι1 0 else ι2 0,?_,?_,⟨?_,?_,?_,Nat.le_refl _,?_⟩⟩
 ·simp only [List.map_cons,List.map_nil,e1,e2]
  rfl
 ·intro v hv
  cases hv with
  |head=>exact⟨show (0:Nat)<2 by decide,kk1.2⟩
  |tail _ hm =>
   cases hm with
   |head=>exact⟨show (1:Nat)<2 by decide,kk2.2⟩
   |tail _ hm=>cases hm
 ·intro k o hk
  have key:∀ {ι:Nat→Loc} {sz:Nat} {cs:List Value} {loc:Loc} (ι':Nat→Loc),allG cs=true→ORel ι w.heap.size w (.cells false true sz cs) loc→ORel ι' w.heap.size w (.cells false true sz cs) loc:=by
   intro ι sz cs loc ι' hg ho
   cases loc with
   |nil p=>exact ho
   |lay b o e =>
    obtain⟨x1,x2,x3⟩:=ho
    refine⟨x1,x2,fun i v hv=>?_⟩
    rw [x3 i v hv,trS_g (allG_mem hg (List.mem_of_getElem? hv)),trS_g (allG_mem hg (List.mem_of_getElem? hv))]
  rw [look_cons] at hk
  split at hk
  ·rename_i hb
   injection hk with hk
   subst hk
   rw [← beq_true hb]
   exact key _ gc1 q1
  ·rw [look_cons] at hk
   split at hk
   ·rename_i hb
    injection hk with hk
    subst hk
    rw [← beq_true hb]
    exact key _ gc2 q2
   ·exact noLook hk
 ·intro k k' o o' hk hk' hne hal b hb
  exfalso
  rw [look_cons] at hk
  split at hk
  ·injection hk with hk;subst hk;cases hal
  ·rw [look_cons] at hk
   split at hk
   ·injection hk with hk;subst hk;cases hal
   ·exact noLook hk
 ·intro k o hk
  rw [look_cons] at hk
  split at hk
  ·rename_i hb;rw [← beq_true hb];decide
  ·rw [look_cons] at hk
   split at hk
   ·rename_i hb;rw [← beq_true hb];decide
   ·exact noLook hk
 ·intro k o hk
  rw [look_cons] at hk
  split at hk
  ·injection hk with hk;subst hk;exact fun v hv=>scS_g (allG_mem gc1 hv)
  ·rw [look_cons] at hk
   split at hk
   ·injection hk with hk;subst hk;exact fun v hv=>scS_g (allG_mem gc2 hv)
   ·exact noLook hk
theorem In_ls {h:Heap}{nx:Nat}{v:Value}{l:List α}(hl:LsAt E h v l):∃ c,In [.slice (some ⟨0,0,none⟩) l.length c] [(0,.cells false true E.sz (flat E.fl l))] 1 [v] h nx:=by
 unfold LsAt at hl
 split at hl
 ·rename_i n c
  obtain⟨rfl,rfl,rfl⟩:=hl
  exact⟨0,In_nil rfl true E.sz E.pos⟩
 ·rename_i k o n c
  obtain⟨rfl,wr,g,sz,cs,hk,hcs⟩:=hl
  exact⟨c,In_sl rfl hk hcs (flat_g E l) true E.sz E.pos⟩
 ·exact hl.elim
end
end Go.Aw
end

noncomputable section
namespace Go.Aw
open Go.RowKit
section
variable {α:Type}(E:El α)
def wX (s:List α→Option (Bool × List α)):XF:=fun args h nx K=>match args with
 |[.slice (some ⟨k,0,none⟩) n c]=>∃ l,n=l.length∧look h k=some (.cells true false E.sz (flat E.fl l))∧(match s l with|some p=>must p.1 (K (.tuple #[]) [(k,.cells true false E.sz (flat E.fl p.2))] nx)|none=>False)
 |_=>False
theorem ORel_g {ι ι':Nat→Loc}{B:Nat}{w:World}{sz:Nat}{cs:List Value}{loc:Loc}(hg:allG cs=true)(h:ORel ι B w (.cells true false sz cs) loc):ORel ι' B w (.cells true false sz cs) loc:=by
 cases loc with
 |nil p=>exact h
 |lay b o e =>
  obtain⟨x1,x2,arr,t,x3,x4,x5⟩:=h
  refine⟨x1,x2,arr,t,x3,x4,fun i v hv=>?_⟩
  rw [x5 i v hv,trS_g (allG_mem hg (List.mem_of_getElem? hv)),trS_g (allG_mem hg (List.mem_of_getElem? hv))]
theorem RelH_one {ι:Nat→Loc}{B n k:Nat}{w:World}{sz:Nat}{cs:List Value}(hg:allG cs=true)(ho:ORel ι B w (.cells true false sz cs) (ι k))(hk:k<n)(hB:B≤w.heap.size):RelH ι B [(k,.cells true false sz cs)] n w:=by
 have key:∀ j o,look [(k,AObj.cells true false sz cs)] j=some o→j=k∧o=.cells true false sz cs:=by
  intro j o hj
  rw [look_cons] at hj
  split at hj
  ·rename_i hb
   injection hj with hj
   exact⟨(beq_true hb).symm,hj.symm⟩
  ·exact noLook hj
 refine⟨fun j o hj=>?_,fun j j' o o' hj hj' hne=>?_,fun j o hj=>?_,hB,fun j o hj=>?_⟩
 ·obtain⟨rfl,rfl⟩:=key j o hj
  exact ho
 ·exact absurd ((key j o hj).1.trans (key j' o' hj').1.symm) hne
 ·rw [(key j o hj).1];exact hk
 ·obtain⟨rfl,rfl⟩:=key j o hj
  exact fun v hv=>scS_g (allG_mem hg hv)
theorem wX_ok {P:Program}{C:VC}{f:Nat}{s:List α→Option (Bool × List α)}(hC:CallsOK P C)
  (hs:∀ l l',s l=some (true,l')→∀ c,C f [.slice (some ⟨0,0,none⟩) l.length c] [(0,.cells true false E.sz (flat E.fl l))] 1 (fun v h _=>v=.tuple #[]∧look h 0=some (.cells true false E.sz (flat E.fl l')))):XOK P f (wX E s):=by
 refine⟨fun args h nx K hx ι B w H hsc=>?_,fun args h nx K hx=>?_⟩
 ·unfold wX at hx
  split at hx
  case h_2=>exact hx.elim
  rename_i k n c
  obtain⟨l,rfl,hk,hx⟩:=hx
  split at hx
  case h_2=>exact hx.elim
  rename_i p e1
  obtain⟨b,l'⟩:=p
  obtain⟨rfl,hx⟩:=must_iff.1 hx
  have hsl:=hsc _ (.head _)
  have ho:=H.obj k _ hk
  have hlow:=H.low k _ hk
  have hrun:=hC f _ _ 1 _ (hs l l' e1 c) (fun _=>ι k) B w (RelH_one (flat_g E l) (ORel_g (flat_g E l) ho) (by decide) H.size) (fun v hv=>by
   cases hv with
   |head=>exact⟨show (0:Nat)<1 by decide,hsl.2⟩
   |tail _ hm=>cases hm)
  refine⟨hrun.1,?_⟩
  have he:([.slice (some ⟨k,0,none⟩) l.length c]:List Value).map (tr ι)=([.slice (some ⟨0,0,none⟩) l.length c]:List Value).map (tr (fun _=>ι k)):=rfl
  rw [he]
  refine CallsIn.mono hrun.2 fun e w' hr=>?_
  cases e with
  |returned u =>
   obtain⟨v,h',nx',ι',⟨rfl,q1⟩,q2,q3,q4,q5,q6,rfl⟩:=hr
   have ho':=q3.obj 0 _ q1
   rw [q5 0 (by decide)] at ho'
   refine⟨.tuple #[],_,nx,ι,hx,(fun v hv=>(by cases hv)),RelH_one (flat_g E l') (ORel_g (flat_g E l') ho') hlow q3.size,q4,fun _ _=>rfl,Nat.le_refl _,by simp [tr]⟩
  |_=>exact hr.elim
 ·unfold wX at hx
  split at hx
  case h_2=>exact hx.elim
  rename_i k n c
  obtain⟨l,hn,hk,hx⟩:=hx
  split at hx
  case h_2=>exact hx.elim
  rename_i p e1
  obtain⟨hb,hx⟩:=must_iff.1 hx
  exact⟨_,_,_,hx,fun K' hk'=>⟨l,hn,hk,by rw [e1];exact must_of hb hk'⟩⟩
end
end Go.Aw
end

noncomputable section
namespace Go.Aw
open Go.RowKit
def linB (ops:List Oper):List Oper→Nat→Bool
 |[],_=>true
 |o::r,i=>(predsOf o).all (fun j=>Nat.blt j i)&&linB ops r (i+1)
theorem linB_at {ops:List Oper}:∀ {l:List Oper} {i j:Nat} {o:Oper},linB ops l i=true→getL l j=some o→∀ k∈predsOf o,k<i+j
 |[],_,_,_,_,h=>by rw [getL_eq] at h;simp at h
 |p::r,i,0,o,hb,h=>by
  simp only [linB,Bool.and_eq_true,List.all_eq_true] at hb
  rw [getL_eq] at h
  simp at h
  subst h
  exact fun k hk=>blt_true (hb.1 k hk)
 |p::r,i,j+1,o,hb,h=>by
  simp only [linB,Bool.and_eq_true] at hb
  have:=linB_at (j:=j) (o:=o) hb.2 (by rw [getL_eq] at h ⊢;simpa using h)
  intro k hk
  have:=this k hk
  omega
theorem all_done {ops:List Oper}(hl:linB ops ops 0=true){done:List Nat}(hr:readyL ops done ops 0=[]):∀ i,i<ops.length→i∈done:=by
 intro i
 induction i using Nat.strongRecOn with
 |_ i ih =>
  intro hi
  refine Classical.byContradiction fun hn=>?_
  have ho:getL ops i=some ops[i]:=by rw [getL_eq];simp [hi]
  have:i∈readyL ops done ops 0:=readyL_mem.2 ⟨i,ops[i],by omega,ho,hn,fun x hx=>by
   have h1:=linB_at hl ho x hx
   exact ih x (by omega) (by omega)⟩
  rw [hr] at this
  cases this
def undone (L:Nat)(done:List Nat):List Nat:=(List.range L).filter fun i=>!memB i done
theorem undone_step {L i:Nat}{done:List Nat}(hi:i<L)(hn:i∉done):(undone L (i::done)).length<(undone L done).length:=by
 have e:undone L (i::done)=(undone L done).filter fun j=>!Nat.beq i j:=by
  unfold undone
  rw [List.filter_filter]
  apply List.filter_congr
  intro j _
  have:memB j (i::done)=(Nat.beq i j || memB j done):=by
   simp only [memB]
   cases Nat.beq i j <;> rfl
  rw [this]
  cases Nat.beq i j <;> cases memB j done <;> rfl
 rw [e]
 refine Nat.lt_of_le_of_ne (List.length_filter_le _ _) fun h=>?_
 have hm:memB i done=false:=by
  cases hm:memB i done with
  |false=>rfl
  |true=>exact absurd (memB_iff.1 hm) hn
 have:=List.length_filter_eq_length_iff.1 h i (List.mem_filter.2 ⟨List.mem_range.2 hi,by rw [hm];rfl⟩)
 rw [Nat.beq_refl] at this
 cases this
theorem vany_inv {A:Ar}{T:Tab}{C:VC}{Y:VY}(hC:DetC C)(hY:DetC Y){tn:Nat}{ops:List Oper}{K:KS}(hl:linB ops ops 0=true)(S:List Nat→KS)
  (hstep:∀ done i o e h nx,S done e h nx→i∉done→(∀ x∈predsOf o,x∈done)→getL ops i=some o→vstep A T C Y tn ops o e h nx (S (i::done))) (hend:∀ done e h nx,S done e h nx→(∀ i,i<ops.length→i∈done)→K e h nx) :
  ∀ (n:Nat) (done:List Nat) (e:List (Nat × Value)) (h:Heap) (nx:Nat),(undone ops.length done).length≤n→S done e h nx→vany A T C Y tn ops K n done e h nx:=by
 intro n
 induction n with
 |zero =>
  intro done e h nx hn hS
  refine hend done e h nx hS fun i hi=>?_
  refine Classical.byContradiction fun hni=>?_
  have:=undone_step hi hni
  omega
 |succ n ih =>
  intro done e h nx hn hS
  simp only [vany]
  split
  ·rename_i hr
   exact hend done e h nx hS (all_done hl hr)
  ·rename_i i0 r0 hr
   rw [vall_iff]
   intro j hj
   rw [← hr] at hj
   obtain⟨j',o,hjj,ho,hnj,hp⟩:=readyL_mem.1 hj
   have hjj:j=j':=by omega
   subst hjj
   rw [ho]
   have hjl:j<ops.length:=by
    rw [getL_eq] at ho
    exact (List.getElem?_eq_some_iff.1 ho).1
   have hlt:=undone_step hjl hnj
   obtain⟨e1,h1,n1,q1,q2⟩:=det_vstep hC hY _ (hstep done j o e h nx hS hnj hp ho)
   exact q2 _ (ih (j::done) e1 h1 n1 (by omega) q1)
end Go.Aw
end
