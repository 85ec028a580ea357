/-
  Parts of a proof. No condition.
-/
import Derived.Test.YtmkcjbpekejgdaaGreatQAw
import Derived.Test.YtmkcjbpekejgdaaGreatQAx
set_option linter.unusedSimpArgs false
set_option linter.unusedVariables false
noncomputable section
namespace Go.Aw
open Go.RowKit
def memF (f:Nat):List Nat→Bool
 |[]=>false
 |g::r=>Nat.beq f g || memF f r
def mixC (c:Cfg)(vs:List Nat)(X:Nat→Option XF):VC:=fun f args h nx K=>match memF f vs with
 |true=>vcall c 3 false f args h nx K
 |false=>CX X f args h nx K
theorem mixC_ok {P:Program}{c:Cfg}(hc:CfgOK P c){vs:List Nat}{X:Nat→Option XF}(hX:∀ f x,X f=some x→XOK P f x):CallsOK P (mixC c vs X):=by
 intro f args h nx K hl
 unfold mixC at hl
 split at hl
 ·exact (vcall_ok hc 3).1 f args h nx K hl
 ·exact CX_ok hX f args h nx K hl
theorem mixC_det {P:Program}{c:Cfg}(hc:CfgOK P c){vs:List Nat}{X:Nat→Option XF}(hX:∀ f x,X f=some x→XOK P f x):DetC (mixC c vs X):=by
 intro f args h nx
 cases hm:memF f vs with
 |true =>
  have e:(fun K=>mixC c vs X f args h nx K)=fun K=>vcall c 3 false f args h nx K:=by
   funext K
   unfold mixC
   rw [hm]
  show DetE (fun K=>mixC c vs X f args h nx K)
  rw [e]
  exact (vcall_ok hc 3).2.2.1 f args h nx
 |false =>
  have e:(fun K=>mixC c vs X f args h nx K)=fun K=>CX X f args h nx K:=by
   funext K
   unfold mixC
   rw [hm]
  show DetE (fun K=>mixC c vs X f args h nx K)
  rw [e]
  exact CX_det hX f args h nx
section
variable {α β:Type}(E:El α)
def vOf (l:List α)(e:Option Int):Value:=match l with
 |[]=>wrapV e (.slice none 0 0)
 |a::r=>wrapV e (.slice (some ⟨0,0,none⟩) (a::r).length (a::r).length)
def hOf (l:List α):Heap:=match l with
 |[]=>[]
 |a::r=>[(0,.cells true false E.sz (flat E.fl (a::r)))]
def mOf (l:List α):Nat:=match l with
 |[]=>0
 |_::_=>1
theorem Yields_Outc {l:List α}{e:Option Int}{v:Value}{h:Heap}{nx:Nat}(hv:Yields E l e v h nx):Outc (vOf l e) (hOf E l) (mOf l) v h nx:=by
 cases l with
 |nil =>
  rw [show v=_ from hv]
  exact Outc_g (wrapV_nil e)
 |cons a r =>
  obtain⟨q,rfl,hq⟩:=hv
  refine⟨fun _=>q,⟨fun t u hu=>?_,fun k o hk=>?_,fun k k' o o' hk hk' _=>?_,fun k hk=>absurd hk (Nat.not_lt_zero k),Nat.zero_le _⟩⟩
  ·rw [look_cons] at hu
   split at hu
   ·rename_i hb
    injection hu with hu
    subst hu
    exact⟨by rw [look_cons,hb];show _=some (ren (fun _=>q) (wrapV e (.slice (some ⟨0,0,none⟩) (a::r).length (a::r).length)));rw [wrapV_ren],wrapV_nm e _ _⟩
   ·exact noLook hu
  ·rw [show hOf E (a::r)=[(0,.cells true false E.sz (flat E.fl (a::r)))] from rfl,look_cons] at hk
   split at hk
   ·rename_i hb
    injection hk with hk
    subst hk
    exact⟨by rw [← beq_true hb];exact Nat.one_pos,_,hq,ObjRen_g (flat_g E _)⟩
   ·exact noLook hk
  ·rw [show hOf E (a::r)=[(0,.cells true false E.sz (flat E.fl (a::r)))] from rfl,look_cons] at hk hk'
   split at hk
   ·rename_i hb1
    split at hk'
    ·rename_i hb2;exact (beq_true hb1).symm.trans (beq_true hb2)
    ·exact noLook hk'
   ·exact noLook hk
def outK (l:List α)(e:Option Int)(h:Heap)(nx:Nat)(K:KE):Prop:=match l with
 |[]=>K (wrapV e (.slice none 0 0)) h nx
 |a::r=>K (wrapV e (.slice (some ⟨nx,0,none⟩) (a::r).length (a::r).length)) (hput h nx (.cells true false E.sz (flat E.fl (a::r)))) (nx+1)
theorem outK_eq {l:List α}{e:Option Int}{h:Heap}{nx:Nat}{K:KE}(hk:outK E l e h nx K):K (ren (fun k=>nx+k) (vOf l e)) (app (shH nx (hOf E l)) (past (hOf E l) h)) (nx+mOf l):=by
 cases l with
 |nil =>
  show K (ren (fun k=>nx+k) (wrapV e (.slice none 0 0))) (app [] h) (nx+0)
  rw [ren_g (wrapV_nil e)]
  exact hk
 |cons a r =>
  have hm:(flat E.fl (a::r)).map (ren1 (fun k=>nx+k))=flat E.fl (a::r):=map_trS_g (flat_g E _)
  show K (ren (fun k=>nx+k) (wrapV e (.slice (some ⟨0,0,none⟩) (a::r).length (a::r).length))) (app [(nx+0,.cells true false E.sz ((flat E.fl (a::r)).map (ren1 (fun k=>nx+k))))] h) (nx+1)
  rw [wrapV_ren,hm]
  exact hk
theorem cellsH_of (l:List α):cellsH (hOf E l)=true:=by cases l <;> rfl
def yOf (T:List Value→Heap→Nat→List α→Option Int→Prop):XF:=xOf fun args0 h0 n0 v1 h1 m=>∃ l e,T args0 h0 n0 l e∧v1=vOf l e∧h1=hOf E l∧m=mOf l
theorem yOf_ok {P:Program}{C:VC}{f:Nat}{T:List Value→Heap→Nat→List α→Option Int→Prop}(hC:CallsOK P C)(hT:∀ args0 h0 n0 l e,T args0 h0 n0 l e→C f args0 h0 n0 (Yields E l e)):XOK P f (yOf E T) :=
 xOf_ok hC fun args0 h0 n0 v1 h1 m ⟨l,e,ht,hv,hh,hm⟩=>by
  subst hv hh hm
  exact⟨cellsH_of E l,_,hT _ _ _ _ _ ht,fun v h nx hq=>Yields_Outc E hq⟩
theorem yOf_use {T:List Value→Heap→Nat→List α→Option Int→Prop}{args0:List Value}{h0:Heap}{n0:Nat}{l:List α}{e:Option Int}{args:List Value}{h:Heap}{nx:Nat}{K:KE}(ht:T args0 h0 n0 l e)(hi:In args0 h0 n0 args h nx)(hk:outK E l e h nx K):yOf E T args h nx K :=
 ⟨args0,h0,n0,_,_,_,⟨l,e,ht,rfl,rfl,rfl⟩,hi,outK_eq E hk⟩
def rfX (E2:El β)(s:List α→List Value→Option (Bool × List β × Option Int)):XF:=fun args h nx K=>match args with
 |v::r=>∃ l,LsAt E h v l∧(match s l r with|some p=>must p.1 (outK E2 p.2.1 p.2.2 h nx K)|none=>False)
 |_=>False
theorem rfX_ok (E2:El β){P:Program}{C:VC}{f:Nat}{s:List α→List Value→Option (Bool × List β × Option Int)}(hC:CallsOK P C)
  (hs:∀ l r out e,s l r=some (true,out,e)→allGA r=true∧∀ c,C f (.slice (some ⟨0,0,none⟩) l.length c::r) [(0,.cells false true E.sz (flat E.fl l))] 1 (Yields E2 out e)):XOK P f (rfX E E2 s):=by
 refine (yOf_ok E2 (T:=fun args0 h0 n0 out e=>∃ l r c,s l r=some (true,out,e)∧args0=.slice (some ⟨0,0,none⟩) l.length c::r∧h0=[(0,.cells false true E.sz (flat E.fl l))]∧n0=1) hC ?_).mono ?_ ?_
 ·rintro args0 h0 n0 out e ⟨l,r,c,e1,rfl,rfl,rfl⟩
  exact (hs l r out e e1).2 c
 ·intro args h nx K hx
  unfold rfX at hx
  split at hx
  case h_2=>exact hx.elim
  rename_i v r
  obtain⟨l,hl,hx⟩:=hx
  split at hx
  case h_2=>exact hx.elim
  rename_i p e1
  obtain⟨b,out,e⟩:=p
  obtain⟨rfl,hx⟩:=must_iff.1 hx
  obtain⟨a1,a3⟩:=hs l r out e e1
  unfold LsAt at hl
  split at hl
  ·rename_i n c
   obtain⟨rfl,rfl,rfl⟩:=hl
   exact yOf_use E2 ⟨[],r,0,e1,rfl,rfl,rfl⟩ (In_nil a1 true E.sz E.pos) hx
  ·rename_i k o n c
   obtain⟨rfl,wr,g,sz,cs,hk,hcs⟩:=hl
   exact yOf_use E2 ⟨l,r,c,e1,rfl,rfl,rfl⟩ (In_sl a1 hk hcs (flat_g E l) true E.sz E.pos) hx
  ·exact hl.elim
 ·intro args h nx K hx
  unfold rfX at hx
  split at hx
  case h_2=>exact hx.elim
  rename_i v r
  obtain⟨l,hl,hx⟩:=hx
  split at hx
  case h_2=>exact hx.elim
  rename_i p e1
  obtain⟨hb,hx⟩:=must_iff.1 hx
  obtain⟨b,out,e⟩:=p
  cases out with
  |nil=>exact⟨_,_,_,hx,fun K' hk=>⟨l,hl,by rw [e1];exact must_of hb hk⟩⟩
  |cons a t=>exact⟨_,_,_,hx,fun K' hk=>⟨l,hl,by rw [e1];exact must_of hb hk⟩⟩
end
section
variable {α:Type}(E:El α)
theorem In_two {a0 b0 a b:Value}{o1 o2:AObj}{h:Heap}{nx n1 c1 n2 c2:Nat}(ha0:a0=.slice (some ⟨0,0,none⟩) n1 c1)(hb0:b0=.slice (some ⟨0,0,none⟩) n2 c2)
  (h1:In [a0] [(0,o1)] 1 [a] h nx) (h2:In [b0] [(0,o2)] 1 [b] h nx) (g1:∃ sz cs,o1=.cells false true sz cs∧allG cs=true) (g2:∃ sz cs,o2=.cells false true sz cs∧allG cs=true) :
  In [a0,.slice (some ⟨1,0,none⟩) n2 c2] [(0,o1),(1,o2)] 2 [a,b] h nx:=by
 subst ha0 hb0
 obtain⟨s1,cs1,rfl,gc1⟩:=g1
 obtain⟨s2,cs2,rfl,gc2⟩:=g2
 intro ι B w H hs
 obtain⟨ι1,e1,k1,R1⟩:=h1 ι B w H (fun v hv=>hs v (by cases hv with|head=>exact .head _|tail _ hm=>cases hm))
 obtain⟨ι2,e2,k2,R2⟩:=h2 ι B w H (fun v hv=>hs v (by cases hv with|head=>exact .tail _ (.head _)|tail _ hm=>cases hm))
 simp only [List.map_cons,List.map_nil,List.cons.injEq,and_true] at e1 e2
 have q1:=R1.obj 0 _ rfl
 have q2:=R2.obj 0 _ rfl
 have kk1:=k1 _ (.head _)
 have kk2:=k2 _ (.head _)
 refine⟨fun k=>if k=0 then ι1 0 else ι2 0,?_,?_,⟨?_,?_,?_,Nat.le_refl _,?_⟩⟩
 ·simp only [List.map_cons,List.map_nil,e1,e2]
  rfl
 ·intro v hv
  cases hv with
  |head=>exact⟨show (0:Nat)<2 by decide,kk1.2⟩
  |tail _ hm =>
   cases hm with
   |head=>exact⟨show (1:Nat)<2 by decide,kk2.2⟩
   |tail _ hm=>cases hm
 ·intro k o hk
  have key:∀ {ι:Nat→Loc} {sz:Nat} {cs:List Value} {loc:Loc} (ι':Nat→Loc),allG cs=true→ORel ι w.heap.size w (.cells false true sz cs) loc→ORel ι' w.heap.size w (.cells false true sz cs) loc:=by
   intro ι sz cs loc ι' hg ho
   cases loc with
   |nil p=>exact ho
   |lay b o e =>
    obtain⟨x1,x2,x3⟩:=ho
    refine⟨x1,x2,fun i v hv=>?_⟩
    rw [x3 i v hv,trS_g (allG_mem hg (List.mem_of_getElem? hv)),trS_g (allG_mem hg (List.mem_of_getElem? hv))]
  rw [look_cons] at hk
  split at hk
  ·rename_i hb
   injection hk with hk
   subst hk
   rw [← beq_true hb]
   exact key _ gc1 q1
  ·rw [look_cons] at hk
   split at hk
   ·rename_i hb
    injection hk with hk
    subst hk
    rw [← beq_true hb]
    exact key _ gc2 q2
   ·exact noLook hk
 ·intro k k' o o' hk hk' hne hal b hb
  exfalso
  rw [look_cons] at hk
  split at hk
  ·injection hk with hk;subst hk;cases hal
  ·rw [look_cons] at hk
   split at hk
   ·injection hk with hk;subst hk;cases hal
   ·exact noLook hk
 ·intro k o hk
  rw [look_cons] at hk
  split at hk
  ·rename_i hb;rw [← beq_true hb];decide
  ·rw [look_cons] at hk
   split at hk
   ·rename_i hb;rw [← beq_true hb];decide
   ·exact noLook hk
 ·intro k o hk
  rw [look_cons] at hk
  split at hk
  ·injection hk with hk;subst hk;exact fun v hv=>scS_g (allG_mem gc1 hv)
  ·rw [look_cons] at hk
   split at hk
   ·injection hk with hk;subst hk;exact fun v hv=>scS_g (allG_mem gc2 hv)
   ·exact noLook hk
theorem In_ls {h:Heap}{nx:Nat}{v:Value}{l:List α}(hl:LsAt E h v l):∃ c,In [.slice (some ⟨0,0,none⟩) l.length c] [(0,.cells false true E.sz (flat E.fl l))] 1 [v] h nx:=by
 unfold LsAt at hl
 split at hl
 ·rename_i n c
  obtain⟨rfl,rfl,rfl⟩:=hl
  exact⟨0,In_nil rfl true E.sz E.pos⟩
 ·rename_i k o n c
  obtain⟨rfl,wr,g,sz,cs,hk,hcs⟩:=hl
  exact⟨c,In_sl rfl hk hcs (flat_g E l) true E.sz E.pos⟩
 ·exact hl.elim
def l2X (s:List α→List α→Option (Bool × Value)):XF:=fun args h nx K=>match args with
 |[a,b]=>∃ l1 l2,LsAt E h a l1∧LsAt E h b l2∧(match s l1 l2 with|some p=>must p.1 (K p.2 h nx)|none=>False)
 |_=>False
theorem l2X_ok {P:Program}{C:VC}{f:Nat}{s:List α→List α→Option (Bool × Value)}(hC:CallsOK P C)
  (hs:∀ l1 l2 v,s l1 l2=some (true,v)→gT v=true∧∀ c1 c2,C f [.slice (some ⟨0,0,none⟩) l1.length c1,.slice (some ⟨1,0,none⟩) l2.length c2] [(0,.cells false true E.sz (flat E.fl l1)),(1,.cells false true E.sz (flat E.fl l2))] 2 (fun u _ _=>u=v)):XOK P f (l2X E s):=by
 refine (xOf_ok (S:=fun args0 h0 n0 v1 h1 m=>∃ l1 l2 c1 c2,s l1 l2=some (true,v1)∧args0=[.slice (some ⟨0,0,none⟩) l1.length c1,.slice (some ⟨1,0,none⟩) l2.length c2]∧h0=[(0,.cells false true E.sz (flat E.fl l1)),(1,.cells false true E.sz (flat E.fl l2))]∧n0=2∧h1=[]∧m=0) hC ?_).mono ?_ ?_
 ·rintro args0 h0 n0 v1 h1 m ⟨l1,l2,c1,c2,e1,rfl,rfl,rfl,rfl,rfl⟩
  obtain⟨a2,a3⟩:=hs l1 l2 v1 e1
  exact⟨rfl,_,a3 c1 c2,fun v h nx e=>by rw [e];exact Outc_g a2⟩
 ·intro args h nx K hx
  unfold l2X at hx
  split at hx
  case h_2=>exact hx.elim
  rename_i a b
  obtain⟨l1,l2,hl1,hl2,hx⟩:=hx
  split at hx
  case h_2=>exact hx.elim
  rename_i p e1
  obtain⟨bb,u⟩:=p
  obtain⟨rfl,hx⟩:=must_iff.1 hx
  obtain⟨a2,a3⟩:=hs l1 l2 u e1
  obtain⟨c1,i1⟩:=In_ls (nx:=nx) E hl1
  obtain⟨c2,i2⟩:=In_ls (nx:=nx) E hl2
  refine⟨_,_,2,u,[],0,⟨l1,l2,c1,c2,e1,rfl,rfl,rfl,rfl,rfl⟩,In_two rfl rfl i1 i2 ⟨_,_,rfl,flat_g E l1⟩ ⟨_,_,rfl,flat_g E l2⟩,?_⟩
  simp only [past,ownH,shH,app_nil,ren_g a2,Nat.add_zero]
  exact hx
 ·intro args h nx K hx
  unfold l2X at hx
  split at hx
  case h_2=>exact hx.elim
  rename_i a b
  obtain⟨l1,l2,hl1,hl2,hx⟩:=hx
  split at hx
  case h_2=>exact hx.elim
  rename_i p e1
  obtain⟨hb,hx⟩:=must_iff.1 hx
  exact⟨p.2,h,nx,hx,fun K' hk=>⟨l1,l2,hl1,hl2,by rw [e1];exact must_of hb hk⟩⟩
end
end Go.Aw
end

noncomputable section
namespace Go.Aw
section
variable {ρ:Nat→Nat}{n0 k:Nat}{h:Heap}{o o':AObj}{r:List (Nat × AObj)}{wr g:Bool}{sz:Nat}{cs:List Value}
theorem iN {α:Type}{P:α→Prop}:∀ p∈([]:List α),P p:=fun _ h=>by cases h
theorem iE {e:List (Nat × Value)}{v:Value}{s:List (Nat × Value)}(h1:look e k=some (ren ρ v))(h2:nmTB n0 v=true)(h3:∀ p∈s,look e p.1=some (ren ρ p.2)∧nmT n0 p.2):∀ p∈(k,v)::s,look e p.1=some (ren ρ p.2)∧nmT n0 p.2 :=
 List.forall_mem_cons.2 ⟨⟨h1,nmTB_ok h2⟩,h3⟩
theorem iW (h1:Nat.ble (k+1) n0=true)(h2:look h (ρ k)=some o')(h4:ObjRen ρ n0 o o')(h3:∀ p∈r,p.1<n0∧∃ o',look h (ρ p.1)=some o'∧ObjRen ρ n0 p.2 o'):∀ p∈(k,o)::r,p.1<n0∧∃ o',look h (ρ p.1)=some o'∧ObjRen ρ n0 p.2 o' :=
 List.forall_mem_cons.2 ⟨⟨Nat.le_of_ble_eq_true h1,_,h2,h4⟩,h3⟩
theorem iG (h1:Nat.ble (k+1) n0=true)(h2:look h (ρ k)=some (.cells wr g sz cs))(h4:allG cs=true)(h3:∀ p∈r,p.1<n0∧∃ o',look h (ρ p.1)=some o'∧ObjRen ρ n0 p.2 o'):∀ p∈(k,.cells wr g sz cs)::r,p.1<n0∧∃ o',look h (ρ p.1)=some o'∧ObjRen ρ n0 p.2 o' :=
 iW h1 h2 (ObjRen_g h4) h3
theorem iF {α:Type}{E:El α}{l:List α}(h1:Nat.ble (k+1) n0=true)(h2:look h (ρ k)=some (.cells wr g sz (flat E.fl l)))(h3:∀ p∈r,p.1<n0∧∃ o',look h (ρ p.1)=some o'∧ObjRen ρ n0 p.2 o'):∀ p∈(k,.cells wr g sz (flat E.fl l))::r,p.1<n0∧∃ o',look h (ρ p.1)=some o'∧ObjRen ρ n0 p.2 o' :=
 iG h1 h2 (flat_g E l) h3
theorem iC (h1:Nat.ble (k+1) n0=true)(h2:look h (ρ k)=some (.cells wr g sz (cs.map (ren1 ρ))))(h4:nmLB n0 cs=true)(h3:∀ p∈r,p.1<n0∧∃ o',look h (ρ p.1)=some o'∧ObjRen ρ n0 p.2 o'):∀ p∈(k,.cells wr g sz cs)::r,p.1<n0∧∃ o',look h (ρ p.1)=some o'∧ObjRen ρ n0 p.2 o' :=
 iW h1 h2 ⟨rfl,rfl,rfl,rfl,nmLB_ok h4⟩ h3
theorem iJ {cs':List Value}(h1:Nat.ble (k+1) n0=true)(h2:look h (ρ k)=some (.cells wr g sz cs'))(h4:allG cs=true)(h5:cs'=cs)(h3:∀ p∈r,p.1<n0∧∃ o',look h (ρ p.1)=some o'∧ObjRen ρ n0 p.2 o'):∀ p∈(k,.cells wr g sz cs)::r,p.1<n0∧∃ o',look h (ρ p.1)=some o'∧ObjRen ρ n0 p.2 o' :=
 iW h1 h2 (ObjRen_j h4 h5) h3
theorem iK {k0 q:Nat}(h1:(Nat.beq k k0 || !Nat.beq k q)=true)(h3:∀ p∈r,p.1≠k0→p.1≠q):∀ p∈(k,o)::r,p.1≠k0→p.1≠q :=
 List.forall_mem_cons.2 ⟨fun hk e=>by
  simp only [Bool.or_eq_true,Bool.not_eq_true'] at h1
  rcases h1 with h1|h1
  ·exact hk (beq_true h1)
  ·exact beq_false h1 e,h3⟩
end
end Go.Aw
end

noncomputable section
namespace Go.Aw
set_option maxRecDepth 100000
def SEnds:List Value→Option (Bool × List (Int × Int) × Option Int)
 |[u,v]=>(match decS u with|some s=>(match decS v with|some t=>some (wideS s&&wideS t,endsL s t,none)|none=>none)|none=>none)
 |_=>none
theorem SEnds_inv {args:List Value}{l:List (Int × Int)}{e:Option Int}(hs:SEnds args=some (true,l,e)):∃ s t,args=[sgv s,sgv t]∧(wideS s&&wideS t)=true∧l=endsL s t∧e=none:=by
 unfold SEnds at hs
 split at hs
 ·split at hs
  ·rename_i s e1
   split at hs
   ·rename_i t e2
    injection hs with hs
    injection hs with h1 h2
    injection h2 with h2 h3
    exact⟨s,t,by rw [decS_eq e1,decS_eq e2],h1,h2.symm,h3.symm⟩
   ·cases hs
  ·cases hs
 ·cases hs
def eE (v:Value)(j:Int):List (Nat × Value):=[(2,.pointer (some ⟨0,0,none⟩)),(3,.pointer (some ⟨1,0,none⟩)),(5,v),(6,.slice (some ⟨2,0,none⟩) 4 4),(7,iv j)]
def cellsS (s:Sg):List Value:=[iv s.1.1,iv s.1.2,iv s.2.1,iv s.2.2]
def hE (s t:Sg)(ps:List (Int × Int)):Heap:=[(0,.cells true false 1 (cellsS s)),(1,.cells true false 1 (cellsS t)),(2,.cells true false 2 (flat elP.fl ps))]
def hE1 (s t:Sg)(ps out:List (Int × Int)):Heap:=[(0,.cells true false 1 (cellsS s)),(1,.cells true false 1 (cellsS t)),(2,.cells true false 2 (flat elP.fl ps)),(3,.cells true false 2 (flat elP.fl out))]
def eI (v:Value)(j:Int)(b1 b2 b:Bool)(k:Int):List (Nat × Value):=[(2,.pointer (some ⟨0,0,none⟩)),(3,.pointer (some ⟨1,0,none⟩)),(5,v),(6,.slice (some ⟨2,0,none⟩) 4 4),(7,iv j),(8,.bool b1),(9,.bool b2),(10,.bool b),(11,iv k)]
theorem known_app (p q:Int × Int)(l:List (Int × Int)):knownS p (l++[q])=(knownS p l || eqP q p):=by
 induction l with
 |nil=>simp [knownS]
 |cons a r ih=>simp only [List.cons_append,knownS,ih,Bool.or_assoc]
theorem known_take {p:Int × Int}{l:List (Int × Int)}{k:Nat}(h:k<l.length):knownS p (l.take (k+1))=(knownS p (l.take k) || eqP (at2 l k) p):=by
 rw [List.take_add_one,List.getElem?_eq_getElem h,at2_eq h,← known_app]
 rfl
theorem adds_len' {s t:Sg}(l out:List (Int × Int)):(l.foldl (addE s t) out).length≤out.length+l.length:=by
 induction l generalizing out with
 |nil=>simp
 |cons a r ih =>
  have:=ih (addE s t out a)
  have h2:(addE s t out a).length≤out.length+1:=by
   unfold addE
   split <;> simp
  simp only [List.foldl_cons,List.length_cons]
  omega
theorem adds_len {s t:Sg}{l:List (Int × Int)}(h:l.length≤4):(l.foldl (addE s t) []).length≤4:=by
 have:=adds_len' (s:=s) (t:=t) l []
 simp at this
 omega
theorem flat_grow (l:List (Int × Int))(p:Int × Int):List.take (l.length*2) (List.drop 0 (flat elP.fl l))++[iv p.1,iv p.2]=flat elP.fl (l++[p]):=by
 rw [flat_append,List.drop_zero,List.take_of_length_le (by rw [flat_len];exact Nat.le_refl _)]
 rfl
def X70:Nat × XF:=(143,fX elP SEnds)
theorem x70:XOK Go.Proofs.Tryz.prog X70.1 X70.2:=fX_ok elP (body_calls (xl:=[X67]) (.cons x67 .nil)) fun args l e hs=>by
 obtain⟨s,t,rfl,hw,rfl,rfl⟩:=SEnds_inv hs
 refine⟨rfl,?_⟩
 clear hs
 obtain⟨⟨ax,ay⟩,⟨bx,b2⟩⟩:=s
 obtain⟨⟨cx,cy⟩,⟨dx,dy⟩⟩:=t
 obtain⟨ps,hps⟩:∃ ps:List (Int × Int),ps=[(ax,ay),(bx,b2),(cx,cy),(dx,dy)]:=⟨_,rfl⟩
 (conv=>whnf)
 refine⟨fun n e h nx=>∃ (i:Nat) (j:Int) (out:List (Int × Int)),j=i∧i≤4∧n=4 - i∧out=(ps.take i).foldl (addE ((ax,ay),(bx,b2)) ((cx,cy),(dx,dy))) [] ∧
  ((out=[]∧e=eE (.slice none 0 0) j∧h=hE ((ax,ay),(bx,b2)) ((cx,cy),(dx,dy)) ps∧nx=3)∨(0<out.length∧e=eE (.slice (some ⟨3,0,none⟩) out.length out.length) j∧h=hE1 ((ax,ay),(bx,b2)) ((cx,cy),(dx,dy)) ps out∧nx=4)),⟨4,?_⟩,?_⟩
 ·subst hps
  refine Into_id (e0:=eE (.slice none 0 0) 0) (h0:=hE ((ax,ay),(bx,b2)) ((cx,cy),(dx,dy)) [(ax,ay),(bx,b2),(cx,cy),(dx,dy)]) (n0:=3) ⟨0,0,[],rfl,by decide,rfl,rfl,.inl ⟨rfl,rfl,rfl,rfl⟩⟩ ?_ ?_ (by decide)
  ·unfold eE
   ((repeat' refine iE rfl rfl ?_);exact iN)
  ·unfold hE
   ((repeat'(first|refine iF rfl rfl ?_|refine iJ rfl rfl rfl rfl ?_));exact iN)
 ·have hl4:ps.length=4:=by rw [hps];rfl
  simp only [Bool.and_eq_true] at hw
  have hww:∀ p∈ps,wide p=true:=by
   have h1:=hw.1
   have h2:=hw.2
   simp only [wideS,Bool.and_eq_true] at h1 h2
   subst hps
   exact List.forall_mem_cons.2 ⟨h1.1,List.forall_mem_cons.2 ⟨h1.2,List.forall_mem_cons.2 ⟨h2.1,List.forall_mem_cons.2 ⟨h2.2,fun _ h=>(by cases h)⟩⟩⟩⟩
  rintro n e h nx ⟨i,j,out,hj,hi,rfl,ho,⟨ho0,rfl,rfl,rfl⟩|⟨hol,rfl,rfl,rfl⟩⟩
  ·unfold eE hE
   ((conv=>whnf);refine bm (fun g1=>?_) (fun g1=>?_))
   ·have hlt:i<ps.length:=by simp [cfgS,std] at g1;omega
    have hwp:wide (at2 ps i)=true:=by rw [at2_eq hlt];exact hww _ (List.getElem_mem hlt)
    ((conv=>whnf);refine bm (fun g2=>?_) (fun g2=>?_))
    ·(conv=>whnf)
     refine boL (getP ps hlt ?_) ?_
     ·simp [cfgS,std];omega
     ((conv=>whnf);refine bm (fun g3=>?_) (fun g3=>?_))
     ·((conv=>whnf);refine bm (fun g4=>?_) (fun g4=>?_))
      ·(conv=>whnf)
       refine boL (getP ps hlt ?_) ?_
       ·simp [cfgS,std];omega
       ((conv=>whnf);refine bm (fun g5=>?_) (fun g5=>?_))
       ·(conv=>whnf)
        refine⟨fun n e h nx=>n=0∧e=eI (.slice none 0 0) j (onR (at2 ps i) ((ax,ay),(bx,b2))) (onR (at2 ps i) ((cx,cy),(dx,dy))) false 0∧h=hE ((ax,ay),(bx,b2)) ((cx,cy),(dx,dy)) ps∧nx=3,⟨0,?_⟩,?_⟩
        ·refine Into_id (e0:=eI (.slice none 0 0) j (onR (at2 ps i) ((ax,ay),(bx,b2))) (onR (at2 ps i) ((cx,cy),(dx,dy))) false 0) (h0:=hE ((ax,ay),(bx,b2)) ((cx,cy),(dx,dy)) ps) (n0:=3) ⟨rfl,rfl,rfl,rfl⟩ ?_ ?_ (by decide)
         ·unfold eI
          ((repeat' refine iE rfl rfl ?_);exact iN)
         ·unfold hE
          ((repeat'(first|refine iF rfl rfl ?_|refine iJ rfl rfl rfl rfl ?_));exact iN)
        ·rintro n e h nx ⟨rfl,rfl,rfl,rfl⟩
         have hat:ps.take (i+1)=ps.take i++[at2 ps i]:=by
          rw [at2_eq hlt,List.take_add_one,List.getElem?_eq_getElem hlt];rfl
         have ho':(ps.take (i+1)).foldl (addE ((ax,ay),(bx,b2)) ((cx,cy),(dx,dy))) []=addE ((ax,ay),(bx,b2)) ((cx,cy),(dx,dy)) [] (at2 ps i):=by
          rw [hat,List.foldl_append,← ho,ho0];rfl
         unfold eI hE
         repeat' first
          |((conv=>whnf)
            refine boL (getP ps hlt ?_) ?_
            ·simp [cfgS,std];omega)
          |(((conv=>whnf);refine bm (fun g=>?_) (fun g=>?_)))
         all_goals (conv=>whnf)
         ·clear g1 g2 g3 g4 g5
          rename_i ga gb _
          refine⟨4 - (i+1),by omega,?_⟩
          refine Into_mv (e0:=eE (.slice (some ⟨3,0,none⟩) 1 1) (j+1)) (h0:=hE1 ((ax,ay),(bx,b2)) ((cx,cy),(dx,dy)) ps [at2 ps i]) (n0:=4) 3 4 (by decide) (by decide)
           ⟨i+1,j+1,[at2 ps i],by omega,by omega,rfl,?_,.inr ⟨Nat.one_pos,rfl,rfl,rfl⟩⟩ ?_ ?_ ?_
          ·simp only [cA_eqB,beq_iff_eq] at ga gb
           rw [ho',addE,if_pos ⟨ga,gb,rfl⟩];rfl
          ·unfold eE
           ((repeat' refine iE rfl rfl ?_);exact iN)
          ·unfold hE1
           ((repeat'(first|refine iF rfl rfl ?_|refine iJ rfl rfl rfl rfl ?_));exact iN)
          ·unfold hE1
           ((repeat' refine iK rfl ?_);exact iN)
         ·exfalso;simp only [cA_add,cA_fits,fitsK,Bool.eq_false_iff,ne_eq,Bool.and_eq_true,decide_eq_true_eq] at g;omega
         ·exfalso;rw [g] at g2;cases g2
         ·clear g1 g2 g3 g4 g5
          rename_i ga gb
          refine⟨4 - (i+1),by omega,?_⟩
          refine Into_id (e0:=eE (.slice none 0 0) (j+1)) (h0:=hE ((ax,ay),(bx,b2)) ((cx,cy),(dx,dy)) ps) (n0:=3) ⟨i+1,j+1,[],by omega,by omega,rfl,?_,.inl ⟨rfl,rfl,rfl,rfl⟩⟩ ?_ ?_ (by decide)
          ·simp only [cA_eqB,beq_eq_false_iff_ne,ne_eq] at gb
           rw [ho',addE,if_neg fun h=>gb h.2.1]
          ·unfold eE
           ((repeat' refine iE rfl rfl ?_);exact iN)
          ·unfold hE
           ((repeat'(first|refine iF rfl rfl ?_|refine iJ rfl rfl rfl rfl ?_));exact iN)
         ·exfalso;simp only [cA_add,cA_fits,fitsK,Bool.eq_false_iff,ne_eq,Bool.and_eq_true,decide_eq_true_eq] at g;omega
         ·clear g1 g2 g3 g4 g5
          rename_i ga
          refine⟨4 - (i+1),by omega,?_⟩
          refine Into_id (e0:=eE (.slice none 0 0) (j+1)) (h0:=hE ((ax,ay),(bx,b2)) ((cx,cy),(dx,dy)) ps) (n0:=3) ⟨i+1,j+1,[],by omega,by omega,rfl,?_,.inl ⟨rfl,rfl,rfl,rfl⟩⟩ ?_ ?_ (by decide)
          ·simp only [cA_eqB,beq_eq_false_iff_ne,ne_eq] at ga
           rw [ho',addE,if_neg fun h=>ga h.1]
          ·unfold eE
           ((repeat' refine iE rfl rfl ?_);exact iN)
          ·unfold hE
           ((repeat'(first|refine iF rfl rfl ?_|refine iJ rfl rfl rfl rfl ?_));exact iN)
         ·exfalso;simp only [cA_add,cA_fits,fitsK,Bool.eq_false_iff,ne_eq,Bool.and_eq_true,decide_eq_true_eq] at g;omega
       ·exfalso;simp only [hwp,Bool.true_and] at g5;rw [show wideS _=true from hw.2] at g5;cases g5
      ·exfalso;rw [g4] at g2;cases g2
     ·exfalso;simp only [hwp,Bool.true_and] at g3;rw [show wideS _=true from hw.1] at g3;cases g3
    ·exfalso;simp only [cA_lt,cA_le,cA_andB,cA_num,Bool.eq_false_iff,ne_eq,Bool.and_eq_true,decide_eq_true_eq] at g1 g2;omega
   ·(conv=>whnf)
    have h4:i=4:=by simp only [cA_lt,cA_num,decide_eq_false_iff_not] at g1;omega
    subst h4
    have:endsL ((ax,ay),(bx,b2)) ((cx,cy),(dx,dy))=[]:=by
     rw [← ho0,ho,hps];rfl
    rw [this]
    rfl
  ·have out_len:out.length≤4:=by rw [ho];exact adds_len (by rw [List.length_take];omega)
   unfold eE hE1
   ((conv=>whnf);refine bm (fun g1=>?_) (fun g1=>?_))
   ·have hlt:i<ps.length:=by simp [cfgS,std] at g1;omega
    have hwp:wide (at2 ps i)=true:=by rw [at2_eq hlt];exact hww _ (List.getElem_mem hlt)
    ((conv=>whnf);refine bm (fun g2=>?_) (fun g2=>?_))
    ·(conv=>whnf)
     refine boL (getP ps hlt ?_) ?_
     ·simp [cfgS,std];omega
     ((conv=>whnf);refine bm (fun g3=>?_) (fun g3=>?_))
     ·((conv=>whnf);refine bm (fun g4=>?_) (fun g4=>?_))
      ·(conv=>whnf)
       refine boL (getP ps hlt ?_) ?_
       ·simp [cfgS,std];omega
       ((conv=>whnf);refine bm (fun g5=>?_) (fun g5=>?_))
       ·(conv=>whnf)
        refine⟨fun n e h nx=>∃ (k:Nat) (jk:Int),jk=k∧k≤out.length∧n=out.length - k∧e=eI (.slice (some ⟨3,0,none⟩) out.length out.length) j (onR (at2 ps i) ((ax,ay),(bx,b2))) (onR (at2 ps i) ((cx,cy),(dx,dy))) (knownS (at2 ps i) (out.take k)) jk∧h=hE1 ((ax,ay),(bx,b2)) ((cx,cy),(dx,dy)) ps out∧nx=4,⟨out.length,?_⟩,?_⟩
        ·refine Into_id (e0:=eI (.slice (some ⟨3,0,none⟩) out.length out.length) j (onR (at2 ps i) ((ax,ay),(bx,b2))) (onR (at2 ps i) ((cx,cy),(dx,dy))) false 0) (h0:=hE1 ((ax,ay),(bx,b2)) ((cx,cy),(dx,dy)) ps out) (n0:=4) ⟨0,0,rfl,Nat.zero_le _,rfl,rfl,rfl,rfl⟩ ?_ ?_ (by decide)
         ·unfold eI
          ((repeat' refine iE rfl rfl ?_);exact iN)
         ·unfold hE1
          ((repeat'(first|refine iF rfl rfl ?_|refine iJ rfl rfl rfl rfl ?_));exact iN)
        ·rintro n e h nx ⟨k,jk,hjk,hk,rfl,rfl,rfl,rfl⟩
         have hat:ps.take (i+1)=ps.take i++[at2 ps i]:=by
          rw [at2_eq hlt,List.take_add_one,List.getElem?_eq_getElem hlt];rfl
         have ho':(ps.take (i+1)).foldl (addE ((ax,ay),(bx,b2)) ((cx,cy),(dx,dy))) []=addE ((ax,ay),(bx,b2)) ((cx,cy),(dx,dy)) out (at2 ps i):=by
          rw [hat,List.foldl_append,← ho];rfl
         unfold eI hE1
         ((conv=>whnf);refine bm (fun f1=>?_) (fun f1=>?_))
         ·have hltk:k<out.length:=by simp [cfgS,std] at f1;omega
          repeat' first
           |((conv=>whnf)
             refine boL (getP out hltk ?_) ?_
             ·simp [cfgS,std];omega)
           |((conv=>whnf)
             refine boL (getP ps hlt ?_) ?_
             ·simp [cfgS,std];omega)
           |(((conv=>whnf);refine bm (fun g=>?_) (fun g=>?_)))
          all_goals (conv=>whnf)
          ·clear g1 g2 g3 g4 g5
           rename_i ga _ _
           refine⟨out.length - (k+1),by omega,?_⟩
           refine Into_id (e0:=eI (.slice (some ⟨3,0,none⟩) out.length out.length) j (onR (at2 ps i) ((ax,ay),(bx,b2))) (onR (at2 ps i) ((cx,cy),(dx,dy))) (eqP (at2 out k) (at2 ps i)) (jk+1)) (h0:=hE1 ((ax,ay),(bx,b2)) ((cx,cy),(dx,dy)) ps out) (n0:=4) ⟨k+1,jk+1,by omega,hltk,rfl,?_,rfl,rfl⟩ ?_ ?_ (by decide)
           ·simp only [cA_eqB,beq_iff_eq,beq_eq_false_iff_ne,ne_eq,Bool.not_eq_false] at ga
            rw [known_take hltk,ga];rfl
           ·unfold eI
            ((repeat' refine iE rfl rfl ?_);exact iN)
           ·unfold hE1
            ((repeat'(first|refine iF rfl rfl ?_|refine iJ rfl rfl rfl rfl ?_));exact iN)
          ·exfalso;have:=out_len;simp only [cA_add,cA_fits,fitsK,Bool.eq_false_iff,ne_eq,Bool.and_eq_true,decide_eq_true_eq] at g;omega
          ·exfalso;rw [g] at g2;cases g2
          ·exfalso;simp only [cA_lt,cA_le,cA_andB,cA_num,Bool.eq_false_iff,ne_eq,Bool.and_eq_true,decide_eq_true_eq] at g;omega
          ·clear g1 g2 g3 g4 g5
           rename_i ga
           refine⟨out.length - (k+1),by omega,?_⟩
           refine Into_id (e0:=eI (.slice (some ⟨3,0,none⟩) out.length out.length) j (onR (at2 ps i) ((ax,ay),(bx,b2))) (onR (at2 ps i) ((cx,cy),(dx,dy))) true (jk+1)) (h0:=hE1 ((ax,ay),(bx,b2)) ((cx,cy),(dx,dy)) ps out) (n0:=4) ⟨k+1,jk+1,by omega,hltk,rfl,?_,rfl,rfl⟩ ?_ ?_ (by decide)
           ·simp only [cA_eqB,beq_iff_eq,beq_eq_false_iff_ne,ne_eq,Bool.not_eq_false] at ga
            rw [known_take hltk,ga];rfl
           ·unfold eI
            ((repeat' refine iE rfl rfl ?_);exact iN)
           ·unfold hE1
            ((repeat'(first|refine iF rfl rfl ?_|refine iJ rfl rfl rfl rfl ?_));exact iN)
          ·exfalso;simp only [cA_add,cA_fits,fitsK,Bool.eq_false_iff,ne_eq,Bool.and_eq_true,decide_eq_true_eq] at g;omega
         ·have hkk:k=out.length:=by simp only [cA_lt,cA_num,decide_eq_false_iff_not] at f1;omega
          repeat' first
           |((conv=>whnf)
             refine boL (getP ps hlt ?_) ?_
             ·simp [cfgS,std];omega)
           |(((conv=>whnf);refine bm (fun g=>?_) (fun g=>?_)))
          all_goals (conv=>whnf)
          ·exfalso;rename_i gc _;have:=Nat.le_of_ble_eq_true gc;omega
          ·exfalso;rename_i gc _;have:=Nat.le_of_ble_eq_true gc;omega
          ·exfalso;rename_i gc;have:=Nat.le_of_ble_eq_true gc;omega
          ·clear g1 g2 g3 g4 g5
           rename_i ga gb gx _ _ _
           refine⟨4 - (i+1),by omega,?_⟩
           refine Into_mv (e0:=eE (.slice (some ⟨3,0,none⟩) (out.length+1) (out.length+1)) (j+1)) (h0:=hE1 ((ax,ay),(bx,b2)) ((cx,cy),(dx,dy)) ps (out++[at2 ps i])) (n0:=4) 3 5 (by decide) (by decide)
            ⟨i+1,j+1,out++[at2 ps i],by omega,by omega,rfl,?_,.inr ⟨by rw [List.length_append];exact Nat.succ_pos _,by rw [List.length_append];rfl,rfl,rfl⟩⟩ ?_ ?_ ?_
           ·simp only [cA_eqB,cA_notB,beq_iff_eq,Bool.not_eq_true'] at ga gb gx
            rw [ho',addE,if_pos ⟨ga,gb,by rw [hkk,List.take_length] at gx;exact gx⟩]
           ·unfold eE
            ((repeat' refine iE rfl rfl ?_);exact iN)
           ·unfold hE1
            ((repeat'(first|refine iW rfl rfl (ObjRen_j (flat_g elP _) (flat_grow out _)) ?_|refine iF rfl rfl ?_|refine iJ rfl rfl rfl rfl ?_));exact iN)
           ·unfold hE1
            ((repeat' refine iK rfl ?_);exact iN)
          ·exfalso;simp only [cA_add,cA_fits,fitsK,Bool.eq_false_iff,ne_eq,Bool.and_eq_true,decide_eq_true_eq] at g;omega
          ·exfalso
           have hf:(flat elP.fl out).length=out.length*2:=flat_len elP out
           have hol4:out.length≤4:=by rw [ho];exact adds_len (by rw [List.length_take];omega)
           simp only [cA_andB,hf] at g
           revert g
           simp
           omega
          ·exfalso;rw [g] at g2;cases g2
          ·clear g1 g2 g3 g4 g5
           rename_i gx
           refine⟨4 - (i+1),by omega,?_⟩
           refine Into_id (e0:=eE (.slice (some ⟨3,0,none⟩) out.length out.length) (j+1)) (h0:=hE1 ((ax,ay),(bx,b2)) ((cx,cy),(dx,dy)) ps out) (n0:=4) ⟨i+1,j+1,out,by omega,by omega,rfl,?_,.inr ⟨hol,rfl,rfl,rfl⟩⟩ ?_ ?_ (by decide)
           ·simp only [cA_eqB,cA_notB,beq_eq_false_iff_ne,ne_eq,Bool.not_eq_false'] at gx
            rw [ho',addE,if_neg fun h=>by rw [hkk,List.take_length] at gx;rw [gx] at h;exact absurd h.2.2 (by decide)]
           ·unfold eE
            ((repeat' refine iE rfl rfl ?_);exact iN)
           ·unfold hE1
            ((repeat'(first|refine iF rfl rfl ?_|refine iJ rfl rfl rfl rfl ?_));exact iN)
          ·exfalso;simp only [cA_add,cA_fits,fitsK,Bool.eq_false_iff,ne_eq,Bool.and_eq_true,decide_eq_true_eq] at g;omega
          ·clear g1 g2 g3 g4 g5
           rename_i gx
           refine⟨4 - (i+1),by omega,?_⟩
           refine Into_id (e0:=eE (.slice (some ⟨3,0,none⟩) out.length out.length) (j+1)) (h0:=hE1 ((ax,ay),(bx,b2)) ((cx,cy),(dx,dy)) ps out) (n0:=4) ⟨i+1,j+1,out,by omega,by omega,rfl,?_,.inr ⟨hol,rfl,rfl,rfl⟩⟩ ?_ ?_ (by decide)
           ·simp only [cA_eqB,cA_notB,beq_eq_false_iff_ne,ne_eq,Bool.not_eq_false'] at gx
            rw [ho',addE,if_neg fun h=>gx h.2.1]
           ·unfold eE
            ((repeat' refine iE rfl rfl ?_);exact iN)
           ·unfold hE1
            ((repeat'(first|refine iF rfl rfl ?_|refine iJ rfl rfl rfl rfl ?_));exact iN)
          ·exfalso;simp only [cA_add,cA_fits,fitsK,Bool.eq_false_iff,ne_eq,Bool.and_eq_true,decide_eq_true_eq] at g;omega
          ·clear g1 g2 g3 g4 g5
           rename_i gx
           refine⟨4 - (i+1),by omega,?_⟩
           refine Into_id (e0:=eE (.slice (some ⟨3,0,none⟩) out.length out.length) (j+1)) (h0:=hE1 ((ax,ay),(bx,b2)) ((cx,cy),(dx,dy)) ps out) (n0:=4) ⟨i+1,j+1,out,by omega,by omega,rfl,?_,.inr ⟨hol,rfl,rfl,rfl⟩⟩ ?_ ?_ (by decide)
           ·simp only [cA_eqB,cA_notB,beq_eq_false_iff_ne,ne_eq,Bool.not_eq_false'] at gx
            rw [ho',addE,if_neg fun h=>gx h.1]
           ·unfold eE
            ((repeat' refine iE rfl rfl ?_);exact iN)
           ·unfold hE1
            ((repeat'(first|refine iF rfl rfl ?_|refine iJ rfl rfl rfl rfl ?_));exact iN)
          ·exfalso;simp only [cA_add,cA_fits,fitsK,Bool.eq_false_iff,ne_eq,Bool.and_eq_true,decide_eq_true_eq] at g;omega
       ·exfalso;simp only [hwp,Bool.true_and] at g5;rw [show wideS _=true from hw.2] at g5;cases g5
      ·exfalso;rw [g4] at g2;cases g2
     ·exfalso;simp only [hwp,Bool.true_and] at g3;rw [show wideS _=true from hw.1] at g3;cases g3
    ·exfalso;simp only [cA_lt,cA_le,cA_andB,cA_num,Bool.eq_false_iff,ne_eq,Bool.and_eq_true,decide_eq_true_eq] at g1 g2;omega
   ·(conv=>whnf)
    have h4:i=4:=by simp only [cA_lt,cA_num,decide_eq_false_iff_not] at g1;omega
    subst h4
    have:endsL ((ax,ay),(bx,b2)) ((cx,cy),(dx,dy))=out:=by
     rw [ho,hps];rfl
    rw [this]
    exact Yields_own (q:=3) (h:=hE1 ((ax,ay),(bx,b2)) ((cx,cy),(dx,dy)) ps out) (nx:=4) (e:=none) elP hol rfl
end Go.Aw
end

noncomputable section
namespace Go.Aw
set_option maxRecDepth 100000
attribute [local irreducible] endsL
def kindL (s t:Sg):List (Int × Int)→Int
 |[]=>if turnS s.1 s.2 t.1*turnS s.1 s.2 t.2<0∧turnS t.1 t.2 s.1*turnS t.1 t.2 s.2<0 then 3 else 0
 |[p]=>if (eqP p s.1=true∨eqP p s.2=true)∧(eqP p t.1=true∨eqP p t.2=true) then 1 else 2
 |_::_::_=>4
theorem meetR_L (s t:Sg):meetR s t=kindL s t (endsL s t):=rfl
theorem meetR_of {s t:Sg}{l:List (Int × Int)}(h:endsL s t=l):meetR s t=kindL s t l:=by
 rw [meetR_L,h]
def X72:Nat × XF:=(90,gX (s2 cS cS fun s t=>(wideS s&&wideS t,u8 (meetR s t))))
theorem x72:XOK Go.Proofs.Tryz.prog X72.1 X72.2:=x2 cS cS (xl:=[X70,X57]) (.cons x70 (.cons x57 .nil)) (fun _ _=>rfl) fun s t hp=>by
 obtain⟨⟨ax,ay⟩,⟨bx,b2⟩⟩:=s
 obtain⟨⟨cx,cy⟩,⟨dx,dy⟩⟩:=t
 have l1:=turn_low (ax,ay) (bx,b2) (cx,cy)
 have l2:=turn_low (ax,ay) (bx,b2) (dx,dy)
 have l3:=turn_low (cx,cy) (dx,dy) (ax,ay)
 have l4:=turn_low (cx,cy) (dx,dy) (bx,b2)
 have m1:=mulB (A:=1) (B:=1) l1.1 l1.2 l2.1 l2.2
 have m2:=mulB (A:=1) (B:=1) l3.1 l3.2 l4.1 l4.2
 have hp':=hp
 simp only [wideS,Bool.and_eq_true] at hp
 unfold Does1
 ((conv=>whnf);refine bm (fun g=>?_) (fun g=>?_))
 ·(conv=>whnf)
  generalize he:endsL _ _=L
  have hm:meetR ((ax,ay),(bx,b2)) ((cx,cy),(dx,dy))=kindL ((ax,ay),(bx,b2)) ((cx,cy),(dx,dy)) L:=meetR_of he
  clear he g hp'
  rcases L with _|⟨p,_|⟨q,r⟩⟩
  ·repeat' ((conv=>whnf);refine bm (fun g=>?_) (fun g=>?_))
   all_goals (conv=>whnf)
   all_goals (clear l1 l2 l3 l4)
   all_goals (try (show u8 _=u8 (meetR ((ax,ay),(bx,b2)) ((cx,cy),(dx,dy)));rw [hm];clear hm))
   all_goals (simp only [cA_mul,cA_lt,cA_fits,cA_eqB,cA_num,fitsK,pEta,Bool.and_eq_true,beq_iff_eq,beq_eq_false_iff_ne,ne_eq,decide_eq_true_eq,decide_eq_false_iff_not,not_and,Bool.not_eq_true',Bool.not_eq_false'] at *)
   all_goals first
    |(simp only [kindL,u8];simp_all;done)
    |(simp_all;done)
    |(simp only [Bool.and_eq_false_iff,decide_eq_false_iff_not] at *;omega)
    |(rw [kindL,if_neg fun h=>g h.1];done)
  ·repeat' ((conv=>whnf);refine bm (fun g=>?_) (fun g=>?_))
   all_goals (conv=>whnf)
   all_goals (clear l1 l2 l3 l4 m1 m2 hp)
   all_goals (show u8 _=u8 (meetR ((ax,ay),(bx,b2)) ((cx,cy),(dx,dy)));rw [hm];clear hm)
   all_goals (simp only [cA_eq,cA_andB,cA_mul,cA_lt,cA_fits,cA_eqB,cA_num,fitsK,pEta,beq_iff_eq,beq_eq_false_iff_ne,ne_eq] at *)
   all_goals (simp only [kindL,u8];simp_all [eqP] <;> omega)
  ·((conv=>whnf);refine bm (fun g=>?_) (fun g=>?_))
   ·(conv=>whnf)
    show u8 _=u8 (meetR ((ax,ay),(bx,b2)) ((cx,cy),(dx,dy)))
    rw [hm]
    rfl
   ·exfalso
    simp [cA_lt,cA_num] at g
    omega
 ·exfalso
  rw [show _=true from hp'] at g
  cases g
end Go.Aw
end

noncomputable section
namespace Go.Aw
set_option maxRecDepth 100000
def elS:El Sg:=⟨fun s=>[iv s.1.1,iv s.1.2,iv s.2.1,iv s.2.2],4,fun _=>rfl,fun _=>rfl,by decide⟩
def hS (l:List Sg):Heap:=[(0,.cells false true 4 (flat elS.fl l))]
end Go.Aw
end

noncomputable section
namespace Go.Aw
set_option maxRecDepth 100000
def rightT (s t:Sg):Bool:=rightG s&&rightG t
def X72':Nat × XF:=(90,gX (s2 cS cS fun s t=>(rightT s t,u8 (meetS s t))))
theorem x72':XOK Go.Proofs.Tryz.prog X72'.1 X72'.2:=gX_weak x72 fun args v hs=>by
 obtain⟨x,y,rfl,e⟩:=s2_inv cS cS hs
 have e2:rightT x y=true:=congrArg Prod.fst e
 have e3:u8 (meetS x y)=v:=congrArg Prod.snd e
 simp only [rightT,Bool.and_eq_true] at e2
 subst e3
 have hw:(wideS x&&wideS y)=true:=by rw [rightG_wide e2.1,rightG_wide e2.2];rfl
 show some (wideS x&&wideS y,u8 (meetR x y))=some _
 rw [meet_eq x y e2.1 e2.2,hw]
end Go.Aw
end
