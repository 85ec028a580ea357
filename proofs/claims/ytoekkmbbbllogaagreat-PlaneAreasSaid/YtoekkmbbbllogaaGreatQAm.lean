/-
  Parts of a proof. No condition.
-/
import Derived.Test.YtoekkmbbbllogaaGreatQAl
set_option linter.unusedSimpArgs false
set_option linter.unusedVariables false
noncomputable section
namespace Go.Aw
open Go.RowKit
section
variable {A:Ar}{T:Tab}{C:VC}{Y:VY}
theorem det_vresults {e:List (Nat × Value)}{h:Heap}:∀ (l:List ResultVar),Det (vresults T e h l)
 |[]=>det_pure
 |.tmp t::r=>by
  show Det (fun K=>vresults T e h (.tmp t::r) K)
  simp only [vresults_tmp,vresults_cell]
  exact det_on (F:=fun v K=>vresults T e h r fun l=>K (v::l)) fun v=>det_bind (F:=fun l K=>K (v::l)) (det_vresults r) fun l=>det_pure
 |.cell a t::r=>by
  show Det (fun K=>vresults T e h (.cell a t::r) K)
  simp only [vresults_tmp,vresults_cell]
  exact det_on (F:=fun p K=>vload T h t p fun v=>vresults T e h r fun l=>K (v::l)) fun p=>det_bind (F:=fun v K=>vresults T e h r fun l=>K (v::l)) det_vload fun v =>
   det_bind (F:=fun l K=>K (v::l)) (det_vresults r) fun l=>det_pure
theorem det_vend {fn:Func}{g:Value→Heap→Nat→Value × Heap × Nat}:DetK (fun K=>vend T fn (fun v h nx=>K (g v h nx).1 (g v h nx).2.1 (g v h nx).2.2)):=by
 intro e h nx
 unfold vend
 refine detE_bind1 (F:=fun l K=>match l with
  |[v]=>K (g v h nx).1 (g v h nx).2.1 (g v h nx).2.2
  |l=>match noTup l with|true=>K (g (.tuple l.toArray) h nx).1 (g (.tuple l.toArray) h nx).2.1 (g (.tuple l.toArray) h nx).2.2|false=>False) (det_vresults _) fun l=>?_
 intro K hl
 split at hl
 ·exact detE_pure K hl
 ·split at hl
  ·exact detE_pure K hl
  ·exact hl.elim
theorem det_vfin {q:Nat}{j:Option Code}:DetK (fun K=>vfin q K j):=by
 intro e h nx
 simp only [vfin]
 cases look h q with
 |none=>exact detE_false
 |some o=>cases o <;> first|exact detE_pure|exact detE_false
theorem noRange_det:RDet noRange:=fun _ _ _ _ _ _ _ _ _ _ _ _ _=>detE_false
theorem det_vround (hC:DetC C)(hY:DetC Y){PL:Nat→Nat→Option Plan}{n:Nat}:DetC (vround A T C Y PL (.fuel n)):=by
 intro q args h nx
 show DetE (fun K=>vround A T C Y PL (.fuel n) q args h nx K)
 unfold vround
 intro K hl
 split at hl
 case h_2=>exact hl.elim
 rename_i la hk
 split at hl
 case h_2=>exact hl.elim
 rename_i e0 hz hpl
 refine det_vcode hC hY noRange_det la.assign (fun K e1 h1 nx1 =>
  match look h1 q with
  |some (.loop l1)=>(match l1.state with
   |.ready=>vcode A T C Y la.tn (PL la.fn) (.fuel n) noRange la.body (vfin q K none) (fun id=>vfin q K (some (.exit id))) (vfin q K (some .ret)) e1 (upd h1 q (.loop { l1 with state:=.busy })) nx1
   |_=>False)
  |_=>False) (fun _ _ _ _ _=>False) (fun _ _ _ _=>False) ?_ (fun _ _ _ _=>detE_false) (fun _ _ _=>detE_false) e0 h nx K hl
 intro e1 h1 nx1 K hl
 dsimp only at hl ⊢
 split at hl
 case h_2=>exact hl.elim
 split at hl
 case h_2=>exact hl.elim
 exact det_vcode hC hY noRange_det la.body (fun K=>vfin q K none) (fun id K=>vfin q K (some (.exit id))) (fun K=>vfin q K (some .ret)) det_vfin (fun _=>det_vfin) det_vfin e1 _ nx1 K hl
theorem det_vbody {c:Cfg}{n:Nat}(hC:DetC C)(hY:DetC Y)(hX:∀ f x,c.X f=some x→∀ args h nx,DetE (x args h nx)):DetC (vbody c (some n) C Y):=by
 intro f args h nx
 show DetE (fun K=>vbody c (some n) C Y f args h nx K)
 unfold vbody
 intro K hl
 split at hl
 ·rename_i x hx
  exact hX f x hx args h nx K hl
 ·split at hl
  ·exact hl.elim
  ·rename_i fn hfn
   split at hl
   case h_2=>exact hl.elim
   rename_i b hb hle
   have hv:DetK (fun K=>vend c.T fn (fun v h' nx'=>K v h' nx')) :=
    det_vend (g:=fun v h' nx'=>(v,h',nx'))
   exact det_vcode hC hY (det_vrange hC) b (fun K=>vend c.T fn (fun v h' nx'=>K v h' nx')) (fun _ _ _ _ _=>False) (fun K=>vend c.T fn (fun v h' nx'=>K v h' nx')) hv (fun _ _ _ _=>detE_false) hv _ h nx K hl
end
def XOK (P:Program)(f:Nat)(x:List Value→Heap→Nat→KE→Prop):Prop:=(∀ args h nx K,x args h nx K→∀ ι B w,RelH ι B h nx w→(∀ v∈args,scT ι nx v) →
 (∃ fn, P.funcs[f]? = some fn ∧ fn.body.isSome = true ∧ (fn.name == "runtime.NumGoroutine") = false) ∧ CallsIn Fence.wide 0 P f (args.map (tr ι)).toArray w (Ret B w ι nx K)) ∧ ∀ args h nx, DetE (x args h nx)
structure CfgOK (P:Program) (c:Cfg):Prop where
 ar:c.A=std
 tab:TabOK P c.T
 mixed:P.follows .mixedOrders=true
 funcs : ∀ f fn, c.FT f = some fn → P.funcs[f]? = some fn ∧ (fn.name == "runtime.NumGoroutine") = false ∧ ∀ b, fn.body = some b → plansOK (c.PL f) b = true
 xs:∀ f x,c.X f=some x→XOK P f x
section
variable {P:Program}{c:Cfg}{C:VC}{Y:VY}
theorem vbody_ok (hc:CfgOK P c)(hC:CallsOK P C)(hY:YieldsOK P Y)(hD:DetC C)(hDY:DetC Y)(M:Option Nat):CallsOK P (vbody c M C Y):=by
 intro f args h nx K hl ι B w H hs
 unfold vbody at hl
 split at hl
 ·rename_i x hx
  exact (hc.xs f x hx).1 args h nx K hl ι B w H hs
 ·split at hl
  ·exact hl.elim
  ·rename_i fn hfn
   split at hl
   case h_2=>exact hl.elim
   rename_i b hb hle
   obtain⟨h1,h2,h3⟩:=hc.funcs f fn hfn
   refine⟨⟨fn,h1,by rw [hb];rfl,h2⟩,?_⟩
   rw [hc.ar] at hl
   refine body_ok (K':=K) hc.tab hC hY hD hDY hc.mixed h1 hb (h3 b hb) (by cases M with|none=>exact Nat.le_refl _|some n=>trivial) (vrange_ok hC) (vrange_mono hD) (Nat.le_of_ble_eq_true hle) (fun v h' nx' hk=>⟨_,hk,fun k o hlk=>hlk⟩) hl H hs
theorem newOwn_look {n:Nat}{g:Heap}:∀ {h:Heap} {k:Nat} {o:AObj},look (newOwn n g h) k=some o→look h k=some o∧n≤k∧((∃ a b c,look g k=some (.cells true a b c))∨∃ es,look g k=some (.map es))
 |[],k,o,hk=>by cases hk
 |(j,q)::r,k,o,hk=>by
  have drop:look (newOwn n g r) k=some o→((∃ a b c,look g j=some (.cells true a b c))→n≤j→False)→((∃ es,look g j=some (.map es))→n≤j→False)→look ((j,q)::r) k=some o∧n≤k∧((∃ a b c,look g k=some (.cells true a b c))∨∃ es,look g k=some (.map es)):=by
   intro h1 h2 h3
   obtain⟨i1,i2,i3⟩:=newOwn_look h1
   refine⟨?_,i2,i3⟩
   rw [look_cons]
   split
   ·rename_i hb
    have:=beq_true hb
    subst this
    rcases i3 with i3|i3
    ·exact (h2 i3 i2).elim
    ·exact (h3 i3 i2).elim
   ·exact i1
  have keep:look ((j,q)::newOwn n g r) k=some o→n≤j→((∃ a b c,look g j=some (.cells true a b c))∨∃ es,look g j=some (.map es))→look ((j,q)::r) k=some o∧n≤k∧((∃ a b c,look g k=some (.cells true a b c))∨∃ es,look g k=some (.map es)):=by
   intro h1 h2 h3
   rw [look_cons] at h1 ⊢
   split at h1
   ·rename_i hb
    have:=beq_true hb
    subst this
    exact⟨h1,h2,h3⟩
   ·exact newOwn_look h1
  unfold newOwn at hk
  split at hk
  ·rename_i a b c hn hg
   exact keep hk (Nat.le_of_ble_eq_true hn) (.inl ⟨_,_,_,hg⟩)
  ·rename_i es hn hg
   exact keep hk (Nat.le_of_ble_eq_true hn) (.inr ⟨_,hg⟩)
  ·rename_i n1 n2
   exact drop hk (fun ⟨a,b,c,h1⟩ h2=>n1 _ _ _ (Nat.ble_eq_true_of_le h2) h1) (fun ⟨es,h1⟩ h2=>n2 _ (Nat.ble_eq_true_of_le h2) h1)
theorem frC_ok {PR:Nat→Bool}(hC:CallsOK P C):CallsOK P (frC PR C):=by
 intro f args h nx K hl ι B w H hs
 unfold frC at hl
 split at hl
 case h_2=>exact hC f args h nx K hl ι B w H hs
 obtain⟨c1,c2⟩:=hC f args (shutH h) nx _ hl ι w.heap.size w H.shut hs
 refine⟨c1,CallsIn.mono c2 fun e w' hr=>?_⟩
 cases e with
 |returned u =>
  obtain⟨v,h',nx',ι',q1,q2,q3,q4,q5,q6,q7⟩:=hr
  have H':RelH ι B h nx w':=H.ext q4
  unfold frK at q1
  split at q1
  ·rename_i hg
   exact⟨v,h,nx,ι,q1,scT_g hg,H',q4.mono H.size,fun _ _=>rfl,Nat.le_refl _,by rw [q7,tr_g hg,tr_g hg]⟩
  ·refine⟨v,_,nx',ι',q1,q2,?_,q4.mono H.size,q5,q6,q7⟩
   have Q:=q3.down H.size
   have hcase:∀ k o,look (app (newOwn nx h' h') h) k=some o→(look h k=some o∧k<nx)∨(look h' k=some o∧nx≤k∧∀ b,(ι' k).blk=some b→w.heap.size≤b):=by
    intro k o hk
    rw [look_app] at hk
    split at hk
    ·rename_i o1 ho
     injection hk with hk
     subst hk
     obtain⟨a1,a2,a3⟩:=newOwn_look ho
     refine .inr ⟨a1,a2,fun b hb=>?_⟩
     have hob:=q3.obj k _ a1
     cases hl:ι' k with
     |nil p=>rw [hl] at hb;cases hb
     |lay b2 off e =>
      rw [hl] at hb hob
      have e1:b2=b:=by simpa [Loc.blk] using hb
      subst e1
      rcases a3 with ⟨a,b',c,a3⟩|⟨es,a3⟩
      ·rw [a1] at a3
       injection a3 with a3
       subst a3
       exact hob.1
      ·rw [a1] at a3
       injection a3 with a3
       subst a3
       exact hob.1
    ·exact .inl ⟨hk,H.low k _ hk⟩
   refine⟨fun k o hk=>?_,fun k k' o o' hk hk' hne ha b hb=>?_,fun k o hk=>?_,H'.size,fun k o hk=>?_⟩
   ·rcases hcase k o hk with ⟨h2,h3⟩|⟨h2,h3,_⟩
    ·rw [q5 k h3]
     exact (H'.obj k o h2).names (H'.sc k o h2) q5
    ·exact Q.obj k o h2
   ·rcases hcase k o hk with ⟨h2,h3⟩|⟨h2,h3,h4⟩ <;> rcases hcase k' o' hk' with ⟨h2',h3'⟩|⟨h2',h3',h4'⟩
    ·rw [q5 k h3] at hb
     rw [q5 k' h3']
     exact H'.sep k k' o o' h2 h2' hne ha b hb
    ·rw [q5 k h3] at hb
     intro hb'
     have:=h4' b hb'
     have:=(H.obj k o h2).lt hb
     omega
    ·rw [q5 k' h3']
     intro hb'
     have:=h4 b hb
     have:=(H.obj k' o' h2').lt hb'
     omega
    ·exact Q.sep k k' o o' h2 h2' hne ha b hb
   ·rcases hcase k o hk with ⟨h2,h3⟩|⟨h2,h3,h4⟩
    ·omega
    ·exact Q.low k o h2
   ·rcases hcase k o hk with ⟨h2,h3⟩|⟨h2,h3,h4⟩
    ·exact (H'.sc k o h2).mono q6 q5
    ·exact Q.sc k o h2
 |_=>exact hr.elim
theorem frC_det {PR:Nat→Bool}(hC:DetC C):DetC (frC PR C):=by
 intro f args h nx K hl
 unfold frC at hl ⊢
 cases hp:PR f with
 |false=>simp only [hp] at hl ⊢;exact hC f args h nx K hl
 |true =>
 simp only [hp] at hl ⊢
 obtain⟨v,h',nx',q1,q2⟩:=hC _ _ _ _ _ hl
 unfold frK at q1
 split at q1
 ·rename_i hg
  refine⟨v,h,nx,q1,fun K' hk=>q2 _ ?_⟩
  unfold frK
  rw [hg]
  exact hk
 ·rename_i hg
  refine⟨v,_,nx',q1,fun K' hk=>q2 _ ?_⟩
  unfold frK
  rw [hg]
  exact hk
theorem vcall_ok (hc:CfgOK P c):∀ d,CallsOK P (vcall c d false)∧YieldsOK P (vcall c d true)∧DetC (vcall c d false)∧DetC (vcall c d true)
 |0=>⟨fun _ _ _ _ _ hl=>hl.elim,fun _ _ _ _ _ hl=>hl.elim,fun _ _ _ _ _ hl=>hl.elim,fun _ _ _ _ _ hl=>hl.elim⟩
 |d+1=>by
  obtain⟨h1,h2,h3,h4⟩:=vcall_ok hc d
  refine⟨frC_ok (vbody_ok hc h1 h2 h3 h4 _),?_,frC_det (det_vbody h3 h4 (fun f x hx=>(hc.xs f x hx).2)),det_vround h3 h4⟩
  show YieldsOK P (vround c.A c.T (vcall c d false) (vcall c d true) c.PL (.fuel c.M))
  rw [hc.ar]
  exact vround_ok hc.tab h1 h2 h3 h4 hc.mixed
end
end Go.Aw
end

noncomputable section
namespace Go.Aw
open Go.RowKit
def vSame:Value→Value→Bool
 |.int k a,.int k' b=>kEq k k'&&decide (a=b)
 |.bool a,.bool b=>a == b
 |.pointer none,.pointer none=>true
 |.slice none n c,.slice none m d=>Nat.beq n m&&Nat.beq c d
 |.map none,.map none=>true
 |.nilFunc,.nilFunc=>true
 |.nilIface,.nilIface=>true
 |.string a,.string b=>(match a.data.toList,b.data.toList with|[],[]=>true|_,_=>false)
 |_,_=>false
def allSame:List Value→List Value→Bool
 |[],[]=>true
 |x::r,y::s=>vSame x y&&allSame r s
 |_,_=>false
def aSame:Value→Value→Bool
 |.agg xs,.agg ys=>allSame xs.toList ys.toList
 |x,y=>vSame x y
theorem vSame_eq {x y:Value}(h:vSame x y=true):x=y:=by
 unfold vSame at h
 split at h
 ·simp only [Bool.and_eq_true,decide_eq_true_eq] at h
  rw [kEq_true h.1,h.2]
 ·simpa using h
 ·rfl
 ·simp only [Bool.and_eq_true] at h
  rw [beq_true h.1,beq_true h.2]
 ·rfl
 ·rfl
 ·rfl
 ·rename_i a b
  split at h
  ·rename_i h1 h2
   obtain⟨⟨a⟩⟩:=a
   obtain⟨⟨b⟩⟩:=b
   simp at h1 h2
   rw [h1,h2]
  ·cases h
 ·cases h
theorem allSame_eq:∀ {x y:List Value},allSame x y=true→x=y
 |[],[],_=>rfl
 |[],_::_,h=>by cases h
 |_::_,[],h=>by cases h
 |x::r,y::s,h=>by
  simp only [allSame,Bool.and_eq_true] at h
  rw [vSame_eq h.1,allSame_eq h.2]
theorem aSame_eq {x y:Value}(h:aSame x y=true):x=y:=by
 unfold aSame at h
 split at h
 ·congr 1
  apply Array.ext'
  exact allSame_eq h
 ·exact vSame_eq h
def tyB0 (P:Program)(t:TypeId)(i:TyI):Bool :=
 (match P.info? t with|some x=>Nat.beq x.size i.size&&Nat.beq x.bytes i.bytes&&(match x.zero with|some z=>aSame z i.zv|none=>false)|none=>false) &&
 (match P.underlying t with|some d=>KOK d i.kind|none=>false) &&
 Nat.beq i.zv.cells.size i.size&&gA i.zv&&!P.stoodInHeld t&&!P.eqGuardType P.depth t&&Nat.blt 0 i.size
def noK:TyK→Bool
 |.mpk _ _=>false
 |_=>true
def tyB (P:Program)(t:TypeId)(i:TyI):Bool:=tyB0 P t i&&noK i.kind
def tabB (P:Program):Tab→Bool
 |[]=>true
 |(t,i)::r=>tyB P t i&&tabB P r
def tabB0 (P:Program):Tab→Bool
 |[]=>true
 |(t,i)::r=>tyB0 P t i&&tabB0 P r
theorem tyB0_ok {P:Program}{t:TypeId}{i:TyI}(h:tyB0 P t i=true)(hl:∀ k e,i.kind=.mpk k e→LawOK P k):TyOK P t i:=by
 unfold tyB0 at h
 simp only [Bool.and_eq_true,Bool.not_eq_true'] at h
 obtain⟨⟨⟨⟨⟨⟨h1,h2⟩,h3⟩,h4⟩,h5⟩,h6⟩,h7⟩:=h
 split at h1
 case h_2=>cases h1
 rename_i x hx
 simp only [Bool.and_eq_true] at h1
 obtain⟨⟨h8,h9⟩,h10⟩:=h1
 split at h10
 case h_2=>cases h10
 rename_i z hz
 split at h2
 case h_2=>cases h2
 rename_i d hd
 exact⟨⟨x,hx,beq_true h8,beq_true h9,by rw [hz,aSame_eq h10]⟩,⟨d,hd,h2⟩,beq_true h3,h4,h5,h6,blt_true h7,hl⟩
theorem tabB0_ok {P:Program}:∀ {T:Tab},tabB0 P T=true→(∀ t i k e,(t,i)∈T→i.kind=.mpk k e→LawOK P k)→TabOK P T
 |[],_,_,t,i,h=>by cases h
 |(u,j)::r,hb,hl,t,i,h=>by
  simp only [tabB0,Bool.and_eq_true] at hb
  simp only [look_cons] at h
  split at h
  ·rename_i hu
   have:=beq_true hu
   subst this
   injection h with h
   subst h
   exact tyB0_ok hb.1 fun k e=>hl _ _ k e (.head _)
  ·exact tabB0_ok hb.2 (fun t i k e hm=>hl t i k e (.tail _ hm)) t i h
end Go.Aw
end
