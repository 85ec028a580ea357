/-
  Parts of a proof. No condition.
-/
import Derived.Test.YtoekkmbbbllogaaGreatQAf
import Derived.OrdersIn
set_option linter.unusedSimpArgs false
set_option linter.unusedVariables false
noncomputable section
namespace Go.Aw
open Go.RowKit
abbrev VC:=Nat→List Value→Heap→Nat→KE→Prop
abbrev VY:=Nat→List Value→Heap→Nat→KE→Prop
abbrev KS:=List (Nat × Value)→Heap→Nat→Prop
def optOK (env:List (Nat × Value)):Option Operand→Option (Option Value)
 |none=>some none
 |some x=>match opv env x with|some v=>some (some v)|none=>none
def capPtr:List Value→Bool
 |[]=>true
 |.pointer (some _)::r=>capPtr r
 |_=>false
def vop (A:Ar)(T:Tab)(C:VC)(Y:VY)(env:List (Nat × Value))(h:Heap)(nx:Nat)(op:Op)(K:KE):Prop :=
 match op with
 |.store t x y=>on (opv env x) fun p=>on (opv env y) fun v=>vstore T h nx t p v K
 |.alloc t=>valloc T h nx t K
 |.box _ x=>on (opv env x) fun v=>vbox h nx v K
 |.buildSlice t n ps=>(match partsOK env ps.toList with|some l=>vbuildSlice T h nx t n l K|none=>False)
 |.slice t x lo hi mx=>on (opv env x) fun v=>(match optOK env lo,optOK env hi,optOK env mx with
  |some l,some u,some m=>vslice A T h nx t v l u m K
  |_,_,_=>False)
 |.makeMap _ none=>vmakeMap h nx K
 |.makeSlice t l c=>on (opv env l) fun l=>on (opv env c) fun c=>vmakeSlice A T h nx t l c K
 |.lookup t m k ok=>on (opv env m) fun x=>on (opv env k) fun y=>vlookup A T h t x y ok (fun v=>K v h nx)
 |.mapUpdate t m k u=>on (opv env m) fun x=>on (opv env k) fun y=>on (opv env u) fun v=>vmapUpdate A T h nx t x y v K
 |.mapEntry t m k=>on (opv env m) fun x=>on (opv env k) fun y=>vmapEntry A T h nx t x y K
 |.entryStore _ m s u=>on (opv env m) fun x=>on (opv env s) fun y=>on (opv env u) fun v=>ventryStore h nx x y v K
 |.range t x=>on (opv env x) fun v=>vmrange T h nx t v K
 |.entry x=>on (opv env x) fun v=>ventry h v (fun u=>K u h nx)
 |.call c=>(match c.callee with
  |.builtin .append=>(match c.argTypes.toList,vargs env c.args.toList with|[st,xt],some [s,x]=>vappend A T h nx st xt s x K|_,_=>False)
  |.builtin .clear=>(match c.argTypes.toList,vargs env c.args.toList with|[t],some [x]=>vclear T h nx t x K|_,_=>False)
  |.builtin _=>vlook A T env h op (fun v=>K v h nx)
  |.value f=>on (opv env f) fun fv=>(match vargs env c.args.toList with
   |some l=>(match fv with
    |.func (.func g) first cap=>(match first.toList,capPtr cap.toList with
     |[],true=>C g (l++cap.toList) h nx K
     |_,_=>False)
    |.func (.yield q) first _=>(match first.toList with
     |[]=>Y q l h nx K
     |_=>False)
    |_=>False)
   |none=>False)
  |_=>False)
 |_=>vlook A T env h op (fun v=>K v h nx)
def getL {α:Type}:List α→Nat→Option α
 |[],_=>none
 |x::_,0=>some x
 |_::r,n+1=>getL r n
theorem getL_eq {α:Type}(l:List α)(n:Nat):getL l n=l[n]? := by
 induction l generalizing n with
 |nil=>rfl
 |cons v r ih=>cases n <;> simp [getL,ih]
def vguard (A:Ar)(ops:List Oper)(env:List (Nat × Value))(g:Option (Nat × Bool))(Y N:List (Nat × Value)→Prop):Prop :=
 match g with
 |none=>Y env
 |some (j,want)=>match getL ops j with
  |some o=>(match o.dst with
   |some t=>(match look env t with
    |some (.bool b)=>br (A.eqB b want) (fun _=>Y (put env t (.bool want))) (fun _=>N (put env t (.bool (!want))))
    |some (.tuple _)=>N env
    |_=>False)
   |none=>False)
  |none=>False
def vput (tn:Nat)(env:List (Nat × Value))(dst:Option Nat)(v:Value)(K:List (Nat × Value)→Prop):Prop :=
 match dst with
 |none=>K env
 |some d=>match Nat.blt d tn with|true=>K (put env d v)|false=>False
def vops (A:Ar)(T:Tab)(C:VC)(Y:VY)(tn:Nat)(ops:List Oper)(l:List Oper):List (Nat × Value)→Heap→Nat→KS→Prop :=
 @List.rec Oper (fun _=>List (Nat × Value)→Heap→Nat→KS→Prop) (fun env h nx K=>K env h nx)
  (fun o _ ih env h nx K=>vguard A ops env o.guard
   (fun env=>vop A T C Y env h nx o.op fun v h' nx'=>vput tn env o.dst v fun env'=>ih env' h' nx' K)
   (fun env=>vput tn env o.dst undef fun env'=>ih env' h nx K)) l
theorem vops_cons {A:Ar}{T:Tab}{C:VC}{Y:VY}{tn:Nat}{ops:List Oper}{o:Oper}{r:List Oper}{env:List (Nat × Value)}{h:Heap}{nx:Nat}{K:KS}:vops A T C Y tn ops (o::r) env h nx K=vguard A ops env o.guard
 (fun env=>vop A T C Y env h nx o.op fun v h' nx'=>vput tn env o.dst v fun env'=>vops A T C Y tn ops r env' h' nx' K)
 (fun env=>vput tn env o.dst undef fun env'=>vops A T C Y tn ops r env' h nx K):=rfl
structure Inv (B:Nat) (w0:World) (ι0:Nat→Loc) (nx0 tn:Nat) (ds:List Deferred) (ι:Nat→Loc) (env:List (Nat × Value)) (h:Heap) (nx:Nat) (a:Act) (w:World):Prop where
 env:EnvOK ι nx env a
 heap:RelH ι B h nx w
 below:Bel B w0 w
 old:∀ k,k<nx0→ι k=ι0 k
 le:nx0≤nx
 size:a.tmps.size=tn
 defers:a.defers=ds
def Ret (B:Nat)(w0:World)(ι0:Nat→Loc)(nx0:Nat)(K:KE):Ending→World→Prop
 |.returned u,w=>∃ v h nx ι,K v h nx∧scT ι nx v∧RelH ι B h nx w∧Bel B w0 w∧(∀ k,k<nx0→ι k=ι0 k)∧nx0≤nx∧u=tr ι v
 |_,_=>False
def Fr (r:Option Nat):Fence:={ Fence.wide with round:=r }
def CallsOK (P:Program)(C:VC):Prop:=∀ f args h nx K,C f args h nx K→∀ ι B w,RelH ι B h nx w→(∀ v∈args,scT ι nx v) →
 (∃ fn, P.funcs[f]? = some fn ∧ fn.body.isSome = true ∧ (fn.name == "runtime.NumGoroutine") = false) ∧ CallsIn Fence.wide 0 P f (args.map (tr ι)).toArray w (Ret B w ι nx K)
def YieldsOK (P:Program)(Y:VY):Prop:=∀ l args h nx K,Y l args h nx K→∀ ι B w,RelH ι B h nx w→(∀ v∈args,scT ι nx v) →
 ∀ b o e,ι l=.lay b o e→∃ f tmps as bd,(Instr.yield b (args.map (tr ι)).toArray).run P w=.ok (.round b f tmps as bd) w∧RoundIn Fence.wide 0 P b f tmps as bd w (Ret B w ι nx K)
section
variable {P:Program}{T:Tab}{C:VC}{Y:VY}
theorem EnvOK.upd {ι:Nat→Loc}{n:Nat}{env:List (Nat × Value)}{a:Act}(he:EnvOK ι n env a){d:Nat}{v:Value}(hd:d<a.tmps.size)(hv:scT ι n v):EnvOK ι n (put env d v) (a.put (some d) (tr ι v)):=by
 intro t u hu
 rw [look_put] at hu
 by_cases e:t=d
 ·subst e
  rw [if_pos rfl] at hu
  injection hu with hu
  subst hu
  exact⟨by simp [Act.put,Array.getElem?_setIfInBounds_self_of_lt hd],hv⟩
 ·rw [if_neg e] at hu
  obtain⟨h1,h2⟩:=he t u hu
  refine⟨?_,h2⟩
  simp only [Act.put]
  rw [Array.getElem?_setIfInBounds_ne (fun e'=>e e'.symm)]
  exact h1
theorem EnvOK.same {ι:Nat→Loc}{n:Nat}{env:List (Nat × Value)}{a:Act}(he:EnvOK ι n env a){d:Nat}{v:Value}(hv:look env d=some v):EnvOK ι n (put env d v) a:=by
 intro t u hu
 rw [look_put] at hu
 by_cases e:t=d
 ·subst e
  rw [if_pos rfl] at hu
  injection hu with hu
  subst hu
  exact he t v hv
 ·rw [if_neg e] at hu
  exact he t u hu
theorem EnvOK.names {ι ι':Nat→Loc}{n m:Nat}{env:List (Nat × Value)}{a:Act}(he:EnvOK ι n env a)(hle:n≤m)(hi:∀ k,k<n→ι' k=ι k):EnvOK ι' m env a:=by
 intro t u hu
 obtain⟨h1,h2⟩:=he t u hu
 exact⟨by rw [tr_eq hi h2];exact h1,scT_mono hle hi h2⟩
theorem vput_ok {ι:Nat→Loc}{n tn:Nat}{env:List (Nat × Value)}{a:Act}(he:EnvOK ι n env a)(hs:a.tmps.size=tn){dst:Option Nat}{v:Value}{K:List (Nat × Value)→Prop}(hl:vput tn env dst v K)(hv:scT ι n v) :
  ∃ env',K env'∧EnvOK ι n env' (a.put dst (tr ι v))∧(a.put dst (tr ι v)).tmps.size=tn∧(a.put dst (tr ι v)).defers=a.defers:=by
 unfold vput at hl
 cases dst with
 |none=>exact⟨env,hl,he,hs,rfl⟩
 |some d =>
  simp only at hl
  split at hl
  ·rename_i hd
   have hd:d<tn:=Nat.le_of_ble_eq_true hd
   exact⟨_,hl,he.upd (by omega) hv,by simp [Act.put,hs],rfl⟩
  ·exact hl.elim
theorem vguard_ok {ι:Nat→Loc}{n:Nat}{env:List (Nat × Value)}{a:Act}(he:EnvOK ι n env a){ops:Array Oper}{o:Oper}{Yk N:List (Nat × Value)→Prop}(hl:vguard std ops.toList env o.guard Yk N) :
  ∃ env',EnvOK ι n env' a∧((Region.wanted o (yielded ops a.tmps)=true∧Yk env')∨(Region.wanted o (yielded ops a.tmps)=false∧N env')):=by
 unfold vguard at hl
 unfold Region.wanted
 split at hl
 ·rename_i hg
  rw [hg]
  exact⟨env,he,.inl ⟨rfl,hl⟩⟩
 ·rename_i j want hg
  rw [hg]
  split at hl
  case h_2=>exact hl.elim
  rename_i q hq
  split at hl
  case h_2=>exact hl.elim
  rename_i t ht
  split at hl
  case h_3=>exact hl.elim
  case h_2 =>
   rename_i vs hb
   rw [getL_eq] at hq
   have hy:yielded ops a.tmps j=none:=by
    have hq':ops[j]? = some q:=by simpa using hq
    simp [yielded,hq',ht,(he t _ hb).1,tr]
   exact⟨_,he,.inr ⟨by simp [hy],hl⟩⟩
  rename_i b hb
  rw [getL_eq] at hq
  have hy:yielded ops a.tmps j=some b:=by
   have hq':ops[j]? = some q:=by simpa using hq
   simp [yielded,hq',ht,(he t _ hb).1,tr_bool]
  simp only [hy]
  rcases br_cases hl with ⟨hbw,hk⟩|⟨hbw,hk⟩
  ·simp only [std,beq_iff_eq] at hbw
   subst hbw
   exact⟨_,he.same hb,.inl ⟨by simp,hk⟩⟩
  ·simp only [std,beq_eq_false_iff_ne,ne_eq] at hbw
   have:b=!want:=by cases b <;> cases want <;> simp_all
   subst this
   exact⟨_,he.same hb,.inr ⟨by simp,hk⟩⟩
theorem semAt_eq {o:Oper}(hd:∀ c,o.op≠.defer c)(r:Option Nat)(ρ:Operand→Value):o.semAt r ρ=execOp ρ o:=by
 cases r with
 |none=>exact Oper.semAt_none _ _
 |some l=>exact Oper.semAt_some l ρ o hd
def RunK (P:Program)(ι:Nat→Loc)(B nx:Nat)(w:World)(m:Sem Next)(K:KE):Prop :=
 (∃ v h' nx' ι' w',K v h' nx'∧scT ι' nx' v∧RelH ι' B h' nx' w'∧Bel B w w'∧(∀ k,k<nx→ι' k=ι k)∧nx≤nx'∧m.run P w=.ok (.value (tr ι' v)) w') ∨
 (∃ h' w',K undef h' nx∧RelH ι B h' nx w'∧Bel B w w'∧m.run P w=.ok .skip w') ∨
 (∃ f args,m.run P w=.ok (.enter f args) w∧CallsIn Fence.wide 0 P f args w (Ret B w ι nx K)) ∨
 (∃ l f tmps as bd,m.run P w=.ok (.round l f tmps as bd) w∧RoundIn Fence.wide 0 P l f tmps as bd w (Ret B w ι nx K))
theorem RunK.upon {ι:Nat→Loc}{B nx:Nat}{w:World}{o:Oper}{a a':Act}{K:KE}(hr:RunK P ι B nx w (execOp a.eval o) K)(hd:∀ c,o.op≠.defer c)(he:execOp a'.eval o=execOp a.eval o)
  (r:Option Nat) (next:Act→World→Prop) (Q:Exit→Act→World→Prop)
  (hn:∀ v h' nx' ι' w',K v h' nx'→scT ι' nx' v→RelH ι' B h' nx' w'→Bel B w w'→(∀ k,k<nx→ι' k=ι k)→nx≤nx'→next (a'.put o.dst (tr ι' v)) w') :
  o.wpIn (Fr r) 0 P a' w next Q:=by
 refine⟨fun _ _=>trivial,?_⟩
 rw [semAt_eq hd,he]
 rcases hr with ⟨v,h',nx',ι',w',h1,h2,h3,h4,h5,h6,h7⟩|⟨h',w',h1,h3,h4,h7⟩|⟨f,args,hrun,hcalls⟩|⟨l,f,tmps,as,bd,hrun,hround⟩
 ·rw [h7]
  exact hn v h' nx' ι' w' h1 h2 h3 h4 h5 h6
 ·rw [h7]
  have:=hn undef h' nx ι w' h1 (scT_g rfl) h3 h4 (fun _ _=>rfl) (Nat.le_refl _)
  rwa [tr_g (show gT undef=true from rfl)] at this
 ·rw [hrun]
  refine⟨fun hdep=>absurd hdep (by simp [Fr,Fence.wide]),?_⟩
  refine CallsIn.mono (F:=Fence.wide) hcalls fun e w' hret=>?_
  cases e with
  |returned u =>
   obtain⟨v,h',nx',ι',k1,k2,k3,k4,k5,k6,rfl⟩:=hret
   exact hn v h' nx' ι' w' k1 k2 k3 k4 k5 k6
  |panicked c=>exact hret.elim
  |outgrown=>exact hret.elim
 ·rw [hrun]
  refine⟨fun hdep=>absurd hdep (by simp [Fr,Fence.wide]),?_⟩
  refine RoundIn.mono (F:=Fence.wide) hround fun e w' hret=>?_
  cases e with
  |returned u =>
   obtain⟨v,h',nx',ι',k1,k2,k3,k4,k5,k6,rfl⟩:=hret
   exact hn v h' nx' ι' w' k1 k2 k3 k4 k5 k6
  |panicked c=>exact hret.elim
  |outgrown=>exact hret.elim
theorem upon_value {ι:Nat→Loc}{B nx:Nat}{w:World}{o:Oper}{a:Act}{K:KE}
 (h:∃ v h' nx' ι' w',K v h' nx'∧scT ι' nx' v∧RelH ι' B h' nx' w'∧Bel B w w'∧(∀ k,k<nx→ι' k=ι k)∧nx≤nx'∧(execOp a.eval o).run P w=.ok (.value (tr ι' v)) w'):RunK P ι B nx w (execOp a.eval o) K:=.inl h
theorem upon_skip {ι:Nat→Loc}{B nx:Nat}{w:World}{o:Oper}{a:Act}{K:KE}
 (h:∃ h' w',K undef h' nx∧RelH ι B h' nx w'∧Bel B w w'∧(execOp a.eval o).run P w=.ok .skip w'):RunK P ι B nx w (execOp a.eval o) K:=.inr (.inl h)
theorem optOK_spec {ι:Nat→Loc}{n:Nat}{env:List (Nat × Value)}{a:Act}(he:EnvOK ι n env a){x:Option Operand}{v:Option Value}(h:optOK env x=some v):x.map a.eval=v.map (tr ι):=by
 cases x with
 |none=>simp [optOK] at h;subst h;rfl
 |some x =>
  simp only [optOK] at h
  split at h
  ·rename_i u hu
   injection h with h
   subst h
   simp [(he.opv hu).1]
  ·cases h
theorem does_value {ι:Nat→Loc}{B nx:Nat}{w:World}{m:Sem Value}{K:KE}(h:Does P ι B nx w m K) :
  ∃ v h' nx' ι' w',K v h' nx'∧scT ι' nx' v∧RelH ι' B h' nx' w'∧Bel B w w'∧(∀ k,k<nx→ι' k=ι k)∧nx≤nx'∧(do pure (.value (← m)):Sem Next).run P w=.ok (.value (tr ι' v)) w':=by
 obtain⟨v,h',nx',ι',w',h1,h2,h3,h4,h5,h6,h7⟩:=h
 exact⟨v,h',nx',ι',w',h1,h2,h3,h4,h5,h6,by simp only [Sem.run_bind,h7,Result.andThen_ok,Sem.run_pure]⟩
theorem vlook_upon (hT:TabOK P T){ι:Nat→Loc}{B nx:Nat}{w:World}{h:Heap}{env:List (Nat × Value)}{a:Act}(he:EnvOK ι nx env a)(H:RelH ι B h nx w){o:Oper}{K:KE}
  (hl:vlook std T env h o.op (fun v=>K v h nx)):RunK P ι B nx w (execOp a.eval o) K:=by
 obtain⟨v,h1,h2,h3⟩:=vlook_ok hT he hl H
 exact upon_value ⟨v,h,nx,ι,w,h1,h2,H,Bel.refl _ _,fun _ _=>rfl,Nat.le_refl _,h3 w H⟩
theorem capPtr_spec:∀ {l:List Value},capPtr l=true→∀ v∈l,∃ p,v=.pointer (some p)
 |[],_,v,hv=>by cases hv
 |x::r,h,v,hv=>by
  unfold capPtr at h
  split at h
  ·rename_i heq;cases heq
  ·rename_i p r' heq
   injection heq with e1 e2
   subst e1;subst e2
   rcases List.mem_cons.1 hv with rfl|hv
   ·exact⟨_,rfl⟩
   ·exact capPtr_spec h v hv
  ·cases h
theorem vop_nodefer {env:List (Nat × Value)}{h:Heap}{nx:Nat}{op:Op}{K:KE}(hl:vop std T C Y env h nx op K):∀ c,op≠.defer c:=by
 rintro c rfl
 exact hl.elim
theorem vop_ok (hT:TabOK P T)(hC:CallsOK P C)(hY:YieldsOK P Y){ι:Nat→Loc}{B nx:Nat}{w:World}{h:Heap}{env:List (Nat × Value)}{a:Act}(he:EnvOK ι nx env a)(H:RelH ι B h nx w){o:Oper}{K:KE}
  (hl:vop std T C Y env h nx o.op K):RunK P ι B nx w (execOp a.eval o) K:=by
 have hl':=hl
 obtain⟨dst,op,ty,pos,after,guard⟩:=o
 simp only at hl
 cases op
 case store t x y =>
  simp only [vop] at hl
  obtain⟨p,hp,hl⟩:=on_ok hl
  obtain⟨v,hv,hl⟩:=on_ok hl
  obtain⟨e1,e2⟩:=he.opv hp
  obtain⟨e3,e4⟩:=he.opv hv
  obtain⟨h',w',h1,h2,h3,h4⟩:=vstore_ok (P:=P) hT hl e4 H
  exact upon_skip ⟨h',w',h1,h2,h3,by simp only [execOp,e1,e3,Sem.run_bind,h4,Result.andThen_ok,Sem.run_pure]⟩
 case alloc t =>
  simp only [vop] at hl
  exact upon_value (does_value (valloc_ok hT hl H))
 case box t x =>
  simp only [vop] at hl
  obtain⟨v,hv,hl⟩:=on_ok hl
  obtain⟨e3,e4⟩:=he.opv hv
  have:=does_value (vbox_ok (P:=P) (t:=t) hl e4 H)
  rw [← e3] at this
  exact upon_value this
 case buildSlice t n ps =>
  simp only [vop] at hl
  split at hl
  case h_2=>exact hl.elim
  rename_i l hps
  obtain⟨e1,e2⟩:=partsOK_spec he hps
  have:=does_value (vbuildSlice_ok (P:=P) hT hl e2 H)
  have e3:(ps.map fun p=>(p.1,a.eval p.2))=(l.map fun p=>(p.1,tr ι p.2)).toArray:=by
   apply Array.ext'
   simpa using e1
  rw [← e3] at this
  exact upon_value this
 case slice t x lo hi mx =>
  simp only [vop] at hl
  obtain⟨v,hv,hl⟩:=on_ok hl
  obtain⟨e3,e4⟩:=he.opv hv
  split at hl
  case h_2=>exact hl.elim
  rename_i l u m h1 h2 h3
  obtain⟨v',h',nx',ι',k1,k2,k3,k4,k5⟩:=vslice_ok hT hl e4 H
  obtain⟨k6,k7⟩:=k5 w H
  rw [← optOK_spec he h1,← optOK_spec he h2,← optOK_spec he h3,← e3] at k7
  refine upon_value ⟨v',h',nx',ι',w,k1,k2,k6,Bel.refl _ _,k3,k4,?_⟩
  simp only [execOp,Sem.run_bind,k7,Result.andThen_ok,Sem.run_pure]
 case makeSlice t l c =>
  simp only [vop] at hl
  obtain⟨x,hx,hl⟩:=on_ok hl
  obtain⟨y,hy,hl⟩:=on_ok hl
  obtain⟨e1,e2⟩:=he.opv hx
  obtain⟨e3,e4⟩:=he.opv hy
  have:=does_value (vmakeSlice_ok (P:=P) hT hl H)
  rw [← e1,← e3] at this
  exact upon_value this
 case makeMap t r =>
  cases r with
  |none =>
   simp only [vop] at hl
   exact upon_value (does_value (vmakeMap_ok hl H))
  |some r=>simp only [vop] at hl;exact vlook_upon (h:=h) hT he H (o:=⟨dst,_,ty,pos,after,guard⟩) hl
 case lookup t m k ok =>
  simp only [vop] at hl
  obtain⟨x,hx,hl⟩:=on_ok hl
  obtain⟨y,hy,hl⟩:=on_ok hl
  obtain⟨e1,e2⟩:=he.opv hx
  obtain⟨e3,e4⟩:=he.opv hy
  obtain⟨v,h1,h2,h3⟩:=vlookup_ok (P:=P) hT hl e2 H
  have:=h3 w H
  rw [← e1,← e3] at this
  exact upon_value ⟨v,h,nx,ι,w,h1,h2,H,Bel.refl _ _,fun _ _=>rfl,Nat.le_refl _,by simp only [execOp,Sem.run_bind,this,Result.andThen_ok,Sem.run_pure]⟩
 case mapUpdate t m k u =>
  simp only [vop] at hl
  obtain⟨x,hx,hl⟩:=on_ok hl
  obtain⟨y,hy,hl⟩:=on_ok hl
  obtain⟨v,hv,hl⟩:=on_ok hl
  obtain⟨e1,e2⟩:=he.opv hx
  obtain⟨e3,e4⟩:=he.opv hy
  obtain⟨e5,e6⟩:=he.opv hv
  obtain⟨h',w',h1,h2,h3,h4⟩:=vmapUpdate_ok (P:=P) hT hl e2 e6 H
  rw [← e1,← e3,← e5] at h4
  exact upon_skip ⟨h',w',h1,h2,h3,by simp only [execOp,Sem.run_bind,h4,Result.andThen_ok,Sem.run_pure]⟩
 case mapEntry t m k =>
  simp only [vop] at hl
  obtain⟨x,hx,hl⟩:=on_ok hl
  obtain⟨y,hy,hl⟩:=on_ok hl
  obtain⟨e1,e2⟩:=he.opv hx
  obtain⟨e3,e4⟩:=he.opv hy
  obtain⟨v,h',w',h1,h2,h3,h4,h5⟩:=vmapEntry_ok (P:=P) hT hl e2 H
  rw [← e1,← e3] at h5
  exact upon_value ⟨v,h',nx,ι,w',h1,h2,h3,h4,fun _ _=>rfl,Nat.le_refl _,by simp only [execOp,Sem.run_bind,h5,Result.andThen_ok,Sem.run_pure]⟩
 case entryStore t m s u =>
  simp only [vop] at hl
  obtain⟨x,hx,hl⟩:=on_ok hl
  obtain⟨y,hy,hl⟩:=on_ok hl
  obtain⟨v,hv,hl⟩:=on_ok hl
  obtain⟨e1,e2⟩:=he.opv hx
  obtain⟨e3,e4⟩:=he.opv hy
  obtain⟨e5,e6⟩:=he.opv hv
  obtain⟨h',w',h1,h2,h3,h4⟩:=ventryStore_ok (P:=P) (t:=t) hl e6 H
  rw [← e1,← e3,← e5] at h4
  exact upon_skip ⟨h',w',h1,h2,h3,by simp only [execOp,Sem.run_bind,h4,Result.andThen_ok,Sem.run_pure]⟩
 case range t x =>
  simp only [vop] at hl
  obtain⟨v,hv,hl⟩:=on_ok hl
  obtain⟨e1,e2⟩:=he.opv hv
  have:=does_value (vmrange_ok (P:=P) hT hl H)
  rw [← e1] at this
  exact upon_value this
 case entry x =>
  simp only [vop] at hl
  obtain⟨v,hv,hl⟩:=on_ok hl
  obtain⟨e1,e2⟩:=he.opv hv
  obtain⟨u,h1,h2,h3⟩:=ventry_ok (P:=P) hl H
  have:=h3 w H
  rw [← e1] at this
  exact upon_value ⟨u,h,nx,ι,w,h1,h2,H,Bel.refl _ _,fun _ _=>rfl,Nat.le_refl _,by simp only [execOp,Sem.run_bind,this,Result.andThen_ok,Sem.run_pure]⟩
 case call c =>
  obtain⟨cal,args,ats⟩:=c
  simp only [vop] at hl
  cases cal with
  |invoke r m=>exact hl.elim
  |builtin b =>
   by_cases hb1:b=.append
   ·subst hb1
    simp only at hl
    split at hl
    case h_2=>exact hl.elim
    rename_i st xt s x hts hvs
    obtain⟨e1,e2⟩:=vargs_spec he hvs
    have:=does_value (vappend_ok (P:=P) (ty:=ty) hT hl (e2 s (by simp)) (e2 x (by simp)) H)
    obtain⟨ats⟩:=ats
    simp only at hts
    subst hts
    have e3:args.map a.eval=#[tr ι s,tr ι x]:=by
     apply Array.ext'
     simpa using e1
    rw [← e3] at this
    exact upon_value this
   ·by_cases hb2:b=.clear
    ·subst hb2
     simp only at hl
     split at hl
     case h_2=>exact hl.elim
     rename_i t x hts hvs
     obtain⟨e1,e2⟩:=vargs_spec he hvs
     have:=does_value (vclear_ok (P:=P) (ty:=ty) hT hl (e2 x (by simp)) H)
     obtain⟨ats⟩:=ats
     simp only at hts
     subst hts
     have e3:args.map a.eval=#[tr ι x]:=by
      apply Array.ext'
      simpa using e1
     rw [← e3] at this
     exact upon_value this
    ·have hl2:vlook std T env h (.call { callee:=.builtin b,args:=args,argTypes:=ats }) (fun v=>K v h nx):=by
      cases b <;> first|exact hl|exact absurd rfl hb1|exact absurd rfl hb2
     exact vlook_upon hT he H (o:=⟨dst,_,ty,pos,after,guard⟩) hl2
  |value f =>
   simp only at hl
   obtain⟨fv,hfv,hl⟩:=on_ok hl
   obtain⟨e1,e2⟩:=he.opv hfv
   split at hl
   case h_2=>exact hl.elim
   rename_i l hvs
   obtain⟨e3,e4⟩:=vargs_spec he hvs
   have hargs:args.map a.eval=(l.map (tr ι)).toArray:=by
    apply Array.ext'
    simpa using e3
   split at hl
   ·rename_i g first cap
    split at hl
    case h_2=>exact hl.elim
    rename_i hfirst hcap
    obtain⟨first⟩:=first
    simp only at hfirst
    subst hfirst
    obtain⟨⟨fn,hfn,hbody,hname⟩,hcalls⟩:=hC g _ h nx K hl ι B w H (by
     intro v hv
     rcases List.mem_append.1 hv with hv|hv
     ·exact e4 v hv
     ·have:=capPtr_spec hcap v hv
      obtain⟨p,rfl⟩:=this
      exact e2.2 _ hv)
    have hcapm:cap.map (trP ι)=(cap.toList.map (tr ι)).toArray:=by
     apply Array.ext'
     simp only [Array.toList_map]
     apply List.map_congr_left
     intro v hv
     obtain⟨p,rfl⟩:=capPtr_spec hcap v hv
     rfl
    have hrun:(execOp a.eval ⟨dst,.call ⟨.value f,args,ats⟩,ty,pos,after,guard⟩).run P w=.ok (.enter g ((l++cap.toList).map (tr ι)).toArray) w:=by
     obtain⟨bdy,hb'⟩:=Option.isSome_iff_exists.1 hbody
     have hname' : fn.name ≠ "runtime.NumGoroutine" := by simpa using hname
     simp [execOp,resolve,e1,tr,trA,trS,trFn,Deferred.ofValue,invoke,callFunc,hfn,hname',hb',hargs,hcapm]
    exact .inr (.inr (.inl ⟨_,_,hrun,hcalls⟩))
   ·rename_i q first cap
    split at hl
    case h_2=>exact hl.elim
    rename_i hfirst
    obtain⟨first⟩:=first
    simp only at hfirst
    subst hfirst
    have hq:q<nx∧(ι q).isAt=true:=e2.1
    cases hι:ι q with
    |nil p=>rw [hι] at hq;cases hq.2
    |lay b o ex =>
     obtain⟨f',tmps,as,bd,hy,hround⟩:=hY q l h nx K hl ι B w H e4 b o ex hι
     have hrun:(execOp a.eval ⟨dst,.call ⟨.value f,args,ats⟩,ty,pos,after,guard⟩).run P w=.ok (.round b f' tmps as bd) w:=by
      simp [execOp,resolve,e1,tr,trA,trS,trFn,hι,Deferred.ofValue,invoke,hargs,hy]
     exact .inr (.inr (.inr ⟨_,_,_,_,_,hrun,hround⟩))
   ·exact hl.elim
 all_goals (simp only [vop] at hl;exact vlook_upon hT he H (o:=⟨dst,_,ty,pos,after,guard⟩) hl)
end
end Go.Aw
end

noncomputable section
namespace Go.Aw
open Go.RowKit
section
variable {P:Program}{T:Tab}{C:VC}{Y:VY}{B:Nat}{w0:World}{ι0:Nat→Loc}{nx0 tn:Nat}{ds:List Deferred}
theorem Inv.step {ι ι':Nat→Loc}{env env':List (Nat × Value)}{h h':Heap}{nx nx':Nat}{a a':Act}{w w':World}(I:Inv B w0 ι0 nx0 tn ds ι env h nx a w)(he:EnvOK ι' nx' env' a')(H:RelH ι' B h' nx' w')(hb:Bel B w w')
  (hi:∀ k,k<nx→ι' k=ι k) (hn:nx≤nx') (hs:a'.tmps.size=tn) (hd:a'.defers=a.defers):Inv B w0 ι0 nx0 tn ds ι' env' h' nx' a' w' :=
 ⟨he,H,I.below.trans hb,fun k hk=>(hi k (Nat.lt_of_lt_of_le hk I.le)).trans (I.old k hk),Nat.le_trans I.le hn,hs,hd.trans I.defers⟩
theorem vops_ok (hT:TabOK P T)(hC:CallsOK P C)(hY:YieldsOK P Y)(r:Option Nat){ops:Array Oper}{Q:Exit→Act→World→Prop}{K:KS}:∀ (l:List Oper) (ι:Nat→Loc) (env:List (Nat × Value)) (h:Heap) (nx:Nat) (a:Act) (w:World),
  vops std T C Y tn ops.toList l env h nx K→Inv B w0 ι0 nx0 tn ds ι env h nx a w →
  (∀ ι' env' h' nx' a' w',K env' h' nx'→Inv B w0 ι0 nx0 tn ds ι' env' h' nx' a' w'→Q .normal a' w')→wpListIn (Fr r) 0 P ops Q l a w
 |[],ι,env,h,nx,a,w,hl,I,hQ=>hQ ι env h nx a w hl I
 |o::rest,ι,env,h,nx,a,w,hl,I,hQ=>by
  simp only [vops_cons] at hl
  obtain⟨env1,he1,hcase⟩:=vguard_ok I.env hl
  simp only [wpListIn]
  rcases hcase with ⟨hw,hl⟩|⟨hw,hl⟩
  ·rw [if_pos hw]
   refine (vop_ok hT hC hY he1 I.heap hl).upon (vop_nodefer hl) rfl r _ _ fun v h' nx' ι' w' k1 k2 k3 k4 k5 k6=>?_
   obtain⟨env2,k7,k8,k9,k10⟩:=vput_ok (he1.names k6 k5) I.size k1 k2
   exact vops_ok hT hC hY r rest ι' env2 h' nx' _ w' k7 (I.step k8 k3 k4 k5 k6 k9 k10) hQ
  ·rw [hw]
   refine⟨fun _ _=>trivial,?_⟩
   obtain⟨env2,k7,k8,k9,k10⟩:=vput_ok he1 I.size hl (v:=undef) (scT_g rfl)
   rw [tr_g (show gT undef=true from rfl)] at k8 k9 k10
   exact vops_ok hT hC hY r rest ι env2 h nx _ w k7 (I.step k8 I.heap (Bel.refl _ _) (fun _ _=>rfl) (Nat.le_refl _) k9 k10) hQ
def isNext (o:Oper):Bool:=match o.op with|.next _ false=>true|_=>false
def hasNext:List Oper→Bool
 |[]=>false
 |o::r=>match isNext o with|true=>true|false=>hasNext r
def vopN (A:Ar)(T:Tab)(C:VC)(Y:VY)(env:List (Nat × Value))(h:Heap)(nx:Nat)(op:Op)(K:KE):Prop :=
 match op with
 |.next x false=>on (opv env x) fun v=>vnext h nx v K
 |_=>vop A T C Y env h nx op K
def vopsN (A:Ar)(T:Tab)(C:VC)(Y:VY)(tn:Nat)(ops:List Oper)(l:List Oper):List (Nat × Value)→Heap→Nat→KS→Prop :=
 @List.rec Oper (fun _=>List (Nat × Value)→Heap→Nat→KS→Prop) (fun env h nx K=>K env h nx)
  (fun o _ ih env h nx K=>vguard A ops env o.guard
   (fun env=>vopN A T C Y env h nx o.op fun v h' nx'=>vput tn env o.dst v fun env'=>ih env' h' nx' K)
   (fun env=>vput tn env o.dst undef fun env'=>ih env' h nx K)) l
theorem vopsN_cons {A:Ar}{T:Tab}{C:VC}{Y:VY}{tn:Nat}{ops:List Oper}{o:Oper}{r:List Oper}{env:List (Nat × Value)}{h:Heap}{nx:Nat}{K:KS}:vopsN A T C Y tn ops (o::r) env h nx K=vguard A ops env o.guard
 (fun env=>vopN A T C Y env h nx o.op fun v h' nx'=>vput tn env o.dst v fun env'=>vopsN A T C Y tn ops r env' h' nx' K)
 (fun env=>vput tn env o.dst undef fun env'=>vopsN A T C Y tn ops r env' h nx K):=rfl
theorem vopN_ok (hT:TabOK P T)(hC:CallsOK P C)(hY:YieldsOK P Y){ι:Nat→Loc}{B nx:Nat}{w:World}{h:Heap}{env:List (Nat × Value)}{a:Act}(he:EnvOK ι nx env a)(H:RelH ι B h nx w){o:Oper}{K:KE}
  (hl:vopN std T C Y env h nx o.op K):RunK P ι B nx w (execOp a.eval o) K∧∀ c,o.op≠.defer c:=by
 obtain⟨dst,op,ty,pos,after,guard⟩:=o
 simp only at hl
 unfold vopN at hl
 split at hl
 ·rename_i x
  obtain⟨v,hv,hl⟩:=on_ok hl
  obtain⟨e1,e2⟩:=he.opv hv
  have:=does_value (vnext_ok (P:=P) (ty:=ty) hl H)
  rw [← e1] at this
  exact⟨upon_value this,fun c e=>by cases e⟩
 ·exact⟨vop_ok hT hC hY he H (o:=⟨dst,op,ty,pos,after,guard⟩) hl,vop_nodefer hl⟩
theorem vopsN_ok (hT:TabOK P T)(hC:CallsOK P C)(hY:YieldsOK P Y)(r:Option Nat){ops:Array Oper}{Q:Exit→Act→World→Prop}{K:KS}:∀ (l:List Oper) (ι:Nat→Loc) (env:List (Nat × Value)) (h:Heap) (nx:Nat) (a:Act) (w:World),
  vopsN std T C Y tn ops.toList l env h nx K→Inv B w0 ι0 nx0 tn ds ι env h nx a w →
  (∀ ι' env' h' nx' a' w',K env' h' nx'→Inv B w0 ι0 nx0 tn ds ι' env' h' nx' a' w'→Q .normal a' w')→wpListIn (Fr r) 0 P ops Q l a w
 |[],ι,env,h,nx,a,w,hl,I,hQ=>hQ ι env h nx a w hl I
 |o::rest,ι,env,h,nx,a,w,hl,I,hQ=>by
  simp only [vopsN_cons] at hl
  obtain⟨env1,he1,hcase⟩:=vguard_ok I.env hl
  simp only [wpListIn]
  rcases hcase with ⟨hw,hl⟩|⟨hw,hl⟩
  ·rw [if_pos hw]
   obtain⟨q1,q2⟩:=vopN_ok hT hC hY he1 I.heap hl
   refine q1.upon q2 rfl r _ _ fun v h' nx' ι' w' k1 k2 k3 k4 k5 k6=>?_
   obtain⟨env2,k7,k8,k9,k10⟩:=vput_ok (he1.names k6 k5) I.size k1 k2
   exact vopsN_ok hT hC hY r rest ι' env2 h' nx' _ w' k7 (I.step k8 k3 k4 k5 k6 k9 k10) hQ
  ·rw [hw]
   refine⟨fun _ _=>trivial,?_⟩
   obtain⟨env2,k7,k8,k9,k10⟩:=vput_ok he1 I.size hl (v:=undef) (scT_g rfl)
   rw [tr_g (show gT undef=true from rfl)] at k8 k9 k10
   exact vopsN_ok hT hC hY r rest ι env2 h nx _ w k7 (I.step k8 I.heap (Bel.refl _ _) (fun _ _=>rfl) (Nat.le_refl _) k9 k10) hQ
end
end Go.Aw
end

noncomputable section
namespace Go.Aw
open Go.RowKit
def AObj.closed:AObj→AObj
 |.cells _ g sz cs=>.cells false g sz cs
 |.zero=>.zero
 |_=>.cells false false 1 []
def shutH:Heap→Heap
 |[]=>[]
 |(k,o)::r=>(k,o.closed)::shutH r
theorem look_shutH (h:Heap)(k:Nat):look (shutH h) k=(look h k).map AObj.closed:=by
 induction h with
 |nil=>rfl
 |cons x r ih =>
  obtain⟨j,o⟩:=x
  simp only [shutH,look_cons]
  split
  ·rfl
  ·exact ih
def DetC (C:VC):Prop:=∀ f args h nx K,C f args h nx K→∃ v h' nx',K v h' nx'∧∀ K':KE,K' v h' nx'→C f args h nx K'
def vquiet (A:Ar)(T:Tab)(C:VC)(hJ:Heap)(nx:Nat)(env:List (Nat × Value))(op:Op)(K:Value→Nat→Prop):Prop :=
 match op with
 |.load _ _=>vlook A T env hJ op (fun v=>K v nx)
 |.lookup t m k ok=>on (opv env m) fun x=>on (opv env k) fun y=>vlookup A T hJ t x y ok (fun v=>K v nx)
 |.slice t x lo hi mx=>on (opv env x) fun v=>(match optOK env lo,optOK env hi,optOK env mx with
  |some l,some u,some m=>vslice A T hJ nx t v l u m (fun v _ nx'=>K v nx')
  |_,_,_=>False)
 |.call c=>(match c.callee with
  |.builtin _=>vlook A T env [] op (fun v=>K v nx)
  |.value f=>on (opv env f) fun fv=>(match vargs env c.args.toList with
   |some l=>(match fv with
    |.func (.func g) first cap=>(match first.toList,capPtr cap.toList with
     |[],true=>C g (l++cap.toList) (shutH hJ) nx (fun v _ _=>match gT v with|true=>K v nx|false=>False)
     |_,_=>False)
    |_=>False)
   |none=>False)
  |_=>False)
 |_=>vlook A T env [] op (fun v=>K v nx)
def isPure:Op→Bool
 |.load _ _=>false
 |.lookup _ _ _ _=>false
 |.slice _ _ _ _ _=>false
 |.call c=>(match c.callee with|.builtin _=>true|_=>false)
 |_=>true
def isStrong:Op→Bool
 |.lookup _ _ _ _=>true
 |.call c=>(match c.callee with|.builtin _=>false|_=>true)
 |_=>false
section
variable {P:Program}{T:Tab}{C:VC}{Y:VY}{ι:Nat→Loc}{B nx:Nat}
theorem RelH.shut {h:Heap}{w:World}(H:RelH ι B h nx w):RelH ι w.heap.size (shutH h) nx w:=by
 have key:∀ k o',look (shutH h) k=some o'→∃ o,look h k=some o∧o'=o.closed:=fun k o' hk=>by
  rw [look_shutH] at hk
  cases hl:look h k with
  |none=>rw [hl] at hk;cases hk
  |some o=>rw [hl] at hk;injection hk with hk;exact⟨o,rfl,hk.symm⟩
 refine⟨fun k o' hk=>?_,fun k k' o o' h1 h2 hne ha=>?_,fun k o' hk=>?_,Nat.le_refl _,fun k o' hk=>?_⟩
 ·obtain⟨o,hk',rfl⟩:=key k o' hk
  have ho:=H.obj k o hk'
  cases hι:ι k with
  |nil p =>
   rw [hι] at ho
   cases o with
   |cells wr g sz cs=>exact⟨ho.1,fun h=>ho.2 (h.elim .inl (fun h=>by cases h))⟩
   |zero=>exact ho
   |_=>exact ho.elim
  |lay b off e =>
   have hb:=ho.lt (b:=b) (by rw [hι];rfl)
   rw [hι] at ho
   cases o with
   |cells wr g sz cs =>
    cases wr with
    |false=>exact ho
    |true =>
     obtain⟨_,hg,arr,t,h1,h2,h3⟩:=ho
     exact⟨hb,hg,fun i v hv=>by simp [World.cell?,h1,h3 i v hv]⟩
   |zero=>exact ho
   |_=>exact⟨hb,(fun h=>(by cases h)),(fun i v hv=>(by simp at hv))⟩
 ·obtain⟨o1,h1,rfl⟩:=key k o h1
  cases o1 <;> cases ha
 ·obtain⟨o,hk',rfl⟩:=key k o' hk
  exact H.low k o hk'
 ·obtain⟨o,hk',rfl⟩:=key k o' hk
  have:=H.sc k o hk'
  cases o with
  |cells wr g sz cs=>exact this
  |zero=>trivial
  |_=>intro v hv;cases hv
def Run1 (P:Program)(m:Sem Next)(w:World)(u:Value):Prop :=
 m.run P w=.ok (.value u) w∨∃ f args,m.run P w=.ok (.enter f args) w∧CallsIn Fence.wide 0 P f args w fun e w'=>e=.returned u∧Bel w.heap.size w w'
theorem RelH.none {w:World}(h:B≤w.heap.size):RelH ι B [] nx w :=
 ⟨fun k o hk=>(by cases hk),fun k k' o o' hk=>(by cases hk),fun k o hk=>(by cases hk),h,fun k o hk=>(by cases hk)⟩
def heapOf (op:Op)(hJ:Heap):Heap:=match isPure op with|true=>[]|false=>hJ
theorem vquiet_ok (hT:TabOK P T)(hC:CallsOK P C)(hD:DetC C){hJ:Heap}{env:List (Nat × Value)}{a:Act}(he:EnvOK ι nx env a){w0:World}(H0:RelH ι B hJ nx w0){o:Oper}{K:Value→Nat→Prop}
  (hl:vquiet std T C hJ nx env o.op K) :
  ∃ v nx' ι',K v nx'∧scT ι' nx' v∧(∀ k,k<nx→ι' k=ι k)∧nx≤nx'∧∀ w,RelH ι B (heapOf o.op hJ) nx w→(isStrong o.op=true→Bel w0.heap.size w0 w)→Run1 P (execOp a.eval o) w (tr ι' v):=by
 obtain⟨dst,op,ty,pos,after,guard⟩:=o
 simp only at hl
 have hpure:∀ K:Value→Nat→Prop,isPure op=true→vlook std T env [] op (fun v=>K v nx)→∃ v nx' ι',K v nx'∧scT ι' nx' v∧(∀ k,k<nx→ι' k=ι k)∧nx≤nx'∧∀ w,RelH ι B (heapOf op hJ) nx w→(isStrong op=true→Bel w0.heap.size w0 w)→Run1 P (execOp a.eval ⟨dst,op,ty,pos,after,guard⟩) w (tr ι' v):=by
  intro K hp hl
  obtain⟨v,h1,h2,h3⟩:=vlook_ok (P:=P) (h:=[]) (B:=B) (w0:=w0) hT he (o:=⟨dst,op,ty,pos,after,guard⟩) hl (RelH.none H0.size)
  refine⟨v,nx,ι,h1,h2,fun _ _=>rfl,Nat.le_refl _,fun w H _=>.inl (h3 w ?_)⟩
  simpa [heapOf,hp] using H
 cases op
 case load t x =>
  simp only [vquiet] at hl
  obtain⟨v,h1,h2,h3⟩:=vlook_ok (P:=P) hT he (o:=⟨dst,_,ty,pos,after,guard⟩) hl H0
  exact⟨v,nx,ι,h1,h2,fun _ _=>rfl,Nat.le_refl _,fun w H _=>.inl (h3 w (by simpa [heapOf,isPure] using H))⟩
 case lookup t m k ok =>
  simp only [vquiet] at hl
  obtain⟨x,hx,hl⟩:=on_ok hl
  obtain⟨y,hy,hl⟩:=on_ok hl
  obtain⟨e1,e2⟩:=he.opv hx
  obtain⟨e3,e4⟩:=he.opv hy
  obtain⟨v,h1,h2,h3⟩:=vlookup_ok (P:=P) hT hl e2 H0
  refine⟨v,nx,ι,h1,h2,fun _ _=>rfl,Nat.le_refl _,fun w H _=>.inl ?_⟩
  have:=h3 w (by simpa [heapOf,isPure] using H)
  rw [← e1,← e3] at this
  simp only [execOp,Sem.run_bind,this,Result.andThen_ok,Sem.run_pure]
 case slice t x lo hi mx =>
  simp only [vquiet] at hl
  obtain⟨v,hv,hl⟩:=on_ok hl
  obtain⟨e3,e4⟩:=he.opv hv
  split at hl
  case h_2=>exact hl.elim
  rename_i l u m h1 h2 h3
  obtain⟨v',h',nx',ι',k1,k2,k3,k4,k5⟩:=vslice_ok hT hl e4 H0
  refine⟨v',nx',ι',k1,k2,k3,k4,fun w H hb=>.inl ?_⟩
  obtain⟨k6,k7⟩:=k5 w (by simpa [heapOf,isPure] using H)
  rw [← optOK_spec he h1,← optOK_spec he h2,← optOK_spec he h3,← e3] at k7
  simp only [execOp,Sem.run_bind,k7,Result.andThen_ok,Sem.run_pure]
 case call c =>
  obtain⟨cal,args,ats⟩:=c
  simp only [vquiet] at hl
  cases cal with
  |invoke r m=>exact hl.elim
  |builtin b=>exact hpure K rfl hl
  |value f =>
   simp only at hl
   obtain⟨fv,hfv,hl⟩:=on_ok hl
   obtain⟨e1,e2⟩:=he.opv hfv
   split at hl
   case h_2=>exact hl.elim
   rename_i l hvs
   obtain⟨e3,e4⟩:=vargs_spec he hvs
   have hargs:args.map a.eval=(l.map (tr ι)).toArray:=by
    apply Array.ext'
    simpa using e3
   split at hl
   case h_2=>exact hl.elim
   rename_i g first cap
   split at hl
   case h_2=>exact hl.elim
   rename_i hfirst hcap
   obtain⟨first⟩:=first
   simp only at hfirst
   subst hfirst
   obtain⟨v,h',nx',k1,k2⟩:=hD _ _ _ _ _ hl
   split at k1
   case h_2=>exact k1.elim
   rename_i hg
   refine⟨v,nx,ι,k1,scT_g hg,fun _ _=>rfl,Nat.le_refl _,fun w H _=>.inr ?_⟩
   have H:RelH ι B hJ nx w:=by simpa [heapOf,isPure] using H
   have hl':=k2 (fun v' _ _=>v'=v) rfl
   obtain⟨⟨fn,hfn,hbody,hname⟩,hcalls⟩:=hC g _ _ nx _ hl' ι w.heap.size w H.shut (by
    intro v hv
    rcases List.mem_append.1 hv with hv|hv
    ·exact e4 v hv
    ·obtain⟨p,rfl⟩:=capPtr_spec hcap v hv
     exact e2.2 _ hv)
   have hcapm:cap.map (trP ι)=(cap.toList.map (tr ι)).toArray:=by
    apply Array.ext'
    simp only [Array.toList_map]
    apply List.map_congr_left
    intro v hv
    obtain⟨p,rfl⟩:=capPtr_spec hcap v hv
    rfl
   refine⟨g,((l++cap.toList).map (tr ι)).toArray,?_,?_⟩
   ·obtain⟨bdy,hb'⟩:=Option.isSome_iff_exists.1 hbody
    have hname' : fn.name ≠ "runtime.NumGoroutine" := by simpa using hname
    simp [execOp,resolve,e1,tr,trA,trS,trFn,Deferred.ofValue,invoke,callFunc,hfn,hname',hb',hargs,hcapm]
   ·refine CallsIn.mono hcalls fun e w' hret=>?_
    cases e with
    |returned u =>
     obtain⟨v',h'',nx'',ι',rfl,k2,k3,k4,k5,k6,rfl⟩:=hret
     exact⟨by rw [tr_g hg,tr_g hg],k4⟩
    |panicked c=>exact hret.elim
    |outgrown=>exact hret.elim
 all_goals exact hpure K rfl hl
end
end Go.Aw
end
