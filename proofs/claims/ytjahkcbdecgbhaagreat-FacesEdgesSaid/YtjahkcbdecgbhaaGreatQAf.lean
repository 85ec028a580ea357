/-
  Parts of the proof, put together. No condition.
-/
import Derived.Test.YtjahkcbdecgbhaaGreatQAe
import Derived.OrdersIn
set_option linter.unusedSimpArgs false
set_option linter.unusedVariables false
noncomputable section
namespace Go.Aw
open Go.RowKit
abbrev VC:=Nat→List Value→Heap→Nat→KE→Prop
abbrev VY:=Nat→List Value→Heap→Nat→KE→Prop
abbrev KS:=List (Nat × Value)→Heap→Nat→Prop
def kR (env:List (Nat × Value)):Option Operand→Option (Option Value)
 |none=>some none
 |some x=>match cX env x with|some v=>some (some v)|none=>none
def lV:List Value→Bool
 |[]=>true
 |.pointer (some _)::r=>lV r
 |_=>false
def pW (A:Ar)(T:cM)(C:VC)(Y:VY)(env:List (Nat × Value))(h:Heap)(nx:Nat)(op:Op)(K:KE):Prop :=
 match op with
 |.store t x y=>on (cX env x) fun p=>on (cX env y) fun v=>nH T h nx t p v K
 |.alloc t=>w9 T h nx t K
 |.box _ x=>on (cX env x) fun v=>RL h nx v K
 |.buildSlice t n ps=>(match kB env ps.toList with|some l=>dW T h nx t n l K|none=>False)
 |.slice t x lo hi mx=>on (cX env x) fun v=>(match kR env lo,kR env hi,kR env mx with
  |some l,some u,some m=>tG A T h nx t v l u m K
  |_,_,_=>False)
 |.makeMap _ none=>N9 h nx K
 |.makeSlice t l c=>on (cX env l) fun l=>on (cX env c) fun c=>jY A T h nx t l c K
 |.lookup t m k ok=>on (cX env m) fun x=>on (cX env k) fun y=>oP A T h t x y ok (fun v=>K v h nx)
 |.mapUpdate t m k u=>on (cX env m) fun x=>on (cX env k) fun y=>on (cX env u) fun v=>jZ A T h nx t x y v K
 |.call c=>(match c.callee with
  |.builtin .append=>(match c.argTypes.toList,kQ env c.args.toList with|[st,xt],some [s,x]=>lK A T h nx st xt s x K|_,_=>False)
  |.builtin .clear=>(match c.argTypes.toList,kQ env c.args.toList with|[t],some [x]=>wV T h nx t x K|_,_=>False)
  |.builtin _=>jC A T env h op (fun v=>K v h nx)
  |.value f=>on (cX env f) fun fv=>(match kQ env c.args.toList with
   |some l=>(match fv with
    |.func (.func g) first cap=>(match first.toList,lV cap.toList with
     |[],true=>C g (l++cap.toList) h nx K
     |_,_=>False)
    |.func (.yield q) first _=>(match first.toList with
     |[]=>Y q l h nx K
     |_=>False)
    |_=>False)
   |none=>False)
  |_=>False)
 |_=>jC A T env h op (fun v=>K v h nx)
def eZ {α:Type}:List α→Nat→Option α
 |[],_=>none
 |x::_,0=>some x
 |_::r,n+1=>eZ r n
theorem dS {α:Type}(l:List α)(n:Nat):eZ l n=l[n]? := by
 induction l generalizing n with
 |nil=>rfl
 |cons v r ih=>cases n <;> simp [eZ,ih]
def fQ (A:Ar)(ops:List Oper)(env:List (Nat × Value))(g:Option (Nat × Bool))(Y N:List (Nat × Value)→Prop):Prop :=
 match g with
 |none=>Y env
 |some (j,want)=>match eZ ops j with
  |some o=>(match o.dst with
   |some t=>(match look env t with
    |some (.bool b)=>br (A.eqB b want) (fun _=>Y (put env t (.bool want))) (fun _=>N (put env t (.bool (!want))))
    |some (.tuple _)=>N env
    |_=>False)
   |none=>False)
  |none=>False
def eH (tn:Nat)(env:List (Nat × Value))(dst:Option Nat)(v:Value)(K:List (Nat × Value)→Prop):Prop :=
 match dst with
 |none=>K env
 |some d=>match Nat.blt d tn with|true=>K (put env d v)|false=>False
def xJ (A:Ar)(T:cM)(C:VC)(Y:VY)(tn:Nat)(ops:List Oper)(l:List Oper):List (Nat × Value)→Heap→Nat→KS→Prop :=
 @List.rec Oper (fun _=>List (Nat × Value)→Heap→Nat→KS→Prop) (fun env h nx K=>K env h nx)
  (fun o _ ih env h nx K=>fQ A ops env o.guard
   (fun env=>pW A T C Y env h nx o.op fun v h' nx'=>eH tn env o.dst v fun env'=>ih env' h' nx' K)
   (fun env=>eH tn env o.dst undef fun env'=>ih env' h nx K)) l
theorem IA {A:Ar}{T:cM}{C:VC}{Y:VY}{tn:Nat}{ops:List Oper}{o:Oper}{r:List Oper}{env:List (Nat × Value)}{h:Heap}{nx:Nat}{K:KS}:xJ A T C Y tn ops (o::r) env h nx K=fQ A ops env o.guard
 (fun env=>pW A T C Y env h nx o.op fun v h' nx'=>eH tn env o.dst v fun env'=>xJ A T C Y tn ops r env' h' nx' K)
 (fun env=>eH tn env o.dst undef fun env'=>xJ A T C Y tn ops r env' h nx K):=rfl
structure Inv (B:Nat) (w0:World) (ι0:Nat→Loc) (nx0 tn:Nat) (ds:List Deferred) (ι:Nat→Loc) (env:List (Nat × Value)) (h:Heap) (nx:Nat) (a:Act) (w:World):Prop where
 env:cW ι nx env a
 heap:aS ι B h nx w
 below:gO B w0 w
 old:∀ k,k<nx0→ι k=ι0 k
 le:nx0≤nx
 size:a.tmps.size=tn
 defers:a.defers=ds
def Ret (B:Nat)(w0:World)(ι0:Nat→Loc)(nx0:Nat)(K:KE):Ending→World→Prop
 |.returned u,w=>∃ v h nx ι,K v h nx∧eR ι nx v∧aS ι B h nx w∧gO B w0 w∧(∀ k,k<nx0→ι k=ι0 k)∧nx0≤nx∧u=tr ι v
 |_,_=>False
def Fr (r:Option Nat):Fence:={ Fence.wide with round:=r }
def bI (P:Program)(C:VC):Prop:=∀ f args h nx K,C f args h nx K→∀ ι B w,aS ι B h nx w→(∀ v∈args,eR ι nx v) →
 (∃ fn, P.funcs[f]? = some fn ∧ fn.body.isSome = true ∧ (fn.name == "runtime.NumGoroutine") = false) ∧ CallsIn Fence.wide 0 P f (args.map (tr ι)).toArray w (Ret B w ι nx K)
def eG (P:Program)(Y:VY):Prop:=∀ l args h nx K,Y l args h nx K→∀ ι B w,aS ι B h nx w→(∀ v∈args,eR ι nx v) →
 ∀ b o e,ι l=.lay b o e→∃ f tmps as bd,(Instr.yield b (args.map (tr ι)).toArray).run P w=.ok (.round b f tmps as bd) w∧RoundIn Fence.wide 0 P b f tmps as bd w (Ret B w ι nx K)
section
variable {P:Program}{T:cM}{C:VC}{Y:VY}
theorem cW.wG {ι:Nat→Loc}{n:Nat}{env:List (Nat × Value)}{a:Act}(he:cW ι n env a){d:Nat}{v:Value}(hd:d<a.tmps.size)(hv:eR ι n v):cW ι n (put env d v) (a.put (some d) (tr ι v)):=by
 intro t u hu;rw [F9] at hu;by_cases e:t=d
 ·subst e;rw [if_pos rfl] at hu;injection hu with hu;subst hu;exact⟨by simp [Act.put,Array.getElem?_setIfInBounds_self_of_lt hd],hv⟩
 ·rw [if_neg e] at hu;obtain⟨h1,h2⟩:=he t u hu;refine⟨?_,h2⟩;simp only [Act.put];rw [Array.getElem?_setIfInBounds_ne (fun e'=>e e'.symm)];exact h1
theorem cW.same {ι:Nat→Loc}{n:Nat}{env:List (Nat × Value)}{a:Act}(he:cW ι n env a){d:Nat}{v:Value}(hv:look env d=some v):cW ι n (put env d v) a:=by
 intro t u hu;rw [F9] at hu;by_cases e:t=d
 ·subst e;rw [if_pos rfl] at hu;injection hu with hu;subst hu;exact he t v hv
 ·rw [if_neg e] at hu;exact he t u hu
theorem cW.names {ι ι':Nat→Loc}{n m:Nat}{env:List (Nat × Value)}{a:Act}(he:cW ι n env a)(hle:n≤m)(hi:∀ k,k<n→ι' k=ι k):cW ι' m env a:=by
 intro t u hu;obtain⟨h1,h2⟩:=he t u hu;exact⟨by rw [BX hi h2];exact h1,n7 hle hi h2⟩
theorem oG {ι:Nat→Loc}{n tn:Nat}{env:List (Nat × Value)}{a:Act}(he:cW ι n env a)(hs:a.tmps.size=tn){dst:Option Nat}{v:Value}{K:List (Nat × Value)→Prop}(hl:eH tn env dst v K)(hv:eR ι n v) :
  ∃ env',K env'∧cW ι n env' (a.put dst (tr ι v))∧(a.put dst (tr ι v)).tmps.size=tn∧(a.put dst (tr ι v)).defers=a.defers:=by
 unfold eH at hl;cases dst with
 |none=>exact⟨env,hl,he,hs,rfl⟩
 |some d =>
  simp only at hl;split at hl
  ·rename_i hd;have hd:d<tn:=Nat.le_of_ble_eq_true hd;exact⟨_,hl,he.wG (by omega) hv,by simp [Act.put,hs],rfl⟩
  ·exact hl.elim
theorem uS {ι:Nat→Loc}{n:Nat}{env:List (Nat × Value)}{a:Act}(he:cW ι n env a){ops:Array Oper}{o:Oper}{Yk N:List (Nat × Value)→Prop}(hl:fQ aB ops.toList env o.guard Yk N) :
  ∃ env',cW ι n env' a∧((Region.wanted o (yielded ops a.tmps)=true∧Yk env')∨(Region.wanted o (yielded ops a.tmps)=false∧N env')):=by
 unfold fQ at hl;unfold Region.wanted;split at hl
 ·rename_i hg;rw [hg];exact⟨env,he,.inl ⟨rfl,hl⟩⟩
 ·rename_i j want hg;rw [hg];split at hl
  case h_2=>exact hl.elim
  rename_i q hq;split at hl
  case h_2=>exact hl.elim
  rename_i t ht;split at hl
  case h_3=>exact hl.elim
  case h_2 =>
   rename_i vs hb;rw [dS] at hq;have hy:yielded ops a.tmps j=none:=by
    have hq':ops[j]? = some q:=(by simpa using hq);simp [yielded,hq',ht,(he t _ hb).1,tr]
   exact⟨_,he,.inr ⟨by simp [hy],hl⟩⟩
  rename_i b hb;rw [dS] at hq;have hy:yielded ops a.tmps j=some b:=by
   have hq':ops[j]? = some q:=(by simpa using hq);simp [yielded,hq',ht,(he t _ hb).1,qY]
  simp only [hy];rcases nM hl with ⟨hbw,hk⟩|⟨hbw,hk⟩
  ·simp only [aB,beq_iff_eq] at hbw;subst hbw;exact⟨_,he.same hb,.inl ⟨by simp,hk⟩⟩
  ·simp only [aB,beq_eq_false_iff_ne,ne_eq] at hbw;have:b=!want:=(by cases b <;> cases want <;> simp_all);subst this;exact⟨_,he.same hb,.inr ⟨by simp,hk⟩⟩
theorem semAt_eq {o:Oper}(hd:∀ c,o.op≠.defer c)(r:Option Nat)(ρ:Operand→Value):o.semAt r ρ=execOp ρ o:=by
 cases r with
 |none=>exact Oper.semAt_none _ _
 |some l=>exact Oper.semAt_some l ρ o hd
def XU (P:Program)(ι:Nat→Loc)(B nx:Nat)(w:World)(m:Sem Next)(K:KE):Prop :=
 (∃ v h' nx' ι' w',K v h' nx'∧eR ι' nx' v∧aS ι' B h' nx' w'∧gO B w w'∧(∀ k,k<nx→ι' k=ι k)∧nx≤nx'∧m.run P w=.ok (.value (tr ι' v)) w') ∨
 (∃ h' w',K undef h' nx∧aS ι B h' nx w'∧gO B w w'∧m.run P w=.ok .skip w') ∨
 (∃ f args,m.run P w=.ok (.enter f args) w∧CallsIn Fence.wide 0 P f args w (Ret B w ι nx K)) ∨
 (∃ l f tmps as bd,m.run P w=.ok (.round l f tmps as bd) w∧RoundIn Fence.wide 0 P l f tmps as bd w (Ret B w ι nx K))
theorem XU.upon {ι:Nat→Loc}{B nx:Nat}{w:World}{o:Oper}{a a':Act}{K:KE}(hr:XU P ι B nx w (execOp a.eval o) K)(hd:∀ c,o.op≠.defer c)(he:execOp a'.eval o=execOp a.eval o)
  (r:Option Nat) (next:Act→World→Prop) (Q:Exit→Act→World→Prop)
  (hn:∀ v h' nx' ι' w',K v h' nx'→eR ι' nx' v→aS ι' B h' nx' w'→gO B w w'→(∀ k,k<nx→ι' k=ι k)→nx≤nx'→next (a'.put o.dst (tr ι' v)) w') :
  o.wpIn (Fr r) 0 P a' w next Q:=by
 refine⟨fun _ _=>trivial,?_⟩;rw [semAt_eq hd,he];rcases hr with ⟨v,h',nx',ι',w',h1,h2,h3,h4,h5,h6,h7⟩|⟨h',w',h1,h3,h4,h7⟩|⟨f,args,hrun,hcalls⟩|⟨l,f,tmps,as,bd,hrun,hround⟩
 ·rw [h7];exact hn v h' nx' ι' w' h1 h2 h3 h4 h5 h6
 ·rw [h7];have:=hn undef h' nx ι w' h1 (bU rfl) h3 h4 (fun _ _=>rfl) (Nat.le_refl _)
  rwa [iB (show gT undef=true from rfl)] at this
 ·rw [hrun];refine⟨fun hdep=>absurd hdep (by simp [Fr,Fence.wide]),?_⟩;refine CallsIn.mono (F:=Fence.wide) hcalls fun e w' hret=>?_;cases e with
  |returned u =>
   obtain⟨v,h',nx',ι',k1,k2,k3,k4,k5,k6,rfl⟩:=hret;exact hn v h' nx' ι' w' k1 k2 k3 k4 k5 k6
  |panicked c=>exact hret.elim
  |outgrown=>exact hret.elim
 ·rw [hrun];refine⟨fun hdep=>absurd hdep (by simp [Fr,Fence.wide]),?_⟩;refine RoundIn.mono (F:=Fence.wide) hround fun e w' hret=>?_;cases e with
  |returned u =>
   obtain⟨v,h',nx',ι',k1,k2,k3,k4,k5,k6,rfl⟩:=hret;exact hn v h' nx' ι' w' k1 k2 k3 k4 k5 k6
  |panicked c=>exact hret.elim
  |outgrown=>exact hret.elim
theorem upon_value {ι:Nat→Loc}{B nx:Nat}{w:World}{o:Oper}{a:Act}{K:KE}
 (h:∃ v h' nx' ι' w',K v h' nx'∧eR ι' nx' v∧aS ι' B h' nx' w'∧gO B w w'∧(∀ k,k<nx→ι' k=ι k)∧nx≤nx'∧(execOp a.eval o).run P w=.ok (.value (tr ι' v)) w'):XU P ι B nx w (execOp a.eval o) K:=.inl h
theorem upon_skip {ι:Nat→Loc}{B nx:Nat}{w:World}{o:Oper}{a:Act}{K:KE}
 (h:∃ h' w',K undef h' nx∧aS ι B h' nx w'∧gO B w w'∧(execOp a.eval o).run P w=.ok .skip w'):XU P ι B nx w (execOp a.eval o) K:=.inr (.inl h)
theorem kW {ι:Nat→Loc}{n:Nat}{env:List (Nat × Value)}{a:Act}(he:cW ι n env a){x:Option Operand}{v:Option Value}(h:kR env x=some v):x.map a.eval=v.map (tr ι):=by
 cases x with
 |none=>simp [kR] at h;subst h;rfl
 |some x =>
  simp only [kR] at h;split at h
  ·rename_i u hu;injection h with h;subst h;simp [(he.cX hu).1]
  ·cases h
theorem jV {ι:Nat→Loc}{B nx:Nat}{w:World}{m:Sem Value}{K:KE}(h:JI P ι B nx w m K) :
  ∃ v h' nx' ι' w',K v h' nx'∧eR ι' nx' v∧aS ι' B h' nx' w'∧gO B w w'∧(∀ k,k<nx→ι' k=ι k)∧nx≤nx'∧(do pure (.value (← m)):Sem Next).run P w=.ok (.value (tr ι' v)) w':=by
 obtain⟨v,h',nx',ι',w',h1,h2,h3,h4,h5,h6,h7⟩:=h;exact⟨v,h',nx',ι',w',h1,h2,h3,h4,h5,h6,by simp only [Sem.run_bind,h7,Result.andThen_ok,Sem.run_pure]⟩
theorem wI (hT:cH P T){ι:Nat→Loc}{B nx:Nat}{w:World}{h:Heap}{env:List (Nat × Value)}{a:Act}(he:cW ι nx env a)(H:aS ι B h nx w){o:Oper}{K:KE}
  (hl:jC aB T env h o.op (fun v=>K v h nx)):XU P ι B nx w (execOp a.eval o) K:=by
 obtain⟨v,h1,h2,h3⟩:=DO hT he hl H;exact upon_value ⟨v,h,nx,ι,w,h1,h2,H,gO.refl _ _,fun _ _=>rfl,Nat.le_refl _,h3 w H⟩
theorem iD:∀ {l:List Value},lV l=true→∀ v∈l,∃ p,v=.pointer (some p)
 |[],_,v,hv=>by cases hv
 |x::r,h,v,hv=>by
  unfold lV at h;split at h
  ·rename_i heq;cases heq
  ·rename_i p r' heq;injection heq with e1 e2;subst e1;subst e2;rcases List.mem_cons.1 hv with rfl|hv
   ·exact⟨_,rfl⟩
   ·exact iD h v hv
  ·cases h
theorem BJ {env:List (Nat × Value)}{h:Heap}{nx:Nat}{op:Op}{K:KE}(hl:pW aB T C Y env h nx op K):∀ c,op≠.defer c:=by
 rintro c rfl;exact hl.elim
theorem PC (hT:cH P T)(hC:bI P C)(hY:eG P Y){ι:Nat→Loc}{B nx:Nat}{w:World}{h:Heap}{env:List (Nat × Value)}{a:Act}(he:cW ι nx env a)(H:aS ι B h nx w){o:Oper}{K:KE}
  (hl:pW aB T C Y env h nx o.op K):XU P ι B nx w (execOp a.eval o) K:=by
 have hl':=hl;obtain⟨dst,op,ty,pos,after,guard⟩:=o;simp only at hl;cases op
 case store t x y =>
  simp only [pW] at hl;obtain⟨p,hp,hl⟩:=cQ hl;obtain⟨v,hv,hl⟩:=cQ hl;obtain⟨e1,e2⟩:=he.cX hp;obtain⟨e3,e4⟩:=he.cX hv;obtain⟨h',w',h1,h2,h3,h4⟩:=VW (P:=P) hT hl e4 H;exact upon_skip ⟨h',w',h1,h2,h3,by simp only [execOp,e1,e3,Sem.run_bind,h4,Result.andThen_ok,Sem.run_pure]⟩
 case alloc t =>
  simp only [pW] at hl;exact upon_value (jV (V7 hT hl H))
 case box t x =>
  simp only [pW] at hl;obtain⟨v,hv,hl⟩:=cQ hl;obtain⟨e3,e4⟩:=he.cX hv;have:=jV (aC6 (P:=P) (t:=t) hl e4 H);rw [← e3] at this;exact upon_value this
 case buildSlice t n ps =>
  simp only [pW] at hl;split at hl
  case h_2=>exact hl.elim
  rename_i l hps;obtain⟨e1,e2⟩:=qK he hps;have:=jV (EW (P:=P) hT hl e2 H);have e3:(ps.map fun p=>(p.1,a.eval p.2))=(l.map fun p=>(p.1,tr ι p.2)).toArray:=by
   apply Array.ext';simpa using e1
  rw [← e3] at this;exact upon_value this
 case slice t x lo hi mx =>
  simp only [pW] at hl;obtain⟨v,hv,hl⟩:=cQ hl;obtain⟨e3,e4⟩:=he.cX hv;split at hl
  case h_2=>exact hl.elim
  rename_i l u m h1 h2 h3;obtain⟨v',h',nx',ι',k1,k2,k3,k4,k5⟩:=IQ hT hl e4 H;obtain⟨k6,k7⟩:=k5 w H;rw [← kW he h1,← kW he h2,← kW he h3,← e3] at k7;refine upon_value ⟨v',h',nx',ι',w,k1,k2,k6,gO.refl _ _,k3,k4,?_⟩;simp only [execOp,Sem.run_bind,k7,Result.andThen_ok,Sem.run_pure]
 case makeSlice t l c =>
  simp only [pW] at hl;obtain⟨x,hx,hl⟩:=cQ hl;obtain⟨y,hy,hl⟩:=cQ hl;obtain⟨e1,e2⟩:=he.cX hx;obtain⟨e3,e4⟩:=he.cX hy;have:=jV (HE (P:=P) hT hl H);rw [← e1,← e3] at this;exact upon_value this
 case makeMap t r =>
  cases r with
  |none =>
   simp only [pW] at hl;exact upon_value (jV (MW hl H))
  |some r=>simp only [pW] at hl;exact wI (h:=h) hT he H (o:=⟨dst,_,ty,pos,after,guard⟩) hl
 case lookup t m k ok =>
  simp only [pW] at hl;obtain⟨x,hx,hl⟩:=cQ hl;obtain⟨y,hy,hl⟩:=cQ hl;obtain⟨e1,e2⟩:=he.cX hx;obtain⟨e3,e4⟩:=he.cX hy;obtain⟨v,h1,h2,h3⟩:=FA (P:=P) hT hl e2 H;have:=h3 w H;rw [← e1,← e3] at this;exact upon_value ⟨v,h,nx,ι,w,h1,h2,H,gO.refl _ _,fun _ _=>rfl,Nat.le_refl _,by simp only [execOp,Sem.run_bind,this,Result.andThen_ok,Sem.run_pure]⟩
 case mapUpdate t m k u =>
  simp only [pW] at hl;obtain⟨x,hx,hl⟩:=cQ hl;obtain⟨y,hy,hl⟩:=cQ hl;obtain⟨v,hv,hl⟩:=cQ hl;obtain⟨e1,e2⟩:=he.cX hx;obtain⟨e3,e4⟩:=he.cX hy;obtain⟨e5,e6⟩:=he.cX hv;obtain⟨h',w',h1,h2,h3,h4⟩:=HK (P:=P) hT hl e2 e6 H;rw [← e1,← e3,← e5] at h4;exact upon_skip ⟨h',w',h1,h2,h3,by simp only [execOp,Sem.run_bind,h4,Result.andThen_ok,Sem.run_pure]⟩
 case call c =>
  obtain⟨cal,args,ats⟩:=c;simp only [pW] at hl;cases cal with
  |invoke r m=>exact hl.elim
  |builtin b =>
   by_cases hb1:b=.append
   ·subst hb1;simp only at hl;split at hl
    case h_2=>exact hl.elim
    rename_i st xt s x hts hvs;obtain⟨e1,e2⟩:=kV he hvs;have:=jV (QJ (P:=P) (ty:=ty) hT hl (e2 s (by simp)) (e2 x (by simp)) H);obtain⟨ats⟩:=ats;simp only at hts;subst hts;have e3:args.map a.eval=#[tr ι s,tr ι x]:=by
     apply Array.ext';simpa using e1
    rw [← e3] at this;exact upon_value this
   ·by_cases hb2:b=.clear
    ·subst hb2;simp only at hl;split at hl
     case h_2=>exact hl.elim
     rename_i t x hts hvs;obtain⟨e1,e2⟩:=kV he hvs;have:=jV (XS (P:=P) (ty:=ty) hT hl (e2 x (by simp)) H);obtain⟨ats⟩:=ats;simp only at hts;subst hts;have e3:args.map a.eval=#[tr ι x]:=by
      apply Array.ext';simpa using e1
     rw [← e3] at this;exact upon_value this
    ·have hl2:jC aB T env h (.call { callee:=.builtin b,args:=args,argTypes:=ats }) (fun v=>K v h nx):=by
      cases b <;> first|exact hl|exact absurd rfl hb1|exact absurd rfl hb2
     exact wI hT he H (o:=⟨dst,_,ty,pos,after,guard⟩) hl2
  |value f =>
   simp only at hl;obtain⟨fv,hfv,hl⟩:=cQ hl;obtain⟨e1,e2⟩:=he.cX hfv;split at hl
   case h_2=>exact hl.elim
   rename_i l hvs;obtain⟨e3,e4⟩:=kV he hvs;have hargs:args.map a.eval=(l.map (tr ι)).toArray:=by
    apply Array.ext';simpa using e3
   split at hl
   ·rename_i g first cap;split at hl
    case h_2=>exact hl.elim
    rename_i hfirst hcap;obtain⟨first⟩:=first;simp only at hfirst;subst hfirst;obtain⟨⟨fn,hfn,hbody,hname⟩,hcalls⟩:=hC g _ h nx K hl ι B w H (by
     intro v hv;rcases List.mem_append.1 hv with hv|hv
     ·exact e4 v hv
     ·have:=iD hcap v hv;obtain⟨p,rfl⟩:=this;exact e2.2 _ hv)
    have hcapm:cap.map (dR ι)=(cap.toList.map (tr ι)).toArray:=by
     apply Array.ext';simp only [Array.toList_map];apply List.map_congr_left;intro v hv;obtain⟨p,rfl⟩:=iD hcap v hv;rfl
    have hrun:(execOp a.eval ⟨dst,.call ⟨.value f,args,ats⟩,ty,pos,after,guard⟩).run P w=.ok (.enter g ((l++cap.toList).map (tr ι)).toArray) w:=by
     obtain⟨bdy,hb'⟩:=Option.isSome_iff_exists.1 hbody;have hname' : fn.name ≠ "runtime.NumGoroutine" := (by simpa using hname);simp [execOp,resolve,e1,tr,dP,bR,lN,Deferred.ofValue,invoke,callFunc,hfn,hname',hb',hargs,hcapm]
    exact .inr (.inr (.inl ⟨_,_,hrun,hcalls⟩))
   ·rename_i q first cap;split at hl
    case h_2=>exact hl.elim
    rename_i hfirst;obtain⟨first⟩:=first;simp only at hfirst;subst hfirst;have hq:q<nx∧(ι q).gJ=true:=e2.1;cases hι:ι q with
    |nil p=>rw [hι] at hq;cases hq.2
    |lay b o ex =>
     obtain⟨f',tmps,as,bd,hy,hround⟩:=hY q l h nx K hl ι B w H e4 b o ex hι;have hrun:(execOp a.eval ⟨dst,.call ⟨.value f,args,ats⟩,ty,pos,after,guard⟩).run P w=.ok (.round b f' tmps as bd) w:=by
      simp [execOp,resolve,e1,tr,dP,bR,lN,hι,Deferred.ofValue,invoke,hargs,hy]
     exact .inr (.inr (.inr ⟨_,_,_,_,_,hrun,hround⟩))
   ·exact hl.elim
 all_goals (simp only [pW] at hl;exact wI hT he H (o:=⟨dst,_,ty,pos,after,guard⟩) hl)
end
section
variable {P:Program}{T:cM}{C:VC}{Y:VY}{B:Nat}{w0:World}{ι0:Nat→Loc}{nx0 tn:Nat}{ds:List Deferred}
theorem Inv.step {ι ι':Nat→Loc}{env env':List (Nat × Value)}{h h':Heap}{nx nx':Nat}{a a':Act}{w w':World}(I:Inv B w0 ι0 nx0 tn ds ι env h nx a w)(he:cW ι' nx' env' a')(H:aS ι' B h' nx' w')(hb:gO B w w')
  (hi:∀ k,k<nx→ι' k=ι k) (hn:nx≤nx') (hs:a'.tmps.size=tn) (hd:a'.defers=a.defers):Inv B w0 ι0 nx0 tn ds ι' env' h' nx' a' w' :=
 ⟨he,H,I.below.trans hb,fun k hk=>(hi k (Nat.lt_of_lt_of_le hk I.le)).trans (I.old k hk),Nat.le_trans I.le hn,hs,hd.trans I.defers⟩
theorem LH (hT:cH P T)(hC:bI P C)(hY:eG P Y)(r:Option Nat){ops:Array Oper}{Q:Exit→Act→World→Prop}{K:KS}:∀ (l:List Oper) (ι:Nat→Loc) (env:List (Nat × Value)) (h:Heap) (nx:Nat) (a:Act) (w:World),
  xJ aB T C Y tn ops.toList l env h nx K→Inv B w0 ι0 nx0 tn ds ι env h nx a w →
  (∀ ι' env' h' nx' a' w',K env' h' nx'→Inv B w0 ι0 nx0 tn ds ι' env' h' nx' a' w'→Q .normal a' w')→wpListIn (Fr r) 0 P ops Q l a w
 |[],ι,env,h,nx,a,w,hl,I,hQ=>hQ ι env h nx a w hl I
 |o::rest,ι,env,h,nx,a,w,hl,I,hQ=>by
  simp only [IA] at hl;obtain⟨env1,he1,hcase⟩:=uS I.env hl;simp only [wpListIn];rcases hcase with ⟨hw,hl⟩|⟨hw,hl⟩
  ·rw [if_pos hw];refine (PC hT hC hY he1 I.heap hl).upon (BJ hl) rfl r _ _ fun v h' nx' ι' w' k1 k2 k3 k4 k5 k6=>?_;obtain⟨env2,k7,k8,k9,k10⟩:=oG (he1.names k6 k5) I.size k1 k2;exact LH hT hC hY r rest ι' env2 h' nx' _ w' k7 (I.step k8 k3 k4 k5 k6 k9 k10) hQ
  ·rw [hw];refine⟨fun _ _=>trivial,?_⟩;obtain⟨env2,k7,k8,k9,k10⟩:=oG he1 I.size hl (v:=undef) (bU rfl);rw [iB (show gT undef=true from rfl)] at k8 k9 k10;exact LH hT hC hY r rest ι env2 h nx _ w k7 (I.step k8 I.heap (gO.refl _ _) (fun _ _=>rfl) (Nat.le_refl _) k9 k10) hQ
end
def aV.closed:aV→aV
 |.cells _ g sz cs=>.cells false g sz cs
 |.zero=>.zero
 |_=>.cells false false 1 []
def eJ:Heap→Heap
 |[]=>[]
 |(k,o)::r=>(k,o.closed)::eJ r
theorem gB (h:Heap)(k:Nat):look (eJ h) k=(look h k).map aV.closed:=by
 induction h with
 |nil=>rfl
 |cons x r ih =>
  obtain⟨j,o⟩:=x;simp only [eJ,aE];split
  ·rfl
  ·exact ih
def dZ (C:VC):Prop:=∀ f args h nx K,C f args h nx K→∃ v h' nx',K v h' nx'∧∀ K':KE,K' v h' nx'→C f args h nx K'
def iO (A:Ar)(T:cM)(C:VC)(hJ:Heap)(nx:Nat)(env:List (Nat × Value))(op:Op)(K:Value→Nat→Prop):Prop :=
 match op with
 |.load _ _=>jC A T env hJ op (fun v=>K v nx)
 |.lookup t m k ok=>on (cX env m) fun x=>on (cX env k) fun y=>oP A T hJ t x y ok (fun v=>K v nx)
 |.slice t x lo hi mx=>on (cX env x) fun v=>(match kR env lo,kR env hi,kR env mx with
  |some l,some u,some m=>tG A T hJ nx t v l u m (fun v _ nx'=>K v nx')
  |_,_,_=>False)
 |.call c=>(match c.callee with
  |.builtin _=>jC A T env [] op (fun v=>K v nx)
  |.value f=>on (cX env f) fun fv=>(match kQ env c.args.toList with
   |some l=>(match fv with
    |.func (.func g) first cap=>(match first.toList,lV cap.toList with
     |[],true=>C g (l++cap.toList) (eJ hJ) nx (fun v _ _=>match gT v with|true=>K v nx|false=>False)
     |_,_=>False)
    |_=>False)
   |none=>False)
  |_=>False)
 |_=>jC A T env [] op (fun v=>K v nx)
def kY:Op→Bool
 |.load _ _=>false
 |.lookup _ _ _ _=>false
 |.slice _ _ _ _ _=>false
 |.call c=>(match c.callee with|.builtin _=>true|_=>false)
 |_=>true
def nG:Op→Bool
 |.lookup _ _ _ _=>true
 |.call c=>(match c.callee with|.builtin _=>false|_=>true)
 |_=>false
section
variable {P:Program}{T:cM}{C:VC}{Y:VY}{ι:Nat→Loc}{B nx:Nat}
theorem aS.shut {h:Heap}{w:World}(H:aS ι B h nx w):aS ι w.heap.size (eJ h) nx w:=by
 have key:∀ k o',look (eJ h) k=some o'→∃ o,look h k=some o∧o'=o.closed:=fun k o' hk=>by
  rw [gB] at hk;cases hl:look h k with
  |none=>rw [hl] at hk;cases hk
  |some o=>rw [hl] at hk;injection hk with hk;exact⟨o,rfl,hk.symm⟩
 refine⟨fun k o' hk=>?_,fun k k' o o' h1 h2 hne ha=>?_,fun k o' hk=>?_,Nat.le_refl _,fun k o' hk=>?_⟩
 ·obtain⟨o,hk',rfl⟩:=key k o' hk;have ho:=H.obj k o hk';cases hι:ι k with
  |nil p =>
   rw [hι] at ho;cases o with
   |cells wr g sz cs=>exact⟨ho.1,fun h=>ho.2 (h.elim .inl (fun h=>by cases h))⟩
   |zero=>exact ho
   |_=>exact ho.elim
  |lay b off e =>
   have hb:=ho.lt (b:=b) (by rw [hι];rfl);rw [hι] at ho;cases o with
   |cells wr g sz cs =>
    cases wr with
    |false=>exact ho
    |true =>
     obtain⟨_,hg,arr,t,h1,h2,h3⟩:=ho;exact⟨hb,hg,fun i v hv=>by simp [World.cell?,h1,h3 i v hv]⟩
   |zero=>exact ho
   |_=>exact⟨hb,(fun h=>(by cases h)),(fun i v hv=>(by simp at hv))⟩
 ·obtain⟨o1,h1,rfl⟩:=key k o h1;cases o1 <;> cases ha
 ·obtain⟨o,hk',rfl⟩:=key k o' hk;exact H.low k o hk'
 ·obtain⟨o,hk',rfl⟩:=key k o' hk;have:=H.sc k o hk';cases o with
  |cells wr g sz cs=>exact this
  |zero=>trivial
  |_=>intro v hv;cases hv
def aDt (P:Program)(m:Sem Next)(w:World)(u:Value):Prop :=
 m.run P w=.ok (.value u) w∨∃ f args,m.run P w=.ok (.enter f args) w∧CallsIn Fence.wide 0 P f args w fun e w'=>e=.returned u∧gO w.heap.size w w'
theorem aS.none {w:World}(h:B≤w.heap.size):aS ι B [] nx w :=
 ⟨fun k o hk=>(by cases hk),fun k k' o o' hk=>(by cases hk),fun k o hk=>(by cases hk),h,fun k o hk=>(by cases hk)⟩
def l7 (op:Op)(hJ:Heap):Heap:=match kY op with|true=>[]|false=>hJ
theorem XR (hT:cH P T)(hC:bI P C)(hD:dZ C){hJ:Heap}{env:List (Nat × Value)}{a:Act}(he:cW ι nx env a){w0:World}(H0:aS ι B hJ nx w0){o:Oper}{K:Value→Nat→Prop}
  (hl:iO aB T C hJ nx env o.op K) :
  ∃ v nx' ι',K v nx'∧eR ι' nx' v∧(∀ k,k<nx→ι' k=ι k)∧nx≤nx'∧∀ w,aS ι B (l7 o.op hJ) nx w→(nG o.op=true→gO w0.heap.size w0 w)→aDt P (execOp a.eval o) w (tr ι' v):=by
 obtain⟨dst,op,ty,pos,after,guard⟩:=o;simp only at hl;have hpure:∀ K:Value→Nat→Prop,kY op=true→jC aB T env [] op (fun v=>K v nx)→∃ v nx' ι',K v nx'∧eR ι' nx' v∧(∀ k,k<nx→ι' k=ι k)∧nx≤nx'∧∀ w,aS ι B (l7 op hJ) nx w→(nG op=true→gO w0.heap.size w0 w)→aDt P (execOp a.eval ⟨dst,op,ty,pos,after,guard⟩) w (tr ι' v):=by
  intro K hp hl;obtain⟨v,h1,h2,h3⟩:=DO (P:=P) (h:=[]) (B:=B) (w0:=w0) hT he (o:=⟨dst,op,ty,pos,after,guard⟩) hl (aS.none H0.size);refine⟨v,nx,ι,h1,h2,fun _ _=>rfl,Nat.le_refl _,fun w H _=>.inl (h3 w ?_)⟩;simpa [l7,hp] using H
 cases op
 case load t x =>
  simp only [iO] at hl;obtain⟨v,h1,h2,h3⟩:=DO (P:=P) hT he (o:=⟨dst,_,ty,pos,after,guard⟩) hl H0;exact⟨v,nx,ι,h1,h2,fun _ _=>rfl,Nat.le_refl _,fun w H _=>.inl (h3 w (by simpa [l7,kY] using H))⟩
 case lookup t m k ok =>
  simp only [iO] at hl;obtain⟨x,hx,hl⟩:=cQ hl;obtain⟨y,hy,hl⟩:=cQ hl;obtain⟨e1,e2⟩:=he.cX hx;obtain⟨e3,e4⟩:=he.cX hy;obtain⟨v,h1,h2,h3⟩:=FA (P:=P) hT hl e2 H0;refine⟨v,nx,ι,h1,h2,fun _ _=>rfl,Nat.le_refl _,fun w H _=>.inl ?_⟩;have:=h3 w (by simpa [l7,kY] using H);rw [← e1,← e3] at this;simp only [execOp,Sem.run_bind,this,Result.andThen_ok,Sem.run_pure]
 case slice t x lo hi mx =>
  simp only [iO] at hl;obtain⟨v,hv,hl⟩:=cQ hl;obtain⟨e3,e4⟩:=he.cX hv;split at hl
  case h_2=>exact hl.elim
  rename_i l u m h1 h2 h3;obtain⟨v',h',nx',ι',k1,k2,k3,k4,k5⟩:=IQ hT hl e4 H0;refine⟨v',nx',ι',k1,k2,k3,k4,fun w H hb=>.inl ?_⟩;obtain⟨k6,k7⟩:=k5 w (by simpa [l7,kY] using H);rw [← kW he h1,← kW he h2,← kW he h3,← e3] at k7;simp only [execOp,Sem.run_bind,k7,Result.andThen_ok,Sem.run_pure]
 case call c =>
  obtain⟨cal,args,ats⟩:=c;simp only [iO] at hl;cases cal with
  |invoke r m=>exact hl.elim
  |builtin b=>exact hpure K rfl hl
  |value f =>
   simp only at hl;obtain⟨fv,hfv,hl⟩:=cQ hl;obtain⟨e1,e2⟩:=he.cX hfv;split at hl
   case h_2=>exact hl.elim
   rename_i l hvs;obtain⟨e3,e4⟩:=kV he hvs;have hargs:args.map a.eval=(l.map (tr ι)).toArray:=by
    apply Array.ext';simpa using e3
   split at hl
   case h_2=>exact hl.elim
   rename_i g first cap;split at hl
   case h_2=>exact hl.elim
   rename_i hfirst hcap;obtain⟨first⟩:=first;simp only at hfirst;subst hfirst;obtain⟨v,h',nx',k1,k2⟩:=hD _ _ _ _ _ hl;split at k1
   case h_2=>exact k1.elim
   rename_i hg;refine⟨v,nx,ι,k1,bU hg,fun _ _=>rfl,Nat.le_refl _,fun w H _=>.inr ?_⟩;have H:aS ι B hJ nx w:=(by simpa [l7,kY] using H);have hl':=k2 (fun v' _ _=>v'=v) rfl;obtain⟨⟨fn,hfn,hbody,hname⟩,hcalls⟩:=hC g _ _ nx _ hl' ι w.heap.size w H.shut (by
    intro v hv;rcases List.mem_append.1 hv with hv|hv
    ·exact e4 v hv
    ·obtain⟨p,rfl⟩:=iD hcap v hv;exact e2.2 _ hv)
   have hcapm:cap.map (dR ι)=(cap.toList.map (tr ι)).toArray:=by
    apply Array.ext';simp only [Array.toList_map];apply List.map_congr_left;intro v hv;obtain⟨p,rfl⟩:=iD hcap v hv;rfl
   refine⟨g,((l++cap.toList).map (tr ι)).toArray,?_,?_⟩
   ·obtain⟨bdy,hb'⟩:=Option.isSome_iff_exists.1 hbody;have hname' : fn.name ≠ "runtime.NumGoroutine" := (by simpa using hname);simp [execOp,resolve,e1,tr,dP,bR,lN,Deferred.ofValue,invoke,callFunc,hfn,hname',hb',hargs,hcapm]
   ·refine CallsIn.mono hcalls fun e w' hret=>?_;cases e with
    |returned u =>
     obtain⟨v',h'',nx'',ι',rfl,k2,k3,k4,k5,k6,rfl⟩:=hret;exact⟨by rw [iB hg,iB hg],k4⟩
    |panicked c=>exact hret.elim
    |outgrown=>exact hret.elim
 all_goals exact hpure K rfl hl
end
end Go.Aw
end
