/-
  Parts of a proof. No condition.
-/
import Derived.Test.YthgjfhncomhofaaGreatQAb
import Derived.OrdersIn
set_option linter.unusedSimpArgs false
set_option linter.unusedVariables false
noncomputable section
namespace Go.Aw
open Go.RowKit
abbrev VC:=Nat->List Value->Heap->Nat->KE->Prop
abbrev VY:=Nat->List Value->Heap->Nat->KE->Prop
abbrev KS:=List (Nat × Value)->Heap->Nat->Prop
def nM (env:List (Nat × Value)):Option Operand->Option (Option Value)
 |none=>some none
 |some x=>match dZ env x with|some v=>some (some v)|none=>none
def sG:List Value->Bool
 |[]=>true
 |.pointer (some _)::r=>sG r
 |_=>false
def tD (A:Ar)(T:dN)(C:VC)(Y:VY)(env:List (Nat × Value))(h:Heap)(nx:Nat)(op:Op)(K:KE):Prop :=
 match op with
 |.store t x y=>on (dZ env x) fun p=>on (dZ env y) fun v=>qL T h nx t p v K
 |.alloc t=>AT T h nx t K
 |.box _ x=>on (dZ env x) fun v=>XA h nx v K
 |.buildSlice t n ps=>(match mY env ps.toList with|some l=>fP T h nx t n l K|none=>False)
 |.slice t x lo hi mx=>on (dZ env x) fun v=>(match nM env lo,nM env hi,nM env mx with
  |some l,some u,some m=>xO A T h nx t v l u m K
  |_,_,_=>False)
 |.makeMap _ none=>VD h nx K
 |.makeSlice t l c=>on (dZ env l) fun l=>on (dZ env c) fun c=>lW A T h nx t l c K
 |.lookup t m k ok=>on (dZ env m) fun x=>on (dZ env k) fun y=>r6 A T h t x y ok (fun v=>K v h nx)
 |.mapUpdate t m k u=>on (dZ env m) fun x=>on (dZ env k) fun y=>on (dZ env u) fun v=>lV A T h nx t x y v K
 |.call c=>(match c.callee with
  |.builtin .append=>(match c.argTypes.toList,nJ env c.args.toList with|[st,xt],some [s,x]=>oA A T h nx st xt s x K|_,_=>False)
  |.builtin .clear=>(match c.argTypes.toList,nJ env c.args.toList with|[t],some [x]=>A2 T h nx t x K|_,_=>False)
  |.builtin _=>kU A T env h op (fun v=>K v h nx)
  |.value f=>on (dZ env f) fun fv=>(match nJ env c.args.toList with
   |some l=>(match fv with
    |.func (.func g) first cap=>(match first.toList,sG cap.toList with
     |[],true=>C g (l++cap.toList) h nx K
     |_,_=>False)
    |.func (.yield q) first _=>(match first.toList with
     |[]=>Y q l h nx K
     |_=>False)
    |_=>False)
   |none=>False)
  |_=>False)
 |_=>kU A T env h op (fun v=>K v h nx)
def hH {α:Type}:List α->Nat->Option α
 |[],_=>none
 |x::_,0=>some x
 |_::r,n+1=>hH r n
theorem fO {α:Type}(l:List α)(n:Nat):hH l n=l[n]? := by
 induction l generalizing n with
 |nil=>rfl
 |cons v r ih=>cases n <;> simp[hH,ih]
def iM (A:Ar)(ops:List Oper)(env:List (Nat × Value))(g:Option (Nat × Bool))(Y N:List (Nat × Value)->Prop):Prop :=
 match g with
 |none=>Y env
 |some (j,want)=>match hH ops j with
  |some o=>(match o.dst with
   |some t=>(match aw env t with
    |some (.bool b)=>br (A.eqB b want) (fun _=>Y (put env t (.bool want))) (fun _=>N (put env t (.bool (!want))))
    |some (.tuple _)=>N env
    |_=>False)
   |none=>False)
  |none=>False
def fW (tn:Nat)(env:List (Nat × Value))(dst:Option Nat)(v:Value)(K:List (Nat × Value)->Prop):Prop :=
 match dst with
 |none=>K env
 |some d=>match Nat.blt d tn with|true=>K (put env d v)|false=>False
def CF (A:Ar)(T:dN)(C:VC)(Y:VY)(tn:Nat)(ops:List Oper)(l:List Oper):List (Nat × Value)->Heap->Nat->KS->Prop :=
 @List.rec Oper (fun _=>List (Nat × Value)->Heap->Nat->KS->Prop) (fun env h nx K=>K env h nx)
  (fun o _ ih env h nx K=>iM A ops env o.guard
   (fun env=>tD A T C Y env h nx o.op fun v h' nx'=>fW tn env o.dst v fun env'=>ih env' h' nx' K)
   (fun env=>fW tn env o.dst undef fun env'=>ih env' h nx K)) l
theorem OJ {A:Ar}{T:dN}{C:VC}{Y:VY}{tn:Nat}{ops:List Oper}{o:Oper}{r:List Oper}{env:List (Nat × Value)}{h:Heap}{nx:Nat}{K:KS}:CF A T C Y tn ops (o::r) env h nx K=iM A ops env o.guard
 (fun env=>tD A T C Y env h nx o.op fun v h' nx'=>fW tn env o.dst v fun env'=>CF A T C Y tn ops r env' h' nx' K)
 (fun env=>fW tn env o.dst undef fun env'=>CF A T C Y tn ops r env' h nx K):=rfl
structure Inv (B:Nat) (w0:World) (ι0:Nat->Loc) (nx0 tn:Nat) (ds:List Deferred) (ι:Nat->Loc) (env:List (Nat × Value)) (h:Heap) (nx:Nat) (a:Act) (w:World):Prop where
 env:dV ι nx env a
 heap:aY ι B h nx w
 below:jO B w0 w
 old:∀ k,k<nx0->ι k=ι0 k
 le:nx0<=nx
 size:a.tmps.size=tn
 defers:a.defers=ds
def Ret (B:Nat)(w0:World)(ι0:Nat->Loc)(nx0:Nat)(K:KE):Ending->World->Prop
 |.returned u,w=>∃ v h nx ι,K v h nx/\fU ι nx v/\aY ι B h nx w/\jO B w0 w/\(∀ k,k<nx0->ι k=ι0 k)/\nx0<=nx/\u=tr ι v
 |_,_=>False
def Fr (r:Option Nat):Fence:={ Fence.wide with round:=r }
def bN (P:Program)(C:VC):Prop:=∀ f args h nx K,C f args h nx K->∀ ι B w,aY ι B h nx w->(∀ v∈args,fU ι nx v) ->
 (∃ fn, P.funcs[f]? = some fn ∧ fn.body.isSome = true ∧ (fn.name == "runtime.NumGoroutine") = false) ∧ CallsIn Fence.wide 0 P f (args.map (tr ι)).toArray w (Ret B w ι nx K)
def fZ (P:Program)(Y:VY):Prop:=∀ l args h nx K,Y l args h nx K->∀ ι B w,aY ι B h nx w->(∀ v∈args,fU ι nx v) ->
 ∀ b o e,ι l=.lay b o e->∃ f tmps as bd,(Instr.yield b (args.map (tr ι)).toArray).run P w=.ok (.round b f tmps as bd) w/\RoundIn Fence.wide 0 P b f tmps as bd w (Ret B w ι nx K)
section
variable {P:Program}{T:dN}{C:VC}{Y:VY}
theorem dV.xQ {ι:Nat->Loc}{n:Nat}{env:List (Nat × Value)}{a:Act}(he:dV ι n env a){d:Nat}{v:Value}(hd:d<a.tmps.size)(hv:fU ι n v):dV ι n (put env d v) (a.put (some d) (tr ι v)):=by
 intro t u hu;rw[MU]at hu;by_cases e:t=d
 ·subst e;rw[if_pos rfl]at hu;injection hu with hu;subst hu;exact⟨by simp[Act.put,Array.getElem?_setIfInBounds_self_of_lt hd],hv⟩
 rw[if_neg e]at hu;obtain⟨h1,h2⟩:=he t u hu;refine⟨?_,h2⟩;simp only[Act.put];rw[Array.getElem?_setIfInBounds_ne (fun e'=>e e'.symm)];exact h1
theorem dV.same {ι:Nat->Loc}{n:Nat}{env:List (Nat × Value)}{a:Act}(he:dV ι n env a){d:Nat}{v:Value}(hv:aw env d=some v):dV ι n (put env d v) a:=by
 intro t u hu;rw[MU]at hu;by_cases e:t=d
 ·subst e;rw[if_pos rfl]at hu;injection hu with hu;subst hu;exact he t v hv
 rw[if_neg e]at hu;exact he t u hu
theorem dV.names {ι ι':Nat->Loc}{n m:Nat}{env:List (Nat × Value)}{a:Act}(he:dV ι n env a)(hle:n<=m)(hi:∀ k,k<n->ι' k=ι k):dV ι' m env a:=by
 intro t u hu;obtain⟨h1,h2⟩:=he t u hu;exact⟨by rw[KP hi h2];exact h1,uR hle hi h2⟩
theorem rV {ι:Nat->Loc}{n tn:Nat}{env:List (Nat × Value)}{a:Act}(he:dV ι n env a)(hs:a.tmps.size=tn){dst:Option Nat}{v:Value}{K:List (Nat × Value)->Prop}(hl:fW tn env dst v K)(hv:fU ι n v) :
  ∃ env',K env'/\dV ι n env' (a.put dst (tr ι v))/\(a.put dst (tr ι v)).tmps.size=tn/\(a.put dst (tr ι v)).defers=a.defers:=by
 unfold fW at hl;cases dst with
 |none=>exact⟨env,hl,he,hs,rfl⟩
 |some d =>
  simp only at hl;split at hl
  ·rename_i hd;have hd:d<tn:=Nat.le_of_ble_eq_true hd;exact⟨_,hl,he.xQ aa hv,by simp[Act.put,hs],rfl⟩
  exact hl.elim
theorem yT {ι:Nat->Loc}{n:Nat}{env:List (Nat × Value)}{a:Act}(he:dV ι n env a){ops:Array Oper}{o:Oper}{Yk N:List (Nat × Value)->Prop}(hl:iM aF ops.toList env o.guard Yk N) :
  ∃ env',dV ι n env' a/\((Region.wanted o (yielded ops a.tmps)=true/\Yk env')\/(Region.wanted o (yielded ops a.tmps)=false/\N env')):=by
 unfold iM at hl;unfold Region.wanted;split at hl
 ·rename_i hg;rw[hg];exact⟨env,he,.inl ⟨rfl,hl⟩⟩
 rename_i j want hg;rw[hg];split at hl
 case h_2=>exact hl.elim
 rename_i q hq;split at hl
 case h_2=>exact hl.elim
 rename_i t ht;split at hl
 case h_3=>exact hl.elim
 case h_2 =>
  rename_i vs hb;rw[fO]at hq;have hy:yielded ops a.tmps j=none:=by
   have hq':ops[j]? = some q:=(by simpa using hq);simp[yielded,hq',ht,(he t _ hb).1,tr]
  exact⟨_,he,.inr ⟨by simp[hy],hl⟩⟩
 rename_i b hb;rw[fO]at hq;have hy:yielded ops a.tmps j=some b:=by
  have hq':ops[j]? = some q:=(by simpa using hq);simp[yielded,hq',ht,(he t _ hb).1,uV]
 simp only[hy];rcases rA hl with⟨hbw,hk⟩|⟨hbw,hk⟩
 ·simp only[aF,beq_iff_eq]at hbw;subst hbw;exact⟨_,he.same hb,.inl ⟨by simp,hk⟩⟩
 simp only[aF,beq_eq_false_iff_ne,ne_eq]at hbw;have:b=!want:=(by cases b <;> cases want <;> simp_all);subst this;exact⟨_,he.same hb,.inr ⟨by simp,hk⟩⟩
theorem semAt_eq {o:Oper}(hd:∀ c,o.op≠.defer c)(r:Option Nat)(ρ:Operand->Value):o.semAt r ρ=execOp ρ o:=by
 cases r with
 |none=>exact Oper.semAt_none _ _
 |some l=>exact Oper.semAt_some l ρ o hd
def aDv (P:Program)(ι:Nat->Loc)(B nx:Nat)(w:World)(m:Sem Next)(K:KE):Prop :=
 (∃ v h' nx' ι' w',K v h' nx'/\fU ι' nx' v/\aY ι' B h' nx' w'/\jO B w w'/\(∀ k,k<nx->ι' k=ι k)/\nx<=nx'/\m.run P w=.ok (.value (tr ι' v)) w') \/
 (∃ h' w',K undef h' nx/\aY ι B h' nx w'/\jO B w w'/\m.run P w=.ok .skip w') \/
 (∃ f args,m.run P w=.ok (.enter f args) w/\CallsIn Fence.wide 0 P f args w (Ret B w ι nx K)) \/
 (∃ l f tmps as bd,m.run P w=.ok (.round l f tmps as bd) w/\RoundIn Fence.wide 0 P l f tmps as bd w (Ret B w ι nx K))
theorem aDv.upon {ι:Nat->Loc}{B nx:Nat}{w:World}{o:Oper}{a a':Act}{K:KE}(hr:aDv P ι B nx w (execOp a.eval o) K)(hd:∀ c,o.op≠.defer c)(he:execOp a'.eval o=execOp a.eval o)
  (r:Option Nat) (next:Act->World->Prop) (Q:Exit->Act->World->Prop)
  (hn:∀ v h' nx' ι' w',K v h' nx'->fU ι' nx' v->aY ι' B h' nx' w'->jO B w w'->(∀ k,k<nx->ι' k=ι k)->nx<=nx'->next (a'.put o.dst (tr ι' v)) w') :
  o.wpIn (Fr r) 0 P a' w next Q:=by
 refine⟨fun _ _=>trivial,?_⟩;rw[semAt_eq hd,he];rcases hr with⟨v,h',nx',ι',w',h1,h2,h3,h4,h5,h6,h7⟩|⟨h',w',h1,h3,h4,h7⟩|⟨f,args,hrun,hcalls⟩|⟨l,f,tmps,as,bd,hrun,hround⟩
 ·rw[h7];exact hn v h' nx' ι' w' h1 h2 h3 h4 h5 h6
 ·rw[h7];have:=hn undef h' nx ι w' h1 (c9 rfl) h3 h4 (fun _ _=>rfl) (ah _)
  rwa [iU (show gT undef=true from rfl)]at this
 ·rw[hrun];refine⟨fun hdep=>absurd hdep (by simp[Fr,Fence.wide]),?_⟩;refine CallsIn.mono (F:=Fence.wide) hcalls fun e w' hret=>?_;cases e with
  |returned u =>
   obtain⟨v,h',nx',ι',k1,k2,k3,k4,k5,k6,rfl⟩:=hret;exact hn v h' nx' ι' w' k1 k2 k3 k4 k5 k6
  |panicked c=>exact hret.elim
  |outgrown=>exact hret.elim
 rw[hrun];refine⟨fun hdep=>absurd hdep (by simp[Fr,Fence.wide]),?_⟩;refine RoundIn.mono (F:=Fence.wide) hround fun e w' hret=>?_;cases e with
 |returned u =>
  obtain⟨v,h',nx',ι',k1,k2,k3,k4,k5,k6,rfl⟩:=hret;exact hn v h' nx' ι' w' k1 k2 k3 k4 k5 k6
 |panicked c=>exact hret.elim
 |outgrown=>exact hret.elim
theorem upon_value {ι:Nat->Loc}{B nx:Nat}{w:World}{o:Oper}{a:Act}{K:KE}
 (h:∃ v h' nx' ι' w',K v h' nx'/\fU ι' nx' v/\aY ι' B h' nx' w'/\jO B w w'/\(∀ k,k<nx->ι' k=ι k)/\nx<=nx'/\(execOp a.eval o).run P w=.ok (.value (tr ι' v)) w'):aDv P ι B nx w (execOp a.eval o) K:=.inl h
theorem upon_skip {ι:Nat->Loc}{B nx:Nat}{w:World}{o:Oper}{a:Act}{K:KE}
 (h:∃ h' w',K undef h' nx/\aY ι B h' nx w'/\jO B w w'/\(execOp a.eval o).run P w=.ok .skip w'):aDv P ι B nx w (execOp a.eval o) K:=.inr (.inl h)
theorem nX {ι:Nat->Loc}{n:Nat}{env:List (Nat × Value)}{a:Act}(he:dV ι n env a){x:Option Operand}{v:Option Value}(h:nM env x=some v):x.map a.eval=v.map (tr ι):=by
 cases x with
 |none=>simp[nM]at h;subst h;rfl
 |some x =>
  simp only[nM]at h;split at h
  ·rename_i u hu;injection h with h;subst h;simp[(he.dZ hu).1]
  ·cases h
theorem lY {ι:Nat->Loc}{B nx:Nat}{w:World}{m:Sem Value}{K:KE}(h:PV P ι B nx w m K) :
  ∃ v h' nx' ι' w',K v h' nx'/\fU ι' nx' v/\aY ι' B h' nx' w'/\jO B w w'/\(∀ k,k<nx->ι' k=ι k)/\nx<=nx'/\(do pure (.value (<- m)):Sem Next).run P w=.ok (.value (tr ι' v)) w':=by
 obtain⟨v,h',nx',ι',w',h1,h2,h3,h4,h5,h6,h7⟩:=h;exact⟨v,h',nx',ι',w',h1,h2,h3,h4,h5,h6,by simp only[Sem.run_bind,h7,Result.andThen_ok,Sem.run_pure]⟩
theorem A9 (hT:dJ P T){ι:Nat->Loc}{B nx:Nat}{w:World}{h:Heap}{env:List (Nat × Value)}{a:Act}(he:dV ι nx env a)(H:aY ι B h nx w){o:Oper}{K:KE}
  (hl:kU aF T env h o.op (fun v=>K v h nx)):aDv P ι B nx w (execOp a.eval o) K:=by
 obtain⟨v,h1,h2,h3⟩:=KM hT he hl H;exact upon_value ⟨v,h,nx,ι,w,h1,h2,H,jO.refl _ _,fun _ _=>rfl,ah _,h3 w H⟩
theorem kH:∀{l:List Value},sG l=true->∀ v∈l,∃ p,v=.pointer (some p)
 |[],_,v,hv=>by cases hv
 |x::r,h,v,hv=>by
  unfold sG at h;split at h
  ·rename_i heq;cases heq
  ·rename_i p r' heq;injection heq with e1 e2;subst e1;subst e2;rcases List.mem_cons.1 hv with rfl|hv
   ·exact⟨_,rfl⟩
   exact kH h v hv
  ·cases h
theorem GY {env:List (Nat × Value)}{h:Heap}{nx:Nat}{op:Op}{K:KE}(hl:tD aF T C Y env h nx op K):∀ c,op≠.defer c:=by
 rintro c rfl;exact hl.elim
theorem WX (hT:dJ P T)(hC:bN P C)(hY:fZ P Y){ι:Nat->Loc}{B nx:Nat}{w:World}{h:Heap}{env:List (Nat × Value)}{a:Act}(he:dV ι nx env a)(H:aY ι B h nx w){o:Oper}{K:KE}
  (hl:tD aF T C Y env h nx o.op K):aDv P ι B nx w (execOp a.eval o) K:=by
 have hl':=hl;obtain⟨dst,op,ty,pos,after,guard⟩:=o;simp only at hl;cases op
 case store t x y =>
  simp only[tD]at hl;obtain⟨p,hp,hl⟩:=dR hl;obtain⟨v,hv,hl⟩:=dR hl;obtain⟨e1,e2⟩:=he.dZ hp;obtain⟨e3,e4⟩:=he.dZ hv;obtain⟨h',w',h1,h2,h3,h4⟩:=aCs (P:=P) hT hl e4 H;exact upon_skip ⟨h',w',h1,h2,h3,by simp only[execOp,e1,e3,Sem.run_bind,h4,Result.andThen_ok,Sem.run_pure]⟩
 case alloc t =>
  simp only[tD]at hl;exact upon_value (lY (aCJ hT hl H))
 case box t x =>
  simp only[tD]at hl;obtain⟨v,hv,hl⟩:=dR hl;obtain⟨e3,e4⟩:=he.dZ hv;have:=lY (aJi (P:=P) (t:=t) hl e4 H);rw[<- e3]at this;exact upon_value this
 case buildSlice t n ps =>
  simp only[tD]at hl;split at hl
  case h_2=>exact hl.elim
  rename_i l hps;obtain⟨e1,e2⟩:=uZ he hps;have:=lY (J0 (P:=P) hT hl e2 H);have e3:(ps.map fun p=>(p.1,a.eval p.2))=(l.map fun p=>(p.1,tr ι p.2)).toArray:=by
   apply Array.ext';simpa using e1
  rw[<- e3]at this;exact upon_value this
 case slice t x lo hi mx =>
  simp only[tD]at hl;obtain⟨v,hv,hl⟩:=dR hl;obtain⟨e3,e4⟩:=he.dZ hv;split at hl
  case h_2=>exact hl.elim
  rename_i l u m h1 h2 h3;obtain⟨v',h',nx',ι',k1,k2,k3,k4,k5⟩:=N9 hT hl e4 H;obtain⟨k6,k7⟩:=k5 w H;rw[<- nX he h1,<- nX he h2,<- nX he h3,<- e3]at k7;refine upon_value ⟨v',h',nx',ι',w,k1,k2,k6,jO.refl _ _,k3,k4,?_⟩;simp only[execOp,Sem.run_bind,k7,Result.andThen_ok,Sem.run_pure]
 case makeSlice t l c =>
  simp only[tD]at hl;obtain⟨x,hx,hl⟩:=dR hl;obtain⟨y,hy,hl⟩:=dR hl;obtain⟨e1,e2⟩:=he.dZ hx;obtain⟨e3,e4⟩:=he.dZ hy;have:=lY (NM (P:=P) hT hl H);rw[<- e1,<- e3]at this;exact upon_value this
 case makeMap t r =>
  cases r with
  |none =>
   simp only[tD]at hl;exact upon_value (lY (UM hl H))
  |some r=>simp only[tD]at hl;exact A9 (h:=h) hT he H (o:=⟨dst,_,ty,pos,after,guard⟩) hl
 case lookup t m k ok =>
  simp only[tD]at hl;obtain⟨x,hx,hl⟩:=dR hl;obtain⟨y,hy,hl⟩:=dR hl;obtain⟨e1,e2⟩:=he.dZ hx;obtain⟨e3,e4⟩:=he.dZ hy;obtain⟨v,h1,h2,h3⟩:=KI (P:=P) hT hl e2 H;have:=h3 w H;rw[<- e1,<- e3]at this;exact upon_value ⟨v,h,nx,ι,w,h1,h2,H,jO.refl _ _,fun _ _=>rfl,ah _,by simp only[execOp,Sem.run_bind,this,Result.andThen_ok,Sem.run_pure]⟩
 case mapUpdate t m k u =>
  simp only[tD]at hl;obtain⟨x,hx,hl⟩:=dR hl;obtain⟨y,hy,hl⟩:=dR hl;obtain⟨v,hv,hl⟩:=dR hl;obtain⟨e1,e2⟩:=he.dZ hx;obtain⟨e3,e4⟩:=he.dZ hy;obtain⟨e5,e6⟩:=he.dZ hv;obtain⟨h',w',h1,h2,h3,h4⟩:=N5 (P:=P) hT hl e2 e6 H;rw[<- e1,<- e3,<- e5]at h4;exact upon_skip ⟨h',w',h1,h2,h3,by simp only[execOp,Sem.run_bind,h4,Result.andThen_ok,Sem.run_pure]⟩
 case call c =>
  obtain⟨cal,args,ats⟩:=c;simp only[tD]at hl;cases cal with
  |invoke r m=>exact hl.elim
  |builtin b =>
   by_cases hb1:b=.append
   ·subst hb1;simp only at hl;split at hl
    case h_2=>exact hl.elim
    rename_i st xt s x hts hvs;obtain⟨e1,e2⟩:=nY he hvs;have:=lY (ZO (P:=P) (ty:=ty) hT hl (e2 s (by simp)) (e2 x (by simp)) H);obtain⟨ats⟩:=ats;simp only at hts;subst hts;have e3:args.map a.eval=#[tr ι s,tr ι x]:=by
     apply Array.ext';simpa using e1
    rw[<- e3]at this;exact upon_value this
   by_cases hb2:b=.clear
   ·subst hb2;simp only at hl;split at hl
    case h_2=>exact hl.elim
    rename_i t x hts hvs;obtain⟨e1,e2⟩:=nY he hvs;have:=lY (aCL (P:=P) (ty:=ty) hT hl (e2 x (by simp)) H);obtain⟨ats⟩:=ats;simp only at hts;subst hts;have e3:args.map a.eval=#[tr ι x]:=by
     apply Array.ext';simpa using e1
    rw[<- e3]at this;exact upon_value this
   have hl2:kU aF T env h (.call { callee:=.builtin b,args:=args,argTypes:=ats }) (fun v=>K v h nx):=by
    cases b <;> first|exact hl|exact absurd rfl hb1|exact absurd rfl hb2
   exact A9 hT he H (o:=⟨dst,_,ty,pos,after,guard⟩) hl2
  |value f =>
   simp only at hl;obtain⟨fv,hfv,hl⟩:=dR hl;obtain⟨e1,e2⟩:=he.dZ hfv;split at hl
   case h_2=>exact hl.elim
   rename_i l hvs;obtain⟨e3,e4⟩:=nY he hvs;have hargs:args.map a.eval=(l.map (tr ι)).toArray:=by
    apply Array.ext';simpa using e3
   split at hl
   ·rename_i g first cap;split at hl
    case h_2=>exact hl.elim
    rename_i hfirst hcap;obtain⟨first⟩:=first;simp only at hfirst;subst hfirst;obtain⟨⟨fn,hfn,hbody,hname⟩,hcalls⟩:=hC g _ h nx K hl ι B w H (by
     intro v hv;rcases List.mem_append.1 hv with hv|hv
     ·exact e4 v hv
     have:=kH hcap v hv;obtain⟨p,rfl⟩:=this;exact e2.2 _ hv)
    have hcapm:cap.map (eM ι)=(cap.toList.map (tr ι)).toArray:=by
     apply Array.ext';simp only[Array.toList_map];apply List.map_congr_left;intro v hv;obtain⟨p,rfl⟩:=kH hcap v hv;rfl
    have hrun:(execOp a.eval ⟨dst,.call ⟨.value f,args,ats⟩,ty,pos,after,guard⟩).run P w=.ok (.enter g ((l++cap.toList).map (tr ι)).toArray) w:=by
     obtain⟨bdy,hb'⟩:=Option.isSome_iff_exists.1 hbody;have hname' : fn.name ≠ "runtime.NumGoroutine" := (by simpa using hname);simp [execOp,resolve,e1,tr,eK,cF,nB,Deferred.ofValue,invoke,callFunc,hfn,hname',hb',hargs,hcapm]
    exact .inr (.inr (.inl ⟨_,_,hrun,hcalls⟩))
   ·rename_i q first cap;split at hl
    case h_2=>exact hl.elim
    rename_i hfirst;obtain⟨first⟩:=first;simp only at hfirst;subst hfirst;have hq:q<nx/\(ι q).jD=true:=e2.1;cases hι:ι q with
    |nil p=>rw[hι]at hq;cases hq.2
    |lay b o ex =>
     obtain⟨f',tmps,as,bd,hy,hround⟩:=hY q l h nx K hl ι B w H e4 b o ex hι;have hrun:(execOp a.eval ⟨dst,.call ⟨.value f,args,ats⟩,ty,pos,after,guard⟩).run P w=.ok (.round b f' tmps as bd) w:=by
      simp[execOp,resolve,e1,tr,eK,cF,nB,hι,Deferred.ofValue,invoke,hargs,hy]
     exact .inr (.inr (.inr ⟨_,_,_,_,_,hrun,hround⟩))
   exact hl.elim
 all_goals(simp only[tD]at hl;exact A9 hT he H (o:=⟨dst,_,ty,pos,after,guard⟩) hl)
end
section
variable {P:Program}{T:dN}{C:VC}{Y:VY}{B:Nat}{w0:World}{ι0:Nat->Loc}{nx0 tn:Nat}{ds:List Deferred}
theorem Inv.step {ι ι':Nat->Loc}{env env':List (Nat × Value)}{h h':Heap}{nx nx':Nat}{a a':Act}{w w':World}(I:Inv B w0 ι0 nx0 tn ds ι env h nx a w)(he:dV ι' nx' env' a')(H:aY ι' B h' nx' w')(hb:jO B w w')
  (hi:∀ k,k<nx->ι' k=ι k) (hn:nx<=nx') (hs:a'.tmps.size=tn) (hd:a'.defers=a.defers):Inv B w0 ι0 nx0 tn ds ι' env' h' nx' a' w' :=
 ⟨he,H,I.below.trans hb,fun k hk=>(hi k (Nat.lt_of_lt_of_le hk I.le)).trans (I.old k hk),Nat.le_trans I.le hn,hs,hd.trans I.defers⟩
theorem RF (hT:dJ P T)(hC:bN P C)(hY:fZ P Y)(r:Option Nat){ops:Array Oper}{Q:Exit->Act->World->Prop}{K:KS}:∀(l:List Oper) (ι:Nat->Loc) (env:List (Nat × Value)) (h:Heap) (nx:Nat) (a:Act) (w:World),
  CF aF T C Y tn ops.toList l env h nx K->Inv B w0 ι0 nx0 tn ds ι env h nx a w ->
  (∀ ι' env' h' nx' a' w',K env' h' nx'->Inv B w0 ι0 nx0 tn ds ι' env' h' nx' a' w'->Q .normal a' w')->wpListIn (Fr r) 0 P ops Q l a w
 |[],ι,env,h,nx,a,w,hl,I,hQ=>hQ ι env h nx a w hl I
 |o::rest,ι,env,h,nx,a,w,hl,I,hQ=>by
  simp only[OJ]at hl;obtain⟨env1,he1,hcase⟩:=yT I.env hl;simp only[wpListIn];rcases hcase with⟨hw,hl⟩|⟨hw,hl⟩
  ·rw[if_pos hw];refine(WX hT hC hY he1 I.heap hl).upon (GY hl) rfl r _ _ fun v h' nx' ι' w' k1 k2 k3 k4 k5 k6=>?_;obtain⟨env2,k7,k8,k9,k10⟩:=rV (he1.names k6 k5) I.size k1 k2;exact RF hT hC hY r rest ι' env2 h' nx' _ w' k7 (I.step k8 k3 k4 k5 k6 k9 k10) hQ
  rw[hw];refine⟨fun _ _=>trivial,?_⟩;obtain⟨env2,k7,k8,k9,k10⟩:=rV he1 I.size hl (v:=undef) (c9 rfl);rw[iU (show gT undef=true from rfl)]at k8 k9 k10;exact RF hT hC hY r rest ι env2 h nx _ w k7 (I.step k8 I.heap (jO.refl _ _) (fun _ _=>rfl) (ah _) k9 k10) hQ
end
def bV.closed:bV->bV
 |.cells _ g sz cs=>.cells false g sz cs
 |.zero=>.zero
 |_=>av 1 []
def iH:Heap->Heap
 |[]=>[]
 |(k,o)::r=>(k,o.closed)::iH r
theorem nZ (h:Heap)(k:Nat):aw (iH h) k=(aw h k).map bV.closed:=by
 induction h with
 |nil=>rfl
 |cons x r ih =>
  obtain⟨j,o⟩:=x;simp only[iH,aD];split
  ·rfl
  exact ih
def fG (C:VC):Prop:=∀ f args h nx K,C f args h nx K->∃ v h' nx',K v h' nx'/\∀ K':KE,K' v h' nx'->C f args h nx K'
def j9 (A:Ar)(T:dN)(C:VC)(hJ:Heap)(nx:Nat)(env:List (Nat × Value))(op:Op)(K:Value->Nat->Prop):Prop :=
 match op with
 |.load _ _=>kU A T env hJ op (fun v=>K v nx)
 |.lookup t m k ok=>on (dZ env m) fun x=>on (dZ env k) fun y=>r6 A T hJ t x y ok (fun v=>K v nx)
 |.slice t x lo hi mx=>on (dZ env x) fun v=>(match nM env lo,nM env hi,nM env mx with
  |some l,some u,some m=>xO A T hJ nx t v l u m (fun v _ nx'=>K v nx')
  |_,_,_=>False)
 |.call c=>(match c.callee with
  |.builtin _=>kU A T env [] op (fun v=>K v nx)
  |.value f=>on (dZ env f) fun fv=>(match nJ env c.args.toList with
   |some l=>(match fv with
    |.func (.func g) first cap=>(match first.toList,sG cap.toList with
     |[],true=>C g (l++cap.toList) (iH hJ) nx (fun v _ _=>match gT v with|true=>K v nx|false=>False)
     |_,_=>False)
    |_=>False)
   |none=>False)
  |_=>False)
 |_=>kU A T env [] op (fun v=>K v nx)
def nS:Op->Bool
 |.load _ _=>false
 |.lookup _ _ _ _=>false
 |.slice _ _ _ _ _=>false
 |.call c=>(match c.callee with|.builtin _=>true|_=>false)
 |_=>true
def pZ:Op->Bool
 |.lookup _ _ _ _=>true
 |.call c=>(match c.callee with|.builtin _=>false|_=>true)
 |_=>false
section
variable {P:Program}{T:dN}{C:VC}{Y:VY}{ι:Nat->Loc}{B nx:Nat}
theorem aY.shut {h:Heap}{w:World}(H:aY ι B h nx w):aY ι w.heap.size (iH h) nx w:=by
 have key:∀ k o',aw (iH h) k=some o'->∃ o,aw h k=some o/\o'=o.closed:=fun k o' hk=>by
  rw[nZ]at hk;cases hl:aw h k with
  |none=>rw[hl]at hk;cases hk
  |some o=>rw[hl]at hk;injection hk with hk;exact⟨o,rfl,hk.symm⟩
 refine⟨fun k o' hk=>?_,fun k k' o o' h1 h2 hne ha=>?_,fun k o' hk=>?_,ah _,fun k o' hk=>?_⟩
 ·obtain⟨o,hk',rfl⟩:=key k o' hk;have ho:=H.obj k o hk';cases hι:ι k with
  |nil p =>
   rw[hι]at ho;cases o with
   |cells wr g sz cs=>exact⟨ho.1,fun h=>ho.2 (h.elim .inl (fun h=>by cases h))⟩
   |zero=>exact ho
   |_=>exact ho.elim
  |lay b off e =>
   have hb:=ho.lt (b:=b) (by rw[hι];rfl);rw[hι]at ho;cases o with
   |cells wr g sz cs =>
    cases wr with
    |false=>exact ho
    |true =>
     obtain⟨_,hg,arr,t,h1,h2,h3⟩:=ho;exact⟨hb,hg,fun i v hv=>by simp[World.cell?,h1,h3 i v hv]⟩
   |zero=>exact ho
   |_=>exact⟨hb,(fun h=>(by cases h)),(fun i v hv=>(by simp at hv))⟩
 ·obtain⟨o1,h1,rfl⟩:=key k o h1;cases o1 <;> cases ha
 ·obtain⟨o,hk',rfl⟩:=key k o' hk;exact H.low k o hk'
 obtain⟨o,hk',rfl⟩:=key k o' hk;have:=H.sc k o hk';cases o with
 |cells wr g sz cs=>exact this
 |zero=>trivial
 |_=>intro v hv;cases hv
def aIn (P:Program)(m:Sem Next)(w:World)(u:Value):Prop :=
 m.run P w=.ok (.value u) w\/∃ f args,m.run P w=.ok (.enter f args) w/\CallsIn Fence.wide 0 P f args w fun e w'=>e=.returned u/\jO w.heap.size w w'
theorem aY.none {w:World}(h:B<=w.heap.size):aY ι B [] nx w :=
 ⟨fun k o hk=>(by cases hk),fun k k' o o' hk=>(by cases hk),fun k o hk=>(by cases hk),h,fun k o hk=>(by cases hk)⟩
def o5 (op:Op)(hJ:Heap):Heap:=match nS op with|true=>[]|false=>hJ
theorem aCe (hT:dJ P T)(hC:bN P C)(hD:fG C){hJ:Heap}{env:List (Nat × Value)}{a:Act}(he:dV ι nx env a){w0:World}(H0:aY ι B hJ nx w0){o:Oper}{K:Value->Nat->Prop}
  (hl:j9 aF T C hJ nx env o.op K) :
  ∃ v nx' ι',K v nx'/\fU ι' nx' v/\(∀ k,k<nx->ι' k=ι k)/\nx<=nx'/\∀ w,aY ι B (o5 o.op hJ) nx w->(pZ o.op=true->jO w0.heap.size w0 w)->aIn P (execOp a.eval o) w (tr ι' v):=by
 obtain⟨dst,op,ty,pos,after,guard⟩:=o;simp only at hl;have hpure:∀ K:Value->Nat->Prop,nS op=true->kU aF T env [] op (fun v=>K v nx)->∃ v nx' ι',K v nx'/\fU ι' nx' v/\(∀ k,k<nx->ι' k=ι k)/\nx<=nx'/\∀ w,aY ι B (o5 op hJ) nx w->(pZ op=true->jO w0.heap.size w0 w)->aIn P (execOp a.eval ⟨dst,op,ty,pos,after,guard⟩) w (tr ι' v):=by
  intro K hp hl;obtain⟨v,h1,h2,h3⟩:=KM (P:=P) (h:=[]) (B:=B) (w0:=w0) hT he (o:=⟨dst,op,ty,pos,after,guard⟩) hl (aY.none H0.size);refine⟨v,nx,ι,h1,h2,fun _ _=>rfl,ah _,fun w H _=>.inl (h3 w ?_)⟩;simpa[o5,hp]using H
 cases op
 case load t x =>
  simp only[j9]at hl;obtain⟨v,h1,h2,h3⟩:=KM (P:=P) hT he (o:=⟨dst,_,ty,pos,after,guard⟩) hl H0;exact⟨v,nx,ι,h1,h2,fun _ _=>rfl,ah _,fun w H _=>.inl (h3 w (by simpa[o5,nS]using H))⟩
 case lookup t m k ok =>
  simp only[j9]at hl;obtain⟨x,hx,hl⟩:=dR hl;obtain⟨y,hy,hl⟩:=dR hl;obtain⟨e1,e2⟩:=he.dZ hx;obtain⟨e3,e4⟩:=he.dZ hy;obtain⟨v,h1,h2,h3⟩:=KI (P:=P) hT hl e2 H0;refine⟨v,nx,ι,h1,h2,fun _ _=>rfl,ah _,fun w H _=>.inl ?_⟩;have:=h3 w (by simpa[o5,nS]using H);rw[<- e1,<- e3]at this;simp only[execOp,Sem.run_bind,this,Result.andThen_ok,Sem.run_pure]
 case slice t x lo hi mx =>
  simp only[j9]at hl;obtain⟨v,hv,hl⟩:=dR hl;obtain⟨e3,e4⟩:=he.dZ hv;split at hl
  case h_2=>exact hl.elim
  rename_i l u m h1 h2 h3;obtain⟨v',h',nx',ι',k1,k2,k3,k4,k5⟩:=N9 hT hl e4 H0;refine⟨v',nx',ι',k1,k2,k3,k4,fun w H hb=>.inl ?_⟩;obtain⟨k6,k7⟩:=k5 w (by simpa[o5,nS]using H);rw[<- nX he h1,<- nX he h2,<- nX he h3,<- e3]at k7;simp only[execOp,Sem.run_bind,k7,Result.andThen_ok,Sem.run_pure]
 case call c =>
  obtain⟨cal,args,ats⟩:=c;simp only[j9]at hl;cases cal with
  |invoke r m=>exact hl.elim
  |builtin b=>exact hpure K rfl hl
  |value f =>
   simp only at hl;obtain⟨fv,hfv,hl⟩:=dR hl;obtain⟨e1,e2⟩:=he.dZ hfv;split at hl
   case h_2=>exact hl.elim
   rename_i l hvs;obtain⟨e3,e4⟩:=nY he hvs;have hargs:args.map a.eval=(l.map (tr ι)).toArray:=by
    apply Array.ext';simpa using e3
   split at hl
   case h_2=>exact hl.elim
   rename_i g first cap;split at hl
   case h_2=>exact hl.elim
   rename_i hfirst hcap;obtain⟨first⟩:=first;simp only at hfirst;subst hfirst;obtain⟨v,h',nx',k1,k2⟩:=hD _ _ _ _ _ hl;split at k1
   case h_2=>exact k1.elim
   rename_i hg;refine⟨v,nx,ι,k1,c9 hg,fun _ _=>rfl,ah _,fun w H _=>.inr ?_⟩;have H:aY ι B hJ nx w:=(by simpa[o5,nS]using H);have hl':=k2 (fun v' _ _=>v'=v) rfl;obtain⟨⟨fn,hfn,hbody,hname⟩,hcalls⟩:=hC g _ _ nx _ hl' ι w.heap.size w H.shut (by
    intro v hv;rcases List.mem_append.1 hv with hv|hv
    ·exact e4 v hv
    obtain⟨p,rfl⟩:=kH hcap v hv;exact e2.2 _ hv)
   have hcapm:cap.map (eM ι)=(cap.toList.map (tr ι)).toArray:=by
    apply Array.ext';simp only[Array.toList_map];apply List.map_congr_left;intro v hv;obtain⟨p,rfl⟩:=kH hcap v hv;rfl
   refine⟨g,((l++cap.toList).map (tr ι)).toArray,?_,?_⟩
   ·obtain⟨bdy,hb'⟩:=Option.isSome_iff_exists.1 hbody;have hname' : fn.name ≠ "runtime.NumGoroutine" := (by simpa using hname);simp [execOp,resolve,e1,tr,eK,cF,nB,Deferred.ofValue,invoke,callFunc,hfn,hname',hb',hargs,hcapm]
   refine CallsIn.mono hcalls fun e w' hret=>?_;cases e with
   |returned u =>
    obtain⟨v',h'',nx'',ι',rfl,k2,k3,k4,k5,k6,rfl⟩:=hret;exact⟨by rw[iU hg,iU hg],k4⟩
   |panicked c=>exact hret.elim
   |outgrown=>exact hret.elim
 all_goals exact hpure K rfl hl
end
structure gQ where
 head:List Nat
 allocs:List Nat
 tail:List (Nat × Bool)
 FX:List Nat
def s9 (n:Nat):List Nat->Bool
 |[]=>false
 |x::r=>match Nat.beq x n with|true=>true|false=>s9 n r
theorem eT {n:Nat}{l:List Nat}:s9 n l=true↔n∈l:=by
 induction l with
 |nil=>simp[s9]
 |cons x r ih =>
  simp only[s9];split
  ·rename_i h;simp[(az h).symm]
  rename_i h;have:=ba h;simp only[ih,List.mem_cons];exact⟨.inr,fun h=>h.resolve_left (fun e=>this e.symm)⟩
def XL:List Nat->List Nat->Bool
 |[],_=>true
 |x::r,l=>match s9 x l with|true=>XL r l|false=>false
theorem yR {a l:List Nat}(h:XL a l=true):∀ x∈a,x∈l:=by
 induction a with
 |nil=>simp
 |cons x r ih =>
  simp only[XL]at h;split at h
  ·rename_i hx;intro y hy;rcases List.mem_cons.1 hy with rfl|hy
   ·exact eT.1 hx
   exact ih h y hy
  ·cases h
def Q8:List Nat->Bool
 |[]=>true
 |x::r=>match s9 x r with|true=>false|false=>Q8 r
theorem T8 {l:List Nat}(h:Q8 l=true):l.Nodup:=by
 induction l with
 |nil=>simp
 |cons x r ih =>
  simp only[Q8]at h;split at h
  ·cases h
  rename_i hx;rw[List.nodup_cons];exact⟨fun hm=>(by rw[eT.2 hm]at hx;cases hx),ih h⟩
def oB (o:Oper):List Nat:=o.after.toList.filterMap fun e=>match Region.binds .any e with|true=>some e.on|false=>none
def dC (ops:List Oper)(i:Nat):List Nat:=match hH ops i with|some o=>oB o|none=>[]
def cZ (ops:List Oper)(i:Nat):Option Nat:=match hH ops i with|some o=>o.dst|none=>none
def s8 (ops:Array Oper)(i:Nat):List Nat:=match hH ops.toList i with|some o=>o.looksAt ops|none=>[]
def clo (ops:List Oper):Nat->List Nat->List Nat
 |0,acc=>acc
 |j+1,acc=>clo ops j (match s9 j acc with|true=>dC ops j++acc|false=>acc)
def sI (ops:List Oper)(t:Nat):List Nat:=clo ops t (dC ops t)
theorem aAq {ops:List Oper}{L:Nat->Prop}(cl:∀ i,L i->∀ j∈dC ops i,L j):∀(j:Nat) (acc:List Nat),(∀ x∈acc,L x)->∀ x∈clo ops j acc,L x
 |0,acc,h,x,hx=>h x hx
 |j+1,acc,h,x,hx=>by
  refine aAq cl j _ (fun y hy=>?_) x hx;split at hy
  ·rename_i hm;rcases List.mem_append.1 hy with hy|hy
   ·exact cl j (h j (eT.1 hm)) y hy
   exact h y hy
  exact h y hy
theorem qC {ops:List Oper}{L:Nat->Prop}(cl:∀ i,L i->∀ j∈dC ops i,L j){t:Nat}(h:∀ j∈dC ops t,L j):∀ j∈sI ops t,L j:=aAq cl t _ h
def J6 (ops:List Oper):List Nat->List Nat->Bool
 |_,[]=>true
 |seen,i::r=>match XL (dC ops i) seen with|true=>J6 ops (i::seen) r|false=>false
def oJ (f:Op->Bool)(ops:List Oper)(i:Nat):Bool:=match hH ops i with|some o=>f o.op|none=>false
def vE (ops:List Oper)(loads:List Nat):Option Nat->List Nat->List (Nat × Bool)->Bool
 |_,_,[]=>true
 |last,got,(t,chk)::r =>
  (match last with | none=>true | some l=>s9 l (sI ops t))&&(chk || XL loads (sI ops t++got))&&vE ops loads (some t) (sI ops t++got) r
def P6 (o:Oper):Bool:=match o with|{ op:=.alloc _,guard:=none,dst:=some _,.. }=>true|_=>false
def vH:Op->Bool
 |.select _ _=>false
 |.defer _=>false
 |_=>true
def gQ.order (p:gQ):List Nat:=p.head++p.allocs++p.tail.map (·.1)
def W0 (ops:Array Oper)(p:gQ):Bool :=
 let l:=ops.toList;let n:=List.range ops.size
 Q8 p.order&&n.all (fun i=>s9 i p.order)&&p.order.all (fun i=>Nat.blt i ops.size)&&J6 l [] p.head &&
 n.all (fun i=>(dC l i).all fun j=>Nat.blt j i) &&
 n.all (fun i=>n.all fun j=>Nat.beq i j || (match cZ l i,cZ l j with | some d,some e=>!Nat.beq d e | _,_=>true)) &&
 (p.head++p.allocs).all (fun i=>n.all fun j=>Nat.beq j i || (match cZ l i with | some d=>!s9 d (s8 ops j) || s9 i (dC l j) | none=>true)) &&
 p.tail.all (fun t=>p.head.all fun j=>match cZ l t.1 with | some d=>!s9 d (s8 ops j) || s9 j (dC l t.1) | none=>true) &&
 n.all (fun i=>oJ vH l i) &&
 p.allocs.all (fun i=>match hH l i with|some o=>P6 o|none=>false) &&
 (match p.tail with
  |[]=>p.allocs.isEmpty
  |(t,_)::_=>XL p.allocs (sI l t)&&XL (p.head.filter (oJ pZ l)) (sI l t)) &&
 vE l (p.head.filter (fun i=>!oJ nS l i)) none [] p.tail
structure oV (ops:Array Oper) (p:gQ):Prop where
 nodup:p.order.Nodup
 cover:∀ i,i<ops.size->i∈p.order
 SQ:∀ i∈p.order,i<ops.size
 headP:J6 ops.toList [] p.head=true
 lin:∀ i,i<ops.size->∀ j∈dC ops.toList i,j<i
 dsts:∀ i j d,i<ops.size->j<ops.size->cZ ops.toList i=some d->cZ ops.toList j=some d->i=j
 look1:∀ i,i∈p.head\/i∈p.allocs->∀ j,j<ops.size->j≠i->∀ d,cZ ops.toList i=some d->d∈s8 ops j->i∈dC ops.toList j
 look2:∀ t c,(t,c)∈p.tail->∀ j∈p.head,∀ d,cZ ops.toList t=some d->d∈s8 ops j->j∈dC ops.toList t
 plain:∀ i,i<ops.size->oJ vH ops.toList i=true
 allocs:∀ i∈p.allocs,∃ o,ops[i]? = some o/\P6 o=true
 noTail:p.tail=[]->p.allocs=[]
 first:∀ t c r,p.tail=(t,c)::r->(∀ i∈p.allocs,i∈sI ops.toList t)/\(∀ i∈p.head,oJ pZ ops.toList i=true->i∈sI ops.toList t)
 tailP:vE ops.toList (p.head.filter (fun i=>!oJ nS ops.toList i)) none [] p.tail=true
theorem uO {a b:Nat}(h:Nat.blt a b=true):a<b:=Nat.le_of_ble_eq_true h
theorem TB {ops:Array Oper}{p:gQ}(h:W0 ops p=true):oV ops p:=by
 unfold W0 at h;simp only[af]at h;obtain⟨⟨⟨⟨⟨⟨⟨⟨⟨⟨⟨h1,h2⟩,h3⟩,h4⟩,h5⟩,h6⟩,h7⟩,h8⟩,h9⟩,h10⟩,h11⟩,h12⟩:=h;simp only[List.all_eq_true,List.mem_range]at h2 h3 h5 h6 h7 h8 h9 h10;refine⟨T8 h1,fun i hi=>eT.1 (h2 i hi),fun i hi=>uO (h3 i hi),h4,fun i hi j hj=>uO (h5 i hi j hj),?_,?_,?_,h9,?_,?_,?_,h12⟩
 ·intro i j d hi hj h1 h2;have:=h6 i hi j hj;rw[h1,h2]at this;simp only[Bool.or_eq_true,Bool.not_eq_true']at this;rcases this with h|h
  ·exact az h
  exact absurd rfl (ba h)
 ·intro i hi j hj hne d hd hl;have:=h7 i (by simpa using hi) j hj;rw[hd]at this;simp only[Bool.or_eq_true,Bool.not_eq_true']at this;rcases this with h|h|h
  ·exact absurd (az h) hne
  ·rw[eT.2 hl]at h;cases h
  exact eT.1 h
 ·intro t c ht j hj d hd hl;have:=h8 (t,c) ht j hj;simp only[hd,Bool.or_eq_true,Bool.not_eq_true']at this;rcases this with h|h
  ·rw[eT.2 hl]at h;cases h
  exact eT.1 h
 ·intro i hi;have:=h10 i hi;split at this
  ·rename_i o ho;rw[fO]at ho;exact⟨o,by simpa using ho,this⟩
  ·cases this
 ·intro ht;rw[ht]at h11;simpa using h11
 intro t c r ht;rw[ht]at h11;simp only[af]at h11;exact⟨yR h11.1,fun i hi hk=>yR h11.2 i (List.mem_filter.2 ⟨hi,hk⟩)⟩
theorem GG {ops:List Oper}:∀{seen l:List Nat},J6 ops seen l=true->∀ pre i post,l=pre++i::post->∀ j∈dC ops i,j∈seen\/j∈pre
 |seen,[],_,pre,i,post,e,_,_=>by simp at e
 |seen,x::r,h,pre,i,post,e,j,hj=>by
  simp only[J6]at h;split at h
  case h_2=>cases h
  rename_i hs;cases pre with
  |nil =>
   simp only[List.nil_append,List.cons.injEq]at e;obtain⟨rfl,rfl⟩:=e;exact .inl (yR hs j hj)
  |cons y pre =>
   simp only[List.cons_append,List.cons.injEq]at e;obtain⟨rfl,rfl⟩:=e;rcases GG h pre i post rfl j hj with h|h
   ·rcases List.mem_cons.1 h with rfl|h
    ·exact .inr (by simp)
    exact .inl h
   exact .inr (by simp[h])
def sF (A:Ar)(T:dN)(C:VC)(tn:Nat)(ops:List Oper)(hJ:Heap)(l:List Nat):List (Nat × Value)->Nat->(List (Nat × Value)->Nat->Prop)->Prop :=
 @List.rec Nat (fun _=>List (Nat × Value)->Nat->(List (Nat × Value)->Nat->Prop)->Prop) (fun env nx K=>K env nx)
  (fun i _ ih env nx K=>match hH ops i with
  |none=>False
  |some o=>iM A ops env o.guard
   (fun env=>j9 A T C hJ nx env o.op fun v nx'=>fW tn env o.dst v fun env=>ih env nx' K)
   (fun env=>fW tn env o.dst undef fun env=>ih env nx K)) l
theorem AZ {A:Ar}{T:dN}{C:VC}{tn:Nat}{ops:List Oper}{hJ:Heap}{nx i:Nat}{r:List Nat}{env:List (Nat × Value)}{K:List (Nat × Value)->Nat->Prop}:sF A T C tn ops hJ (i::r) env nx K=match hH ops i with
 |none=>False
 |some o=>iM A ops env o.guard
  (fun env=>j9 A T C hJ nx env o.op fun v nx'=>fW tn env o.dst v fun env=>sF A T C tn ops hJ r env nx' K)
  (fun env=>fW tn env o.dst undef fun env=>sF A T C tn ops hJ r env nx K):=rfl
def oC (T:dN)(tn:Nat)(ops:List Oper)(l:List Nat):List (Nat × Value)->Heap->Nat->KS->Prop :=
 @List.rec Nat (fun _=>List (Nat × Value)->Heap->Nat->KS->Prop) (fun env h nx K=>K env h nx)
  (fun i _ ih env h nx K=>match hH ops i with
  |some { op:=.alloc t,dst:=some d,.. }=>(match aw T t with
   |some ti=>fW tn env (some d) (ao nx) fun env=>ih env (cO h nx (aq 1 ti.zv.cells.toList)) (nx+1) K
   |none=>False)
  |_=>False) l
theorem pK {T:dN}{tn:Nat}{ops:List Oper}{i:Nat}{r:List Nat}{env:List (Nat × Value)}{h:Heap}{nx:Nat}{K:KS}:oC T tn ops (i::r) env h nx K=match hH ops i with
 |some { op:=.alloc t,dst:=some d,.. }=>(match aw T t with
  |some ti=>fW tn env (some d) (ao nx) fun env=>oC T tn ops r env (cO h nx (aq 1 ti.zv.cells.toList)) (nx+1) K
  |none=>False)
 |_=>False:=rfl
def B8 (env:List (Nat × Value))(hJ:Heap)(chk:Bool)(op:Op):Bool :=
 match chk with
 |false=>true
 |true=>match op with
  |.store _ x _=>(match dZ env x with
   |some (.pointer (some ad))=>(match aw hJ ad.block with|none=>true|some _=>false)
   |_=>false)
  |.load _ _=>true
  |.assign _=>true
  |.buildSlice _ _ _=>true
  |.call c=>(match c.callee with
   |.builtin .append=>(match nJ env c.args.toList with
    |some [s,_]=>(match s with
     |.slice none 0 0=>true
     |.slice (some ad) _ _=>(match aw hJ ad.block with|none=>true|some _=>false)
     |_=>false)
    |_=>false)
   |_=>false)
  |_=>false
def l8 (A:Ar)(T:dN)(C:VC)(Y:VY)(tn:Nat)(ops:List Oper)(hJ:Heap)(l:List (Nat × Bool)):List (Nat × Value)->Heap->Nat->KS->Prop :=
 @List.rec (Nat × Bool) (fun _=>List (Nat × Value)->Heap->Nat->KS->Prop) (fun env h nx K=>K env h nx)
  (fun p _ ih env h nx K=>match hH ops p.1 with
  |none=>False
  |some o=>iM A ops env o.guard
   (fun env=>eF (B8 env hJ p.2 o.op) (tD A T C Y env h nx o.op fun v h' nx'=>fW tn env o.dst v fun env'=>ih env' h' nx' K))
   (fun env=>fW tn env o.dst undef fun env'=>ih env' h nx K)) l
theorem BG {A:Ar}{T:dN}{C:VC}{Y:VY}{tn:Nat}{ops:List Oper}{hJ:Heap}{i:Nat}{chk:Bool}{r:List (Nat × Bool)}{env:List (Nat × Value)}{h:Heap}{nx:Nat}{K:KS}:l8 A T C Y tn ops hJ ((i,chk)::r) env h nx K=match hH ops i with
 |none=>False
 |some o=>iM A ops env o.guard
  (fun env=>eF (B8 env hJ chk o.op) (tD A T C Y env h nx o.op fun v h' nx'=>fW tn env o.dst v fun env'=>l8 A T C Y tn ops hJ r env' h' nx' K))
  (fun env=>fW tn env o.dst undef fun env'=>l8 A T C Y tn ops hJ r env' h nx K):=rfl
def aBg (t:Nat):List Oper->Option Op
 |[]=>none
 |o::r=>match o.dst with
  |some d=>(match Nat.beq d t with|true=>some o.op|false=>aBg t r)
  |none=>aBg t r
def pL (T:dN)(ops:List Oper)(env:List (Nat × Value))(g:Heap):Nat->Operand->Option Value
 |0,s=>dZ env s
 |n+1,s=>match s with
  |.tmp t=>(match aBg t ops with
   |some (.move y)=>pL T ops env g n y
   |some (.nilCheck y)=>pL T ops env g n y
   |some (.fieldAddr st y f)=>(match pL T ops env g n y,aw T st with
    |some (.pointer (some ⟨k,o,none⟩)),some { kind:=.st fs,.. }=>(match fs[f]? with|some (off,_)=>some (.pointer (some ⟨k,o+off,none⟩))|none=>none)
    |_,_=>none)
   |some (.indexAddr st x y)=>(match pL T ops env g n x,pL T ops env g n y,aw T st with
    |some (.slice (some ⟨k,o,none⟩) _ _),some (.int _ i),some { kind:=.sl e,.. }=>(match aw T e with|some ei=>some (.pointer (some ⟨k,o+i.toNat*ei.size,none⟩))|none=>none)
    |_,_,_=>none)
   |some (.load _ y)=>(match pL T ops env g n y with
    |some (.pointer (some ⟨k,o,none⟩))=>(match aw g k with|some (.cells _ _ _ cs)=>nth cs o|_=>none)
    |_=>none)
   |_=>dZ env s)
  |_=>dZ env s
def D7 (T:dN)(ops:List Oper)(env:List (Nat × Value))(g:Heap):Nat->Operand->Option Nat
 |0,_=>none
 |n+1,s=>match s with
  |.tmp t=>(match aBg t ops with
   |some (.indexAddr _ x _)=>(match pL T ops env g 12 x with
    |some (.slice (some a) _ _)=>some a.block
    |some (.pointer (some a))=>some a.block
    |_=>none)
   |some (.fieldAddr _ y _)=>D7 T ops env g n y
   |some (.nilCheck y)=>D7 T ops env g n y
   |_=>(match pL T ops env g 12 s with
    |some (.pointer (some a))=>some a.block
    |_=>none))
  |_=>none
def kR (T:dN)(ops:List Oper)(env:List (Nat × Value))(g:Heap):List (Nat × Bool)->Heap->Heap
 |[],h=>h
 |(i,chk)::r,h=>match chk,hH ops i with
  |true,some { op:=.store _ x _,.. }=>(match D7 T ops env g 12 x with
   |some k=>kR T ops env g r (rem h k)
   |none=>kR T ops env g r h)
  |true,some { op:=.call c,.. }=>(match c.callee,c.args.toList with
   |.builtin .append,s::_=>(match pL T ops env g 12 s with
    |some (.slice (some ad) _ _)=>kR T ops env g r (rem h ad.block)
    |_=>kR T ops env g r h)
   |_,_=>kR T ops env g r h)
  |_,_=>kR T ops env g r h
def GQ (T:dN)(ops:List Oper)(env:List (Nat × Value))(h:Heap):List Nat->Heap->Heap
 |[],g=>g
 |i::r,g=>match hH ops i with
  |some { op:=.load _ y,.. }=>(match D7 T ops env h 12 y with
   |some k=>(match aw g k with
    |some _=>GQ T ops env h r g
    |none=>(match aw h k with|some o=>GQ T ops env h r (cO g k o)|none=>GQ T ops env h r g))
   |none=>GQ T ops env h r g)
  |_=>GQ T ops env h r g
def N1 (T:dN)(ops:List Oper)(env:List (Nat × Value))(p:gQ)(h:Heap):Heap :=
 match p.FX with
 |[]=>kR T ops env h p.tail h
 |i::r=>GQ T ops env h (i::r) []
def r9 (A:Ar)(T:dN)(C:VC)(Y:VY)(tn:Nat)(ops:List Oper)(p:gQ)(env:List (Nat × Value))(h:Heap)(nx:Nat)(K:KS):Prop :=
 sF A T C tn ops (N1 T ops env p h) p.head env nx fun env1 nx1 =>
  oC T tn ops p.allocs env1 h nx1 fun env2 h2 nx2 =>
   l8 A T C Y tn ops (N1 T ops env p h) p.tail env2 h2 nx2 K
theorem aA6 {h:Heap}{j k:Nat}{o:bV}(hk:aw (rem h j) k=some o):aw h k=some o:=by
 rw[dO]at hk;split at hk
 ·cases hk
 exact hk
theorem iB {T:dN}{g:Heap}{ops:List Oper}{env:List (Nat × Value)}:∀{l:List (Nat × Bool)} {h:Heap} {k:Nat} {o:bV},aw (kR T ops env g l h) k=some o->aw h k=some o
 |[],h,k,o,hk=>hk
 |(i,chk)::r,h,k,o,hk=>by
  unfold kR at hk;split at hk
  ·split at hk
   ·exact aA6 (iB hk)
   exact iB hk
  ·split at hk
   ·split at hk
    ·exact aA6 (iB hk)
    exact iB hk
   exact iB hk
  exact iB hk
theorem pS {T:dN}{ops:List Oper}{env:List (Nat × Value)}{h:Heap}:∀{l:List Nat} {g:Heap},(∀ k o,aw g k=some o->aw h k=some o)->∀ k o,aw (GQ T ops env h l g) k=some o->aw h k=some o
 |[],g,hg,k,o,hk=>hg k o hk
 |i::r,g,hg,k,o,hk=>by
  unfold GQ at hk;split at hk
  ·split at hk
   ·split at hk
    ·exact pS hg k o hk
    split at hk
    ·rename_i o' ho';refine pS (fun k2 o2 h2=>?_) k o hk;rw[nR]at h2;split at h2
     ·rename_i e;cases h2;rw[e];exact ho'
     exact hg k2 o2 h2
    exact pS hg k o hk
   exact pS hg k o hk
  exact pS hg k o hk
theorem aEw {T:dN}{ops:List Oper}{env:List (Nat × Value)}{p:gQ}{h:Heap}(k:Nat)(o:bV)(hk:aw (N1 T ops env p h) k=some o):aw h k=some o:=by
 unfold N1 at hk;split at hk
 ·exact iB hk
 refine pS (fun k2 o2 h2=>?_) k o hk;cases h2
section
variable {P:Program}{T:dN}{C:VC}{Y:VY}{ops:Array Oper}{p:gQ}
theorem B5 {o:Oper}(hs:∀ cs b,o.op≠.select cs b){a a':Act}(h:∀ t∈o.looksAt ops,a.tmps[t]? = a'.tmps[t]?) :
  execOp a.eval o=execOp a'.eval o/\Region.wanted o (yielded ops a.tmps)=Region.wanted o (yielded ops a'.tmps):=by
 refine⟨execOp_congr o hs fun x hx=>?_,?_⟩
 ·cases x with
  |tmp t =>
   have:=h t (List.mem_append_left _ (List.mem_filterMap.2 ⟨.tmp t,by simpa using hx,rfl⟩));simp[Act.eval,this]
  |_=>rfl
 unfold Region.wanted;cases hg:o.guard with
 |none=>rfl
 |some gw =>
  obtain⟨g,want⟩:=gw;have:yielded ops a.tmps g=yielded ops a'.tmps g:=by
   unfold yielded;cases ht:(ops[g]?).bind (·.dst)with
   |none=>rfl
   |some t =>
    have:=h t (List.mem_append_right _ (by simp[hg,ht]));simp[this]
  simp only[this]
theorem IM (a:Act)(dst:Option Nat)(v:Value)(t:Nat):(a.put dst v).tmps[t]? = if dst=some t/\t<a.tmps.size then some v else a.tmps[t]? := by
 cases dst with
 |none=>simp[Act.put]
 |some d =>
  by_cases h:d=t
  ·subst h;by_cases hl:d<a.tmps.size
   ·rw[if_pos ⟨rfl,hl⟩];simp[Act.put,Array.getElem?_setIfInBounds_self_of_lt hl]
   rw[if_neg (fun e=>hl e.2)];simp[Act.put,Array.getElem?_setIfInBounds,hl]
  rw[if_neg (fun e=>h (Option.some.inj e.1))];simp only[Act.put];exact Array.getElem?_setIfInBounds_ne h
theorem jG {a:Act}{dst:Option Nat}{v:Value}{t:Nat}(h:dst≠some t):(a.put dst v).tmps[t]? = a.tmps[t]? := by
 rw[IM,if_neg (fun e=>h e.1)]
theorem vI {a:Act}{v:Value}{t:Nat}(h:t<a.tmps.size):(a.put (some t) v).tmps[t]? = some v:=by
 rw[IM,if_pos ⟨rfl,h⟩]
theorem tQ (a:Act)(dst:Option Nat)(v:Value):(a.put dst v).tmps.size=a.tmps.size:=by
 cases dst <;> simp[Act.put]
theorem put_defers (a:Act)(dst:Option Nat)(v:Value):(a.put dst v).defers=a.defers:=by
 cases dst <;> rfl
def kY (ops:Array Oper)(ι:Nat->Loc)(vals:List (Nat × Value))(a:Act):Act:=vals.foldl (fun a q=>a.put (cZ ops.toList q.1) (tr ι q.2)) a
theorem wU {ι:Nat->Loc}:∀(vals:List (Nat × Value)) (a:Act),(kY ops ι vals a).tmps.size=a.tmps.size
 |[],a=>rfl
 |q::r,a=>by
  have:=wU (ι:=ι) r (a.put (cZ ops.toList q.1) (tr ι q.2));rw[tQ]at this;exact this
theorem AP {ι:Nat->Loc}:∀(vals:List (Nat × Value)) (a:Act),(kY ops ι vals a).defers=a.defers
 |[],a=>rfl
 |q::r,a=>by
  have:=AP (ι:=ι) r (a.put (cZ ops.toList q.1) (tr ι q.2));rw[put_defers]at this;exact this
theorem mG {ι:Nat->Loc}{d:Nat}:∀(vals:List (Nat × Value)) (a:Act),(∀ q∈vals,cZ ops.toList q.1≠some d)->(kY ops ι vals a).tmps[d]? = a.tmps[d]?
 |[],a,_=>rfl
 |q::r,a,h=>by
  have:=mG (ι:=ι) r (a.put (cZ ops.toList q.1) (tr ι q.2)) (fun x hx=>h x (by simp[hx]));rw[jG (h q (by simp))]at this;exact this
theorem xV {ι:Nat->Loc}{d i:Nat}{v:Value}:∀(vals:List (Nat × Value)) (a:Act),d<a.tmps.size->(i,v)∈vals->cZ ops.toList i=some d->(∀ q∈vals,cZ ops.toList q.1=some d->q.1=i)->(vals.map (·.1)).Nodup ->
  (kY ops ι vals a).tmps[d]? = some (tr ι v)
 |[],a,_,h,_,_,_=>by cases h
 |q::r,a,hd,hm,hi,hu,hn=>by
  simp only[List.map_cons,List.nodup_cons]at hn;rcases List.mem_cons.1 hm with rfl|hm
  ·have:=mG (ops:=ops) (ι:=ι) (d:=d) r (a.put (cZ ops.toList i) (tr ι v)) (fun x hx e=>by
    have:=hu x (by simp[hx]) e;exact hn.1 (List.mem_map.2 ⟨x,hx,this⟩))
   show(kY ops ι r (a.put (cZ ops.toList i) (tr ι v))).tmps[d]? = _;rw[this,hi,vI hd]
  exact xV r (a.put (cZ ops.toList q.1) (tr ι q.2)) (by rw[tQ];exact hd) hm hi (fun x hx=>hu x (by simp[hx])) hn.2
def Yld (P:Program)(ops:Array Oper)(ι:Nat->Loc)(B nx:Nat)(hJ:Heap)(wS:World)(i:Nat)(v:Value)(a:Act):Prop :=
 ∃ o,ops[i]? = some o/\fU ι nx v/\(∀ c,o.op≠.defer c)/\((Region.wanted o (yielded ops a.tmps)=false/\v=undef) \/
   (Region.wanted o (yielded ops a.tmps)=true/\∀ w,aY ι B (o5 o.op hJ) nx w->(pZ o.op=true->jO wS.heap.size wS w)->aIn P (execOp a.eval o) w (tr ι v)))
theorem RB {tn:Nat}{env:List (Nat × Value)}{dst:Option Nat}{v:Value}{K:List (Nat × Value)->Prop}(hl:fW tn env dst v K):∀ d,dst=some d->d<tn:=by
 rintro d rfl;simp only[fW]at hl;split at hl
 ·rename_i h;exact uO h
 exact hl.elim
theorem aY.wide {ι ι':Nat->Loc}{B nx nx':Nat}{h:Heap}{w:World}(H:aY ι B h nx w)(hi:∀ k,k<nx->ι' k=ι k)(hn:nx<=nx'):aY ι' B h nx' w:=by
 refine⟨fun k o hk=>?_,fun k k' o1 o2 h1 h2 hne ha b hb=>?_,fun k o hk=>Nat.lt_of_lt_of_le (H.low k o hk) hn,H.size,fun k o hk=>(H.sc k o hk).mono hn hi⟩
 ·rw[hi _ (H.low k o hk)];exact(H.obj k o hk).names (H.sc k o hk) hi
 rw[hi _ (H.low k o1 h1)]at hb;rw[hi _ (H.low k' o2 h2)];exact H.sep k k' o1 o2 h1 h2 hne ha b hb
theorem aY.narrow {ι ι':Nat->Loc}{B nx nx':Nat}{h:Heap}{w wS:World}(H:aY ι' B h nx' w)(HS:aY ι B h nx wS)(hi:∀ k,k<nx->ι' k=ι k):aY ι B h nx w:=by
 have hsc:∀ k o,aw h k=some o->OSc ι nx o:=HS.sc;refine⟨fun k o hk=>?_,fun k k' o1 o2 h1 h2 hne ha b hb=>?_,fun k o hk=>HS.low k o hk,H.size,hsc⟩
 ·have:=H.obj k o hk;rw[hi _ (HS.low k o hk)]at this;exact this.names ((hsc k o hk).mono (ah _) hi) (fun j hj=>(hi j hj).symm)
 rw[<- hi _ (HS.low k o1 h1)]at hb;rw[<- hi _ (HS.low k' o2 h2)];exact H.sep k k' o1 o2 h1 h2 hne ha b hb
theorem Yld.wide {P:Program}{ops:Array Oper}{ι ι':Nat->Loc}{B nx nx':Nat}{hJ:Heap}{wS:World}{i:Nat}{v:Value}{a:Act}(H:aY ι B hJ nx wS)(hi:∀ k,k<nx->ι' k=ι k)(hn:nx<=nx')
  (hy:Yld P ops ι B nx hJ wS i v a):Yld P ops ι' B nx' hJ wS i v a:=by
 obtain⟨o,h1,h2,h3,h4⟩:=hy;refine⟨o,h1,uR hn hi h2,h3,?_⟩;rcases h4 with h4|⟨h4,h5⟩
 ·exact .inl h4
 refine .inr ⟨h4,fun w Hw hb=>?_⟩;rw[KP hi h2];refine h5 w (Hw.narrow (wS:=wS) ?_ hi) hb;unfold o5;cases nS o.op with
 |true=>exact aY.none H.size
 |false=>exact H
theorem S3 (hT:dJ P T)(hC:bN P C)(hD:fG C)(hp:∀ i,i<ops.size->oJ vH ops.toList i=true){tn:Nat}{B:Nat}{hJ:Heap}{wS:World}{K:List (Nat × Value)->Nat->Prop} :
  ∀(l:List Nat) (env:List (Nat × Value)) (a:Act) (ι:Nat->Loc) (nx:Nat),aY ι B hJ nx wS->sF aF T C tn ops.toList hJ l env nx K->dV ι nx env a->a.tmps.size=tn ->
  ∃ vals env1 ι' nx',K env1 nx'/\(∀ k,k<nx->ι' k=ι k)/\nx<=nx'/\vals.map (·.1)=l/\dV ι' nx' env1 (kY ops ι' vals a)/\(∀ q∈vals,∀ d,cZ ops.toList q.1=some d->d<tn) /\
    ∀ pre i v post,vals=pre++(i,v)::post->Yld P ops ι' B nx' hJ wS i v (kY ops ι' pre a)
 |[],env,a,ι,nx,H,hl,he,hs=>⟨[],env,ι,nx,hl,fun _ _=>rfl,ah _,rfl,he,by simp,by simp⟩
 |i::r,env,a,ι,nx,H,hl,he,hs=>by
  simp only[AZ]at hl;split at hl
  ·exact hl.elim
  rename_i o ho;have hdst:cZ ops.toList i=o.dst:=(by simp[cZ,ho]);have hoi:ops[i]? = some o:=(by rw[fO]at ho;simpa using ho);have hlt:i<ops.size:=(Array.getElem?_eq_some_iff.1 hoi).1;have hdef:∀ c,o.op≠.defer c:=by
   intro c e;have:=hp i hlt;simp[oJ,ho,e,vH]at this
  obtain⟨env1,he1,hcase⟩:=yT he hl;have main:∃ v ι1 nx1,(∀ k,k<nx->ι1 k=ι k)/\nx<=nx1/\fU ι1 nx1 v/\Yld P ops ι1 B nx1 hJ wS i v a/\fW tn env1 o.dst v fun env=>sF aF T C tn ops.toList hJ r env nx1 K:=by
   rcases hcase with⟨hw,hl⟩|⟨hw,hl⟩
   ·obtain⟨v,nx1,ι1,h1,h2,h3,h4,h5⟩:=aCe hT hC hD he1 H hl;refine⟨v,ι1,nx1,h3,h4,h2,⟨o,hoi,h2,hdef,.inr ⟨hw,fun w Hw hb=>h5 w (Hw.narrow (wS:=wS) ?_ h3) hb⟩⟩,h1⟩;unfold o5;cases nS o.op with
    |true=>exact aY.none H.size
    |false=>exact H
   exact⟨undef,ι,nx,fun _ _=>rfl,ah _,c9 rfl,⟨o,hoi,c9 rfl,hdef,.inl ⟨hw,rfl⟩⟩,hl⟩
  obtain⟨v,ι1,nx1,hi1,hn1,hv,hy,hl⟩:=main;have H1:=H.wide hi1 hn1;obtain⟨env2,k1,k2,k3,k4⟩:=rV (he1.names hn1 hi1) hs hl hv;rw[<- hdst]at k2 k3;obtain⟨vals,env3,ι',nx',h1,hi',hn',h2,h3,h4,h5⟩:=S3 hT hC hD hp r env2 _ ι1 nx1 H1 k1 k2 k3;have etr:tr ι' v=tr ι1 v:=KP hi' hv;have ep:∀ pre,kY ops ι' ((i,v)::pre) a=kY ops ι' pre (a.put (cZ ops.toList i) (tr ι1 v)):=fun pre=>by
   show kY ops ι' pre (a.put (cZ ops.toList i) (tr ι' v))=_;rw[etr]
  refine⟨(i,v)::vals,env3,ι',nx',h1,fun k hk=>(hi' k aa).trans (hi1 k hk),aa,by simp[h2],by rw[ep];exact h3,fun q hq d hd=>?_,fun pre j u post e=>?_⟩
  ·rcases List.mem_cons.1 hq with rfl|hq
   ·exact RB hl d (by rw[<- hdst];exact hd)
   exact h4 q hq d hd
  ·cases pre with
   |nil =>
    simp only[List.nil_append,List.cons.injEq,Prod.mk.injEq]at e;obtain⟨⟨rfl,rfl⟩,rfl⟩:=e;exact hy.wide H1 hi' hn'
   |cons q pre =>
    simp only[List.cons_append,List.cons.injEq]at e;obtain⟨rfl,rfl⟩:=e;rw[ep];exact h5 pre j u post rfl
structure F6 (ops:Array Oper) (p:gQ) (ι:Nat->Loc) (vals:List (Nat × Value)) (tn:Nat) (ds:List Deferred) (a0:Act) (L:Nat->Prop) (a a':Act):Prop where
 size:a.tmps.size=tn
 size':a'.tmps.size=tn
 defers:a.defers=ds
 defers':a'.defers=ds
 q1:∀ i v d,(i,v)∈vals->cZ ops.toList i=some d->a'.tmps[d]? = some (tr ι v)
 q2:∀ d,(∀ i∈p.head,cZ ops.toList i=some d->L i)->a.tmps[d]? = a'.tmps[d]?
 q3:∀ d,(∀ i,i∈p.head\/L i->cZ ops.toList i≠some d)->a'.tmps[d]? = a0.tmps[d]?
 q4:∀ i d,i∈p.head->¬ L i->cZ ops.toList i=some d->a.tmps[d]? = a0.tmps[d]?
def LI (L:Nat->Prop)(i:Nat):Nat->Prop:=fun j=>j=i\/L j
variable {ι:Nat->Loc}{vals:List (Nat × Value)}{tn:Nat}{ds:List Deferred}{a0:Act}{L:Nat->Prop}{a a':Act}
theorem oW {i d:Nat}(h:cZ ops.toList i=some d):i<ops.size:=by
 unfold cZ at h;split at h
 ·rename_i o ho;rw[fO]at ho;have:ops[i]? = some o:=(by simpa using ho);exact(Array.getElem?_eq_some_iff.1 this).1
 ·cases h
theorem F6.head (hp:oV ops p)(I:F6 ops p ι vals tn ds a0 L a a')(hv:vals.map (·.1)=p.head)(hd:∀ q∈vals,∀ d,cZ ops.toList q.1=some d->d<tn){i:Nat}{v:Value}(hi:(i,v)∈vals) :
  F6 ops p ι vals tn ds a0 (LI L i) (a.put (cZ ops.toList i) (tr ι v)) a':=by
 refine⟨by rw[tQ];exact I.size,I.size',by rw[put_defers];exact I.defers,I.defers',I.q1,fun d h=>?_,fun d h=>I.q3 d (fun j hj=>h j (hj.imp id .inr)),fun j d hj hn hjd=>?_⟩
 ·by_cases e:cZ ops.toList i=some d
  ·rw[e,vI (by rw[I.size];exact hd _ hi d e),I.q1 i v d hi e]
  rw[jG e];refine I.q2 d fun j hj hjd=>?_;rcases h j hj hjd with rfl|h
  ·exact absurd hjd e
  exact h
 have hij:j≠i:=fun e=>hn (.inl e);rw[jG (fun e=>hij (hp.dsts j i d (oW hjd) (oW e) hjd e))];exact I.q4 j d hj (fun h=>hn (.inr h)) hjd
theorem F6.other (hp:oV ops p)(I:F6 ops p ι vals tn ds a0 L a a')(hv:vals.map (·.1)=p.head){j:Nat}(hj:j∉p.head)(u:Value) :
  F6 ops p ι vals tn ds a0 (LI L j) (a.put (cZ ops.toList j) u) (a'.put (cZ ops.toList j) u):=by
 have hne:∀ i d,i∈p.head->cZ ops.toList i=some d->cZ ops.toList j≠some d:=fun i d hi hd e=>hj (by rw[hp.dsts j i d (oW e) (oW hd) e hd];exact hi);have hmem:∀ i v,(i,v)∈vals->i∈p.head:=fun i v h=>(by rw[<- hv];exact List.mem_map.2 ⟨_,h,rfl⟩);refine⟨by rw[tQ];exact I.size,by rw[tQ];exact I.size',by rw[put_defers];exact I.defers,by rw[put_defers];exact I.defers',fun i v d hi hd=>?_,fun d h=>?_,fun d h=>?_,fun i d hi hn hid=>?_⟩
 ·rw[jG (hne i d (hmem i v hi) hd)];exact I.q1 i v d hi hd
 ·rw[IM,IM,I.size,I.size'];by_cases e:cZ ops.toList j=some d/\d<tn
  ·rw[if_pos e,if_pos e]
  rw[if_neg e,if_neg e];refine I.q2 d fun i hi hid=>?_;rcases h i hi hid with rfl|h
  ·exact absurd hi hj
  exact h
 ·rw[jG (h j (.inr (.inl rfl)))];exact I.q3 d fun i hi=>h i (hi.imp id .inr)
 rw[jG (hne i d hi hid)];exact I.q4 i d hi (fun h=>hn (.inr h)) hid
theorem jQ {i:Nat}:i∈p.order↔i∈p.head\/i∈p.allocs\/i∈p.tail.map (·.1):=by simp[gQ.order]
theorem oV.apart (hp:oV ops p){i:Nat}(hi:i∈p.head):i∉p.allocs/\i∉p.tail.map (·.1):=by
 have:=hp.nodup;unfold gQ.order at this;rw[List.append_assoc,List.nodup_append]at this;exact⟨fun h=>this.2.2 i hi i (List.mem_append_left _ h) rfl,fun h=>this.2.2 i hi i (List.mem_append_right _ h) rfl⟩
theorem oV.aMC (hp:oV ops p){i:Nat}(hi:i∈p.allocs):i∉p.tail.map (·.1):=by
 have:=hp.nodup;unfold gQ.order at this;rw[List.nodup_append]at this;exact fun h=>this.2.2 i (List.mem_append_right _ hi) i h rfl
theorem F6.aSe (hp:oV ops p)(I:F6 ops p ι vals tn ds a0 L a a')(hv:vals.map (·.1)=p.head)(hd:∀ q∈vals,∀ d,cZ ops.toList q.1=some d->d<tn)(h0:a0.tmps.size=tn)
  (cl:∀ i,L i->∀ j∈dC ops.toList i,L j) (hL:∀ i,L i->i<ops.size) {pre post:List (Nat × Value)} {i:Nat} {v:Value} (e:vals=pre++(i,v)::post) (hn:¬ L i) (hr:∀ j∈dC ops.toList i,L j) :
  ∀ t∈s8 ops i,a.tmps[t]? = (kY ops ι pre a0).tmps[t]? := by
 intro t ht;have hih:i∈p.head:=(by rw[<- hv,e];simp);have hin:i<ops.size:=hp.SQ i (jQ.2 (.inl hih));have hhead:p.head=pre.map (·.1)++i::post.map (·.1):=(by rw[<- hv,e];simp);have hnd:(p.head).Nodup:=by
  have:=hp.nodup;unfold gQ.order at this;rw[List.append_assoc,List.nodup_append]at this;exact this.1
 have hpre:∀ j∈dC ops.toList i,j∈pre.map (·.1):=fun j hj=>by
  rcases GG hp.headP _ _ _ hhead j hj with h|h
  ·cases h
  exact h
 have hni:i∉pre.map (·.1):=fun hm=>by
  rw[hhead,List.nodup_append]at hnd;exact hnd.2.2 i hm i (by simp) rfl
 by_cases hex:∃ j∈p.head,cZ ops.toList j=some t
 ·obtain⟨j,hj,hjt⟩:=hex;by_cases hji:j=i
  ·subst hji;rw[I.q4 j t hj hn hjt];rw[mG];intro q hq hqt;have:=hp.dsts _ _ t (oW hqt) (oW hjt) hqt hjt;exact hni (List.mem_map.2 ⟨q,hq,this⟩)
  have hjp:=hp.look1 j (.inl hj) i hin (fun e=>hji e.symm) t hjt ht;have hjL:=hr j hjp;obtain⟨q,hq,hqj⟩:=List.mem_map.1 (hpre j hjp);obtain⟨j',u⟩:=q;simp only at hqj;subst hqj;have hqv:(j',u)∈vals:=(by rw[e];exact List.mem_append_left _ hq);rw[I.q2 t (fun j2 hj2 h2=>by rw[hp.dsts j2 j' t (oW h2) (oW hjt) h2 hjt];exact hjL),I.q1 j' u t hqv hjt];rw[xV pre a0 (by rw[h0];exact hd _ hqv t hjt) hq hjt (fun q2 hq2 h2=>hp.dsts _ _ t (oW h2) (oW hjt) h2 hjt) (by
   rw[hhead,List.nodup_append]at hnd;exact hnd.1)]
 have hex':∀ j∈p.head,cZ ops.toList j≠some t:=fun j hj h=>hex ⟨j,hj,h⟩;rw[I.q2 t (fun j hj h=>absurd h (hex' j hj)),I.q3 t,mG]
 ·intro q hq;exact hex' _ (by rw[hhead];exact List.mem_append_left _ (List.mem_map.2 ⟨q,hq,rfl⟩))
 intro j hj;rcases hj with hj|hj
 ·exact hex' j hj
 intro hjt;rcases jQ.1 (hp.cover j (hL j hj))with h|h|h
 ·exact hex' j h hjt
 ·have hne:i≠j:=fun e=>(hp.apart hih).1 (e▸h);have:=hpre j (hp.look1 j (.inr h) i hin hne t hjt ht);exact(hp.apart (i:=j) (by rw[hhead];exact List.mem_append_left _ this)).1 h
 obtain⟨⟨t',c⟩,htc,rfl⟩:=List.mem_map.1 h;exact hn (cl t' hj i (hp.look2 t' c htc i hih t hjt ht))
theorem F6.aPC (hp:oV ops p)(I:F6 ops p ι vals tn ds a0 L a a'){j:Nat}(hj:j∉p.head)(hjn:j<ops.size)(hr:∀ i∈dC ops.toList j,L i) :
  ∀ t∈s8 ops j,a.tmps[t]? = a'.tmps[t]? := fun t ht =>
 I.q2 t fun i hi hit=>hr i (hp.look1 i (.inl hi) j hjn (fun e=>hj (e▸hi)) t hit ht)
end
section
variable {P:Program}{T:dN}{C:VC}{Y:VY}{ops:Array Oper}{p:gQ}
theorem aY.sub {ι:Nat->Loc}{B nx:Nat}{h h':Heap}{w:World}(H:aY ι B h nx w)(hs:∀ k o,aw h' k=some o->aw h k=some o):aY ι B h' nx w :=
 ⟨fun k o hk=>H.obj k o (hs k o hk),fun k k' o o' h1 h2=>H.sep k k' o o' (hs _ _ h1) (hs _ _ h2),fun k o hk=>H.low k o (hs k o hk),H.size,fun k o hk=>H.sc k o (hs k o hk)⟩
theorem aY.back {ι ι0:Nat->Loc}{B nx nx0:Nat}{h hJ:Heap}{w wS:World}(H:aY ι B h nx w)(HS:aY ι0 B hJ nx0 wS)(hs:∀ k o,aw hJ k=some o->aw h k=some o)(hi:∀ k,k<nx0->ι k=ι0 k):aY ι0 B hJ nx0 w:=by
 refine⟨fun k o hk=>?_,HS.sep,HS.low,H.size,HS.sc⟩;have h1:=H.obj k o (hs k o hk);have h2:OSc ι nx0 o:=(HS.sc k o hk).mono (ah _) hi;have h3:=h1.names h2 (ι':=ι0) (fun j hj=>(hi j hj).symm)
 rwa [hi k (HS.low k o hk)]at h3
theorem aDe {o:Oper}{a b:Act}{w:World}{u:Value}(hr:aIn P (execOp b.eval o) w u)(he:execOp a.eval o=execOp b.eval o)(hd:∀ c,o.op≠.defer c)(r:Option Nat)(next:Act->World->Prop)(Q:Exit->Act->World->Prop)
  (hn:∀ w',jO w.heap.size w w'->next (a.put o.dst u) w'):o.wpIn (Fr r) 0 P a w next Q:=by
 refine⟨fun _ _=>trivial,?_⟩;rw[semAt_eq hd,he];rcases hr with h|⟨f,args,h,hc⟩
 ·rw[h];exact hn w (jO.refl _ _)
 rw[h];refine⟨fun hdep=>absurd hdep (by simp[Fr,Fence.wide]),?_⟩;refine CallsIn.mono (F:=Fence.wide) hc fun e w' hret=>?_;obtain⟨rfl,hb⟩:=hret;exact hn w' hb
def aC0 (T:dN)(ops:Array Oper)(wS:World)(i b:Nat)(a:Act)(w:World):Prop :=
 wS.heap.size<=b/\∃ o t d ti,hH ops.toList i=some o/\o.op=.alloc t/\o.dst=some d/\aw T t=some ti/\w.heap[b]? = some (.cells ti.zv.cells t (0,0))/\a.tmps[d]? = some (.pointer (some ⟨b,0,none⟩))
theorem AH {tn:Nat}{l:List Oper}{K:KS}:∀{al:List Nat} {env:List (Nat × Value)} {h:Heap} {nx:Nat},oC T tn l al env h nx K ->
  ∀ i∈al,∃ o t d ti,hH l i=some o/\o.op=.alloc t/\o.dst=some d/\d<tn/\aw T t=some ti
 |[],_,_,_,_,i,hi=>by cases hi
 |j::r,env,h,nx,hl,i,hi=>by
  simp only[pK]at hl;split at hl
  case h_2=>exact hl.elim
  rename_i d t ty pos after gd ho;split at hl
  case h_2=>exact hl.elim
  rename_i ti hti;have hd:=RB hl d rfl;rcases List.mem_cons.1 hi with rfl|hi
  ·exact⟨_,t,d,ti,ho,rfl,rfl,hd,hti⟩
  simp only[fW]at hl;split at hl
  ·exact AH hl i hi
  exact hl.elim
theorem dV.congr {ι:Nat->Loc}{n:Nat}{env:List (Nat × Value)}{a a':Act}(he:dV ι n env a)(h:∀ d:Nat,a.tmps[d]? = a'.tmps[d]?):dV ι n env a':=fun t v hv=>by
 rw[<- h t];exact he t v hv
theorem LS (hT:dJ P T){tn B:Nat}{wS w:World}(hB:B<=wS.heap.size){K:KS}{a':Act}{bs:Nat->Nat}:∀(al:List Nat) (ι:Nat->Loc) (env:List (Nat × Value)) (h:Heap) (nx:Nat) (a:Act),
  oC T tn ops.toList al env h nx K->dV ι nx env a->a.tmps.size=tn->aY ι B h nx w->(∀ i∈al,aC0 T ops wS i (bs i) a' w)->al.Nodup->(∀ i∈al,∀ j∈al,bs i=bs j->i=j) ->
  (∀ k o b,aw h k=some o->(ι k).F9=some b->∀ i∈al,b≠bs i)->(∀ d,(∀ i∈al,cZ ops.toList i≠some d)->a.tmps[d]? = a'.tmps[d]?) ->
  ∃ ι' env' h' nx',K env' h' nx'/\dV ι' nx' env' a'/\aY ι' B h' nx' w/\(∀ k,k<nx->ι' k=ι k)/\nx<=nx'/\∀ k,k<nx->aw h' k=aw h k
 |[],ι,env,h,nx,a,hl,he,hs,H,hal,hnd,hinj,hsep,hd=>⟨ι,env,h,nx,hl,he.congr (fun d=>hd d (by simp)),H,fun _ _=>rfl,ah _,fun _ _=>rfl⟩
 |i::r,ι,env,h,nx,a,hl,he,hs,H,hal,hnd,hinj,hsep,hd=>by
  simp only[pK]at hl;split at hl
  case h_2=>exact hl.elim
  rename_i d t ty pos after gd ho;split at hl
  case h_2=>exact hl.elim
  rename_i ti hti;obtain⟨hb,o',t',d',ti',h1,h2,h3,h4,h5,h6⟩:=hal i (by simp);rw[ho]at h1;injection h1 with h1;subst h1;simp only at h2 h3;injection h2 with h2;injection h3 with h3;subst h2;subst h3;rw[hti]at h4;injection h4 with h4;subst h4;have hz:=tG hT hti;have hdi:cZ ops.toList i=some d:=(by simp[cZ,ho]);have hadd:=H.add (aq 1 ti.zv.cells.toList) (.lay (bs i) 0 0) (by
   refine⟨Nat.le_trans hB hb,by simp,ti.zv.cells,t,h5,by simp,fun j v hv=>?_⟩;rw[Nat.zero_add,<- Array.getElem?_toList,hv,oI (hz v (List.mem_of_getElem? hv))]) (fun v hv=>bM (hz v hv)) (by
   intro k o' hk _ b hb' e;have:bs i=b:=(by simpa[Loc.F9]using hb');exact hsep k o' b hk e i (by simp) this.symm)
  have hsc:fU (ins ι nx (.lay (bs i) 0 0)) (nx+1) (ao nx):=(by simp[fU,mS,jJ,rG,bZ,Loc.jD]);obtain⟨env',k1,k2,k3,_⟩:=rV (he.names (ι':=ins ι nx (.lay (bs i) 0 0)) (m:=nx+1) aa (fun k hk=>dE _ _ hk)) hs hl hsc;have htr:tr (ins ι nx (.lay (bs i) 0 0)) (ao nx)=.pointer (some ⟨bs i,0,none⟩):=(by simp[iA,bZ]);rw[htr]at k2 k3;rw[List.nodup_cons]at hnd;obtain⟨ι',env2,h2,nx2,q1,q2,q3,q4,q5,q6⟩:=LS hT hB r _ env' _ (nx+1) _ k1 k2 k3 hadd (fun j hj=>hal j (by simp[hj])) hnd.2 (fun x hx y hy=>hinj x (by simp[hx]) y (by simp[hy])) (by
   intro k o' b hk hkb j hj e;rw[nR]at hk;by_cases hkn:k=nx
   ·subst hkn;rw[bZ]at hkb;have:bs i=b:=(by simpa[Loc.F9]using hkb);have:=hinj i (by simp) j (by simp[hj]) (this.trans e);exact hnd.1 (this▸hj)
   ·rw[if_neg hkn]at hk;rw[J8 _ _ hkn]at hkb;exact hsep k o' b hk hkb j (by simp[hj]) e) (by
   intro d2 h2;by_cases e:d2=d
   ·subst e;rw[vI (by have:=RB hl d2 rfl;omega)];exact h6.symm
   rw[jG (fun e'=>e (Option.some.inj e').symm)];refine hd d2 fun j hj=>?_;rcases List.mem_cons.1 hj with rfl|hj
   ·rw[hdi];exact fun e'=>e (Option.some.inj e').symm
   exact h2 j hj)
  exact⟨ι',env2,h2,nx2,q1,q2,q3,fun k hk=>(q4 k aa).trans (dE _ _ hk),aa,fun k hk=>(q6 k aa).trans (kQ _ _ aa)⟩
structure Ctx (P:Program) (T:dN) (C:VC) (Y:VY) (ops:Array Oper) (p:gQ) (B:Nat) (w0:World) (ιb:Nat->Loc) (nxb tn:Nat) (ds:List Deferred) (ι0:Nat->Loc) (nx0:Nat) (h0 hJ:Heap) (a0:Act) (wS:World)
  (vals:List (Nat × Value)) (env1:List (Nat × Value)) (K:KS):Prop where
 tab:dJ P T
 calls:bN P C
 yields:fZ P Y
 plan:oV ops p
 old:∀ k,k<nxb->ι0 k=ιb k
 le:nxb<=nx0
 size:a0.tmps.size=tn
 defers:a0.defers=ds
 heap:aY ι0 B h0 nx0 wS
 below:jO B w0 wS
 sub:∀ k o,aw hJ k=some o->aw h0 k=some o
 heads:vals.map (·.1)=p.head
 env:dV ι0 nx0 env1 (kY ops ι0 vals a0)
 dlt:∀ q∈vals,∀ d,cZ ops.toList q.1=some d->d<tn
 yld:∀ pre i v post,vals=pre++(i,v)::post->Yld P ops ι0 B nx0 hJ wS i v (kY ops ι0 pre a0)
 rest:oC T tn ops.toList p.allocs env1 h0 nx0 fun env h nx=>l8 aF T C Y tn ops.toList hJ p.tail env h nx K
structure NJ (T:dN) (ops:Array Oper) (p:gQ) (tn:Nat) (ds:List Deferred) (ι0:Nat->Loc) (a0:Act) (wS:World) (vals:List (Nat × Value)) (L:Nat->Prop) (a:Act) (w:World):Prop where
 noT:∀ t∈p.tail.map (·.1),¬ L t
 below:jO wS.heap.size wS w
 on:∃(a':Act) (bs:Nat->Nat),F6 ops p ι0 vals tn ds a0 L a a'/\(∀ d,(∀ i∈p.allocs,L i->cZ ops.toList i≠some d)->(kY ops ι0 vals a0).tmps[d]? = a'.tmps[d]?) /\
  (∀ i∈p.allocs,L i->aC0 T ops wS i (bs i) a' w)/\(∀ i∈p.allocs,∀ j∈p.allocs,L i->L j->bs i=bs j->i=j)
def yK (T:dN)(C:VC)(Y:VY)(ops:Array Oper)(p:gQ)(B:Nat)(w0:World)(ιb:Nat->Loc)(nxb tn:Nat)(ds:List Deferred)(ι0:Nat->Loc)(nx0:Nat)(hJ:Heap)(a0:Act)(vals:List (Nat × Value))(K:KS)(L:Nat->Prop)(a:Act)(w:World):Prop :=
 ∃ done rest a' ι env h nx,p.tail=done++rest/\(∀ t∈done,L t.1)/\(∀ t∈rest,¬ L t.1)/\(∀ i∈p.allocs,L i)/\(∀ i∈p.head,oJ pZ ops.toList i=true->L i) /\
   F6 ops p ι0 vals tn ds a0 L a a'/\Inv B w0 ιb nxb tn ds ι env h nx a' w/\(∀ k,k<nx0->ι k=ι0 k)/\nx0<=nx /\
   l8 aF T C Y tn ops.toList hJ rest env h nx K /\
   (∃ last got,vE ops.toList (p.head.filter (fun i=>!oJ nS ops.toList i)) last got rest=true/\(∀ x∈got,L x)/\(∀ l,last=some l↔∃ d c,done=d++[(l,c)])) /\
   ((∀ i∈p.head,oJ nS ops.toList i=false->L i)\/(aY ι0 B hJ nx0 w/\∀ k o,aw hJ k=some o->aw h k=some o))
variable {B:Nat}{w0:World}{ιb:Nat->Loc}{nxb tn:Nat}{ds:List Deferred}{ι0:Nat->Loc}{nx0:Nat}{h0 hJ:Heap}{a0:Act}{wS:World}{vals:List (Nat × Value)}{env1:List (Nat × Value)}{K:KS}{L:Nat->Prop}{a:Act}{w:World}
theorem NJ.post (X:Ctx P T C Y ops p B w0 ιb nxb tn ds ι0 nx0 h0 hJ a0 wS vals env1 K)(S:NJ T ops p tn ds ι0 a0 wS vals L a w)(hall:∀ i∈p.allocs,L i)(hst:∀ i∈p.head,oJ pZ ops.toList i=true->L i) :
  yK T C Y ops p B w0 ιb nxb tn ds ι0 nx0 hJ a0 vals K L a w:=by
 obtain⟨a',bs,I,r1,r2,r3⟩:=S.on;have hw:aY ι0 B h0 nx0 w:=X.heap.ext S.below;have hnd:p.allocs.Nodup:=by
  have:=X.plan.nodup;unfold gQ.order at this;rw[List.append_assoc,List.nodup_append,List.nodup_append]at this;exact this.2.1.1
 obtain⟨ι,env,h,nx,k1,k2,k3,k4,k5,k6⟩:=LS X.tab X.heap.size p.allocs ι0 env1 h0 nx0 (kY ops ι0 vals a0) X.rest X.env (by rw[wU];exact X.size) hw (fun i hi=>r2 i hi (hall i hi)) hnd (fun i hi j hj=>r3 i hi j hj (hall i hi) (hall j hj)) (by
  intro k o b hk hb i hi e;have h1:=(X.heap.obj k o hk).lt hb;have h2:=(r2 i hi (hall i hi)).1;omega) (fun d hd=>r1 d (fun i hi _=>hd i hi))
 refine⟨[],p.tail,a',ι,env,h,nx,rfl,by simp,fun t ht=>S.noT _ (List.mem_map.2 ⟨t,ht,rfl⟩),hall,hst,I,⟨k2,k3,X.below.trans (S.below.mono X.heap.size),fun k hk=>(k4 k (Nat.lt_of_lt_of_le hk X.le)).trans (X.old k hk),Nat.le_trans X.le k5,I.size',I.defers'⟩,k4,k5,k1,⟨none,[],X.plan.tailP,by simp,by simp⟩,.inr ⟨(X.heap.sub X.sub).ext S.below,fun k o hk=>(k6 k (X.heap.low k o (X.sub k o hk))).trans (X.sub k o hk)⟩⟩
theorem aD9 (X:Ctx P T C Y ops p B w0 ιb nxb tn ds ι0 nx0 h0 hJ a0 wS vals env1 K)(cl:∀ i,L i->∀ j∈dC ops.toList i,L j)(hL:∀ i,L i->i<ops.size){i:Nat}(hi:i∈p.head)(hn:¬ L i)(hr:∀ j∈dC ops.toList i,L j)
  (S:NJ T ops p tn ds ι0 a0 wS vals L a w\/yK T C Y ops p B w0 ιb nxb tn ds ι0 nx0 hJ a0 vals K L a w) (r:Option Nat) (next:Act->World->Prop) (Q:Exit->Act->World->Prop)
  (hnext:∀ a w,(NJ T ops p tn ds ι0 a0 wS vals (LI L i) a w\/yK T C Y ops p B w0 ιb nxb tn ds ι0 nx0 hJ a0 vals K (LI L i) a w)->next a w):wpOpIn (Fr r) 0 P ops Q i next a w:=by
 have hiv:i∈vals.map (·.1):=(by rw[X.heads];exact hi);obtain⟨q,hq,hqi⟩:=List.mem_map.1 hiv;obtain⟨i',v⟩:=q;simp only at hqi;subst hqi;obtain⟨pre,post,hsplit⟩:=List.append_of_mem hq;obtain⟨o,ho,hsc,hdef,hy⟩:=X.yld pre i' v post hsplit;have hdst:cZ ops.toList i'=o.dst:=(by simp[cZ,fO,ho]);have hlt:=(Array.getElem?_eq_some_iff.1 ho).1;have hget:hH ops.toList i'=some o:=(by rw[fO];simpa using ho);have hsel:∀ cs b,o.op≠.select cs b:=by
  intro cs b e;have:=X.plan.plain i' hlt;simp[oJ,hget,e,vH]at this
 obtain⟨a',I⟩:∃ a',F6 ops p ι0 vals tn ds a0 L a a':=by
  rcases S with S|⟨done,rest,a',ι,env,h,nx,_,_,_,_,_,I,_⟩
  ·obtain⟨a',_,I,_⟩:=S.on;exact⟨a',I⟩
  exact⟨a',I⟩
 have hsee:=I.aSe X.plan X.heads X.dlt X.size cl hL hsplit hn hr;have hlook:s8 ops i'=o.looksAt ops:=(by simp[s8,hget]);rw[hlook]at hsee;obtain⟨he,hw⟩:=B5 hsel hsee
 -- what is known qY it
 have hpast:∀ w',jO w.heap.size w w'->next (a.put o.dst (tr ι0 v)) w':=by
  intro w' hb;refine hnext _ _ ?_;rw[<- hdst];rcases S with S|S
  ·refine .inl ?_;obtain⟨a',bs,I,r1,r2,r3⟩:=S.on;have hne:∀ j,j∈p.allocs->j≠i':=fun j hj e=>(X.plan.apart hi).1 (e▸hj);refine⟨fun t ht=>?_,S.below.trans (hb.mono S.below.size),a',bs,I.head X.plan X.heads X.dlt hq,fun d hd=>r1 d (fun j hj hjL=>hd j hj (.inr hjL)),fun j hj hjL=>?_,fun j hj k hk hjL hkL=>r3 j hj k hk (hjL.resolve_left (hne j hj)) (hkL.resolve_left (hne k hk))⟩
   ·rintro(rfl|h)
    ·exact(X.plan.apart hi).2 ht
    exact S.noT t ht h
   obtain⟨hb1,o2,t2,d2,ti2,e1,e2,e3,e4,e5,e6⟩:=r2 j hj (hjL.resolve_left (hne j hj));exact⟨hb1,o2,t2,d2,ti2,e1,e2,e3,e4,(hb.block _ (Array.getElem?_eq_some_iff.1 e5).1).trans e5,e6⟩
  refine .inr ?_;obtain⟨done,rest,a',ι,env,h,nx,e1,e2,e3,e4,e5,I,J,e6,e7,e8,⟨last,got,e9,e10,e11⟩,e12⟩:=S;refine⟨done,rest,a',ι,env,h,nx,e1,fun t ht=>.inr (e2 t ht),fun t ht=>?_,fun j hj=>.inr (e4 j hj),fun j hj hk=>.inr (e5 j hj hk),I.head X.plan X.heads X.dlt hq,⟨J.env,J.heap.ext hb,J.below.trans (hb.mono J.heap.size),J.old,J.le,J.size,J.defers⟩,e6,e7,e8,⟨last,got,e9,fun x hx=>.inr (e10 x hx),e11⟩,?_⟩
  ·rintro(rfl|h)
   ·exact(X.plan.apart hi).2 (by rw[e1];exact List.mem_map.2 ⟨t,List.mem_append_right _ ht,rfl⟩)
   exact e3 t ht h
  ·rcases e12 with e12|⟨e12,e13⟩
   ·exact .inl fun j hj hk=>.inr (e12 j hj hk)
   exact .inr ⟨e12.ext hb,e13⟩
 unfold wpOpIn;simp only[ho];rcases hy with⟨hw',rfl⟩|⟨hw',hrun⟩
 ·rw[hw,hw'];refine⟨fun _ _=>trivial,?_⟩;have:=hpast w (jO.refl _ _)
  rwa [iU (show gT undef=true from rfl)]at this
 rw[hw,hw',if_pos rfl];refine aDe (hrun w ?_ ?_) he hdef r _ Q hpast
 ·cases hk:nS o.op with
  |true=>simp only[o5,hk];exact aY.none (by
   rcases S with S|⟨done,rest,a',ι,env,h,nx,_,_,_,_,_,_,J,_⟩
   ·exact Nat.le_trans X.heap.size S.below.size
   exact J.heap.size)
  |false =>
   simp only[o5,hk];rcases S with S|⟨done,rest,a',ι,env,h,nx,_,_,_,_,_,_,_,_,_,_,_,e12⟩
   ·exact(X.heap.sub X.sub).ext S.below
   ·rcases e12 with e12|e12
    ·exact absurd (e12 i' hi (by simp[oJ,hget,hk])) hn
    exact e12.1
 intro hk;rcases S with S|⟨done,rest,a',ι,env,h,nx,_,_,_,_,e5,_⟩
 ·exact S.below
 exact absurd (e5 i' hi (by simp[oJ,hget,hk])) hn
theorem YV (X:Ctx P T C Y ops p B w0 ιb nxb tn ds ι0 nx0 h0 hJ a0 wS vals env1 K){i:Nat}(hi:i∈p.allocs)(hn:¬ L i)
  (S:NJ T ops p tn ds ι0 a0 wS vals L a w) (r:Option Nat) (next:Act->World->Prop) (Q:Exit->Act->World->Prop)
  (hnext:∀ a w,NJ T ops p tn ds ι0 a0 wS vals (LI L i) a w->next a w):wpOpIn (Fr r) 0 P ops Q i next a w:=by
 obtain⟨o,t,d,ti,ho,hop,hod,hd,hti⟩:=AH X.rest i hi;obtain⟨o2,ho2,hal⟩:=X.plan.allocs i hi;have hoo:ops[i]? = some o:=(by rw[fO]at ho;simpa using ho);rw[hoo]at ho2;injection ho2 with ho2;subst ho2;have hguard:o.guard=none:=by
  unfold P6 at hal;split at hal
  ·rfl
  ·cases hal
 have hdi:cZ ops.toList i=some d:=(by simp[cZ,ho,hod]);obtain⟨a',bs,I,r1,r2,r3⟩:=S.on;have hnh:i∉p.head:=fun h=>(X.plan.apart h).1 hi;unfold wpOpIn;simp only[hoo];rw[if_pos (by simp[Region.wanted,hguard])];refine⟨fun _ _=>trivial,?_⟩;rw[semAt_eq (fun c e=>by rw[hop]at e;cases e)];have hz:=(X.tab t ti hti).zero w;have hrun:(execOp a.eval o).run P w=.ok (.value (.pointer (some ⟨w.heap.size,0,none⟩))) (w.alloc (.cells ti.zv.cells t)):=by
  simp[execOp,hop,Instr.alloc,hz,newVar,newRow]
 rw[hrun];refine hnext _ _ ?_;have hbl:=eP w (.cells ti.zv.cells t);have hbig:∀ j∈p.allocs,L j->bs j<w.heap.size:=fun j hj hjL=>by
  obtain⟨_,_,_,_,_,_,_,_,_,e5,_⟩:=r2 j hj hjL;exact(Array.getElem?_eq_some_iff.1 e5).1
 refine⟨fun t ht=>?_,S.below.trans (hbl.mono S.below.size),a'.put (some d) (.pointer (some ⟨w.heap.size,0,none⟩)),fun j=>if j=i then w.heap.size else bs j,?_,fun d2 h2=>?_,fun j hj hjL=>?_,fun j hj k hk hjL hkL e=>?_⟩
 ·rintro(rfl|h)
  ·exact X.plan.aMC hi ht
  exact S.noT t ht h
 ·have:=I.other X.plan X.heads hnh (.pointer (some ⟨w.heap.size,0,none⟩));rw[hdi]at this;rw[hod];exact this
 ·by_cases e:d2=d
  ·subst e;exact absurd hdi (h2 i hi (.inl rfl))
  rw[jG (fun e'=>e (Option.some.inj e').symm)];exact r1 d2 fun j hj hjL=>h2 j hj (.inr hjL)
 ·by_cases e:j=i
  ·subst e;simp only[if_true];exact⟨S.below.size,o,t,d,ti,ho,hop,hod,hti,(MapKept.heap_alloc w _).1,vI (by rw[I.size'];exact hd)⟩
  simp only[if_neg e];have hjL:=hjL.resolve_left e;obtain⟨hb1,o2,t2,d2,ti2,e1,e2,e3,e4,e5,e6⟩:=r2 j hj hjL;refine⟨hb1,o2,t2,d2,ti2,e1,e2,e3,e4,(hbl.block _ (hbig j hj hjL)).trans e5,?_⟩;rw[jG (fun e'=>e (X.plan.dsts j i d2 (X.plan.SQ j (jQ.2 (.inr (.inl hj)))) (X.plan.SQ i (jQ.2 (.inr (.inl hi)))) (by simp[cZ,e1,e3]) (hdi.trans e')))];exact e6
 simp only at e;by_cases e1:j=i <;> by_cases e2:k=i
 ·rw[e1,e2]
 ·rw[if_pos e1,if_neg e2]at e;have:=hbig k hk (hkL.resolve_left e2);omega
 ·rw[if_neg e1,if_pos e2]at e;have:=hbig j hj (hjL.resolve_left e1);omega
 rw[if_neg e1,if_neg e2]at e;exact r3 j hj k hk (hjL.resolve_left e1) (hkL.resolve_left e2) e
end
section
variable {P:Program}{T:dN}{C:VC}{Y:VY}{ops:Array Oper}{p:gQ}
theorem VM {h:Heap}{nx:Nat}{t:TypeId}{x v:Value}{K:KE}{hJ:Heap}{ad:Addr}(hx:x=.pointer (some ad))(hn:aw hJ ad.block=none)(hs:∀ k o,aw hJ k=some o->aw h k=some o)
  (hl:qL T h nx t x v K):qL T h nx t x v (fun v h' nx'=>K v h' nx'/\∀ k o,aw hJ k=some o->aw h' k=some o):=by
 subst hx;unfold qL at *;split at hl
 case h_2=>exact hl.elim
 rename_i k o heq;injection heq with heq;injection heq with heq;subst heq;simp only at hn ⊢;split at hl
 case h_2=>exact hl.elim
 rename_i ti g sz cs ht hk
 try rw[ht,hk]
 try simp only
 split at hl
 case h_2=>exact hl.elim
 rename_i hsz htup
 try rw[hsz,htup]
 try simp only
 obtain⟨hb,hK⟩:=aH.1 hl;refine aM hb ⟨hK,fun j o' hj=>?_⟩;have hne:j≠k:=fun e=>(by rw[e,hn]at hj;cases hj);rw[mB _ _ hne];exact hs j o' hj
theorem SF {b:Bool}{X Y:Unit->Prop}(h:br b X Y)(hb:b=true):X ():=by subst hb;exact h
theorem L6 {b:Bool}{X Y:Unit->Prop}(h:br b X Y)(hb:b=false):Y ():=by subst hb;exact h
theorem aCq {h:Heap}{sz:Nat}{x:Value}{G G':Nat->List Value->Prop}(hG:∀ m l,G m l->G' m l)(hl:NA h sz x G):NA h sz x G':=by
 unfold NA at *;split at hl
 ·exact hG _ _ hl
 ·split at hl
  ·exact aM (aH.1 hl).1 (hG _ _ (aH.1 hl).2)
  ·split at hl
   ·exact hG _ _ hl
   exact hl.elim
  ·split at hl
   ·exact hG _ _ hl
   exact hl.elim
  exact hl.elim
 exact hl.elim
theorem EK {h:Heap}{nx:Nat}{t:TypeId}{n:Nat}{l:List (Nat × Value)}{K:KE}{hJ:Heap}(hf:∀ k o,aw hJ k=some o->k<nx)(hs:∀ k o,aw hJ k=some o->aw h k=some o)
  (hl:fP T h nx t n l K):fP T h nx t n l (fun v h' nx'=>K v h' nx'/\∀ k o,aw hJ k=some o->aw h' k=some o):=by
 have key:∀ o',∀ k o,aw hJ k=some o->aw (cO h nx o') k=some o:=fun o' k o hk=>by
  have:=hf k o hk;rw[kQ _ _ aa];exact hs k o hk
 unfold fP at *;split at hl
 case h_2=>exact hl.elim
 split at hl
 case h_2=>exact hl.elim
 split at hl
 case h_2=>exact hl.elim
 split at hl
 case h_2=>exact hl.elim
 first|exact⟨hl,key _⟩|(simp only[*];exact⟨hl,key _⟩)
theorem RG {h:Heap}{nx:Nat}{st xt:TypeId}{s x:Value}{K:KE}{hJ:Heap}(hf:∀ k o,aw hJ k=some o->k<nx)(hk:∀ ad n c,s=.slice (some ad) n c->aw hJ ad.block=none)(hs:∀ k o,aw hJ k=some o->aw h k=some o)
  (hl:oA aF T h nx st xt s x K):oA aF T h nx st xt s x (fun v h' nx'=>K v h' nx'/\∀ k o,aw hJ k=some o->aw h' k=some o):=by
 have key:∀ o',∀ k o,aw hJ k=some o->aw (cO h nx o') k=some o:=fun o' k o hk=>by
  have:=hf k o hk;rw[kQ _ _ aa];exact hs k o hk
 have must_k:∀{b:Bool} {v:Value} {h':Heap} {nx':Nat},(∀ k o,aw hJ k=some o->aw h' k=some o)->eF b (K v h' nx')->eF b (K v h' nx'/\∀ k o,aw hJ k=some o->aw h' k=some o):=fun hh hm=>aM (aH.1 hm).1 ⟨(aH.1 hm).2,hh⟩;unfold oA at *;split at hl
 ·split at hl
  ·split at hl
   ·first|exact must_k (key _) hl|(simp only[*];exact must_k (key _) hl)
   exact hl.elim
  exact hl.elim
 ·split at hl
  ·exact hl.elim
  split at hl
  ·exact hl.elim
  refine aCq (fun m src hG=>?_) hl;split at hG
  ·exact aGT (fun hb=>⟨SF hG hb,hs⟩) (fun hb=>must_k (key _) (L6 hG hb))
  ·rename_i k o n c;have hkk:=hk _ _ _ rfl;simp only at hkk;have hne:∀ j o',aw hJ j=some o'->j≠k:=fun j o' hj e=>(by rw[e,hkk]at hj;cases hj);split at hG
   ·split at hG
    ·exact aGT (fun hb=>⟨SF hG hb,hs⟩) (fun hb=>must_k (key _) (L6 hG hb))
    exact hG.elim
   ·refine aGT (fun hb=>must_k (fun j o' hj=>?_) (SF hG hb)) (fun hb=>must_k (fun j o' hj=>?_) (L6 hG hb))
    ·rw[mB _ _ (hne j o' hj)];exact hs j o' hj
    have:=hf j o' hj;rw[kQ _ _ aa,dO,if_neg (hne j o' hj)];exact hs j o' hj
   exact hG.elim
  exact hG.elim
 exact hl.elim
theorem C0 {l:List Oper}{loads:List Nat}:∀{rest:List (Nat × Bool)} {last:Option Nat} {got:List Nat},vE l loads last got rest=true->∀ pre t c i c' post,rest=pre++(t,c)::(i,c')::post->t∈sI l i
 |[],_,_,_,pre,t,c,i,c',post,e=>by simp at e
 |(x,cx)::r,last,got,h,pre,t,c,i,c',post,e=>by
  simp only[vE,af]at h;cases pre with
  |nil =>
   simp only[List.nil_append,List.cons.injEq,Prod.mk.injEq]at e;obtain⟨⟨rfl,rfl⟩,rfl⟩:=e;have h2:=h.2;simp only[vE,af]at h2;exact eT.1 h2.1.1
  |cons q pre =>
   simp only[List.cons_append,List.cons.injEq]at e;obtain⟨rfl,rfl⟩:=e;exact C0 h.2 pre t c i c' post rfl
theorem K3 {l:List Oper}{loads:List Nat}{rest:List (Nat × Bool)}{last:Option Nat}{got:List Nat}(h:vE l loads last got rest=true){L:Nat->Prop}(hn:∀ t∈rest,¬ L t.1){i:Nat}(hi:i∈rest.map (·.1))(cl:∀ i,L i->∀ j∈dC l i,L j)(hr:∀ j∈dC l i,L j) :
  ∃ c r,rest=(i,c)::r:=by
 obtain⟨q,hq,rfl⟩:=List.mem_map.1 hi;obtain⟨i,c⟩:=q;obtain⟨pre,post,rfl⟩:=List.append_of_mem hq;rcases List.eq_nil_or_concat pre with rfl|⟨pre',⟨t,ct⟩,rfl⟩
 ·exact⟨c,post,rfl⟩
 have:=C0 h pre' t ct i c post (by simp);exact absurd (qC cl hr t this) (hn (t,ct) (by simp))
variable {B:Nat}{w0:World}{ιb:Nat->Loc}{nxb tn:Nat}{ds:List Deferred}{ι0:Nat->Loc}{nx0:Nat}{h0 hJ:Heap}{a0:Act}{wS:World}{vals:List (Nat × Value)}{env1:List (Nat × Value)}{K:KS}{L:Nat->Prop}{a:Act}{w:World}
theorem aCo (X:Ctx P T C Y ops p B w0 ιb nxb tn ds ι0 nx0 h0 hJ a0 wS vals env1 K){i:Nat}(hi:i∈p.tail.map (·.1))(hn:¬ L i)(cl:∀ i,L i->∀ j∈dC ops.toList i,L j)(hr:∀ j∈dC ops.toList i,L j)
  (S:yK T C Y ops p B w0 ιb nxb tn ds ι0 nx0 hJ a0 vals K L a w) (r:Option Nat) (next:Act->World->Prop) (Q:Exit->Act->World->Prop)
  (hnext:∀ a w,yK T C Y ops p B w0 ιb nxb tn ds ι0 nx0 hJ a0 vals K (LI L i) a w->next a w):wpOpIn (Fr r) 0 P ops Q i next a w:=by
 obtain⟨done,rest,a',ι,env,h,nx,e1,e2,e3,e4,e5,I,J,e6,e7,e8,⟨last,got,e9,e10,e11⟩,e12⟩:=S;have hir:i∈rest.map (·.1):=by
  rw[e1,List.map_append]at hi;rcases List.mem_append.1 hi with h|h
  ·obtain⟨t,ht,rfl⟩:=List.mem_map.1 h;exact absurd (e2 t ht) hn
  exact h
 obtain⟨chk,rr,rfl⟩:=K3 e9 e3 hir cl hr;have hnh:i∉p.head:=fun h=>(X.plan.apart h).2 hi;have hin:i<ops.size:=X.plan.SQ i (jQ.2 (.inr (.inr hi)));simp only[BG]at e8;split at e8
 ·exact e8.elim
 rename_i o ho;have hoo:ops[i]? = some o:=(by rw[fO]at ho;simpa using ho);have hdst:cZ ops.toList i=o.dst:=(by simp[cZ,ho]);have hlook:s8 ops i=o.looksAt ops:=(by simp[s8,ho]);have hpl:=X.plan.plain i hin;have hsel:∀ cs b,o.op≠.select cs b:=by
  intro cs b e;simp[oJ,ho,e,vH]at hpl
 have hdef:∀ c,o.op≠.defer c:=by
  intro c e;simp[oJ,ho,e,vH]at hpl
 have hsee:=I.aPC X.plan hnh hin hr;rw[hlook]at hsee;obtain⟨he,hw⟩:=B5 hsel hsee;obtain⟨env1',he1,hcase⟩:=yT J.env e8;have hnodup:∀ t∈rr,t.1≠i:=by
  intro t ht e;have:=X.plan.nodup;unfold gQ.order at this;rw[e1,List.map_append,List.nodup_append]at this;have h2:=this.2.1;rw[List.nodup_append]at h2;have:=h2.2.1;simp only[List.map_cons,List.nodup_cons]at this;exact this.1 (List.mem_map.2 ⟨t,ht,e⟩)
 have htail:=e9;simp only[vE,af]at htail;obtain⟨⟨_,hloads⟩,htail⟩:=htail
 -- what is known qY it
 have hpast:∀ v env2 h' nx' ι' w',l8 aF T C Y tn ops.toList hJ rr env2 h' nx' K->dV ι' nx' env2 (a'.put o.dst (tr ι' v))->aY ι' B h' nx' w'->jO B w w'->(∀ k,k<nx->ι' k=ι k)->nx<=nx' ->
   (chk=true->(∀ k o,aw hJ k=some o->aw h k=some o)->∀ k o,aw hJ k=some o->aw h' k=some o)->next (a.put o.dst (tr ι' v)) w':=by
  intro v env2 h' nx' ι' w' k1 k2 k3 k4 k5 k6 k7;refine hnext _ _ ?_;have hI:=I.other X.plan X.heads hnh (tr ι' v);rw[hdst]at hI;refine⟨done++[(i,chk)],rr,a'.put o.dst (tr ι' v),ι',env2,h',nx',by rw[e1];simp,fun t ht=>?_,fun t ht=>?_,fun j hj=>.inr (e4 j hj),fun j hj hk=>.inr (e5 j hj hk),hI,J.step k2 k3 k4 k5 k6 (by rw[tQ];exact J.size) (put_defers _ _ _),fun k hk=>(k5 k (Nat.lt_of_lt_of_le hk e7)).trans (e6 k hk),Nat.le_trans e7 k6,k1,⟨some i,sI ops.toList i++got,htail,fun x hx=>?_,fun l=>?_⟩,?_⟩
  ·rcases List.mem_append.1 ht with ht|ht
   ·exact .inr (e2 t ht)
   simp at ht;subst ht;exact .inl rfl
  ·rintro(h|h)
   ·exact hnodup t ht h
   exact e3 t (by simp[ht]) h
  ·rcases List.mem_append.1 hx with hx|hx
   ·exact .inr (qC cl hr x hx)
   exact .inr (e10 x hx)
  ·constructor
   ·intro h;injection h with h;subst h;exact⟨done,chk,rfl⟩
   rintro⟨d,c,hd⟩;have:=List.append_inj' hd rfl;simp at this;rw[this.2.1]
  ·cases chk with
   |false =>
    refine .inl fun j hj hk=>.inr ?_;simp only[Bool.false_or]at hloads;have:=yR hloads j (List.mem_filter.2 ⟨hj,by simp[hk]⟩);rcases List.mem_append.1 this with h|h
    ·exact qC cl hr j h
    exact e10 j h
   |true =>
    rcases e12 with e12|⟨e12,e13⟩
    ·exact .inl fun j hj hk=>.inr (e12 j hj hk)
    have hs:=k7 rfl e13;exact .inr ⟨k3.back (X.heap.sub X.sub) hs (fun k hk=>(k5 k (Nat.lt_of_lt_of_le hk e7)).trans (e6 k hk)),hs⟩
 unfold wpOpIn;simp only[hoo];rcases hcase with⟨hwa,hl⟩|⟨hwa,hl⟩
 ·rw[hw,hwa,if_pos rfl];obtain⟨has,hl1⟩:=aH.1 hl;clear hl
  -- the operation,with what it keeps
  have hl2:tD aF T C Y env1' h nx o.op (fun v h' nx'=>(fW tn env1' o.dst v fun env'=>l8 aF T C Y tn ops.toList hJ rr env' h' nx' K) /\
    (chk=true->(∀ k o,aw hJ k=some o->aw h k=some o)->∀ k o,aw hJ k=some o->aw h' k=some o)):=by
   cases chk with
   |false =>
    have:(fun v h' nx'=>(fW tn env1' o.dst v fun env'=>l8 aF T C Y tn ops.toList hJ rr env' h' nx' K) /\
      (false=true->(∀ k o,aw hJ k=some o->aw h k=some o)->∀ k o,aw hJ k=some o->aw h' k=some o))=(fun v h' nx'=>fW tn env1' o.dst v fun env'=>l8 aF T C Y tn ops.toList hJ rr env' h' nx' K):=by
     funext v h' nx';simp
    rw[this];exact hl1
   |true =>
    unfold B8 at has;simp only at has;have hfr:∀ k o,aw hJ k=some o->k<nx:=fun k o hk=>Nat.lt_of_lt_of_le ((X.heap.sub X.sub).low k o hk) e7;split at has
    case h_6=>cases has
    case h_4 =>
     rename_i t n ps hop;rw[hop]at hl1 ⊢;simp only[tD]at hl1 ⊢;split at hl1
     case h_2=>exact hl1.elim
     rename_i l hps;by_cases hs:∀ k o,aw hJ k=some o->aw h k=some o
     ·refine cast ?_ (EK hfr hs hl1);congr 1;funext v h' nx';exact propext ⟨fun q=>⟨q.1,fun _ _=>q.2⟩,fun q=>⟨q.1,q.2 (by trivial) hs⟩⟩
     refine cast ?_ hl1;congr 1;funext v h' nx';exact propext ⟨fun q=>⟨q,fun _ h=>absurd h hs⟩,fun q=>q.1⟩
    case h_5 =>
     rename_i c hop;obtain⟨cal,cargs,cats⟩:=c;simp only at has;split at has
     case h_2=>cases has
     split at has
     case h_2=>cases has
     rename_i s x' hva;rw[hop]at hl1 ⊢;simp only[tD,hva]at hl1 ⊢;split at hl1
     case h_2=>exact hl1.elim
     rename_i st xt s1 x1 hat hsx;injection hsx with hsx;injection hsx with e1 hsx;injection hsx with e2;subst e1 e2;have hkk:∀ ad n c,s=.slice (some ad) n c->aw hJ ad.block=none:=by
      rintro ad n c rfl;simp only at has;split at has
      ·assumption
      ·cases has
     by_cases hs:∀ k o,aw hJ k=some o->aw h k=some o
     ·refine cast ?_ (RG hfr hkk hs hl1);congr 1;funext v h' nx';exact propext ⟨fun q=>⟨q.1,fun _ _=>q.2⟩,fun q=>⟨q.1,q.2 (by trivial) hs⟩⟩
     refine cast ?_ hl1;congr 1;funext v h' nx';exact propext ⟨fun q=>⟨q,fun _ h=>absurd h hs⟩,fun q=>q.1⟩
    case h_3 =>
     rename_i x hop;rw[hop]at hl1 ⊢;simp only[tD]at hl1 ⊢;refine cast ?_ hl1;congr 1;funext v;exact propext ⟨fun q=>⟨q,fun _ h=>h⟩,fun q=>q.1⟩
    case h_2 =>
     rename_i t x hop;rw[hop]at hl1 ⊢;simp only[tD]at hl1 ⊢;refine cast ?_ hl1;congr 1;funext v;exact propext ⟨fun q=>⟨q,fun _ h=>h⟩,fun q=>q.1⟩
    rename_i t x y hop;split at has
    case h_2=>cases has
    rename_i ad hx;split at has
    case h_2=>cases has
    rename_i hlk;rw[hop]at hl1 ⊢;simp only[tD]at hl1 ⊢;obtain⟨px,hpx,hl⟩:=dR hl1;obtain⟨v,hv,hl⟩:=dR hl;rw[hpx,hv];simp only[on];rw[hpx]at hx;injection hx with hx;by_cases hs:∀ k o,aw hJ k=some o->aw h k=some o
    ·have:=VM hx hlk hs hl;refine(?_:qL T h nx t px v _);refine cast ?_ this;congr 1;funext v h' nx';exact propext ⟨fun q=>⟨q.1,fun _ _=>q.2⟩,fun q=>⟨q.1,q.2 (by trivial) hs⟩⟩
    refine cast ?_ hl;congr 1;funext v h' nx';exact propext ⟨fun q=>⟨q,fun _ h=>absurd h hs⟩,fun q=>q.1⟩
  refine(WX X.tab X.calls X.yields he1 J.heap hl2).upon hdef he r next Q fun v h' nx' ι' w' k1 k2 k3 k4 k5 k6=>?_;obtain⟨env2,k7,k8,k9,k10⟩:=rV (he1.names k6 k5) J.size k1.1 k2;exact hpast v env2 h' nx' ι' w' k7 k8 k3 k4 k5 k6 k1.2
 rw[hw,hwa];refine⟨fun _ _=>trivial,?_⟩;obtain⟨env2,k7,k8,k9,k10⟩:=rV he1 J.size hl (v:=undef) (c9 rfl);have:=hpast undef env2 h nx ι w k7 k8 J.heap (jO.refl _ _) (fun _ _=>rfl) (ah _) (fun _ hs=>hs)
 rwa [iU (show gT undef=true from rfl)]at this
end
end Go.Aw
end
