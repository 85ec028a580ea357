/-
  Parts of a proof. No condition.
-/
import Derived.Test.YticajjhjehljpaaGreatQAg
set_option linter.unusedSimpArgs false
set_option linter.unusedVariables false
noncomputable section
namespace Go.Aw
open Go.RowKit
def sJ {α:Type}(E:(α→Prop)→Prop):Prop:=∀ K,E K→∃ x,K x∧∀ K':α→Prop,K' x→E K'
def eL (E:KE→Prop):Prop:=∀ K:KE,E K→∃ v h nx,K v h nx∧∀ K':KE,K' v h nx→E K'
def j8 (E:KS→Prop):Prop:=∀ K:KS,E K→∃ e h nx,K e h nx∧∀ K':KS,K' e h nx→E K'
theorem aH3 {b:Bool}{A B:Unit→Prop}:br b A B↔((b=true∧A ())∨(b=false∧B ())):=by
 cases b <;> simp [br]
variable {A:Ar}{T:cF}{h:Heap}{nx:Nat}
theorem iL {α:Type}{x:Option Value}{F:Value→(α→Prop)→Prop}(hF:∀ v,sJ (F v)):sJ (fun K=>on x (fun v=>F v K)):=by
 intro K hl;cases x with
 |none=>exact hl.elim
 |some v=>exact hF v K hl
theorem gZ {x:Option Value}{F:Value→KE→Prop}(hF:∀ v,eL (F v)):eL (fun K=>on x (fun v=>F v K)):=by
 intro K hl;cases x with
 |none=>exact hl.elim
 |some v=>exact hF v K hl
theorem tB {x:Option Value}:sJ (on x):=by
 intro K hl;cases x with
 |none=>exact hl.elim
 |some v=>exact⟨v,hl,fun K' h=>h⟩
theorem G9 {t:TypeId}{x:Value}:sJ (rR T h t x):=by
 intro K hl;unfold rR at *
 repeat' (split at hl)
 all_goals first|(exact hl.elim)|(exact⟨_,hl,fun K' h=>h⟩)|(exact⟨_,_,_,hl,fun K' h=>h⟩)|(obtain⟨hb,hl⟩:=aD.1 hl;exact⟨_,hl,fun K' h=>aJ hb h⟩)|(obtain⟨hb,hl⟩:=aD.1 hl;exact⟨_,_,_,hl,fun K' h=>aJ hb h⟩)
theorem CV {t:TypeId}{x:Value}{f:Nat}:sJ (gR T t x f):=by
 intro K hl;unfold gR at *
 repeat' (split at hl)
 all_goals first|(exact hl.elim)|(exact⟨_,hl,fun K' h=>h⟩)|(exact⟨_,_,_,hl,fun K' h=>h⟩)|(obtain⟨hb,hl⟩:=aD.1 hl;exact⟨_,hl,fun K' h=>aJ hb h⟩)|(obtain⟨hb,hl⟩:=aD.1 hl;exact⟨_,_,_,hl,fun K' h=>aJ hb h⟩)
theorem LQ {α:Type}{b:Bool}{E:(α→Prop)→Prop}(h:sJ E):sJ (fun K=>dI b (E K)):=by
 intro K hl;obtain⟨hb,hl⟩:=aD.1 hl;obtain⟨x,h1,h2⟩:=h K hl;exact⟨x,h1,fun K' hk=>aJ hb (h2 K' hk)⟩
theorem fF {b:Bool}{E:KE→Prop}(h:eL E):eL (fun K=>dI b (E K)):=by
 intro K hl;obtain⟨hb,hl⟩:=aD.1 hl;obtain⟨x,y,z,h1,h2⟩:=h K hl;exact⟨x,y,z,h1,fun K' hk=>aJ hb (h2 K' hk)⟩
theorem v9 {α:Type}{x:α}:sJ (fun K:α→Prop=>K x):=fun K hl=>⟨x,hl,fun K' h=>h⟩
theorem cE {v:Value}{h:Heap}{nx:Nat}:eL (fun K=>K v h nx):=fun K hl=>⟨v,h,nx,hl,fun K' h=>h⟩
theorem U7 {α:Type}:sJ (fun _:α→Prop=>False):=fun K hl=>hl.elim
theorem eT:eL (fun _=>False):=fun K hl=>hl.elim
theorem aGF {α:Type}{b:Bool}{E F:(α→Prop)→Prop}(hE:sJ E)(hF:sJ F):sJ (fun K=>br b (fun _=>E K) (fun _=>F K)):=by
 intro K hl;cases b
 ·exact hF K hl
 ·exact hE K hl
theorem xZ {b:Bool}{E F:KE→Prop}(hE:eL E)(hF:eL F):eL (fun K=>br b (fun _=>E K) (fun _=>F K)):=by
 intro K hl;cases b
 ·exact hF K hl
 ·exact hE K hl
theorem D7 {t:TypeId}{x i:Value}:sJ (gE A T t x i):=by
 intro K hl;unfold gE at *
 repeat' (split at hl)
 all_goals first|(exact hl.elim)|(exact⟨_,hl,fun K' h=>h⟩)|(exact⟨_,_,_,hl,fun K' h=>h⟩)|(obtain⟨hb,hl⟩:=aD.1 hl;exact⟨_,hl,fun K' h=>aJ hb h⟩)|(obtain⟨hb,hl⟩:=aD.1 hl;exact⟨_,_,_,hl,fun K' h=>aJ hb h⟩)
theorem YM {op:BinOp}{k:IntKind}{a b:Int}:sJ (U2 A op k a b):=by
 intro K hl;unfold U2 at *
 repeat' (split at hl)
 all_goals first|(exact hl.elim)|(exact⟨_,hl,fun K' h=>h⟩)|(exact⟨_,_,_,hl,fun K' h=>h⟩)|(obtain⟨hb,hl⟩:=aD.1 hl;exact⟨_,hl,fun K' h=>aJ hb h⟩)|(obtain⟨hb,hl⟩:=aD.1 hl;exact⟨_,_,_,hl,fun K' h=>aJ hb h⟩)
theorem HZ {t:TypeId}{cs:List Value}{o:Nat}:sJ (AP T t cs o):=by
 intro K hl;unfold AP at *
 repeat' (split at hl)
 all_goals first|(exact hl.elim)|(exact⟨_,hl,fun K' h=>h⟩)|(exact⟨_,_,_,hl,fun K' h=>h⟩)|(obtain⟨hb,hl⟩:=aD.1 hl;exact⟨_,hl,fun K' h=>aJ hb h⟩)|(obtain⟨hb,hl⟩:=aD.1 hl;exact⟨_,_,_,hl,fun K' h=>aJ hb h⟩)
theorem RP {t:TypeId}{x:Value}{f:Nat}:sJ (r7 T t x f):=by
 intro K hl;unfold r7 at *
 repeat' (split at hl)
 all_goals first|(exact HZ K hl)|(exact hl.elim)|(exact⟨_,hl,fun K' h=>h⟩)|(exact⟨_,_,_,hl,fun K' h=>h⟩)|(obtain⟨hb,hl⟩:=aD.1 hl;exact⟨_,hl,fun K' h=>aJ hb h⟩)|(obtain⟨hb,hl⟩:=aD.1 hl;exact⟨_,_,_,hl,fun K' h=>aJ hb h⟩)
theorem QI {t:TypeId}{x i:Value}:sJ (qO A T t x i):=by
 intro K hl;unfold qO at *
 repeat' (split at hl)
 all_goals first|(exact LQ HZ K hl)|(exact hl.elim)|(exact⟨_,hl,fun K' h=>h⟩)|(exact⟨_,_,_,hl,fun K' h=>h⟩)|(obtain⟨hb,hl⟩:=aD.1 hl;exact⟨_,hl,fun K' h=>aJ hb h⟩)|(obtain⟨hb,hl⟩:=aD.1 hl;exact⟨_,_,_,hl,fun K' h=>aJ hb h⟩)
theorem aA7 {op:BinOp}{t:TypeId}{x y:Value}:sJ (PQ A T op t x y):=by
 intro K hl;unfold PQ at *
 repeat' (split at hl)
 all_goals first|(exact hl.elim)|(exact⟨_,hl,fun K' h=>h⟩)|(exact⟨_,_,_,hl,fun K' h=>h⟩)|(obtain⟨hb,hl⟩:=aD.1 hl;exact⟨_,hl,fun K' h=>aJ hb h⟩)|(obtain⟨hb,hl⟩:=aD.1 hl;exact⟨_,_,_,hl,fun K' h=>aJ hb h⟩)|(exact YM K hl)
theorem aDo {op:UnOp}{x:Value}:sJ (vun A op x):=by
 intro K hl;unfold vun at *
 repeat' (split at hl)
 all_goals first|(exact hl.elim)|(exact⟨_,hl,fun K' h=>h⟩)|(exact⟨_,_,_,hl,fun K' h=>h⟩)|(obtain⟨hb,hl⟩:=aD.1 hl;exact⟨_,hl,fun K' h=>aJ hb h⟩)|(obtain⟨hb,hl⟩:=aD.1 hl;exact⟨_,_,_,hl,fun K' h=>aJ hb h⟩)
theorem PG {t:TypeId}{ps:List (Nat × Value)}:sJ (vR T t ps):=by
 intro K hl;unfold vR at *
 repeat' (split at hl)
 all_goals first|(exact hl.elim)|(exact⟨_,hl,fun K' h=>h⟩)|(exact⟨_,_,_,hl,fun K' h=>h⟩)|(obtain⟨hb,hl⟩:=aD.1 hl;exact⟨_,hl,fun K' h=>aJ hb h⟩)|(obtain⟨hb,hl⟩:=aD.1 hl;exact⟨_,_,_,hl,fun K' h=>aJ hb h⟩)
theorem J4 {b:Builtin}{ts:Array TypeId}{vs:List Value}:sJ (mS A T b ts vs):=by
 intro K hl;unfold mS at *
 repeat' (split at hl)
 all_goals first|(exact hl.elim)|(exact⟨_,hl,fun K' h=>h⟩)|(exact⟨_,_,_,hl,fun K' h=>h⟩)|(obtain⟨hb,hl⟩:=aD.1 hl;exact⟨_,hl,fun K' h=>aJ hb h⟩)|(obtain⟨hb,hl⟩:=aD.1 hl;exact⟨_,_,_,hl,fun K' h=>aJ hb h⟩)|(exact tB K hl)
theorem X9 {op:BinOp}{t:TypeId}{x:Value}:sJ (PJ T h op t x):=by
 intro K hl;unfold PJ at *
 repeat' (split at hl)
 all_goals first|(exact hl.elim)|(exact⟨_,hl,fun K' h=>h⟩)
theorem HE {env:List (Nat × Value)}{op:Op}:sJ (iH A T env h op):=by
 show sJ (fun K=>iH A T env h op K);cases op <;> simp only [iH]
 case move x=>exact tB
 case assign x=>exact tB
 case pick c a b =>
  refine iL fun u=>?_;intro K hl;split at hl
  ·exact aGF tB tB K hl
  ·exact hl.elim
 case nilCheck x =>
  refine iL fun u=>?_;intro K hl;split at hl
  all_goals first|(exact hl.elim)|(exact⟨_,hl,fun K' h=>h⟩)
 case load t x=>exact iL fun u=>G9
 case fieldAddr s x f=>exact iL fun u=>CV
 case field s x f=>exact iL fun u=>RP
 case indexAddr t x i=>exact iL fun u=>iL fun j=>D7
 case index t x i=>exact iL fun u=>iL fun j=>QI
 case binOp op t x y yt =>
  refine iL fun u=>iL fun v=>?_;intro K hl;split at hl
  ·exact X9 K hl
  ·exact aA7 K hl
 case unOp op t x=>exact iL fun u=>aDo
 case convert s d x =>
  refine iL fun u=>?_;intro K hl;split at hl
  ·exact LQ v9 K hl
  ·exact hl.elim
 case makeFunc fn first cap =>
  intro K hl
  repeat' (split at hl)
  all_goals first|(exact hl.elim)|(exact⟨_,hl,fun K' h=>h⟩)
 case extract x i =>
  refine iL fun u=>?_;intro K hl;split at hl
  ·exact tB K hl
  ·exact hl.elim
 case build t ps =>
  intro K hl;split at hl
  ·exact PG K hl
  ·exact hl.elim
 case call c =>
  intro K hl;split at hl
  ·split at hl
   ·exact J4 K hl
   ·exact hl.elim
  ·exact hl.elim
 all_goals exact U7
theorem SY {E:(Value→Prop)→Prop}(hE:sJ E):eL (fun K=>E (fun v=>K v h nx)):=by
 intro K hl;obtain⟨v,h1,h2⟩:=hE _ hl;exact⟨v,h,nx,h1,fun K' hk=>h2 _ hk⟩
theorem Q1 {t:TypeId}{x v:Value}:eL (mU T h nx t x v):=by
 intro K hl;unfold mU at *
 repeat' (split at hl)
 all_goals first|(exact hl.elim)|(exact⟨_,hl,fun K' h=>h⟩)|(exact⟨_,_,_,hl,fun K' h=>h⟩)|(obtain⟨hb,hl⟩:=aD.1 hl;exact⟨_,hl,fun K' h=>aJ hb h⟩)|(obtain⟨hb,hl⟩:=aD.1 hl;exact⟨_,_,_,hl,fun K' h=>aJ hb h⟩)
theorem QM {t:TypeId}:eL (uU T h nx t):=by
 intro K hl;unfold uU at *
 repeat' (split at hl)
 all_goals first|(exact hl.elim)|(exact⟨_,hl,fun K' h=>h⟩)|(exact⟨_,_,_,hl,fun K' h=>h⟩)|(obtain⟨hb,hl⟩:=aD.1 hl;exact⟨_,hl,fun K' h=>aJ hb h⟩)|(obtain⟨hb,hl⟩:=aD.1 hl;exact⟨_,_,_,hl,fun K' h=>aJ hb h⟩)
theorem aAu {v:Value}:eL (OX h nx v):=by
 intro K hl;unfold OX at *
 repeat' (split at hl)
 all_goals first|(exact hl.elim)|(exact⟨_,hl,fun K' h=>h⟩)|(exact⟨_,_,_,hl,fun K' h=>h⟩)|(obtain⟨hb,hl⟩:=aD.1 hl;exact⟨_,hl,fun K' h=>aJ hb h⟩)|(obtain⟨hb,hl⟩:=aD.1 hl;exact⟨_,_,_,hl,fun K' h=>aJ hb h⟩)
theorem A9 {t:TypeId}{n:Nat}{ps:List (Nat × Value)}:eL (dQ T h nx t n ps):=by
 intro K hl;unfold dQ at *
 repeat' (split at hl)
 all_goals first|(exact hl.elim)|(exact⟨_,hl,fun K' h=>h⟩)|(exact⟨_,_,_,hl,fun K' h=>h⟩)|(obtain⟨hb,hl⟩:=aD.1 hl;exact⟨_,hl,fun K' h=>aJ hb h⟩)|(obtain⟨hb,hl⟩:=aD.1 hl;exact⟨_,_,_,hl,fun K' h=>aJ hb h⟩)
theorem QS {t:TypeId}{x:Value}:eL (uM T h nx t x):=by
 intro K hl;unfold uM at *
 repeat' (split at hl)
 all_goals first|(exact hl.elim)|(exact⟨_,hl,fun K' h=>h⟩)|(exact⟨_,_,_,hl,fun K' h=>h⟩)|(obtain⟨hb,hl⟩:=aD.1 hl;exact⟨_,hl,fun K' h=>aJ hb h⟩)|(obtain⟨hb,hl⟩:=aD.1 hl;exact⟨_,_,_,hl,fun K' h=>aJ hb h⟩)
theorem FB {t:TypeId}{x k v:Value}:eL (iZ A T h nx t x k v):=by
 intro K hl;unfold iZ at *
 repeat' (split at hl)
 all_goals first|(exact hl.elim)|(exact⟨_,hl,fun K' h=>h⟩)|(exact⟨_,_,_,hl,fun K' h=>h⟩)|(obtain⟨hb,hl⟩:=aD.1 hl;exact⟨_,hl,fun K' h=>aJ hb h⟩)|(obtain⟨hb,hl⟩:=aD.1 hl;exact⟨_,_,_,hl,fun K' h=>aJ hb h⟩)
theorem AS {t:TypeId}{x k:Value}{ok:Bool}:sJ (nC A T h t x k ok):=by
 intro K hl;unfold nC at *
 repeat' (split at hl)
 all_goals first|(exact hl.elim)|(exact⟨_,hl,fun K' h=>h⟩)|(exact⟨_,_,_,hl,fun K' h=>h⟩)|(obtain⟨hb,hl⟩:=aD.1 hl;exact⟨_,hl,fun K' h=>aJ hb h⟩)|(obtain⟨hb,hl⟩:=aD.1 hl;exact⟨_,_,_,hl,fun K' h=>aJ hb h⟩)
theorem aAt {n c:Nat}{hi:Option Value}{G:Nat→KE→Prop}(hG:∀ m,eL (G m)):eL (fun K=>vhi A n c hi fun m=>G m K):=by
 intro K hl;unfold vhi at *;split at hl
 ·exact hG _ K hl
 ·exact fF (hG _) K hl
 ·exact hl.elim
theorem DX {t:TypeId}{x:Value}{lo hi mx:Option Value}:eL (rF A T h nx t x lo hi mx):=by
 intro K hl;unfold rF at *;split at hl
 case h_2=>exact hl.elim
 split at hl
 ·exact hl.elim
 split at hl
 ·split at hl
  ·exact cE K hl
  ·exact hl.elim
 ·refine aAt (fun m=>?_) K hl;intro K hl;split at hl
  ·exact cE K hl
  ·refine fF ?_ K hl;intro K hl;split at hl
   ·exact xZ cE cE K hl
   ·exact hl.elim
  ·exact hl.elim
 ·split at hl
  ·exact cE K hl
  ·exact hl.elim
 ·split at hl
  ·exact fF cE K hl
  ·exact fF cE K hl
  ·exact hl.elim
 ·exact hl.elim
theorem W1 {sz:Nat}{x:Value}{G:Nat→List Value→KE→Prop}(hG:∀ m l,eL (G m l)):eL (fun K=>GD h sz x fun m l=>G m l K):=by
 intro K hl;unfold GD at *;split at hl
 ·exact hG _ _ K hl
 ·split at hl
  ·exact fF (hG _ _) K hl
  ·split at hl
   ·exact hG _ _ K hl
   ·exact hl.elim
  ·split at hl
   ·exact hG _ _ K hl
   ·exact hl.elim
  ·exact hl.elim
 ·exact hl.elim
theorem EB {t:TypeId}{l c:Value}:eL (jB A T h nx t l c):=by
 intro K hl;unfold jB at *;split at hl
 case h_2=>exact hl.elim
 split at hl
 case h_2=>exact hl.elim
 exact fF cE K hl
theorem OP {st xt:TypeId}{s x:Value}:eL (kM A T h nx st xt s x):=by
 intro K hl;unfold kM at *;split at hl
 case h_3=>exact hl.elim
 case h_1 =>
  split at hl
  case h_2=>exact hl.elim
  split at hl
  case h_2=>exact hl.elim
  exact fF cE K hl
 split at hl
 ·exact hl.elim
 split at hl
 ·exact hl.elim
 refine W1 (fun m l=>?_) K hl;intro K hl;split at hl
 ·exact xZ cE (fF cE) K hl
 ·split at hl
  ·split at hl
   ·exact xZ cE (fF cE) K hl
   ·exact hl.elim
  ·exact xZ (fF cE) (fF cE) K hl
  ·exact hl.elim
 ·exact hl.elim
variable {A:Ar}{T:cF}{C:VC}{Y:VY}
theorem BX (hC:dM C)(hY:dM Y){env:List (Nat × Value)}{h:Heap}{nx:Nat}{op:Op}:eL (oZ A T C Y env h nx op):=by
 have hlook:eL (fun K=>iH A T env h op (fun v=>K v h nx)):=SY HE;show eL (fun K=>oZ A T C Y env h nx op K);cases op
 case store t x y=>exact gZ fun p=>gZ fun v=>Q1
 case alloc t=>exact QM
 case box t x=>exact gZ fun v=>aAu
 case buildSlice t n ps =>
  simp only [oZ];intro K hl;split at hl
  ·exact A9 K hl
  ·exact hl.elim
 case slice t x lo hi mx =>
  simp only [oZ];refine gZ fun v=>?_;intro K hl;split at hl
  ·exact DX K hl
  ·exact hl.elim
 case makeSlice t l c =>
  simp only [oZ];exact gZ fun x=>gZ fun y=>EB
 case makeMap t r =>
  cases r with
  |none=>exact cE
  |some r=>exact hlook
 case lookup t m k ok=>exact gZ fun x=>gZ fun y=>SY AS
 case mapUpdate t m k u=>exact gZ fun x=>gZ fun y=>gZ fun v=>FB
 case call c =>
  obtain⟨cal,args,ats⟩:=c;cases cal with
  |invoke r m=>exact eT
  |builtin b =>
   cases b
   case append =>
    simp only [oZ];intro K hl;split at hl
    ·exact OP K hl
    ·exact hl.elim
   case clear =>
    simp only [oZ];intro K hl;split at hl
    ·exact QS K hl
    ·exact hl.elim
   all_goals exact hlook
  |value f =>
   simp only [oZ];refine gZ fun fv=>?_;intro K hl;split at hl
   ·split at hl
    ·split at hl
     ·exact hC _ _ _ _ K hl
     ·exact hl.elim
    ·split at hl
     ·exact hY _ _ _ _ K hl
     ·exact hl.elim
    ·exact hl.elim
   ·exact hl.elim
 all_goals exact hlook
theorem wI {ops:List Oper}{env:List (Nat × Value)}{g:Option (Nat × Bool)}:(∃ e,∀ Yk N,fB A ops env g Yk N=Yk e)∨(∃ e,∀ Yk N,fB A ops env g Yk N=N e)∨(∀ Yk N,fB A ops env g Yk N=False):=by
 unfold fB;cases g with
 |none=>exact .inl ⟨env,fun _ _=>rfl⟩
 |some gw =>
  obtain⟨j,want⟩:=gw;simp only;cases eO ops j with
  |none=>exact .inr (.inr fun _ _=>rfl)
  |some o =>
   simp only;cases o.dst with
   |none=>exact .inr (.inr fun _ _=>rfl)
   |some t =>
    simp only;cases look env t with
    |none=>exact .inr (.inr fun _ _=>rfl)
    |some v =>
     cases v with
     |tuple vs=>exact .inr (.inl ⟨env,fun _ _=>rfl⟩)
     |bool b =>
      simp only;cases A.eqB b want with
      |true=>exact .inl ⟨_,fun _ _=>rfl⟩
      |false=>exact .inr (.inl ⟨_,fun _ _=>rfl⟩)
     |_=>exact .inr (.inr fun _ _=>rfl)
theorem DN {tn:Nat}{env:List (Nat × Value)}{dst:Option Nat}{v:Value}:(∃ e,∀ K,dZ tn env dst v K=K e)∨(∀ K,dZ tn env dst v K=False):=by
 unfold dZ;cases dst with
 |none=>exact .inl ⟨env,fun _=>rfl⟩
 |some d =>
  simp only;cases Nat.blt d tn with
  |true=>exact .inl ⟨_,fun _=>rfl⟩
  |false=>exact .inr fun _=>rfl
theorem l7 {e:List (Nat × Value)}{h:Heap}{nx:Nat}:j8 (fun K=>K e h nx):=fun K hl=>⟨e,h,nx,hl,fun K' h=>h⟩
theorem vE:j8 (fun _=>False):=fun K hl=>hl.elim
theorem uZ {ops:List Oper}{env:List (Nat × Value)}{g:Option (Nat × Bool)}{F G:List (Nat × Value)→KS→Prop}(hF:∀ e,j8 (F e))(hG:∀ e,j8 (G e)):j8 (fun K=>fB A ops env g (fun e=>F e K) (fun e=>G e K)):=by
 rcases wI (A:=A) (ops:=ops) (env:=env) (g:=g) with ⟨e,h⟩|⟨e,h⟩|h
 ·simp only [h];exact hF e
 ·simp only [h];exact hG e
 ·simp only [h];exact vE
theorem mL {tn:Nat}{env:List (Nat × Value)}{dst:Option Nat}{v:Value}{F:List (Nat × Value)→KS→Prop}(hF:∀ e,j8 (F e)):j8 (fun K=>dZ tn env dst v (fun e=>F e K)):=by
 rcases DN (tn:=tn) (env:=env) (dst:=dst) (v:=v) with ⟨e,h⟩|h
 ·simp only [h];exact hF e
 ·simp only [h];exact vE
theorem y5 {E:KE→Prop}{F:Value→Heap→Nat→KS→Prop}(hE:eL E)(hF:∀ v h nx,j8 (F v h nx)):j8 (fun K=>E (fun v h nx=>F v h nx K)):=by
 intro K hl;obtain⟨v,h,nx,h1,h2⟩:=hE _ hl;obtain⟨e,h',nx',h3,h4⟩:=hF v h nx K h1;exact⟨e,h',nx',h3,fun K' hk=>h2 _ (h4 K' hk)⟩
theorem PF {E:KS→Prop}{F:List (Nat × Value)→Heap→Nat→KS→Prop}(hE:j8 E)(hF:∀ v h nx,j8 (F v h nx)):j8 (fun K=>E (fun v h nx=>F v h nx K)):=by
 intro K hl;obtain⟨v,h,nx,h1,h2⟩:=hE _ hl;obtain⟨e,h',nx',h3,h4⟩:=hF v h nx K h1;exact⟨e,h',nx',h3,fun K' hk=>h2 _ (h4 K' hk)⟩
theorem VV {b:Bool}{E:KS→Prop}(h:j8 E):j8 (fun K=>dI b (E K)):=by
 intro K hl;obtain⟨hb,hl⟩:=aD.1 hl;obtain⟨x,y,z,h1,h2⟩:=h K hl;exact⟨x,y,z,h1,fun K' hk=>aJ hb (h2 K' hk)⟩
theorem CU (hC:dM C)(hY:dM Y){tn:Nat}{ops:List Oper}:∀ (l:List Oper) (env:List (Nat × Value)) (h:Heap) (nx:Nat),j8 (yK A T C Y tn ops l env h nx)
 |[],env,h,nx=>l7
 |o::r,env,h,nx=>by
  show j8 (fun K=>yK A T C Y tn ops (o::r) env h nx K);simp only [G6]
  exact uZ (F:=fun e K=>oZ A T C Y e h nx o.op fun v h' nx'=>dZ tn e o.dst v fun env'=>yK A T C Y tn ops r env' h' nx' K) (G:=fun e K=>dZ tn e o.dst undef fun env'=>yK A T C Y tn ops r env' h nx K)
   (fun e=>y5 (F:=fun v h' nx' K=>dZ tn e o.dst v fun env'=>yK A T C Y tn ops r env' h' nx' K) (BX hC hY) fun v h' nx'=>mL (F:=fun env' K=>yK A T C Y tn ops r env' h' nx' K) fun e'=>CU hC hY r e' h' nx')
   (fun e=>mL (F:=fun env' K=>yK A T C Y tn ops r env' h nx K) fun e'=>CU hC hY r e' h nx)
def pL {α:Type}(E:(α→Nat→Prop)→Prop):Prop:=∀ K,E K→∃ v n,K v n∧∀ K':α→Nat→Prop,K' v n→E K'
theorem UU {E:(Value→Prop)→Prop}{n:Nat}(hE:sJ E):pL (fun K=>E (fun v=>K v n)):=by
 intro K hl;obtain⟨v,h1,h2⟩:=hE _ hl;exact⟨v,n,h1,fun K' hk=>h2 _ hk⟩
theorem CE {x:Option Value}{F:Value→(Value→Nat→Prop)→Prop}(hF:∀ v,pL (F v)):pL (fun K=>on x (fun v=>F v K)):=by
 cases x with
 |none=>exact fun K hl=>hl.elim
 |some v=>exact hF v
theorem RH (hC:dM C){hJ:Heap}{nx:Nat}{env:List (Nat × Value)}{op:Op}:pL (gK A T C hJ nx env op):=by
 have hlook:∀ hh op',pL (fun K=>iH A T env hh op' (fun v=>K v nx)):=fun _ _=>UU HE;show pL (fun K=>gK A T C hJ nx env op K);cases op
 case load t x=>simp only [gK];exact hlook hJ _
 case lookup t m k ok=>exact CE fun x=>CE fun y=>UU AS
 case slice t x lo hi mx =>
  simp only [gK];refine CE fun v=>?_;intro K hl;split at hl
  ·obtain⟨v,h',nx',h1,h2⟩:=DX _ hl;exact⟨v,nx',h1,fun K' hk=>h2 _ hk⟩
  ·exact hl.elim
 case call c =>
  obtain⟨cal,args,ats⟩:=c;cases cal with
  |invoke r m=>exact fun K hl=>hl.elim
  |builtin b=>simp only [gK];exact hlook [] _
  |value f =>
   simp only [gK];refine CE fun fv=>?_;intro K hl;split at hl
   ·split at hl
    ·split at hl
     ·obtain⟨v,h',nx',h1,h2⟩:=hC _ _ _ _ _ hl;split at h1
      ·rename_i hb;exact⟨v,nx,h1,fun K' hk=>h2 _ (by rw [hb];exact hk)⟩
      ·exact h1.elim
     ·exact hl.elim
    ·exact hl.elim
   ·exact hl.elim
 all_goals (simp only [gK];exact hlook [] _)
theorem EC {α β:Type}{E:(α→Prop)→Prop}{F:α→(β→Prop)→Prop}(hE:sJ E)(hF:∀ v,sJ (F v)):sJ (fun K=>E (fun v=>F v K)):=by
 intro K hl;obtain⟨v,h1,h2⟩:=hE _ hl;obtain⟨e,h3,h4⟩:=hF v K h1;exact⟨e,h3,fun K' hk=>h2 _ (h4 K' hk)⟩
theorem vH {α:Type}:pL (fun _:α→Nat→Prop=>False):=fun _ hl=>hl.elim
theorem VZ {α:Type}{v:α}{n:Nat}:pL (fun K:α→Nat→Prop=>K v n):=fun _ hl=>⟨v,n,hl,fun _ h=>h⟩
theorem WJ {α β:Type}{E:(α→Nat→Prop)→Prop}{F:α→Nat→(β→Nat→Prop)→Prop}(hE:pL E)(hF:∀ v n,pL (F v n)):pL (fun K=>E (fun v n=>F v n K)):=by
 intro K hl;obtain⟨v,n,h1,h2⟩:=hE _ hl;obtain⟨e,m,h3,h4⟩:=hF v n K h1;exact⟨e,m,h3,fun K' hk=>h2 _ (h4 K' hk)⟩
theorem QP {α:Type}{ops:List Oper}{env:List (Nat × Value)}{g:Option (Nat × Bool)}{F G:List (Nat × Value)→(α→Nat→Prop)→Prop}(hF:∀ e,pL (F e))(hG:∀ e,pL (G e)):pL (fun K=>fB A ops env g (fun e=>F e K) (fun e=>G e K)):=by
 rcases wI (A:=A) (ops:=ops) (env:=env) (g:=g) with ⟨e,h⟩|⟨e,h⟩|h
 ·simp only [h];exact hF e
 ·simp only [h];exact hG e
 ·simp only [h];exact vH
theorem LF {α:Type}{tn:Nat}{env:List (Nat × Value)}{dst:Option Nat}{v:Value}{F:List (Nat × Value)→(α→Nat→Prop)→Prop}(hF:∀ e,pL (F e)):pL (fun K=>dZ tn env dst v (fun e=>F e K)):=by
 rcases DN (tn:=tn) (env:=env) (dst:=dst) (v:=v) with ⟨e,h⟩|h
 ·simp only [h];exact hF e
 ·simp only [h];exact vH
theorem y9 (hC:dM C){tn:Nat}{ops:List Oper}{hJ:Heap}:∀ (l:List Nat) (env:List (Nat × Value)) (nx:Nat),pL (nK A T C tn ops hJ l env nx)
 |[],env,nx=>VZ
 |i::r,env,nx=>by
  show pL (fun K=>nK A T C tn ops hJ (i::r) env nx K);simp only [vQ];cases eO ops i with
  |none=>exact vH
  |some o =>
   exact QP (F:=fun e K=>gK A T C hJ nx e o.op fun v nx'=>dZ tn e o.dst v fun env=>nK A T C tn ops hJ r env nx' K) (G:=fun e K=>dZ tn e o.dst undef fun env=>nK A T C tn ops hJ r env nx K)
    (fun e=>WJ (F:=fun v n K=>dZ tn e o.dst v fun env=>nK A T C tn ops hJ r env n K) (RH hC) fun v n=>LF (F:=fun env K=>nK A T C tn ops hJ r env n K) fun e'=>y9 hC r e' n)
    (fun e=>LF (F:=fun env K=>nK A T C tn ops hJ r env nx K) fun e'=>y9 hC r e' nx)
theorem PB {E:(List (Nat × Value)→Nat→Prop)→Prop}{F:List (Nat × Value)→Nat→KS→Prop}(hE:pL E)(hF:∀ e n,j8 (F e n)):j8 (fun K=>E (fun e n=>F e n K)):=by
 intro K hl;obtain⟨e0,n0,h1,h2⟩:=hE _ hl;obtain⟨e,h,nx,h3,h4⟩:=hF e0 n0 K h1;exact⟨e,h,nx,h3,fun K' hk=>h2 _ (h4 K' hk)⟩
theorem AR {tn:Nat}{ops:List Oper}:∀ (l:List Nat) (env:List (Nat × Value)) (h:Heap) (nx:Nat),j8 (kS T tn ops l env h nx)
 |[],env,h,nx=>l7
 |i::r,env,h,nx=>by
  intro K hl;simp only [lN] at hl ⊢;split at hl
  ·split at hl
   ·exact mL (F:=fun e K=>kS T tn ops r e _ _ K) (fun e=>AR r e _ _) K hl
   ·exact hl.elim
  ·exact hl.elim
theorem yY (hC:dM C)(hY:dM Y){tn:Nat}{ops:List Oper}{hJ:Heap}:∀ (l:List (Nat × Bool)) (env:List (Nat × Value)) (h:Heap) (nx:Nat),j8 (jG A T C Y tn ops hJ l env h nx)
 |[],env,h,nx=>l7
 |(i,chk)::r,env,h,nx=>by
  show j8 (fun K=>jG A T C Y tn ops hJ ((i,chk)::r) env h nx K);simp only [uK];cases eO ops i with
  |none=>exact vE
  |some o =>
   exact uZ (F:=fun e K=>dI (xE e hJ chk o.op) (oZ A T C Y e h nx o.op fun v h' nx'=>dZ tn e o.dst v fun env'=>jG A T C Y tn ops hJ r env' h' nx' K)) (G:=fun e K=>dZ tn e o.dst undef fun env'=>jG A T C Y tn ops hJ r env' h nx K)
    (fun e=>VV (y5 (F:=fun v h' nx' K=>dZ tn e o.dst v fun env'=>jG A T C Y tn ops hJ r env' h' nx' K) (BX hC hY) fun v h' nx'=>mL (F:=fun env' K=>jG A T C Y tn ops hJ r env' h' nx' K) fun e'=>yY hC hY r e' h' nx'))
    (fun e=>mL (F:=fun env' K=>jG A T C Y tn ops hJ r env' h nx K) fun e'=>yY hC hY r e' h nx)
theorem M4 (hC:dM C)(hY:dM Y){tn:Nat}{ops:List Oper}{p:eM}{env:List (Nat × Value)}{h:Heap}{nx:Nat}:j8 (nO A T C Y tn ops p env h nx):=by
 show j8 (fun K=>nO A T C Y tn ops p env h nx K);unfold nO;exact PB (F:=fun e n K=>kS T tn ops p.allocs e h n fun env2 h2 nx2=>jG A T C Y tn ops (F0 T ops env p h) p.tail env2 h2 nx2 K) (y9 hC p.head env nx) fun e n =>
  PF (F:=fun env2 h2 nx2 K=>jG A T C Y tn ops (F0 T ops env p h) p.tail env2 h2 nx2 K) (AR p.allocs e h n) fun e2 h2 nx2=>yY hC hY p.tail e2 h2 nx2
def j3 (ρ:Nat→Nat):Nat→Loc:=fun k=>.lay (ρ k) 0 0
def iM (ρ:Nat→Nat):Value→Value:=tr (j3 ρ)
def bM (ρ:Nat→Nat):Value→Value:=bQ (j3 ρ)
def BK (n:Nat):Value→Prop:=eG (j3 id) n
def BR (n:Nat):Value→Prop:=fV (j3 id) n
def bT (ρ:Nat→Nat)(n:Nat):aS→aS→Prop
 |.cells wr0 g0 sz0 cs0,.cells wr g sz cs=>wr0=wr∧g0=g∧sz0=sz∧cs=cs0.map (bM ρ)∧∀ v∈cs0,BR n v
 |.map es0,.map es=>es=es0.map (fun e=>(e.1,bM ρ e.2))∧∀ e∈es0,BR n e.2
 |.zero,.zero=>True
 |_,_=>False
structure oU (b:Nat) (ρ:Nat→Nat) (e0:List (Nat × Value)) (h0:Heap) (n0:Nat) (e:List (Nat × Value)) (h:Heap) (nx:Nat):Prop where
 env:∀ t v,look e0 t=some v→look e t=some (iM ρ v)∧BK n0 v
 heap:∀ k o,look h0 k=some o→k<n0∧∃ o',look h (ρ k)=some o'∧bT ρ n0 o o'
 inj:∀ k k' o o',look h0 k=some o→look h0 k'=some o'→ρ k=ρ k'→k=k'
 fix:∀ k,k<b→ρ k=k
 le:b≤n0
section
variable {ι:Nat→Loc}{ρ:Nat→Nat}{n m:Nat}
theorem B3 (v:Value):dU ι (dU (j3 ρ) v)=dU (fun k=>ι (ρ k)) v:=by
 cases v with
 |pointer a =>
  cases a with
  |none=>rfl
  |some a =>
   simp only [dU,j3,Nat.zero_add]
 |slice a n c =>
  cases a with
  |none=>rfl
  |some a =>
   simp only [dU,j3,Nat.zero_add,Nat.add_zero]
 |map a =>
  cases a with
  |none=>rfl
  |some a=>simp only [dU,j3]
 |_=>rfl
theorem YX {f:Fn}(h:RJ ι n (m7 (j3 ρ) f)):m7 ι (m7 (j3 ρ) f)=m7 (fun k=>ι (ρ k)) f:=by
 cases f with
 |yield l =>
  have h:=h.2;simp only [m7,j3];cases hl:ι (ρ l) with
  |nil p=>rw [hl] at h;cases h
  |lay b o e=>rfl
 |_=>rfl
theorem gV {v:Value}(h:fV ι n (bQ (j3 ρ) v)):bQ ι (bQ (j3 ρ) v)=bQ (fun k=>ι (ρ k)) v:=by
 cases v with
 |func f a c =>
  have h1:=YX (ι:=ι) (n:=n) (f:=f) h.1;simp only [bQ,h1,Array.map_map];congr 2;funext x;exact B3 x
 |pointer a=>have:=B3 (ι:=ι) (ρ:=ρ) (.pointer a);cases a <;> exact this
 |slice a n c=>have:=B3 (ι:=ι) (ρ:=ρ) (.slice a n c);cases a <;> exact this
 |map a=>have:=B3 (ι:=ι) (ρ:=ρ) (.map a);cases a <;> exact this
 |_=>rfl
theorem sS {v:Value}(h:j0 ι n (dS (j3 ρ) v)):dS ι (dS (j3 ρ) v)=dS (fun k=>ι (ρ k)) v:=by
 cases v with
 |agg cs =>
  simp only [dS,Array.map_map];congr 1;apply Array.map_congr_left;intro x hx;exact gV (n:=n) (h (bQ (j3 ρ) x) (by simp only [Array.toList_map,List.mem_map];exact⟨x,by simpa using hx,rfl⟩))
 |pointer a=>have:=gV (ι:=ι) (ρ:=ρ) (n:=n) (v:=.pointer a);cases a <;> exact this h
 |slice a l c=>have:=gV (ι:=ι) (ρ:=ρ) (n:=n) (v:=.slice a l c);cases a <;> exact this h
 |map a=>have:=gV (ι:=ι) (ρ:=ρ) (n:=n) (v:=.map a);cases a <;> exact this h
 |func f a c=>exact gV (ι:=ι) (ρ:=ρ) (n:=n) (v:=.func f a c) h
 |_=>rfl
theorem C1 {v:Value}(h:eG ι n (iM ρ v)):tr ι (iM ρ v)=tr (fun k=>ι (ρ k)) v:=by
 unfold iM at h ⊢;cases v with
 |tuple cs =>
  simp only [tr,Array.map_map];congr 1;apply Array.map_congr_left;intro x hx;exact sS (n:=n) (h (dS (j3 ρ) x) (by simp only [Array.toList_map,List.mem_map];exact⟨x,by simpa using hx,rfl⟩))
 |pointer a=>have:=sS (ι:=ι) (ρ:=ρ) (n:=n) (v:=.pointer a);cases a <;> exact this h
 |slice a l c=>have:=sS (ι:=ι) (ρ:=ρ) (n:=n) (v:=.slice a l c);cases a <;> exact this h
 |map a=>have:=sS (ι:=ι) (ρ:=ρ) (n:=n) (v:=.map a);cases a <;> exact this h
 |func f a c=>exact sS (ι:=ι) (ρ:=ρ) (n:=n) (v:=.func f a c) h
 |agg c=>exact sS (ι:=ι) (ρ:=ρ) (n:=n) (v:=.agg c) h
 |_=>rfl
theorem CJ {v:Value}(h:mW ι n (dU (j3 ρ) v))(hm:mW (j3 id) m v):mW (fun k=>ι (ρ k)) m v:=by
 cases v with
 |pointer a =>
  cases a with
  |none=>trivial
  |some a=>exact⟨hm.1,h.2⟩
 |slice a l c =>
  cases a with
  |none=>trivial
  |some a=>exact⟨hm.1,fun hf=>h.2 hf⟩
 |map a =>
  cases a with
  |none=>trivial
  |some a=>exact⟨hm.1,h.2⟩
 |agg c=>exact hm.elim
 |tuple c=>exact hm.elim
 |_=>trivial
theorem nT {v:Value}(h:fV ι n (bQ (j3 ρ) v))(hm:fV (j3 id) m v):fV (fun k=>ι (ρ k)) m v:=by
 cases v with
 |func f a c =>
  refine⟨?_,fun x hx=>?_⟩
  ·have h1:=h.1;have h2:=hm.1;cases f with
   |yield l=>exact⟨h2.1,h1.2⟩
   |_=>trivial
  ·refine CJ (n:=n) (h.2 _ ?_) (hm.2 x hx);simp only [Array.toList_map,List.mem_map];exact⟨x,hx,rfl⟩
 |pointer a=>have:=CJ (ι:=ι) (ρ:=ρ) (n:=n) (m:=m) (v:=.pointer a);cases a <;> exact this h hm
 |slice a l c=>have:=CJ (ι:=ι) (ρ:=ρ) (n:=n) (m:=m) (v:=.slice a l c);cases a <;> exact this h hm
 |map a=>have:=CJ (ι:=ι) (ρ:=ρ) (n:=n) (m:=m) (v:=.map a);cases a <;> exact this h hm
 |agg c=>exact hm.elim
 |tuple c=>exact hm.elim
 |_=>trivial
theorem sO {v:Value}(h:j0 ι n (dS (j3 ρ) v))(hm:j0 (j3 id) m v):j0 (fun k=>ι (ρ k)) m v:=by
 cases v with
 |agg cs =>
  intro x hx;refine nT (n:=n) (h _ ?_) (hm x hx);simp only [Array.toList_map,List.mem_map];exact⟨x,hx,rfl⟩
 |pointer a=>have:=nT (ι:=ι) (ρ:=ρ) (n:=n) (m:=m) (v:=.pointer a);cases a <;> exact this h hm
 |slice a l c=>have:=nT (ι:=ι) (ρ:=ρ) (n:=n) (m:=m) (v:=.slice a l c);cases a <;> exact this h hm
 |map a=>have:=nT (ι:=ι) (ρ:=ρ) (n:=n) (m:=m) (v:=.map a);cases a <;> exact this h hm
 |func f a c=>exact nT (ι:=ι) (ρ:=ρ) (n:=n) (m:=m) (v:=.func f a c) h hm
 |tuple c=>exact hm.elim
 |_=>trivial
theorem CM {v:Value}(h:eG ι n (iM ρ v))(hm:BK m v):eG (fun k=>ι (ρ k)) m v:=by
 unfold iM at h;unfold BK at hm;cases v with
 |tuple cs =>
  intro x hx;refine sO (n:=n) (h _ ?_) (hm x hx);simp only [Array.toList_map,List.mem_map];exact⟨x,hx,rfl⟩
 |pointer a=>have:=sO (ι:=ι) (ρ:=ρ) (n:=n) (m:=m) (v:=.pointer a);cases a <;> exact this h hm
 |slice a l c=>have:=sO (ι:=ι) (ρ:=ρ) (n:=n) (m:=m) (v:=.slice a l c);cases a <;> exact this h hm
 |map a=>have:=sO (ι:=ι) (ρ:=ρ) (n:=n) (m:=m) (v:=.map a);cases a <;> exact this h hm
 |func f a c=>exact sO (ι:=ι) (ρ:=ρ) (n:=n) (m:=m) (v:=.func f a c) h hm
 |agg c=>exact sO (ι:=ι) (ρ:=ρ) (n:=n) (m:=m) (v:=.agg c) h hm
 |_=>trivial
theorem aFH {v:Value}(h:gS (bQ (j3 ρ) v)=true):gS v=true:=by
 cases v with
 |pointer a=>cases a with
  |none=>rfl
  |some a=>simp [bQ,dU,j3,gS] at h
 |slice a n c=>cases a with
  |none=>rfl
  |some a=>simp [bQ,dU,j3,gS] at h
 |map a=>cases a with
  |none=>rfl
  |some a=>simp [bQ,dU,j3,gS] at h
 |func f a c =>
  cases f with
  |func f=>simpa [bQ,m7,gS] using h
  |yield l=>simp [bQ,m7,j3,gS] at h
  |_=>simp [bQ,m7,gS] at h
 |_=>exact h
theorem LW {l:List Value}(h:dE (l.map (bM ρ))=true):dE l=true :=
 sU fun v hv=>aFH (a9 h (List.mem_map_of_mem hv))
theorem aAN {B:Nat}{w:World}{o0 o:aS}{l:Loc}(h:jT ι B w o l)(hs:SK ι n o)(hr:bT ρ m o0 o):jT (fun k=>ι (ρ k)) B w o0 l:=by
 cases o0 with
 |cells wr0 g0 sz0 cs0 =>
  cases o with
  |cells wr g sz cs =>
   obtain⟨rfl,rfl,rfl,rfl,hn⟩:=hr;cases l with
   |nil p =>
    have h1:cs0.map (bM ρ)=[]∧(sz0=0∨wr0=true→p.isSome=true):=(by cases wr0 <;> exact h);have h2:cs0=[]:=(by simpa using h1.1);cases wr0 <;> exact⟨h2,h1.2⟩
   |lay b off e =>
    cases wr0 with
    |true =>
     obtain⟨h1,h2,arr,t,h3,h4,h5⟩:=h;refine⟨h1,fun hg=>LW (h2 hg),arr,t,h3,by simpa using h4,fun i v hv=>?_⟩;rw [← gV (n:=n) (hs _ (List.mem_map_of_mem (List.mem_of_getElem? hv)))];exact h5 i _ (by rw [List.getElem?_map,hv];rfl)
    |false =>
     obtain⟨h1,h2,h5⟩:=h;refine⟨h1,fun hg=>LW (h2 hg),fun i v hv=>?_⟩;rw [← gV (n:=n) (hs _ (List.mem_map_of_mem (List.mem_of_getElem? hv)))];exact h5 i _ (by rw [List.getElem?_map,hv];rfl)
  |_=>exact hr.elim
 |map es0 =>
  cases o with
  |map es =>
   obtain⟨rfl,hn⟩:=hr;cases l with
   |nil p=>exact h.elim
   |lay b off e =>
    obtain⟨h1,ents,clock,h2,h3,h4⟩:=h;refine⟨h1,ents,clock,h2,h3.trans ?_,fun x hx=>h4 (x.1,bM ρ x.2) (List.mem_map_of_mem hx)⟩;rw [List.map_map];apply List.map_congr_left;intro x hx;simp only [Function.comp_apply,bM];rw [gV (n:=n) (hs (x.1,bM ρ x.2) (List.mem_map_of_mem hx))]
  |_=>exact hr.elim
 |zero =>
  cases o with
  |zero=>cases l <;> exact h
  |_=>exact hr.elim
 |_=>exact hr.elim
theorem aBE {o0 o:aS}(h:SK ι n o)(hr:bT ρ m o0 o):SK (fun k=>ι (ρ k)) m o0:=by
 cases o0 with
 |cells wr0 g0 sz0 cs0 =>
  cases o with
  |cells wr g sz cs =>
   obtain⟨rfl,rfl,rfl,rfl,hn⟩:=hr;exact fun v hv=>nT (n:=n) (h _ (List.mem_map_of_mem hv)) (hn v hv)
  |_=>exact hr.elim
 |map es0 =>
  cases o with
  |map es =>
   obtain⟨rfl,hn⟩:=hr;exact fun x hx=>nT (n:=n) (h (x.1,bM ρ x.2) (List.mem_map_of_mem hx)) (hn x hx)
  |_=>exact hr.elim
 |zero=>trivial
 |_=>exact hr.elim
theorem bT.alone {o0 o:aS}(hr:bT ρ m o0 o)(h:o0.alone=true):o.alone=true:=by
 cases o0 <;> cases o <;> first|exact hr.elim|(obtain⟨rfl,_⟩:=hr;exact h)|exact h
variable {b:Nat}{e0 e:List (Nat × Value)}{h0 h:Heap}{n0 nx:Nat}
theorem oU.aEU (r:oU b ρ e0 h0 n0 e h nx){B:Nat}{w:World}(H:aO ι B h nx w):aO (fun k=>ι (ρ k)) B h0 n0 w:=by
 refine⟨fun k o hk=>?_,fun k k' o o' h1 h2 hne ha q hq=>?_,fun k o hk=>(r.heap k o hk).1,H.size,fun k o hk=>?_⟩
 ·obtain⟨_,o',h1,h2⟩:=r.heap k o hk;exact aAN (H.obj _ _ h1) (H.sc _ _ h1) h2
 ·obtain⟨_,p,k1,k2⟩:=r.heap k o h1;obtain⟨_,p',k3,k4⟩:=r.heap k' o' h2;exact H.sep _ _ p p' k1 k3 (fun e=>hne (r.inj k k' o o' h1 h2 e)) (k2.alone ha) q hq
 ·obtain⟨_,o',h1,h2⟩:=r.heap k o hk;exact aBE (H.sc _ _ h1) h2
theorem oU.aHL (r:oU b ρ e0 h0 n0 e h nx){a:Act}(H:cT ι nx e a):cT (fun k=>ι (ρ k)) n0 e0 a:=by
 intro t v hv;obtain⟨h1,h2⟩:=r.env t v hv;obtain⟨h3,h4⟩:=H t _ h1;exact⟨by rw [← C1 h4];exact h3,CM h4 h2⟩
end
def oL (A:Ar)(T:cF)(C:VC)(Y:VY)(tn:Nat)(ops:List Oper)(o:Oper)(e:List (Nat × Value))(h:Heap)(nx:Nat)(K:KS):Prop :=
 fB A ops e o.guard (fun e=>oZ A T C Y e h nx o.op fun v h' nx'=>dZ tn e o.dst v fun e'=>K e' h' nx') (fun e=>dZ tn e o.dst undef fun e'=>K e' h nx)
def allM (l:List Nat):List Nat→Bool
 |[]=>true
 |j::r=>match n7 j l with|true=>allM l r|false=>false
theorem NC {l m:List Nat}:allM l m=true↔∀ j∈m,j∈l:=by
 induction m with
 |nil=>simp [allM]
 |cons x r ih =>
  simp only [allM];split
  ·rename_i h;rw [ih];constructor
   ·intro h2 j hj;rcases List.mem_cons.1 hj with rfl|hj
    ·exact dC.1 h
    ·exact h2 j hj
   ·exact fun h2 j hj=>h2 j (.tail _ hj)
  ·rename_i h;constructor
   ·intro h2;cases h2
   ·intro h2;rw [dC.2 (h2 x (.head _))] at h;cases h
def eE (all:List Oper)(done:List Nat):List Oper→Nat→List Nat
 |[],_=>[]
 |o::r,i=>match n7 i done with
  |true=>eE all done r (i+1)
  |false=>(match allM done (kP o) with|true=>i::eE all done r (i+1)|false=>eE all done r (i+1))
theorem RT {all:List Oper}{done:List Nat}:∀ {l:List Oper} {i k:Nat},k∈eE all done l i↔∃ j o,k=i+j∧eO l j=some o∧k∉done∧∀ x∈kP o,x∈done:=by
 intro l
 induction l with
 |nil =>
  intro i k;constructor
  ·intro h;cases h
  ·rintro ⟨j,o,_,h,_⟩;rw [dO] at h;simp at h
 |cons p r ih =>
  intro i k;have shift:(∃ j o,k=i+1+j∧eO r j=some o∧k∉done∧∀ x∈kP o,x∈done)→∃ j o,k=i+j∧eO (p::r) j=some o∧k∉done∧∀ x∈kP o,x∈done:=by
   rintro ⟨j,o,h1,h2,h3⟩;refine⟨j+1,o,by omega,?_,h3⟩;rw [dO] at h2 ⊢;simpa using h2
  have back:(∃ j o,k=i+j∧eO (p::r) j=some o∧k∉done∧∀ x∈kP o,x∈done)→(k=i∧i∉done∧∀ x∈kP p,x∈done)∨∃ j o,k=i+1+j∧eO r j=some o∧k∉done∧∀ x∈kP o,x∈done:=by
   rintro ⟨j,o,h1,h2,h3⟩;cases j with
   |zero =>
    rw [dO] at h2;simp at h2;subst h2;exact .inl ⟨by omega,by rw [show i=k by omega];exact h3.1,h3.2⟩
   |succ j =>
    refine .inr ⟨j,o,by omega,?_,h3⟩;rw [dO] at h2 ⊢;simpa using h2
  simp only [eE];split
  ·rename_i hm;rw [ih];refine⟨shift,fun h=>?_⟩;rcases back h with ⟨_,hn,_⟩|h
   ·exact absurd (dC.1 hm) hn
   ·exact h
  ·rename_i hm;have hn:i∉done:=fun h=>(by rw [dC.2 h] at hm;cases hm);split
   ·rename_i ha;rw [List.mem_cons,ih];constructor
    ·rintro (rfl|h)
     ·exact⟨0,p,rfl,by rw [dO];rfl,hn,NC.1 ha⟩
     ·exact shift h
    ·intro h;rcases back h with ⟨h,_⟩|h
     ·exact .inl h
     ·exact .inr h
   ·rename_i ha;rw [ih];refine⟨shift,fun h=>?_⟩;rcases back h with ⟨_,_,h⟩|h
    ·rw [NC.2 h] at ha;cases ha
    ·exact h
def KW (F:Nat→Prop):List Nat→Prop
 |[]=>True
 |[i]=>F i
 |i::r=>F i∧KW F r
theorem xT {F:Nat→Prop}:∀ {l:List Nat},KW F l↔∀ i∈l,F i
 |[]=>by simp [KW]
 |[i]=>by simp [KW]
 |i::j::r=>by
  rw [show KW F (i::j::r)=(F i∧KW F (j::r)) from rfl,xT];simp
def D0 (A:Ar)(T:cF)(C:VC)(Y:VY)(tn:Nat)(ops:List Oper)(K:KS):Nat→List Nat→KS
 |0,_=>K
 |n+1,done=>fun e h nx=>match eE ops done ops 0 with
  |[]=>K e h nx
  |i::r=>KW (fun j=>match eO ops j with|some o=>oL A T C Y tn ops o e h nx (D0 A T C Y tn ops K n (j::done))|none=>False) (i::r)
section
variable {P:Program}{T:cF}{C:VC}{Y:VY}{ops:Array Oper}
variable {B:Nat}{w0:World}{ιb:Nat→Loc}{nxb tn:Nat}{ds:List Deferred}{K:KS}
theorem Z7 (hT:cA P T)(hC:bF P C)(hY:dW P Y)(r:Option Nat){Q:Exit→Act→World→Prop}{i:Nat}{o:Oper}(ho:eO ops.toList i=some o){ι:Nat→Loc}{e:List (Nat × Value)}{h:Heap}{nx:Nat}{a:Act}{w:World}
  (hl:oL aG T C Y tn ops.toList o e h nx K) (I:Inv B w0 ιb nxb tn ds ι e h nx a w) {next:Act→World→Prop}
  (hQ:∀ ι e h nx a w,K e h nx→Inv B w0 ιb nxb tn ds ι e h nx a w→next a w):wpOpIn (Fr r) 0 P ops Q i next a w:=by
 have hoo:ops[i]? = some o:=(by rw [dO] at ho;simpa using ho);unfold wpOpIn;simp only [hoo];unfold oL at hl;obtain⟨env1,he1,hcase⟩:=tA I.env hl;rcases hcase with ⟨hw,hl⟩|⟨hw,hl⟩
 ·rw [if_pos hw];refine (QR hT hC hY he1 I.heap hl).upon (AX hl) rfl r _ _ fun v h' nx' ι' w' k1 k2 k3 k4 k5 k6=>?_;obtain⟨env2,k7,k8,k9,k10⟩:=nG (he1.names k6 k5) I.size k1 k2;exact hQ ι' env2 h' nx' _ w' k7 (I.step k8 k3 k4 k5 k6 k9 k10)
 ·rw [hw];refine⟨fun _ _=>trivial,?_⟩;obtain⟨env2,k7,k8,k9,k10⟩:=nG he1 I.size hl (v:=undef) (dD rfl);rw [fU (show gT undef=true from rfl)] at k8 k9 k10;exact hQ ι env2 h nx _ w k7 (I.step k8 I.heap (fQ.refl _ _) (fun _ _=>rfl) (Nat.le_refl _) k9 k10)
theorem vL {listed:Array Bool}(hs:listed.size=ops.size){done:List Nat}(hd:∀ i,vB listed i↔i∈done){i:Nat}:i∈Region.ready .any ops listed↔i∈eE ops.toList done ops.toList 0:=by
 rw [lW hs,RT];constructor
 ·rintro ⟨h1,h2,h3⟩;have ho:eO ops.toList i=some ops[i]:=(by rw [dO];simp [h1]);refine⟨i,ops[i],by omega,ho,fun h=>h2 ((hd i).2 h),fun x hx=>(hd x).1 (h3 x ?_)⟩;unfold bW;rw [ho];exact hx
 ·rintro ⟨j,o,h1,h2,h3,h4⟩;have hij:i=j:=(by omega);subst hij;have hlt:i<ops.size:=by
   rw [dO] at h2;have:=(List.getElem?_eq_some_iff.1 h2).1;simpa using this
  refine⟨hlt,fun h=>h3 ((hd i).1 h),fun x hx=>(hd x).2 (h4 x ?_)⟩;unfold bW at hx;rw [h2] at hx;exact hx
theorem aCZ (hT:cA P T)(hC:bF P C)(hY:dW P Y)(r:Option Nat){Q:Exit→Act→World→Prop}
  (hQ:∀ ι e h nx a w,K e h nx→Inv B w0 ιb nxb tn ds ι e h nx a w→Q .normal a w):∀ (n:Nat) (listed:Array Bool) (done:List Nat) (ι:Nat→Loc) (e:List (Nat × Value)) (h:Heap) (nx:Nat) (a:Act) (w:World),
  listed.size=ops.size→(∀ i,vB listed i↔i∈done)→left ops.size listed≤n→D0 aG T C Y tn ops.toList K n done e h nx→Inv B w0 ιb nxb tn ds ι e h nx a w→wpAnyIn (Fr r) 0 P .any ops Q n listed a w:=by
 intro n
 induction n with
 |zero =>
  intro listed done ι e h nx a w hs hd hl hv I;refine⟨?_,hQ ι e h nx a w hv I⟩;refine List.eq_nil_iff_forall_not_mem.2 fun i hi=>?_;obtain⟨h1,h2,_⟩:=(lW hs).1 hi;have:=wW h1 hs h2;omega
 |succ n ih =>
  intro listed done ι e h nx a w hs hd hl hv I;simp only [D0] at hv;split at hv
  ·rename_i hr;have hno:∀ i,i∉Region.ready .any ops listed:=fun i hi=>by
    have:=(vL hs hd).1 hi;rw [hr] at this;cases this
   exact⟨fun _=>hQ ι e h nx a w hv I,fun i hi=>absurd hi (hno i)⟩
  ·rename_i i0 r0 hr;rw [xT] at hv;refine⟨fun hn=>?_,fun i hi=>?_⟩
   ·exfalso;have:i0∈Region.ready .any ops listed:=(vL hs hd).2 (by rw [hr];exact .head _);rw [hn] at this;cases this
   ·obtain⟨h1,h2,_⟩:=(lW hs).1 hi;have hv':=hv i (by rw [← hr];exact (vL hs hd).1 hi);split at hv'
    case h_2=>exact hv'.elim
    rename_i o ho;refine Z7 hT hC hY r ho hv' I fun ι e h nx a w hk J=>?_;have hset:=vB.set (listed:=listed) (i:=i) (by omega);refine ih _ (i::done) ι e h nx a w (by simp [hs]) (fun j=>?_) (by have:=wW h1 hs h2;omega) hk J;rw [hset];unfold E4;rw [hd j,List.mem_cons]
theorem LO (hT:cA P T)(hC:bF P C)(hY:dW P Y)(hm:P.follows .mixedOrders=true){ι:Nat→Loc}{env:List (Nat × Value)}{h:Heap}{nx:Nat}{a:Act}{w:World}(I:Inv B w0 ιb nxb tn ds ι env h nx a w)
  (hl:D0 aG T C Y tn ops.toList K ops.size [] env h nx) (r:Option Nat) {id:Nat} {Q:Exit→Act→World→Prop} (hQ:∀ ι env h nx a w,K env h nx→Inv B w0 ιb nxb tn ds ι env h nx a w→Q .normal a w) :
  (Code.region id ops true).wpIn (Fr r) 0 P Q a w:=by
 refine wpIn_region_any hm ?_;have H:=I.heap.drawn (w.drawn+1);have hb:fQ B w { w with drawn:=w.drawn+1 }:=⟨rfl,rfl,rfl,Nat.le_refl _,fun _ _=>rfl,Nat.le_succ _⟩;have hno:∀ i,¬ vB (Array.replicate ops.size false) i:=by
  intro i;unfold vB;by_cases h:i<ops.size <;> simp [h]
 refine aCZ hT hC hY r hQ ops.size _ [] ι env h nx a _ (by simp) (fun i=>⟨fun h=>absurd h (hno i),fun h=>by cases h⟩) ?_ hl ⟨I.env,H,I.below.trans hb,I.old,I.le,I.size,I.defers⟩;unfold left;exact Nat.le_trans (List.length_filter_le _ _) (by simp)
end
end Go.Aw
end
