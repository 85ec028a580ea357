/-
  Parts of a proof. No condition.
-/
import Derived.Test.YtjahkcbdecgbhaaGreatQAg
set_option linter.unusedSimpArgs false
set_option linter.unusedVariables false
noncomputable section
namespace Go.Aw
open Go.RowKit
def uO {α:Type}(E:(α→Prop)→Prop):Prop:=∀ K,E K→∃ x,K x∧∀ K':α→Prop,K' x→E K'
def fD (E:KE→Prop):Prop:=∀ K:KE,E K→∃ v h nx,K v h nx∧∀ K':KE,K' v h nx→E K'
def kT (E:KS→Prop):Prop:=∀ K:KS,E K→∃ e h nx,K e h nx∧∀ K':KS,K' e h nx→E K'
theorem aHL {b:Bool}{A B:Unit→Prop}:br b A B↔((b=true∧A ())∨(b=false∧B ())):=by
 cases b <;> simp [br]
variable {A:Ar}{T:cN}{h:Heap}{nx:Nat}
theorem jH {α:Type}{x:Option Value}{F:Value→(α→Prop)→Prop}(hF:∀ v,uO (F v)):uO (fun K=>on x (fun v=>F v K)):=by
 intro K hl;cases x with
 |none=>exact hl.elim
 |some v=>exact hF v K hl
theorem iT {x:Option Value}{F:Value→KE→Prop}(hF:∀ v,fD (F v)):fD (fun K=>on x (fun v=>F v K)):=by
 intro K hl;cases x with
 |none=>exact hl.elim
 |some v=>exact hF v K hl
theorem uE {x:Option Value}:uO (on x):=by
 intro K hl;cases x with
 |none=>exact hl.elim
 |some v=>exact⟨v,hl,fun K' h=>h⟩
theorem IK {t:TypeId}{x:Value}:uO (sW T h t x):=by
 intro K hl;unfold sW at *
 repeat' (split at hl)
 all_goals first|(exact hl.elim)|(exact⟨_,hl,fun K' h=>h⟩)|(exact⟨_,_,_,hl,fun K' h=>h⟩)|(obtain⟨hb,hl⟩:=aG.1 hl;exact⟨_,hl,fun K' h=>aJ hb h⟩)|(obtain⟨hb,hl⟩:=aG.1 hl;exact⟨_,_,_,hl,fun K' h=>aJ hb h⟩)
theorem DT {t:TypeId}{x:Value}{f:Nat}:uO (iD T t x f):=by
 intro K hl;unfold iD at *
 repeat' (split at hl)
 all_goals first|(exact hl.elim)|(exact⟨_,hl,fun K' h=>h⟩)|(exact⟨_,_,_,hl,fun K' h=>h⟩)|(obtain⟨hb,hl⟩:=aG.1 hl;exact⟨_,hl,fun K' h=>aJ hb h⟩)|(obtain⟨hb,hl⟩:=aG.1 hl;exact⟨_,_,_,hl,fun K' h=>aJ hb h⟩)
theorem NG {α:Type}{b:Bool}{E:(α→Prop)→Prop}(h:uO E):uO (fun K=>dK b (E K)):=by
 intro K hl;obtain⟨hb,hl⟩:=aG.1 hl;obtain⟨x,h1,h2⟩:=h K hl;exact⟨x,h1,fun K' hk=>aJ hb (h2 K' hk)⟩
theorem fO {b:Bool}{E:KE→Prop}(h:fD E):fD (fun K=>dK b (E K)):=by
 intro K hl;obtain⟨hb,hl⟩:=aG.1 hl;obtain⟨x,y,z,h1,h2⟩:=h K hl;exact⟨x,y,z,h1,fun K' hk=>aJ hb (h2 K' hk)⟩
theorem yR {α:Type}{x:α}:uO (fun K:α→Prop=>K x):=fun K hl=>⟨x,hl,fun K' h=>h⟩
theorem cL {v:Value}{h:Heap}{nx:Nat}:fD (fun K=>K v h nx):=fun K hl=>⟨v,h,nx,hl,fun K' h=>h⟩
theorem XW {α:Type}:uO (fun _:α→Prop=>False):=fun K hl=>hl.elim
theorem fB:fD (fun _=>False):=fun K hl=>hl.elim
theorem aGX {α:Type}{b:Bool}{E F:(α→Prop)→Prop}(hE:uO E)(hF:uO F):uO (fun K=>br b (fun _=>E K) (fun _=>F K)):=by
 intro K hl;cases b
 ·exact hF K hl
 ·exact hE K hl
theorem yN {b:Bool}{E F:KE→Prop}(hE:fD E)(hF:fD F):fD (fun K=>br b (fun _=>E K) (fun _=>F K)):=by
 intro K hl;cases b
 ·exact hF K hl
 ·exact hE K hl
theorem FP {t:TypeId}{x i:Value}:uO (iM A T t x i):=by
 intro K hl;unfold iM at *
 repeat' (split at hl)
 all_goals first|(exact hl.elim)|(exact⟨_,hl,fun K' h=>h⟩)|(exact⟨_,_,_,hl,fun K' h=>h⟩)|(obtain⟨hb,hl⟩:=aG.1 hl;exact⟨_,hl,fun K' h=>aJ hb h⟩)|(obtain⟨hb,hl⟩:=aG.1 hl;exact⟨_,_,_,hl,fun K' h=>aJ hb h⟩)
theorem aAR {op:BinOp}{k:IntKind}{a b:Int}:uO (W7 A op k a b):=by
 intro K hl;unfold W7 at *
 repeat' (split at hl)
 all_goals first|(exact hl.elim)|(exact⟨_,hl,fun K' h=>h⟩)|(exact⟨_,_,_,hl,fun K' h=>h⟩)|(obtain⟨hb,hl⟩:=aG.1 hl;exact⟨_,hl,fun K' h=>aJ hb h⟩)|(obtain⟨hb,hl⟩:=aG.1 hl;exact⟨_,_,_,hl,fun K' h=>aJ hb h⟩)
theorem JC {t:TypeId}{cs:List Value}{o:Nat}:uO (BR T t cs o):=by
 intro K hl;unfold BR at *
 repeat' (split at hl)
 all_goals first|(exact hl.elim)|(exact⟨_,hl,fun K' h=>h⟩)|(exact⟨_,_,_,hl,fun K' h=>h⟩)|(obtain⟨hb,hl⟩:=aG.1 hl;exact⟨_,hl,fun K' h=>aJ hb h⟩)|(obtain⟨hb,hl⟩:=aG.1 hl;exact⟨_,_,_,hl,fun K' h=>aJ hb h⟩)
theorem SH {t:TypeId}{x:Value}{f:Nat}:uO (sQ T t x f):=by
 intro K hl;unfold sQ at *
 repeat' (split at hl)
 all_goals first|(exact JC K hl)|(exact hl.elim)|(exact⟨_,hl,fun K' h=>h⟩)|(exact⟨_,_,_,hl,fun K' h=>h⟩)|(obtain⟨hb,hl⟩:=aG.1 hl;exact⟨_,hl,fun K' h=>aJ hb h⟩)|(obtain⟨hb,hl⟩:=aG.1 hl;exact⟨_,_,_,hl,fun K' h=>aJ hb h⟩)
theorem Q0 {t:TypeId}{x i:Value}:uO (sM A T t x i):=by
 intro K hl;unfold sM at *
 repeat' (split at hl)
 all_goals first|(exact NG JC K hl)|(exact hl.elim)|(exact⟨_,hl,fun K' h=>h⟩)|(exact⟨_,_,_,hl,fun K' h=>h⟩)|(obtain⟨hb,hl⟩:=aG.1 hl;exact⟨_,hl,fun K' h=>aJ hb h⟩)|(obtain⟨hb,hl⟩:=aG.1 hl;exact⟨_,_,_,hl,fun K' h=>aJ hb h⟩)
theorem aBO {op:BinOp}{t:TypeId}{x y:Value}:uO (R6 A T op t x y):=by
 intro K hl;unfold R6 at *
 repeat' (split at hl)
 all_goals first|(exact hl.elim)|(exact⟨_,hl,fun K' h=>h⟩)|(exact⟨_,_,_,hl,fun K' h=>h⟩)|(obtain⟨hb,hl⟩:=aG.1 hl;exact⟨_,hl,fun K' h=>aJ hb h⟩)|(obtain⟨hb,hl⟩:=aG.1 hl;exact⟨_,_,_,hl,fun K' h=>aJ hb h⟩)|(exact aAR K hl)
theorem aCO {op:UnOp}{x:Value}:uO (vun A op x):=by
 intro K hl;unfold vun at *
 repeat' (split at hl)
 all_goals first|(exact hl.elim)|(exact⟨_,hl,fun K' h=>h⟩)|(exact⟨_,_,_,hl,fun K' h=>h⟩)|(obtain⟨hb,hl⟩:=aG.1 hl;exact⟨_,hl,fun K' h=>aJ hb h⟩)|(obtain⟨hb,hl⟩:=aG.1 hl;exact⟨_,_,_,hl,fun K' h=>aJ hb h⟩)
theorem RC {t:TypeId}{ps:List (Nat × Value)}:uO (wG T t ps):=by
 intro K hl;unfold wG at *
 repeat' (split at hl)
 all_goals first|(exact hl.elim)|(exact⟨_,hl,fun K' h=>h⟩)|(exact⟨_,_,_,hl,fun K' h=>h⟩)|(obtain⟨hb,hl⟩:=aG.1 hl;exact⟨_,hl,fun K' h=>aJ hb h⟩)|(obtain⟨hb,hl⟩:=aG.1 hl;exact⟨_,_,_,hl,fun K' h=>aJ hb h⟩)
theorem L5 {b:Builtin}{ts:Array TypeId}{vs:List Value}:uO (nS A T b ts vs):=by
 intro K hl;unfold nS at *
 repeat' (split at hl)
 all_goals first|(exact hl.elim)|(exact⟨_,hl,fun K' h=>h⟩)|(exact⟨_,_,_,hl,fun K' h=>h⟩)|(obtain⟨hb,hl⟩:=aG.1 hl;exact⟨_,hl,fun K' h=>aJ hb h⟩)|(obtain⟨hb,hl⟩:=aG.1 hl;exact⟨_,_,_,hl,fun K' h=>aJ hb h⟩)|(exact uE K hl)
theorem aAx {op:BinOp}{t:TypeId}{x:Value}:uO (SK T h op t x):=by
 intro K hl;unfold SK at *
 repeat' (split at hl)
 all_goals first|(exact hl.elim)|(exact⟨_,hl,fun K' h=>h⟩)
theorem I7 {env:List (Nat × Value)}{op:Op}:uO (jD A T env h op):=by
 show uO (fun K=>jD A T env h op K);cases op <;> simp only [jD]
 case move x=>exact uE
 case assign x=>exact uE
 case pick c a b =>
  refine jH fun u=>?_;intro K hl;split at hl
  ·exact aGX uE uE K hl
  ·exact hl.elim
 case nilCheck x =>
  refine jH fun u=>?_;intro K hl;split at hl
  all_goals first|(exact hl.elim)|(exact⟨_,hl,fun K' h=>h⟩)
 case load t x=>exact jH fun u=>IK
 case fieldAddr s x f=>exact jH fun u=>DT
 case field s x f=>exact jH fun u=>SH
 case indexAddr t x i=>exact jH fun u=>jH fun j=>FP
 case index t x i=>exact jH fun u=>jH fun j=>Q0
 case binOp op t x y yt =>
  refine jH fun u=>jH fun v=>?_;intro K hl;split at hl
  ·exact aAx K hl
  ·exact aBO K hl
 case unOp op t x=>exact jH fun u=>aCO
 case convert s d x =>
  refine jH fun u=>?_;intro K hl;split at hl
  ·exact NG yR K hl
  ·exact hl.elim
 case makeFunc fn first cap =>
  intro K hl
  repeat' (split at hl)
  all_goals first|(exact hl.elim)|(exact⟨_,hl,fun K' h=>h⟩)
 case extract x i =>
  refine jH fun u=>?_;intro K hl;split at hl
  ·exact uE K hl
  ·exact hl.elim
 case build t ps =>
  intro K hl;split at hl
  ·exact RC K hl
  ·exact hl.elim
 case call c =>
  intro K hl;split at hl
  ·split at hl
   ·exact L5 K hl
   ·exact hl.elim
  ·exact hl.elim
 all_goals exact XW
theorem VK {E:(Value→Prop)→Prop}(hE:uO E):fD (fun K=>E (fun v=>K v h nx)):=by
 intro K hl;obtain⟨v,h1,h2⟩:=hE _ hl;exact⟨v,h,nx,h1,fun K' hk=>h2 _ hk⟩
theorem SG {t:TypeId}{x v:Value}:fD (nU T h nx t x v):=by
 intro K hl;unfold nU at *
 repeat' (split at hl)
 all_goals first|(exact hl.elim)|(exact⟨_,hl,fun K' h=>h⟩)|(exact⟨_,_,_,hl,fun K' h=>h⟩)|(obtain⟨hb,hl⟩:=aG.1 hl;exact⟨_,hl,fun K' h=>aJ hb h⟩)|(obtain⟨hb,hl⟩:=aG.1 hl;exact⟨_,_,_,hl,fun K' h=>aJ hb h⟩)
theorem QN {t:TypeId}:fD (wQ T h nx t):=by
 intro K hl;unfold wQ at *
 repeat' (split at hl)
 all_goals first|(exact hl.elim)|(exact⟨_,hl,fun K' h=>h⟩)|(exact⟨_,_,_,hl,fun K' h=>h⟩)|(obtain⟨hb,hl⟩:=aG.1 hl;exact⟨_,hl,fun K' h=>aJ hb h⟩)|(obtain⟨hb,hl⟩:=aG.1 hl;exact⟨_,_,_,hl,fun K' h=>aJ hb h⟩)
theorem aA6 {v:Value}:fD (QF h nx v):=by
 intro K hl;unfold QF at *
 repeat' (split at hl)
 all_goals first|(exact hl.elim)|(exact⟨_,hl,fun K' h=>h⟩)|(exact⟨_,_,_,hl,fun K' h=>h⟩)|(obtain⟨hb,hl⟩:=aG.1 hl;exact⟨_,hl,fun K' h=>aJ hb h⟩)|(obtain⟨hb,hl⟩:=aG.1 hl;exact⟨_,_,_,hl,fun K' h=>aJ hb h⟩)
theorem CH {t:TypeId}{n:Nat}{ps:List (Nat × Value)}:fD (eF T h nx t n ps):=by
 intro K hl;unfold eF at *
 repeat' (split at hl)
 all_goals first|(exact hl.elim)|(exact⟨_,hl,fun K' h=>h⟩)|(exact⟨_,_,_,hl,fun K' h=>h⟩)|(obtain⟨hb,hl⟩:=aG.1 hl;exact⟨_,hl,fun K' h=>aJ hb h⟩)|(obtain⟨hb,hl⟩:=aG.1 hl;exact⟨_,_,_,hl,fun K' h=>aJ hb h⟩)
theorem PZ {t:TypeId}{x:Value}:fD (wP T h nx t x):=by
 intro K hl;unfold wP at *
 repeat' (split at hl)
 all_goals first|(exact hl.elim)|(exact⟨_,hl,fun K' h=>h⟩)|(exact⟨_,_,_,hl,fun K' h=>h⟩)|(obtain⟨hb,hl⟩:=aG.1 hl;exact⟨_,hl,fun K' h=>aJ hb h⟩)|(obtain⟨hb,hl⟩:=aG.1 hl;exact⟨_,_,_,hl,fun K' h=>aJ hb h⟩)
theorem EF {t:TypeId}{x k v:Value}:fD (jW A T h nx t x k v):=by
 intro K hl;unfold jW at *
 repeat' (split at hl)
 all_goals first|(exact hl.elim)|(exact⟨_,hl,fun K' h=>h⟩)|(exact⟨_,_,_,hl,fun K' h=>h⟩)|(obtain⟨hb,hl⟩:=aG.1 hl;exact⟨_,hl,fun K' h=>aJ hb h⟩)|(obtain⟨hb,hl⟩:=aG.1 hl;exact⟨_,_,_,hl,fun K' h=>aJ hb h⟩)
theorem BF {t:TypeId}{x k:Value}{ok:Bool}:uO (oI A T h t x k ok):=by
 intro K hl;unfold oI at *
 repeat' (split at hl)
 all_goals first|(exact hl.elim)|(exact⟨_,hl,fun K' h=>h⟩)|(exact⟨_,_,_,hl,fun K' h=>h⟩)|(obtain⟨hb,hl⟩:=aG.1 hl;exact⟨_,hl,fun K' h=>aJ hb h⟩)|(obtain⟨hb,hl⟩:=aG.1 hl;exact⟨_,_,_,hl,fun K' h=>aJ hb h⟩)
theorem aAy {n c:Nat}{hi:Option Value}{G:Nat→KE→Prop}(hG:∀ m,fD (G m)):fD (fun K=>vhi A n c hi fun m=>G m K):=by
 intro K hl;unfold vhi at *;split at hl
 ·exact hG _ K hl
 ·exact fO (hG _) K hl
 ·exact hl.elim
theorem E8 {t:TypeId}{x:Value}{lo hi mx:Option Value}:fD (sX A T h nx t x lo hi mx):=by
 intro K hl;unfold sX at *;split at hl
 case h_2=>exact hl.elim
 split at hl
 ·exact hl.elim
 split at hl
 ·split at hl
  ·exact cL K hl
  ·exact hl.elim
 ·refine aAy (fun m=>?_) K hl;intro K hl;split at hl
  ·exact cL K hl
  ·refine fO ?_ K hl;intro K hl;split at hl
   ·exact yN cL cL K hl
   ·exact hl.elim
  ·exact hl.elim
 ·split at hl
  ·exact cL K hl
  ·exact hl.elim
 ·split at hl
  ·exact fO cL K hl
  ·exact fO cL K hl
  ·exact hl.elim
 ·exact hl.elim
theorem YK {sz:Nat}{x:Value}{G:Nat→List Value→KE→Prop}(hG:∀ m l,fD (G m l)):fD (fun K=>HM h sz x fun m l=>G m l K):=by
 intro K hl;unfold HM at *;split at hl
 ·exact hG _ _ K hl
 ·split at hl
  ·exact fO (hG _ _) K hl
  ·split at hl
   ·exact hG _ _ K hl
   ·exact hl.elim
  ·split at hl
   ·exact hG _ _ K hl
   ·exact hl.elim
  ·exact hl.elim
 ·exact hl.elim
theorem E5 {t:TypeId}{l c:Value}:fD (jX A T h nx t l c):=by
 intro K hl;unfold jX at *;split at hl
 case h_2=>exact hl.elim
 split at hl
 case h_2=>exact hl.elim
 exact fO cL K hl
theorem PH {st xt:TypeId}{s x:Value}:fD (lH A T h nx st xt s x):=by
 intro K hl;unfold lH at *;split at hl
 case h_3=>exact hl.elim
 case h_1 =>
  split at hl
  case h_2=>exact hl.elim
  split at hl
  case h_2=>exact hl.elim
  exact fO cL K hl
 split at hl
 ·exact hl.elim
 split at hl
 ·exact hl.elim
 refine YK (fun m l=>?_) K hl;intro K hl;split at hl
 ·exact yN cL (fO cL) K hl
 ·split at hl
  ·split at hl
   ·exact yN cL (fO cL) K hl
   ·exact hl.elim
  ·exact yN (fO cL) (fO cL) K hl
  ·exact hl.elim
 ·exact hl.elim
variable {A:Ar}{T:cN}{C:VC}{Y:VY}
theorem C1 (hC:dW C)(hY:dW Y){env:List (Nat × Value)}{h:Heap}{nx:Nat}{op:Op}:fD (pK A T C Y env h nx op):=by
 have hlook:fD (fun K=>jD A T env h op (fun v=>K v h nx)):=VK I7;show fD (fun K=>pK A T C Y env h nx op K);cases op
 case store t x y=>exact iT fun p=>iT fun v=>SG
 case alloc t=>exact QN
 case box t x=>exact iT fun v=>aA6
 case buildSlice t n ps =>
  simp only [pK];intro K hl;split at hl
  ·exact CH K hl
  ·exact hl.elim
 case slice t x lo hi mx =>
  simp only [pK];refine iT fun v=>?_;intro K hl;split at hl
  ·exact E8 K hl
  ·exact hl.elim
 case makeSlice t l c =>
  simp only [pK];exact iT fun x=>iT fun y=>E5
 case makeMap t r =>
  cases r with
  |none=>exact cL
  |some r=>exact hlook
 case lookup t m k ok=>exact iT fun x=>iT fun y=>VK BF
 case mapUpdate t m k u=>exact iT fun x=>iT fun y=>iT fun v=>EF
 case call c =>
  obtain⟨cal,args,ats⟩:=c;cases cal with
  |invoke r m=>exact fB
  |builtin b =>
   cases b
   case append =>
    simp only [pK];intro K hl;split at hl
    ·exact PH K hl
    ·exact hl.elim
   case clear =>
    simp only [pK];intro K hl;split at hl
    ·exact PZ K hl
    ·exact hl.elim
   all_goals exact hlook
  |value f =>
   simp only [pK];refine iT fun fv=>?_;intro K hl;split at hl
   ·split at hl
    ·split at hl
     ·exact hC _ _ _ _ K hl
     ·exact hl.elim
    ·split at hl
     ·exact hY _ _ _ _ K hl
     ·exact hl.elim
    ·exact hl.elim
   ·exact hl.elim
 all_goals exact hlook
theorem xK {ops:List Oper}{env:List (Nat × Value)}{g:Option (Nat × Bool)}:(∃ e,∀ Yk N,fL A ops env g Yk N=Yk e)∨(∃ e,∀ Yk N,fL A ops env g Yk N=N e)∨(∀ Yk N,fL A ops env g Yk N=False):=by
 unfold fL;cases g with
 |none=>exact .inl ⟨env,fun _ _=>rfl⟩
 |some gw =>
  obtain⟨j,want⟩:=gw;simp only;cases fC ops j with
  |none=>exact .inr (.inr fun _ _=>rfl)
  |some o =>
   simp only;cases o.dst with
   |none=>exact .inr (.inr fun _ _=>rfl)
   |some t =>
    simp only;cases look env t with
    |none=>exact .inr (.inr fun _ _=>rfl)
    |some v =>
     cases v with
     |tuple vs=>exact .inr (.inl ⟨env,fun _ _=>rfl⟩)
     |bool b =>
      simp only;cases A.eqB b want with
      |true=>exact .inl ⟨_,fun _ _=>rfl⟩
      |false=>exact .inr (.inl ⟨_,fun _ _=>rfl⟩)
     |_=>exact .inr (.inr fun _ _=>rfl)
theorem D7 {tn:Nat}{env:List (Nat × Value)}{dst:Option Nat}{v:Value}:(∃ e,∀ K,eL tn env dst v K=K e)∨(∀ K,eL tn env dst v K=False):=by
 unfold eL;cases dst with
 |none=>exact .inl ⟨env,fun _=>rfl⟩
 |some d =>
  simp only;cases Nat.blt d tn with
  |true=>exact .inl ⟨_,fun _=>rfl⟩
  |false=>exact .inr fun _=>rfl
theorem mY {e:List (Nat × Value)}{h:Heap}{nx:Nat}:kT (fun K=>K e h nx):=fun K hl=>⟨e,h,nx,hl,fun K' h=>h⟩
theorem w8:kT (fun _=>False):=fun K hl=>hl.elim
theorem v8 {ops:List Oper}{env:List (Nat × Value)}{g:Option (Nat × Bool)}{F G:List (Nat × Value)→KS→Prop}(hF:∀ e,kT (F e))(hG:∀ e,kT (G e)):kT (fun K=>fL A ops env g (fun e=>F e K) (fun e=>G e K)):=by
 rcases xK (A:=A) (ops:=ops) (env:=env) (g:=g) with ⟨e,h⟩|⟨e,h⟩|h
 ·simp only [h];exact hF e
 ·simp only [h];exact hG e
 ·simp only [h];exact w8
theorem nF {tn:Nat}{env:List (Nat × Value)}{dst:Option Nat}{v:Value}{F:List (Nat × Value)→KS→Prop}(hF:∀ e,kT (F e)):kT (fun K=>eL tn env dst v (fun e=>F e K)):=by
 rcases D7 (tn:=tn) (env:=env) (dst:=dst) (v:=v) with ⟨e,h⟩|h
 ·simp only [h];exact hF e
 ·simp only [h];exact w8
theorem AT {E:KE→Prop}{F:Value→Heap→Nat→KS→Prop}(hE:fD E)(hF:∀ v h nx,kT (F v h nx)):kT (fun K=>E (fun v h nx=>F v h nx K)):=by
 intro K hl;obtain⟨v,h,nx,h1,h2⟩:=hE _ hl;obtain⟨e,h',nx',h3,h4⟩:=hF v h nx K h1;exact⟨e,h',nx',h3,fun K' hk=>h2 _ (h4 K' hk)⟩
theorem R8 {E:KS→Prop}{F:List (Nat × Value)→Heap→Nat→KS→Prop}(hE:kT E)(hF:∀ v h nx,kT (F v h nx)):kT (fun K=>E (fun v h nx=>F v h nx K)):=by
 intro K hl;obtain⟨v,h,nx,h1,h2⟩:=hE _ hl;obtain⟨e,h',nx',h3,h4⟩:=hF v h nx K h1;exact⟨e,h',nx',h3,fun K' hk=>h2 _ (h4 K' hk)⟩
theorem W0 {b:Bool}{E:KS→Prop}(h:kT E):kT (fun K=>dK b (E K)):=by
 intro K hl;obtain⟨hb,hl⟩:=aG.1 hl;obtain⟨x,y,z,h1,h2⟩:=h K hl;exact⟨x,y,z,h1,fun K' hk=>aJ hb (h2 K' hk)⟩
theorem GU (hC:dW C)(hY:dW Y){tn:Nat}{ops:List Oper}:∀ (l:List Oper) (env:List (Nat × Value)) (h:Heap) (nx:Nat),kT (zK A T C Y tn ops l env h nx)
 |[],env,h,nx=>mY
 |o::r,env,h,nx=>by
  show kT (fun K=>zK A T C Y tn ops (o::r) env h nx K);simp only [ID]
  exact v8 (F:=fun e K=>pK A T C Y e h nx o.op fun v h' nx'=>eL tn e o.dst v fun env'=>zK A T C Y tn ops r env' h' nx' K) (G:=fun e K=>eL tn e o.dst undef fun env'=>zK A T C Y tn ops r env' h nx K)
   (fun e=>AT (F:=fun v h' nx' K=>eL tn e o.dst v fun env'=>zK A T C Y tn ops r env' h' nx' K) (C1 hC hY) fun v h' nx'=>nF (F:=fun env' K=>zK A T C Y tn ops r env' h' nx' K) fun e'=>GU hC hY r e' h' nx')
   (fun e=>nF (F:=fun env' K=>zK A T C Y tn ops r env' h nx K) fun e'=>GU hC hY r e' h nx)
def qZ {α:Type}(E:(α→Nat→Prop)→Prop):Prop:=∀ K,E K→∃ v n,K v n∧∀ K':α→Nat→Prop,K' v n→E K'
theorem TG {E:(Value→Prop)→Prop}{n:Nat}(hE:uO E):qZ (fun K=>E (fun v=>K v n)):=by
 intro K hl;obtain⟨v,h1,h2⟩:=hE _ hl;exact⟨v,n,h1,fun K' hk=>h2 _ hk⟩
theorem C8 {x:Option Value}{F:Value→(Value→Nat→Prop)→Prop}(hF:∀ v,qZ (F v)):qZ (fun K=>on x (fun v=>F v K)):=by
 cases x with
 |none=>exact fun K hl=>hl.elim
 |some v=>exact hF v
theorem RX (hC:dW C){hJ:Heap}{nx:Nat}{env:List (Nat × Value)}{op:Op}:qZ (iO A T C hJ nx env op):=by
 have hlook:∀ hh op',qZ (fun K=>jD A T env hh op' (fun v=>K v nx)):=fun _ _=>TG I7;show qZ (fun K=>iO A T C hJ nx env op K);cases op
 case load t x=>simp only [iO];exact hlook hJ _
 case lookup t m k ok=>exact C8 fun x=>C8 fun y=>TG BF
 case slice t x lo hi mx =>
  simp only [iO];refine C8 fun v=>?_;intro K hl;split at hl
  ·obtain⟨v,h',nx',h1,h2⟩:=E8 _ hl;exact⟨v,nx',h1,fun K' hk=>h2 _ hk⟩
  ·exact hl.elim
 case call c =>
  obtain⟨cal,args,ats⟩:=c;cases cal with
  |invoke r m=>exact fun K hl=>hl.elim
  |builtin b=>simp only [iO];exact hlook [] _
  |value f =>
   simp only [iO];refine C8 fun fv=>?_;intro K hl;split at hl
   ·split at hl
    ·split at hl
     ·obtain⟨v,h',nx',h1,h2⟩:=hC _ _ _ _ _ hl;split at h1
      ·rename_i hb;exact⟨v,nx,h1,fun K' hk=>h2 _ (by rw [hb];exact hk)⟩
      ·exact h1.elim
     ·exact hl.elim
    ·exact hl.elim
   ·exact hl.elim
 all_goals (simp only [iO];exact hlook [] _)
theorem DS {α β:Type}{E:(α→Prop)→Prop}{F:α→(β→Prop)→Prop}(hE:uO E)(hF:∀ v,uO (F v)):uO (fun K=>E (fun v=>F v K)):=by
 intro K hl;obtain⟨v,h1,h2⟩:=hE _ hl;obtain⟨e,h3,h4⟩:=hF v K h1;exact⟨e,h3,fun K' hk=>h2 _ (h4 K' hk)⟩
theorem wL {α:Type}:qZ (fun _:α→Nat→Prop=>False):=fun _ hl=>hl.elim
theorem XM {α:Type}{v:α}{n:Nat}:qZ (fun K:α→Nat→Prop=>K v n):=fun _ hl=>⟨v,n,hl,fun _ h=>h⟩
theorem YF {α β:Type}{E:(α→Nat→Prop)→Prop}{F:α→Nat→(β→Nat→Prop)→Prop}(hE:qZ E)(hF:∀ v n,qZ (F v n)):qZ (fun K=>E (fun v n=>F v n K)):=by
 intro K hl;obtain⟨v,n,h1,h2⟩:=hE _ hl;obtain⟨e,m,h3,h4⟩:=hF v n K h1;exact⟨e,m,h3,fun K' hk=>h2 _ (h4 K' hk)⟩
theorem SF {α:Type}{ops:List Oper}{env:List (Nat × Value)}{g:Option (Nat × Bool)}{F G:List (Nat × Value)→(α→Nat→Prop)→Prop}(hF:∀ e,qZ (F e))(hG:∀ e,qZ (G e)):qZ (fun K=>fL A ops env g (fun e=>F e K) (fun e=>G e K)):=by
 rcases xK (A:=A) (ops:=ops) (env:=env) (g:=g) with ⟨e,h⟩|⟨e,h⟩|h
 ·simp only [h];exact hF e
 ·simp only [h];exact hG e
 ·simp only [h];exact wL
theorem PE {α:Type}{tn:Nat}{env:List (Nat × Value)}{dst:Option Nat}{v:Value}{F:List (Nat × Value)→(α→Nat→Prop)→Prop}(hF:∀ e,qZ (F e)):qZ (fun K=>eL tn env dst v (fun e=>F e K)):=by
 rcases D7 (tn:=tn) (env:=env) (dst:=dst) (v:=v) with ⟨e,h⟩|h
 ·simp only [h];exact hF e
 ·simp only [h];exact wL
theorem zP (hC:dW C){tn:Nat}{ops:List Oper}{hJ:Heap}:∀ (l:List Nat) (env:List (Nat × Value)) (nx:Nat),qZ (oH A T C tn ops hJ l env nx)
 |[],env,nx=>XM
 |i::r,env,nx=>by
  show qZ (fun K=>oH A T C tn ops hJ (i::r) env nx K);simp only [wK];cases fC ops i with
  |none=>exact wL
  |some o =>
   exact SF (F:=fun e K=>iO A T C hJ nx e o.op fun v nx'=>eL tn e o.dst v fun env=>oH A T C tn ops hJ r env nx' K) (G:=fun e K=>eL tn e o.dst undef fun env=>oH A T C tn ops hJ r env nx K)
    (fun e=>YF (F:=fun v n K=>eL tn e o.dst v fun env=>oH A T C tn ops hJ r env n K) (RX hC) fun v n=>PE (F:=fun env K=>oH A T C tn ops hJ r env n K) fun e'=>zP hC r e' n)
    (fun e=>PE (F:=fun env K=>oH A T C tn ops hJ r env nx K) fun e'=>zP hC r e' nx)
theorem R4 {E:(List (Nat × Value)→Nat→Prop)→Prop}{F:List (Nat × Value)→Nat→KS→Prop}(hE:qZ E)(hF:∀ e n,kT (F e n)):kT (fun K=>E (fun e n=>F e n K)):=by
 intro K hl;obtain⟨e0,n0,h1,h2⟩:=hE _ hl;obtain⟨e,h,nx,h3,h4⟩:=hF e0 n0 K h1;exact⟨e,h,nx,h3,fun K' hk=>h2 _ (h4 K' hk)⟩
theorem BW {tn:Nat}{ops:List Oper}:∀ (l:List Nat) (env:List (Nat × Value)) (h:Heap) (nx:Nat),kT (lF T tn ops l env h nx)
 |[],env,h,nx=>mY
 |i::r,env,h,nx=>by
  intro K hl;simp only [mI] at hl ⊢;split at hl
  ·split at hl
   ·exact nF (F:=fun e K=>lF T tn ops r e _ _ K) (fun e=>BW r e _ _) K hl
   ·exact hl.elim
  ·exact hl.elim
theorem AX (hC:dW C)(hY:dW Y){tn:Nat}{ops:List Oper}{hJ:Heap}:∀ (l:List (Nat × Bool)) (env:List (Nat × Value)) (h:Heap) (nx:Nat),kT (j0 A T C Y tn ops hJ l env h nx)
 |[],env,h,nx=>mY
 |(i,chk)::r,env,h,nx=>by
  show kT (fun K=>j0 A T C Y tn ops hJ ((i,chk)::r) env h nx K);simp only [wC];cases fC ops i with
  |none=>exact w8
  |some o =>
   exact v8 (F:=fun e K=>dK (yB e hJ chk o.op) (pK A T C Y e h nx o.op fun v h' nx'=>eL tn e o.dst v fun env'=>j0 A T C Y tn ops hJ r env' h' nx' K)) (G:=fun e K=>eL tn e o.dst undef fun env'=>j0 A T C Y tn ops hJ r env' h nx K)
    (fun e=>W0 (AT (F:=fun v h' nx' K=>eL tn e o.dst v fun env'=>j0 A T C Y tn ops hJ r env' h' nx' K) (C1 hC hY) fun v h' nx'=>nF (F:=fun env' K=>j0 A T C Y tn ops hJ r env' h' nx' K) fun e'=>AX hC hY r e' h' nx'))
    (fun e=>nF (F:=fun env' K=>j0 A T C Y tn ops hJ r env' h nx K) fun e'=>AX hC hY r e' h nx)
theorem PF (hC:dW C)(hY:dW Y){tn:Nat}{ops:List Oper}{p:fE}{env:List (Nat × Value)}{h:Heap}{nx:Nat}:kT (oF A T C Y tn ops p env h nx):=by
 show kT (fun K=>oF A T C Y tn ops p env h nx K);unfold oF;exact R4 (F:=fun e n K=>lF T tn ops p.allocs e h n fun env2 h2 nx2=>j0 A T C Y tn ops (HG T ops env p h) p.tail env2 h2 nx2 K) (zP hC p.head env nx) fun e n =>
  R8 (F:=fun env2 h2 nx2 K=>j0 A T C Y tn ops (HG T ops env p h) p.tail env2 h2 nx2 K) (BW p.allocs e h n) fun e2 h2 nx2=>AX hC hY p.tail e2 h2 nx2
def j8 (ρ:Nat→Nat):Nat→Loc:=fun k=>.lay (ρ k) 0 0
def gP (ρ:Nat→Nat):Value→Value:=tr (j8 ρ)
def bS (ρ:Nat→Nat):Value→Value:=bT (j8 ρ)
def xD (n:Nat):Value→Prop:=eT (j8 id) n
def CR (n:Nat):Value→Prop:=gY (j8 id) n
def bX (ρ:Nat→Nat)(n:Nat):aV→aV→Prop
 |.cells wr0 g0 sz0 cs0,.cells wr g sz cs=>wr0=wr∧g0=g∧sz0=sz∧cs=cs0.map (bS ρ)∧∀ v∈cs0,CR n v
 |.map es0,.map es=>es=es0.map (fun e=>(e.1,bS ρ e.2))∧∀ e∈es0,CR n e.2
 |.zero,.zero=>True
 |_,_=>False
structure oM (b:Nat) (ρ:Nat→Nat) (e0:List (Nat × Value)) (h0:Heap) (n0:Nat) (e:List (Nat × Value)) (h:Heap) (nx:Nat):Prop where
 env:∀ t v,look e0 t=some v→look e t=some (gP ρ v)∧xD n0 v
 heap:∀ k o,look h0 k=some o→k<n0∧∃ o',look h (ρ k)=some o'∧bX ρ n0 o o'
 inj:∀ k k' o o',look h0 k=some o→look h0 k'=some o'→ρ k=ρ k'→k=k'
 fix:∀ k,k<b→ρ k=k
 le:b≤n0
section
variable {ι:Nat→Loc}{ρ:Nat→Nat}{n m:Nat}
theorem DC (v:Value):dU ι (dU (j8 ρ) v)=dU (fun k=>ι (ρ k)) v:=by
 cases v with
 |pointer a =>
  cases a with
  |none=>rfl
  |some a =>
   simp only [dU,j8,Nat.zero_add]
 |slice a n c =>
  cases a with
  |none=>rfl
  |some a =>
   simp only [dU,j8,Nat.zero_add,Nat.add_zero]
 |map a =>
  cases a with
  |none=>rfl
  |some a=>simp only [dU,j8]
 |_=>rfl
theorem aAS {f:Fn}(h:RE ι n (lZ (j8 ρ) f)):lZ ι (lZ (j8 ρ) f)=lZ (fun k=>ι (ρ k)) f:=by
 cases f with
 |yield l =>
  have h:=h.2;simp only [lZ,j8];cases hl:ι (ρ l) with
  |nil p=>rw [hl] at h;cases h
  |lay b o e=>rfl
 |_=>rfl
theorem iU {v:Value}(h:gY ι n (bT (j8 ρ) v)):bT ι (bT (j8 ρ) v)=bT (fun k=>ι (ρ k)) v:=by
 cases v with
 |func f a c =>
  have h1:=aAS (ι:=ι) (n:=n) (f:=f) h.1;simp only [bT,h1,Array.map_map];congr 2;funext x;exact DC x
 |pointer a=>have:=DC (ι:=ι) (ρ:=ρ) (.pointer a);cases a <;> exact this
 |slice a n c=>have:=DC (ι:=ι) (ρ:=ρ) (.slice a n c);cases a <;> exact this
 |map a=>have:=DC (ι:=ι) (ρ:=ρ) (.map a);cases a <;> exact this
 |_=>rfl
theorem uN {v:Value}(h:kL ι n (dT (j8 ρ) v)):dT ι (dT (j8 ρ) v)=dT (fun k=>ι (ρ k)) v:=by
 cases v with
 |agg cs =>
  simp only [dT,Array.map_map];congr 1;apply Array.map_congr_left;intro x hx;exact iU (n:=n) (h (bT (j8 ρ) x) (by simp only [Array.toList_map,List.mem_map];exact⟨x,by simpa using hx,rfl⟩))
 |pointer a=>have:=iU (ι:=ι) (ρ:=ρ) (n:=n) (v:=.pointer a);cases a <;> exact this h
 |slice a l c=>have:=iU (ι:=ι) (ρ:=ρ) (n:=n) (v:=.slice a l c);cases a <;> exact this h
 |map a=>have:=iU (ι:=ι) (ρ:=ρ) (n:=n) (v:=.map a);cases a <;> exact this h
 |func f a c=>exact iU (ι:=ι) (ρ:=ρ) (n:=n) (v:=.func f a c) h
 |_=>rfl
theorem FR {v:Value}(h:eT ι n (gP ρ v)):tr ι (gP ρ v)=tr (fun k=>ι (ρ k)) v:=by
 unfold gP at h ⊢;cases v with
 |tuple cs =>
  simp only [tr,Array.map_map];congr 1;apply Array.map_congr_left;intro x hx;exact uN (n:=n) (h (dT (j8 ρ) x) (by simp only [Array.toList_map,List.mem_map];exact⟨x,by simpa using hx,rfl⟩))
 |pointer a=>have:=uN (ι:=ι) (ρ:=ρ) (n:=n) (v:=.pointer a);cases a <;> exact this h
 |slice a l c=>have:=uN (ι:=ι) (ρ:=ρ) (n:=n) (v:=.slice a l c);cases a <;> exact this h
 |map a=>have:=uN (ι:=ι) (ρ:=ρ) (n:=n) (v:=.map a);cases a <;> exact this h
 |func f a c=>exact uN (ι:=ι) (ρ:=ρ) (n:=n) (v:=.func f a c) h
 |agg c=>exact uN (ι:=ι) (ρ:=ρ) (n:=n) (v:=.agg c) h
 |_=>rfl
theorem C5 {v:Value}(h:oB ι n (dU (j8 ρ) v))(hm:oB (j8 id) m v):oB (fun k=>ι (ρ k)) m v:=by
 cases v with
 |pointer a =>
  cases a with
  |none=>trivial
  |some a=>exact⟨hm.1,h.2⟩
 |slice a l c =>
  cases a with
  |none=>trivial
  |some a=>exact⟨hm.1,fun hf=>h.2 hf⟩
 |map a =>
  cases a with
  |none=>trivial
  |some a=>exact⟨hm.1,h.2⟩
 |agg c=>exact hm.elim
 |tuple c=>exact hm.elim
 |_=>trivial
theorem oE {v:Value}(h:gY ι n (bT (j8 ρ) v))(hm:gY (j8 id) m v):gY (fun k=>ι (ρ k)) m v:=by
 cases v with
 |func f a c =>
  refine⟨?_,fun x hx=>?_⟩
  ·have h1:=h.1;have h2:=hm.1;cases f with
   |yield l=>exact⟨h2.1,h1.2⟩
   |_=>trivial
  ·refine C5 (n:=n) (h.2 _ ?_) (hm.2 x hx);simp only [Array.toList_map,List.mem_map];exact⟨x,hx,rfl⟩
 |pointer a=>have:=C5 (ι:=ι) (ρ:=ρ) (n:=n) (m:=m) (v:=.pointer a);cases a <;> exact this h hm
 |slice a l c=>have:=C5 (ι:=ι) (ρ:=ρ) (n:=n) (m:=m) (v:=.slice a l c);cases a <;> exact this h hm
 |map a=>have:=C5 (ι:=ι) (ρ:=ρ) (n:=n) (m:=m) (v:=.map a);cases a <;> exact this h hm
 |agg c=>exact hm.elim
 |tuple c=>exact hm.elim
 |_=>trivial
theorem tY {v:Value}(h:kL ι n (dT (j8 ρ) v))(hm:kL (j8 id) m v):kL (fun k=>ι (ρ k)) m v:=by
 cases v with
 |agg cs =>
  intro x hx;refine oE (n:=n) (h _ ?_) (hm x hx);simp only [Array.toList_map,List.mem_map];exact⟨x,hx,rfl⟩
 |pointer a=>have:=oE (ι:=ι) (ρ:=ρ) (n:=n) (m:=m) (v:=.pointer a);cases a <;> exact this h hm
 |slice a l c=>have:=oE (ι:=ι) (ρ:=ρ) (n:=n) (m:=m) (v:=.slice a l c);cases a <;> exact this h hm
 |map a=>have:=oE (ι:=ι) (ρ:=ρ) (n:=n) (m:=m) (v:=.map a);cases a <;> exact this h hm
 |func f a c=>exact oE (ι:=ι) (ρ:=ρ) (n:=n) (m:=m) (v:=.func f a c) h hm
 |tuple c=>exact hm.elim
 |_=>trivial
theorem DF {v:Value}(h:eT ι n (gP ρ v))(hm:xD m v):eT (fun k=>ι (ρ k)) m v:=by
 unfold gP at h;unfold xD at hm;cases v with
 |tuple cs =>
  intro x hx;refine tY (n:=n) (h _ ?_) (hm x hx);simp only [Array.toList_map,List.mem_map];exact⟨x,hx,rfl⟩
 |pointer a=>have:=tY (ι:=ι) (ρ:=ρ) (n:=n) (m:=m) (v:=.pointer a);cases a <;> exact this h hm
 |slice a l c=>have:=tY (ι:=ι) (ρ:=ρ) (n:=n) (m:=m) (v:=.slice a l c);cases a <;> exact this h hm
 |map a=>have:=tY (ι:=ι) (ρ:=ρ) (n:=n) (m:=m) (v:=.map a);cases a <;> exact this h hm
 |func f a c=>exact tY (ι:=ι) (ρ:=ρ) (n:=n) (m:=m) (v:=.func f a c) h hm
 |agg c=>exact tY (ι:=ι) (ρ:=ρ) (n:=n) (m:=m) (v:=.agg c) h hm
 |_=>trivial
theorem aGe {v:Value}(h:gS (bT (j8 ρ) v)=true):gS v=true:=by
 cases v with
 |pointer a=>cases a with
  |none=>rfl
  |some a=>simp [bT,dU,j8,gS] at h
 |slice a n c=>cases a with
  |none=>rfl
  |some a=>simp [bT,dU,j8,gS] at h
 |map a=>cases a with
  |none=>rfl
  |some a=>simp [bT,dU,j8,gS] at h
 |func f a c =>
  cases f with
  |func f=>simpa [bT,lZ,gS] using h
  |yield l=>simp [bT,lZ,j8,gS] at h
  |_=>simp [bT,lZ,gS] at h
 |_=>exact h
theorem O7 {l:List Value}(h:dF (l.map (bS ρ))=true):dF l=true :=
 tW fun v hv=>aGe (a9 h (List.mem_map_of_mem hv))
theorem aAf {B:Nat}{w:World}{o0 o:aV}{l:Loc}(h:kI ι B w o l)(hs:T4 ι n o)(hr:bX ρ m o0 o):kI (fun k=>ι (ρ k)) B w o0 l:=by
 cases o0 with
 |cells wr0 g0 sz0 cs0 =>
  cases o with
  |cells wr g sz cs =>
   obtain⟨rfl,rfl,rfl,rfl,hn⟩:=hr;cases l with
   |nil p =>
    have h1:cs0.map (bS ρ)=[]∧(sz0=0∨wr0=true→p.isSome=true):=(by cases wr0 <;> exact h);have h2:cs0=[]:=(by simpa using h1.1);cases wr0 <;> exact⟨h2,h1.2⟩
   |lay b off e =>
    cases wr0 with
    |true =>
     obtain⟨h1,h2,arr,t,h3,h4,h5⟩:=h;refine⟨h1,fun hg=>O7 (h2 hg),arr,t,h3,by simpa using h4,fun i v hv=>?_⟩;rw [← iU (n:=n) (hs _ (List.mem_map_of_mem (List.mem_of_getElem? hv)))];exact h5 i _ (by rw [List.getElem?_map,hv];rfl)
    |false =>
     obtain⟨h1,h2,h5⟩:=h;refine⟨h1,fun hg=>O7 (h2 hg),fun i v hv=>?_⟩;rw [← iU (n:=n) (hs _ (List.mem_map_of_mem (List.mem_of_getElem? hv)))];exact h5 i _ (by rw [List.getElem?_map,hv];rfl)
  |_=>exact hr.elim
 |map es0 =>
  cases o with
  |map es =>
   obtain⟨rfl,hn⟩:=hr;cases l with
   |nil p=>exact h.elim
   |lay b off e =>
    obtain⟨h1,ents,clock,h2,h3,h4⟩:=h;refine⟨h1,ents,clock,h2,h3.trans ?_,fun x hx=>h4 (x.1,bS ρ x.2) (List.mem_map_of_mem hx)⟩;rw [List.map_map];apply List.map_congr_left;intro x hx;simp only [Function.comp_apply,bS];rw [iU (n:=n) (hs (x.1,bS ρ x.2) (List.mem_map_of_mem hx))]
  |_=>exact hr.elim
 |zero =>
  cases o with
  |zero=>cases l <;> exact h
  |_=>exact hr.elim
 |_=>exact hr.elim
theorem aCq {o0 o:aV}(h:T4 ι n o)(hr:bX ρ m o0 o):T4 (fun k=>ι (ρ k)) m o0:=by
 cases o0 with
 |cells wr0 g0 sz0 cs0 =>
  cases o with
  |cells wr g sz cs =>
   obtain⟨rfl,rfl,rfl,rfl,hn⟩:=hr;exact fun v hv=>oE (n:=n) (h _ (List.mem_map_of_mem hv)) (hn v hv)
  |_=>exact hr.elim
 |map es0 =>
  cases o with
  |map es =>
   obtain⟨rfl,hn⟩:=hr;exact fun x hx=>oE (n:=n) (h (x.1,bS ρ x.2) (List.mem_map_of_mem hx)) (hn x hx)
  |_=>exact hr.elim
 |zero=>trivial
 |_=>exact hr.elim
theorem bX.alone {o0 o:aV}(hr:bX ρ m o0 o)(h:o0.alone=true):o.alone=true:=by
 cases o0 <;> cases o <;> first|exact hr.elim|(obtain⟨rfl,_⟩:=hr;exact h)|exact h
variable {b:Nat}{e0 e:List (Nat × Value)}{h0 h:Heap}{n0 nx:Nat}
theorem oM.aHd (r:oM b ρ e0 h0 n0 e h nx){B:Nat}{w:World}(H:aR ι B h nx w):aR (fun k=>ι (ρ k)) B h0 n0 w:=by
 refine⟨fun k o hk=>?_,fun k k' o o' h1 h2 hne ha q hq=>?_,fun k o hk=>(r.heap k o hk).1,H.size,fun k o hk=>?_⟩
 ·obtain⟨_,o',h1,h2⟩:=r.heap k o hk;exact aAf (H.obj _ _ h1) (H.sc _ _ h1) h2
 ·obtain⟨_,p,k1,k2⟩:=r.heap k o h1;obtain⟨_,p',k3,k4⟩:=r.heap k' o' h2;exact H.sep _ _ p p' k1 k3 (fun e=>hne (r.inj k k' o o' h1 h2 e)) (k2.alone ha) q hq
 ·obtain⟨_,o',h1,h2⟩:=r.heap k o hk;exact aCq (H.sc _ _ h1) h2
theorem oM.aIb (r:oM b ρ e0 h0 n0 e h nx){a:Act}(H:cW ι nx e a):cW (fun k=>ι (ρ k)) n0 e0 a:=by
 intro t v hv;obtain⟨h1,h2⟩:=r.env t v hv;obtain⟨h3,h4⟩:=H t _ h1;exact⟨by rw [← FR h4];exact h3,DF h4 h2⟩
end
def pX (A:Ar)(T:cN)(C:VC)(Y:VY)(tn:Nat)(ops:List Oper)(o:Oper)(e:List (Nat × Value))(h:Heap)(nx:Nat)(K:KS):Prop :=
 fL A ops e o.guard (fun e=>pK A T C Y e h nx o.op fun v h' nx'=>eL tn e o.dst v fun e'=>K e' h' nx') (fun e=>eL tn e o.dst undef fun e'=>K e' h nx)
def allM (l:List Nat):List Nat→Bool
 |[]=>true
 |j::r=>match pH j l with|true=>allM l r|false=>false
theorem MZ {l m:List Nat}:allM l m=true↔∀ j∈m,j∈l:=by
 induction m with
 |nil=>simp [allM]
 |cons x r ih =>
  simp only [allM];split
  ·rename_i h;rw [ih];constructor
   ·intro h2 j hj;rcases List.mem_cons.1 hj with rfl|hj
    ·exact dM.1 h
    ·exact h2 j hj
   ·exact fun h2 j hj=>h2 j (.tail _ hj)
  ·rename_i h;constructor
   ·intro h2;cases h2
   ·intro h2;rw [dM.2 (h2 x (.head _))] at h;cases h
def eP (all:List Oper)(done:List Nat):List Oper→Nat→List Nat
 |[],_=>[]
 |o::r,i=>match pH i done with
  |true=>eP all done r (i+1)
  |false=>(match allM done (lI o) with|true=>i::eP all done r (i+1)|false=>eP all done r (i+1))
theorem SM {all:List Oper}{done:List Nat}:∀ {l:List Oper} {i k:Nat},k∈eP all done l i↔∃ j o,k=i+j∧fC l j=some o∧k∉done∧∀ x∈lI o,x∈done:=by
 intro l
 induction l with
 |nil =>
  intro i k;constructor
  ·intro h;cases h
  ·rintro ⟨j,o,_,h,_⟩;rw [eC] at h;simp at h
 |cons p r ih =>
  intro i k;have shift:(∃ j o,k=i+1+j∧fC r j=some o∧k∉done∧∀ x∈lI o,x∈done)→∃ j o,k=i+j∧fC (p::r) j=some o∧k∉done∧∀ x∈lI o,x∈done:=by
   rintro ⟨j,o,h1,h2,h3⟩;refine⟨j+1,o,by omega,?_,h3⟩;rw [eC] at h2 ⊢;simpa using h2
  have back:(∃ j o,k=i+j∧fC (p::r) j=some o∧k∉done∧∀ x∈lI o,x∈done)→(k=i∧i∉done∧∀ x∈lI p,x∈done)∨∃ j o,k=i+1+j∧fC r j=some o∧k∉done∧∀ x∈lI o,x∈done:=by
   rintro ⟨j,o,h1,h2,h3⟩;cases j with
   |zero =>
    rw [eC] at h2;simp at h2;subst h2;exact .inl ⟨by omega,by rw [show i=k by omega];exact h3.1,h3.2⟩
   |succ j =>
    refine .inr ⟨j,o,by omega,?_,h3⟩;rw [eC] at h2 ⊢;simpa using h2
  simp only [eP];split
  ·rename_i hm;rw [ih];refine⟨shift,fun h=>?_⟩;rcases back h with ⟨_,hn,_⟩|h
   ·exact absurd (dM.1 hm) hn
   ·exact h
  ·rename_i hm;have hn:i∉done:=fun h=>(by rw [dM.2 h] at hm;cases hm);split
   ·rename_i ha;rw [List.mem_cons,ih];constructor
    ·rintro (rfl|h)
     ·exact⟨0,p,rfl,by rw [eC];rfl,hn,MZ.1 ha⟩
     ·exact shift h
    ·intro h;rcases back h with ⟨h,_⟩|h
     ·exact .inl h
     ·exact .inr h
   ·rename_i ha;rw [ih];refine⟨shift,fun h=>?_⟩;rcases back h with ⟨_,_,h⟩|h
    ·rw [MZ.2 h] at ha;cases ha
    ·exact h
def LL (F:Nat→Prop):List Nat→Prop
 |[]=>True
 |[i]=>F i
 |i::r=>F i∧LL F r
theorem xG {F:Nat→Prop}:∀ {l:List Nat},LL F l↔∀ i∈l,F i
 |[]=>by simp [LL]
 |[i]=>by simp [LL]
 |i::j::r=>by
  rw [show LL F (i::j::r)=(F i∧LL F (j::r)) from rfl,xG];simp
def GQ (A:Ar)(T:cN)(C:VC)(Y:VY)(tn:Nat)(ops:List Oper)(K:KS):Nat→List Nat→KS
 |0,_=>K
 |n+1,done=>fun e h nx=>match eP ops done ops 0 with
  |[]=>K e h nx
  |i::r=>LL (fun j=>match fC ops j with|some o=>pX A T C Y tn ops o e h nx (GQ A T C Y tn ops K n (j::done))|none=>False) (i::r)
section
variable {P:Program}{T:cN}{C:VC}{Y:VY}{ops:Array Oper}
variable {B:Nat}{w0:World}{ιb:Nat→Loc}{nxb tn:Nat}{ds:List Deferred}{K:KS}
theorem ZJ (hT:cK P T)(hC:bG P C)(hY:eJ P Y)(r:Option Nat){Q:Exit→Act→World→Prop}{i:Nat}{o:Oper}(ho:fC ops.toList i=some o){ι:Nat→Loc}{e:List (Nat × Value)}{h:Heap}{nx:Nat}{a:Act}{w:World}
  (hl:pX aC T C Y tn ops.toList o e h nx K) (I:Inv B w0 ιb nxb tn ds ι e h nx a w) {next:Act→World→Prop}
  (hQ:∀ ι e h nx a w,K e h nx→Inv B w0 ιb nxb tn ds ι e h nx a w→next a w):wpOpIn (Fr r) 0 P ops Q i next a w:=by
 have hoo:ops[i]? = some o:=(by rw [eC] at ho;simpa using ho);unfold wpOpIn;simp only [hoo];unfold pX at hl;obtain⟨env1,he1,hcase⟩:=uJ I.env hl;rcases hcase with ⟨hw,hl⟩|⟨hw,hl⟩
 ·rw [if_pos hw];refine (RD hT hC hY he1 I.heap hl).upon (BE hl) rfl r _ _ fun v h' nx' ι' w' k1 k2 k3 k4 k5 k6=>?_;obtain⟨env2,k7,k8,k9,k10⟩:=oJ (he1.names k6 k5) I.size k1 k2;exact hQ ι' env2 h' nx' _ w' k7 (I.step k8 k3 k4 k5 k6 k9 k10)
 ·rw [hw];refine⟨fun _ _=>trivial,?_⟩;obtain⟨env2,k7,k8,k9,k10⟩:=oJ he1 I.size hl (v:=undef) (dE rfl);rw [iA (show gT undef=true from rfl)] at k8 k9 k10;exact hQ ι env2 h nx _ w k7 (I.step k8 I.heap (gJ.refl _ _) (fun _ _=>rfl) (Nat.le_refl _) k9 k10)
theorem wX {listed:Array Bool}(hs:listed.size=ops.size){done:List Nat}(hd:∀ i,vZ listed i↔i∈done){i:Nat}:i∈Region.ready .any ops listed↔i∈eP ops.toList done ops.toList 0:=by
 rw [mT hs,SM];constructor
 ·rintro ⟨h1,h2,h3⟩;have ho:fC ops.toList i=some ops[i]:=(by rw [eC];simp [h1]);refine⟨i,ops[i],by omega,ho,fun h=>h2 ((hd i).2 h),fun x hx=>(hd x).1 (h3 x ?_)⟩;unfold cD;rw [ho];exact hx
 ·rintro ⟨j,o,h1,h2,h3,h4⟩;have hij:i=j:=(by omega);subst hij;have hlt:i<ops.size:=by
   rw [eC] at h2;have:=(List.getElem?_eq_some_iff.1 h2).1;simpa using this
  refine⟨hlt,fun h=>h3 ((hd i).1 h),fun x hx=>(hd x).2 (h4 x ?_)⟩;unfold cD at hx;rw [h2] at hx;exact hx
theorem aEp (hT:cK P T)(hC:bG P C)(hY:eJ P Y)(r:Option Nat){Q:Exit→Act→World→Prop}
  (hQ:∀ ι e h nx a w,K e h nx→Inv B w0 ιb nxb tn ds ι e h nx a w→Q .normal a w):∀ (n:Nat) (listed:Array Bool) (done:List Nat) (ι:Nat→Loc) (e:List (Nat × Value)) (h:Heap) (nx:Nat) (a:Act) (w:World),
  listed.size=ops.size→(∀ i,vZ listed i↔i∈done)→left ops.size listed≤n→GQ aC T C Y tn ops.toList K n done e h nx→Inv B w0 ιb nxb tn ds ι e h nx a w→wpAnyIn (Fr r) 0 P .any ops Q n listed a w:=by
 intro n
 induction n with
 |zero =>
  intro listed done ι e h nx a w hs hd hl hv I;refine⟨?_,hQ ι e h nx a w hv I⟩;refine List.eq_nil_iff_forall_not_mem.2 fun i hi=>?_;obtain⟨h1,h2,_⟩:=(mT hs).1 hi;have:=xN h1 hs h2;omega
 |succ n ih =>
  intro listed done ι e h nx a w hs hd hl hv I;simp only [GQ] at hv;split at hv
  ·rename_i hr;have hno:∀ i,i∉Region.ready .any ops listed:=fun i hi=>by
    have:=(wX hs hd).1 hi;rw [hr] at this;cases this
   exact⟨fun _=>hQ ι e h nx a w hv I,fun i hi=>absurd hi (hno i)⟩
  ·rename_i i0 r0 hr;rw [xG] at hv;refine⟨fun hn=>?_,fun i hi=>?_⟩
   ·exfalso;have:i0∈Region.ready .any ops listed:=(wX hs hd).2 (by rw [hr];exact .head _);rw [hn] at this;cases this
   ·obtain⟨h1,h2,_⟩:=(mT hs).1 hi;have hv':=hv i (by rw [← hr];exact (wX hs hd).1 hi);split at hv'
    case h_2=>exact hv'.elim
    rename_i o ho;refine ZJ hT hC hY r ho hv' I fun ι e h nx a w hk J=>?_;have hset:=vZ.set (listed:=listed) (i:=i) (by omega);refine ih _ (i::done) ι e h nx a w (by simp [hs]) (fun j=>?_) (by have:=xN h1 hs h2;omega) hk J;rw [hset];unfold F0;rw [hd j,List.mem_cons]
theorem PM (hT:cK P T)(hC:bG P C)(hY:eJ P Y)(hm:P.follows .mixedOrders=true){ι:Nat→Loc}{env:List (Nat × Value)}{h:Heap}{nx:Nat}{a:Act}{w:World}(I:Inv B w0 ιb nxb tn ds ι env h nx a w)
  (hl:GQ aC T C Y tn ops.toList K ops.size [] env h nx) (r:Option Nat) {id:Nat} {Q:Exit→Act→World→Prop} (hQ:∀ ι env h nx a w,K env h nx→Inv B w0 ιb nxb tn ds ι env h nx a w→Q .normal a w) :
  (Code.region id ops true).wpIn (Fr r) 0 P Q a w:=by
 refine wpIn_region_any hm ?_;have H:=I.heap.drawn (w.drawn+1);have hb:gJ B w { w with drawn:=w.drawn+1 }:=⟨rfl,rfl,rfl,Nat.le_refl _,fun _ _=>rfl,Nat.le_succ _⟩;have hno:∀ i,¬ vZ (Array.replicate ops.size false) i:=by
  intro i;unfold vZ;by_cases h:i<ops.size <;> simp [h]
 refine aEp hT hC hY r hQ ops.size _ [] ι env h nx a _ (by simp) (fun i=>⟨fun h=>absurd h (hno i),fun h=>by cases h⟩) ?_ hl ⟨I.env,H,I.below.trans hb,I.old,I.le,I.size,I.defers⟩;unfold left;exact Nat.le_trans (List.length_filter_le _ _) (by simp)
end
end Go.Aw
end
