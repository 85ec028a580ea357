/-
  Parts of a proof. No condition.
-/
import Derived.Test.YtjahkcbdecgbhaaGreatQAg
set_option linter.unusedSimpArgs false
set_option linter.unusedVariables false
noncomputable section
namespace Go.Aw
open Go.RowKit
def vP {α:Type}(E:(α→Prop)→Prop):Prop:=∀ K,E K→∃ x,K x∧∀ K':α→Prop,K' x→E K'
def fM (E:KE→Prop):Prop:=∀ K:KE,E K→∃ v h nx,K v h nx∧∀ K':KE,K' v h nx→E K'
def lK (E:KS→Prop):Prop:=∀ K:KS,E K→∃ e h nx,K e h nx∧∀ K':KS,K' e h nx→E K'
theorem aHy {b:Bool}{A B:Unit→Prop}:br b A B↔((b=true∧A ())∨(b=false∧B ())):=by
 cases b <;> simp [br]
variable {A:Ar}{T:cU}{h:Heap}{nx:Nat}
theorem jV {α:Type}{x:Option Value}{F:Value→(α→Prop)→Prop}(hF:∀ v,vP (F v)):vP (fun K=>on x (fun v=>F v K)):=by
 intro K hl;cases x with
 |none=>exact hl.elim
 |some v=>exact hF v K hl
theorem jM {x:Option Value}{F:Value→KE→Prop}(hF:∀ v,fM (F v)):fM (fun K=>on x (fun v=>F v K)):=by
 intro K hl;cases x with
 |none=>exact hl.elim
 |some v=>exact hF v K hl
theorem vS {x:Option Value}:vP (on x):=by
 intro K hl;cases x with
 |none=>exact hl.elim
 |some v=>exact⟨v,hl,fun K' h=>h⟩
theorem KP {t:TypeId}{x:Value}:vP (sZ T h t x):=by
 intro K hl;unfold sZ at *
 repeat' (split at hl)
 all_goals first|(exact hl.elim)|(exact⟨_,hl,fun K' h=>h⟩)|(exact⟨_,_,_,hl,fun K' h=>h⟩)|(obtain⟨hb,hl⟩:=aI.1 hl;exact⟨_,hl,fun K' h=>aM hb h⟩)|(obtain⟨hb,hl⟩:=aI.1 hl;exact⟨_,_,_,hl,fun K' h=>aM hb h⟩)
theorem FP {t:TypeId}{x:Value}{f:Nat}:vP (iS T t x f):=by
 intro K hl;unfold iS at *
 repeat' (split at hl)
 all_goals first|(exact hl.elim)|(exact⟨_,hl,fun K' h=>h⟩)|(exact⟨_,_,_,hl,fun K' h=>h⟩)|(obtain⟨hb,hl⟩:=aI.1 hl;exact⟨_,hl,fun K' h=>aM hb h⟩)|(obtain⟨hb,hl⟩:=aI.1 hl;exact⟨_,_,_,hl,fun K' h=>aM hb h⟩)
theorem O6 {α:Type}{b:Bool}{E:(α→Prop)→Prop}(h:vP E):vP (fun K=>dT b (E K)):=by
 intro K hl;obtain⟨hb,hl⟩:=aI.1 hl;obtain⟨x,h1,h2⟩:=h K hl;exact⟨x,h1,fun K' hk=>aM hb (h2 K' hk)⟩
theorem gF {b:Bool}{E:KE→Prop}(h:fM E):fM (fun K=>dT b (E K)):=by
 intro K hl;obtain⟨hb,hl⟩:=aI.1 hl;obtain⟨x,y,z,h1,h2⟩:=h K hl;exact⟨x,y,z,h1,fun K' hk=>aM hb (h2 K' hk)⟩
theorem AE {α:Type}{x:α}:vP (fun K:α→Prop=>K x):=fun K hl=>⟨x,hl,fun K' h=>h⟩
theorem cQ {v:Value}{h:Heap}{nx:Nat}:fM (fun K=>K v h nx):=fun K hl=>⟨v,h,nx,hl,fun K' h=>h⟩
theorem ZX {α:Type}:vP (fun _:α→Prop=>False):=fun K hl=>hl.elim
theorem fO:fM (fun _=>False):=fun K hl=>hl.elim
theorem aIm {α:Type}{b:Bool}{E F:(α→Prop)→Prop}(hE:vP E)(hF:vP F):vP (fun K=>br b (fun _=>E K) (fun _=>F K)):=by
 intro K hl;cases b
 ·exact hF K hl
 exact hE K hl
theorem yZ {b:Bool}{E F:KE→Prop}(hE:fM E)(hF:fM F):fM (fun K=>br b (fun _=>E K) (fun _=>F K)):=by
 intro K hl;cases b
 ·exact hF K hl
 exact hE K hl
theorem HV {t:TypeId}{x i:Value}:vP (iY A T t x i):=by
 intro K hl;unfold iY at *
 repeat' (split at hl)
 all_goals first|(exact hl.elim)|(exact⟨_,hl,fun K' h=>h⟩)|(exact⟨_,_,_,hl,fun K' h=>h⟩)|(obtain⟨hb,hl⟩:=aI.1 hl;exact⟨_,hl,fun K' h=>aM hb h⟩)|(obtain⟨hb,hl⟩:=aI.1 hl;exact⟨_,_,_,hl,fun K' h=>aM hb h⟩)
theorem aCh {op:BinOp}{k:IntKind}{a b:Int}:vP (Z9 A op k a b):=by
 intro K hl;unfold Z9 at *
 repeat' (split at hl)
 all_goals first|(exact hl.elim)|(exact⟨_,hl,fun K' h=>h⟩)|(exact⟨_,_,_,hl,fun K' h=>h⟩)|(obtain⟨hb,hl⟩:=aI.1 hl;exact⟨_,hl,fun K' h=>aM hb h⟩)|(obtain⟨hb,hl⟩:=aI.1 hl;exact⟨_,_,_,hl,fun K' h=>aM hb h⟩)
theorem J2 {t:TypeId}{cs:List Value}{o:Nat}:vP (CU T t cs o):=by
 intro K hl;unfold CU at *
 repeat' (split at hl)
 all_goals first|(exact hl.elim)|(exact⟨_,hl,fun K' h=>h⟩)|(exact⟨_,_,_,hl,fun K' h=>h⟩)|(obtain⟨hb,hl⟩:=aI.1 hl;exact⟨_,hl,fun K' h=>aM hb h⟩)|(obtain⟨hb,hl⟩:=aI.1 hl;exact⟨_,_,_,hl,fun K' h=>aM hb h⟩)
theorem UJ {t:TypeId}{x:Value}{f:Nat}:vP (vA T t x f):=by
 intro K hl;unfold vA at *
 repeat' (split at hl)
 all_goals first|(exact J2 K hl)|(exact hl.elim)|(exact⟨_,hl,fun K' h=>h⟩)|(exact⟨_,_,_,hl,fun K' h=>h⟩)|(obtain⟨hb,hl⟩:=aI.1 hl;exact⟨_,hl,fun K' h=>aM hb h⟩)|(obtain⟨hb,hl⟩:=aI.1 hl;exact⟨_,_,_,hl,fun K' h=>aM hb h⟩)
theorem SS {t:TypeId}{x i:Value}:vP (s9 A T t x i):=by
 intro K hl;unfold s9 at *
 repeat' (split at hl)
 all_goals first|(exact O6 J2 K hl)|(exact hl.elim)|(exact⟨_,hl,fun K' h=>h⟩)|(exact⟨_,_,_,hl,fun K' h=>h⟩)|(obtain⟨hb,hl⟩:=aI.1 hl;exact⟨_,hl,fun K' h=>aM hb h⟩)|(obtain⟨hb,hl⟩:=aI.1 hl;exact⟨_,_,_,hl,fun K' h=>aM hb h⟩)
theorem aAp {op:BinOp}{t:TypeId}{x y:Value}:vP (TO A T op t x y):=by
 intro K hl;unfold TO at *
 repeat' (split at hl)
 all_goals first|(exact hl.elim)|(exact⟨_,hl,fun K' h=>h⟩)|(exact⟨_,_,_,hl,fun K' h=>h⟩)|(obtain⟨hb,hl⟩:=aI.1 hl;exact⟨_,hl,fun K' h=>aM hb h⟩)|(obtain⟨hb,hl⟩:=aI.1 hl;exact⟨_,_,_,hl,fun K' h=>aM hb h⟩)|(exact aCh K hl)
theorem aFs {op:UnOp}{x:Value}:vP (vun A op x):=by
 intro K hl;unfold vun at *
 repeat' (split at hl)
 all_goals first|(exact hl.elim)|(exact⟨_,hl,fun K' h=>h⟩)|(exact⟨_,_,_,hl,fun K' h=>h⟩)|(obtain⟨hb,hl⟩:=aI.1 hl;exact⟨_,hl,fun K' h=>aM hb h⟩)|(obtain⟨hb,hl⟩:=aI.1 hl;exact⟨_,_,_,hl,fun K' h=>aM hb h⟩)
theorem RX {t:TypeId}{ps:List (Nat × Value)}:vP (x6 T t ps):=by
 intro K hl;unfold x6 at *
 repeat' (split at hl)
 all_goals first|(exact hl.elim)|(exact⟨_,hl,fun K' h=>h⟩)|(exact⟨_,_,_,hl,fun K' h=>h⟩)|(obtain⟨hb,hl⟩:=aI.1 hl;exact⟨_,hl,fun K' h=>aM hb h⟩)|(obtain⟨hb,hl⟩:=aI.1 hl;exact⟨_,_,_,hl,fun K' h=>aM hb h⟩)
theorem NV {b:Builtin}{ts:Array TypeId}{vs:List Value}:vP (oB A T b ts vs):=by
 intro K hl;unfold oB at *
 repeat' (split at hl)
 all_goals first|(exact hl.elim)|(exact⟨_,hl,fun K' h=>h⟩)|(exact⟨_,_,_,hl,fun K' h=>h⟩)|(obtain⟨hb,hl⟩:=aI.1 hl;exact⟨_,hl,fun K' h=>aM hb h⟩)|(obtain⟨hb,hl⟩:=aI.1 hl;exact⟨_,_,_,hl,fun K' h=>aM hb h⟩)|(exact vS K hl)
theorem aC6 {op:BinOp}{t:TypeId}{x:Value}:vP (UG T h op t x):=by
 intro K hl;unfold UG at *
 repeat' (split at hl)
 all_goals first|(exact hl.elim)|(exact⟨_,hl,fun K' h=>h⟩)
theorem J3 {env:List (Nat × Value)}{op:Op}:vP (jS A T env h op):=by
 show vP (fun K=>jS A T env h op K);cases op <;> simp only [jS]
 case move x=>exact vS
 case assign x=>exact vS
 case pick c a b =>
  refine jV fun u=>?_;intro K hl;split at hl
  ·exact aIm vS vS K hl
  exact hl.elim
 case nilCheck x =>
  refine jV fun u=>?_;intro K hl;split at hl
  all_goals first|(exact hl.elim)|(exact⟨_,hl,fun K' h=>h⟩)
 case load t x=>exact jV fun u=>KP
 case fieldAddr s x f=>exact jV fun u=>FP
 case field s x f=>exact jV fun u=>UJ
 case indexAddr t x i=>exact jV fun u=>jV fun j=>HV
 case index t x i=>exact jV fun u=>jV fun j=>SS
 case binOp op t x y yt =>
  refine jV fun u=>jV fun v=>?_;intro K hl;split at hl
  ·exact aC6 K hl
  exact aAp K hl
 case unOp op t x=>exact jV fun u=>aFs
 case convert s d x =>
  refine jV fun u=>?_;intro K hl;split at hl
  ·exact O6 AE K hl
  exact hl.elim
 case makeFunc fn first cap =>
  intro K hl
  repeat' (split at hl)
  all_goals first|(exact hl.elim)|(exact⟨_,hl,fun K' h=>h⟩)
 case extract x i =>
  refine jV fun u=>?_;intro K hl;split at hl
  ·exact vS K hl
  exact hl.elim
 case build t ps =>
  intro K hl;split at hl
  ·exact RX K hl
  exact hl.elim
 case call c =>
  intro K hl;split at hl
  ·split at hl
   ·exact NV K hl
   exact hl.elim
  exact hl.elim
 all_goals exact ZX
theorem VV {E:(Value→Prop)→Prop}(hE:vP E):fM (fun K=>E (fun v=>K v h nx)):=by
 intro K hl;obtain⟨v,h1,h2⟩:=hE _ hl;exact⟨v,h,nx,h1,fun K' hk=>h2 _ hk⟩
theorem SI {t:TypeId}{x v:Value}:fM (nX T h nx t x v):=by
 intro K hl;unfold nX at *
 repeat' (split at hl)
 all_goals first|(exact hl.elim)|(exact⟨_,hl,fun K' h=>h⟩)|(exact⟨_,_,_,hl,fun K' h=>h⟩)|(obtain⟨hb,hl⟩:=aI.1 hl;exact⟨_,hl,fun K' h=>aM hb h⟩)|(obtain⟨hb,hl⟩:=aI.1 hl;exact⟨_,_,_,hl,fun K' h=>aM hb h⟩)
theorem TH {t:TypeId}:fM (xS T h nx t):=by
 intro K hl;unfold xS at *
 repeat' (split at hl)
 all_goals first|(exact hl.elim)|(exact⟨_,hl,fun K' h=>h⟩)|(exact⟨_,_,_,hl,fun K' h=>h⟩)|(obtain⟨hb,hl⟩:=aI.1 hl;exact⟨_,hl,fun K' h=>aM hb h⟩)|(obtain⟨hb,hl⟩:=aI.1 hl;exact⟨_,_,_,hl,fun K' h=>aM hb h⟩)
theorem aBT {v:Value}:fM (SE h nx v):=by
 intro K hl;unfold SE at *
 repeat' (split at hl)
 all_goals first|(exact hl.elim)|(exact⟨_,hl,fun K' h=>h⟩)|(exact⟨_,_,_,hl,fun K' h=>h⟩)|(obtain⟨hb,hl⟩:=aI.1 hl;exact⟨_,hl,fun K' h=>aM hb h⟩)|(obtain⟨hb,hl⟩:=aI.1 hl;exact⟨_,_,_,hl,fun K' h=>aM hb h⟩)
theorem DG {t:TypeId}{n:Nat}{ps:List (Nat × Value)}:fM (eM T h nx t n ps):=by
 intro K hl;unfold eM at *
 repeat' (split at hl)
 all_goals first|(exact hl.elim)|(exact⟨_,hl,fun K' h=>h⟩)|(exact⟨_,_,_,hl,fun K' h=>h⟩)|(obtain⟨hb,hl⟩:=aI.1 hl;exact⟨_,hl,fun K' h=>aM hb h⟩)|(obtain⟨hb,hl⟩:=aI.1 hl;exact⟨_,_,_,hl,fun K' h=>aM hb h⟩)
theorem R7 {t:TypeId}{x:Value}:fM (x9 T h nx t x):=by
 intro K hl;unfold x9 at *
 repeat' (split at hl)
 all_goals first|(exact hl.elim)|(exact⟨_,hl,fun K' h=>h⟩)|(exact⟨_,_,_,hl,fun K' h=>h⟩)|(obtain⟨hb,hl⟩:=aI.1 hl;exact⟨_,hl,fun K' h=>aM hb h⟩)|(obtain⟨hb,hl⟩:=aI.1 hl;exact⟨_,_,_,hl,fun K' h=>aM hb h⟩)
theorem E7 {t:TypeId}{x k v:Value}:fM (kB A T h nx t x k v):=by
 intro K hl;unfold kB at *
 repeat' (split at hl)
 all_goals first|(exact hl.elim)|(exact⟨_,hl,fun K' h=>h⟩)|(exact⟨_,_,_,hl,fun K' h=>h⟩)|(obtain⟨hb,hl⟩:=aI.1 hl;exact⟨_,hl,fun K' h=>aM hb h⟩)|(obtain⟨hb,hl⟩:=aI.1 hl;exact⟨_,_,_,hl,fun K' h=>aM hb h⟩)
theorem C6 {t:TypeId}{x k:Value}{ok:Bool}:vP (oR A T h t x k ok):=by
 intro K hl;unfold oR at *
 repeat' (split at hl)
 all_goals first|(exact hl.elim)|(exact⟨_,hl,fun K' h=>h⟩)|(exact⟨_,_,_,hl,fun K' h=>h⟩)|(obtain⟨hb,hl⟩:=aI.1 hl;exact⟨_,hl,fun K' h=>aM hb h⟩)|(obtain⟨hb,hl⟩:=aI.1 hl;exact⟨_,_,_,hl,fun K' h=>aM hb h⟩)
theorem aCv {n c:Nat}{hi:Option Value}{G:Nat→KE→Prop}(hG:∀ m,fM (G m)):fM (fun K=>vhi A n c hi fun m=>G m K):=by
 intro K hl;unfold vhi at *;split at hl
 ·exact hG _ K hl
 ·exact gF (hG _) K hl
 exact hl.elim
theorem HU {t:TypeId}{x:Value}{lo hi mx:Option Value}:fM (uH A T h nx t x lo hi mx):=by
 intro K hl;unfold uH at *;split at hl
 case h_2=>exact hl.elim
 split at hl
 ·exact hl.elim
 split at hl
 ·split at hl
  ·exact cQ K hl
  exact hl.elim
 ·refine aCv (fun m=>?_) K hl;intro K hl;split at hl
  ·exact cQ K hl
  ·refine gF ?_ K hl;intro K hl;split at hl
   ·exact yZ cQ cQ K hl
   exact hl.elim
  exact hl.elim
 ·split at hl
  ·exact cQ K hl
  exact hl.elim
 ·split at hl
  ·exact gF cQ K hl
  ·exact gF cQ K hl
  exact hl.elim
 exact hl.elim
theorem YQ {sz:Nat}{x:Value}{G:Nat→List Value→KE→Prop}(hG:∀ m l,fM (G m l)):fM (fun K=>I4 h sz x fun m l=>G m l K):=by
 intro K hl;unfold I4 at *;split at hl
 ·exact hG _ _ K hl
 ·split at hl
  ·exact gF (hG _ _) K hl
  ·split at hl
   ·exact hG _ _ K hl
   exact hl.elim
  ·split at hl
   ·exact hG _ _ K hl
   exact hl.elim
  exact hl.elim
 exact hl.elim
theorem HR {t:TypeId}{l c:Value}:fM (kC A T h nx t l c):=by
 intro K hl;unfold kC at *;split at hl
 case h_2=>exact hl.elim
 split at hl
 case h_2=>exact hl.elim
 exact gF cQ K hl
theorem N9 {st xt:TypeId}{s x:Value}:fM (lU A T h nx st xt s x):=by
 intro K hl;unfold lU at *;split at hl
 case h_3=>exact hl.elim
 case h_1 =>
  split at hl
  case h_2=>exact hl.elim
  split at hl
  case h_2=>exact hl.elim
  exact gF cQ K hl
 split at hl
 ·exact hl.elim
 split at hl
 ·exact hl.elim
 refine YQ (fun m l=>?_) K hl;intro K hl;split at hl
 ·exact yZ cQ (gF cQ) K hl
 ·split at hl
  ·split at hl
   ·exact yZ cQ (gF cQ) K hl
   exact hl.elim
  ·exact yZ (gF cQ) (gF cQ) K hl
  exact hl.elim
 exact hl.elim
variable {A:Ar}{T:cU}{C:VC}{Y:VY}
theorem DZ (hC:eO C)(hY:eO Y){env:List (Nat × Value)}{h:Heap}{nx:Nat}{op:Op}:fM (qL A T C Y env h nx op):=by
 have hlook:fM (fun K=>jS A T env h op (fun v=>K v h nx)):=VV J3;show fM (fun K=>qL A T C Y env h nx op K);cases op
 case store t x y=>exact jM fun p=>jM fun v=>SI
 case alloc t=>exact TH
 case box t x=>exact jM fun v=>aBT
 case buildSlice t n ps =>
  simp only [qL];intro K hl;split at hl
  ·exact DG K hl
  exact hl.elim
 case slice t x lo hi mx =>
  simp only [qL];refine jM fun v=>?_;intro K hl;split at hl
  ·exact HU K hl
  exact hl.elim
 case makeSlice t l c =>
  simp only [qL];exact jM fun x=>jM fun y=>HR
 case makeMap t r =>
  cases r with
  |none=>exact cQ
  |some r=>exact hlook
 case lookup t m k ok=>exact jM fun x=>jM fun y=>VV C6
 case mapUpdate t m k u=>exact jM fun x=>jM fun y=>jM fun v=>E7
 case call c =>
  obtain⟨cal,args,ats⟩:=c;cases cal with
  |invoke r m=>exact fO
  |builtin b =>
   cases b
   case append =>
    simp only [qL];intro K hl;split at hl
    ·exact N9 K hl
    exact hl.elim
   case clear =>
    simp only [qL];intro K hl;split at hl
    ·exact R7 K hl
    exact hl.elim
   all_goals exact hlook
  |value f =>
   simp only [qL];refine jM fun fv=>?_;intro K hl;split at hl
   ·split at hl
    ·split at hl
     ·exact hC _ _ _ _ K hl
     exact hl.elim
    ·split at hl
     ·exact hY _ _ _ _ K hl
     exact hl.elim
    exact hl.elim
   exact hl.elim
 all_goals exact hlook
theorem y7 {ops:List Oper}{env:List (Nat × Value)}{g:Option (Nat × Bool)}:(∃ e,∀ Yk N,gE A ops env g Yk N=Yk e)∨(∃ e,∀ Yk N,gE A ops env g Yk N=N e)∨(∀ Yk N,gE A ops env g Yk N=False):=by
 unfold gE;cases g with
 |none=>exact .inl ⟨env,fun _ _=>rfl⟩
 |some gw =>
  obtain⟨j,want⟩:=gw;simp only;cases fP ops j with
  |none=>exact .inr (.inr fun _ _=>rfl)
  |some o =>
   simp only;cases o.dst with
   |none=>exact .inr (.inr fun _ _=>rfl)
   |some t =>
    simp only;cases look env t with
    |none=>exact .inr (.inr fun _ _=>rfl)
    |some v =>
     cases v with
     |tuple vs=>exact .inr (.inl ⟨env,fun _ _=>rfl⟩)
     |bool b =>
      simp only;cases A.eqB b want with
      |true=>exact .inl ⟨_,fun _ _=>rfl⟩
      |false=>exact .inr (.inl ⟨_,fun _ _=>rfl⟩)
     |_=>exact .inr (.inr fun _ _=>rfl)
theorem HG {tn:Nat}{env:List (Nat × Value)}{dst:Option Nat}{v:Value}:(∃ e,∀ K,eS tn env dst v K=K e)∨(∀ K,eS tn env dst v K=False):=by
 unfold eS;cases dst with
 |none=>exact .inl ⟨env,fun _=>rfl⟩
 |some d =>
  simp only;cases Nat.blt d tn with
  |true=>exact .inl ⟨_,fun _=>rfl⟩
  |false=>exact .inr fun _=>rfl
theorem nG {e:List (Nat × Value)}{h:Heap}{nx:Nat}:lK (fun K=>K e h nx):=fun K hl=>⟨e,h,nx,hl,fun K' h=>h⟩
theorem xL:lK (fun _=>False):=fun K hl=>hl.elim
theorem xP {ops:List Oper}{env:List (Nat × Value)}{g:Option (Nat × Bool)}{F G:List (Nat × Value)→KS→Prop}(hF:∀ e,lK (F e))(hG:∀ e,lK (G e)):lK (fun K=>gE A ops env g (fun e=>F e K) (fun e=>G e K)):=by
 rcases y7 (A:=A) (ops:=ops) (env:=env) (g:=g) with ⟨e,h⟩|⟨e,h⟩|h
 ·simp only [h];exact hF e
 ·simp only [h];exact hG e
 simp only [h];exact xL
theorem nW {tn:Nat}{env:List (Nat × Value)}{dst:Option Nat}{v:Value}{F:List (Nat × Value)→KS→Prop}(hF:∀ e,lK (F e)):lK (fun K=>eS tn env dst v (fun e=>F e K)):=by
 rcases HG (tn:=tn) (env:=env) (dst:=dst) (v:=v) with ⟨e,h⟩|h
 ·simp only [h];exact hF e
 simp only [h];exact xL
theorem BL {E:KE→Prop}{F:Value→Heap→Nat→KS→Prop}(hE:fM E)(hF:∀ v h nx,lK (F v h nx)):lK (fun K=>E (fun v h nx=>F v h nx K)):=by
 intro K hl;obtain⟨v,h,nx,h1,h2⟩:=hE _ hl;obtain⟨e,h',nx',h3,h4⟩:=hF v h nx K h1;exact⟨e,h',nx',h3,fun K' hk=>h2 _ (h4 K' hk)⟩
theorem UI {E:KS→Prop}{F:List (Nat × Value)→Heap→Nat→KS→Prop}(hE:lK E)(hF:∀ v h nx,lK (F v h nx)):lK (fun K=>E (fun v h nx=>F v h nx K)):=by
 intro K hl;obtain⟨v,h,nx,h1,h2⟩:=hE _ hl;obtain⟨e,h',nx',h3,h4⟩:=hF v h nx K h1;exact⟨e,h',nx',h3,fun K' hk=>h2 _ (h4 K' hk)⟩
theorem Y0 {b:Bool}{E:KS→Prop}(h:lK E):lK (fun K=>dT b (E K)):=by
 intro K hl;obtain⟨hb,hl⟩:=aI.1 hl;obtain⟨x,y,z,h1,h2⟩:=h K hl;exact⟨x,y,z,h1,fun K' hk=>aM hb (h2 K' hk)⟩
theorem FJ (hC:eO C)(hY:eO Y){tn:Nat}{ops:List Oper}:∀ (l:List Oper) (env:List (Nat × Value)) (h:Heap) (nx:Nat),lK (zO A T C Y tn ops l env h nx)
 |[],env,h,nx=>nG
 |o::r,env,h,nx=>by
  show lK (fun K=>zO A T C Y tn ops (o::r) env h nx K);simp only [KN]
  exact xP (F:=fun e K=>qL A T C Y e h nx o.op fun v h' nx'=>eS tn e o.dst v fun env'=>zO A T C Y tn ops r env' h' nx' K) (G:=fun e K=>eS tn e o.dst undef fun env'=>zO A T C Y tn ops r env' h nx K)
   (fun e=>BL (F:=fun v h' nx' K=>eS tn e o.dst v fun env'=>zO A T C Y tn ops r env' h' nx' K) (DZ hC hY) fun v h' nx'=>nW (F:=fun env' K=>zO A T C Y tn ops r env' h' nx' K) fun e'=>FJ hC hY r e' h' nx')
   (fun e=>nW (F:=fun env' K=>zO A T C Y tn ops r env' h nx K) fun e'=>FJ hC hY r e' h nx)
def rE {α:Type}(E:(α→Nat→Prop)→Prop):Prop:=∀ K,E K→∃ v n,K v n∧∀ K':α→Nat→Prop,K' v n→E K'
theorem VO {E:(Value→Prop)→Prop}{n:Nat}(hE:vP E):rE (fun K=>E (fun v=>K v n)):=by
 intro K hl;obtain⟨v,h1,h2⟩:=hE _ hl;exact⟨v,n,h1,fun K' hk=>h2 _ hk⟩
theorem EP {x:Option Value}{F:Value→(Value→Nat→Prop)→Prop}(hF:∀ v,rE (F v)):rE (fun K=>on x (fun v=>F v K)):=by
 cases x with
 |none=>exact fun K hl=>hl.elim
 |some v=>exact hF v
theorem T1 (hC:eO C){hJ:Heap}{nx:Nat}{env:List (Nat × Value)}{op:Op}:rE (iX A T C hJ nx env op):=by
 have hlook:∀ hh op',rE (fun K=>jS A T env hh op' (fun v=>K v nx)):=fun _ _=>VO J3;show rE (fun K=>iX A T C hJ nx env op K);cases op
 case load t x=>simp only [iX];exact hlook hJ _
 case lookup t m k ok=>exact EP fun x=>EP fun y=>VO C6
 case slice t x lo hi mx =>
  simp only [iX];refine EP fun v=>?_;intro K hl;split at hl
  ·obtain⟨v,h',nx',h1,h2⟩:=HU _ hl;exact⟨v,nx',h1,fun K' hk=>h2 _ hk⟩
  exact hl.elim
 case call c =>
  obtain⟨cal,args,ats⟩:=c;cases cal with
  |invoke r m=>exact fun K hl=>hl.elim
  |builtin b=>simp only [iX];exact hlook [] _
  |value f =>
   simp only [iX];refine EP fun fv=>?_;intro K hl;split at hl
   ·split at hl
    ·split at hl
     ·obtain⟨v,h',nx',h1,h2⟩:=hC _ _ _ _ _ hl;split at h1
      ·rename_i hb;exact⟨v,nx,h1,fun K' hk=>h2 _ (by rw [hb];exact hk)⟩
      exact h1.elim
     exact hl.elim
    exact hl.elim
   exact hl.elim
 all_goals (simp only [iX];exact hlook [] _)
theorem HC {α β:Type}{E:(α→Prop)→Prop}{F:α→(β→Prop)→Prop}(hE:vP E)(hF:∀ v,vP (F v)):vP (fun K=>E (fun v=>F v K)):=by
 intro K hl;obtain⟨v,h1,h2⟩:=hE _ hl;obtain⟨e,h3,h4⟩:=hF v K h1;exact⟨e,h3,fun K' hk=>h2 _ (h4 K' hk)⟩
theorem xQ {α:Type}:rE (fun _:α→Nat→Prop=>False):=fun _ hl=>hl.elim
theorem YD {α:Type}{v:α}{n:Nat}:rE (fun K:α→Nat→Prop=>K v n):=fun _ hl=>⟨v,n,hl,fun _ h=>h⟩
theorem ZM {α β:Type}{E:(α→Nat→Prop)→Prop}{F:α→Nat→(β→Nat→Prop)→Prop}(hE:rE E)(hF:∀ v n,rE (F v n)):rE (fun K=>E (fun v n=>F v n K)):=by
 intro K hl;obtain⟨v,n,h1,h2⟩:=hE _ hl;obtain⟨e,m,h3,h4⟩:=hF v n K h1;exact⟨e,m,h3,fun K' hk=>h2 _ (h4 K' hk)⟩
theorem T7 {α:Type}{ops:List Oper}{env:List (Nat × Value)}{g:Option (Nat × Bool)}{F G:List (Nat × Value)→(α→Nat→Prop)→Prop}(hF:∀ e,rE (F e))(hG:∀ e,rE (G e)):rE (fun K=>gE A ops env g (fun e=>F e K) (fun e=>G e K)):=by
 rcases y7 (A:=A) (ops:=ops) (env:=env) (g:=g) with ⟨e,h⟩|⟨e,h⟩|h
 ·simp only [h];exact hF e
 ·simp only [h];exact hG e
 simp only [h];exact xQ
theorem OU {α:Type}{tn:Nat}{env:List (Nat × Value)}{dst:Option Nat}{v:Value}{F:List (Nat × Value)→(α→Nat→Prop)→Prop}(hF:∀ e,rE (F e)):rE (fun K=>eS tn env dst v (fun e=>F e K)):=by
 rcases HG (tn:=tn) (env:=env) (dst:=dst) (v:=v) with ⟨e,h⟩|h
 ·simp only [h];exact hF e
 simp only [h];exact xQ
theorem BM (hC:eO C){tn:Nat}{ops:List Oper}{hJ:Heap}:∀ (l:List Nat) (env:List (Nat × Value)) (nx:Nat),rE (oN A T C tn ops hJ l env nx)
 |[],env,nx=>YD
 |i::r,env,nx=>by
  show rE (fun K=>oN A T C tn ops hJ (i::r) env nx K);simp only [xH];cases fP ops i with
  |none=>exact xQ
  |some o =>
   exact T7 (F:=fun e K=>iX A T C hJ nx e o.op fun v nx'=>eS tn e o.dst v fun env=>oN A T C tn ops hJ r env nx' K) (G:=fun e K=>eS tn e o.dst undef fun env=>oN A T C tn ops hJ r env nx K)
    (fun e=>ZM (F:=fun v n K=>eS tn e o.dst v fun env=>oN A T C tn ops hJ r env n K) (T1 hC) fun v n=>OU (F:=fun env K=>oN A T C tn ops hJ r env n K) fun e'=>BM hC r e' n)
    (fun e=>OU (F:=fun env K=>oN A T C tn ops hJ r env nx K) fun e'=>BM hC r e' nx)
theorem UD {E:(List (Nat × Value)→Nat→Prop)→Prop}{F:List (Nat × Value)→Nat→KS→Prop}(hE:rE E)(hF:∀ e n,lK (F e n)):lK (fun K=>E (fun e n=>F e n K)):=by
 intro K hl;obtain⟨e0,n0,h1,h2⟩:=hE _ hl;obtain⟨e,h,nx,h3,h4⟩:=hF e0 n0 K h1;exact⟨e,h,nx,h3,fun K' hk=>h2 _ (h4 K' hk)⟩
theorem C5 {tn:Nat}{ops:List Oper}:∀ (l:List Nat) (env:List (Nat × Value)) (h:Heap) (nx:Nat),lK (lQ T tn ops l env h nx)
 |[],env,h,nx=>nG
 |i::r,env,h,nx=>by
  intro K hl;simp only [nA] at hl ⊢;split at hl
  ·split at hl
   ·exact nW (F:=fun e K=>lQ T tn ops r e _ _ K) (fun e=>C5 r e _ _) K hl
   exact hl.elim
  exact hl.elim
theorem B4 (hC:eO C)(hY:eO Y){tn:Nat}{ops:List Oper}{hJ:Heap}:∀ (l:List (Nat × Bool)) (env:List (Nat × Value)) (h:Heap) (nx:Nat),lK (kL A T C Y tn ops hJ l env h nx)
 |[],env,h,nx=>nG
 |(i,chk)::r,env,h,nx=>by
  show lK (fun K=>kL A T C Y tn ops hJ ((i,chk)::r) env h nx K);simp only [yA];cases fP ops i with
  |none=>exact xL
  |some o =>
   exact xP (F:=fun e K=>dT (zF e hJ chk o.op) (qL A T C Y e h nx o.op fun v h' nx'=>eS tn e o.dst v fun env'=>kL A T C Y tn ops hJ r env' h' nx' K)) (G:=fun e K=>eS tn e o.dst undef fun env'=>kL A T C Y tn ops hJ r env' h nx K)
    (fun e=>Y0 (BL (F:=fun v h' nx' K=>eS tn e o.dst v fun env'=>kL A T C Y tn ops hJ r env' h' nx' K) (DZ hC hY) fun v h' nx'=>nW (F:=fun env' K=>kL A T C Y tn ops hJ r env' h' nx' K) fun e'=>B4 hC hY r e' h' nx'))
    (fun e=>nW (F:=fun env' K=>kL A T C Y tn ops hJ r env' h nx K) fun e'=>B4 hC hY r e' h nx)
theorem OE (hC:eO C)(hY:eO Y){tn:Nat}{ops:List Oper}{p:fL}{env:List (Nat × Value)}{h:Heap}{nx:Nat}:lK (pA A T C Y tn ops p env h nx):=by
 show lK (fun K=>pA A T C Y tn ops p env h nx K);unfold pA;exact UD (F:=fun e n K=>lQ T tn ops p.allocs e h n fun env2 h2 nx2=>kL A T C Y tn ops (IS T ops env p h) p.tail env2 h2 nx2 K) (BM hC p.head env nx) fun e n =>
  UI (F:=fun env2 h2 nx2 K=>kL A T C Y tn ops (IS T ops env p h) p.tail env2 h2 nx2 K) (C5 p.allocs e h n) fun e2 h2 nx2=>B4 hC hY p.tail e2 h2 nx2
def mB (ρ:Nat→Nat):Nat→Loc:=fun k=>.lay (ρ k) 0 0
def jX (ρ:Nat→Nat):Value→Value:=tr (mB ρ)
def cD (ρ:Nat→Nat):Value→Value:=bT (mB ρ)
def C3 (n:Nat):Value→Prop:=fD (mB id) n
def DN (n:Nat):Value→Prop:=iP (mB id) n
def bQ (ρ:Nat→Nat)(n:Nat):a8→a8→Prop
 |.cells wr0 g0 sz0 cs0,.cells wr g sz cs=>wr0=wr∧g0=g∧sz0=sz∧cs=cs0.map (cD ρ)∧∀ v∈cs0,DN n v
 |.map es0,.map es=>es=es0.map (fun e=>(e.1,cD ρ e.2))∧∀ e∈es0,DN n e.2
 |.zero,.zero=>True
 |_,_=>False
structure u7 (b:Nat) (ρ:Nat→Nat) (e0:List (Nat × Value)) (h0:Heap) (n0:Nat) (e:List (Nat × Value)) (h:Heap) (nx:Nat):Prop where
 env:∀ t v,look e0 t=some v→look e t=some (jX ρ v)∧C3 n0 v
 heap:∀ k o,look h0 k=some o→k<n0∧∃ o',look h (ρ k)=some o'∧bQ ρ n0 o o'
 inj:∀ k k' o o',look h0 k=some o→look h0 k'=some o'→ρ k=ρ k'→k=k'
 fix:∀ k,k<b→ρ k=k
 le:b≤n0
section
variable {ι:Nat→Loc}{ρ:Nat→Nat}{n m:Nat}
theorem D9 (v:Value):eG ι (eG (mB ρ) v)=eG (fun k=>ι (ρ k)) v:=by
 cases v with
 |pointer a =>
  cases a with
  |none=>rfl
  |some a =>
   simp only [eG,mB,Nat.zero_add]
 |slice a n c =>
  cases a with
  |none=>rfl
  |some a =>
   simp only [eG,mB,Nat.zero_add,Nat.add_zero]
 |map a =>
  cases a with
  |none=>rfl
  |some a=>simp only [eG,mB]
 |_=>rfl
theorem aC2 {f:Fn}(h:TR ι n (oK (mB ρ) f)):oK ι (oK (mB ρ) f)=oK (fun k=>ι (ρ k)) f:=by
 cases f with
 |yield l =>
  have h:=h.2;simp only [oK,mB];cases hl:ι (ρ l) with
  |nil p=>rw [hl] at h;cases h
  |lay b o e=>rfl
 |_=>rfl
theorem jO {v:Value}(h:iP ι n (bT (mB ρ) v)):bT ι (bT (mB ρ) v)=bT (fun k=>ι (ρ k)) v:=by
 cases v with
 |func f a c =>
  have h1:=aC2 (ι:=ι) (n:=n) (f:=f) h.1;simp only [bT,h1,Array.map_map];congr 2;funext x;exact D9 x
 |pointer a=>have:=D9 (ι:=ι) (ρ:=ρ) (.pointer a);cases a <;> exact this
 |slice a n c=>have:=D9 (ι:=ι) (ρ:=ρ) (.slice a n c);cases a <;> exact this
 |map a=>have:=D9 (ι:=ι) (ρ:=ρ) (.map a);cases a <;> exact this
 |_=>rfl
theorem vW {v:Value}(h:lB ι n (eD (mB ρ) v)):eD ι (eD (mB ρ) v)=eD (fun k=>ι (ρ k)) v:=by
 cases v with
 |agg cs =>
  simp only [eD,Array.map_map];congr 1;apply Array.map_congr_left;intro x hx;exact jO (n:=n) (h (bT (mB ρ) x) (by simp only [Array.toList_map,List.mem_map];exact⟨x,by simpa using hx,rfl⟩))
 |pointer a=>have:=jO (ι:=ι) (ρ:=ρ) (n:=n) (v:=.pointer a);cases a <;> exact this h
 |slice a l c=>have:=jO (ι:=ι) (ρ:=ρ) (n:=n) (v:=.slice a l c);cases a <;> exact this h
 |map a=>have:=jO (ι:=ι) (ρ:=ρ) (n:=n) (v:=.map a);cases a <;> exact this h
 |func f a c=>exact jO (ι:=ι) (ρ:=ρ) (n:=n) (v:=.func f a c) h
 |_=>rfl
theorem F3 {v:Value}(h:fD ι n (jX ρ v)):tr ι (jX ρ v)=tr (fun k=>ι (ρ k)) v:=by
 unfold jX at h ⊢;cases v with
 |tuple cs =>
  simp only [tr,Array.map_map];congr 1;apply Array.map_congr_left;intro x hx;exact vW (n:=n) (h (eD (mB ρ) x) (by simp only [Array.toList_map,List.mem_map];exact⟨x,by simpa using hx,rfl⟩))
 |pointer a=>have:=vW (ι:=ι) (ρ:=ρ) (n:=n) (v:=.pointer a);cases a <;> exact this h
 |slice a l c=>have:=vW (ι:=ι) (ρ:=ρ) (n:=n) (v:=.slice a l c);cases a <;> exact this h
 |map a=>have:=vW (ι:=ι) (ρ:=ρ) (n:=n) (v:=.map a);cases a <;> exact this h
 |func f a c=>exact vW (ι:=ι) (ρ:=ρ) (n:=n) (v:=.func f a c) h
 |agg c=>exact vW (ι:=ι) (ρ:=ρ) (n:=n) (v:=.agg c) h
 |_=>rfl
theorem EA {v:Value}(h:oP ι n (eG (mB ρ) v))(hm:oP (mB id) m v):oP (fun k=>ι (ρ k)) m v:=by
 cases v with
 |pointer a =>
  cases a with
  |none=>trivial
  |some a=>exact⟨hm.1,h.2⟩
 |slice a l c =>
  cases a with
  |none=>trivial
  |some a=>exact⟨hm.1,fun hf=>h.2 hf⟩
 |map a =>
  cases a with
  |none=>trivial
  |some a=>exact⟨hm.1,h.2⟩
 |agg c=>exact hm.elim
 |tuple c=>exact hm.elim
 |_=>trivial
theorem o8 {v:Value}(h:iP ι n (bT (mB ρ) v))(hm:iP (mB id) m v):iP (fun k=>ι (ρ k)) m v:=by
 cases v with
 |func f a c =>
  refine⟨?_,fun x hx=>?_⟩
  ·have h1:=h.1;have h2:=hm.1;cases f with
   |yield l=>exact⟨h2.1,h1.2⟩
   |_=>trivial
  refine EA (n:=n) (h.2 _ ?_) (hm.2 x hx);simp only [Array.toList_map,List.mem_map];exact⟨x,hx,rfl⟩
 |pointer a=>have:=EA (ι:=ι) (ρ:=ρ) (n:=n) (m:=m) (v:=.pointer a);cases a <;> exact this h hm
 |slice a l c=>have:=EA (ι:=ι) (ρ:=ρ) (n:=n) (m:=m) (v:=.slice a l c);cases a <;> exact this h hm
 |map a=>have:=EA (ι:=ι) (ρ:=ρ) (n:=n) (m:=m) (v:=.map a);cases a <;> exact this h hm
 |agg c=>exact hm.elim
 |tuple c=>exact hm.elim
 |_=>trivial
theorem vZ {v:Value}(h:lB ι n (eD (mB ρ) v))(hm:lB (mB id) m v):lB (fun k=>ι (ρ k)) m v:=by
 cases v with
 |agg cs =>
  intro x hx;refine o8 (n:=n) (h _ ?_) (hm x hx);simp only [Array.toList_map,List.mem_map];exact⟨x,hx,rfl⟩
 |pointer a=>have:=o8 (ι:=ι) (ρ:=ρ) (n:=n) (m:=m) (v:=.pointer a);cases a <;> exact this h hm
 |slice a l c=>have:=o8 (ι:=ι) (ρ:=ρ) (n:=n) (m:=m) (v:=.slice a l c);cases a <;> exact this h hm
 |map a=>have:=o8 (ι:=ι) (ρ:=ρ) (n:=n) (m:=m) (v:=.map a);cases a <;> exact this h hm
 |func f a c=>exact o8 (ι:=ι) (ρ:=ρ) (n:=n) (m:=m) (v:=.func f a c) h hm
 |tuple c=>exact hm.elim
 |_=>trivial
theorem ED {v:Value}(h:fD ι n (jX ρ v))(hm:C3 m v):fD (fun k=>ι (ρ k)) m v:=by
 unfold jX at h;unfold C3 at hm;cases v with
 |tuple cs =>
  intro x hx;refine vZ (n:=n) (h _ ?_) (hm x hx);simp only [Array.toList_map,List.mem_map];exact⟨x,hx,rfl⟩
 |pointer a=>have:=vZ (ι:=ι) (ρ:=ρ) (n:=n) (m:=m) (v:=.pointer a);cases a <;> exact this h hm
 |slice a l c=>have:=vZ (ι:=ι) (ρ:=ρ) (n:=n) (m:=m) (v:=.slice a l c);cases a <;> exact this h hm
 |map a=>have:=vZ (ι:=ι) (ρ:=ρ) (n:=n) (m:=m) (v:=.map a);cases a <;> exact this h hm
 |func f a c=>exact vZ (ι:=ι) (ρ:=ρ) (n:=n) (m:=m) (v:=.func f a c) h hm
 |agg c=>exact vZ (ι:=ι) (ρ:=ρ) (n:=n) (m:=m) (v:=.agg c) h hm
 |_=>trivial
theorem aIS {v:Value}(h:gS (bT (mB ρ) v)=true):gS v=true:=by
 cases v with
 |pointer a=>cases a with
  |none=>rfl
  |some a=>simp [bT,eG,mB,gS] at h
 |slice a n c=>cases a with
  |none=>rfl
  |some a=>simp [bT,eG,mB,gS] at h
 |map a=>cases a with
  |none=>rfl
  |some a=>simp [bT,eG,mB,gS] at h
 |func f a c =>
  cases f with
  |func f=>simpa [bT,oK,gS] using h
  |yield l=>simp [bT,oK,mB,gS] at h
  |_=>simp [bT,oK,gS] at h
 |_=>exact h
theorem PQ {l:List Value}(h:dL (l.map (cD ρ))=true):dL l=true :=
 rJ fun v hv=>aIS (bB h (List.mem_map_of_mem hv))
theorem aC1 {B:Nat}{w:World}{o0 o:a8}{l:Loc}(h:kU ι B w o l)(hs:XM ι n o)(hr:bQ ρ m o0 o):kU (fun k=>ι (ρ k)) B w o0 l:=by
 cases o0 with
 |cells wr0 g0 sz0 cs0 =>
  cases o with
  |cells wr g sz cs =>
   obtain⟨rfl,rfl,rfl,rfl,hn⟩:=hr;cases l with
   |nil p =>
    have h1:cs0.map (cD ρ)=[]∧(sz0=0∨wr0=true→p.isSome=true):=(by cases wr0 <;> exact h);have h2:cs0=[]:=(by simpa using h1.1);cases wr0 <;> exact⟨h2,h1.2⟩
   |lay b off e =>
    cases wr0 with
    |true =>
     obtain⟨h1,h2,arr,t,h3,h4,h5⟩:=h;refine⟨h1,fun hg=>PQ (h2 hg),arr,t,h3,by simpa using h4,fun i v hv=>?_⟩;rw [← jO (n:=n) (hs _ (List.mem_map_of_mem (List.mem_of_getElem? hv)))];exact h5 i _ (by rw [List.getElem?_map,hv];rfl)
    |false =>
     obtain⟨h1,h2,h5⟩:=h;refine⟨h1,fun hg=>PQ (h2 hg),fun i v hv=>?_⟩;rw [← jO (n:=n) (hs _ (List.mem_map_of_mem (List.mem_of_getElem? hv)))];exact h5 i _ (by rw [List.getElem?_map,hv];rfl)
  |_=>exact hr.elim
 |map es0 =>
  cases o with
  |map es =>
   obtain⟨rfl,hn⟩:=hr;cases l with
   |nil p=>exact h.elim
   |lay b off e =>
    obtain⟨h1,ents,clock,h2,h3,h4⟩:=h;refine⟨h1,ents,clock,h2,h3.trans ?_,fun x hx=>h4 (x.1,cD ρ x.2) (List.mem_map_of_mem hx)⟩;rw [List.map_map];apply List.map_congr_left;intro x hx;simp only [Function.comp_apply,cD];rw [jO (n:=n) (hs (x.1,cD ρ x.2) (List.mem_map_of_mem hx))]
  |_=>exact hr.elim
 |zero =>
  cases o with
  |zero=>cases l <;> exact h
  |_=>exact hr.elim
 |_=>exact hr.elim
theorem aDI {o0 o:a8}(h:XM ι n o)(hr:bQ ρ m o0 o):XM (fun k=>ι (ρ k)) m o0:=by
 cases o0 with
 |cells wr0 g0 sz0 cs0 =>
  cases o with
  |cells wr g sz cs =>
   obtain⟨rfl,rfl,rfl,rfl,hn⟩:=hr;exact fun v hv=>o8 (n:=n) (h _ (List.mem_map_of_mem hv)) (hn v hv)
  |_=>exact hr.elim
 |map es0 =>
  cases o with
  |map es =>
   obtain⟨rfl,hn⟩:=hr;exact fun x hx=>o8 (n:=n) (h (x.1,cD ρ x.2) (List.mem_map_of_mem hx)) (hn x hx)
  |_=>exact hr.elim
 |zero=>trivial
 |_=>exact hr.elim
theorem bQ.alone {o0 o:a8}(hr:bQ ρ m o0 o)(h:o0.alone=true):o.alone=true:=by
 cases o0 <;> cases o <;> first|exact hr.elim|(obtain⟨rfl,_⟩:=hr;exact h)|exact h
variable {b:Nat}{e0 e:List (Nat × Value)}{h0 h:Heap}{n0 nx:Nat}
theorem u7.aIC (r:u7 b ρ e0 h0 n0 e h nx){B:Nat}{w:World}(H:aV ι B h nx w):aV (fun k=>ι (ρ k)) B h0 n0 w:=by
 refine⟨fun k o hk=>?_,fun k k' o o' h1 h2 hne ha q hq=>?_,fun k o hk=>(r.heap k o hk).1,H.size,fun k o hk=>?_⟩
 ·obtain⟨_,o',h1,h2⟩:=r.heap k o hk;exact aC1 (H.obj _ _ h1) (H.sc _ _ h1) h2
 ·obtain⟨_,p,k1,k2⟩:=r.heap k o h1;obtain⟨_,p',k3,k4⟩:=r.heap k' o' h2;exact H.sep _ _ p p' k1 k3 (fun e=>hne (r.inj k k' o o' h1 h2 e)) (k2.alone ha) q hq
 obtain⟨_,o',h1,h2⟩:=r.heap k o hk;exact aDI (H.sc _ _ h1) h2
theorem u7.aKq (r:u7 b ρ e0 h0 n0 e h nx){a:Act}(H:dE ι nx e a):dE (fun k=>ι (ρ k)) n0 e0 a:=by
 intro t v hv;obtain⟨h1,h2⟩:=r.env t v hv;obtain⟨h3,h4⟩:=H t _ h1;exact⟨by rw [← F3 h4];exact h3,ED h4 h2⟩
end
def qT (A:Ar)(T:cU)(C:VC)(Y:VY)(tn:Nat)(ops:List Oper)(o:Oper)(e:List (Nat × Value))(h:Heap)(nx:Nat)(K:KS):Prop :=
 gE A ops e o.guard (fun e=>qL A T C Y e h nx o.op fun v h' nx'=>eS tn e o.dst v fun e'=>K e' h' nx') (fun e=>eS tn e o.dst undef fun e'=>K e' h nx)
def allM (l:List Nat):List Nat→Bool
 |[]=>true
 |j::r=>match pH j l with|true=>allM l r|false=>false
theorem NZ {l m:List Nat}:allM l m=true↔∀ j∈m,j∈l:=by
 induction m with
 |nil=>simp [allM]
 |cons x r ih =>
  simp only [allM];split
  ·rename_i h;rw [ih];constructor
   ·intro h2 j hj;rcases List.mem_cons.1 hj with rfl|hj
    ·exact dP.1 h
    exact h2 j hj
   exact fun h2 j hj=>h2 j (.tail _ hj)
  rename_i h;constructor
  ·intro h2;cases h2
  intro h2;rw [dP.2 (h2 x (.head _))] at h;cases h
def fA (all:List Oper)(done:List Nat):List Oper→Nat→List Nat
 |[],_=>[]
 |o::r,i=>match pH i done with
  |true=>fA all done r (i+1)
  |false=>(match allM done (lT o) with|true=>i::fA all done r (i+1)|false=>fA all done r (i+1))
theorem TU {all:List Oper}{done:List Nat}:∀ {l:List Oper} {i k:Nat},k∈fA all done l i↔∃ j o,k=i+j∧fP l j=some o∧k∉done∧∀ x∈lT o,x∈done:=by
 intro l
 induction l with
 |nil =>
  intro i k;constructor
  ·intro h;cases h
  rintro ⟨j,o,_,h,_⟩;rw [eL] at h;simp at h
 |cons p r ih =>
  intro i k;have shift:(∃ j o,k=i+1+j∧fP r j=some o∧k∉done∧∀ x∈lT o,x∈done)→∃ j o,k=i+j∧fP (p::r) j=some o∧k∉done∧∀ x∈lT o,x∈done:=by
   rintro ⟨j,o,h1,h2,h3⟩;refine⟨j+1,o,by omega,?_,h3⟩;rw [eL] at h2 ⊢;simpa using h2
  have back:(∃ j o,k=i+j∧fP (p::r) j=some o∧k∉done∧∀ x∈lT o,x∈done)→(k=i∧i∉done∧∀ x∈lT p,x∈done)∨∃ j o,k=i+1+j∧fP r j=some o∧k∉done∧∀ x∈lT o,x∈done:=by
   rintro ⟨j,o,h1,h2,h3⟩;cases j with
   |zero =>
    rw [eL] at h2;simp at h2;subst h2;exact .inl ⟨by omega,by rw [show i=k by omega];exact h3.1,h3.2⟩
   |succ j =>
    refine .inr ⟨j,o,by omega,?_,h3⟩;rw [eL] at h2 ⊢;simpa using h2
  simp only [fA];split
  ·rename_i hm;rw [ih];refine⟨shift,fun h=>?_⟩;rcases back h with ⟨_,hn,_⟩|h
   ·exact absurd (dP.1 hm) hn
   exact h
  rename_i hm;have hn:i∉done:=fun h=>(by rw [dP.2 h] at hm;cases hm);split
  ·rename_i ha;rw [List.mem_cons,ih];constructor
   ·rintro (rfl|h)
    ·exact⟨0,p,rfl,by rw [eL];rfl,hn,NZ.1 ha⟩
    exact shift h
   intro h;rcases back h with ⟨h,_⟩|h
   ·exact .inl h
   exact .inr h
  rename_i ha;rw [ih];refine⟨shift,fun h=>?_⟩;rcases back h with ⟨_,_,h⟩|h
  ·rw [NZ.2 h] at ha;cases ha
  exact h
def LP (F:Nat→Prop):List Nat→Prop
 |[]=>True
 |[i]=>F i
 |i::r=>F i∧LP F r
theorem AQ {F:Nat→Prop}:∀ {l:List Nat},LP F l↔∀ i∈l,F i
 |[]=>by simp [LP]
 |[i]=>by simp [LP]
 |i::j::r=>by
  rw [show LP F (i::j::r)=(F i∧LP F (j::r)) from rfl,AQ];simp
def G4 (A:Ar)(T:cU)(C:VC)(Y:VY)(tn:Nat)(ops:List Oper)(K:KS):Nat→List Nat→KS
 |0,_=>K
 |n+1,done=>fun e h nx=>match fA ops done ops 0 with
  |[]=>K e h nx
  |i::r=>LP (fun j=>match fP ops j with|some o=>qT A T C Y tn ops o e h nx (G4 A T C Y tn ops K n (j::done))|none=>False) (i::r)
section
variable {P:Program}{T:cU}{C:VC}{Y:VY}{ops:Array Oper}
variable {B:Nat}{w0:World}{ιb:Nat→Loc}{nxb tn:Nat}{ds:List Deferred}{K:KS}
theorem aAn (hT:cM P T)(hC:bN P C)(hY:eR P Y)(r:Option Nat){Q:Exit→Act→World→Prop}{i:Nat}{o:Oper}(ho:fP ops.toList i=some o){ι:Nat→Loc}{e:List (Nat × Value)}{h:Heap}{nx:Nat}{a:Act}{w:World}
  (hl:qT aC T C Y tn ops.toList o e h nx K) (I:Inv B w0 ιb nxb tn ds ι e h nx a w) {next:Act→World→Prop}
  (hQ:∀ ι e h nx a w,K e h nx→Inv B w0 ιb nxb tn ds ι e h nx a w→next a w):wpOpIn (Fr r) 0 P ops Q i next a w:=by
 have hoo:ops[i]? = some o:=(by rw [eL] at ho;simpa using ho);unfold wpOpIn;simp only [hoo];unfold qT at hl;obtain⟨env1,he1,hcase⟩:=vG I.env hl;rcases hcase with ⟨hw,hl⟩|⟨hw,hl⟩
 ·rw [if_pos hw];refine (RR hT hC hY he1 I.heap hl).upon (CN hl) rfl r _ _ fun v h' nx' ι' w' k1 k2 k3 k4 k5 k6=>?_;obtain⟨env2,k7,k8,k9,k10⟩:=oV (he1.names k6 k5) I.size k1 k2;exact hQ ι' env2 h' nx' _ w' k7 (I.step k8 k3 k4 k5 k6 k9 k10)
 rw [hw];refine⟨fun _ _=>trivial,?_⟩;obtain⟨env2,k7,k8,k9,k10⟩:=oV he1 I.size hl (v:=undef) (dI rfl);rw [gZ (show gT undef=true from rfl)] at k8 k9 k10;exact hQ ι env2 h nx _ w k7 (I.step k8 I.heap (gW.refl _ _) (fun _ _=>rfl) (Nat.le_refl _) k9 k10)
theorem xU {listed:Array Bool}(hs:listed.size=ops.size){done:List Nat}(hd:∀ i,xY listed i↔i∈done){i:Nat}:i∈Region.ready .any ops listed↔i∈fA ops.toList done ops.toList 0:=by
 rw [nJ hs,TU];constructor
 ·rintro ⟨h1,h2,h3⟩;have ho:fP ops.toList i=some ops[i]:=(by rw [eL];simp [h1]);refine⟨i,ops[i],by omega,ho,fun h=>h2 ((hd i).2 h),fun x hx=>(hd x).1 (h3 x ?_)⟩;unfold cF;rw [ho];exact hx
 rintro ⟨j,o,h1,h2,h3,h4⟩;have hij:i=j:=(by omega);subst hij;have hlt:i<ops.size:=by
  rw [eL] at h2;have:=(List.getElem?_eq_some_iff.1 h2).1;simpa using this
 refine⟨hlt,fun h=>h3 ((hd i).1 h),fun x hx=>(hd x).2 (h4 x ?_)⟩;unfold cF at hx;rw [h2] at hx;exact hx
theorem aFI (hT:cM P T)(hC:bN P C)(hY:eR P Y)(r:Option Nat){Q:Exit→Act→World→Prop}
  (hQ:∀ ι e h nx a w,K e h nx→Inv B w0 ιb nxb tn ds ι e h nx a w→Q .normal a w):∀ (n:Nat) (listed:Array Bool) (done:List Nat) (ι:Nat→Loc) (e:List (Nat × Value)) (h:Heap) (nx:Nat) (a:Act) (w:World),
  listed.size=ops.size→(∀ i,xY listed i↔i∈done)→left ops.size listed≤n→G4 aC T C Y tn ops.toList K n done e h nx→Inv B w0 ιb nxb tn ds ι e h nx a w→wpAnyIn (Fr r) 0 P .any ops Q n listed a w:=by
 intro n
 induction n with
 |zero =>
  intro listed done ι e h nx a w hs hd hl hv I;refine⟨?_,hQ ι e h nx a w hv I⟩;refine List.eq_nil_iff_forall_not_mem.2 fun i hi=>?_;obtain⟨h1,h2,_⟩:=(nJ hs).1 hi;have:=y0 h1 hs h2;omega
 |succ n ih =>
  intro listed done ι e h nx a w hs hd hl hv I;simp only [G4] at hv;split at hv
  ·rename_i hr;have hno:∀ i,i∉Region.ready .any ops listed:=fun i hi=>by
    have:=(xU hs hd).1 hi;rw [hr] at this;cases this
   exact⟨fun _=>hQ ι e h nx a w hv I,fun i hi=>absurd hi (hno i)⟩
  rename_i i0 r0 hr;rw [AQ] at hv;refine⟨fun hn=>?_,fun i hi=>?_⟩
  ·exfalso;have:i0∈Region.ready .any ops listed:=(xU hs hd).2 (by rw [hr];exact .head _);rw [hn] at this;cases this
  obtain⟨h1,h2,_⟩:=(nJ hs).1 hi;have hv':=hv i (by rw [← hr];exact (xU hs hd).1 hi);split at hv'
  case h_2=>exact hv'.elim
  rename_i o ho;refine aAn hT hC hY r ho hv' I fun ι e h nx a w hk J=>?_;have hset:=xY.set (listed:=listed) (i:=i) (by omega);refine ih _ (i::done) ι e h nx a w (by simp [hs]) (fun j=>?_) (by have:=y0 h1 hs h2;omega) hk J;rw [hset];unfold E5;rw [hd j,List.mem_cons]
theorem RG (hT:cM P T)(hC:bN P C)(hY:eR P Y)(hm:P.follows .mixedOrders=true){ι:Nat→Loc}{env:List (Nat × Value)}{h:Heap}{nx:Nat}{a:Act}{w:World}(I:Inv B w0 ιb nxb tn ds ι env h nx a w)
  (hl:G4 aC T C Y tn ops.toList K ops.size [] env h nx) (r:Option Nat) {id:Nat} {Q:Exit→Act→World→Prop} (hQ:∀ ι env h nx a w,K env h nx→Inv B w0 ιb nxb tn ds ι env h nx a w→Q .normal a w) :
  (Code.region id ops true).wpIn (Fr r) 0 P Q a w:=by
 refine wpIn_region_any hm ?_;have H:=I.heap.drawn (w.drawn+1);have hb:gW B w { w with drawn:=w.drawn+1 }:=⟨rfl,rfl,rfl,Nat.le_refl _,fun _ _=>rfl,Nat.le_succ _⟩;have hno:∀ i,¬ xY (Array.replicate ops.size false) i:=by
  intro i;unfold xY;by_cases h:i<ops.size <;> simp [h]
 refine aFI hT hC hY r hQ ops.size _ [] ι env h nx a _ (by simp) (fun i=>⟨fun h=>absurd h (hno i),fun h=>by cases h⟩) ?_ hl ⟨I.env,H,I.below.trans hb,I.old,I.le,I.size,I.defers⟩;unfold left;exact Nat.le_trans (List.length_filter_le _ _) (by simp)
end
end Go.Aw
end
