/-
  Parts of a proof. No condition.
-/
import Derived.Test.YtjahkcbdecgbhaaGreatQAg
set_option linter.unusedSimpArgs false
set_option linter.unusedVariables false
noncomputable section
namespace Go.Aw
open Go.RowKit
def vJ {α:Type}(E:(α→Prop)→Prop):Prop:=∀ K,E K→∃ x,K x∧∀ K':α→Prop,K' x→E K'
def fU (E:KE→Prop):Prop:=∀ K:KE,E K→∃ v h nx,K v h nx∧∀ K':KE,K' v h nx→E K'
def lN (E:KS→Prop):Prop:=∀ K:KS,E K→∃ e h nx,K e h nx∧∀ K':KS,K' e h nx→E K'
theorem aHP {b:Bool}{A B:Unit→Prop}:br b A B↔((b=true∧A ())∨(b=false∧B ())):=by
 cases b <;> simp [br]
variable {A:Ar}{T:cU}{h:Heap}{nx:Nat}
theorem jS {α:Type}{x:Option Value}{F:Value→(α→Prop)→Prop}(hF:∀ v,vJ (F v)):vJ (fun K=>on x (fun v=>F v K)):=by
 intro K hl;cases x with
 |none=>exact hl.elim
 |some v=>exact hF v K hl
theorem jL {x:Option Value}{F:Value→KE→Prop}(hF:∀ v,fU (F v)):fU (fun K=>on x (fun v=>F v K)):=by
 intro K hl;cases x with
 |none=>exact hl.elim
 |some v=>exact hF v K hl
theorem vO {x:Option Value}:vJ (on x):=by
 intro K hl;cases x with
 |none=>exact hl.elim
 |some v=>exact⟨v,hl,fun K' h=>h⟩
theorem I7 {t:TypeId}{x:Value}:vJ (tO T h t x):=by
 intro K hl;unfold tO at *
 repeat' (split at hl)
 all_goals first|(exact hl.elim)|(exact⟨_,hl,fun K' h=>h⟩)|(exact⟨_,_,_,hl,fun K' h=>h⟩)|(obtain⟨hb,hl⟩:=aH.1 hl;exact⟨_,hl,fun K' h=>aJ hb h⟩)|(obtain⟨hb,hl⟩:=aH.1 hl;exact⟨_,_,_,hl,fun K' h=>aJ hb h⟩)
theorem FA {t:TypeId}{x:Value}{f:Nat}:vJ (iY T t x f):=by
 intro K hl;unfold iY at *
 repeat' (split at hl)
 all_goals first|(exact hl.elim)|(exact⟨_,hl,fun K' h=>h⟩)|(exact⟨_,_,_,hl,fun K' h=>h⟩)|(obtain⟨hb,hl⟩:=aH.1 hl;exact⟨_,hl,fun K' h=>aJ hb h⟩)|(obtain⟨hb,hl⟩:=aH.1 hl;exact⟨_,_,_,hl,fun K' h=>aJ hb h⟩)
theorem PU {α:Type}{b:Bool}{E:(α→Prop)→Prop}(h:vJ E):vJ (fun K=>dJ b (E K)):=by
 intro K hl;obtain⟨hb,hl⟩:=aH.1 hl;obtain⟨x,h1,h2⟩:=h K hl;exact⟨x,h1,fun K' hk=>aJ hb (h2 K' hk)⟩
theorem gF {b:Bool}{E:KE→Prop}(h:fU E):fU (fun K=>dJ b (E K)):=by
 intro K hl;obtain⟨hb,hl⟩:=aH.1 hl;obtain⟨x,y,z,h1,h2⟩:=h K hl;exact⟨x,y,z,h1,fun K' hk=>aJ hb (h2 K' hk)⟩
theorem zN {α:Type}{x:α}:vJ (fun K:α→Prop=>K x):=fun K hl=>⟨x,hl,fun K' h=>h⟩
theorem cR {v:Value}{h:Heap}{nx:Nat}:fU (fun K=>K v h nx):=fun K hl=>⟨v,h,nx,hl,fun K' h=>h⟩
theorem X9 {α:Type}:vJ (fun _:α→Prop=>False):=fun K hl=>hl.elim
theorem fR:fU (fun _=>False):=fun K hl=>hl.elim
theorem aIv {α:Type}{b:Bool}{E F:(α→Prop)→Prop}(hE:vJ E)(hF:vJ F):vJ (fun K=>br b (fun _=>E K) (fun _=>F K)):=by
 intro K hl;cases b
 ·exact hF K hl
 ·exact hE K hl
theorem yK {b:Bool}{E F:KE→Prop}(hE:fU E)(hF:fU F):fU (fun K=>br b (fun _=>E K) (fun _=>F K)):=by
 intro K hl;cases b
 ·exact hF K hl
 ·exact hE K hl
theorem GH {t:TypeId}{x i:Value}:vJ (iV A T t x i):=by
 intro K hl;unfold iV at *
 repeat' (split at hl)
 all_goals first|(exact hl.elim)|(exact⟨_,hl,fun K' h=>h⟩)|(exact⟨_,_,_,hl,fun K' h=>h⟩)|(obtain⟨hb,hl⟩:=aH.1 hl;exact⟨_,hl,fun K' h=>aJ hb h⟩)|(obtain⟨hb,hl⟩:=aH.1 hl;exact⟨_,_,_,hl,fun K' h=>aJ hb h⟩)
theorem aBo {op:BinOp}{k:IntKind}{a b:Int}:vJ (X3 A op k a b):=by
 intro K hl;unfold X3 at *
 repeat' (split at hl)
 all_goals first|(exact hl.elim)|(exact⟨_,hl,fun K' h=>h⟩)|(exact⟨_,_,_,hl,fun K' h=>h⟩)|(obtain⟨hb,hl⟩:=aH.1 hl;exact⟨_,hl,fun K' h=>aJ hb h⟩)|(obtain⟨hb,hl⟩:=aH.1 hl;exact⟨_,_,_,hl,fun K' h=>aJ hb h⟩)
theorem I6 {t:TypeId}{cs:List Value}{o:Nat}:vJ (CK T t cs o):=by
 intro K hl;unfold CK at *
 repeat' (split at hl)
 all_goals first|(exact hl.elim)|(exact⟨_,hl,fun K' h=>h⟩)|(exact⟨_,_,_,hl,fun K' h=>h⟩)|(obtain⟨hb,hl⟩:=aH.1 hl;exact⟨_,hl,fun K' h=>aJ hb h⟩)|(obtain⟨hb,hl⟩:=aH.1 hl;exact⟨_,_,_,hl,fun K' h=>aJ hb h⟩)
theorem TS {t:TypeId}{x:Value}{f:Nat}:vJ (tU T t x f):=by
 intro K hl;unfold tU at *
 repeat' (split at hl)
 all_goals first|(exact I6 K hl)|(exact hl.elim)|(exact⟨_,hl,fun K' h=>h⟩)|(exact⟨_,_,_,hl,fun K' h=>h⟩)|(obtain⟨hb,hl⟩:=aH.1 hl;exact⟨_,hl,fun K' h=>aJ hb h⟩)|(obtain⟨hb,hl⟩:=aH.1 hl;exact⟨_,_,_,hl,fun K' h=>aJ hb h⟩)
theorem S2 {t:TypeId}{x i:Value}:vJ (sV A T t x i):=by
 intro K hl;unfold sV at *
 repeat' (split at hl)
 all_goals first|(exact PU I6 K hl)|(exact hl.elim)|(exact⟨_,hl,fun K' h=>h⟩)|(exact⟨_,_,_,hl,fun K' h=>h⟩)|(obtain⟨hb,hl⟩:=aH.1 hl;exact⟨_,hl,fun K' h=>aJ hb h⟩)|(obtain⟨hb,hl⟩:=aH.1 hl;exact⟨_,_,_,hl,fun K' h=>aJ hb h⟩)
theorem aB8 {op:BinOp}{t:TypeId}{x y:Value}:vJ (RS A T op t x y):=by
 intro K hl;unfold RS at *
 repeat' (split at hl)
 all_goals first|(exact hl.elim)|(exact⟨_,hl,fun K' h=>h⟩)|(exact⟨_,_,_,hl,fun K' h=>h⟩)|(obtain⟨hb,hl⟩:=aH.1 hl;exact⟨_,hl,fun K' h=>aJ hb h⟩)|(obtain⟨hb,hl⟩:=aH.1 hl;exact⟨_,_,_,hl,fun K' h=>aJ hb h⟩)|(exact aBo K hl)
theorem aFf {op:UnOp}{x:Value}:vJ (vun A op x):=by
 intro K hl;unfold vun at *
 repeat' (split at hl)
 all_goals first|(exact hl.elim)|(exact⟨_,hl,fun K' h=>h⟩)|(exact⟨_,_,_,hl,fun K' h=>h⟩)|(obtain⟨hb,hl⟩:=aH.1 hl;exact⟨_,hl,fun K' h=>aJ hb h⟩)|(obtain⟨hb,hl⟩:=aH.1 hl;exact⟨_,_,_,hl,fun K' h=>aJ hb h⟩)
theorem RJ {t:TypeId}{ps:List (Nat × Value)}:vJ (xY T t ps):=by
 intro K hl;unfold xY at *
 repeat' (split at hl)
 all_goals first|(exact hl.elim)|(exact⟨_,hl,fun K' h=>h⟩)|(exact⟨_,_,_,hl,fun K' h=>h⟩)|(obtain⟨hb,hl⟩:=aH.1 hl;exact⟨_,hl,fun K' h=>aJ hb h⟩)|(obtain⟨hb,hl⟩:=aH.1 hl;exact⟨_,_,_,hl,fun K' h=>aJ hb h⟩)
theorem LZ {b:Builtin}{ts:Array TypeId}{vs:List Value}:vJ (oC A T b ts vs):=by
 intro K hl;unfold oC at *
 repeat' (split at hl)
 all_goals first|(exact hl.elim)|(exact⟨_,hl,fun K' h=>h⟩)|(exact⟨_,_,_,hl,fun K' h=>h⟩)|(obtain⟨hb,hl⟩:=aH.1 hl;exact⟨_,hl,fun K' h=>aJ hb h⟩)|(obtain⟨hb,hl⟩:=aH.1 hl;exact⟨_,_,_,hl,fun K' h=>aJ hb h⟩)|(exact vO K hl)
theorem aCx {op:BinOp}{t:TypeId}{x:Value}:vJ (TM T h op t x):=by
 intro K hl;unfold TM at *
 repeat' (split at hl)
 all_goals first|(exact hl.elim)|(exact⟨_,hl,fun K' h=>h⟩)
theorem JR {env:List (Nat × Value)}{op:Op}:vJ (jP A T env h op):=by
 show vJ (fun K=>jP A T env h op K);cases op <;> simp only [jP]
 case move x=>exact vO
 case assign x=>exact vO
 case pick c a b =>
  refine jS fun u=>?_;intro K hl;split at hl
  ·exact aIv vO vO K hl
  ·exact hl.elim
 case nilCheck x =>
  refine jS fun u=>?_;intro K hl;split at hl
  all_goals first|(exact hl.elim)|(exact⟨_,hl,fun K' h=>h⟩)
 case load t x=>exact jS fun u=>I7
 case fieldAddr s x f=>exact jS fun u=>FA
 case field s x f=>exact jS fun u=>TS
 case indexAddr t x i=>exact jS fun u=>jS fun j=>GH
 case index t x i=>exact jS fun u=>jS fun j=>S2
 case binOp op t x y yt =>
  refine jS fun u=>jS fun v=>?_;intro K hl;split at hl
  ·exact aCx K hl
  ·exact aB8 K hl
 case unOp op t x=>exact jS fun u=>aFf
 case convert s d x =>
  refine jS fun u=>?_;intro K hl;split at hl
  ·exact PU zN K hl
  ·exact hl.elim
 case makeFunc fn first cap =>
  intro K hl
  repeat' (split at hl)
  all_goals first|(exact hl.elim)|(exact⟨_,hl,fun K' h=>h⟩)
 case extract x i =>
  refine jS fun u=>?_;intro K hl;split at hl
  ·exact vO K hl
  ·exact hl.elim
 case build t ps =>
  intro K hl;split at hl
  ·exact RJ K hl
  ·exact hl.elim
 case call c =>
  intro K hl;split at hl
  ·split at hl
   ·exact LZ K hl
   ·exact hl.elim
  ·exact hl.elim
 all_goals exact X9
theorem VI {E:(Value→Prop)→Prop}(hE:vJ E):fU (fun K=>E (fun v=>K v h nx)):=by
 intro K hl;obtain⟨v,h1,h2⟩:=hE _ hl;exact⟨v,h,nx,h1,fun K' hk=>h2 _ hk⟩
theorem RU {t:TypeId}{x v:Value}:fU (n8 T h nx t x v):=by
 intro K hl;unfold n8 at *
 repeat' (split at hl)
 all_goals first|(exact hl.elim)|(exact⟨_,hl,fun K' h=>h⟩)|(exact⟨_,_,_,hl,fun K' h=>h⟩)|(obtain⟨hb,hl⟩:=aH.1 hl;exact⟨_,hl,fun K' h=>aJ hb h⟩)|(obtain⟨hb,hl⟩:=aH.1 hl;exact⟨_,_,_,hl,fun K' h=>aJ hb h⟩)
theorem TF {t:TypeId}:fU (xV T h nx t):=by
 intro K hl;unfold xV at *
 repeat' (split at hl)
 all_goals first|(exact hl.elim)|(exact⟨_,hl,fun K' h=>h⟩)|(exact⟨_,_,_,hl,fun K' h=>h⟩)|(obtain⟨hb,hl⟩:=aH.1 hl;exact⟨_,hl,fun K' h=>aJ hb h⟩)|(obtain⟨hb,hl⟩:=aH.1 hl;exact⟨_,_,_,hl,fun K' h=>aJ hb h⟩)
theorem aAg {v:Value}:fU (T3 h nx v):=by
 intro K hl;unfold T3 at *
 repeat' (split at hl)
 all_goals first|(exact hl.elim)|(exact⟨_,hl,fun K' h=>h⟩)|(exact⟨_,_,_,hl,fun K' h=>h⟩)|(obtain⟨hb,hl⟩:=aH.1 hl;exact⟨_,hl,fun K' h=>aJ hb h⟩)|(obtain⟨hb,hl⟩:=aH.1 hl;exact⟨_,_,_,hl,fun K' h=>aJ hb h⟩)
theorem C9 {t:TypeId}{n:Nat}{ps:List (Nat × Value)}:fU (eG T h nx t n ps):=by
 intro K hl;unfold eG at *
 repeat' (split at hl)
 all_goals first|(exact hl.elim)|(exact⟨_,hl,fun K' h=>h⟩)|(exact⟨_,_,_,hl,fun K' h=>h⟩)|(obtain⟨hb,hl⟩:=aH.1 hl;exact⟨_,hl,fun K' h=>aJ hb h⟩)|(obtain⟨hb,hl⟩:=aH.1 hl;exact⟨_,_,_,hl,fun K' h=>aJ hb h⟩)
theorem T8 {t:TypeId}{x:Value}:fU (xR T h nx t x):=by
 intro K hl;unfold xR at *
 repeat' (split at hl)
 all_goals first|(exact hl.elim)|(exact⟨_,hl,fun K' h=>h⟩)|(exact⟨_,_,_,hl,fun K' h=>h⟩)|(obtain⟨hb,hl⟩:=aH.1 hl;exact⟨_,hl,fun K' h=>aJ hb h⟩)|(obtain⟨hb,hl⟩:=aH.1 hl;exact⟨_,_,_,hl,fun K' h=>aJ hb h⟩)
theorem GU {t:TypeId}{x k v:Value}:fU (j8 A T h nx t x k v):=by
 intro K hl;unfold j8 at *
 repeat' (split at hl)
 all_goals first|(exact hl.elim)|(exact⟨_,hl,fun K' h=>h⟩)|(exact⟨_,_,_,hl,fun K' h=>h⟩)|(obtain⟨hb,hl⟩:=aH.1 hl;exact⟨_,hl,fun K' h=>aJ hb h⟩)|(obtain⟨hb,hl⟩:=aH.1 hl;exact⟨_,_,_,hl,fun K' h=>aJ hb h⟩)
theorem CR {t:TypeId}{x k:Value}{ok:Bool}:vJ (oN A T h t x k ok):=by
 intro K hl;unfold oN at *
 repeat' (split at hl)
 all_goals first|(exact hl.elim)|(exact⟨_,hl,fun K' h=>h⟩)|(exact⟨_,_,_,hl,fun K' h=>h⟩)|(obtain⟨hb,hl⟩:=aH.1 hl;exact⟨_,hl,fun K' h=>aJ hb h⟩)|(obtain⟨hb,hl⟩:=aH.1 hl;exact⟨_,_,_,hl,fun K' h=>aJ hb h⟩)
theorem aAC {n c:Nat}{hi:Option Value}{G:Nat→KE→Prop}(hG:∀ m,fU (G m)):fU (fun K=>vhi A n c hi fun m=>G m K):=by
 intro K hl;unfold vhi at *;split at hl
 ·exact hG _ K hl
 ·exact gF (hG _) K hl
 ·exact hl.elim
theorem EW {t:TypeId}{x:Value}{lo hi mx:Option Value}:fU (tY A T h nx t x lo hi mx):=by
 intro K hl;unfold tY at *;split at hl
 case h_2=>exact hl.elim
 split at hl
 ·exact hl.elim
 split at hl
 ·split at hl
  ·exact cR K hl
  ·exact hl.elim
 ·refine aAC (fun m=>?_) K hl;intro K hl;split at hl
  ·exact cR K hl
  ·refine gF ?_ K hl;intro K hl;split at hl
   ·exact yK cR cR K hl
   ·exact hl.elim
  ·exact hl.elim
 ·split at hl
  ·exact cR K hl
  ·exact hl.elim
 ·split at hl
  ·exact gF cR K hl
  ·exact gF cR K hl
  ·exact hl.elim
 ·exact hl.elim
theorem ZY {sz:Nat}{x:Value}{G:Nat→List Value→KE→Prop}(hG:∀ m l,fU (G m l)):fU (fun K=>IU h sz x fun m l=>G m l K):=by
 intro K hl;unfold IU at *;split at hl
 ·exact hG _ _ K hl
 ·split at hl
  ·exact gF (hG _ _) K hl
  ·split at hl
   ·exact hG _ _ K hl
   ·exact hl.elim
  ·split at hl
   ·exact hG _ _ K hl
   ·exact hl.elim
  ·exact hl.elim
 ·exact hl.elim
theorem FZ {t:TypeId}{l c:Value}:fU (j9 A T h nx t l c):=by
 intro K hl;unfold j9 at *;split at hl
 case h_2=>exact hl.elim
 split at hl
 case h_2=>exact hl.elim
 exact gF cR K hl
theorem OU {st xt:TypeId}{s x:Value}:fU (lR A T h nx st xt s x):=by
 intro K hl;unfold lR at *;split at hl
 case h_3=>exact hl.elim
 case h_1 =>
  split at hl
  case h_2=>exact hl.elim
  split at hl
  case h_2=>exact hl.elim
  exact gF cR K hl
 split at hl
 ·exact hl.elim
 split at hl
 ·exact hl.elim
 refine ZY (fun m l=>?_) K hl;intro K hl;split at hl
 ·exact yK cR (gF cR) K hl
 ·split at hl
  ·split at hl
   ·exact yK cR (gF cR) K hl
   ·exact hl.elim
  ·exact yK (gF cR) (gF cR) K hl
  ·exact hl.elim
 ·exact hl.elim
variable {A:Ar}{T:cU}{C:VC}{Y:VY}
theorem D5 (hC:eJ C)(hY:eJ Y){env:List (Nat × Value)}{h:Heap}{nx:Nat}{op:Op}:fU (qJ A T C Y env h nx op):=by
 have hlook:fU (fun K=>jP A T env h op (fun v=>K v h nx)):=VI JR;show fU (fun K=>qJ A T C Y env h nx op K);cases op
 case store t x y=>exact jL fun p=>jL fun v=>RU
 case alloc t=>exact TF
 case box t x=>exact jL fun v=>aAg
 case buildSlice t n ps =>
  simp only [qJ];intro K hl;split at hl
  ·exact C9 K hl
  ·exact hl.elim
 case slice t x lo hi mx =>
  simp only [qJ];refine jL fun v=>?_;intro K hl;split at hl
  ·exact EW K hl
  ·exact hl.elim
 case makeSlice t l c =>
  simp only [qJ];exact jL fun x=>jL fun y=>FZ
 case makeMap t r =>
  cases r with
  |none=>exact cR
  |some r=>exact hlook
 case lookup t m k ok=>exact jL fun x=>jL fun y=>VI CR
 case mapUpdate t m k u=>exact jL fun x=>jL fun y=>jL fun v=>GU
 case call c =>
  obtain⟨cal,args,ats⟩:=c;cases cal with
  |invoke r m=>exact fR
  |builtin b =>
   cases b
   case append =>
    simp only [qJ];intro K hl;split at hl
    ·exact OU K hl
    ·exact hl.elim
   case clear =>
    simp only [qJ];intro K hl;split at hl
    ·exact T8 K hl
    ·exact hl.elim
   all_goals exact hlook
  |value f =>
   simp only [qJ];refine jL fun fv=>?_;intro K hl;split at hl
   ·split at hl
    ·split at hl
     ·exact hC _ _ _ _ K hl
     ·exact hl.elim
    ·split at hl
     ·exact hY _ _ _ _ K hl
     ·exact hl.elim
    ·exact hl.elim
   ·exact hl.elim
 all_goals exact hlook
theorem AA {ops:List Oper}{env:List (Nat × Value)}{g:Option (Nat × Bool)}:(∃ e,∀ Yk N,gD A ops env g Yk N=Yk e)∨(∃ e,∀ Yk N,gD A ops env g Yk N=N e)∨(∀ Yk N,gD A ops env g Yk N=False):=by
 unfold gD;cases g with
 |none=>exact .inl ⟨env,fun _ _=>rfl⟩
 |some gw =>
  obtain⟨j,want⟩:=gw;simp only;cases fM ops j with
  |none=>exact .inr (.inr fun _ _=>rfl)
  |some o =>
   simp only;cases o.dst with
   |none=>exact .inr (.inr fun _ _=>rfl)
   |some t =>
    simp only;cases look env t with
    |none=>exact .inr (.inr fun _ _=>rfl)
    |some v =>
     cases v with
     |tuple vs=>exact .inr (.inl ⟨env,fun _ _=>rfl⟩)
     |bool b =>
      simp only;cases A.eqB b want with
      |true=>exact .inl ⟨_,fun _ _=>rfl⟩
      |false=>exact .inr (.inl ⟨_,fun _ _=>rfl⟩)
     |_=>exact .inr (.inr fun _ _=>rfl)
theorem GC {tn:Nat}{env:List (Nat × Value)}{dst:Option Nat}{v:Value}:(∃ e,∀ K,eP tn env dst v K=K e)∨(∀ K,eP tn env dst v K=False):=by
 unfold eP;cases dst with
 |none=>exact .inl ⟨env,fun _=>rfl⟩
 |some d =>
  simp only;cases Nat.blt d tn with
  |true=>exact .inl ⟨_,fun _=>rfl⟩
  |false=>exact .inr fun _=>rfl
theorem nC {e:List (Nat × Value)}{h:Heap}{nx:Nat}:lN (fun K=>K e h nx):=fun K hl=>⟨e,h,nx,hl,fun K' h=>h⟩
theorem xG:lN (fun _=>False):=fun K hl=>hl.elim
theorem xE {ops:List Oper}{env:List (Nat × Value)}{g:Option (Nat × Bool)}{F G:List (Nat × Value)→KS→Prop}(hF:∀ e,lN (F e))(hG:∀ e,lN (G e)):lN (fun K=>gD A ops env g (fun e=>F e K) (fun e=>G e K)):=by
 rcases AA (A:=A) (ops:=ops) (env:=env) (g:=g) with ⟨e,h⟩|⟨e,h⟩|h
 ·simp only [h];exact hF e
 ·simp only [h];exact hG e
 ·simp only [h];exact xG
theorem nS {tn:Nat}{env:List (Nat × Value)}{dst:Option Nat}{v:Value}{F:List (Nat × Value)→KS→Prop}(hF:∀ e,lN (F e)):lN (fun K=>eP tn env dst v (fun e=>F e K)):=by
 rcases GC (tn:=tn) (env:=env) (dst:=dst) (v:=v) with ⟨e,h⟩|h
 ·simp only [h];exact hF e
 ·simp only [h];exact xG
theorem AU {E:KE→Prop}{F:Value→Heap→Nat→KS→Prop}(hE:fU E)(hF:∀ v h nx,lN (F v h nx)):lN (fun K=>E (fun v h nx=>F v h nx K)):=by
 intro K hl;obtain⟨v,h,nx,h1,h2⟩:=hE _ hl;obtain⟨e,h',nx',h3,h4⟩:=hF v h nx K h1;exact⟨e,h',nx',h3,fun K' hk=>h2 _ (h4 K' hk)⟩
theorem SQ {E:KS→Prop}{F:List (Nat × Value)→Heap→Nat→KS→Prop}(hE:lN E)(hF:∀ v h nx,lN (F v h nx)):lN (fun K=>E (fun v h nx=>F v h nx K)):=by
 intro K hl;obtain⟨v,h,nx,h1,h2⟩:=hE _ hl;obtain⟨e,h',nx',h3,h4⟩:=hF v h nx K h1;exact⟨e,h',nx',h3,fun K' hk=>h2 _ (h4 K' hk)⟩
theorem XZ {b:Bool}{E:KS→Prop}(h:lN E):lN (fun K=>dJ b (E K)):=by
 intro K hl;obtain⟨hb,hl⟩:=aH.1 hl;obtain⟨x,y,z,h1,h2⟩:=h K hl;exact⟨x,y,z,h1,fun K' hk=>aJ hb (h2 K' hk)⟩
theorem HQ (hC:eJ C)(hY:eJ Y){tn:Nat}{ops:List Oper}:∀ (l:List Oper) (env:List (Nat × Value)) (h:Heap) (nx:Nat),lN (yG A T C Y tn ops l env h nx)
 |[],env,h,nx=>nC
 |o::r,env,h,nx=>by
  show lN (fun K=>yG A T C Y tn ops (o::r) env h nx K);simp only [I9]
  exact xE (F:=fun e K=>qJ A T C Y e h nx o.op fun v h' nx'=>eP tn e o.dst v fun env'=>yG A T C Y tn ops r env' h' nx' K) (G:=fun e K=>eP tn e o.dst undef fun env'=>yG A T C Y tn ops r env' h nx K)
   (fun e=>AU (F:=fun v h' nx' K=>eP tn e o.dst v fun env'=>yG A T C Y tn ops r env' h' nx' K) (D5 hC hY) fun v h' nx'=>nS (F:=fun env' K=>yG A T C Y tn ops r env' h' nx' K) fun e'=>HQ hC hY r e' h' nx')
   (fun e=>nS (F:=fun env' K=>yG A T C Y tn ops r env' h nx K) fun e'=>HQ hC hY r e' h nx)
def rG {α:Type}(E:(α→Nat→Prop)→Prop):Prop:=∀ K,E K→∃ v n,K v n∧∀ K':α→Nat→Prop,K' v n→E K'
theorem V9 {E:(Value→Prop)→Prop}{n:Nat}(hE:vJ E):rG (fun K=>E (fun v=>K v n)):=by
 intro K hl;obtain⟨v,h1,h2⟩:=hE _ hl;exact⟨v,n,h1,fun K' hk=>h2 _ hk⟩
theorem EC {x:Option Value}{F:Value→(Value→Nat→Prop)→Prop}(hF:∀ v,rG (F v)):rG (fun K=>on x (fun v=>F v K)):=by
 cases x with
 |none=>exact fun K hl=>hl.elim
 |some v=>exact hF v
theorem SZ (hC:eJ C){hJ:Heap}{nx:Nat}{env:List (Nat × Value)}{op:Op}:rG (jB A T C hJ nx env op):=by
 have hlook:∀ hh op',rG (fun K=>jP A T env hh op' (fun v=>K v nx)):=fun _ _=>V9 JR;show rG (fun K=>jB A T C hJ nx env op K);cases op
 case load t x=>simp only [jB];exact hlook hJ _
 case lookup t m k ok=>exact EC fun x=>EC fun y=>V9 CR
 case slice t x lo hi mx =>
  simp only [jB];refine EC fun v=>?_;intro K hl;split at hl
  ·obtain⟨v,h',nx',h1,h2⟩:=EW _ hl;exact⟨v,nx',h1,fun K' hk=>h2 _ hk⟩
  ·exact hl.elim
 case call c =>
  obtain⟨cal,args,ats⟩:=c;cases cal with
  |invoke r m=>exact fun K hl=>hl.elim
  |builtin b=>simp only [jB];exact hlook [] _
  |value f =>
   simp only [jB];refine EC fun fv=>?_;intro K hl;split at hl
   ·split at hl
    ·split at hl
     ·obtain⟨v,h',nx',h1,h2⟩:=hC _ _ _ _ _ hl;split at h1
      ·rename_i hb;exact⟨v,nx,h1,fun K' hk=>h2 _ (by rw [hb];exact hk)⟩
      ·exact h1.elim
     ·exact hl.elim
    ·exact hl.elim
   ·exact hl.elim
 all_goals (simp only [jB];exact hlook [] _)
theorem FM {α β:Type}{E:(α→Prop)→Prop}{F:α→(β→Prop)→Prop}(hE:vJ E)(hF:∀ v,vJ (F v)):vJ (fun K=>E (fun v=>F v K)):=by
 intro K hl;obtain⟨v,h1,h2⟩:=hE _ hl;obtain⟨e,h3,h4⟩:=hF v K h1;exact⟨e,h3,fun K' hk=>h2 _ (h4 K' hk)⟩
theorem xD {α:Type}:rG (fun _:α→Nat→Prop=>False):=fun _ hl=>hl.elim
theorem Z1 {α:Type}{v:α}{n:Nat}:rG (fun K:α→Nat→Prop=>K v n):=fun _ hl=>⟨v,n,hl,fun _ h=>h⟩
theorem YA {α β:Type}{E:(α→Nat→Prop)→Prop}{F:α→Nat→(β→Nat→Prop)→Prop}(hE:rG E)(hF:∀ v n,rG (F v n)):rG (fun K=>E (fun v n=>F v n K)):=by
 intro K hl;obtain⟨v,n,h1,h2⟩:=hE _ hl;obtain⟨e,m,h3,h4⟩:=hF v n K h1;exact⟨e,m,h3,fun K' hk=>h2 _ (h4 K' hk)⟩
theorem R6 {α:Type}{ops:List Oper}{env:List (Nat × Value)}{g:Option (Nat × Bool)}{F G:List (Nat × Value)→(α→Nat→Prop)→Prop}(hF:∀ e,rG (F e))(hG:∀ e,rG (G e)):rG (fun K=>gD A ops env g (fun e=>F e K) (fun e=>G e K)):=by
 rcases AA (A:=A) (ops:=ops) (env:=env) (g:=g) with ⟨e,h⟩|⟨e,h⟩|h
 ·simp only [h];exact hF e
 ·simp only [h];exact hG e
 ·simp only [h];exact xD
theorem QU {α:Type}{tn:Nat}{env:List (Nat × Value)}{dst:Option Nat}{v:Value}{F:List (Nat × Value)→(α→Nat→Prop)→Prop}(hF:∀ e,rG (F e)):rG (fun K=>eP tn env dst v (fun e=>F e K)):=by
 rcases GC (tn:=tn) (env:=env) (dst:=dst) (v:=v) with ⟨e,h⟩|h
 ·simp only [h];exact hF e
 ·simp only [h];exact xD
theorem BC (hC:eJ C){tn:Nat}{ops:List Oper}{hJ:Heap}:∀ (l:List Nat) (env:List (Nat × Value)) (nx:Nat),rG (oY A T C tn ops hJ l env nx)
 |[],env,nx=>Z1
 |i::r,env,nx=>by
  show rG (fun K=>oY A T C tn ops hJ (i::r) env nx K);simp only [w9];cases fM ops i with
  |none=>exact xD
  |some o =>
   exact R6 (F:=fun e K=>jB A T C hJ nx e o.op fun v nx'=>eP tn e o.dst v fun env=>oY A T C tn ops hJ r env nx' K) (G:=fun e K=>eP tn e o.dst undef fun env=>oY A T C tn ops hJ r env nx K)
    (fun e=>YA (F:=fun v n K=>eP tn e o.dst v fun env=>oY A T C tn ops hJ r env n K) (SZ hC) fun v n=>QU (F:=fun env K=>oY A T C tn ops hJ r env n K) fun e'=>BC hC r e' n)
    (fun e=>QU (F:=fun env K=>oY A T C tn ops hJ r env nx K) fun e'=>BC hC r e' nx)
theorem SA {E:(List (Nat × Value)→Nat→Prop)→Prop}{F:List (Nat × Value)→Nat→KS→Prop}(hE:rG E)(hF:∀ e n,lN (F e n)):lN (fun K=>E (fun e n=>F e n K)):=by
 intro K hl;obtain⟨e0,n0,h1,h2⟩:=hE _ hl;obtain⟨e,h,nx,h3,h4⟩:=hF e0 n0 K h1;exact⟨e,h,nx,h3,fun K' hk=>h2 _ (h4 K' hk)⟩
theorem CT {tn:Nat}{ops:List Oper}:∀ (l:List Nat) (env:List (Nat × Value)) (h:Heap) (nx:Nat),lN (lV T tn ops l env h nx)
 |[],env,h,nx=>nC
 |i::r,env,h,nx=>by
  intro K hl;simp only [m9] at hl ⊢;split at hl
  ·split at hl
   ·exact nS (F:=fun e K=>lV T tn ops r e _ _ K) (fun e=>CT r e _ _) K hl
   ·exact hl.elim
  ·exact hl.elim
theorem BO (hC:eJ C)(hY:eJ Y){tn:Nat}{ops:List Oper}{hJ:Heap}:∀ (l:List (Nat × Bool)) (env:List (Nat × Value)) (h:Heap) (nx:Nat),lN (kL A T C Y tn ops hJ l env h nx)
 |[],env,h,nx=>nC
 |(i,chk)::r,env,h,nx=>by
  show lN (fun K=>kL A T C Y tn ops hJ ((i,chk)::r) env h nx K);simp only [xH];cases fM ops i with
  |none=>exact xG
  |some o =>
   exact xE (F:=fun e K=>dJ (zJ e hJ chk o.op) (qJ A T C Y e h nx o.op fun v h' nx'=>eP tn e o.dst v fun env'=>kL A T C Y tn ops hJ r env' h' nx' K)) (G:=fun e K=>eP tn e o.dst undef fun env'=>kL A T C Y tn ops hJ r env' h nx K)
    (fun e=>XZ (AU (F:=fun v h' nx' K=>eP tn e o.dst v fun env'=>kL A T C Y tn ops hJ r env' h' nx' K) (D5 hC hY) fun v h' nx'=>nS (F:=fun env' K=>kL A T C Y tn ops hJ r env' h' nx' K) fun e'=>BO hC hY r e' h' nx'))
    (fun e=>nS (F:=fun env' K=>kL A T C Y tn ops hJ r env' h nx K) fun e'=>BO hC hY r e' h nx)
theorem OH (hC:eJ C)(hY:eJ Y){tn:Nat}{ops:List Oper}{p:eZ}{env:List (Nat × Value)}{h:Heap}{nx:Nat}:lN (o5 A T C Y tn ops p env h nx):=by
 show lN (fun K=>o5 A T C Y tn ops p env h nx K);unfold o5;exact SA (F:=fun e n K=>lV T tn ops p.allocs e h n fun env2 h2 nx2=>kL A T C Y tn ops (IB T ops env p h) p.tail env2 h2 nx2 K) (BC hC p.head env nx) fun e n =>
  SQ (F:=fun env2 h2 nx2 K=>kL A T C Y tn ops (IB T ops env p h) p.tail env2 h2 nx2 K) (CT p.allocs e h n) fun e2 h2 nx2=>BO hC hY p.tail e2 h2 nx2
def lW (ρ:Nat→Nat):Nat→Loc:=fun k=>.lay (ρ k) 0 0
def iQ (ρ:Nat→Nat):Value→Value:=tr (lW ρ)
def bP (ρ:Nat→Nat):Value→Value:=bR (lW ρ)
def BB (n:Nat):Value→Prop:=fA (lW id) n
def B3 (n:Nat):Value→Prop:=iM (lW id) n
def bT (ρ:Nat→Nat)(n:Nat):aX→aX→Prop
 |.cells wr0 g0 sz0 cs0,.cells wr g sz cs=>wr0=wr∧g0=g∧sz0=sz∧cs=cs0.map (bP ρ)∧∀ v∈cs0,B3 n v
 |.map es0,.map es=>es=es0.map (fun e=>(e.1,bP ρ e.2))∧∀ e∈es0,B3 n e.2
 |.zero,.zero=>True
 |_,_=>False
structure qH (b:Nat) (ρ:Nat→Nat) (e0:List (Nat × Value)) (h0:Heap) (n0:Nat) (e:List (Nat × Value)) (h:Heap) (nx:Nat):Prop where
 env:∀ t v,look e0 t=some v→look e t=some (iQ ρ v)∧BB n0 v
 heap:∀ k o,look h0 k=some o→k<n0∧∃ o',look h (ρ k)=some o'∧bT ρ n0 o o'
 inj:∀ k k' o o',look h0 k=some o→look h0 k'=some o'→ρ k=ρ k'→k=k'
 fix:∀ k,k<b→ρ k=k
 le:b≤n0
section
variable {ι:Nat→Loc}{ρ:Nat→Nat}{n m:Nat}
theorem DK (v:Value):dV ι (dV (lW ρ) v)=dV (fun k=>ι (ρ k)) v:=by
 cases v with
 |pointer a =>
  cases a with
  |none=>rfl
  |some a =>
   simp only [dV,lW,Nat.zero_add]
 |slice a n c =>
  cases a with
  |none=>rfl
  |some a =>
   simp only [dV,lW,Nat.zero_add,Nat.add_zero]
 |map a =>
  cases a with
  |none=>rfl
  |some a=>simp only [dV,lW]
 |_=>rfl
theorem aBs {f:Fn}(h:S7 ι n (oI (lW ρ) f)):oI ι (oI (lW ρ) f)=oI (fun k=>ι (ρ k)) f:=by
 cases f with
 |yield l =>
  have h:=h.2;simp only [oI,lW];cases hl:ι (ρ l) with
  |nil p=>rw [hl] at h;cases h
  |lay b o e=>rfl
 |_=>rfl
theorem jI {v:Value}(h:iM ι n (bR (lW ρ) v)):bR ι (bR (lW ρ) v)=bR (fun k=>ι (ρ k)) v:=by
 cases v with
 |func f a c =>
  have h1:=aBs (ι:=ι) (n:=n) (f:=f) h.1;simp only [bR,h1,Array.map_map];congr 2;funext x;exact DK x
 |pointer a=>have:=DK (ι:=ι) (ρ:=ρ) (.pointer a);cases a <;> exact this
 |slice a n c=>have:=DK (ι:=ι) (ρ:=ρ) (.slice a n c);cases a <;> exact this
 |map a=>have:=DK (ι:=ι) (ρ:=ρ) (.map a);cases a <;> exact this
 |_=>rfl
theorem vC {v:Value}(h:lC ι n (dU (lW ρ) v)):dU ι (dU (lW ρ) v)=dU (fun k=>ι (ρ k)) v:=by
 cases v with
 |agg cs =>
  simp only [dU,Array.map_map];congr 1;apply Array.map_congr_left;intro x hx;exact jI (n:=n) (h (bR (lW ρ) x) (by simp only [Array.toList_map,List.mem_map];exact⟨x,by simpa using hx,rfl⟩))
 |pointer a=>have:=jI (ι:=ι) (ρ:=ρ) (n:=n) (v:=.pointer a);cases a <;> exact this h
 |slice a l c=>have:=jI (ι:=ι) (ρ:=ρ) (n:=n) (v:=.slice a l c);cases a <;> exact this h
 |map a=>have:=jI (ι:=ι) (ρ:=ρ) (n:=n) (v:=.map a);cases a <;> exact this h
 |func f a c=>exact jI (ι:=ι) (ρ:=ρ) (n:=n) (v:=.func f a c) h
 |_=>rfl
theorem EM {v:Value}(h:fA ι n (iQ ρ v)):tr ι (iQ ρ v)=tr (fun k=>ι (ρ k)) v:=by
 unfold iQ at h ⊢;cases v with
 |tuple cs =>
  simp only [tr,Array.map_map];congr 1;apply Array.map_congr_left;intro x hx;exact vC (n:=n) (h (dU (lW ρ) x) (by simp only [Array.toList_map,List.mem_map];exact⟨x,by simpa using hx,rfl⟩))
 |pointer a=>have:=vC (ι:=ι) (ρ:=ρ) (n:=n) (v:=.pointer a);cases a <;> exact this h
 |slice a l c=>have:=vC (ι:=ι) (ρ:=ρ) (n:=n) (v:=.slice a l c);cases a <;> exact this h
 |map a=>have:=vC (ι:=ι) (ρ:=ρ) (n:=n) (v:=.map a);cases a <;> exact this h
 |func f a c=>exact vC (ι:=ι) (ρ:=ρ) (n:=n) (v:=.func f a c) h
 |agg c=>exact vC (ι:=ι) (ρ:=ρ) (n:=n) (v:=.agg c) h
 |_=>rfl
theorem DP {v:Value}(h:oK ι n (dV (lW ρ) v))(hm:oK (lW id) m v):oK (fun k=>ι (ρ k)) m v:=by
 cases v with
 |pointer a =>
  cases a with
  |none=>trivial
  |some a=>exact⟨hm.1,h.2⟩
 |slice a l c =>
  cases a with
  |none=>trivial
  |some a=>exact⟨hm.1,fun hf=>h.2 hf⟩
 |map a =>
  cases a with
  |none=>trivial
  |some a=>exact⟨hm.1,h.2⟩
 |agg c=>exact hm.elim
 |tuple c=>exact hm.elim
 |_=>trivial
theorem oR {v:Value}(h:iM ι n (bR (lW ρ) v))(hm:iM (lW id) m v):iM (fun k=>ι (ρ k)) m v:=by
 cases v with
 |func f a c =>
  refine⟨?_,fun x hx=>?_⟩
  ·have h1:=h.1;have h2:=hm.1;cases f with
   |yield l=>exact⟨h2.1,h1.2⟩
   |_=>trivial
  ·refine DP (n:=n) (h.2 _ ?_) (hm.2 x hx);simp only [Array.toList_map,List.mem_map];exact⟨x,hx,rfl⟩
 |pointer a=>have:=DP (ι:=ι) (ρ:=ρ) (n:=n) (m:=m) (v:=.pointer a);cases a <;> exact this h hm
 |slice a l c=>have:=DP (ι:=ι) (ρ:=ρ) (n:=n) (m:=m) (v:=.slice a l c);cases a <;> exact this h hm
 |map a=>have:=DP (ι:=ι) (ρ:=ρ) (n:=n) (m:=m) (v:=.map a);cases a <;> exact this h hm
 |agg c=>exact hm.elim
 |tuple c=>exact hm.elim
 |_=>trivial
theorem vN {v:Value}(h:lC ι n (dU (lW ρ) v))(hm:lC (lW id) m v):lC (fun k=>ι (ρ k)) m v:=by
 cases v with
 |agg cs =>
  intro x hx;refine oR (n:=n) (h _ ?_) (hm x hx);simp only [Array.toList_map,List.mem_map];exact⟨x,hx,rfl⟩
 |pointer a=>have:=oR (ι:=ι) (ρ:=ρ) (n:=n) (m:=m) (v:=.pointer a);cases a <;> exact this h hm
 |slice a l c=>have:=oR (ι:=ι) (ρ:=ρ) (n:=n) (m:=m) (v:=.slice a l c);cases a <;> exact this h hm
 |map a=>have:=oR (ι:=ι) (ρ:=ρ) (n:=n) (m:=m) (v:=.map a);cases a <;> exact this h hm
 |func f a c=>exact oR (ι:=ι) (ρ:=ρ) (n:=n) (m:=m) (v:=.func f a c) h hm
 |tuple c=>exact hm.elim
 |_=>trivial
theorem DY {v:Value}(h:fA ι n (iQ ρ v))(hm:BB m v):fA (fun k=>ι (ρ k)) m v:=by
 unfold iQ at h;unfold BB at hm;cases v with
 |tuple cs =>
  intro x hx;refine vN (n:=n) (h _ ?_) (hm x hx);simp only [Array.toList_map,List.mem_map];exact⟨x,hx,rfl⟩
 |pointer a=>have:=vN (ι:=ι) (ρ:=ρ) (n:=n) (m:=m) (v:=.pointer a);cases a <;> exact this h hm
 |slice a l c=>have:=vN (ι:=ι) (ρ:=ρ) (n:=n) (m:=m) (v:=.slice a l c);cases a <;> exact this h hm
 |map a=>have:=vN (ι:=ι) (ρ:=ρ) (n:=n) (m:=m) (v:=.map a);cases a <;> exact this h hm
 |func f a c=>exact vN (ι:=ι) (ρ:=ρ) (n:=n) (m:=m) (v:=.func f a c) h hm
 |agg c=>exact vN (ι:=ι) (ρ:=ρ) (n:=n) (m:=m) (v:=.agg c) h hm
 |_=>trivial
theorem aHB {v:Value}(h:gS (bR (lW ρ) v)=true):gS v=true:=by
 cases v with
 |pointer a=>cases a with
  |none=>rfl
  |some a=>simp [bR,dV,lW,gS] at h
 |slice a n c=>cases a with
  |none=>rfl
  |some a=>simp [bR,dV,lW,gS] at h
 |map a=>cases a with
  |none=>rfl
  |some a=>simp [bR,dV,lW,gS] at h
 |func f a c =>
  cases f with
  |func f=>simpa [bR,oI,gS] using h
  |yield l=>simp [bR,oI,lW,gS] at h
  |_=>simp [bR,oI,gS] at h
 |_=>exact h
theorem QY {l:List Value}(h:dG (l.map (bP ρ))=true):dG l=true :=
 rQ fun v hv=>aHB (aW h (List.mem_map_of_mem hv))
theorem aB2 {B:Nat}{w:World}{o0 o:aX}{l:Loc}(h:jZ ι B w o l)(hs:XP ι n o)(hr:bT ρ m o0 o):jZ (fun k=>ι (ρ k)) B w o0 l:=by
 cases o0 with
 |cells wr0 g0 sz0 cs0 =>
  cases o with
  |cells wr g sz cs =>
   obtain⟨rfl,rfl,rfl,rfl,hn⟩:=hr;cases l with
   |nil p =>
    have h1:cs0.map (bP ρ)=[]∧(sz0=0∨wr0=true→p.isSome=true):=(by cases wr0 <;> exact h);have h2:cs0=[]:=(by simpa using h1.1);cases wr0 <;> exact⟨h2,h1.2⟩
   |lay b off e =>
    cases wr0 with
    |true =>
     obtain⟨h1,h2,arr,t,h3,h4,h5⟩:=h;refine⟨h1,fun hg=>QY (h2 hg),arr,t,h3,by simpa using h4,fun i v hv=>?_⟩;rw [← jI (n:=n) (hs _ (List.mem_map_of_mem (List.mem_of_getElem? hv)))];exact h5 i _ (by rw [List.getElem?_map,hv];rfl)
    |false =>
     obtain⟨h1,h2,h5⟩:=h;refine⟨h1,fun hg=>QY (h2 hg),fun i v hv=>?_⟩;rw [← jI (n:=n) (hs _ (List.mem_map_of_mem (List.mem_of_getElem? hv)))];exact h5 i _ (by rw [List.getElem?_map,hv];rfl)
  |_=>exact hr.elim
 |map es0 =>
  cases o with
  |map es =>
   obtain⟨rfl,hn⟩:=hr;cases l with
   |nil p=>exact h.elim
   |lay b off e =>
    obtain⟨h1,ents,clock,h2,h3,h4⟩:=h;refine⟨h1,ents,clock,h2,h3.trans ?_,fun x hx=>h4 (x.1,bP ρ x.2) (List.mem_map_of_mem hx)⟩;rw [List.map_map];apply List.map_congr_left;intro x hx;simp only [Function.comp_apply,bP];rw [jI (n:=n) (hs (x.1,bP ρ x.2) (List.mem_map_of_mem hx))]
  |_=>exact hr.elim
 |zero =>
  cases o with
  |zero=>cases l <;> exact h
  |_=>exact hr.elim
 |_=>exact hr.elim
theorem aEL {o0 o:aX}(h:XP ι n o)(hr:bT ρ m o0 o):XP (fun k=>ι (ρ k)) m o0:=by
 cases o0 with
 |cells wr0 g0 sz0 cs0 =>
  cases o with
  |cells wr g sz cs =>
   obtain⟨rfl,rfl,rfl,rfl,hn⟩:=hr;exact fun v hv=>oR (n:=n) (h _ (List.mem_map_of_mem hv)) (hn v hv)
  |_=>exact hr.elim
 |map es0 =>
  cases o with
  |map es =>
   obtain⟨rfl,hn⟩:=hr;exact fun x hx=>oR (n:=n) (h (x.1,bP ρ x.2) (List.mem_map_of_mem hx)) (hn x hx)
  |_=>exact hr.elim
 |zero=>trivial
 |_=>exact hr.elim
theorem bT.alone {o0 o:aX}(hr:bT ρ m o0 o)(h:o0.alone=true):o.alone=true:=by
 cases o0 <;> cases o <;> first|exact hr.elim|(obtain⟨rfl,_⟩:=hr;exact h)|exact h
variable {b:Nat}{e0 e:List (Nat × Value)}{h0 h:Heap}{n0 nx:Nat}
theorem qH.aHR (r:qH b ρ e0 h0 n0 e h nx){B:Nat}{w:World}(H:aT ι B h nx w):aT (fun k=>ι (ρ k)) B h0 n0 w:=by
 refine⟨fun k o hk=>?_,fun k k' o o' h1 h2 hne ha q hq=>?_,fun k o hk=>(r.heap k o hk).1,H.size,fun k o hk=>?_⟩
 ·obtain⟨_,o',h1,h2⟩:=r.heap k o hk;exact aB2 (H.obj _ _ h1) (H.sc _ _ h1) h2
 ·obtain⟨_,p,k1,k2⟩:=r.heap k o h1;obtain⟨_,p',k3,k4⟩:=r.heap k' o' h2;exact H.sep _ _ p p' k1 k3 (fun e=>hne (r.inj k k' o o' h1 h2 e)) (k2.alone ha) q hq
 ·obtain⟨_,o',h1,h2⟩:=r.heap k o hk;exact aEL (H.sc _ _ h1) h2
theorem qH.aKZ (r:qH b ρ e0 h0 n0 e h nx){a:Act}(H:dC ι nx e a):dC (fun k=>ι (ρ k)) n0 e0 a:=by
 intro t v hv;obtain⟨h1,h2⟩:=r.env t v hv;obtain⟨h3,h4⟩:=H t _ h1;exact⟨by rw [← EM h4];exact h3,DY h4 h2⟩
end
def pZ (A:Ar)(T:cU)(C:VC)(Y:VY)(tn:Nat)(ops:List Oper)(o:Oper)(e:List (Nat × Value))(h:Heap)(nx:Nat)(K:KS):Prop :=
 gD A ops e o.guard (fun e=>qJ A T C Y e h nx o.op fun v h' nx'=>eP tn e o.dst v fun e'=>K e' h' nx') (fun e=>eP tn e o.dst undef fun e'=>K e' h nx)
def allM (l:List Nat):List Nat→Bool
 |[]=>true
 |j::r=>match pM j l with|true=>allM l r|false=>false
theorem OQ {l m:List Nat}:allM l m=true↔∀ j∈m,j∈l:=by
 induction m with
 |nil=>simp [allM]
 |cons x r ih =>
  simp only [allM];split
  ·rename_i h;rw [ih];constructor
   ·intro h2 j hj;rcases List.mem_cons.1 hj with rfl|hj
    ·exact dM.1 h
    ·exact h2 j hj
   ·exact fun h2 j hj=>h2 j (.tail _ hj)
  ·rename_i h;constructor
   ·intro h2;cases h2
   ·intro h2;rw [dM.2 (h2 x (.head _))] at h;cases h
def eY (all:List Oper)(done:List Nat):List Oper→Nat→List Nat
 |[],_=>[]
 |o::r,i=>match pM i done with
  |true=>eY all done r (i+1)
  |false=>(match allM done (lU o) with|true=>i::eY all done r (i+1)|false=>eY all done r (i+1))
theorem RG {all:List Oper}{done:List Nat}:∀ {l:List Oper} {i k:Nat},k∈eY all done l i↔∃ j o,k=i+j∧fM l j=some o∧k∉done∧∀ x∈lU o,x∈done:=by
 intro l
 induction l with
 |nil =>
  intro i k;constructor
  ·intro h;cases h
  ·rintro ⟨j,o,_,h,_⟩;rw [eC] at h;simp at h
 |cons p r ih =>
  intro i k;have shift:(∃ j o,k=i+1+j∧fM r j=some o∧k∉done∧∀ x∈lU o,x∈done)→∃ j o,k=i+j∧fM (p::r) j=some o∧k∉done∧∀ x∈lU o,x∈done:=by
   rintro ⟨j,o,h1,h2,h3⟩;refine⟨j+1,o,by omega,?_,h3⟩;rw [eC] at h2 ⊢;simpa using h2
  have back:(∃ j o,k=i+j∧fM (p::r) j=some o∧k∉done∧∀ x∈lU o,x∈done)→(k=i∧i∉done∧∀ x∈lU p,x∈done)∨∃ j o,k=i+1+j∧fM r j=some o∧k∉done∧∀ x∈lU o,x∈done:=by
   rintro ⟨j,o,h1,h2,h3⟩;cases j with
   |zero =>
    rw [eC] at h2;simp at h2;subst h2;exact .inl ⟨by omega,by rw [show i=k by omega];exact h3.1,h3.2⟩
   |succ j =>
    refine .inr ⟨j,o,by omega,?_,h3⟩;rw [eC] at h2 ⊢;simpa using h2
  simp only [eY];split
  ·rename_i hm;rw [ih];refine⟨shift,fun h=>?_⟩;rcases back h with ⟨_,hn,_⟩|h
   ·exact absurd (dM.1 hm) hn
   ·exact h
  ·rename_i hm;have hn:i∉done:=fun h=>(by rw [dM.2 h] at hm;cases hm);split
   ·rename_i ha;rw [List.mem_cons,ih];constructor
    ·rintro (rfl|h)
     ·exact⟨0,p,rfl,by rw [eC];rfl,hn,OQ.1 ha⟩
     ·exact shift h
    ·intro h;rcases back h with ⟨h,_⟩|h
     ·exact .inl h
     ·exact .inr h
   ·rename_i ha;rw [ih];refine⟨shift,fun h=>?_⟩;rcases back h with ⟨_,_,h⟩|h
    ·rw [OQ.2 h] at ha;cases ha
    ·exact h
def LI (F:Nat→Prop):List Nat→Prop
 |[]=>True
 |[i]=>F i
 |i::r=>F i∧LI F r
theorem y9 {F:Nat→Prop}:∀ {l:List Nat},LI F l↔∀ i∈l,F i
 |[]=>by simp [LI]
 |[i]=>by simp [LI]
 |i::j::r=>by
  rw [show LI F (i::j::r)=(F i∧LI F (j::r)) from rfl,y9];simp
def FH (A:Ar)(T:cU)(C:VC)(Y:VY)(tn:Nat)(ops:List Oper)(K:KS):Nat→List Nat→KS
 |0,_=>K
 |n+1,done=>fun e h nx=>match eY ops done ops 0 with
  |[]=>K e h nx
  |i::r=>LI (fun j=>match fM ops j with|some o=>pZ A T C Y tn ops o e h nx (FH A T C Y tn ops K n (j::done))|none=>False) (i::r)
section
variable {P:Program}{T:cU}{C:VC}{Y:VY}{ops:Array Oper}
variable {B:Nat}{w0:World}{ιb:Nat→Loc}{nxb tn:Nat}{ds:List Deferred}{K:KS}
theorem aCK (hT:cQ P T)(hC:bH P C)(hY:eN P Y)(r:Option Nat){Q:Exit→Act→World→Prop}{i:Nat}{o:Oper}(ho:fM ops.toList i=some o){ι:Nat→Loc}{e:List (Nat × Value)}{h:Heap}{nx:Nat}{a:Act}{w:World}
  (hl:pZ aB T C Y tn ops.toList o e h nx K) (I:Inv B w0 ιb nxb tn ds ι e h nx a w) {next:Act→World→Prop}
  (hQ:∀ ι e h nx a w,K e h nx→Inv B w0 ιb nxb tn ds ι e h nx a w→next a w):wpOpIn (Fr r) 0 P ops Q i next a w:=by
 have hoo:ops[i]? = some o:=(by rw [eC] at ho;simpa using ho);unfold wpOpIn;simp only [hoo];unfold pZ at hl;obtain⟨env1,he1,hcase⟩:=u9 I.env hl;rcases hcase with ⟨hw,hl⟩|⟨hw,hl⟩
 ·rw [if_pos hw];refine (RB hT hC hY he1 I.heap hl).upon (B9 hl) rfl r _ _ fun v h' nx' ι' w' k1 k2 k3 k4 k5 k6=>?_;obtain⟨env2,k7,k8,k9,k10⟩:=oM (he1.names k6 k5) I.size k1 k2;exact hQ ι' env2 h' nx' _ w' k7 (I.step k8 k3 k4 k5 k6 k9 k10)
 ·rw [hw];refine⟨fun _ _=>trivial,?_⟩;obtain⟨env2,k7,k8,k9,k10⟩:=oM he1 I.size hl (v:=undef) (cY rfl);rw [gY (show gT undef=true from rfl)] at k8 k9 k10;exact hQ ι env2 h nx _ w k7 (I.step k8 I.heap (gV.refl _ _) (fun _ _=>rfl) (Nat.le_refl _) k9 k10)
theorem xL {listed:Array Bool}(hs:listed.size=ops.size){done:List Nat}(hd:∀ i,wY listed i↔i∈done){i:Nat}:i∈Region.ready .any ops listed↔i∈eY ops.toList done ops.toList 0:=by
 rw [nJ hs,RG];constructor
 ·rintro ⟨h1,h2,h3⟩;have ho:fM ops.toList i=some ops[i]:=(by rw [eC];simp [h1]);refine⟨i,ops[i],by omega,ho,fun h=>h2 ((hd i).2 h),fun x hx=>(hd x).1 (h3 x ?_)⟩;unfold cK;rw [ho];exact hx
 ·rintro ⟨j,o,h1,h2,h3,h4⟩;have hij:i=j:=(by omega);subst hij;have hlt:i<ops.size:=by
   rw [eC] at h2;have:=(List.getElem?_eq_some_iff.1 h2).1;simpa using this
  refine⟨hlt,fun h=>h3 ((hd i).1 h),fun x hx=>(hd x).2 (h4 x ?_)⟩;unfold cK at hx;rw [h2] at hx;exact hx
theorem aE8 (hT:cQ P T)(hC:bH P C)(hY:eN P Y)(r:Option Nat){Q:Exit→Act→World→Prop}
  (hQ:∀ ι e h nx a w,K e h nx→Inv B w0 ιb nxb tn ds ι e h nx a w→Q .normal a w):∀ (n:Nat) (listed:Array Bool) (done:List Nat) (ι:Nat→Loc) (e:List (Nat × Value)) (h:Heap) (nx:Nat) (a:Act) (w:World),
  listed.size=ops.size→(∀ i,wY listed i↔i∈done)→left ops.size listed≤n→FH aB T C Y tn ops.toList K n done e h nx→Inv B w0 ιb nxb tn ds ι e h nx a w→wpAnyIn (Fr r) 0 P .any ops Q n listed a w:=by
 intro n
 induction n with
 |zero =>
  intro listed done ι e h nx a w hs hd hl hv I;refine⟨?_,hQ ι e h nx a w hv I⟩;refine List.eq_nil_iff_forall_not_mem.2 fun i hi=>?_;obtain⟨h1,h2,_⟩:=(nJ hs).1 hi;have:=yJ h1 hs h2;omega
 |succ n ih =>
  intro listed done ι e h nx a w hs hd hl hv I;simp only [FH] at hv;split at hv
  ·rename_i hr;have hno:∀ i,i∉Region.ready .any ops listed:=fun i hi=>by
    have:=(xL hs hd).1 hi;rw [hr] at this;cases this
   exact⟨fun _=>hQ ι e h nx a w hv I,fun i hi=>absurd hi (hno i)⟩
  ·rename_i i0 r0 hr;rw [y9] at hv;refine⟨fun hn=>?_,fun i hi=>?_⟩
   ·exfalso;have:i0∈Region.ready .any ops listed:=(xL hs hd).2 (by rw [hr];exact .head _);rw [hn] at this;cases this
   ·obtain⟨h1,h2,_⟩:=(nJ hs).1 hi;have hv':=hv i (by rw [← hr];exact (xL hs hd).1 hi);split at hv'
    case h_2=>exact hv'.elim
    rename_i o ho;refine aCK hT hC hY r ho hv' I fun ι e h nx a w hk J=>?_;have hset:=wY.set (listed:=listed) (i:=i) (by omega);refine ih _ (i::done) ι e h nx a w (by simp [hs]) (fun j=>?_) (by have:=yJ h1 hs h2;omega) hk J;rw [hset];unfold EP;rw [hd j,List.mem_cons]
theorem PW (hT:cQ P T)(hC:bH P C)(hY:eN P Y)(hm:P.follows .mixedOrders=true){ι:Nat→Loc}{env:List (Nat × Value)}{h:Heap}{nx:Nat}{a:Act}{w:World}(I:Inv B w0 ιb nxb tn ds ι env h nx a w)
  (hl:FH aB T C Y tn ops.toList K ops.size [] env h nx) (r:Option Nat) {id:Nat} {Q:Exit→Act→World→Prop} (hQ:∀ ι env h nx a w,K env h nx→Inv B w0 ιb nxb tn ds ι env h nx a w→Q .normal a w) :
  (Code.region id ops true).wpIn (Fr r) 0 P Q a w:=by
 refine wpIn_region_any hm ?_;have H:=I.heap.drawn (w.drawn+1);have hb:gV B w { w with drawn:=w.drawn+1 }:=⟨rfl,rfl,rfl,Nat.le_refl _,fun _ _=>rfl,Nat.le_succ _⟩;have hno:∀ i,¬ wY (Array.replicate ops.size false) i:=by
  intro i;unfold wY;by_cases h:i<ops.size <;> simp [h]
 refine aE8 hT hC hY r hQ ops.size _ [] ι env h nx a _ (by simp) (fun i=>⟨fun h=>absurd h (hno i),fun h=>by cases h⟩) ?_ hl ⟨I.env,H,I.below.trans hb,I.old,I.le,I.size,I.defers⟩;unfold left;exact Nat.le_trans (List.length_filter_le _ _) (by simp)
end
end Go.Aw
end
