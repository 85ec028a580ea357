/-
  Parts of a proof. No condition.
-/
import Derived.Test.YtjahkcbdecgbhaaGreatQAg
set_option linter.unusedSimpArgs false
set_option linter.unusedVariables false
noncomputable section
namespace Go.Aw
open Go.RowKit
def sY {α:Type}(E:(α→Prop)→Prop):Prop:=∀ K,E K→∃ x,K x∧∀ K':α→Prop,K' x→E K'
def eR (E:KE→Prop):Prop:=∀ K:KE,E K→∃ v h nx,K v h nx∧∀ K':KE,K' v h nx→E K'
def kM (E:KS→Prop):Prop:=∀ K:KS,E K→∃ e h nx,K e h nx∧∀ K':KS,K' e h nx→E K'
theorem aG3 {b:Bool}{A B:Unit→Prop}:br b A B↔((b=true∧A ())∨(b=false∧B ())):=by
 cases b <;> simp [br]
variable {A:Ar}{T:cK}{h:Heap}{nx:Nat}
theorem iQ {α:Type}{x:Option Value}{F:Value→(α→Prop)→Prop}(hF:∀ v,sY (F v)):sY (fun K=>on x (fun v=>F v K)):=by
 intro K hl;cases x with
 |none=>exact hl.elim
 |some v=>exact hF v K hl
theorem iA {x:Option Value}{F:Value→KE→Prop}(hF:∀ v,eR (F v)):eR (fun K=>on x (fun v=>F v K)):=by
 intro K hl;cases x with
 |none=>exact hl.elim
 |some v=>exact hF v K hl
theorem tU {x:Option Value}:sY (on x):=by
 intro K hl;cases x with
 |none=>exact hl.elim
 |some v=>exact⟨v,hl,fun K' h=>h⟩
theorem I4 {t:TypeId}{x:Value}:sY (sJ T h t x):=by
 intro K hl;unfold sJ at *
 repeat' (split at hl)
 all_goals first|(exact hl.elim)|(exact⟨_,hl,fun K' h=>h⟩)|(exact⟨_,_,_,hl,fun K' h=>h⟩)|(obtain⟨hb,hl⟩:=aG.1 hl;exact⟨_,hl,fun K' h=>aJ hb h⟩)|(obtain⟨hb,hl⟩:=aG.1 hl;exact⟨_,_,_,hl,fun K' h=>aJ hb h⟩)
theorem GU {t:TypeId}{x:Value}{f:Nat}:sY (gU T t x f):=by
 intro K hl;unfold gU at *
 repeat' (split at hl)
 all_goals first|(exact hl.elim)|(exact⟨_,hl,fun K' h=>h⟩)|(exact⟨_,_,_,hl,fun K' h=>h⟩)|(obtain⟨hb,hl⟩:=aG.1 hl;exact⟨_,hl,fun K' h=>aJ hb h⟩)|(obtain⟨hb,hl⟩:=aG.1 hl;exact⟨_,_,_,hl,fun K' h=>aJ hb h⟩)
theorem NI {α:Type}{b:Bool}{E:(α→Prop)→Prop}(h:sY E):sY (fun K=>dP b (E K)):=by
 intro K hl;obtain⟨hb,hl⟩:=aG.1 hl;obtain⟨x,h1,h2⟩:=h K hl;exact⟨x,h1,fun K' hk=>aJ hb (h2 K' hk)⟩
theorem fN {b:Bool}{E:KE→Prop}(h:eR E):eR (fun K=>dP b (E K)):=by
 intro K hl;obtain⟨hb,hl⟩:=aG.1 hl;obtain⟨x,y,z,h1,h2⟩:=h K hl;exact⟨x,y,z,h1,fun K' hk=>aJ hb (h2 K' hk)⟩
theorem yK {α:Type}{x:α}:sY (fun K:α→Prop=>K x):=fun K hl=>⟨x,hl,fun K' h=>h⟩
theorem cJ {v:Value}{h:Heap}{nx:Nat}:eR (fun K=>K v h nx):=fun K hl=>⟨v,h,nx,hl,fun K' h=>h⟩
theorem W8 {α:Type}:sY (fun _:α→Prop=>False):=fun K hl=>hl.elim
theorem eS:eR (fun _=>False):=fun K hl=>hl.elim
theorem aHm {α:Type}{b:Bool}{E F:(α→Prop)→Prop}(hE:sY E)(hF:sY F):sY (fun K=>br b (fun _=>E K) (fun _=>F K)):=by
 intro K hl;cases b
 ·exact hF K hl
 ·exact hE K hl
theorem xC {b:Bool}{E F:KE→Prop}(hE:eR E)(hF:eR F):eR (fun K=>br b (fun _=>E K) (fun _=>F K)):=by
 intro K hl;cases b
 ·exact hF K hl
 ·exact hE K hl
theorem GA {t:TypeId}{x i:Value}:sY (gK A T t x i):=by
 intro K hl;unfold gK at *
 repeat' (split at hl)
 all_goals first|(exact hl.elim)|(exact⟨_,hl,fun K' h=>h⟩)|(exact⟨_,_,_,hl,fun K' h=>h⟩)|(obtain⟨hb,hl⟩:=aG.1 hl;exact⟨_,hl,fun K' h=>aJ hb h⟩)|(obtain⟨hb,hl⟩:=aG.1 hl;exact⟨_,_,_,hl,fun K' h=>aJ hb h⟩)
theorem aBy {op:BinOp}{k:IntKind}{a b:Int}:sY (WR A op k a b):=by
 intro K hl;unfold WR at *
 repeat' (split at hl)
 all_goals first|(exact hl.elim)|(exact⟨_,hl,fun K' h=>h⟩)|(exact⟨_,_,_,hl,fun K' h=>h⟩)|(obtain⟨hb,hl⟩:=aG.1 hl;exact⟨_,hl,fun K' h=>aJ hb h⟩)|(obtain⟨hb,hl⟩:=aG.1 hl;exact⟨_,_,_,hl,fun K' h=>aJ hb h⟩)
theorem I8 {t:TypeId}{cs:List Value}{o:Nat}:sY (BM T t cs o):=by
 intro K hl;unfold BM at *
 repeat' (split at hl)
 all_goals first|(exact hl.elim)|(exact⟨_,hl,fun K' h=>h⟩)|(exact⟨_,_,_,hl,fun K' h=>h⟩)|(obtain⟨hb,hl⟩:=aG.1 hl;exact⟨_,hl,fun K' h=>aJ hb h⟩)|(obtain⟨hb,hl⟩:=aG.1 hl;exact⟨_,_,_,hl,fun K' h=>aJ hb h⟩)
theorem RK {t:TypeId}{x:Value}{f:Nat}:sY (rM T t x f):=by
 intro K hl;unfold rM at *
 repeat' (split at hl)
 all_goals first|(exact I8 K hl)|(exact hl.elim)|(exact⟨_,hl,fun K' h=>h⟩)|(exact⟨_,_,_,hl,fun K' h=>h⟩)|(obtain⟨hb,hl⟩:=aG.1 hl;exact⟨_,hl,fun K' h=>aJ hb h⟩)|(obtain⟨hb,hl⟩:=aG.1 hl;exact⟨_,_,_,hl,fun K' h=>aJ hb h⟩)
theorem SZ {t:TypeId}{x i:Value}:sY (rI A T t x i):=by
 intro K hl;unfold rI at *
 repeat' (split at hl)
 all_goals first|(exact NI I8 K hl)|(exact hl.elim)|(exact⟨_,hl,fun K' h=>h⟩)|(exact⟨_,_,_,hl,fun K' h=>h⟩)|(obtain⟨hb,hl⟩:=aG.1 hl;exact⟨_,hl,fun K' h=>aJ hb h⟩)|(obtain⟨hb,hl⟩:=aG.1 hl;exact⟨_,_,_,hl,fun K' h=>aJ hb h⟩)
theorem aAr {op:BinOp}{t:TypeId}{x y:Value}:sY (RN A T op t x y):=by
 intro K hl;unfold RN at *
 repeat' (split at hl)
 all_goals first|(exact hl.elim)|(exact⟨_,hl,fun K' h=>h⟩)|(exact⟨_,_,_,hl,fun K' h=>h⟩)|(obtain⟨hb,hl⟩:=aG.1 hl;exact⟨_,hl,fun K' h=>aJ hb h⟩)|(obtain⟨hb,hl⟩:=aG.1 hl;exact⟨_,_,_,hl,fun K' h=>aJ hb h⟩)|(exact aBy K hl)
theorem aD2 {op:UnOp}{x:Value}:sY (vun A op x):=by
 intro K hl;unfold vun at *
 repeat' (split at hl)
 all_goals first|(exact hl.elim)|(exact⟨_,hl,fun K' h=>h⟩)|(exact⟨_,_,_,hl,fun K' h=>h⟩)|(obtain⟨hb,hl⟩:=aG.1 hl;exact⟨_,hl,fun K' h=>aJ hb h⟩)|(obtain⟨hb,hl⟩:=aG.1 hl;exact⟨_,_,_,hl,fun K' h=>aJ hb h⟩)
theorem R8 {t:TypeId}{ps:List (Nat × Value)}:sY (vE T t ps):=by
 intro K hl;unfold vE at *
 repeat' (split at hl)
 all_goals first|(exact hl.elim)|(exact⟨_,hl,fun K' h=>h⟩)|(exact⟨_,_,_,hl,fun K' h=>h⟩)|(obtain⟨hb,hl⟩:=aG.1 hl;exact⟨_,hl,fun K' h=>aJ hb h⟩)|(obtain⟨hb,hl⟩:=aG.1 hl;exact⟨_,_,_,hl,fun K' h=>aJ hb h⟩)
theorem L7 {b:Builtin}{ts:Array TypeId}{vs:List Value}:sY (mD A T b ts vs):=by
 intro K hl;unfold mD at *
 repeat' (split at hl)
 all_goals first|(exact hl.elim)|(exact⟨_,hl,fun K' h=>h⟩)|(exact⟨_,_,_,hl,fun K' h=>h⟩)|(obtain⟨hb,hl⟩:=aG.1 hl;exact⟨_,hl,fun K' h=>aJ hb h⟩)|(obtain⟨hb,hl⟩:=aG.1 hl;exact⟨_,_,_,hl,fun K' h=>aJ hb h⟩)|(exact tU K hl)
theorem aBG {op:BinOp}{t:TypeId}{x:Value}:sY (SF T h op t x):=by
 intro K hl;unfold SF at *
 repeat' (split at hl)
 all_goals first|(exact hl.elim)|(exact⟨_,hl,fun K' h=>h⟩)
theorem I7 {env:List (Nat × Value)}{op:Op}:sY (iO A T env h op):=by
 show sY (fun K=>iO A T env h op K);cases op <;> simp only [iO]
 case move x=>exact tU
 case assign x=>exact tU
 case pick c a b =>
  refine iQ fun u=>?_;intro K hl;split at hl
  ·exact aHm tU tU K hl
  ·exact hl.elim
 case nilCheck x =>
  refine iQ fun u=>?_;intro K hl;split at hl
  all_goals first|(exact hl.elim)|(exact⟨_,hl,fun K' h=>h⟩)
 case load t x=>exact iQ fun u=>I4
 case fieldAddr s x f=>exact iQ fun u=>GU
 case field s x f=>exact iQ fun u=>RK
 case indexAddr t x i=>exact iQ fun u=>iQ fun j=>GA
 case index t x i=>exact iQ fun u=>iQ fun j=>SZ
 case binOp op t x y yt =>
  refine iQ fun u=>iQ fun v=>?_;intro K hl;split at hl
  ·exact aBG K hl
  ·exact aAr K hl
 case unOp op t x=>exact iQ fun u=>aD2
 case convert s d x =>
  refine iQ fun u=>?_;intro K hl;split at hl
  ·exact NI yK K hl
  ·exact hl.elim
 case makeFunc fn first cap =>
  intro K hl
  repeat' (split at hl)
  all_goals first|(exact hl.elim)|(exact⟨_,hl,fun K' h=>h⟩)
 case extract x i =>
  refine iQ fun u=>?_;intro K hl;split at hl
  ·exact tU K hl
  ·exact hl.elim
 case build t ps =>
  intro K hl;split at hl
  ·exact R8 K hl
  ·exact hl.elim
 case call c =>
  intro K hl;split at hl
  ·split at hl
   ·exact L7 K hl
   ·exact hl.elim
  ·exact hl.elim
 all_goals exact W8
theorem S3 {E:(Value→Prop)→Prop}(hE:sY E):eR (fun K=>E (fun v=>K v h nx)):=by
 intro K hl;obtain⟨v,h1,h2⟩:=hE _ hl;exact⟨v,h,nx,h1,fun K' hk=>h2 _ hk⟩
theorem QY {t:TypeId}{x v:Value}:eR (mJ T h nx t x v):=by
 intro K hl;unfold mJ at *
 repeat' (split at hl)
 all_goals first|(exact hl.elim)|(exact⟨_,hl,fun K' h=>h⟩)|(exact⟨_,_,_,hl,fun K' h=>h⟩)|(obtain⟨hb,hl⟩:=aG.1 hl;exact⟨_,hl,fun K' h=>aJ hb h⟩)|(obtain⟨hb,hl⟩:=aG.1 hl;exact⟨_,_,_,hl,fun K' h=>aJ hb h⟩)
theorem RC {t:TypeId}:eR (vR T h nx t):=by
 intro K hl;unfold vR at *
 repeat' (split at hl)
 all_goals first|(exact hl.elim)|(exact⟨_,hl,fun K' h=>h⟩)|(exact⟨_,_,_,hl,fun K' h=>h⟩)|(obtain⟨hb,hl⟩:=aG.1 hl;exact⟨_,hl,fun K' h=>aJ hb h⟩)|(obtain⟨hb,hl⟩:=aG.1 hl;exact⟨_,_,_,hl,fun K' h=>aJ hb h⟩)
theorem aBK {v:Value}:eR (QQ h nx v):=by
 intro K hl;unfold QQ at *
 repeat' (split at hl)
 all_goals first|(exact hl.elim)|(exact⟨_,hl,fun K' h=>h⟩)|(exact⟨_,_,_,hl,fun K' h=>h⟩)|(obtain⟨hb,hl⟩:=aG.1 hl;exact⟨_,hl,fun K' h=>aJ hb h⟩)|(obtain⟨hb,hl⟩:=aG.1 hl;exact⟨_,_,_,hl,fun K' h=>aJ hb h⟩)
theorem B5 {t:TypeId}{n:Nat}{ps:List (Nat × Value)}:eR (dY T h nx t n ps):=by
 intro K hl;unfold dY at *
 repeat' (split at hl)
 all_goals first|(exact hl.elim)|(exact⟨_,hl,fun K' h=>h⟩)|(exact⟨_,_,_,hl,fun K' h=>h⟩)|(obtain⟨hb,hl⟩:=aG.1 hl;exact⟨_,hl,fun K' h=>aJ hb h⟩)|(obtain⟨hb,hl⟩:=aG.1 hl;exact⟨_,_,_,hl,fun K' h=>aJ hb h⟩)
theorem RG {t:TypeId}{x:Value}:eR (vS T h nx t x):=by
 intro K hl;unfold vS at *
 repeat' (split at hl)
 all_goals first|(exact hl.elim)|(exact⟨_,hl,fun K' h=>h⟩)|(exact⟨_,_,_,hl,fun K' h=>h⟩)|(obtain⟨hb,hl⟩:=aG.1 hl;exact⟨_,hl,fun K' h=>aJ hb h⟩)|(obtain⟨hb,hl⟩:=aG.1 hl;exact⟨_,_,_,hl,fun K' h=>aJ hb h⟩)
theorem E7 {t:TypeId}{x k v:Value}:eR (jH A T h nx t x k v):=by
 intro K hl;unfold jH at *
 repeat' (split at hl)
 all_goals first|(exact hl.elim)|(exact⟨_,hl,fun K' h=>h⟩)|(exact⟨_,_,_,hl,fun K' h=>h⟩)|(obtain⟨hb,hl⟩:=aG.1 hl;exact⟨_,hl,fun K' h=>aJ hb h⟩)|(obtain⟨hb,hl⟩:=aG.1 hl;exact⟨_,_,_,hl,fun K' h=>aJ hb h⟩)
theorem BP {t:TypeId}{x k:Value}{ok:Bool}:sY (nX A T h t x k ok):=by
 intro K hl;unfold nX at *
 repeat' (split at hl)
 all_goals first|(exact hl.elim)|(exact⟨_,hl,fun K' h=>h⟩)|(exact⟨_,_,_,hl,fun K' h=>h⟩)|(obtain⟨hb,hl⟩:=aG.1 hl;exact⟨_,hl,fun K' h=>aJ hb h⟩)|(obtain⟨hb,hl⟩:=aG.1 hl;exact⟨_,_,_,hl,fun K' h=>aJ hb h⟩)
theorem YZ {n c:Nat}{hi:Option Value}{G:Nat→KE→Prop}(hG:∀ m,eR (G m)):eR (fun K=>vhi A n c hi fun m=>G m K):=by
 intro K hl;unfold vhi at *;split at hl
 ·exact hG _ K hl
 ·exact fN (hG _) K hl
 ·exact hl.elim
theorem D6 {t:TypeId}{x:Value}{lo hi mx:Option Value}:eR (rQ A T h nx t x lo hi mx):=by
 intro K hl;unfold rQ at *;split at hl
 case h_2=>exact hl.elim
 split at hl
 ·exact hl.elim
 split at hl
 ·split at hl
  ·exact cJ K hl
  ·exact hl.elim
 ·refine YZ (fun m=>?_) K hl;intro K hl;split at hl
  ·exact cJ K hl
  ·refine fN ?_ K hl;intro K hl;split at hl
   ·exact xC cJ cJ K hl
   ·exact hl.elim
  ·exact hl.elim
 ·split at hl
  ·exact cJ K hl
  ·exact hl.elim
 ·split at hl
  ·exact fN cJ K hl
  ·exact fN cJ K hl
  ·exact hl.elim
 ·exact hl.elim
theorem XE {sz:Nat}{x:Value}{G:Nat→List Value→KE→Prop}(hG:∀ m l,eR (G m l)):eR (fun K=>HF h sz x fun m l=>G m l K):=by
 intro K hl;unfold HF at *;split at hl
 ·exact hG _ _ K hl
 ·split at hl
  ·exact fN (hG _ _) K hl
  ·split at hl
   ·exact hG _ _ K hl
   ·exact hl.elim
  ·split at hl
   ·exact hG _ _ K hl
   ·exact hl.elim
  ·exact hl.elim
 ·exact hl.elim
theorem EH {t:TypeId}{l c:Value}:eR (jG A T h nx t l c):=by
 intro K hl;unfold jG at *;split at hl
 case h_2=>exact hl.elim
 split at hl
 case h_2=>exact hl.elim
 exact fN cJ K hl
theorem NB {st xt:TypeId}{s x:Value}:eR (kQ A T h nx st xt s x):=by
 intro K hl;unfold kQ at *;split at hl
 case h_3=>exact hl.elim
 case h_1 =>
  split at hl
  case h_2=>exact hl.elim
  split at hl
  case h_2=>exact hl.elim
  exact fN cJ K hl
 split at hl
 ·exact hl.elim
 split at hl
 ·exact hl.elim
 refine XE (fun m l=>?_) K hl;intro K hl;split at hl
 ·exact xC cJ (fN cJ) K hl
 ·split at hl
  ·split at hl
   ·exact xC cJ (fN cJ) K hl
   ·exact hl.elim
  ·exact xC (fN cJ) (fN cJ) K hl
  ·exact hl.elim
 ·exact hl.elim
variable {A:Ar}{T:cK}{C:VC}{Y:VY}
theorem C4 (hC:dZ C)(hY:dZ Y){env:List (Nat × Value)}{h:Heap}{nx:Nat}{op:Op}:eR (pA A T C Y env h nx op):=by
 have hlook:eR (fun K=>iO A T env h op (fun v=>K v h nx)):=S3 I7;show eR (fun K=>pA A T C Y env h nx op K);cases op
 case store t x y=>exact iA fun p=>iA fun v=>QY
 case alloc t=>exact RC
 case box t x=>exact iA fun v=>aBK
 case buildSlice t n ps =>
  simp only [pA];intro K hl;split at hl
  ·exact B5 K hl
  ·exact hl.elim
 case slice t x lo hi mx =>
  simp only [pA];refine iA fun v=>?_;intro K hl;split at hl
  ·exact D6 K hl
  ·exact hl.elim
 case makeSlice t l c =>
  simp only [pA];exact iA fun x=>iA fun y=>EH
 case makeMap t r =>
  cases r with
  |none=>exact cJ
  |some r=>exact hlook
 case lookup t m k ok=>exact iA fun x=>iA fun y=>S3 BP
 case mapUpdate t m k u=>exact iA fun x=>iA fun y=>iA fun v=>E7
 case call c =>
  obtain⟨cal,args,ats⟩:=c;cases cal with
  |invoke r m=>exact eS
  |builtin b =>
   cases b
   case append =>
    simp only [pA];intro K hl;split at hl
    ·exact NB K hl
    ·exact hl.elim
   case clear =>
    simp only [pA];intro K hl;split at hl
    ·exact RG K hl
    ·exact hl.elim
   all_goals exact hlook
  |value f =>
   simp only [pA];refine iA fun fv=>?_;intro K hl;split at hl
   ·split at hl
    ·split at hl
     ·exact hC _ _ _ _ K hl
     ·exact hl.elim
    ·split at hl
     ·exact hY _ _ _ _ K hl
     ·exact hl.elim
    ·exact hl.elim
   ·exact hl.elim
 all_goals exact hlook
theorem yR {ops:List Oper}{env:List (Nat × Value)}{g:Option (Nat × Bool)}:(∃ e,∀ Yk N,fL A ops env g Yk N=Yk e)∨(∃ e,∀ Yk N,fL A ops env g Yk N=N e)∨(∀ Yk N,fL A ops env g Yk N=False):=by
 unfold fL;cases g with
 |none=>exact .inl ⟨env,fun _ _=>rfl⟩
 |some gw =>
  obtain⟨j,want⟩:=gw;simp only;cases eV ops j with
  |none=>exact .inr (.inr fun _ _=>rfl)
  |some o =>
   simp only;cases o.dst with
   |none=>exact .inr (.inr fun _ _=>rfl)
   |some t =>
    simp only;cases look env t with
    |none=>exact .inr (.inr fun _ _=>rfl)
    |some v =>
     cases v with
     |tuple vs=>exact .inr (.inl ⟨env,fun _ _=>rfl⟩)
     |bool b =>
      simp only;cases A.eqB b want with
      |true=>exact .inl ⟨_,fun _ _=>rfl⟩
      |false=>exact .inr (.inl ⟨_,fun _ _=>rfl⟩)
     |_=>exact .inr (.inr fun _ _=>rfl)
theorem DK {tn:Nat}{env:List (Nat × Value)}{dst:Option Nat}{v:Value}:(∃ e,∀ K,eC tn env dst v K=K e)∨(∀ K,eC tn env dst v K=False):=by
 unfold eC;cases dst with
 |none=>exact .inl ⟨env,fun _=>rfl⟩
 |some d =>
  simp only;cases Nat.blt d tn with
  |true=>exact .inl ⟨_,fun _=>rfl⟩
  |false=>exact .inr fun _=>rfl
theorem l8 {e:List (Nat × Value)}{h:Heap}{nx:Nat}:kM (fun K=>K e h nx):=fun K hl=>⟨e,h,nx,hl,fun K' h=>h⟩
theorem wJ:kM (fun _=>False):=fun K hl=>hl.elim
theorem wI {ops:List Oper}{env:List (Nat × Value)}{g:Option (Nat × Bool)}{F G:List (Nat × Value)→KS→Prop}(hF:∀ e,kM (F e))(hG:∀ e,kM (G e)):kM (fun K=>fL A ops env g (fun e=>F e K) (fun e=>G e K)):=by
 rcases yR (A:=A) (ops:=ops) (env:=env) (g:=g) with ⟨e,h⟩|⟨e,h⟩|h
 ·simp only [h];exact hF e
 ·simp only [h];exact hG e
 ·simp only [h];exact wJ
theorem mV {tn:Nat}{env:List (Nat × Value)}{dst:Option Nat}{v:Value}{F:List (Nat × Value)→KS→Prop}(hF:∀ e,kM (F e)):kM (fun K=>eC tn env dst v (fun e=>F e K)):=by
 rcases DK (tn:=tn) (env:=env) (dst:=dst) (v:=v) with ⟨e,h⟩|h
 ·simp only [h];exact hF e
 ·simp only [h];exact wJ
theorem zU {E:KE→Prop}{F:Value→Heap→Nat→KS→Prop}(hE:eR E)(hF:∀ v h nx,kM (F v h nx)):kM (fun K=>E (fun v h nx=>F v h nx K)):=by
 intro K hl;obtain⟨v,h,nx,h1,h2⟩:=hE _ hl;obtain⟨e,h',nx',h3,h4⟩:=hF v h nx K h1;exact⟨e,h',nx',h3,fun K' hk=>h2 _ (h4 K' hk)⟩
theorem QH {E:KS→Prop}{F:List (Nat × Value)→Heap→Nat→KS→Prop}(hE:kM E)(hF:∀ v h nx,kM (F v h nx)):kM (fun K=>E (fun v h nx=>F v h nx K)):=by
 intro K hl;obtain⟨v,h,nx,h1,h2⟩:=hE _ hl;obtain⟨e,h',nx',h3,h4⟩:=hF v h nx K h1;exact⟨e,h',nx',h3,fun K' hk=>h2 _ (h4 K' hk)⟩
theorem W2 {b:Bool}{E:KS→Prop}(h:kM E):kM (fun K=>dP b (E K)):=by
 intro K hl;obtain⟨hb,hl⟩:=aG.1 hl;obtain⟨x,y,z,h1,h2⟩:=h K hl;exact⟨x,y,z,h1,fun K' hk=>aJ hb (h2 K' hk)⟩
theorem DW (hC:dZ C)(hY:dZ Y){tn:Nat}{ops:List Oper}:∀ (l:List Oper) (env:List (Nat × Value)) (h:Heap) (nx:Nat),kM (yH A T C Y tn ops l env h nx)
 |[],env,h,nx=>l8
 |o::r,env,h,nx=>by
  show kM (fun K=>yH A T C Y tn ops (o::r) env h nx K);simp only [JP]
  exact wI (F:=fun e K=>pA A T C Y e h nx o.op fun v h' nx'=>eC tn e o.dst v fun env'=>yH A T C Y tn ops r env' h' nx' K) (G:=fun e K=>eC tn e o.dst undef fun env'=>yH A T C Y tn ops r env' h nx K)
   (fun e=>zU (F:=fun v h' nx' K=>eC tn e o.dst v fun env'=>yH A T C Y tn ops r env' h' nx' K) (C4 hC hY) fun v h' nx'=>mV (F:=fun env' K=>yH A T C Y tn ops r env' h' nx' K) fun e'=>DW hC hY r e' h' nx')
   (fun e=>mV (F:=fun env' K=>yH A T C Y tn ops r env' h nx K) fun e'=>DW hC hY r e' h nx)
def pK {α:Type}(E:(α→Nat→Prop)→Prop):Prop:=∀ K,E K→∃ v n,K v n∧∀ K':α→Nat→Prop,K' v n→E K'
theorem VD {E:(Value→Prop)→Prop}{n:Nat}(hE:sY E):pK (fun K=>E (fun v=>K v n)):=by
 intro K hl;obtain⟨v,h1,h2⟩:=hE _ hl;exact⟨v,n,h1,fun K' hk=>h2 _ hk⟩
theorem C3 {x:Option Value}{F:Value→(Value→Nat→Prop)→Prop}(hF:∀ v,pK (F v)):pK (fun K=>on x (fun v=>F v K)):=by
 cases x with
 |none=>exact fun K hl=>hl.elim
 |some v=>exact hF v
theorem RM (hC:dZ C){hJ:Heap}{nx:Nat}{env:List (Nat × Value)}{op:Op}:pK (gL A T C hJ nx env op):=by
 have hlook:∀ hh op',pK (fun K=>iO A T env hh op' (fun v=>K v nx)):=fun _ _=>VD I7;show pK (fun K=>gL A T C hJ nx env op K);cases op
 case load t x=>simp only [gL];exact hlook hJ _
 case lookup t m k ok=>exact C3 fun x=>C3 fun y=>VD BP
 case slice t x lo hi mx =>
  simp only [gL];refine C3 fun v=>?_;intro K hl;split at hl
  ·obtain⟨v,h',nx',h1,h2⟩:=D6 _ hl;exact⟨v,nx',h1,fun K' hk=>h2 _ hk⟩
  ·exact hl.elim
 case call c =>
  obtain⟨cal,args,ats⟩:=c;cases cal with
  |invoke r m=>exact fun K hl=>hl.elim
  |builtin b=>simp only [gL];exact hlook [] _
  |value f =>
   simp only [gL];refine C3 fun fv=>?_;intro K hl;split at hl
   ·split at hl
    ·split at hl
     ·obtain⟨v,h',nx',h1,h2⟩:=hC _ _ _ _ _ hl;split at h1
      ·rename_i hb;exact⟨v,nx,h1,fun K' hk=>h2 _ (by rw [hb];exact hk)⟩
      ·exact h1.elim
     ·exact hl.elim
    ·exact hl.elim
   ·exact hl.elim
 all_goals (simp only [gL];exact hlook [] _)
theorem DQ {α β:Type}{E:(α→Prop)→Prop}{F:α→(β→Prop)→Prop}(hE:sY E)(hF:∀ v,sY (F v)):sY (fun K=>E (fun v=>F v K)):=by
 intro K hl;obtain⟨v,h1,h2⟩:=hE _ hl;obtain⟨e,h3,h4⟩:=hF v K h1;exact⟨e,h3,fun K' hk=>h2 _ (h4 K' hk)⟩
theorem vU {α:Type}:pK (fun _:α→Nat→Prop=>False):=fun _ hl=>hl.elim
theorem XT {α:Type}{v:α}{n:Nat}:pK (fun K:α→Nat→Prop=>K v n):=fun _ hl=>⟨v,n,hl,fun _ h=>h⟩
theorem W6 {α β:Type}{E:(α→Nat→Prop)→Prop}{F:α→Nat→(β→Nat→Prop)→Prop}(hE:pK E)(hF:∀ v n,pK (F v n)):pK (fun K=>E (fun v n=>F v n K)):=by
 intro K hl;obtain⟨v,n,h1,h2⟩:=hE _ hl;obtain⟨e,m,h3,h4⟩:=hF v n K h1;exact⟨e,m,h3,fun K' hk=>h2 _ (h4 K' hk)⟩
theorem SW {α:Type}{ops:List Oper}{env:List (Nat × Value)}{g:Option (Nat × Bool)}{F G:List (Nat × Value)→(α→Nat→Prop)→Prop}(hF:∀ e,pK (F e))(hG:∀ e,pK (G e)):pK (fun K=>fL A ops env g (fun e=>F e K) (fun e=>G e K)):=by
 rcases yR (A:=A) (ops:=ops) (env:=env) (g:=g) with ⟨e,h⟩|⟨e,h⟩|h
 ·simp only [h];exact hF e
 ·simp only [h];exact hG e
 ·simp only [h];exact vU
theorem PT {α:Type}{tn:Nat}{env:List (Nat × Value)}{dst:Option Nat}{v:Value}{F:List (Nat × Value)→(α→Nat→Prop)→Prop}(hF:∀ e,pK (F e)):pK (fun K=>eC tn env dst v (fun e=>F e K)):=by
 rcases DK (tn:=tn) (env:=env) (dst:=dst) (v:=v) with ⟨e,h⟩|h
 ·simp only [h];exact hF e
 ·simp only [h];exact vU
theorem zS (hC:dZ C){tn:Nat}{ops:List Oper}{hJ:Heap}:∀ (l:List Nat) (env:List (Nat × Value)) (nx:Nat),pK (nT A T C tn ops hJ l env nx)
 |[],env,nx=>XT
 |i::r,env,nx=>by
  show pK (fun K=>nT A T C tn ops hJ (i::r) env nx K);simp only [vT];cases eV ops i with
  |none=>exact vU
  |some o =>
   exact SW (F:=fun e K=>gL A T C hJ nx e o.op fun v nx'=>eC tn e o.dst v fun env=>nT A T C tn ops hJ r env nx' K) (G:=fun e K=>eC tn e o.dst undef fun env=>nT A T C tn ops hJ r env nx K)
    (fun e=>W6 (F:=fun v n K=>eC tn e o.dst v fun env=>nT A T C tn ops hJ r env n K) (RM hC) fun v n=>PT (F:=fun env K=>nT A T C tn ops hJ r env n K) fun e'=>zS hC r e' n)
    (fun e=>PT (F:=fun env K=>nT A T C tn ops hJ r env nx K) fun e'=>zS hC r e' nx)
theorem QW {E:(List (Nat × Value)→Nat→Prop)→Prop}{F:List (Nat × Value)→Nat→KS→Prop}(hE:pK E)(hF:∀ e n,kM (F e n)):kM (fun K=>E (fun e n=>F e n K)):=by
 intro K hl;obtain⟨e0,n0,h1,h2⟩:=hE _ hl;obtain⟨e,h,nx,h3,h4⟩:=hF e0 n0 K h1;exact⟨e,h,nx,h3,fun K' hk=>h2 _ (h4 K' hk)⟩
theorem A6 {tn:Nat}{ops:List Oper}:∀ (l:List Nat) (env:List (Nat × Value)) (h:Heap) (nx:Nat),kM (kU T tn ops l env h nx)
 |[],env,h,nx=>l8
 |i::r,env,h,nx=>by
  intro K hl;simp only [lV] at hl ⊢;split at hl
  ·split at hl
   ·exact mV (F:=fun e K=>kU T tn ops r e _ _ K) (fun e=>A6 r e _ _) K hl
   ·exact hl.elim
  ·exact hl.elim
theorem AN (hC:dZ C)(hY:dZ Y){tn:Nat}{ops:List Oper}{hJ:Heap}:∀ (l:List (Nat × Bool)) (env:List (Nat × Value)) (h:Heap) (nx:Nat),kM (jI A T C Y tn ops hJ l env h nx)
 |[],env,h,nx=>l8
 |(i,chk)::r,env,h,nx=>by
  show kM (fun K=>jI A T C Y tn ops hJ ((i,chk)::r) env h nx K);simp only [wG];cases eV ops i with
  |none=>exact wJ
  |some o =>
   exact wI (F:=fun e K=>dP (xR e hJ chk o.op) (pA A T C Y e h nx o.op fun v h' nx'=>eC tn e o.dst v fun env'=>jI A T C Y tn ops hJ r env' h' nx' K)) (G:=fun e K=>eC tn e o.dst undef fun env'=>jI A T C Y tn ops hJ r env' h nx K)
    (fun e=>W2 (zU (F:=fun v h' nx' K=>eC tn e o.dst v fun env'=>jI A T C Y tn ops hJ r env' h' nx' K) (C4 hC hY) fun v h' nx'=>mV (F:=fun env' K=>jI A T C Y tn ops hJ r env' h' nx' K) fun e'=>AN hC hY r e' h' nx'))
    (fun e=>mV (F:=fun env' K=>jI A T C Y tn ops hJ r env' h nx K) fun e'=>AN hC hY r e' h nx)
theorem MP (hC:dZ C)(hY:dZ Y){tn:Nat}{ops:List Oper}{p:eZ}{env:List (Nat × Value)}{h:Heap}{nx:Nat}:kM (nA A T C Y tn ops p env h nx):=by
 show kM (fun K=>nA A T C Y tn ops p env h nx K);unfold nA;exact QW (F:=fun e n K=>kU T tn ops p.allocs e h n fun env2 h2 nx2=>jI A T C Y tn ops (G7 T ops env p h) p.tail env2 h2 nx2 K) (zS hC p.head env nx) fun e n =>
  QH (F:=fun env2 h2 nx2 K=>jI A T C Y tn ops (G7 T ops env p h) p.tail env2 h2 nx2 K) (A6 p.allocs e h n) fun e2 h2 nx2=>AN hC hY p.tail e2 h2 nx2
def lB (ρ:Nat→Nat):Nat→Loc:=fun k=>.lay (ρ k) 0 0
def iB (ρ:Nat→Nat):Value→Value:=tr (lB ρ)
def bR (ρ:Nat→Nat):Value→Value:=bS (lB ρ)
def A0 (n:Nat):Value→Prop:=eK (lB id) n
def AB (n:Nat):Value→Prop:=gG (lB id) n
def bO (ρ:Nat→Nat)(n:Nat):aT→aT→Prop
 |.cells wr0 g0 sz0 cs0,.cells wr g sz cs=>wr0=wr∧g0=g∧sz0=sz∧cs=cs0.map (bR ρ)∧∀ v∈cs0,AB n v
 |.map es0,.map es=>es=es0.map (fun e=>(e.1,bR ρ e.2))∧∀ e∈es0,AB n e.2
 |.zero,.zero=>True
 |_,_=>False
structure rB (b:Nat) (ρ:Nat→Nat) (e0:List (Nat × Value)) (h0:Heap) (n0:Nat) (e:List (Nat × Value)) (h:Heap) (nx:Nat):Prop where
 env:∀ t v,look e0 t=some v→look e t=some (iB ρ v)∧A0 n0 v
 heap:∀ k o,look h0 k=some o→k<n0∧∃ o',look h (ρ k)=some o'∧bO ρ n0 o o'
 inj:∀ k k' o o',look h0 k=some o→look h0 k'=some o'→ρ k=ρ k'→k=k'
 fix:∀ k,k<b→ρ k=k
 le:b≤n0
section
variable {ι:Nat→Loc}{ρ:Nat→Nat}{n m:Nat}
theorem CT (v:Value):dT ι (dT (lB ρ) v)=dT (fun k=>ι (ρ k)) v:=by
 cases v with
 |pointer a =>
  cases a with
  |none=>rfl
  |some a =>
   simp only [dT,lB,Nat.zero_add]
 |slice a n c =>
  cases a with
  |none=>rfl
  |some a =>
   simp only [dT,lB,Nat.zero_add,Nat.add_zero]
 |map a =>
  cases a with
  |none=>rfl
  |some a=>simp only [dT,lB]
 |_=>rfl
theorem Z0 {f:Fn}(h:RA ι n (m0 (lB ρ) f)):m0 ι (m0 (lB ρ) f)=m0 (fun k=>ι (ρ k)) f:=by
 cases f with
 |yield l =>
  have h:=h.2;simp only [m0,lB];cases hl:ι (ρ l) with
  |nil p=>rw [hl] at h;cases h
  |lay b o e=>rfl
 |_=>rfl
theorem gW {v:Value}(h:gG ι n (bS (lB ρ) v)):bS ι (bS (lB ρ) v)=bS (fun k=>ι (ρ k)) v:=by
 cases v with
 |func f a c =>
  have h1:=Z0 (ι:=ι) (n:=n) (f:=f) h.1;simp only [bS,h1,Array.map_map];congr 2;funext x;exact CT x
 |pointer a=>have:=CT (ι:=ι) (ρ:=ρ) (.pointer a);cases a <;> exact this
 |slice a n c=>have:=CT (ι:=ι) (ρ:=ρ) (.slice a n c);cases a <;> exact this
 |map a=>have:=CT (ι:=ι) (ρ:=ρ) (.map a);cases a <;> exact this
 |_=>rfl
theorem tI {v:Value}(h:j6 ι n (dS (lB ρ) v)):dS ι (dS (lB ρ) v)=dS (fun k=>ι (ρ k)) v:=by
 cases v with
 |agg cs =>
  simp only [dS,Array.map_map];congr 1;apply Array.map_congr_left;intro x hx;exact gW (n:=n) (h (bS (lB ρ) x) (by simp only [Array.toList_map,List.mem_map];exact⟨x,by simpa using hx,rfl⟩))
 |pointer a=>have:=gW (ι:=ι) (ρ:=ρ) (n:=n) (v:=.pointer a);cases a <;> exact this h
 |slice a l c=>have:=gW (ι:=ι) (ρ:=ρ) (n:=n) (v:=.slice a l c);cases a <;> exact this h
 |map a=>have:=gW (ι:=ι) (ρ:=ρ) (n:=n) (v:=.map a);cases a <;> exact this h
 |func f a c=>exact gW (ι:=ι) (ρ:=ρ) (n:=n) (v:=.func f a c) h
 |_=>rfl
theorem EU {v:Value}(h:eK ι n (iB ρ v)):tr ι (iB ρ v)=tr (fun k=>ι (ρ k)) v:=by
 unfold iB at h ⊢;cases v with
 |tuple cs =>
  simp only [tr,Array.map_map];congr 1;apply Array.map_congr_left;intro x hx;exact tI (n:=n) (h (dS (lB ρ) x) (by simp only [Array.toList_map,List.mem_map];exact⟨x,by simpa using hx,rfl⟩))
 |pointer a=>have:=tI (ι:=ι) (ρ:=ρ) (n:=n) (v:=.pointer a);cases a <;> exact this h
 |slice a l c=>have:=tI (ι:=ι) (ρ:=ρ) (n:=n) (v:=.slice a l c);cases a <;> exact this h
 |map a=>have:=tI (ι:=ι) (ρ:=ρ) (n:=n) (v:=.map a);cases a <;> exact this h
 |func f a c=>exact tI (ι:=ι) (ρ:=ρ) (n:=n) (v:=.func f a c) h
 |agg c=>exact tI (ι:=ι) (ρ:=ρ) (n:=n) (v:=.agg c) h
 |_=>rfl
theorem CN {v:Value}(h:nV ι n (dT (lB ρ) v))(hm:nV (lB id) m v):nV (fun k=>ι (ρ k)) m v:=by
 cases v with
 |pointer a =>
  cases a with
  |none=>trivial
  |some a=>exact⟨hm.1,h.2⟩
 |slice a l c =>
  cases a with
  |none=>trivial
  |some a=>exact⟨hm.1,fun hf=>h.2 hf⟩
 |map a =>
  cases a with
  |none=>trivial
  |some a=>exact⟨hm.1,h.2⟩
 |agg c=>exact hm.elim
 |tuple c=>exact hm.elim
 |_=>trivial
theorem nS {v:Value}(h:gG ι n (bS (lB ρ) v))(hm:gG (lB id) m v):gG (fun k=>ι (ρ k)) m v:=by
 cases v with
 |func f a c =>
  refine⟨?_,fun x hx=>?_⟩
  ·have h1:=h.1;have h2:=hm.1;cases f with
   |yield l=>exact⟨h2.1,h1.2⟩
   |_=>trivial
  ·refine CN (n:=n) (h.2 _ ?_) (hm.2 x hx);simp only [Array.toList_map,List.mem_map];exact⟨x,hx,rfl⟩
 |pointer a=>have:=CN (ι:=ι) (ρ:=ρ) (n:=n) (m:=m) (v:=.pointer a);cases a <;> exact this h hm
 |slice a l c=>have:=CN (ι:=ι) (ρ:=ρ) (n:=n) (m:=m) (v:=.slice a l c);cases a <;> exact this h hm
 |map a=>have:=CN (ι:=ι) (ρ:=ρ) (n:=n) (m:=m) (v:=.map a);cases a <;> exact this h hm
 |agg c=>exact hm.elim
 |tuple c=>exact hm.elim
 |_=>trivial
theorem tW {v:Value}(h:j6 ι n (dS (lB ρ) v))(hm:j6 (lB id) m v):j6 (fun k=>ι (ρ k)) m v:=by
 cases v with
 |agg cs =>
  intro x hx;refine nS (n:=n) (h _ ?_) (hm x hx);simp only [Array.toList_map,List.mem_map];exact⟨x,hx,rfl⟩
 |pointer a=>have:=nS (ι:=ι) (ρ:=ρ) (n:=n) (m:=m) (v:=.pointer a);cases a <;> exact this h hm
 |slice a l c=>have:=nS (ι:=ι) (ρ:=ρ) (n:=n) (m:=m) (v:=.slice a l c);cases a <;> exact this h hm
 |map a=>have:=nS (ι:=ι) (ρ:=ρ) (n:=n) (m:=m) (v:=.map a);cases a <;> exact this h hm
 |func f a c=>exact nS (ι:=ι) (ρ:=ρ) (n:=n) (m:=m) (v:=.func f a c) h hm
 |tuple c=>exact hm.elim
 |_=>trivial
theorem CW {v:Value}(h:eK ι n (iB ρ v))(hm:A0 m v):eK (fun k=>ι (ρ k)) m v:=by
 unfold iB at h;unfold A0 at hm;cases v with
 |tuple cs =>
  intro x hx;refine tW (n:=n) (h _ ?_) (hm x hx);simp only [Array.toList_map,List.mem_map];exact⟨x,hx,rfl⟩
 |pointer a=>have:=tW (ι:=ι) (ρ:=ρ) (n:=n) (m:=m) (v:=.pointer a);cases a <;> exact this h hm
 |slice a l c=>have:=tW (ι:=ι) (ρ:=ρ) (n:=n) (m:=m) (v:=.slice a l c);cases a <;> exact this h hm
 |map a=>have:=tW (ι:=ι) (ρ:=ρ) (n:=n) (m:=m) (v:=.map a);cases a <;> exact this h hm
 |func f a c=>exact tW (ι:=ι) (ρ:=ρ) (n:=n) (m:=m) (v:=.func f a c) h hm
 |agg c=>exact tW (ι:=ι) (ρ:=ρ) (n:=n) (m:=m) (v:=.agg c) h hm
 |_=>trivial
theorem aFE {v:Value}(h:gS (bS (lB ρ) v)=true):gS v=true:=by
 cases v with
 |pointer a=>cases a with
  |none=>rfl
  |some a=>simp [bS,dT,lB,gS] at h
 |slice a n c=>cases a with
  |none=>rfl
  |some a=>simp [bS,dT,lB,gS] at h
 |map a=>cases a with
  |none=>rfl
  |some a=>simp [bS,dT,lB,gS] at h
 |func f a c =>
  cases f with
  |func f=>simpa [bS,m0,gS] using h
  |yield l=>simp [bS,m0,lB,gS] at h
  |_=>simp [bS,m0,gS] at h
 |_=>exact h
theorem M1 {l:List Value}(h:c9 (l.map (bR ρ))=true):c9 l=true :=
 pM fun v hv=>aFE (aU h (List.mem_map_of_mem hv))
theorem aAb {B:Nat}{w:World}{o0 o:aT}{l:Loc}(h:jR ι B w o l)(hs:T8 ι n o)(hr:bO ρ m o0 o):jR (fun k=>ι (ρ k)) B w o0 l:=by
 cases o0 with
 |cells wr0 g0 sz0 cs0 =>
  cases o with
  |cells wr g sz cs =>
   obtain⟨rfl,rfl,rfl,rfl,hn⟩:=hr;cases l with
   |nil p =>
    have h1:cs0.map (bR ρ)=[]∧(sz0=0∨wr0=true→p.isSome=true):=(by cases wr0 <;> exact h);have h2:cs0=[]:=(by simpa using h1.1);cases wr0 <;> exact⟨h2,h1.2⟩
   |lay b off e =>
    cases wr0 with
    |true =>
     obtain⟨h1,h2,arr,t,h3,h4,h5⟩:=h;refine⟨h1,fun hg=>M1 (h2 hg),arr,t,h3,by simpa using h4,fun i v hv=>?_⟩;rw [← gW (n:=n) (hs _ (List.mem_map_of_mem (List.mem_of_getElem? hv)))];exact h5 i _ (by rw [List.getElem?_map,hv];rfl)
    |false =>
     obtain⟨h1,h2,h5⟩:=h;refine⟨h1,fun hg=>M1 (h2 hg),fun i v hv=>?_⟩;rw [← gW (n:=n) (hs _ (List.mem_map_of_mem (List.mem_of_getElem? hv)))];exact h5 i _ (by rw [List.getElem?_map,hv];rfl)
  |_=>exact hr.elim
 |map es0 =>
  cases o with
  |map es =>
   obtain⟨rfl,hn⟩:=hr;cases l with
   |nil p=>exact h.elim
   |lay b off e =>
    obtain⟨h1,ents,clock,h2,h3,h4⟩:=h;refine⟨h1,ents,clock,h2,h3.trans ?_,fun x hx=>h4 (x.1,bR ρ x.2) (List.mem_map_of_mem hx)⟩;rw [List.map_map];apply List.map_congr_left;intro x hx;simp only [Function.comp_apply,bR];rw [gW (n:=n) (hs (x.1,bR ρ x.2) (List.mem_map_of_mem hx))]
  |_=>exact hr.elim
 |zero =>
  cases o with
  |zero=>cases l <;> exact h
  |_=>exact hr.elim
 |_=>exact hr.elim
theorem aCz {o0 o:aT}(h:T8 ι n o)(hr:bO ρ m o0 o):T8 (fun k=>ι (ρ k)) m o0:=by
 cases o0 with
 |cells wr0 g0 sz0 cs0 =>
  cases o with
  |cells wr g sz cs =>
   obtain⟨rfl,rfl,rfl,rfl,hn⟩:=hr;exact fun v hv=>nS (n:=n) (h _ (List.mem_map_of_mem hv)) (hn v hv)
  |_=>exact hr.elim
 |map es0 =>
  cases o with
  |map es =>
   obtain⟨rfl,hn⟩:=hr;exact fun x hx=>nS (n:=n) (h (x.1,bR ρ x.2) (List.mem_map_of_mem hx)) (hn x hx)
  |_=>exact hr.elim
 |zero=>trivial
 |_=>exact hr.elim
theorem bO.alone {o0 o:aT}(hr:bO ρ m o0 o)(h:o0.alone=true):o.alone=true:=by
 cases o0 <;> cases o <;> first|exact hr.elim|(obtain⟨rfl,_⟩:=hr;exact h)|exact h
variable {b:Nat}{e0 e:List (Nat × Value)}{h0 h:Heap}{n0 nx:Nat}
theorem rB.aGr (r:rB b ρ e0 h0 n0 e h nx){B:Nat}{w:World}(H:aQ ι B h nx w):aQ (fun k=>ι (ρ k)) B h0 n0 w:=by
 refine⟨fun k o hk=>?_,fun k k' o o' h1 h2 hne ha q hq=>?_,fun k o hk=>(r.heap k o hk).1,H.size,fun k o hk=>?_⟩
 ·obtain⟨_,o',h1,h2⟩:=r.heap k o hk;exact aAb (H.obj _ _ h1) (H.sc _ _ h1) h2
 ·obtain⟨_,p,k1,k2⟩:=r.heap k o h1;obtain⟨_,p',k3,k4⟩:=r.heap k' o' h2;exact H.sep _ _ p p' k1 k3 (fun e=>hne (r.inj k k' o o' h1 h2 e)) (k2.alone ha) q hq
 ·obtain⟨_,o',h1,h2⟩:=r.heap k o hk;exact aCz (H.sc _ _ h1) h2
theorem rB.aHY (r:rB b ρ e0 h0 n0 e h nx){a:Act}(H:cU ι nx e a):cU (fun k=>ι (ρ k)) n0 e0 a:=by
 intro t v hv;obtain⟨h1,h2⟩:=r.env t v hv;obtain⟨h3,h4⟩:=H t _ h1;exact⟨by rw [← EU h4];exact h3,CW h4 h2⟩
end
def oP (A:Ar)(T:cK)(C:VC)(Y:VY)(tn:Nat)(ops:List Oper)(o:Oper)(e:List (Nat × Value))(h:Heap)(nx:Nat)(K:KS):Prop :=
 fL A ops e o.guard (fun e=>pA A T C Y e h nx o.op fun v h' nx'=>eC tn e o.dst v fun e'=>K e' h' nx') (fun e=>eC tn e o.dst undef fun e'=>K e' h nx)
def allM (l:List Nat):List Nat→Bool
 |[]=>true
 |j::r=>match oE j l with|true=>allM l r|false=>false
theorem OC {l m:List Nat}:allM l m=true↔∀ j∈m,j∈l:=by
 induction m with
 |nil=>simp [allM]
 |cons x r ih =>
  simp only [allM];split
  ·rename_i h;rw [ih];constructor
   ·intro h2 j hj;rcases List.mem_cons.1 hj with rfl|hj
    ·exact dI.1 h
    ·exact h2 j hj
   ·exact fun h2 j hj=>h2 j (.tail _ hj)
  ·rename_i h;constructor
   ·intro h2;cases h2
   ·intro h2;rw [dI.2 (h2 x (.head _))] at h;cases h
def eJ (all:List Oper)(done:List Nat):List Oper→Nat→List Nat
 |[],_=>[]
 |o::r,i=>match oE i done with
  |true=>eJ all done r (i+1)
  |false=>(match allM done (kS o) with|true=>i::eJ all done r (i+1)|false=>eJ all done r (i+1))
theorem RT {all:List Oper}{done:List Nat}:∀ {l:List Oper} {i k:Nat},k∈eJ all done l i↔∃ j o,k=i+j∧eV l j=some o∧k∉done∧∀ x∈kS o,x∈done:=by
 intro l
 induction l with
 |nil =>
  intro i k;constructor
  ·intro h;cases h
  ·rintro ⟨j,o,_,h,_⟩;rw [dV] at h;simp at h
 |cons p r ih =>
  intro i k;have shift:(∃ j o,k=i+1+j∧eV r j=some o∧k∉done∧∀ x∈kS o,x∈done)→∃ j o,k=i+j∧eV (p::r) j=some o∧k∉done∧∀ x∈kS o,x∈done:=by
   rintro ⟨j,o,h1,h2,h3⟩;refine⟨j+1,o,by omega,?_,h3⟩;rw [dV] at h2 ⊢;simpa using h2
  have back:(∃ j o,k=i+j∧eV (p::r) j=some o∧k∉done∧∀ x∈kS o,x∈done)→(k=i∧i∉done∧∀ x∈kS p,x∈done)∨∃ j o,k=i+1+j∧eV r j=some o∧k∉done∧∀ x∈kS o,x∈done:=by
   rintro ⟨j,o,h1,h2,h3⟩;cases j with
   |zero =>
    rw [dV] at h2;simp at h2;subst h2;exact .inl ⟨by omega,by rw [show i=k by omega];exact h3.1,h3.2⟩
   |succ j =>
    refine .inr ⟨j,o,by omega,?_,h3⟩;rw [dV] at h2 ⊢;simpa using h2
  simp only [eJ];split
  ·rename_i hm;rw [ih];refine⟨shift,fun h=>?_⟩;rcases back h with ⟨_,hn,_⟩|h
   ·exact absurd (dI.1 hm) hn
   ·exact h
  ·rename_i hm;have hn:i∉done:=fun h=>(by rw [dI.2 h] at hm;cases hm);split
   ·rename_i ha;rw [List.mem_cons,ih];constructor
    ·rintro (rfl|h)
     ·exact⟨0,p,rfl,by rw [dV];rfl,hn,OC.1 ha⟩
     ·exact shift h
    ·intro h;rcases back h with ⟨h,_⟩|h
     ·exact .inl h
     ·exact .inr h
   ·rename_i ha;rw [ih];refine⟨shift,fun h=>?_⟩;rcases back h with ⟨_,_,h⟩|h
    ·rw [OC.2 h] at ha;cases ha
    ·exact h
def LI (F:Nat→Prop):List Nat→Prop
 |[]=>True
 |[i]=>F i
 |i::r=>F i∧LI F r
theorem xS {F:Nat→Prop}:∀ {l:List Nat},LI F l↔∀ i∈l,F i
 |[]=>by simp [LI]
 |[i]=>by simp [LI]
 |i::j::r=>by
  rw [show LI F (i::j::r)=(F i∧LI F (j::r)) from rfl,xS];simp
def F3 (A:Ar)(T:cK)(C:VC)(Y:VY)(tn:Nat)(ops:List Oper)(K:KS):Nat→List Nat→KS
 |0,_=>K
 |n+1,done=>fun e h nx=>match eJ ops done ops 0 with
  |[]=>K e h nx
  |i::r=>LI (fun j=>match eV ops j with|some o=>oP A T C Y tn ops o e h nx (F3 A T C Y tn ops K n (j::done))|none=>False) (i::r)
section
variable {P:Program}{T:cK}{C:VC}{Y:VY}{ops:Array Oper}
variable {B:Nat}{w0:World}{ιb:Nat→Loc}{nxb tn:Nat}{ds:List Deferred}{K:KS}
theorem aA1 (hT:cD P T)(hC:bL P C)(hY:eD P Y)(r:Option Nat){Q:Exit→Act→World→Prop}{i:Nat}{o:Oper}(ho:eV ops.toList i=some o){ι:Nat→Loc}{e:List (Nat × Value)}{h:Heap}{nx:Nat}{a:Act}{w:World}
  (hl:oP aF T C Y tn ops.toList o e h nx K) (I:Inv B w0 ιb nxb tn ds ι e h nx a w) {next:Act→World→Prop}
  (hQ:∀ ι e h nx a w,K e h nx→Inv B w0 ιb nxb tn ds ι e h nx a w→next a w):wpOpIn (Fr r) 0 P ops Q i next a w:=by
 have hoo:ops[i]? = some o:=(by rw [dV] at ho;simpa using ho);unfold wpOpIn;simp only [hoo];unfold oP at hl;obtain⟨env1,he1,hcase⟩:=sX I.env hl;rcases hcase with ⟨hw,hl⟩|⟨hw,hl⟩
 ·rw [if_pos hw];refine (RJ hT hC hY he1 I.heap hl).upon (BH hl) rfl r _ _ fun v h' nx' ι' w' k1 k2 k3 k4 k5 k6=>?_;obtain⟨env2,k7,k8,k9,k10⟩:=nB (he1.names k6 k5) I.size k1 k2;exact hQ ι' env2 h' nx' _ w' k7 (I.step k8 k3 k4 k5 k6 k9 k10)
 ·rw [hw];refine⟨fun _ _=>trivial,?_⟩;obtain⟨env2,k7,k8,k9,k10⟩:=nB he1 I.size hl (v:=undef) (cY rfl);rw [fZ (show gT undef=true from rfl)] at k8 k9 k10;exact hQ ι env2 h nx _ w k7 (I.step k8 I.heap (fW.refl _ _) (fun _ _=>rfl) (Nat.le_refl _) k9 k10)
theorem vD {listed:Array Bool}(hs:listed.size=ops.size){done:List Nat}(hd:∀ i,vF listed i↔i∈done){i:Nat}:i∈Region.ready .any ops listed↔i∈eJ ops.toList done ops.toList 0:=by
 rw [mC hs,RT];constructor
 ·rintro ⟨h1,h2,h3⟩;have ho:eV ops.toList i=some ops[i]:=(by rw [dV];simp [h1]);refine⟨i,ops[i],by omega,ho,fun h=>h2 ((hd i).2 h),fun x hx=>(hd x).1 (h3 x ?_)⟩;unfold cB;rw [ho];exact hx
 ·rintro ⟨j,o,h1,h2,h3,h4⟩;have hij:i=j:=(by omega);subst hij;have hlt:i<ops.size:=by
   rw [dV] at h2;have:=(List.getElem?_eq_some_iff.1 h2).1;simpa using this
  refine⟨hlt,fun h=>h3 ((hd i).1 h),fun x hx=>(hd x).2 (h4 x ?_)⟩;unfold cB at hx;rw [h2] at hx;exact hx
theorem aE4 (hT:cD P T)(hC:bL P C)(hY:eD P Y)(r:Option Nat){Q:Exit→Act→World→Prop}
  (hQ:∀ ι e h nx a w,K e h nx→Inv B w0 ιb nxb tn ds ι e h nx a w→Q .normal a w):∀ (n:Nat) (listed:Array Bool) (done:List Nat) (ι:Nat→Loc) (e:List (Nat × Value)) (h:Heap) (nx:Nat) (a:Act) (w:World),
  listed.size=ops.size→(∀ i,vF listed i↔i∈done)→left ops.size listed≤n→F3 aF T C Y tn ops.toList K n done e h nx→Inv B w0 ιb nxb tn ds ι e h nx a w→wpAnyIn (Fr r) 0 P .any ops Q n listed a w:=by
 intro n
 induction n with
 |zero =>
  intro listed done ι e h nx a w hs hd hl hv I;refine⟨?_,hQ ι e h nx a w hv I⟩;refine List.eq_nil_iff_forall_not_mem.2 fun i hi=>?_;obtain⟨h1,h2,_⟩:=(mC hs).1 hi;have:=xX h1 hs h2;omega
 |succ n ih =>
  intro listed done ι e h nx a w hs hd hl hv I;simp only [F3] at hv;split at hv
  ·rename_i hr;have hno:∀ i,i∉Region.ready .any ops listed:=fun i hi=>by
    have:=(vD hs hd).1 hi;rw [hr] at this;cases this
   exact⟨fun _=>hQ ι e h nx a w hv I,fun i hi=>absurd hi (hno i)⟩
  ·rename_i i0 r0 hr;rw [xS] at hv;refine⟨fun hn=>?_,fun i hi=>?_⟩
   ·exfalso;have:i0∈Region.ready .any ops listed:=(vD hs hd).2 (by rw [hr];exact .head _);rw [hn] at this;cases this
   ·obtain⟨h1,h2,_⟩:=(mC hs).1 hi;have hv':=hv i (by rw [← hr];exact (vD hs hd).1 hi);split at hv'
    case h_2=>exact hv'.elim
    rename_i o ho;refine aA1 hT hC hY r ho hv' I fun ι e h nx a w hk J=>?_;have hset:=vF.set (listed:=listed) (i:=i) (by omega);refine ih _ (i::done) ι e h nx a w (by simp [hs]) (fun j=>?_) (by have:=xX h1 hs h2;omega) hk J;rw [hset];unfold FW;rw [hd j,List.mem_cons]
theorem O4 (hT:cD P T)(hC:bL P C)(hY:eD P Y)(hm:P.follows .mixedOrders=true){ι:Nat→Loc}{env:List (Nat × Value)}{h:Heap}{nx:Nat}{a:Act}{w:World}(I:Inv B w0 ιb nxb tn ds ι env h nx a w)
  (hl:F3 aF T C Y tn ops.toList K ops.size [] env h nx) (r:Option Nat) {id:Nat} {Q:Exit→Act→World→Prop} (hQ:∀ ι env h nx a w,K env h nx→Inv B w0 ιb nxb tn ds ι env h nx a w→Q .normal a w) :
  (Code.region id ops true).wpIn (Fr r) 0 P Q a w:=by
 refine wpIn_region_any hm ?_;have H:=I.heap.drawn (w.drawn+1);have hb:fW B w { w with drawn:=w.drawn+1 }:=⟨rfl,rfl,rfl,Nat.le_refl _,fun _ _=>rfl,Nat.le_succ _⟩;have hno:∀ i,¬ vF (Array.replicate ops.size false) i:=by
  intro i;unfold vF;by_cases h:i<ops.size <;> simp [h]
 refine aE4 hT hC hY r hQ ops.size _ [] ι env h nx a _ (by simp) (fun i=>⟨fun h=>absurd h (hno i),fun h=>by cases h⟩) ?_ hl ⟨I.env,H,I.below.trans hb,I.old,I.le,I.size,I.defers⟩;unfold left;exact Nat.le_trans (List.length_filter_le _ _) (by simp)
end
end Go.Aw
end
