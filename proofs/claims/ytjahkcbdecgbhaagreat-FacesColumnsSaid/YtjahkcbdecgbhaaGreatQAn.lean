/-
  Parts of a proof. No condition.
-/
import Derived.Test.YtjahkcbdecgbhaaGreatQAm
set_option linter.unusedSimpArgs false
set_option linter.unusedVariables false
noncomputable section
namespace Go.Aw
open Go.RowKit
section
variable {A:Ar}{T:cN}{K:Value→Bool}{K':Value→Prop}
theorem bI {x:Option Value}(hK:∀ v,K v=true→K' v)(hl:qH x K=true):on x K':=by
 cases x with
 |none=>cases hl
 |some v=>exact hK v hl
theorem lV {b:Bool}{X Y:Unit→Bool}{X' Y':Unit→Prop}(h1:X ()=true→X' ())(h2:Y ()=true→Y' ())(hl:wbr b X Y=true):br b X' Y':=by
 cases b with
 |true=>exact h1 hl
 |false=>exact h2 hl
theorem bF {b X:Bool}{X':Prop}(h:X=true→X')(hl:eG b X=true):dK b X':=by
 cases b with
 |true=>exact h hl
 |false=>cases hl
theorem OY {h:Heap}{t:TypeId}{x:Value}(hK:∀ v,K v=true→K' v)(hl:TZ T h t x K=true):sW T h t x K':=by
 unfold TZ at hl;unfold sW
 repeat' (split at hl)
 all_goals first|(cases hl;done)|(simp_all;done)
theorem HB {t:TypeId}{x:Value}{f:Nat}(hK:∀ v,K v=true→K' v)(hl:wF T t x f K=true):iD T t x f K':=by
 unfold wF at hl;unfold iD
 repeat' (split at hl)
 all_goals first|(cases hl;done)|(simp_all;done)
theorem HP {t:TypeId}{x ix:Value}(hK:∀ v,K v=true→K' v)(hl:wE A T t x ix K=true):iM A T t x ix K':=by
 unfold wE at hl;unfold iM
 repeat' (split at hl)
 all_goals first|(cases hl;done)|(simp_all;exact bF (hK _) hl;done)
theorem O2 {t:TypeId}{cs:List Value}{o:Nat}(hK:∀ v,K v=true→K' v)(hl:SP T t cs o K=true):BR T t cs o K':=by
 unfold SP at hl;unfold BR
 repeat' (split at hl)
 all_goals first|(cases hl;done)|(simp_all;done)
theorem X9 {t:TypeId}{x:Value}{f:Nat}(hK:∀ v,K v=true→K' v)(hl:RK T t x f K=true):sQ T t x f K':=by
 unfold RK at hl;unfold sQ
 repeat' (split at hl)
 all_goals first|(cases hl;done)|(simp_all;exact O2 hK hl;done)
theorem XL {t:TypeId}{x ix:Value}(hK:∀ v,K v=true→K' v)(hl:PU A T t x ix K=true):sM A T t x ix K':=by
 unfold PU at hl;unfold sM
 repeat' (split at hl)
 all_goals first|(cases hl;done)|(simp_all;exact bF (O2 hK) hl;done)|(simp_all;done)
theorem aDG {op:BinOp}{k:IntKind}{a b:Int}(hK:∀ v,K v=true→K' v)(hl:aJz A op k a b K=true):W7 A op k a b K':=by
 cases op <;> first|(cases hl;done)|exact hK _ hl|exact bF (hK _) hl
theorem aCW {op:BinOp}{t:TypeId}{x y:Value}(hK:∀ v,K v=true→K' v)(hl:aHe A T op t x y K=true):R6 A T op t x y K':=by
 unfold aHe at hl;unfold R6
 repeat' (split at hl)
 all_goals first|(cases hl;done)|(simp_all;done)|(simp_all;exact aDG hK hl;done)|(simp_all;exact bF (hK _) hl;done)
theorem aD9 {op:BinOp}{h:Heap}{t:TypeId}{x:Value}(hK:∀ v,K v=true→K' v)(hl:aGv T h op t x K=true):SK T h op t x K':=by
 unfold aGv at hl;unfold SK
 repeat' (split at hl)
 all_goals first|(cases hl;done)|(simp_all;done)
theorem aGW {op:UnOp}{x:Value}(hK:∀ v,K v=true→K' v)(hl:wun A op x K=true):vun A op x K':=by
 unfold wun at hl;unfold vun
 repeat' (split at hl)
 all_goals first|(cases hl;done)|(simp_all;done)|(simp_all;exact bF (hK _) hl;done)
theorem JI {t:TypeId}{ps:List (Nat × Value)}(hK:∀ v,K v=true→K' v)(hl:Q1 T t ps K=true):wG T t ps K':=by
 unfold Q1 at hl;unfold wG;cases ht:look T t with
 |none=>simp only [ht] at hl;cases hl
 |some ti =>
  simp only [ht] at hl ⊢;cases hk:ti.kind <;> simp only [hk] at hl ⊢ <;> cases hp:kJ ps <;> (try simp only [hp] at hl ⊢)
  all_goals first
   |(simp at hl;done)
   |(split at hl <;> first|(cases hl;done)|(split at hl <;> first|(cases hl;done)|(simp only [*];first|done|exact hK _ hl)))
theorem BD {b:Builtin}{ts:Array TypeId}{vs:List Value}(hK:∀ v,K v=true→K' v)(hl:F6 A T b ts vs K=true):nS A T b ts vs K':=by
 unfold F6 at hl;unfold nS
 repeat' (split at hl)
 all_goals first|(cases hl;done)|(simp_all;done)|(simp_all;exact bI hK hl;done)
theorem nC {env:List (Nat × Value)}{h:Heap}{op:Op}(hK:∀ v,K v=true→K' v)(hl:vQ A T env h op K=true):jD A T env h op K':=by
 cases op with
 |move x=>exact bI hK hl
 |assign x=>exact bI hK hl
 |pick c a b =>
  refine bI (fun u hu=>?_) hl;split at hu
  ·first|exact lV (bI hK) (bI hK) hu|(simp only [*];exact lV (bI hK) (bI hK) hu)|(simp only [*];done)
  ·cases hu
 |nilCheck x =>
  first|refine bI (fun u hu=>?_) hl|(simp only [*];refine bI (fun u hu=>?_) hl)|(simp only [*];done)
  split at hu
  ·first|exact hK _ hu|(simp only [*];exact hK _ hu)|(simp only [*];done)
  ·first|exact hK _ hu|(simp only [*];exact hK _ hu)|(simp only [*];done)
  ·first|exact hK _ hu|(simp only [*];exact hK _ hu)|(simp only [*];done)
  ·cases hu
 |load t x=>exact bI (fun u=>OY hK) hl
 |fieldAddr s x f=>exact bI (fun u=>HB hK) hl
 |field s x f=>exact bI (fun u=>X9 hK) hl
 |indexAddr t x i=>exact bI (fun u=>bI fun j=>HP hK) hl
 |index t x i=>exact bI (fun u=>bI fun j=>XL hK) hl
 |binOp op t x y z =>
  refine bI (fun u=>bI fun v hl=>?_) hl;split at hl
  ·exact aD9 hK hl
  ·rename_i hne;split
   ·exact (hne _ _ rfl).elim
   ·exact aCW hK hl
 |unOp op t x=>exact bI (fun u=>aGW hK) hl
 |convert s d x =>
  first|refine bI (fun u hu=>?_) hl|(simp only [*];refine bI (fun u hu=>?_) hl)|(simp only [*];done)
  split at hu
  ·first|exact bF (hK _) hu|(simp only [*];exact bF (hK _) hu)|(simp only [*];done)
  ·cases hu
 |makeFunc fn first cap =>
  simp only [vQ] at hl;simp only [jD]
  repeat' (split at hl)
  all_goals first|(cases hl;done)|(simp_all;done)
 |extract x i =>
  first|refine bI (fun u hu=>?_) hl|(simp only [*];refine bI (fun u hu=>?_) hl)|(simp only [*];done)
  split at hu
  ·first|exact bI hK hu|(simp only [*];exact bI hK hu)|(simp only [*];done)
  ·cases hu
 |build t ps =>
  simp only [vQ] at hl;simp only [jD];split at hl
  ·first|exact JI hK hl|(simp only [*];exact JI hK hl)|(simp only [*];done)
  ·cases hl
 |call c =>
  simp only [vQ] at hl;simp only [jD];split at hl
  ·split at hl
   ·first|exact BD hK hl|(simp only [*];exact BD hK hl)|(simp only [*];done)
   ·cases hl
  ·cases hl
 |_=>cases hl
theorem DN {h:Heap}{t:TypeId}{x key:Value}{ok:Bool}(hK:∀ v,K v=true→K' v)(hl:C4 A T h t x key ok K=true):oI A T h t x key ok K':=by
 unfold C4 at hl;unfold oI
 repeat' (split at hl)
 all_goals first|(cases hl;done)|(simp_all;done)
end
section
variable {A:Ar}{T:cN}{K:tI}{K':KE}{h:Heap}{nx:Nat}
theorem WC {t:TypeId}{x v:Value}(hK:∀ v h nx,K v h nx=true→K' v h nx)(hl:SD T h nx t x v K=true):nU T h nx t x v K':=by
 unfold SD at hl;unfold nU;split at hl
 case h_2=>cases hl
 split at hl
 case h_2=>cases hl
 cases v <;> (split at hl <;> first|(cases hl;done)|(simp only [*];first|done|exact bF (hK _ _ _) hl)|(rename_i hq;cases hq))
theorem aDr {v:Value}(hK:∀ v h nx,K v h nx=true→K' v h nx)(hl:aHv h nx v K=true):QF h nx v K':=by
 unfold aHv at hl;unfold QF;split at hl
 ·cases hl
 ·first|exact hK _ _ _ hl|(simp only [*];exact hK _ _ _ hl)|(simp only [*];done)
theorem XT {t:TypeId}(hK:∀ v h nx,K v h nx=true→K' v h nx)(hl:PV T h nx t K=true):wQ T h nx t K':=by
 unfold PV at hl;unfold wQ;split at hl
 ·first|exact hK _ _ _ hl|(simp only [*];exact hK _ _ _ hl)|(simp only [*];done)
 ·cases hl
theorem rU {t:TypeId}{n:Nat}{ps:List (Nat × Value)}(hK:∀ v h nx,K v h nx=true→K' v h nx)(hl:sH T h nx t n ps K=true):eF T h nx t n ps K':=by
 unfold sH at hl;unfold eF;split at hl
 case h_2=>cases hl
 split at hl
 case h_2=>cases hl
 split at hl
 case h_2=>cases hl
 split at hl
 case h_2=>cases hl
 first|exact hK _ _ _ hl|(simp only [*];exact hK _ _ _ hl)|(simp only [*];done)
theorem aAl {n c:Nat}{hi:Option Value}{G:Nat→Bool}{G':Nat→Prop}(hG:∀ n,G n=true→G' n)(hl:whi A n c hi G=true):vhi A n c hi G':=by
 unfold whi at hl;unfold vhi;split at hl
 ·first|exact hG _ hl|(simp only [*];exact hG _ hl)|(simp only [*];done)
 ·first|exact bF (hG _) hl|(simp only [*];exact bF (hG _) hl)|(simp only [*];done)
 ·cases hl
theorem M0 {b X:Bool}{X':Unit→Prop}{Y':Unit→Prop}(h:X=true→X' ())(hl:eG b X=true):br b X' Y':=by
 cases b with
 |true=>exact h hl
 |false=>cases hl
theorem tR {t:TypeId}{x:Value}{lo hi mx:Option Value}(hK:∀ v h nx,K v h nx=true→K' v h nx)(hl:MA A T h nx t x lo hi mx K=true):sX A T h nx t x lo hi mx K':=by
 unfold MA at hl;unfold sX;split at hl
 case h_2=>cases hl
 split at hl
 case h_1=>cases hl
 split at hl
 ·split at hl
  ·first|exact hK _ _ _ hl|(simp only [*];exact hK _ _ _ hl)|(simp only [*];done)
  ·cases hl
 ·first|refine aAl (fun hN hl=>?_) hl|(simp only [*];refine aAl (fun hN hl=>?_) hl)|(simp only [*];done)
  split at hl
  ·first|exact hK _ _ _ hl|(simp only [*];exact hK _ _ _ hl)|(simp only [*];done)
  ·first|refine bF (fun hl=>?_) hl|(simp only [*];refine bF (fun hl=>?_) hl)|(simp only [*];done)
   split at hl
   ·first|exact M0 (hK _ _ _) hl|(simp only [*];exact M0 (hK _ _ _) hl)|(simp only [*];done)
   ·cases hl
  ·cases hl
 ·split at hl
  ·first|exact hK _ _ _ hl|(simp only [*];exact hK _ _ _ hl)|(simp only [*];done)
  ·cases hl
 ·split at hl
  ·first|exact bF (hK _ _ _) hl|(simp only [*];exact bF (hK _ _ _) hl)
  ·first|exact bF (hK _ _ _) hl|(simp only [*];exact bF (hK _ _ _) hl)
  ·cases hl
 ·cases hl
theorem UH {sz:Nat}{x:Value}{G:Nat→List Value→Bool}{G':Nat→List Value→Prop}(hG:∀ n l,G n l=true→G' n l)(hl:aG6 h sz x G=true):HM h sz x G':=by
 unfold aG6 at hl;unfold HM;split at hl
 ·first|exact hG _ _ hl|(simp only [*];exact hG _ _ hl)|(simp only [*];done)
 ·split at hl
  ·first|exact bF (hG _ _) hl|(simp only [*];exact bF (hG _ _) hl)|(simp only [*];done)
  ·split at hl
   ·first|exact hG _ _ hl|(simp only [*];exact hG _ _ hl)|(simp only [*];done)
   ·cases hl
  ·cases hl
 ·cases hl
theorem G4 {t:TypeId}{l c:Value}(hK:∀ v h nx,K v h nx=true→K' v h nx)(hl:vY A T h nx t l c K=true):jX A T h nx t l c K':=by
 unfold vY at hl;unfold jX;split at hl
 case h_2=>cases hl
 split at hl
 case h_2=>cases hl
 first|exact bF (hK _ _ _) hl|(simp only [*];exact bF (hK _ _ _) hl)
theorem EB {st xt:TypeId}{s x:Value}(hK:∀ v h nx,K v h nx=true→K' v h nx)(hl:K9 A T h nx st xt s x K=true):lH A T h nx st xt s x K':=by
 unfold K9 at hl;unfold lH;split at hl
 case h_3=>cases hl
 case h_1 =>
  split at hl
  case h_2=>cases hl
  split at hl
  case h_2=>cases hl
  first|exact bF (hK _ _ _) hl|(simp only [*];exact bF (hK _ _ _) hl)
 split at hl
 case h_1=>cases hl
 split at hl
 case h_1=>cases hl
 first|refine UH (fun m src hl=>?_) hl|(simp only [*];refine UH (fun m src hl=>?_) hl)|(simp only [*];done)
 split at hl
 ·first|exact lV (hK _ _ _) (bF (hK _ _ _)) hl|(simp only [*];exact lV (hK _ _ _) (bF (hK _ _ _)) hl)|(simp only [*];done)
 ·split at hl
  ·split at hl
   ·first|exact lV (hK _ _ _) (bF (hK _ _ _)) hl|(simp only [*];exact lV (hK _ _ _) (bF (hK _ _ _)) hl)|(simp only [*];done)
   ·cases hl
  ·first|exact lV (bF (hK _ _ _)) (bF (hK _ _ _)) hl|(simp only [*];exact lV (bF (hK _ _ _)) (bF (hK _ _ _)) hl)|(simp only [*];done)
  ·cases hl
 ·cases hl
theorem HC {t:TypeId}{x key v:Value}(hK:∀ v h nx,K v h nx=true→K' v h nx)(hl:wJ A T h nx t x key v K=true):jW A T h nx t x key v K':=by
 unfold wJ at hl;unfold jW;cases v <;> (split at hl <;> first|(cases hl;done)|(rename_i hq;cases hq;done)|(split at hl <;> first|(cases hl;done)|(split at hl <;> first|(cases hl;done)|(simp only [*];first|done|exact hK _ _ _ hl))))
theorem I4 {t:TypeId}{x:Value}(hK:∀ v h nx,K v h nx=true→K' v h nx)(hl:QG T h nx t x K=true):wP T h nx t x K':=by
 unfold QG at hl;unfold wP;split at hl
 ·first|exact hK _ _ _ hl|(simp only [*];exact hK _ _ _ hl)|(simp only [*];done)
 ·split at hl
  ·first|exact hK _ _ _ hl|(simp only [*];exact hK _ _ _ hl)|(simp only [*];done)
  ·split at hl
   ·first|exact bF (hK _ _ _) hl|(simp only [*];exact bF (hK _ _ _) hl)|(simp only [*];done)
   ·cases hl
 ·cases hl
def Tw (C:vP)(C':VC):Prop:=∀ f args h nx (K:tI) (K':KE),(∀ v h nx,K v h nx=true→K' v h nx)→C f args h nx K=true→C' f args h nx K'
variable {C Y:vP}{C' Y':VC}
theorem KT (hC:Tw C C')(hY:Tw Y Y'){env:List (Nat × Value)}{op:Op}(hK:∀ v h nx,K v h nx=true→K' v h nx)(hl:wop A T C Y env h nx op K=true):pK A T C' Y' env h nx op K':=by
 cases op with
 |store t x y=>exact bI (fun p=>bI fun v=>WC hK) hl
 |alloc t=>exact XT hK hl
 |box t x=>exact bI (fun p=>aDr hK) hl
 |buildSlice t n ps =>
  simp only [wop] at hl;simp only [pK];split at hl
  ·first|exact rU hK hl|(simp only [*];exact rU hK hl)|(simp only [*];done)
  ·cases hl
 |slice t x lo hi mx =>
  first|refine bI (fun v hl=>?_) hl|(simp only [*];refine bI (fun v hl=>?_) hl)|(simp only [*];done)
  split at hl
  ·first|exact tR hK hl|(simp only [*];exact tR hK hl)|(simp only [*];done)
  ·cases hl
 |makeSlice t l c=>exact bI (fun p=>bI fun v=>G4 hK) hl
 |makeMap t x =>
  cases x with
  |none=>exact hK _ _ _ hl
  |some x=>simp [wop,vQ] at hl
 |lookup t m k ok=>exact bI (fun x=>bI fun y=>DN fun v=>hK v h nx) hl
 |mapUpdate t m k u=>exact bI (fun x=>bI fun y=>bI fun v=>HC hK) hl
 |call c =>
  simp only [wop] at hl;simp only [pK];split at hl
  ·split at hl
   ·first|exact EB hK hl|(simp only [*];exact EB hK hl)|(simp only [*];done)
   ·cases hl
  ·split at hl
   ·first|exact I4 hK hl|(simp only [*];exact I4 hK hl)|(simp only [*];done)
   ·cases hl
  ·first|exact nC (K':=fun v=>K' v h nx) (fun v=>hK v h nx) hl|(simp only [*];exact nC (K':=fun v=>K' v h nx) (fun v=>hK v h nx) hl)|(simp only [*];done)
  ·first|refine bI (fun fv hl=>?_) hl|(simp only [*];refine bI (fun fv hl=>?_) hl)|(simp only [*];done)
   split at hl
   case h_2=>cases hl
   split at hl
   ·split at hl
    ·first|exact hC _ _ _ _ _ _ hK hl|(simp only [*];exact hC _ _ _ _ _ _ hK hl)|(simp only [*];done)
    ·cases hl
   ·split at hl
    ·first|exact hY _ _ _ _ _ _ hK hl|(simp only [*];exact hY _ _ _ _ _ _ hK hl)|(simp only [*];done)
    ·cases hl
   ·cases hl
  ·cases hl
 |_=>simp only [wop] at hl;exact nC (K':=fun v=>K' v h nx) (fun v=>hK v h nx) hl
theorem mZ {ops:List Oper}{env:List (Nat × Value)}{g:Option (Nat × Bool)}{F G:List (Nat × Value)→Bool}{F' G':List (Nat × Value)→Prop}(h1:∀ e,F e=true→F' e)(h2:∀ e,G e=true→G' e)(hl:zN A ops env g F G=true):fL A ops env g F' G':=by
 unfold zN at hl;unfold fL;split at hl
 ·first|exact h1 _ hl|(simp only [*];exact h1 _ hl)|(simp only [*];done)
 ·split at hl
  ·split at hl
   ·split at hl
    ·first|exact lV (h1 _) (h2 _) hl|(simp only [*];exact lV (h1 _) (h2 _) hl)|(simp only [*];done)
    ·first|exact h2 _ hl|(simp only [*];exact h2 _ hl)|(simp only [*];done)
    ·cases hl
   ·cases hl
  ·cases hl
theorem gW {tn:Nat}{env:List (Nat × Value)}{dst:Option Nat}{v:Value}{F:List (Nat × Value)→Bool}{F':List (Nat × Value)→Prop}(h1:∀ e,F e=true→F' e)(hl:D1 tn env dst v F=true):eL tn env dst v F':=by
 unfold D1 at hl;unfold eL;split at hl
 ·first|exact h1 _ hl|(simp only [*];exact h1 _ hl)|(simp only [*];done)
 ·split at hl
  ·first|exact h1 _ hl|(simp only [*];exact h1 _ hl)|(simp only [*];done)
  ·cases hl
theorem KQ (hC:Tw C C')(hY:Tw Y Y'){tn:Nat}{ops:List Oper}{F:pS}{F':KS}(hF:∀ e h nx,F e h nx=true→F' e h nx):∀ (l:List Oper) env h nx,aDg A T C Y tn ops l env h nx F=true→zK A T C' Y' tn ops l env h nx F'
 |[],_,_,_,hl=>hF _ _ _ hl
 |o::r,env,h,nx,hl=>mZ (fun e=>KT hC hY fun v h' nx'=>gW fun e'=>KQ hC hY hF r e' h' nx') (fun e=>gW fun e'=>KQ hC hY hF r e' h nx) hl
theorem JN (hC:Tw C C'){env:List (Nat × Value)}{op:Op}{K:Value→Bool}{K':Value→Nat→Prop}(hK:∀ v,K v=true→K' v nx)(hl:FX A T C h nx env op K=true):iO A T C' h nx env op K':=by
 cases op with
 |load t x=>simp only [FX] at hl;exact nC hK hl
 |lookup t m k ok=>exact bI (fun x=>bI fun y=>DN hK) hl
 |slice t x lo hi mx =>
  refine bI (fun v hl=>?_) hl;split at hl
  ·first|refine tR (fun v h' nx' hl=>?_) hl|(simp only [*];refine tR (fun v h' nx' hl=>?_) hl)|(simp only [*];done)
   split at hl
   ·rename_i hb;rw [beq_true hb];exact hK _ hl
   ·cases hl
  ·cases hl
 |call c =>
  simp only [FX] at hl;simp only [iO];split at hl
  ·first|exact nC hK hl|(simp only [*];exact nC hK hl)|(simp only [*];done)
  ·first|refine bI (fun fv hl=>?_) hl|(simp only [*];refine bI (fun fv hl=>?_) hl)|(simp only [*];done)
   split at hl
   case h_2=>cases hl
   split at hl
   ·split at hl
    ·first|refine hC _ _ _ _ _ _ (fun v h' nx' hl=>?_) hl|(simp only [*];refine hC _ _ _ _ _ _ (fun v h' nx' hl=>?_) hl)|(simp only [*];done)
     split at hl
     ·rename_i hb;simp only [hb];exact hK _ hl
     ·cases hl
    ·cases hl
   ·cases hl
  ·cases hl
 |_=>simp only [FX] at hl;exact nC hK hl
theorem tO (hC:Tw C C'){tn:Nat}{ops:List Oper}{F:List (Nat × Value)→Bool}{F':List (Nat × Value)→Nat→Prop}(hF:∀ e,F e=true→F' e nx):∀ (l:List Nat) env,NS A T C tn ops h nx l env F=true→oH A T C' tn ops h l env nx F'
 |[],_,hl=>hF _ hl
 |i::r,env,hl=>by
  simp only [NS] at hl;simp only [wK];split at hl
  ·cases hl
  ·first|exact mZ (fun e=>JN hC fun v=>gW fun e'=>tO hC hF r e') (fun e=>gW fun e'=>tO hC hF r e') hl|(simp only [*];exact mZ (fun e=>JN hC fun v=>gW fun e'=>tO hC hF r e') (fun e=>gW fun e'=>tO hC hF r e') hl)|(simp only [*];done)
theorem wO {tn:Nat}{ops:List Oper}{F:pS}{F':KS}(hF:∀ e h nx,F e h nx=true→F' e h nx):∀ (l:List Nat) env h nx,C7 T tn ops l env h nx F=true→lF T tn ops l env h nx F'
 |[],_,_,_,hl=>hF _ _ _ hl
 |i::r,env,h,nx,hl=>by
  simp only [C7] at hl;simp only [mI];split at hl
  ·split at hl
   ·first|exact gW (fun e'=>wO hF r e' _ _) hl|(simp only [*];exact gW (fun e'=>wO hF r e' _ _) hl)|(simp only [*];done)
   ·cases hl
  ·cases hl
theorem sK (hC:Tw C C')(hY:Tw Y Y'){tn:Nat}{ops:List Oper}{hJ:Heap}{F:pS}{F':KS}(hF:∀ e h nx,F e h nx=true→F' e h nx):∀ (l:List (Nat × Bool)) env h nx,NZ A T C Y tn ops hJ l env h nx F=true→j0 A T C' Y' tn ops hJ l env h nx F'
 |[],_,_,_,hl=>hF _ _ _ hl
 |(i,chk)::r,env,h,nx,hl=>by
  simp only [NZ] at hl;simp only [wC];split at hl
  ·cases hl
  ·first|exact mZ (fun e=>bF (KT hC hY fun v h' nx'=>gW fun e'=>sK hC hY hF r e' h' nx')) (fun e=>gW fun e'=>sK hC hY hF r e' h nx) hl|(simp only [*];exact mZ (fun e=>bF (KT hC hY fun v h' nx'=>gW fun e'=>sK hC hY hF r e' h' nx')) (fun e=>gW fun e'=>sK hC hY hF r e' h nx) hl)|(simp only [*];done)
theorem EY (hC:Tw C C')(hY:Tw Y Y'){tn:Nat}{ops:List Oper}{p:fE}{env:List (Nat × Value)}{F:pS}{F':KS}(hF:∀ e h nx,F e h nx=true→F' e h nx)(hl:S9 A T C Y tn ops p env h nx F=true):oF A T C' Y' tn ops p env h nx F' :=
 tO hC (fun e=>wO (fun e h nx=>sK hC hY hF p.tail e h nx) p.allocs e h nx) p.head env hl
theorem OJ (hC:Tw C C')(hY:Tw Y Y'){tn:Nat}{ops:List Oper}{o:Oper}{e:List (Nat × Value)}{h:Heap}{nx:Nat}{F:pS}{F':KS}(hF:∀ e h nx,F e h nx=true→F' e h nx)(hl:aAA A T C Y tn ops o e h nx F=true):pX A T C' Y' tn ops o e h nx F' :=
 mZ (fun e=>KT hC hY fun v h' nx'=>gW fun e'=>hF e' h' nx') (fun e=>gW fun e'=>hF e' h nx) hl
theorem aE2 {F:Nat→Bool}{F':Nat→Prop}(hF:∀ i,F i=true→F' i){l:List Nat}(hl:wall F l=true):LL F' l:=by
 rw [xG]
 induction l with
 |nil=>intro i hi;cases hi
 |cons x r ih =>
  simp only [wall,Bool.and_eq_true] at hl;intro i hi;cases hi with
  |head=>exact hF _ hl.1
  |tail _ hm=>exact ih hl.2 i hm
theorem VS (hC:Tw C C')(hY:Tw Y Y'){tn:Nat}{ops:List Oper}{F:pS}{F':KS}(hF:∀ e h nx,F e h nx=true→F' e h nx):∀ n done e h nx,aDT A T C Y tn ops F n done e h nx=true→GQ A T C' Y' tn ops F' n done e h nx
 |0,_,e,h,nx,hl=>hF _ _ _ hl
 |n+1,done,e,h,nx,hl=>by
  simp only [aDT] at hl;simp only [GQ];cases hr:eP ops done ops 0 with
  |nil =>
   rw [hr] at hl;exact hF _ _ _ hl
  |cons i0 r0 =>
   rw [hr] at hl;refine aE2 (fun i hi=>?_) hl;split at hi
   ·rename_i o ho;rw [ho];exact OJ hC hY (fun e h nx=>VS hC hY hF n _ e h nx) hi
   ·cases hi
theorem IV (hC:Tw C C')(hY:Tw Y Y'){tn:Nat}{ops:List Oper}{F:pS}{F':KS}(hF:∀ e h nx,F e h nx=true→F' e h nx):∀ n done e h nx,JT A T C Y tn ops F n done e h nx=true→AE A T C' Y' tn ops F' n done e h nx
 |0,_,e,h,nx,hl=>hF _ _ _ hl
 |n+1,done,e,h,nx,hl=>by
  simp only [JT] at hl;simp only [AE];cases hr:eP ops done ops 0 with
  |nil =>
   rw [hr] at hl;exact hF _ _ _ hl
  |cons i0 r0 =>
   rw [hr] at hl;simp only at hl ⊢;cases ho:fC ops i0 with
   |some o =>
    rw [ho] at hl;exact OJ hC hY (fun e h nx=>IV hC hY hF n _ e h nx) hl
   |none=>rw [ho] at hl;cases hl
theorem NL (hC:Tw C C')(hY:Tw Y Y'){tn:Nat}{ops:Array Oper}{m:Nat}{e:List (Nat × Value)}{h:Heap}{nx:Nat}{F:pS}{F':KS}(hF:∀ e h nx,F e h nx=true→F' e h nx)(hl:aC6 A T C Y tn ops e h nx F=true):MN A T C' Y' tn (.fuel m) ops e h nx F':=by
 unfold aC6 at hl;unfold MN;refine IV hC hY (fun e0 h0 n0 hq=>?_) _ _ _ _ _ hl;rw [A2,A2,Bool.and_eq_true] at hq;refine⟨_,_,n0,VS hC hY (fun e1 h1 n1 hr=>?_) _ _ _ _ _ hq.1,hF _ _ _ hq.2⟩;exact⟨_,_,_,_,⟨rfl,rfl,rfl⟩,TO hr⟩
def TwR (R:VRB)(R':VR):Prop:=∀ g ps as bd (kn:pS) (kx:Nat→pS) (kr:pS) (kn':KS) (kx':Nat→KS) (kr':KS) e h nx,(∀ e h nx,kn e h nx=true→kn' e h nx)→(∀ i e h nx,kx i e h nx=true→kx' i e h nx)→(∀ e h nx,kr e h nx=true→kr' e h nx)→R g ps as bd kn kx kr e h nx=true→R' g ps as bd kn' kx' kr' e h nx
theorem EE {F:pS→pS}{F':KS→KS}(hF:∀ (k:pS) (k':KS) e h nx,(∀ e h nx,k e h nx=true→k' e h nx)→F k e h nx=true→F' k' e h nx):∀ n e h nx,aBR F n e h nx=true→EL F' n e h nx
 |0,_,_,_,hl=>by cases hl
 |n+1,e,h,nx,hl=>hF _ _ e h nx (fun e h nx=>EE hF n e h nx) hl
theorem pL (hC:Tw C C')(hY:Tw Y Y'){tn:Nat}{PL:Nat→Option fE}{n:Nat}{R:VRB}{R':VR}(hR:TwR R R'):∀ (c:Code) (kn:pS) (kx:Nat→pS) (kr:pS) (kn':KS) (kx':Nat→KS) (kr':KS) e h nx,(∀ e h nx,kn e h nx=true→kn' e h nx)→(∀ i e h nx,kx i e h nx=true→kx' i e h nx)→(∀ e h nx,kr e h nx=true→kr' e h nx) →
  pT A T C Y tn PL n R c kn kx kr e h nx=true→gU A T C' Y' tn PL (.fuel n) R' c kn' kx' kr' e h nx:=by
 intro c
 induction c with
 |skip=>exact fun kn kx kr kn' kx' kr' e h nx h1 _ _ hl=>h1 _ _ _ hl
 |region id ops draw =>
  intro kn kx kr kn' kx' kr' e h nx h1 _ _ hl;simp only [pT] at hl;simp only [gD,jY];cases draw with
  |false=>exact KQ hC hY h1 _ _ _ _ hl
  |true =>
   simp only at hl ⊢;split at hl
   ·first|exact EY hC hY h1 hl|(simp only [*];exact EY hC hY h1 hl)|(simp only [*];done)
   ·first|exact NL hC hY h1 hl|(simp only [*];exact NL hC hY h1 hl)
 |seq a b iha ihb=>exact fun kn kx kr kn' kx' kr' e h nx h1 h2 h3 hl=>iha _ kx kr _ kx' kr' e h nx (fun e h nx=>ihb kn kx kr kn' kx' kr' e h nx h1 h2 h3) h2 h3 hl
 |cond c t f iht ihf =>
  intro kn kx kr kn' kx' kr' e h nx h1 h2 h3 hl;simp only [pT] at hl;simp only [gD,jY];split at hl
  ·first|exact lV (iht kn kx kr kn' kx' kr' e h nx h1 h2 h3) (ihf kn kx kr kn' kx' kr' e h nx h1 h2 h3) hl|(simp only [*];exact lV (iht kn kx kr kn' kx' kr' e h nx h1 h2 h3) (ihf kn kx kr kn' kx' kr' e h nx h1 h2 h3) hl)|(simp only [*];done)
  ·cases hl
 |block id b ih =>
  intro kn kx kr kn' kx' kr' e h nx h1 h2 h3 hl
  first|refine ih kn _ kr kn' _ kr' e h nx h1 (fun j e h nx hk=>?_) h3 hl|(simp only [*];refine ih kn _ kr kn' _ kr' e h nx h1 (fun j e h nx hk=>?_) h3 hl)|(simp only [*];done)
  cases hb:Nat.beq j id with
  |true=>simp only [hb] at hk ⊢;exact h1 _ _ _ hk
  |false=>simp only [hb] at hk ⊢;exact h2 _ _ _ _ hk
 |loop b ih =>
  intro kn kx kr kn' kx' kr' e h nx h1 h2 h3 hl
  first|exact EE (fun k k' e h nx hk=>ih k kx kr k' kx' kr' e h nx hk h2 h3) n e h nx hl|(simp only [*];exact EE (fun k k' e h nx hk=>ih k kx kr k' kx' kr' e h nx hk h2 h3) n e h nx hl)|(simp only [*];done)
 |rangeFunc g ps as bd _ _=>exact fun kn kx kr kn' kx' kr' e h nx h1 h2 h3 hl=>hR g ps as bd kn kx kr kn' kx' kr' e h nx h1 h2 h3 hl
 |exit id=>exact fun kn kx kr kn' kx' kr' e h nx _ h2 _ hl=>h2 _ _ _ _ hl
 |ret=>exact fun kn kx kr kn' kx' kr' e h nx _ _ h3 hl=>h3 _ _ _ hl
 |label l=>exact fun kn kx kr kn' kx' kr' e h nx h1 _ _ hl=>h1 _ _ _ hl
 |scope b ih=>exact fun kn kx kr kn' kx' kr' e h nx h1 h2 h3 hl=>ih kn kx kr kn' kx' kr' e h nx h1 h2 h3 hl
 |goto l=>exact fun _ _ _ _ _ _ _ _ _ _ _ _ hl=>by cases hl
 |refuse s=>exact fun _ _ _ _ _ _ _ _ _ _ _ _ hl=>by cases hl
theorem tQ {e:List (Nat × Value)}:∀ (l:List ResultVar) {F:List Value→Bool} {F':List Value→Prop},(∀ l,F l=true→F' l)→zF T e h l F=true→fM T e h l F'
 |[],F,F',hF,hl=>hF _ hl
 |.tmp t::r,F,F',hF,hl=>bI (fun v=>tQ r fun l=>hF _) hl
 |.cell a t::r,F,F',hF,hl=>bI (fun p=>OY fun v=>tQ r fun l=>hF _) hl
theorem DA {fn:Func}(hK:∀ v h nx,K v h nx=true→K' v h nx)(e:List (Nat × Value))(h:Heap)(nx:Nat)(hl:aJb T fn K e h nx=true):CG T fn K' e h nx:=by
 refine tQ _ (fun l hl=>?_) hl;split at hl
 ·first|exact hK _ _ _ hl|(simp only [*];exact hK _ _ _ hl)|(simp only [*];done)
 ·split at hl
  ·rename_i hn;simp only [hn];exact hK _ _ _ hl
  ·cases hl
theorem IW (hC:Tw C C'){f tn:Nat}:TwR (Z2 C f tn) (sU C' f tn):=by
 intro g ps as bd kn kx kr kn' kx' kr' e h nx h1 h2 h3 hl;refine bI (fun gv hl=>?_) hl;split at hl
 case h_2=>cases hl
 split at hl
 case h_2=>cases hl
 first|refine hC _ _ _ _ _ _ (fun v h' nx' hl=>?_) hl|(simp only [*];refine hC _ _ _ _ _ _ (fun v h' nx' hl=>?_) hl)|(simp only [*];done)
 split at hl
 case h_2=>cases hl
 rename_i l hl1 hl2;split at hl
 ·cases hl
 ·first|exact h1 _ _ _ hl|(simp only [*];exact h1 _ _ _ hl)|(simp only [*];done)
 ·first|exact h2 _ _ _ _ hl|(simp only [*];exact h2 _ _ _ _ hl)|(simp only [*];done)
 ·first|exact h3 _ _ _ hl|(simp only [*];exact h3 _ _ _ hl)|(simp only [*];done)
 ·cases hl
theorem uF {q:Nat}(hK:∀ v h nx,K v h nx=true→K' v h nx){j:Option Code}(e:List (Nat × Value))(h:Heap)(nx:Nat)(hl:aAu q K j e h nx=true):wU q K' j e h nx:=by
 unfold aAu at hl;unfold wU;split at hl
 ·first|exact hK _ _ _ hl|(simp only [*];exact hK _ _ _ hl)|(simp only [*];done)
 ·cases hl
theorem X8 (hC:Tw C C')(hY:Tw Y Y'){PL:Nat→Nat→Option fE}{n:Nat}:Tw (QV A T C Y PL n) (qM A T C' Y' PL (.fuel n)):=by
 intro q args h nx K K' hK hl;unfold QV at hl;unfold qM;split at hl
 case h_2=>cases hl
 split at hl
 case h_2=>cases hl
 first|refine pL hC hY (fun _ _ _ _ _ _ _ _ _ _ _ _ _ _ _ _ hl=>by cases hl) _ _ _ _ _ _ _ _ _ _ (fun e1 h1 nx1 hl=>?_) (fun _ _ _ _ hl=>by cases hl) (fun _ _ _ hl=>by cases hl) hl|(simp only [*];refine pL hC hY (fun _ _ _ _ _ _ _ _ _ _ _ _ _ _ _ _ hl=>by cases hl) _ _ _ _ _ _ _ _ _ _ (fun e1 h1 nx1 hl=>?_) (fun _ _ _ _ hl=>by cases hl) (fun _ _ _ hl=>by cases hl) hl)|(simp only [*];done)
 split at hl
 case h_2=>cases hl
 split at hl
 case h_2=>cases hl
 first|exact pL hC hY (fun _ _ _ _ _ _ _ _ _ _ _ _ _ _ _ _ hl=>by cases hl) _ _ _ _ _ _ _ _ _ _ (uF hK) (fun i=>uF hK) (uF hK) hl|(simp only [*];exact pL hC hY (fun _ _ _ _ _ _ _ _ _ _ _ _ _ _ _ _ hl=>by cases hl) _ _ _ _ _ _ _ _ _ _ (uF hK) (fun i=>uF hK) (uF hK) hl)|(simp only [*];done)
def TwX (c:CM)(XB:Nat→Option (List Value→Heap→Nat→tI→Bool)):Prop:=∀ f x xb,c.X f=some x→XB f=some xb→∀ args h nx (K:tI) (K':KE),(∀ v h nx,K v h nx=true→K' v h nx)→xb args h nx K=true→x args h nx K'
theorem aBK {c:CM}{XB:Nat→Option (List Value→Heap→Nat→tI→Bool)}(hX:TwX c XB){n:Nat}(hC:Tw C C')(hY:Tw Y Y'):Tw (aBt c XB n C Y) (sN c (some n) C' Y'):=by
 intro f args h nx K K' hK hl;unfold aBt at hl;unfold sN;split at hl
 ·rename_i x hx;split at hl
  ·rename_i xb hxb
   first|exact hX f x xb hx hxb _ _ _ _ _ hK hl|(simp only [hx];exact hX f x xb hx hxb _ _ _ _ _ hK hl)
  ·cases hl
 rename_i hx
 first|skip|(simp only [hx])
 split at hl
 ·cases hl
 split at hl
 case h_2=>cases hl
 first|exact pL hC hY (IW hC) _ _ _ _ _ _ _ _ _ _ (DA fun v h nx=>hK v _ nx) (fun _ _ _ _ hl=>by cases hl) (DA fun v h nx=>hK v _ nx) hl|(simp only [*];exact pL hC hY (IW hC) _ _ _ _ _ _ _ _ _ _ (DA fun v h nx=>hK v _ nx) (fun _ _ _ _ hl=>by cases hl) (DA fun v h nx=>hK v _ nx) hl)
theorem aD0 {PR:Nat→Bool}(hC:Tw C C'):Tw (aGY PR C) (frC PR C'):=by
 intro f args h nx K K' hK hl;unfold aGY at hl;unfold frC;cases hp:PR f with
 |false=>simp only [hp] at hl ⊢;exact hC _ _ _ _ _ _ hK hl
 |true =>
  simp only [hp] at hl ⊢;refine hC _ _ _ _ _ _ (fun v h' nx' hq=>?_) hl;unfold aIo at hq;unfold frK;split at hq
  ·rename_i hg;rw [hg];exact hK _ _ _ hq
  ·rename_i hg;rw [hg];exact hK _ _ _ hq
theorem pZ {c:CM}{XB:Nat→Option (List Value→Heap→Nat→tI→Bool)}(hX:TwX c XB):∀ (d:Nat) (b:Bool),Tw (A9 c XB d b) (tL c d b)
 |0,_=>fun _ _ _ _ _ _ _ hl=>by simp [A9] at hl
 |d+1,false=>aD0 (aBK hX (pZ hX d false) (pZ hX d true))
 |d+1,true=>X8 (pZ hX d false) (pZ hX d true)
end
def TR (n:Nat):aV→aV
 |.cells wr g sz cs=>.cells wr g sz (cs.map (bS (fun k=>n+k)))
 |o=>o
def mU (n:Nat):Heap→Heap
 |[]=>[]
 |(k,o)::r=>(n+k,TR n o)::mU n r
theorem lK {n:Nat}(h:Heap){k:Nat}{o:aV}(hl:look (mU n h) k=some o):∃ j o',k=n+j∧look h j=some o'∧o=TR n o':=by
 induction h with
 |nil=>cases hl
 |cons x r ih =>
  obtain⟨j,q⟩:=x;simp only [mU,aD] at hl;split at hl
  ·rename_i hb;injection hl with hl;exact⟨j,q,(beq_true hb).symm,by rw [aD,show Nat.beq j j=true from Nat.beq_refl j],hl.symm⟩
  ·rename_i hb;obtain⟨j',o',h1,h2,h3⟩:=ih hl;refine⟨j',o',h1,?_,h3⟩;have:Nat.beq j j'=false:=by
    cases hb':Nat.beq j j' with
    |false=>rfl
    |true =>
     have:=beq_true hb';subst this;rw [h1,Nat.beq_refl] at hb;cases hb
   rw [aD,this];exact h2
def T3:aV→Bool
 |.cells true _ _ _=>true
 |_=>false
def sL:Heap→Bool
 |[]=>true
 |(_,o)::r=>T3 o&&sL r
theorem WD {h:Heap}(hh:sL h=true){k:Nat}{o:aV}(hl:look h k=some o):∃ g sz cs,o=.cells true g sz cs:=by
 induction h with
 |nil=>cases hl
 |cons x r ih =>
  obtain⟨j,q⟩:=x;simp only [sL,Bool.and_eq_true] at hh;rw [aD] at hl;split at hl
  ·injection hl with hl;subst hl;cases q with
   |cells wr g sz cs =>
    cases wr with
    |true=>exact⟨g,sz,cs,rfl⟩
    |false=>simp [T3] at hh
   |_=>simp [T3] at hh
  ·exact ih hh.2 hl
def KZ:aV→Bool
 |.cells _ _ _ _=>true
 |_=>false
def gM:Heap→Bool
 |[]=>true
 |(_,o)::r=>KZ o&&gM r
theorem oQ {h:Heap}(hh:gM h=true){k:Nat}{o:aV}(hl:look h k=some o):∃ wr g sz cs,o=.cells wr g sz cs:=by
 induction h with
 |nil=>cases hl
 |cons x r ih =>
  obtain⟨j,q⟩:=x;simp only [gM,Bool.and_eq_true] at hh;rw [aD] at hl;split at hl
  ·injection hl with hl;subst hl;cases q with
   |cells wr g sz cs=>exact⟨wr,g,sz,cs,rfl⟩
   |_=>simp [KZ] at hh
  ·exact ih hh.2 hl
theorem J0 (o:aV):o.closed.alone=false:=by cases o <;> rfl
section
variable {ι:Nat→Loc}{σ:Nat→Nat}{n m:Nat}
theorem xL {v:Value}(h:oB (fun k=>ι (σ k)) m v)(hs:∀ k,k<m→σ k<n):oB ι n (dU (j8 σ) v):=by
 cases v with
 |pointer a=>cases a with
  |none=>trivial
  |some a=>exact⟨hs _ h.1,h.2⟩
 |slice a l c=>cases a with
  |none=>trivial
  |some a=>exact⟨hs _ h.1,fun hf=>h.2 hf⟩
 |map a=>cases a with
  |none=>trivial
  |some a=>exact⟨hs _ h.1,h.2⟩
 |agg c=>exact h.elim
 |tuple c=>exact h.elim
 |_=>trivial
theorem jT {v:Value}(h:gY (fun k=>ι (σ k)) m v)(hs:∀ k,k<m→σ k<n):gY ι n (bT (j8 σ) v):=by
 cases v with
 |func f a c =>
  refine⟨?_,fun x hx=>?_⟩
  ·have h1:=h.1;cases f with
   |yield l=>exact⟨hs _ h1.1,h1.2⟩
   |_=>trivial
  ·simp only [Array.toList_map,List.mem_map] at hx;obtain⟨y,hy,rfl⟩:=hx;exact xL (h.2 y hy) hs
 |pointer a=>have:=xL (ι:=ι) (σ:=σ) (n:=n) (m:=m) (v:=.pointer a);cases a <;> exact this h hs
 |slice a l c=>have:=xL (ι:=ι) (σ:=σ) (n:=n) (m:=m) (v:=.slice a l c);cases a <;> exact this h hs
 |map a=>have:=xL (ι:=ι) (σ:=σ) (n:=n) (m:=m) (v:=.map a);cases a <;> exact this h hs
 |agg c=>exact h.elim
 |tuple c=>exact h.elim
 |_=>trivial
theorem pM {v:Value}(h:kL (fun k=>ι (σ k)) m v)(hs:∀ k,k<m→σ k<n):kL ι n (dT (j8 σ) v):=by
 cases v with
 |agg cs =>
  intro x hx;simp only [Array.toList_map,List.mem_map] at hx;obtain⟨y,hy,rfl⟩:=hx;exact jT (h y hy) hs
 |pointer a=>have:=jT (ι:=ι) (σ:=σ) (n:=n) (m:=m) (v:=.pointer a);cases a <;> exact this h hs
 |slice a l c=>have:=jT (ι:=ι) (σ:=σ) (n:=n) (m:=m) (v:=.slice a l c);cases a <;> exact this h hs
 |map a=>have:=jT (ι:=ι) (σ:=σ) (n:=n) (m:=m) (v:=.map a);cases a <;> exact this h hs
 |func f a c=>exact jT (ι:=ι) (σ:=σ) (n:=n) (m:=m) (v:=.func f a c) h hs
 |tuple c=>exact h.elim
 |_=>trivial
theorem aAF {v:Value}(h:eT (fun k=>ι (σ k)) m v)(hs:∀ k,k<m→σ k<n):eT ι n (gP σ v):=by
 unfold gP;cases v with
 |tuple cs =>
  intro x hx;simp only [Array.toList_map,List.mem_map] at hx;obtain⟨y,hy,rfl⟩:=hx;exact pM (h y hy) hs
 |pointer a=>have:=pM (ι:=ι) (σ:=σ) (n:=n) (m:=m) (v:=.pointer a);cases a <;> exact this h hs
 |slice a l c=>have:=pM (ι:=ι) (σ:=σ) (n:=n) (m:=m) (v:=.slice a l c);cases a <;> exact this h hs
 |map a=>have:=pM (ι:=ι) (σ:=σ) (n:=n) (m:=m) (v:=.map a);cases a <;> exact this h hs
 |func f a c=>exact pM (ι:=ι) (σ:=σ) (n:=n) (m:=m) (v:=.func f a c) h hs
 |agg c=>exact pM (ι:=ι) (σ:=σ) (n:=n) (m:=m) (v:=.agg c) h hs
 |_=>trivial
theorem aEX {v:Value}(h:gS v=true):gS (bT (j8 σ) v)=true:=by rw [lT h];exact h
end
theorem N6 {B nx n0 m:Nat}{w w':World}{ι ι0:Nat→Loc}{h h1:Heap}{v1:Value}{K Q:KE}{u:Value}(H:aR ι B h nx w)
  (hQ:∀ v h' nx',Q v h' nx'→∃ ρ,oM 0 ρ [(0,v1)] h1 m [(0,v)] h' nx') (how:gM h1=true) (hal:sL h1=true∨∀ k o,look h k=some o→o.alone=false) (hK:K (gP (fun k=>nx+k) v1) (app (mU nx h1) h) (nx+m))
  (hr:Ret w.heap.size w ι0 n0 Q (.returned u) w'):Ret B w ι nx K (.returned u) w':=by
 obtain⟨v,h',nx',ι',q1,q2,q3,q4,q5,q6,q7⟩:=hr;obtain⟨ρ,r⟩:=hQ v h' nx' q1;have hv:v=gP ρ v1∧xD m v1:=by
  obtain⟨e1,e2⟩:=r.env 0 v1 rfl;injection e1 with e1;exact⟨e1,e2⟩
 obtain⟨rfl,hnm⟩:=hv;obtain⟨ιN,hloc,hold⟩:∃ ιN:Nat→Loc,(∀ j,ιN (nx+j)=ι' (ρ j))∧∀ k,k<nx→ιN k=ι k :=
  ⟨fun k=>if k<nx then ι k else ι' (ρ (k - nx)),fun j=>by
   have:¬ (nx+j<nx):=(by omega);simp only [if_neg this,Nat.add_sub_cancel_left],fun k hk=>if_pos hk⟩
 have hι:(fun k=>ιN (nx+k))=fun k=>ι' (ρ k):=funext hloc;have hsm:eT (fun k=>ι' (ρ k)) m v1:=DF q2 hnm;have R1:=r.aHd q3;have H':aR ι B h nx w':=H.ext q4;have hscn:eT ιN (nx+m) (gP (fun k=>nx+k) v1):=by
  refine aAF (m:=m) ?_ (fun k hk=>by omega);rw [hι];exact hsm
 have hcase:∀ k o,look (app (mU nx h1) h) k=some o→(look h k=some o∧k<nx)∨(∃ j wr g sz cs,k=nx+j∧look h1 j=some (.cells wr g sz cs)∧o=.cells wr g sz (cs.map (bS (fun k=>nx+k)))):=by
  intro k o hk;rw [gF] at hk;split at hk
  ·rename_i o' ho;injection hk with hk;subst hk;obtain⟨j,o',e1,e2,e3⟩:=lK h1 ho;obtain⟨wr,g,sz,cs,rfl⟩:=oQ how e2;exact .inr ⟨j,wr,g,sz,cs,e1,e2,e3⟩
  ·exact .inl ⟨hk,H.low k _ hk⟩
 refine⟨gP (fun k=>nx+k) v1,_,_,ιN,hK,hscn,⟨?_,?_,?_,H'.size,?_⟩,q4.mono H.size,hold,by omega,?_⟩
 ·intro k o hk;rcases hcase k o hk with ⟨h2,h3⟩|⟨j,wr,g,sz,cs,rfl,h2,rfl⟩
  ·rw [hold k h3];exact (H'.obj k o h2).names (H'.sc k o h2) hold
  ·rw [hloc];have ho:=R1.obj j _ h2;have hsc:=R1.sc j _ h2;cases hl:ι' (ρ j) with
   |nil p =>
    rw [hl] at ho;have hcz:cs=[]∧(sz=0∨wr=true→p.isSome=true):=(by cases wr <;> exact ho);obtain⟨hc0,hz⟩:=hcz;subst hc0;cases wr <;> exact⟨rfl,hz⟩
   |lay b off e =>
    rw [hl] at ho;have hcell:∀ {Φ:Nat→Value→Prop},(∀ (i:Nat) y,cs[i]? = some y→Φ i (bT (fun k=>ι' (ρ k)) y))→∀ (i:Nat) v,(cs.map (bS (fun k=>nx+k)))[i]? = some v→Φ i (bT ιN v):=by
     intro Φ hΦ i v hv;rw [List.getElem?_map] at hv;cases hy:cs[i]? with
     |none=>rw [hy] at hv;cases hv
     |some y =>
      rw [hy] at hv;injection hv with hv;subst hv;have hsy:=hsc y (List.mem_of_getElem? hy);have hin:gY ιN (nx+m) (bT (j8 (fun k=>nx+k)) y):=by
       refine jT (m:=m) ?_ (fun k hk=>by omega);rw [hι];exact hsy
      have:=hΦ i y hy;rw [← hι,← iU hin] at this;exact this
    have hgg:∀ {b:Bool},(b=true→dF cs=true)→b=true→dF (cs.map (bS (fun k=>nx+k)))=true:=fun h hg=>tW fun v hv=>by
     obtain⟨y,hy,rfl⟩:=List.mem_map.1 hv;exact aEX (a9 (h hg) hy)
    cases wr with
    |true =>
     obtain⟨a1,a2,arr,t,a3,a4,a5⟩:=ho;exact⟨Nat.le_trans H.size a1,hgg a2,arr,t,a3,by simpa using a4,hcell (Φ:=fun i v=>arr[off+i]? = some v) a5⟩
    |false =>
     obtain⟨a1,a2,a5⟩:=ho;exact⟨a1,hgg a2,hcell (Φ:=fun i v=>w'.cell? ⟨b,off+i,none⟩=some v) a5⟩
 ·intro k k' o o' hk hk' hne ha b hb;rcases hcase k o hk with ⟨h2,h3⟩|⟨j,wr,g,sz,cs,rfl,h2,rfl⟩
  ·rw [hold k h3] at hb;rcases hcase k' o' hk' with ⟨h4,h5⟩|⟨j',wr',g',sz',cs',rfl,h4,rfl⟩
   ·rw [hold k' h5];exact H'.sep k k' o o' h2 h4 hne ha b hb
   ·rw [hloc];intro hb';have hlt:=(H.obj k o h2).lt hb;rcases hal with how2|hal
    ·obtain⟨g2,sz2,cs2,e2⟩:=WD how2 h4;have ho:=R1.obj j' _ h4;cases hl:ι' (ρ j') with
     |nil p=>rw [hl] at hb';cases hb'
     |lay b2 off e =>
      rw [hl] at hb';rw [hl,e2] at ho;have:b2=b:=(by simpa [Loc.CV] using hb');have:=ho.1;omega
    ·rw [hal k o h2] at ha;cases ha
  ·rw [hloc] at hb;rcases hcase k' o' hk' with ⟨h4,h5⟩|⟨j',wr',g',sz',cs',rfl,h4,rfl⟩
   ·rw [hold k' h5];intro hb';have hlt:=(H.obj k' o' h4).lt hb';have ho:=R1.obj j _ h2;cases hl:ι' (ρ j) with
    |nil p=>rw [hl] at hb;cases hb
    |lay b2 off e =>
     rw [hl] at ho hb;have:b2=b:=(by simpa [Loc.CV] using hb);have hwr:wr=true:=ha;subst hwr;have:=ho.1;omega
   ·rw [hloc];exact R1.sep j j' _ _ h2 h4 (fun e=>hne (by rw [e])) ha b hb
 ·intro k o hk;rcases hcase k o hk with ⟨h2,h3⟩|⟨j,wr,g,sz,cs,rfl,h2,rfl⟩
  ·omega
  ·have:=R1.low j _ h2;omega
 ·intro k o hk;rcases hcase k o hk with ⟨h2,h3⟩|⟨j,wr,g,sz,cs,rfl,h2,rfl⟩
  ·exact (H'.sc k o h2).mono (by omega) hold
  ·intro v hv;obtain⟨y,hy,rfl⟩:=List.mem_map.1 hv;refine jT (m:=m) ?_ (fun k hk=>by omega);rw [hι];exact R1.sc j _ h2 y hy
 ·rw [q7,FR q2,FR hscn,hι]
def In (args0:List Value)(h0:Heap)(n0:Nat)(args:List Value)(h:Heap)(nx:Nat):Prop :=
 ∀ ι B w,aR ι B h nx w→(∀ v∈args,eT ι nx v)→∃ ι0,args.map (tr ι)=args0.map (tr ι0)∧(∀ v∈args0,eT ι0 n0 v)∧aR ι0 w.heap.size h0 n0 w
abbrev Sp:=List Value→Heap→Nat→Value→Heap→Nat→Prop
def o5 (h1 h:Heap):Heap:=match sL h1 with|true=>h|false=>eD h
def xOf (S:Sp):List Value→Heap→Nat→KE→Prop:=fun args h nx K =>
 ∃ args0 h0 n0 v1 h1 m,S args0 h0 n0 v1 h1 m∧In args0 h0 n0 args h nx∧K (gP (fun k=>nx+k) v1) (app (mU nx h1) (o5 h1 h)) (nx+m)
def JR (v1:Value)(h1:Heap)(m:Nat):KE:=fun v h' nx'=>∃ ρ,oM 0 ρ [(0,v1)] h1 m [(0,v)] h' nx'
theorem gC {P:Program}{C:VC}{f:Nat}{S:Sp}(hC:bG P C)(hS:∀ args0 h0 n0 v1 h1 m,S args0 h0 n0 v1 h1 m→gM h1=true∧∃ Q:KE,C f args0 h0 n0 Q∧∀ v h nx,Q v h nx→JR v1 h1 m v h nx):cO P f (xOf S):=by
 refine⟨fun args h nx K hx ι B w H hs=>?_,fun args h nx K hx=>?_⟩
 ·obtain⟨args0,h0,n0,v1,h1,m,s1,s2,s3⟩:=hx;obtain⟨how,Q,hc,hq⟩:=hS _ _ _ _ _ _ s1;obtain⟨ι0,e1,e2,e3⟩:=s2 ι B w H hs;obtain⟨c1,c2⟩:=hC f args0 h0 n0 _ hc ι0 w.heap.size w e3 e2;refine⟨c1,?_⟩;rw [e1];refine CallsIn.mono c2 fun e w' hr=>?_;cases e with
  |returned u =>
   unfold o5 at s3;cases ho:sL h1 with
   |true=>rw [ho] at s3;exact N6 H (fun v h' nx' q=>hq v h' nx' q) how (.inl ho) s3 hr
   |false =>
    rw [ho] at s3;refine N6 (H.shut.down H.size) (fun v h' nx' q=>hq v h' nx' q) how (.inr fun k o hk=>?_) s3 hr;rw [jV] at hk;cases hq:look h k with
    |none=>rw [hq] at hk;cases hk
    |some q =>
     rw [hq] at hk;injection hk with hk;subst hk;exact J0 q
  |_=>exact hr.elim
 ·obtain⟨args0,h0,n0,v1,h1,m,s1,s2,s3⟩:=hx;exact⟨_,_,_,s3,fun K' hk=>⟨args0,h0,n0,v1,h1,m,s1,s2,hk⟩⟩
theorem bP {α:Type}{k:Nat}{o:α}{p:Prop}(h:look [] k=some o):p:=by cases h
theorem kH {v:Value}(hv:gT v=true){h':Heap}{nx':Nat}:JR v [] 0 v h' nx' :=
 ⟨id,⟨fun t u hu=>by
  rw [aD] at hu;split at hu
  ·rename_i hb;injection hu with hu;subst hu;exact⟨by rw [aD,hb];show some v=some (gP id v);rw [gP,iA hv],dE hv⟩
  ·exact bP hu,fun k o hk=>bP hk,fun k k' o o' hk=>bP hk,fun k hk=>rfl,Nat.le_refl _⟩⟩
theorem m0 {σ:Nat→Nat}{v:Value}(hv:gT v=true):gP σ v=v:=iA hv
theorem aFz {args:List Value}(hg:∀ v∈args,gT v=true){h:Heap}{nx:Nat}:In args [] 0 args h nx:=by
 intro ι B w H hs;refine⟨ι,rfl,fun v hv=>dE (hg v hv),⟨fun k o hk=>bP hk,fun k k' o o' hk=>bP hk,fun k o hk=>bP hk,Nat.le_refl _,fun k o hk=>bP hk⟩⟩
end Go.Aw
end
