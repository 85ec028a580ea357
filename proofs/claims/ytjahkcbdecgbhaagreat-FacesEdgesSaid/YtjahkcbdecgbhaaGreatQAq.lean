/-
  Parts of the proof, put together. No condition.
-/
import Derived.Test.YtjahkcbdecgbhaaGreatQAp
set_option linter.unusedSimpArgs false
set_option linter.unusedVariables false
noncomputable section
namespace Go.Aw
open Go.RowKit
section
variable {A:Ar}{T:cM}{K:Value→Bool}{K':Value→Prop}
theorem bH {x:Option Value}(hK:∀ v,K v=true→K' v)(hl:qH x K=true):on x K':=by
 cases x with
 |none=>cases hl
 |some v=>exact hK v hl
theorem mB {b:Bool}{X Y:Unit→Bool}{X' Y':Unit→Prop}(h1:X ()=true→X' ())(h2:Y ()=true→Y' ())(hl:wbr b X Y=true):br b X' Y':=by
 cases b with
 |true=>exact h1 hl
 |false=>exact h2 hl
theorem bE {b X:Bool}{X':Prop}(h:X=true→X')(hl:dY b X=true):dI b X':=by
 cases b with
 |true=>exact h hl
 |false=>cases hl
theorem OE {h:Heap}{t:TypeId}{x:Value}(hK:∀ v,K v=true→K' v)(hl:UE T h t x K=true):sP T h t x K':=by
 unfold UE at hl;unfold sP
 repeat' (split at hl)
 all_goals first|(cases hl;done)|(simp_all;done)
theorem HJ {t:TypeId}{x:Value}{f:Nat}(hK:∀ v,K v=true→K' v)(hl:wM T t x f K=true):iL T t x f K':=by
 unfold wM at hl;unfold iL
 repeat' (split at hl)
 all_goals first|(cases hl;done)|(simp_all;done)
theorem G5 {t:TypeId}{x ix:Value}(hK:∀ v,K v=true→K' v)(hl:wF A T t x ix K=true):iP A T t x ix K':=by
 unfold wF at hl;unfold iP
 repeat' (split at hl)
 all_goals first|(cases hl;done)|(simp_all;exact bE (hK _) hl;done)
theorem M9 {t:TypeId}{cs:List Value}{o:Nat}(hK:∀ v,K v=true→K' v)(hl:TT T t cs o K=true):BU T t cs o K':=by
 unfold TT at hl;unfold BU
 repeat' (split at hl)
 all_goals first|(cases hl;done)|(simp_all;done)
theorem V3 {t:TypeId}{x:Value}{f:Nat}(hK:∀ v,K v=true→K' v)(hl:QN T t x f K=true):sM T t x f K':=by
 unfold QN at hl;unfold sM
 repeat' (split at hl)
 all_goals first|(cases hl;done)|(simp_all;exact M9 hK hl;done)
theorem VN {t:TypeId}{x ix:Value}(hK:∀ v,K v=true→K' v)(hl:RD A T t x ix K=true):r6 A T t x ix K':=by
 unfold RD at hl;unfold r6
 repeat' (split at hl)
 all_goals first|(cases hl;done)|(simp_all;exact bE (M9 hK) hl;done)|(simp_all;done)
theorem aCz {op:BinOp}{k:IntKind}{a b:Int}(hK:∀ v,K v=true→K' v)(hl:aIh A op k a b K=true):WS A op k a b K':=by
 cases op <;> first|(cases hl;done)|exact hK _ hl|exact bE (hK _) hl
theorem aDp {op:BinOp}{t:TypeId}{x y:Value}(hK:∀ v,K v=true→K' v)(hl:aGy A T op t x y K=true):RX A T op t x y K':=by
 unfold aGy at hl;unfold RX
 repeat' (split at hl)
 all_goals first|(cases hl;done)|(simp_all;done)|(simp_all;exact aCz hK hl;done)|(simp_all;exact bE (hK _) hl;done)
theorem aCI {op:BinOp}{h:Heap}{t:TypeId}{x:Value}(hK:∀ v,K v=true→K' v)(hl:aGJ T h op t x K=true):QZ T h op t x K':=by
 unfold aGJ at hl;unfold QZ
 repeat' (split at hl)
 all_goals first|(cases hl;done)|(simp_all;done)
theorem aGB {op:UnOp}{x:Value}(hK:∀ v,K v=true→K' v)(hl:wun A op x K=true):vun A op x K':=by
 unfold wun at hl;unfold vun
 repeat' (split at hl)
 all_goals first|(cases hl;done)|(simp_all;done)|(simp_all;exact bE (hK _) hl;done)
theorem IJ {t:TypeId}{ps:List (Nat × Value)}(hK:∀ v,K v=true→K' v)(hl:QK T t ps K=true):wZ T t ps K':=by
 unfold QK at hl;unfold wZ;cases ht:look T t with
 |none=>simp only [ht] at hl;cases hl
 |some ti =>
  simp only [ht] at hl ⊢;cases hk:ti.kind <;> simp only [hk] at hl ⊢ <;> cases hp:kI ps <;> (try simp only [hp] at hl ⊢)
  all_goals first
   |(simp at hl;done)
   |(split at hl <;> first|(cases hl;done)|(split at hl <;> first|(cases hl;done)|(simp only [*];first|done|exact hK _ hl)))
theorem BQ {b:Builtin}{ts:Array TypeId}{vs:List Value}(hK:∀ v,K v=true→K' v)(hl:D3 A T b ts vs K=true):nY A T b ts vs K':=by
 unfold D3 at hl;unfold nY
 repeat' (split at hl)
 all_goals first|(cases hl;done)|(simp_all;done)|(simp_all;exact bH hK hl;done)
theorem nS {env:List (Nat × Value)}{h:Heap}{op:Op}(hK:∀ v,K v=true→K' v)(hl:vI A T env h op K=true):jC A T env h op K':=by
 cases op with
 |move x=>exact bH hK hl
 |assign x=>exact bH hK hl
 |pick c a b =>
  refine bH (fun u hu=>?_) hl;split at hu
  ·first|exact mB (bH hK) (bH hK) hu|(simp only [*];exact mB (bH hK) (bH hK) hu)|(simp only [*];done)
  ·cases hu
 |nilCheck x =>
  first|refine bH (fun u hu=>?_) hl|(simp only [*];refine bH (fun u hu=>?_) hl)|(simp only [*];done)
  split at hu
  ·first|exact hK _ hu|(simp only [*];exact hK _ hu)|(simp only [*];done)
  ·first|exact hK _ hu|(simp only [*];exact hK _ hu)|(simp only [*];done)
  ·first|exact hK _ hu|(simp only [*];exact hK _ hu)|(simp only [*];done)
  ·cases hu
 |load t x=>exact bH (fun u=>OE hK) hl
 |fieldAddr s x f=>exact bH (fun u=>HJ hK) hl
 |field s x f=>exact bH (fun u=>V3 hK) hl
 |indexAddr t x i=>exact bH (fun u=>bH fun j=>G5 hK) hl
 |index t x i=>exact bH (fun u=>bH fun j=>VN hK) hl
 |binOp op t x y z =>
  refine bH (fun u=>bH fun v hl=>?_) hl;split at hl
  ·exact aCI hK hl
  ·rename_i hne;split
   ·exact (hne _ _ rfl).elim
   ·exact aDp hK hl
 |unOp op t x=>exact bH (fun u=>aGB hK) hl
 |convert s d x =>
  first|refine bH (fun u hu=>?_) hl|(simp only [*];refine bH (fun u hu=>?_) hl)|(simp only [*];done)
  split at hu
  ·first|exact bE (hK _) hu|(simp only [*];exact bE (hK _) hu)|(simp only [*];done)
  ·cases hu
 |makeFunc fn first cap =>
  simp only [vI] at hl;simp only [jC]
  repeat' (split at hl)
  all_goals first|(cases hl;done)|(simp_all;done)
 |extract x i =>
  first|refine bH (fun u hu=>?_) hl|(simp only [*];refine bH (fun u hu=>?_) hl)|(simp only [*];done)
  split at hu
  ·first|exact bH hK hu|(simp only [*];exact bH hK hu)|(simp only [*];done)
  ·cases hu
 |build t ps =>
  simp only [vI] at hl;simp only [jC];split at hl
  ·first|exact IJ hK hl|(simp only [*];exact IJ hK hl)|(simp only [*];done)
  ·cases hl
 |call c =>
  simp only [vI] at hl;simp only [jC];split at hl
  ·split at hl
   ·first|exact BQ hK hl|(simp only [*];exact BQ hK hl)|(simp only [*];done)
   ·cases hl
  ·cases hl
 |_=>cases hl
theorem ES {h:Heap}{t:TypeId}{x key:Value}{ok:Bool}(hK:∀ v,K v=true→K' v)(hl:C0 A T h t x key ok K=true):oP A T h t x key ok K':=by
 unfold C0 at hl;unfold oP
 repeat' (split at hl)
 all_goals first|(cases hl;done)|(simp_all;done)
end
section
variable {A:Ar}{T:cM}{K:sH}{K':KE}{h:Heap}{nx:Nat}
theorem W7 {t:TypeId}{x v:Value}(hK:∀ v h nx,K v h nx=true→K' v h nx)(hl:PQ T h nx t x v K=true):nH T h nx t x v K':=by
 unfold PQ at hl;unfold nH;split at hl
 case h_2=>cases hl
 split at hl
 case h_2=>cases hl
 cases v <;> (split at hl <;> first|(cases hl;done)|(simp only [*];first|done|exact bE (hK _ _ _) hl)|(rename_i hq;cases hq))
theorem aCW {v:Value}(hK:∀ v h nx,K v h nx=true→K' v h nx)(hl:aFu h nx v K=true):RL h nx v K':=by
 unfold aFu at hl;unfold RL;split at hl
 ·cases hl
 ·first|exact hK _ _ _ hl|(simp only [*];exact hK _ _ _ hl)|(simp only [*];done)
theorem XP {t:TypeId}(hK:∀ v h nx,K v h nx=true→K' v h nx)(hl:QL T h nx t K=true):w9 T h nx t K':=by
 unfold QL at hl;unfold w9;split at hl
 ·first|exact hK _ _ _ hl|(simp only [*];exact hK _ _ _ hl)|(simp only [*];done)
 ·cases hl
theorem tA {t:TypeId}{n:Nat}{ps:List (Nat × Value)}(hK:∀ v h nx,K v h nx=true→K' v h nx)(hl:sT T h nx t n ps K=true):dW T h nx t n ps K':=by
 unfold sT at hl;unfold dW;split at hl
 case h_2=>cases hl
 split at hl
 case h_2=>cases hl
 split at hl
 case h_2=>cases hl
 split at hl
 case h_2=>cases hl
 first|exact hK _ _ _ hl|(simp only [*];exact hK _ _ _ hl)|(simp only [*];done)
theorem aAq {n c:Nat}{hi:Option Value}{G:Nat→Bool}{G':Nat→Prop}(hG:∀ n,G n=true→G' n)(hl:whi A n c hi G=true):vhi A n c hi G':=by
 unfold whi at hl;unfold vhi;split at hl
 ·first|exact hG _ hl|(simp only [*];exact hG _ hl)|(simp only [*];done)
 ·first|exact bE (hG _) hl|(simp only [*];exact bE (hG _) hl)|(simp only [*];done)
 ·cases hl
theorem OV {b X:Bool}{X':Unit→Prop}{Y':Unit→Prop}(h:X=true→X' ())(hl:dY b X=true):br b X' Y':=by
 cases b with
 |true=>exact h hl
 |false=>cases hl
theorem uI {t:TypeId}{x:Value}{lo hi mx:Option Value}(hK:∀ v h nx,K v h nx=true→K' v h nx)(hl:JJ A T h nx t x lo hi mx K=true):tG A T h nx t x lo hi mx K':=by
 unfold JJ at hl;unfold tG;split at hl
 case h_2=>cases hl
 split at hl
 case h_1=>cases hl
 split at hl
 ·split at hl
  ·first|exact hK _ _ _ hl|(simp only [*];exact hK _ _ _ hl)|(simp only [*];done)
  ·cases hl
 ·first|refine aAq (fun hN hl=>?_) hl|(simp only [*];refine aAq (fun hN hl=>?_) hl)|(simp only [*];done)
  split at hl
  ·first|exact hK _ _ _ hl|(simp only [*];exact hK _ _ _ hl)|(simp only [*];done)
  ·first|refine bE (fun hl=>?_) hl|(simp only [*];refine bE (fun hl=>?_) hl)|(simp only [*];done)
   split at hl
   ·first|exact OV (hK _ _ _) hl|(simp only [*];exact OV (hK _ _ _) hl)|(simp only [*];done)
   ·cases hl
  ·cases hl
 ·split at hl
  ·first|exact hK _ _ _ hl|(simp only [*];exact hK _ _ _ hl)|(simp only [*];done)
  ·cases hl
 ·split at hl
  ·first|exact bE (hK _ _ _) hl|(simp only [*];exact bE (hK _ _ _) hl)
  ·first|exact bE (hK _ _ _) hl|(simp only [*];exact bE (hK _ _ _) hl)
  ·cases hl
 ·cases hl
theorem SW {sz:Nat}{x:Value}{G:Nat→List Value→Bool}{G':Nat→List Value→Prop}(hG:∀ n l,G n l=true→G' n l)(hl:aFZ h sz x G=true):GZ h sz x G':=by
 unfold aFZ at hl;unfold GZ;split at hl
 ·first|exact hG _ _ hl|(simp only [*];exact hG _ _ hl)|(simp only [*];done)
 ·split at hl
  ·first|exact bE (hG _ _) hl|(simp only [*];exact bE (hG _ _) hl)|(simp only [*];done)
  ·split at hl
   ·first|exact hG _ _ hl|(simp only [*];exact hG _ _ hl)|(simp only [*];done)
   ·cases hl
  ·cases hl
 ·cases hl
theorem HM {t:TypeId}{l c:Value}(hK:∀ v h nx,K v h nx=true→K' v h nx)(hl:wU A T h nx t l c K=true):jY A T h nx t l c K':=by
 unfold wU at hl;unfold jY;split at hl
 case h_2=>cases hl
 split at hl
 case h_2=>cases hl
 first|exact bE (hK _ _ _) hl|(simp only [*];exact bE (hK _ _ _) hl)
theorem F8 {st xt:TypeId}{s x:Value}(hK:∀ v h nx,K v h nx=true→K' v h nx)(hl:KF A T h nx st xt s x K=true):lK A T h nx st xt s x K':=by
 unfold KF at hl;unfold lK;split at hl
 case h_3=>cases hl
 case h_1 =>
  split at hl
  case h_2=>cases hl
  split at hl
  case h_2=>cases hl
  first|exact bE (hK _ _ _) hl|(simp only [*];exact bE (hK _ _ _) hl)
 split at hl
 case h_1=>cases hl
 split at hl
 case h_1=>cases hl
 first|refine SW (fun m src hl=>?_) hl|(simp only [*];refine SW (fun m src hl=>?_) hl)|(simp only [*];done)
 split at hl
 ·first|exact mB (hK _ _ _) (bE (hK _ _ _)) hl|(simp only [*];exact mB (hK _ _ _) (bE (hK _ _ _)) hl)|(simp only [*];done)
 ·split at hl
  ·split at hl
   ·first|exact mB (hK _ _ _) (bE (hK _ _ _)) hl|(simp only [*];exact mB (hK _ _ _) (bE (hK _ _ _)) hl)|(simp only [*];done)
   ·cases hl
  ·first|exact mB (bE (hK _ _ _)) (bE (hK _ _ _)) hl|(simp only [*];exact mB (bE (hK _ _ _)) (bE (hK _ _ _)) hl)|(simp only [*];done)
  ·cases hl
 ·cases hl
theorem GU {t:TypeId}{x key v:Value}(hK:∀ v h nx,K v h nx=true→K' v h nx)(hl:vX A T h nx t x key v K=true):jZ A T h nx t x key v K':=by
 unfold vX at hl;unfold jZ;cases v <;> (split at hl <;> first|(cases hl;done)|(rename_i hq;cases hq;done)|(split at hl <;> first|(cases hl;done)|(split at hl <;> first|(cases hl;done)|(simp only [*];first|done|exact hK _ _ _ hl))))
theorem IL {t:TypeId}{x:Value}(hK:∀ v h nx,K v h nx=true→K' v h nx)(hl:RQ T h nx t x K=true):wV T h nx t x K':=by
 unfold RQ at hl;unfold wV;split at hl
 ·first|exact hK _ _ _ hl|(simp only [*];exact hK _ _ _ hl)|(simp only [*];done)
 ·split at hl
  ·first|exact hK _ _ _ hl|(simp only [*];exact hK _ _ _ hl)|(simp only [*];done)
  ·split at hl
   ·first|exact bE (hK _ _ _) hl|(simp only [*];exact bE (hK _ _ _) hl)|(simp only [*];done)
   ·cases hl
 ·cases hl
def Tw (C:vR)(C':VC):Prop:=∀ f args h nx (K:sH) (K':KE),(∀ v h nx,K v h nx=true→K' v h nx)→C f args h nx K=true→C' f args h nx K'
variable {C Y:vR}{C' Y':VC}
theorem KJ (hC:Tw C C')(hY:Tw Y Y'){env:List (Nat × Value)}{op:Op}(hK:∀ v h nx,K v h nx=true→K' v h nx)(hl:wop A T C Y env h nx op K=true):pW A T C' Y' env h nx op K':=by
 cases op with
 |store t x y=>exact bH (fun p=>bH fun v=>W7 hK) hl
 |alloc t=>exact XP hK hl
 |box t x=>exact bH (fun p=>aCW hK) hl
 |buildSlice t n ps =>
  simp only [wop] at hl;simp only [pW];split at hl
  ·first|exact tA hK hl|(simp only [*];exact tA hK hl)|(simp only [*];done)
  ·cases hl
 |slice t x lo hi mx =>
  first|refine bH (fun v hl=>?_) hl|(simp only [*];refine bH (fun v hl=>?_) hl)|(simp only [*];done)
  split at hl
  ·first|exact uI hK hl|(simp only [*];exact uI hK hl)|(simp only [*];done)
  ·cases hl
 |makeSlice t l c=>exact bH (fun p=>bH fun v=>HM hK) hl
 |makeMap t x =>
  cases x with
  |none=>exact hK _ _ _ hl
  |some x=>simp [wop,vI] at hl
 |lookup t m k ok=>exact bH (fun x=>bH fun y=>ES fun v=>hK v h nx) hl
 |mapUpdate t m k u=>exact bH (fun x=>bH fun y=>bH fun v=>GU hK) hl
 |call c =>
  simp only [wop] at hl;simp only [pW];split at hl
  ·split at hl
   ·first|exact F8 hK hl|(simp only [*];exact F8 hK hl)|(simp only [*];done)
   ·cases hl
  ·split at hl
   ·first|exact IL hK hl|(simp only [*];exact IL hK hl)|(simp only [*];done)
   ·cases hl
  ·first|exact nS (K':=fun v=>K' v h nx) (fun v=>hK v h nx) hl|(simp only [*];exact nS (K':=fun v=>K' v h nx) (fun v=>hK v h nx) hl)|(simp only [*];done)
  ·first|refine bH (fun fv hl=>?_) hl|(simp only [*];refine bH (fun fv hl=>?_) hl)|(simp only [*];done)
   split at hl
   case h_2=>cases hl
   split at hl
   ·split at hl
    ·first|exact hC _ _ _ _ _ _ hK hl|(simp only [*];exact hC _ _ _ _ _ _ hK hl)|(simp only [*];done)
    ·cases hl
   ·split at hl
    ·first|exact hY _ _ _ _ _ _ hK hl|(simp only [*];exact hY _ _ _ _ _ _ hK hl)|(simp only [*];done)
    ·cases hl
   ·cases hl
  ·cases hl
 |_=>simp only [wop] at hl;exact nS (K':=fun v=>K' v h nx) (fun v=>hK v h nx) hl
theorem mY {ops:List Oper}{env:List (Nat × Value)}{g:Option (Nat × Bool)}{F G:List (Nat × Value)→Bool}{F' G':List (Nat × Value)→Prop}(h1:∀ e,F e=true→F' e)(h2:∀ e,G e=true→G' e)(hl:zP A ops env g F G=true):fQ A ops env g F' G':=by
 unfold zP at hl;unfold fQ;split at hl
 ·first|exact h1 _ hl|(simp only [*];exact h1 _ hl)|(simp only [*];done)
 ·split at hl
  ·split at hl
   ·split at hl
    ·first|exact mB (h1 _) (h2 _) hl|(simp only [*];exact mB (h1 _) (h2 _) hl)|(simp only [*];done)
    ·first|exact h2 _ hl|(simp only [*];exact h2 _ hl)|(simp only [*];done)
    ·cases hl
   ·cases hl
  ·cases hl
theorem gU {tn:Nat}{env:List (Nat × Value)}{dst:Option Nat}{v:Value}{F:List (Nat × Value)→Bool}{F':List (Nat × Value)→Prop}(h1:∀ e,F e=true→F' e)(hl:GK tn env dst v F=true):eH tn env dst v F':=by
 unfold GK at hl;unfold eH;split at hl
 ·first|exact h1 _ hl|(simp only [*];exact h1 _ hl)|(simp only [*];done)
 ·split at hl
  ·first|exact h1 _ hl|(simp only [*];exact h1 _ hl)|(simp only [*];done)
  ·cases hl
theorem KI (hC:Tw C C')(hY:Tw Y Y'){tn:Nat}{ops:List Oper}{F:pY}{F':KS}(hF:∀ e h nx,F e h nx=true→F' e h nx):∀ (l:List Oper) env h nx,aE7 A T C Y tn ops l env h nx F=true→xJ A T C' Y' tn ops l env h nx F'
 |[],_,_,_,hl=>hF _ _ _ hl
 |o::r,env,h,nx,hl=>mY (fun e=>KJ hC hY fun v h' nx'=>gU fun e'=>KI hC hY hF r e' h' nx') (fun e=>gU fun e'=>KI hC hY hF r e' h nx) hl
theorem IN (hC:Tw C C'){env:List (Nat × Value)}{op:Op}{K:Value→Bool}{K':Value→Nat→Prop}(hK:∀ v,K v=true→K' v nx)(hl:EI A T C h nx env op K=true):iO A T C' h nx env op K':=by
 cases op with
 |load t x=>simp only [EI] at hl;exact nS hK hl
 |lookup t m k ok=>exact bH (fun x=>bH fun y=>ES hK) hl
 |slice t x lo hi mx =>
  refine bH (fun v hl=>?_) hl;split at hl
  ·first|refine uI (fun v h' nx' hl=>?_) hl|(simp only [*];refine uI (fun v h' nx' hl=>?_) hl)|(simp only [*];done)
   split at hl
   ·rename_i hb;rw [beq_true hb];exact hK _ hl
   ·cases hl
  ·cases hl
 |call c =>
  simp only [EI] at hl;simp only [iO];split at hl
  ·first|exact nS hK hl|(simp only [*];exact nS hK hl)|(simp only [*];done)
  ·first|refine bH (fun fv hl=>?_) hl|(simp only [*];refine bH (fun fv hl=>?_) hl)|(simp only [*];done)
   split at hl
   case h_2=>cases hl
   split at hl
   ·split at hl
    ·first|refine hC _ _ _ _ _ _ (fun v h' nx' hl=>?_) hl|(simp only [*];refine hC _ _ _ _ _ _ (fun v h' nx' hl=>?_) hl)|(simp only [*];done)
     split at hl
     ·rename_i hb;simp only [hb];exact hK _ hl
     ·cases hl
    ·cases hl
   ·cases hl
  ·cases hl
 |_=>simp only [EI] at hl;exact nS hK hl
theorem sJ (hC:Tw C C'){tn:Nat}{ops:List Oper}{F:List (Nat × Value)→Bool}{F':List (Nat × Value)→Nat→Prop}(hF:∀ e,F e=true→F' e nx):∀ (l:List Nat) env,O4 A T C tn ops h nx l env F=true→oI A T C' tn ops h l env nx F'
 |[],_,hl=>hF _ hl
 |i::r,env,hl=>by
  simp only [O4] at hl;simp only [v5];split at hl
  ·cases hl
  ·first|exact mY (fun e=>IN hC fun v=>gU fun e'=>sJ hC hF r e') (fun e=>gU fun e'=>sJ hC hF r e') hl|(simp only [*];exact mY (fun e=>IN hC fun v=>gU fun e'=>sJ hC hF r e') (fun e=>gU fun e'=>sJ hC hF r e') hl)|(simp only [*];done)
theorem v7 {tn:Nat}{ops:List Oper}{F:pY}{F':KS}(hF:∀ e h nx,F e h nx=true→F' e h nx):∀ (l:List Nat) env h nx,CR T tn ops l env h nx F=true→lE T tn ops l env h nx F'
 |[],_,_,_,hl=>hF _ _ _ hl
 |i::r,env,h,nx,hl=>by
  simp only [CR] at hl;simp only [mP];split at hl
  ·split at hl
   ·first|exact gU (fun e'=>v7 hF r e' _ _) hl|(simp only [*];exact gU (fun e'=>v7 hF r e' _ _) hl)|(simp only [*];done)
   ·cases hl
  ·cases hl
theorem sU (hC:Tw C C')(hY:Tw Y Y'){tn:Nat}{ops:List Oper}{hJ:Heap}{F:pY}{F':KS}(hF:∀ e h nx,F e h nx=true→F' e h nx):∀ (l:List (Nat × Bool)) env h nx,NG A T C Y tn ops hJ l env h nx F=true→j8 A T C' Y' tn ops hJ l env h nx F'
 |[],_,_,_,hl=>hF _ _ _ hl
 |(i,chk)::r,env,h,nx,hl=>by
  simp only [NG] at hl;simp only [wX];split at hl
  ·cases hl
  ·first|exact mY (fun e=>bE (KJ hC hY fun v h' nx'=>gU fun e'=>sU hC hY hF r e' h' nx')) (fun e=>gU fun e'=>sU hC hY hF r e' h nx) hl|(simp only [*];exact mY (fun e=>bE (KJ hC hY fun v h' nx'=>gU fun e'=>sU hC hY hF r e' h' nx')) (fun e=>gU fun e'=>sU hC hY hF r e' h nx) hl)|(simp only [*];done)
theorem EA (hC:Tw C C')(hY:Tw Y Y'){tn:Nat}{ops:List Oper}{p:fE}{env:List (Nat × Value)}{F:pY}{F':KS}(hF:∀ e h nx,F e h nx=true→F' e h nx)(hl:S0 A T C Y tn ops p env h nx F=true):oQ A T C' Y' tn ops p env h nx F' :=
 sJ hC (fun e=>v7 (fun e h nx=>sU hC hY hF p.tail e h nx) p.allocs e h nx) p.head env hl
theorem ON (hC:Tw C C')(hY:Tw Y Y'){tn:Nat}{ops:List Oper}{o:Oper}{e:List (Nat × Value)}{h:Heap}{nx:Nat}{F:pY}{F':KS}(hF:∀ e h nx,F e h nx=true→F' e h nx)(hl:aAT A T C Y tn ops o e h nx F=true):pZ A T C' Y' tn ops o e h nx F' :=
 mY (fun e=>KJ hC hY fun v h' nx'=>gU fun e'=>hF e' h' nx') (fun e=>gU fun e'=>hF e' h nx) hl
theorem aD1 {F:Nat→Bool}{F':Nat→Prop}(hF:∀ i,F i=true→F' i){l:List Nat}(hl:wall F l=true):LK F' l:=by
 rw [yA]
 induction l with
 |nil=>intro i hi;cases hi
 |cons x r ih =>
  simp only [wall,Bool.and_eq_true] at hl;intro i hi;cases hi with
  |head=>exact hF _ hl.1
  |tail _ hm=>exact ih hl.2 i hm
theorem SB (hC:Tw C C')(hY:Tw Y Y'){tn:Nat}{ops:List Oper}{F:pY}{F':KS}(hF:∀ e h nx,F e h nx=true→F' e h nx):∀ n done e h nx,aDI A T C Y tn ops F n done e h nx=true→EN A T C' Y' tn ops F' n done e h nx
 |0,_,e,h,nx,hl=>hF _ _ _ hl
 |n+1,done,e,h,nx,hl=>by
  simp only [aDI] at hl;simp only [EN];cases hr:eN ops done ops 0 with
  |nil =>
   rw [hr] at hl;exact hF _ _ _ hl
  |cons i0 r0 =>
   rw [hr] at hl;refine aD1 (fun i hi=>?_) hl;split at hi
   ·rename_i o ho;rw [ho];exact ON hC hY (fun e h nx=>SB hC hY hF n _ e h nx) hi
   ·cases hi
theorem H7 (hC:Tw C C')(hY:Tw Y Y'){tn:Nat}{ops:List Oper}{F:pY}{F':KS}(hF:∀ e h nx,F e h nx=true→F' e h nx):∀ n done e h nx,J7 A T C Y tn ops F n done e h nx=true→AJ A T C' Y' tn ops F' n done e h nx
 |0,_,e,h,nx,hl=>hF _ _ _ hl
 |n+1,done,e,h,nx,hl=>by
  simp only [J7] at hl;simp only [AJ];cases hr:eN ops done ops 0 with
  |nil =>
   rw [hr] at hl;exact hF _ _ _ hl
  |cons i0 r0 =>
   rw [hr] at hl;simp only at hl ⊢;cases ho:eZ ops i0 with
   |some o =>
    rw [ho] at hl;exact ON hC hY (fun e h nx=>H7 hC hY hF n _ e h nx) hl
   |none=>rw [ho] at hl;cases hl
theorem OY (hC:Tw C C')(hY:Tw Y Y'){tn:Nat}{ops:Array Oper}{m:Nat}{e:List (Nat × Value)}{h:Heap}{nx:Nat}{F:pY}{F':KS}(hF:∀ e h nx,F e h nx=true→F' e h nx)(hl:aBa A T C Y tn ops e h nx F=true):L7 A T C' Y' tn (.fuel m) ops e h nx F':=by
 unfold aBa at hl;unfold L7;refine H7 hC hY (fun e0 h0 n0 hq=>?_) _ _ _ _ _ hl;rw [z7,z7,Bool.and_eq_true] at hq;refine⟨_,_,n0,SB hC hY (fun e1 h1 n1 hr=>?_) _ _ _ _ _ hq.1,hF _ _ _ hq.2⟩;exact⟨_,_,_,_,⟨rfl,rfl,rfl⟩,SS hr⟩
def TwR (R:VRB)(R':VR):Prop:=∀ g ps as bd (kn:pY) (kx:Nat→pY) (kr:pY) (kn':KS) (kx':Nat→KS) (kr':KS) e h nx,(∀ e h nx,kn e h nx=true→kn' e h nx)→(∀ i e h nx,kx i e h nx=true→kx' i e h nx)→(∀ e h nx,kr e h nx=true→kr' e h nx)→R g ps as bd kn kx kr e h nx=true→R' g ps as bd kn' kx' kr' e h nx
theorem DY {F:pY→pY}{F':KS→KS}(hF:∀ (k:pY) (k':KS) e h nx,(∀ e h nx,k e h nx=true→k' e h nx)→F k e h nx=true→F' k' e h nx):∀ n e h nx,YC F n e h nx=true→EM F' n e h nx
 |0,_,_,_,hl=>by cases hl
 |n+1,e,h,nx,hl=>hF _ _ e h nx (fun e h nx=>DY hF n e h nx) hl
theorem pP (hC:Tw C C')(hY:Tw Y Y'){tn:Nat}{PL:Nat→Option fE}{n:Nat}{R:VRB}{R':VR}(hR:TwR R R'):∀ (c:Code) (kn:pY) (kx:Nat→pY) (kr:pY) (kn':KS) (kx':Nat→KS) (kr':KS) e h nx,(∀ e h nx,kn e h nx=true→kn' e h nx)→(∀ i e h nx,kx i e h nx=true→kx' i e h nx)→(∀ e h nx,kr e h nx=true→kr' e h nx) →
  qF A T C Y tn PL n R c kn kx kr e h nx=true→gV A T C' Y' tn PL (.fuel n) R' c kn' kx' kr' e h nx:=by
 intro c
 induction c with
 |skip=>exact fun kn kx kr kn' kx' kr' e h nx h1 _ _ hl=>h1 _ _ _ hl
 |region id ops draw =>
  intro kn kx kr kn' kx' kr' e h nx h1 _ _ hl;simp only [qF] at hl;simp only [gE,jW];cases draw with
  |false=>exact KI hC hY h1 _ _ _ _ hl
  |true =>
   simp only at hl ⊢;split at hl
   ·first|exact EA hC hY h1 hl|(simp only [*];exact EA hC hY h1 hl)|(simp only [*];done)
   ·first|exact OY hC hY h1 hl|(simp only [*];exact OY hC hY h1 hl)
 |seq a b iha ihb=>exact fun kn kx kr kn' kx' kr' e h nx h1 h2 h3 hl=>iha _ kx kr _ kx' kr' e h nx (fun e h nx=>ihb kn kx kr kn' kx' kr' e h nx h1 h2 h3) h2 h3 hl
 |cond c t f iht ihf =>
  intro kn kx kr kn' kx' kr' e h nx h1 h2 h3 hl;simp only [qF] at hl;simp only [gE,jW];split at hl
  ·first|exact mB (iht kn kx kr kn' kx' kr' e h nx h1 h2 h3) (ihf kn kx kr kn' kx' kr' e h nx h1 h2 h3) hl|(simp only [*];exact mB (iht kn kx kr kn' kx' kr' e h nx h1 h2 h3) (ihf kn kx kr kn' kx' kr' e h nx h1 h2 h3) hl)|(simp only [*];done)
  ·cases hl
 |block id b ih =>
  intro kn kx kr kn' kx' kr' e h nx h1 h2 h3 hl
  first|refine ih kn _ kr kn' _ kr' e h nx h1 (fun j e h nx hk=>?_) h3 hl|(simp only [*];refine ih kn _ kr kn' _ kr' e h nx h1 (fun j e h nx hk=>?_) h3 hl)|(simp only [*];done)
  cases hb:Nat.beq j id with
  |true=>simp only [hb] at hk ⊢;exact h1 _ _ _ hk
  |false=>simp only [hb] at hk ⊢;exact h2 _ _ _ _ hk
 |loop b ih =>
  intro kn kx kr kn' kx' kr' e h nx h1 h2 h3 hl
  first|exact DY (fun k k' e h nx hk=>ih k kx kr k' kx' kr' e h nx hk h2 h3) n e h nx hl|(simp only [*];exact DY (fun k k' e h nx hk=>ih k kx kr k' kx' kr' e h nx hk h2 h3) n e h nx hl)|(simp only [*];done)
 |rangeFunc g ps as bd _ _=>exact fun kn kx kr kn' kx' kr' e h nx h1 h2 h3 hl=>hR g ps as bd kn kx kr kn' kx' kr' e h nx h1 h2 h3 hl
 |exit id=>exact fun kn kx kr kn' kx' kr' e h nx _ h2 _ hl=>h2 _ _ _ _ hl
 |ret=>exact fun kn kx kr kn' kx' kr' e h nx _ _ h3 hl=>h3 _ _ _ hl
 |label l=>exact fun kn kx kr kn' kx' kr' e h nx h1 _ _ hl=>h1 _ _ _ hl
 |scope b ih=>exact fun kn kx kr kn' kx' kr' e h nx h1 h2 h3 hl=>ih kn kx kr kn' kx' kr' e h nx h1 h2 h3 hl
 |goto l=>exact fun _ _ _ _ _ _ _ _ _ _ _ _ hl=>by cases hl
 |refuse s=>exact fun _ _ _ _ _ _ _ _ _ _ _ _ hl=>by cases hl
theorem tL {e:List (Nat × Value)}:∀ (l:List ResultVar) {F:List Value→Bool} {F':List Value→Prop},(∀ l,F l=true→F' l)→zJ T e h l F=true→fO T e h l F'
 |[],F,F',hF,hl=>hF _ hl
 |.tmp t::r,F,F',hF,hl=>bH (fun v=>tL r fun l=>hF _) hl
 |.cell a t::r,F,F',hF,hl=>bH (fun p=>OE fun v=>tL r fun l=>hF _) hl
theorem C4 {fn:Func}(hK:∀ v h nx,K v h nx=true→K' v h nx)(e:List (Nat × Value))(h:Heap)(nx:Nat)(hl:aI4 T fn K e h nx=true):B7 T fn K' e h nx:=by
 refine tL _ (fun l hl=>?_) hl;split at hl
 ·first|exact hK _ _ _ hl|(simp only [*];exact hK _ _ _ hl)|(simp only [*];done)
 ·split at hl
  ·rename_i hn;simp only [hn];exact hK _ _ _ hl
  ·cases hl
theorem IX (hC:Tw C C'){f tn:Nat}:TwR (X8 C f tn) (s9 C' f tn):=by
 intro g ps as bd kn kx kr kn' kx' kr' e h nx h1 h2 h3 hl;refine bH (fun gv hl=>?_) hl;split at hl
 case h_2=>cases hl
 split at hl
 case h_2=>cases hl
 first|refine hC _ _ _ _ _ _ (fun v h' nx' hl=>?_) hl|(simp only [*];refine hC _ _ _ _ _ _ (fun v h' nx' hl=>?_) hl)|(simp only [*];done)
 split at hl
 case h_2=>cases hl
 rename_i l hl1 hl2;split at hl
 ·cases hl
 ·first|exact h1 _ _ _ hl|(simp only [*];exact h1 _ _ _ hl)|(simp only [*];done)
 ·first|exact h2 _ _ _ _ hl|(simp only [*];exact h2 _ _ _ _ hl)|(simp only [*];done)
 ·first|exact h3 _ _ _ hl|(simp only [*];exact h3 _ _ _ hl)|(simp only [*];done)
 ·cases hl
theorem uT {q:Nat}(hK:∀ v h nx,K v h nx=true→K' v h nx){j:Option Code}(e:List (Nat × Value))(h:Heap)(nx:Nat)(hl:Z8 q K j e h nx=true):v8 q K' j e h nx:=by
 unfold Z8 at hl;unfold v8;split at hl
 ·first|exact hK _ _ _ hl|(simp only [*];exact hK _ _ _ hl)|(simp only [*];done)
 ·cases hl
theorem VT (hC:Tw C C')(hY:Tw Y Y'){PL:Nat→Nat→Option fE}{n:Nat}:Tw (R5 A T C Y PL n) (rJ A T C' Y' PL (.fuel n)):=by
 intro q args h nx K K' hK hl;unfold R5 at hl;unfold rJ;split at hl
 case h_2=>cases hl
 split at hl
 case h_2=>cases hl
 first|refine pP hC hY (fun _ _ _ _ _ _ _ _ _ _ _ _ _ _ _ _ hl=>by cases hl) _ _ _ _ _ _ _ _ _ _ (fun e1 h1 nx1 hl=>?_) (fun _ _ _ _ hl=>by cases hl) (fun _ _ _ hl=>by cases hl) hl|(simp only [*];refine pP hC hY (fun _ _ _ _ _ _ _ _ _ _ _ _ _ _ _ _ hl=>by cases hl) _ _ _ _ _ _ _ _ _ _ (fun e1 h1 nx1 hl=>?_) (fun _ _ _ _ hl=>by cases hl) (fun _ _ _ hl=>by cases hl) hl)|(simp only [*];done)
 split at hl
 case h_2=>cases hl
 split at hl
 case h_2=>cases hl
 first|exact pP hC hY (fun _ _ _ _ _ _ _ _ _ _ _ _ _ _ _ _ hl=>by cases hl) _ _ _ _ _ _ _ _ _ _ (uT hK) (fun i=>uT hK) (uT hK) hl|(simp only [*];exact pP hC hY (fun _ _ _ _ _ _ _ _ _ _ _ _ _ _ _ _ hl=>by cases hl) _ _ _ _ _ _ _ _ _ _ (uT hK) (fun i=>uT hK) (uT hK) hl)|(simp only [*];done)
def TwX (c:ET)(XB:Nat→Option (List Value→Heap→Nat→sH→Bool)):Prop:=∀ f x xb,c.X f=some x→XB f=some xb→∀ args h nx (K:sH) (K':KE),(∀ v h nx,K v h nx=true→K' v h nx)→xb args h nx K=true→x args h nx K'
theorem ZA {c:ET}{XB:Nat→Option (List Value→Heap→Nat→sH→Bool)}(hX:TwX c XB){n:Nat}(hC:Tw C C')(hY:Tw Y Y'):Tw (aBG c XB n C Y) (vG c (some n) C' Y'):=by
 intro f args h nx K K' hK hl;unfold aBG at hl;unfold vG;split at hl
 ·rename_i x hx;split at hl
  ·rename_i xb hxb
   first|exact hX f x xb hx hxb _ _ _ _ _ hK hl|(simp only [hx];exact hX f x xb hx hxb _ _ _ _ _ hK hl)
  ·cases hl
 rename_i hx
 first|skip|(simp only [hx])
 split at hl
 ·cases hl
 split at hl
 case h_2=>cases hl
 first|exact pP hC hY (IX hC) _ _ _ _ _ _ _ _ _ _ (C4 fun v h nx=>hK v _ nx) (fun _ _ _ _ hl=>by cases hl) (C4 fun v h nx=>hK v _ nx) hl|(simp only [*];exact pP hC hY (IX hC) _ _ _ _ _ _ _ _ _ _ (C4 fun v h nx=>hK v _ nx) (fun _ _ _ _ hl=>by cases hl) (C4 fun v h nx=>hK v _ nx) hl)
theorem aCR {PR:Nat→Bool}(hC:Tw C C'):Tw (aGt PR C) (frC PR C'):=by
 intro f args h nx K K' hK hl;unfold aGt at hl;unfold frC;cases hp:PR f with
 |false=>simp only [hp] at hl ⊢;exact hC _ _ _ _ _ _ hK hl
 |true =>
  simp only [hp] at hl ⊢;refine hC _ _ _ _ _ _ (fun v h' nx' hq=>?_) hl;unfold aIo at hq;unfold frK;split at hq
  ·rename_i hg;rw [hg];exact hK _ _ _ hq
  ·rename_i hg;rw [hg];exact hK _ _ _ hq
theorem pL {c:ET}{XB:Nat→Option (List Value→Heap→Nat→sH→Bool)}(hX:TwX c XB):∀ (d:Nat) (b:Bool),Tw (BM c XB d b) (r8 c d b)
 |0,_=>fun _ _ _ _ _ _ _ hl=>by simp [BM] at hl
 |d+1,false=>aCR (ZA hX (pL hX d false) (pL hX d true))
 |d+1,true=>VT (pL hX d false) (pL hX d true)
end
end Go.Aw
end
