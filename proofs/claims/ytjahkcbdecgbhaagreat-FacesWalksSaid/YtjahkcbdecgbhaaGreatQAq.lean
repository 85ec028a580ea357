/-
  Parts of the proof, put together. No condition.
-/
import Derived.Test.YtjahkcbdecgbhaaGreatQAp
set_option linter.unusedSimpArgs false
set_option linter.unusedVariables false
noncomputable section
namespace Go.Aw
open Go.RowKit
section
variable {A:Ar}{T:cH}{K:Value→Bool}{K':Value→Prop}
theorem bH {x:Option Value}(hK:∀ v,K v=true→K' v)(hl:pW x K=true):on x K':=by
 cases x with
 |none=>cases hl
 |some v=>exact hK v hl
theorem lQ {b:Bool}{X Y:Unit→Bool}{X' Y':Unit→Prop}(h1:X ()=true→X' ())(h2:Y ()=true→Y' ())(hl:wbr b X Y=true):br b X' Y':=by
 cases b with
 |true=>exact h1 hl
 |false=>exact h2 hl
theorem bC {b X:Bool}{X':Prop}(h:X=true→X')(hl:dT b X=true):dE b X':=by
 cases b with
 |true=>exact h hl
 |false=>cases hl
theorem OA {h:Heap}{t:TypeId}{x:Value}(hK:∀ v,K v=true→K' v)(hl:TD T h t x K=true):rS T h t x K':=by
 unfold TD at hl;unfold rS
 repeat' (split at hl)
 all_goals first|(cases hl;done)|(simp_all;done)
theorem GH {t:TypeId}{x:Value}{f:Nat}(hK:∀ v,K v=true→K' v)(hl:wF T t x f K=true):iD T t x f K':=by
 unfold wF at hl;unfold iD
 repeat' (split at hl)
 all_goals first|(cases hl;done)|(simp_all;done)
theorem GY {t:TypeId}{x ix:Value}(hK:∀ v,K v=true→K' v)(hl:vX A T t x ix K=true):gW A T t x ix K':=by
 unfold vX at hl;unfold gW
 repeat' (split at hl)
 all_goals first|(cases hl;done)|(simp_all;exact bC (hK _) hl;done)
theorem NR {t:TypeId}{cs:List Value}{o:Nat}(hK:∀ v,K v=true→K' v)(hl:T8 T t cs o K=true):A9 T t cs o K':=by
 unfold T8 at hl;unfold A9
 repeat' (split at hl)
 all_goals first|(cases hl;done)|(simp_all;done)
theorem WQ {t:TypeId}{x:Value}{f:Nat}(hK:∀ v,K v=true→K' v)(hl:RK T t x f K=true):tE T t x f K':=by
 unfold RK at hl;unfold tE
 repeat' (split at hl)
 all_goals first|(cases hl;done)|(simp_all;exact NR hK hl;done)
theorem W5 {t:TypeId}{x ix:Value}(hK:∀ v,K v=true→K' v)(hl:O9 A T t x ix K=true):sP A T t x ix K':=by
 unfold O9 at hl;unfold sP
 repeat' (split at hl)
 all_goals first|(cases hl;done)|(simp_all;exact bC (NR hK) hl;done)|(simp_all;done)
theorem aBx {op:BinOp}{k:IntKind}{a b:Int}(hK:∀ v,K v=true→K' v)(hl:aIq A op k a b K=true):WG A op k a b K':=by
 cases op <;> first|(cases hl;done)|exact hK _ hl|exact bC (hK _) hl
theorem aBz {op:BinOp}{t:TypeId}{x y:Value}(hK:∀ v,K v=true→K' v)(hl:aGN A T op t x y K=true):QD A T op t x y K':=by
 unfold aGN at hl;unfold QD
 repeat' (split at hl)
 all_goals first|(cases hl;done)|(simp_all;done)|(simp_all;exact aBx hK hl;done)|(simp_all;exact bC (hK _) hl;done)
theorem aBB {op:BinOp}{h:Heap}{t:TypeId}{x:Value}(hK:∀ v,K v=true→K' v)(hl:aGk T h op t x K=true):OW T h op t x K':=by
 unfold aGk at hl;unfold OW
 repeat' (split at hl)
 all_goals first|(cases hl;done)|(simp_all;done)
theorem aFQ {op:UnOp}{x:Value}(hK:∀ v,K v=true→K' v)(hl:wun A op x K=true):vun A op x K':=by
 unfold wun at hl;unfold vun
 repeat' (split at hl)
 all_goals first|(cases hl;done)|(simp_all;done)|(simp_all;exact bC (hK _) hl;done)
theorem IN {t:TypeId}{ps:List (Nat × Value)}(hK:∀ v,K v=true→K' v)(hl:RA T t ps K=true):wI T t ps K':=by
 unfold RA at hl;unfold wI;cases ht:look T t with
 |none=>simp only [ht] at hl;cases hl
 |some ti =>
  simp only [ht] at hl ⊢;cases hk:ti.kind <;> simp only [hk] at hl ⊢ <;> cases hp:kA ps <;> (try simp only [hp] at hl ⊢)
  all_goals first
   |(simp at hl;done)
   |(split at hl <;> first|(cases hl;done)|(split at hl <;> first|(cases hl;done)|(simp only [*];first|done|exact hK _ hl)))
theorem BJ {b:Builtin}{ts:Array TypeId}{vs:List Value}(hK:∀ v,K v=true→K' v)(hl:EK A T b ts vs K=true):mY A T b ts vs K':=by
 unfold EK at hl;unfold mY
 repeat' (split at hl)
 all_goals first|(cases hl;done)|(simp_all;done)|(simp_all;exact bH hK hl;done)
theorem nC {env:List (Nat × Value)}{h:Heap}{op:Op}(hK:∀ v,K v=true→K' v)(hl:vG A T env h op K=true):jA A T env h op K':=by
 cases op with
 |move x=>exact bH hK hl
 |assign x=>exact bH hK hl
 |pick c a b =>
  refine bH (fun u hu=>?_) hl;split at hu
  ·first|exact lQ (bH hK) (bH hK) hu|(simp only [*];exact lQ (bH hK) (bH hK) hu)|(simp only [*];done)
  ·cases hu
 |nilCheck x =>
  first|refine bH (fun u hu=>?_) hl|(simp only [*];refine bH (fun u hu=>?_) hl)|(simp only [*];done)
  split at hu
  ·first|exact hK _ hu|(simp only [*];exact hK _ hu)|(simp only [*];done)
  ·first|exact hK _ hu|(simp only [*];exact hK _ hu)|(simp only [*];done)
  ·first|exact hK _ hu|(simp only [*];exact hK _ hu)|(simp only [*];done)
  ·cases hu
 |load t x=>exact bH (fun u=>OA hK) hl
 |fieldAddr s x f=>exact bH (fun u=>GH hK) hl
 |field s x f=>exact bH (fun u=>WQ hK) hl
 |indexAddr t x i=>exact bH (fun u=>bH fun j=>GY hK) hl
 |index t x i=>exact bH (fun u=>bH fun j=>W5 hK) hl
 |binOp op t x y z =>
  refine bH (fun u=>bH fun v hl=>?_) hl;split at hl
  ·exact aBB hK hl
  ·rename_i hne;split
   ·exact (hne _ _ rfl).elim
   ·exact aBz hK hl
 |unOp op t x=>exact bH (fun u=>aFQ hK) hl
 |convert s d x =>
  first|refine bH (fun u hu=>?_) hl|(simp only [*];refine bH (fun u hu=>?_) hl)|(simp only [*];done)
  split at hu
  ·first|exact bC (hK _) hu|(simp only [*];exact bC (hK _) hu)|(simp only [*];done)
  ·cases hu
 |makeFunc fn first cap =>
  simp only [vG] at hl;simp only [jA]
  repeat' (split at hl)
  all_goals first|(cases hl;done)|(simp_all;done)
 |extract x i =>
  first|refine bH (fun u hu=>?_) hl|(simp only [*];refine bH (fun u hu=>?_) hl)|(simp only [*];done)
  split at hu
  ·first|exact bH hK hu|(simp only [*];exact bH hK hu)|(simp only [*];done)
  ·cases hu
 |build t ps =>
  simp only [vG] at hl;simp only [jA];split at hl
  ·first|exact IN hK hl|(simp only [*];exact IN hK hl)|(simp only [*];done)
  ·cases hl
 |call c =>
  simp only [vG] at hl;simp only [jA];split at hl
  ·split at hl
   ·first|exact BJ hK hl|(simp only [*];exact BJ hK hl)|(simp only [*];done)
   ·cases hl
  ·cases hl
 |_=>cases hl
theorem D4 {h:Heap}{t:TypeId}{x key:Value}{ok:Bool}(hK:∀ v,K v=true→K' v)(hl:CV A T h t x key ok K=true):oH A T h t x key ok K':=by
 unfold CV at hl;unfold oH
 repeat' (split at hl)
 all_goals first|(cases hl;done)|(simp_all;done)
end
section
variable {A:Ar}{T:cH}{K:sR}{K':KE}{h:Heap}{nx:Nat}
theorem VE {t:TypeId}{x v:Value}(hK:∀ v h nx,K v h nx=true→K' v h nx)(hl:Q8 T h nx t x v K=true):m8 T h nx t x v K':=by
 unfold Q8 at hl;unfold m8;split at hl
 case h_2=>cases hl
 split at hl
 case h_2=>cases hl
 cases v <;> (split at hl <;> first|(cases hl;done)|(simp only [*];first|done|exact bC (hK _ _ _) hl)|(rename_i hq;cases hq))
theorem aBI {v:Value}(hK:∀ v h nx,K v h nx=true→K' v h nx)(hl:aGq h nx v K=true):RC h nx v K':=by
 unfold aGq at hl;unfold RC;split at hl
 ·cases hl
 ·first|exact hK _ _ _ hl|(simp only [*];exact hK _ _ _ hl)|(simp only [*];done)
theorem VK {t:TypeId}(hK:∀ v h nx,K v h nx=true→K' v h nx)(hl:O0 T h nx t K=true):v9 T h nx t K':=by
 unfold O0 at hl;unfold v9;split at hl
 ·first|exact hK _ _ _ hl|(simp only [*];exact hK _ _ _ hl)|(simp only [*];done)
 ·cases hl
theorem sK {t:TypeId}{n:Nat}{ps:List (Nat × Value)}(hK:∀ v h nx,K v h nx=true→K' v h nx)(hl:sH T h nx t n ps K=true):dV T h nx t n ps K':=by
 unfold sH at hl;unfold dV;split at hl
 case h_2=>cases hl
 split at hl
 case h_2=>cases hl
 split at hl
 case h_2=>cases hl
 split at hl
 case h_2=>cases hl
 first|exact hK _ _ _ hl|(simp only [*];exact hK _ _ _ hl)|(simp only [*];done)
theorem YQ {n c:Nat}{hi:Option Value}{G:Nat→Bool}{G':Nat→Prop}(hG:∀ n,G n=true→G' n)(hl:whi A n c hi G=true):vhi A n c hi G':=by
 unfold whi at hl;unfold vhi;split at hl
 ·first|exact hG _ hl|(simp only [*];exact hG _ hl)|(simp only [*];done)
 ·first|exact bC (hG _) hl|(simp only [*];exact bC (hG _) hl)|(simp only [*];done)
 ·cases hl
theorem MV {b X:Bool}{X':Unit→Prop}{Y':Unit→Prop}(h:X=true→X' ())(hl:dT b X=true):br b X' Y':=by
 cases b with
 |true=>exact h hl
 |false=>cases hl
theorem tT {t:TypeId}{x:Value}{lo hi mx:Option Value}(hK:∀ v h nx,K v h nx=true→K' v h nx)(hl:JQ A T h nx t x lo hi mx K=true):sN A T h nx t x lo hi mx K':=by
 unfold JQ at hl;unfold sN;split at hl
 case h_2=>cases hl
 split at hl
 case h_1=>cases hl
 split at hl
 ·split at hl
  ·first|exact hK _ _ _ hl|(simp only [*];exact hK _ _ _ hl)|(simp only [*];done)
  ·cases hl
 ·first|refine YQ (fun hN hl=>?_) hl|(simp only [*];refine YQ (fun hN hl=>?_) hl)|(simp only [*];done)
  split at hl
  ·first|exact hK _ _ _ hl|(simp only [*];exact hK _ _ _ hl)|(simp only [*];done)
  ·first|refine bC (fun hl=>?_) hl|(simp only [*];refine bC (fun hl=>?_) hl)|(simp only [*];done)
   split at hl
   ·first|exact MV (hK _ _ _) hl|(simp only [*];exact MV (hK _ _ _) hl)|(simp only [*];done)
   ·cases hl
  ·cases hl
 ·split at hl
  ·first|exact hK _ _ _ hl|(simp only [*];exact hK _ _ _ hl)|(simp only [*];done)
  ·cases hl
 ·split at hl
  ·first|exact bC (hK _ _ _) hl|(simp only [*];exact bC (hK _ _ _) hl)
  ·first|exact bC (hK _ _ _) hl|(simp only [*];exact bC (hK _ _ _) hl)
  ·cases hl
 ·cases hl
theorem RW {sz:Nat}{x:Value}{G:Nat→List Value→Bool}{G':Nat→List Value→Prop}(hG:∀ n l,G n l=true→G' n l)(hl:aEI h sz x G=true):GM h sz x G':=by
 unfold aEI at hl;unfold GM;split at hl
 ·first|exact hG _ _ hl|(simp only [*];exact hG _ _ hl)|(simp only [*];done)
 ·split at hl
  ·first|exact bC (hG _ _) hl|(simp only [*];exact bC (hG _ _) hl)|(simp only [*];done)
  ·split at hl
   ·first|exact hG _ _ hl|(simp only [*];exact hG _ _ hl)|(simp only [*];done)
   ·cases hl
  ·cases hl
 ·cases hl
theorem GZ {t:TypeId}{l c:Value}(hK:∀ v h nx,K v h nx=true→K' v h nx)(hl:vY A T h nx t l c K=true):jU A T h nx t l c K':=by
 unfold vY at hl;unfold jU;split at hl
 case h_2=>cases hl
 split at hl
 case h_2=>cases hl
 first|exact bC (hK _ _ _) hl|(simp only [*];exact bC (hK _ _ _) hl)
theorem EW {st xt:TypeId}{s x:Value}(hK:∀ v h nx,K v h nx=true→K' v h nx)(hl:JW A T h nx st xt s x K=true):lA A T h nx st xt s x K':=by
 unfold JW at hl;unfold lA;split at hl
 case h_3=>cases hl
 case h_1 =>
  split at hl
  case h_2=>cases hl
  split at hl
  case h_2=>cases hl
  first|exact bC (hK _ _ _) hl|(simp only [*];exact bC (hK _ _ _) hl)
 split at hl
 case h_1=>cases hl
 split at hl
 case h_1=>cases hl
 first|refine RW (fun m src hl=>?_) hl|(simp only [*];refine RW (fun m src hl=>?_) hl)|(simp only [*];done)
 split at hl
 ·first|exact lQ (hK _ _ _) (bC (hK _ _ _)) hl|(simp only [*];exact lQ (hK _ _ _) (bC (hK _ _ _)) hl)|(simp only [*];done)
 ·split at hl
  ·split at hl
   ·first|exact lQ (hK _ _ _) (bC (hK _ _ _)) hl|(simp only [*];exact lQ (hK _ _ _) (bC (hK _ _ _)) hl)|(simp only [*];done)
   ·cases hl
  ·first|exact lQ (bC (hK _ _ _)) (bC (hK _ _ _)) hl|(simp only [*];exact lQ (bC (hK _ _ _)) (bC (hK _ _ _)) hl)|(simp only [*];done)
  ·cases hl
 ·cases hl
theorem GD {t:TypeId}{x key v:Value}(hK:∀ v h nx,K v h nx=true→K' v h nx)(hl:vP A T h nx t x key v K=true):jT A T h nx t x key v K':=by
 unfold vP at hl;unfold jT;cases v <;> (split at hl <;> first|(cases hl;done)|(rename_i hq;cases hq;done)|(split at hl <;> first|(cases hl;done)|(split at hl <;> first|(cases hl;done)|(simp only [*];first|done|exact hK _ _ _ hl))))
theorem H7 {t:TypeId}{x:Value}(hK:∀ v h nx,K v h nx=true→K' v h nx)(hl:P6 T h nx t x K=true):wO T h nx t x K':=by
 unfold P6 at hl;unfold wO;split at hl
 ·first|exact hK _ _ _ hl|(simp only [*];exact hK _ _ _ hl)|(simp only [*];done)
 ·split at hl
  ·first|exact hK _ _ _ hl|(simp only [*];exact hK _ _ _ hl)|(simp only [*];done)
  ·split at hl
   ·first|exact bC (hK _ _ _) hl|(simp only [*];exact bC (hK _ _ _) hl)|(simp only [*];done)
   ·cases hl
 ·cases hl
def Tw (C:vF)(C':VC):Prop:=∀ f args h nx (K:sR) (K':KE),(∀ v h nx,K v h nx=true→K' v h nx)→C f args h nx K=true→C' f args h nx K'
variable {C Y:vF}{C' Y':VC}
theorem KD (hC:Tw C C')(hY:Tw Y Y'){env:List (Nat × Value)}{op:Op}(hK:∀ v h nx,K v h nx=true→K' v h nx)(hl:wop A T C Y env h nx op K=true):pK A T C' Y' env h nx op K':=by
 cases op with
 |store t x y=>exact bH (fun p=>bH fun v=>VE hK) hl
 |alloc t=>exact VK hK hl
 |box t x=>exact bH (fun p=>aBI hK) hl
 |buildSlice t n ps =>
  simp only [wop] at hl;simp only [pK];split at hl
  ·first|exact sK hK hl|(simp only [*];exact sK hK hl)|(simp only [*];done)
  ·cases hl
 |slice t x lo hi mx =>
  first|refine bH (fun v hl=>?_) hl|(simp only [*];refine bH (fun v hl=>?_) hl)|(simp only [*];done)
  split at hl
  ·first|exact tT hK hl|(simp only [*];exact tT hK hl)|(simp only [*];done)
  ·cases hl
 |makeSlice t l c=>exact bH (fun p=>bH fun v=>GZ hK) hl
 |makeMap t x =>
  cases x with
  |none=>exact hK _ _ _ hl
  |some x=>simp [wop,vG] at hl
 |lookup t m k ok=>exact bH (fun x=>bH fun y=>D4 fun v=>hK v h nx) hl
 |mapUpdate t m k u=>exact bH (fun x=>bH fun y=>bH fun v=>GD hK) hl
 |call c =>
  simp only [wop] at hl;simp only [pK];split at hl
  ·split at hl
   ·first|exact EW hK hl|(simp only [*];exact EW hK hl)|(simp only [*];done)
   ·cases hl
  ·split at hl
   ·first|exact H7 hK hl|(simp only [*];exact H7 hK hl)|(simp only [*];done)
   ·cases hl
  ·first|exact nC (K':=fun v=>K' v h nx) (fun v=>hK v h nx) hl|(simp only [*];exact nC (K':=fun v=>K' v h nx) (fun v=>hK v h nx) hl)|(simp only [*];done)
  ·first|refine bH (fun fv hl=>?_) hl|(simp only [*];refine bH (fun fv hl=>?_) hl)|(simp only [*];done)
   split at hl
   case h_2=>cases hl
   split at hl
   ·split at hl
    ·first|exact hC _ _ _ _ _ _ hK hl|(simp only [*];exact hC _ _ _ _ _ _ hK hl)|(simp only [*];done)
    ·cases hl
   ·split at hl
    ·first|exact hY _ _ _ _ _ _ hK hl|(simp only [*];exact hY _ _ _ _ _ _ hK hl)|(simp only [*];done)
    ·cases hl
   ·cases hl
  ·cases hl
 |_=>simp only [wop] at hl;exact nC (K':=fun v=>K' v h nx) (fun v=>hK v h nx) hl
theorem mP {ops:List Oper}{env:List (Nat × Value)}{g:Option (Nat × Bool)}{F G:List (Nat × Value)→Bool}{F' G':List (Nat × Value)→Prop}(h1:∀ e,F e=true→F' e)(h2:∀ e,G e=true→G' e)(hl:AA A ops env g F G=true):fM A ops env g F' G':=by
 unfold AA at hl;unfold fM;split at hl
 ·first|exact h1 _ hl|(simp only [*];exact h1 _ hl)|(simp only [*];done)
 ·split at hl
  ·split at hl
   ·split at hl
    ·first|exact lQ (h1 _) (h2 _) hl|(simp only [*];exact lQ (h1 _) (h2 _) hl)|(simp only [*];done)
    ·first|exact h2 _ hl|(simp only [*];exact h2 _ hl)|(simp only [*];done)
    ·cases hl
   ·cases hl
  ·cases hl
theorem gO {tn:Nat}{env:List (Nat × Value)}{dst:Option Nat}{v:Value}{F:List (Nat × Value)→Bool}{F':List (Nat × Value)→Prop}(h1:∀ e,F e=true→F' e)(hl:E0 tn env dst v F=true):eF tn env dst v F':=by
 unfold E0 at hl;unfold eF;split at hl
 ·first|exact h1 _ hl|(simp only [*];exact h1 _ hl)|(simp only [*];done)
 ·split at hl
  ·first|exact h1 _ hl|(simp only [*];exact h1 _ hl)|(simp only [*];done)
  ·cases hl
theorem JL (hC:Tw C C')(hY:Tw Y Y'){tn:Nat}{ops:List Oper}{F:o7}{F':KS}(hF:∀ e h nx,F e h nx=true→F' e h nx):∀ (l:List Oper) env h nx,aC6 A T C Y tn ops l env h nx F=true→x6 A T C' Y' tn ops l env h nx F'
 |[],_,_,_,hl=>hF _ _ _ hl
 |o::r,env,h,nx,hl=>mP (fun e=>KD hC hY fun v h' nx'=>gO fun e'=>JL hC hY hF r e' h' nx') (fun e=>gO fun e'=>JL hC hY hF r e' h nx) hl
theorem IL (hC:Tw C C'){env:List (Nat × Value)}{op:Op}{K:Value→Bool}{K':Value→Nat→Prop}(hK:∀ v,K v=true→K' v nx)(hl:E7 A T C h nx env op K=true):gQ A T C' h nx env op K':=by
 cases op with
 |load t x=>simp only [E7] at hl;exact nC hK hl
 |lookup t m k ok=>exact bH (fun x=>bH fun y=>D4 hK) hl
 |slice t x lo hi mx =>
  refine bH (fun v hl=>?_) hl;split at hl
  ·first|refine tT (fun v h' nx' hl=>?_) hl|(simp only [*];refine tT (fun v h' nx' hl=>?_) hl)|(simp only [*];done)
   split at hl
   ·rename_i hb;rw [beq_true hb];exact hK _ hl
   ·cases hl
  ·cases hl
 |call c =>
  simp only [E7] at hl;simp only [gQ];split at hl
  ·first|exact nC hK hl|(simp only [*];exact nC hK hl)|(simp only [*];done)
  ·first|refine bH (fun fv hl=>?_) hl|(simp only [*];refine bH (fun fv hl=>?_) hl)|(simp only [*];done)
   split at hl
   case h_2=>cases hl
   split at hl
   ·split at hl
    ·first|refine hC _ _ _ _ _ _ (fun v h' nx' hl=>?_) hl|(simp only [*];refine hC _ _ _ _ _ _ (fun v h' nx' hl=>?_) hl)|(simp only [*];done)
     split at hl
     ·rename_i hb;simp only [hb];exact hK _ hl
     ·cases hl
    ·cases hl
   ·cases hl
  ·cases hl
 |_=>simp only [E7] at hl;exact nC hK hl
theorem sT (hC:Tw C C'){tn:Nat}{ops:List Oper}{F:List (Nat × Value)→Bool}{F':List (Nat × Value)→Nat→Prop}(hF:∀ e,F e=true→F' e nx):∀ (l:List Nat) env,OJ A T C tn ops h nx l env F=true→oB A T C' tn ops h l env nx F'
 |[],_,hl=>hF _ hl
 |i::r,env,hl=>by
  simp only [OJ] at hl;simp only [wG];split at hl
  ·cases hl
  ·first|exact mP (fun e=>IL hC fun v=>gO fun e'=>sT hC hF r e') (fun e=>gO fun e'=>sT hC hF r e') hl|(simp only [*];exact mP (fun e=>IL hC fun v=>gO fun e'=>sT hC hF r e') (fun e=>gO fun e'=>sT hC hF r e') hl)|(simp only [*];done)
theorem vV {tn:Nat}{ops:List Oper}{F:o7}{F':KS}(hF:∀ e h nx,F e h nx=true→F' e h nx):∀ (l:List Nat) env h nx,CW T tn ops l env h nx F=true→kW T tn ops l env h nx F'
 |[],_,_,_,hl=>hF _ _ _ hl
 |i::r,env,h,nx,hl=>by
  simp only [CW] at hl;simp only [mJ];split at hl
  ·split at hl
   ·first|exact gO (fun e'=>vV hF r e' _ _) hl|(simp only [*];exact gO (fun e'=>vV hF r e' _ _) hl)|(simp only [*];done)
   ·cases hl
  ·cases hl
theorem rZ (hC:Tw C C')(hY:Tw Y Y'){tn:Nat}{ops:List Oper}{hJ:Heap}{F:o7}{F':KS}(hF:∀ e h nx,F e h nx=true→F' e h nx):∀ (l:List (Nat × Bool)) env h nx,NX A T C Y tn ops hJ l env h nx F=true→jX A T C' Y' tn ops hJ l env h nx F'
 |[],_,_,_,hl=>hF _ _ _ hl
 |(i,chk)::r,env,h,nx,hl=>by
  simp only [NX] at hl;simp only [vN];split at hl
  ·cases hl
  ·first|exact mP (fun e=>bC (KD hC hY fun v h' nx'=>gO fun e'=>rZ hC hY hF r e' h' nx')) (fun e=>gO fun e'=>rZ hC hY hF r e' h nx) hl|(simp only [*];exact mP (fun e=>bC (KD hC hY fun v h' nx'=>gO fun e'=>rZ hC hY hF r e' h' nx')) (fun e=>gO fun e'=>rZ hC hY hF r e' h nx) hl)|(simp only [*];done)
theorem EM (hC:Tw C C')(hY:Tw Y Y'){tn:Nat}{ops:List Oper}{p:eR}{env:List (Nat × Value)}{F:o7}{F':KS}(hF:∀ e h nx,F e h nx=true→F' e h nx)(hl:UD A T C Y tn ops p env h nx F=true):oE A T C' Y' tn ops p env h nx F' :=
 sT hC (fun e=>vV (fun e h nx=>rZ hC hY hF p.tail e h nx) p.allocs e h nx) p.head env hl
theorem LY (hC:Tw C C')(hY:Tw Y Y'){tn:Nat}{ops:List Oper}{o:Oper}{e:List (Nat × Value)}{h:Heap}{nx:Nat}{F:o7}{F':KS}(hF:∀ e h nx,F e h nx=true→F' e h nx)(hl:YU A T C Y tn ops o e h nx F=true):pJ A T C' Y' tn ops o e h nx F' :=
 mP (fun e=>KD hC hY fun v h' nx'=>gO fun e'=>hF e' h' nx') (fun e=>gO fun e'=>hF e' h nx) hl
theorem aBA {F:Nat→Bool}{F':Nat→Prop}(hF:∀ i,F i=true→F' i){l:List Nat}(hl:wall F l=true):KI F' l:=by
 rw [yI]
 induction l with
 |nil=>intro i hi;cases hi
 |cons x r ih =>
  simp only [wall,Bool.and_eq_true] at hl;intro i hi;cases hi with
  |head=>exact hF _ hl.1
  |tail _ hm=>exact ih hl.2 i hm
theorem TC (hC:Tw C C')(hY:Tw Y Y'){tn:Nat}{ops:List Oper}{F:o7}{F':KS}(hF:∀ e h nx,F e h nx=true→F' e h nx):∀ n done e h nx,aDv A T C Y tn ops F n done e h nx=true→EB A T C' Y' tn ops F' n done e h nx
 |0,_,e,h,nx,hl=>hF _ _ _ hl
 |n+1,done,e,h,nx,hl=>by
  simp only [aDv] at hl;simp only [EB];cases hr:eH ops done ops 0 with
  |nil =>
   rw [hr] at hl;exact hF _ _ _ hl
  |cons i0 r0 =>
   rw [hr] at hl;refine aBA (fun i hi=>?_) hl;split at hi
   ·rename_i o ho;rw [ho];exact LY hC hY (fun e h nx=>TC hC hY hF n _ e h nx) hi
   ·cases hi
theorem ID (hC:Tw C C')(hY:Tw Y Y'){tn:Nat}{ops:List Oper}{F:o7}{F':KS}(hF:∀ e h nx,F e h nx=true→F' e h nx):∀ n done e h nx,KO A T C Y tn ops F n done e h nx=true→z7 A T C' Y' tn ops F' n done e h nx
 |0,_,e,h,nx,hl=>hF _ _ _ hl
 |n+1,done,e,h,nx,hl=>by
  simp only [KO] at hl;simp only [z7];cases hr:eH ops done ops 0 with
  |nil =>
   rw [hr] at hl;exact hF _ _ _ hl
  |cons i0 r0 =>
   rw [hr] at hl;simp only at hl ⊢;cases ho:fC ops i0 with
   |some o =>
    rw [ho] at hl;exact LY hC hY (fun e h nx=>ID hC hY hF n _ e h nx) hl
   |none=>rw [ho] at hl;cases hl
theorem OH (hC:Tw C C')(hY:Tw Y Y'){tn:Nat}{ops:Array Oper}{m:Nat}{e:List (Nat × Value)}{h:Heap}{nx:Nat}{F:o7}{F':KS}(hF:∀ e h nx,F e h nx=true→F' e h nx)(hl:Y1 A T C Y tn ops e h nx F=true):LK A T C' Y' tn (.fuel m) ops e h nx F':=by
 unfold Y1 at hl;unfold LK;refine ID hC hY (fun e0 h0 n0 hq=>?_) _ _ _ _ _ hl;rw [zI,zI,Bool.and_eq_true] at hq;refine⟨_,_,n0,TC hC hY (fun e1 h1 n1 hr=>?_) _ _ _ _ _ hq.1,hF _ _ _ hq.2⟩;exact⟨_,_,_,_,⟨rfl,rfl,rfl⟩,TV hr⟩
def TwR (R:VRB)(R':VR):Prop:=∀ g ps as bd (kn:o7) (kx:Nat→o7) (kr:o7) (kn':KS) (kx':Nat→KS) (kr':KS) e h nx,(∀ e h nx,kn e h nx=true→kn' e h nx)→(∀ i e h nx,kx i e h nx=true→kx' i e h nx)→(∀ e h nx,kr e h nx=true→kr' e h nx)→R g ps as bd kn kx kr e h nx=true→R' g ps as bd kn' kx' kr' e h nx
theorem FJ {F:o7→o7}{F':KS→KS}(hF:∀ (k:o7) (k':KS) e h nx,(∀ e h nx,k e h nx=true→k' e h nx)→F k e h nx=true→F' k' e h nx):∀ n e h nx,aA3 F n e h nx=true→DB F' n e h nx
 |0,_,_,_,hl=>by cases hl
 |n+1,e,h,nx,hl=>hF _ _ e h nx (fun e h nx=>FJ hF n e h nx) hl
theorem pH (hC:Tw C C')(hY:Tw Y Y'){tn:Nat}{PL:Nat→Option eR}{n:Nat}{R:VRB}{R':VR}(hR:TwR R R'):∀ (c:Code) (kn:o7) (kx:Nat→o7) (kr:o7) (kn':KS) (kx':Nat→KS) (kr':KS) e h nx,(∀ e h nx,kn e h nx=true→kn' e h nx)→(∀ i e h nx,kx i e h nx=true→kx' i e h nx)→(∀ e h nx,kr e h nx=true→kr' e h nx) →
  pM A T C Y tn PL n R c kn kx kr e h nx=true→gL A T C' Y' tn PL (.fuel n) R' c kn' kx' kr' e h nx:=by
 intro c
 induction c with
 |skip=>exact fun kn kx kr kn' kx' kr' e h nx h1 _ _ hl=>h1 _ _ _ hl
 |region id ops draw =>
  intro kn kx kr kn' kx' kr' e h nx h1 _ _ hl;simp only [pM] at hl;simp only [fU,jW];cases draw with
  |false=>exact JL hC hY h1 _ _ _ _ hl
  |true =>
   simp only at hl ⊢;split at hl
   ·first|exact EM hC hY h1 hl|(simp only [*];exact EM hC hY h1 hl)|(simp only [*];done)
   ·first|exact OH hC hY h1 hl|(simp only [*];exact OH hC hY h1 hl)
 |seq a b iha ihb=>exact fun kn kx kr kn' kx' kr' e h nx h1 h2 h3 hl=>iha _ kx kr _ kx' kr' e h nx (fun e h nx=>ihb kn kx kr kn' kx' kr' e h nx h1 h2 h3) h2 h3 hl
 |cond c t f iht ihf =>
  intro kn kx kr kn' kx' kr' e h nx h1 h2 h3 hl;simp only [pM] at hl;simp only [fU,jW];split at hl
  ·first|exact lQ (iht kn kx kr kn' kx' kr' e h nx h1 h2 h3) (ihf kn kx kr kn' kx' kr' e h nx h1 h2 h3) hl|(simp only [*];exact lQ (iht kn kx kr kn' kx' kr' e h nx h1 h2 h3) (ihf kn kx kr kn' kx' kr' e h nx h1 h2 h3) hl)|(simp only [*];done)
  ·cases hl
 |block id b ih =>
  intro kn kx kr kn' kx' kr' e h nx h1 h2 h3 hl
  first|refine ih kn _ kr kn' _ kr' e h nx h1 (fun j e h nx hk=>?_) h3 hl|(simp only [*];refine ih kn _ kr kn' _ kr' e h nx h1 (fun j e h nx hk=>?_) h3 hl)|(simp only [*];done)
  cases hb:Nat.beq j id with
  |true=>simp only [hb] at hk ⊢;exact h1 _ _ _ hk
  |false=>simp only [hb] at hk ⊢;exact h2 _ _ _ _ hk
 |loop b ih =>
  intro kn kx kr kn' kx' kr' e h nx h1 h2 h3 hl
  first|exact FJ (fun k k' e h nx hk=>ih k kx kr k' kx' kr' e h nx hk h2 h3) n e h nx hl|(simp only [*];exact FJ (fun k k' e h nx hk=>ih k kx kr k' kx' kr' e h nx hk h2 h3) n e h nx hl)|(simp only [*];done)
 |rangeFunc g ps as bd _ _=>exact fun kn kx kr kn' kx' kr' e h nx h1 h2 h3 hl=>hR g ps as bd kn kx kr kn' kx' kr' e h nx h1 h2 h3 hl
 |exit id=>exact fun kn kx kr kn' kx' kr' e h nx _ h2 _ hl=>h2 _ _ _ _ hl
 |ret=>exact fun kn kx kr kn' kx' kr' e h nx _ _ h3 hl=>h3 _ _ _ hl
 |label l=>exact fun kn kx kr kn' kx' kr' e h nx h1 _ _ hl=>h1 _ _ _ hl
 |scope b ih=>exact fun kn kx kr kn' kx' kr' e h nx h1 h2 h3 hl=>ih kn kx kr kn' kx' kr' e h nx h1 h2 h3 hl
 |goto l=>exact fun _ _ _ _ _ _ _ _ _ _ _ _ hl=>by cases hl
 |refuse s=>exact fun _ _ _ _ _ _ _ _ _ _ _ _ hl=>by cases hl
theorem rR {e:List (Nat × Value)}:∀ (l:List ResultVar) {F:List Value→Bool} {F':List Value→Prop},(∀ l,F l=true→F' l)→w9 T e h l F=true→fN T e h l F'
 |[],F,F',hF,hl=>hF _ hl
 |.tmp t::r,F,F',hF,hl=>bH (fun v=>rR r fun l=>hF _) hl
 |.cell a t::r,F,F',hF,hl=>bH (fun p=>OA fun v=>rR r fun l=>hF _) hl
theorem CY {fn:Func}(hK:∀ v h nx,K v h nx=true→K' v h nx)(e:List (Nat × Value))(h:Heap)(nx:Nat)(hl:aHk T fn K e h nx=true):BQ T fn K' e h nx:=by
 refine rR _ (fun l hl=>?_) hl;split at hl
 ·first|exact hK _ _ _ hl|(simp only [*];exact hK _ _ _ hl)|(simp only [*];done)
 ·split at hl
  ·rename_i hn;simp only [hn];exact hK _ _ _ hl
  ·cases hl
theorem HW (hC:Tw C C'){f tn:Nat}:TwR (ZS C f tn) (tG C' f tn):=by
 intro g ps as bd kn kx kr kn' kx' kr' e h nx h1 h2 h3 hl;refine bH (fun gv hl=>?_) hl;split at hl
 case h_2=>cases hl
 split at hl
 case h_2=>cases hl
 first|refine hC _ _ _ _ _ _ (fun v h' nx' hl=>?_) hl|(simp only [*];refine hC _ _ _ _ _ _ (fun v h' nx' hl=>?_) hl)|(simp only [*];done)
 split at hl
 case h_2=>cases hl
 rename_i l hl1 hl2;split at hl
 ·cases hl
 ·first|exact h1 _ _ _ hl|(simp only [*];exact h1 _ _ _ hl)|(simp only [*];done)
 ·first|exact h2 _ _ _ _ hl|(simp only [*];exact h2 _ _ _ _ hl)|(simp only [*];done)
 ·first|exact h3 _ _ _ hl|(simp only [*];exact h3 _ _ _ hl)|(simp only [*];done)
 ·cases hl
theorem tU {q:Nat}(hK:∀ v h nx,K v h nx=true→K' v h nx){j:Option Code}(e:List (Nat × Value))(h:Heap)(nx:Nat)(hl:aAp q K j e h nx=true):wE q K' j e h nx:=by
 unfold aAp at hl;unfold wE;split at hl
 ·first|exact hK _ _ _ hl|(simp only [*];exact hK _ _ _ hl)|(simp only [*];done)
 ·cases hl
theorem WZ (hC:Tw C C')(hY:Tw Y Y'){PL:Nat→Nat→Option eR}{n:Nat}:Tw (O6 A T C Y PL n) (qA A T C' Y' PL (.fuel n)):=by
 intro q args h nx K K' hK hl;unfold O6 at hl;unfold qA;split at hl
 case h_2=>cases hl
 split at hl
 case h_2=>cases hl
 first|refine pH hC hY (fun _ _ _ _ _ _ _ _ _ _ _ _ _ _ _ _ hl=>by cases hl) _ _ _ _ _ _ _ _ _ _ (fun e1 h1 nx1 hl=>?_) (fun _ _ _ _ hl=>by cases hl) (fun _ _ _ hl=>by cases hl) hl|(simp only [*];refine pH hC hY (fun _ _ _ _ _ _ _ _ _ _ _ _ _ _ _ _ hl=>by cases hl) _ _ _ _ _ _ _ _ _ _ (fun e1 h1 nx1 hl=>?_) (fun _ _ _ _ hl=>by cases hl) (fun _ _ _ hl=>by cases hl) hl)|(simp only [*];done)
 split at hl
 case h_2=>cases hl
 split at hl
 case h_2=>cases hl
 first|exact pH hC hY (fun _ _ _ _ _ _ _ _ _ _ _ _ _ _ _ _ hl=>by cases hl) _ _ _ _ _ _ _ _ _ _ (tU hK) (fun i=>tU hK) (tU hK) hl|(simp only [*];exact pH hC hY (fun _ _ _ _ _ _ _ _ _ _ _ _ _ _ _ _ hl=>by cases hl) _ _ _ _ _ _ _ _ _ _ (tU hK) (fun i=>tU hK) (tU hK) hl)|(simp only [*];done)
def TwX (c:CC)(XB:Nat→Option (List Value→Heap→Nat→sR→Bool)):Prop:=∀ f x xb,c.X f=some x→XB f=some xb→∀ args h nx (K:sR) (K':KE),(∀ v h nx,K v h nx=true→K' v h nx)→xb args h nx K=true→x args h nx K'
theorem XP {c:CC}{XB:Nat→Option (List Value→Heap→Nat→sR→Bool)}(hX:TwX c XB){n:Nat}(hC:Tw C C')(hY:Tw Y Y'):Tw (XX c XB n C Y) (sY c (some n) C' Y'):=by
 intro f args h nx K K' hK hl;unfold XX at hl;unfold sY;split at hl
 ·rename_i x hx;split at hl
  ·rename_i xb hxb
   first|exact hX f x xb hx hxb _ _ _ _ _ hK hl|(simp only [hx];exact hX f x xb hx hxb _ _ _ _ _ hK hl)
  ·cases hl
 rename_i hx
 first|skip|(simp only [hx])
 split at hl
 ·cases hl
 split at hl
 case h_2=>cases hl
 first|exact pH hC hY (HW hC) _ _ _ _ _ _ _ _ _ _ (CY fun v h nx=>hK v _ nx) (fun _ _ _ _ hl=>by cases hl) (CY fun v h nx=>hK v _ nx) hl|(simp only [*];exact pH hC hY (HW hC) _ _ _ _ _ _ _ _ _ _ (CY fun v h nx=>hK v _ nx) (fun _ _ _ _ hl=>by cases hl) (CY fun v h nx=>hK v _ nx) hl)
theorem aDf {PR:Nat→Bool}(hC:Tw C C'):Tw (aGD PR C) (frC PR C'):=by
 intro f args h nx K K' hK hl;unfold aGD at hl;unfold frC;cases hp:PR f with
 |false=>simp only [hp] at hl ⊢;exact hC _ _ _ _ _ _ hK hl
 |true =>
  simp only [hp] at hl ⊢;refine hC _ _ _ _ _ _ (fun v h' nx' hq=>?_) hl;unfold aHq at hq;unfold frK;split at hq
  ·rename_i hg;rw [hg];exact hK _ _ _ hq
  ·rename_i hg;rw [hg];exact hK _ _ _ hq
theorem pB {c:CC}{XB:Nat→Option (List Value→Heap→Nat→sR→Bool)}(hX:TwX c XB):∀ (d:Nat) (b:Bool),Tw (BC c XB d b) (sS c d b)
 |0,_=>fun _ _ _ _ _ _ _ hl=>by simp [BC] at hl
 |d+1,false=>aDf (XP hX (pB hX d false) (pB hX d true))
 |d+1,true=>WZ (pB hX d false) (pB hX d true)
end
end Go.Aw
end
