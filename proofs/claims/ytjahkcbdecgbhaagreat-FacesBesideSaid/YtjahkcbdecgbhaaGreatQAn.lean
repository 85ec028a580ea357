/-
  Parts of a proof. No condition.
-/
import Derived.Test.YtjahkcbdecgbhaaGreatQAm
set_option linter.unusedSimpArgs false
set_option linter.unusedVariables false
noncomputable section
namespace Go.Aw
open Go.RowKit
section
variable {A:Ar}{T:cU}{K:Value→Bool}{K':Value→Prop}
theorem bK {x:Option Value}(hK:∀ v,K v=true→K' v)(hl:qS x K=true):on x K':=by
 cases x with
 |none=>cases hl
 |some v=>exact hK v hl
theorem mG {b:Bool}{X Y:Unit→Bool}{X' Y':Unit→Prop}(h1:X ()=true→X' ())(h2:Y ()=true→Y' ())(hl:wbr b X Y=true):br b X' Y':=by
 cases b with
 |true=>exact h1 hl
 |false=>exact h2 hl
theorem bF {b X:Bool}{X':Prop}(h:X=true→X')(hl:eF b X=true):dJ b X':=by
 cases b with
 |true=>exact h hl
 |false=>cases hl
theorem Q4 {h:Heap}{t:TypeId}{x:Value}(hK:∀ v,K v=true→K' v)(hl:UE T h t x K=true):tO T h t x K':=by
 unfold UE at hl;unfold tO
 repeat' (split at hl)
 all_goals first|(cases hl;done)|(simp_all;done)
theorem H5 {t:TypeId}{x:Value}{f:Nat}(hK:∀ v,K v=true→K' v)(hl:xA T t x f K=true):iY T t x f K':=by
 unfold xA at hl;unfold iY
 repeat' (split at hl)
 all_goals first|(cases hl;done)|(simp_all;done)
theorem H4 {t:TypeId}{x ix:Value}(hK:∀ v,K v=true→K' v)(hl:wZ A T t x ix K=true):iV A T t x ix K':=by
 unfold wZ at hl;unfold iV
 repeat' (split at hl)
 all_goals first|(cases hl;done)|(simp_all;exact bF (hK _) hl;done)
theorem P8 {t:TypeId}{cs:List Value}{o:Nat}(hK:∀ v,K v=true→K' v)(hl:UY T t cs o K=true):CK T t cs o K':=by
 unfold UY at hl;unfold CK
 repeat' (split at hl)
 all_goals first|(cases hl;done)|(simp_all;done)
theorem Y6 {t:TypeId}{x:Value}{f:Nat}(hK:∀ v,K v=true→K' v)(hl:TV T t x f K=true):tU T t x f K':=by
 unfold TV at hl;unfold tU
 repeat' (split at hl)
 all_goals first|(cases hl;done)|(simp_all;exact P8 hK hl;done)
theorem ZI {t:TypeId}{x ix:Value}(hK:∀ v,K v=true→K' v)(hl:SO A T t x ix K=true):sV A T t x ix K':=by
 unfold SO at hl;unfold sV
 repeat' (split at hl)
 all_goals first|(cases hl;done)|(simp_all;exact bF (P8 hK) hl;done)|(simp_all;done)
theorem aEt {op:BinOp}{k:IntKind}{a b:Int}(hK:∀ v,K v=true→K' v)(hl:aJP A op k a b K=true):X3 A op k a b K':=by
 cases op <;> first|(cases hl;done)|exact hK _ hl|exact bF (hK _) hl
theorem aEI {op:BinOp}{t:TypeId}{x y:Value}(hK:∀ v,K v=true→K' v)(hl:aHA A T op t x y K=true):RS A T op t x y K':=by
 unfold aHA at hl;unfold RS
 repeat' (split at hl)
 all_goals first|(cases hl;done)|(simp_all;done)|(simp_all;exact aEt hK hl;done)|(simp_all;exact bF (hK _) hl;done)
theorem aDq {op:BinOp}{h:Heap}{t:TypeId}{x:Value}(hK:∀ v,K v=true→K' v)(hl:aJc T h op t x K=true):TM T h op t x K':=by
 unfold aJc at hl;unfold TM
 repeat' (split at hl)
 all_goals first|(cases hl;done)|(simp_all;done)
theorem aHL {op:UnOp}{x:Value}(hK:∀ v,K v=true→K' v)(hl:wun A op x K=true):vun A op x K':=by
 unfold wun at hl;unfold vun
 repeat' (split at hl)
 all_goals first|(cases hl;done)|(simp_all;done)|(simp_all;exact bF (hK _) hl;done)
theorem JL {t:TypeId}{ps:List (Nat × Value)}(hK:∀ v,K v=true→K' v)(hl:SK T t ps K=true):xY T t ps K':=by
 unfold SK at hl;unfold xY;cases ht:look T t with
 |none=>simp only [ht] at hl;cases hl
 |some ti =>
  simp only [ht] at hl ⊢;cases hk:ti.kind <;> simp only [hk] at hl ⊢ <;> cases hp:kT ps <;> (try simp only [hp] at hl ⊢)
  all_goals first
   |(simp at hl;done)
   |(split at hl <;> first|(cases hl;done)|(split at hl <;> first|(cases hl;done)|(simp only [*];first|done|exact hK _ hl)))
theorem CQ {b:Builtin}{ts:Array TypeId}{vs:List Value}(hK:∀ v,K v=true→K' v)(hl:ES A T b ts vs K=true):oC A T b ts vs K':=by
 unfold ES at hl;unfold oC
 repeat' (split at hl)
 all_goals first|(cases hl;done)|(simp_all;done)|(simp_all;exact bK hK hl;done)
theorem nX {env:List (Nat × Value)}{h:Heap}{op:Op}(hK:∀ v,K v=true→K' v)(hl:wF A T env h op K=true):jP A T env h op K':=by
 cases op with
 |move x=>exact bK hK hl
 |assign x=>exact bK hK hl
 |pick c a b =>
  refine bK (fun u hu=>?_) hl;split at hu
  ·first|exact mG (bK hK) (bK hK) hu|(simp only [*];exact mG (bK hK) (bK hK) hu)|(simp only [*];done)
  ·cases hu
 |nilCheck x =>
  first|refine bK (fun u hu=>?_) hl|(simp only [*];refine bK (fun u hu=>?_) hl)|(simp only [*];done)
  split at hu
  ·first|exact hK _ hu|(simp only [*];exact hK _ hu)|(simp only [*];done)
  ·first|exact hK _ hu|(simp only [*];exact hK _ hu)|(simp only [*];done)
  ·first|exact hK _ hu|(simp only [*];exact hK _ hu)|(simp only [*];done)
  ·cases hu
 |load t x=>exact bK (fun u=>Q4 hK) hl
 |fieldAddr s x f=>exact bK (fun u=>H5 hK) hl
 |field s x f=>exact bK (fun u=>Y6 hK) hl
 |indexAddr t x i=>exact bK (fun u=>bK fun j=>H4 hK) hl
 |index t x i=>exact bK (fun u=>bK fun j=>ZI hK) hl
 |binOp op t x y z =>
  refine bK (fun u=>bK fun v hl=>?_) hl;split at hl
  ·exact aDq hK hl
  ·rename_i hne;split
   ·exact (hne _ _ rfl).elim
   ·exact aEI hK hl
 |unOp op t x=>exact bK (fun u=>aHL hK) hl
 |convert s d x =>
  first|refine bK (fun u hu=>?_) hl|(simp only [*];refine bK (fun u hu=>?_) hl)|(simp only [*];done)
  split at hu
  ·first|exact bF (hK _) hu|(simp only [*];exact bF (hK _) hu)|(simp only [*];done)
  ·cases hu
 |makeFunc fn first cap =>
  simp only [wF] at hl;simp only [jP]
  repeat' (split at hl)
  all_goals first|(cases hl;done)|(simp_all;done)
 |extract x i =>
  first|refine bK (fun u hu=>?_) hl|(simp only [*];refine bK (fun u hu=>?_) hl)|(simp only [*];done)
  split at hu
  ·first|exact bK hK hu|(simp only [*];exact bK hK hu)|(simp only [*];done)
  ·cases hu
 |build t ps =>
  simp only [wF] at hl;simp only [jP];split at hl
  ·first|exact JL hK hl|(simp only [*];exact JL hK hl)|(simp only [*];done)
  ·cases hl
 |call c =>
  simp only [wF] at hl;simp only [jP];split at hl
  ·split at hl
   ·first|exact CQ hK hl|(simp only [*];exact CQ hK hl)|(simp only [*];done)
   ·cases hl
  ·cases hl
 |_=>cases hl
theorem EV {h:Heap}{t:TypeId}{x key:Value}{ok:Bool}(hK:∀ v,K v=true→K' v)(hl:DG A T h t x key ok K=true):oN A T h t x key ok K':=by
 unfold DG at hl;unfold oN
 repeat' (split at hl)
 all_goals first|(cases hl;done)|(simp_all;done)
end
section
variable {A:Ar}{T:cU}{K:sX}{K':KE}{h:Heap}{nx:Nat}
theorem Y1 {t:TypeId}{x v:Value}(hK:∀ v h nx,K v h nx=true→K' v h nx)(hl:TC T h nx t x v K=true):n8 T h nx t x v K':=by
 unfold TC at hl;unfold n8;split at hl
 case h_2=>cases hl
 split at hl
 case h_2=>cases hl
 cases v <;> (split at hl <;> first|(cases hl;done)|(simp only [*];first|done|exact bF (hK _ _ _) hl)|(rename_i hq;cases hq))
theorem aDU {v:Value}(hK:∀ v h nx,K v h nx=true→K' v h nx)(hl:aHa h nx v K=true):T3 h nx v K':=by
 unfold aHa at hl;unfold T3;split at hl
 ·cases hl
 ·first|exact hK _ _ _ hl|(simp only [*];exact hK _ _ _ hl)|(simp only [*];done)
theorem ZH {t:TypeId}(hK:∀ v h nx,K v h nx=true→K' v h nx)(hl:TN T h nx t K=true):xV T h nx t K':=by
 unfold TN at hl;unfold xV;split at hl
 ·first|exact hK _ _ _ hl|(simp only [*];exact hK _ _ _ hl)|(simp only [*];done)
 ·cases hl
theorem tJ {t:TypeId}{n:Nat}{ps:List (Nat × Value)}(hK:∀ v h nx,K v h nx=true→K' v h nx)(hl:sS T h nx t n ps K=true):eG T h nx t n ps K':=by
 unfold sS at hl;unfold eG;split at hl
 case h_2=>cases hl
 split at hl
 case h_2=>cases hl
 split at hl
 case h_2=>cases hl
 split at hl
 case h_2=>cases hl
 first|exact hK _ _ _ hl|(simp only [*];exact hK _ _ _ hl)|(simp only [*];done)
theorem aCd {n c:Nat}{hi:Option Value}{G:Nat→Bool}{G':Nat→Prop}(hG:∀ n,G n=true→G' n)(hl:whi A n c hi G=true):vhi A n c hi G':=by
 unfold whi at hl;unfold vhi;split at hl
 ·first|exact hG _ hl|(simp only [*];exact hG _ hl)|(simp only [*];done)
 ·first|exact bF (hG _) hl|(simp only [*];exact bF (hG _) hl)|(simp only [*];done)
 ·cases hl
theorem QD {b X:Bool}{X':Unit→Prop}{Y':Unit→Prop}(h:X=true→X' ())(hl:eF b X=true):br b X' Y':=by
 cases b with
 |true=>exact h hl
 |false=>cases hl
theorem uT {t:TypeId}{x:Value}{lo hi mx:Option Value}(hK:∀ v h nx,K v h nx=true→K' v h nx)(hl:K9 A T h nx t x lo hi mx K=true):tY A T h nx t x lo hi mx K':=by
 unfold K9 at hl;unfold tY;split at hl
 case h_2=>cases hl
 split at hl
 case h_1=>cases hl
 split at hl
 ·split at hl
  ·first|exact hK _ _ _ hl|(simp only [*];exact hK _ _ _ hl)|(simp only [*];done)
  ·cases hl
 ·first|refine aCd (fun hN hl=>?_) hl|(simp only [*];refine aCd (fun hN hl=>?_) hl)|(simp only [*];done)
  split at hl
  ·first|exact hK _ _ _ hl|(simp only [*];exact hK _ _ _ hl)|(simp only [*];done)
  ·first|refine bF (fun hl=>?_) hl|(simp only [*];refine bF (fun hl=>?_) hl)|(simp only [*];done)
   split at hl
   ·first|exact QD (hK _ _ _) hl|(simp only [*];exact QD (hK _ _ _) hl)|(simp only [*];done)
   ·cases hl
  ·cases hl
 ·split at hl
  ·first|exact hK _ _ _ hl|(simp only [*];exact hK _ _ _ hl)|(simp only [*];done)
  ·cases hl
 ·split at hl
  ·first|exact bF (hK _ _ _) hl|(simp only [*];exact bF (hK _ _ _) hl)
  ·first|exact bF (hK _ _ _) hl|(simp only [*];exact bF (hK _ _ _) hl)
  ·cases hl
 ·cases hl
theorem U8 {sz:Nat}{x:Value}{G:Nat→List Value→Bool}{G':Nat→List Value→Prop}(hG:∀ n l,G n l=true→G' n l)(hl:aJ9 h sz x G=true):IU h sz x G':=by
 unfold aJ9 at hl;unfold IU;split at hl
 ·first|exact hG _ _ hl|(simp only [*];exact hG _ _ hl)|(simp only [*];done)
 ·split at hl
  ·first|exact bF (hG _ _) hl|(simp only [*];exact bF (hG _ _) hl)|(simp only [*];done)
  ·split at hl
   ·first|exact hG _ _ hl|(simp only [*];exact hG _ _ hl)|(simp only [*];done)
   ·cases hl
  ·cases hl
 ·cases hl
theorem IS {t:TypeId}{l c:Value}(hK:∀ v h nx,K v h nx=true→K' v h nx)(hl:xT A T h nx t l c K=true):j9 A T h nx t l c K':=by
 unfold xT at hl;unfold j9;split at hl
 case h_2=>cases hl
 split at hl
 case h_2=>cases hl
 first|exact bF (hK _ _ _) hl|(simp only [*];exact bF (hK _ _ _) hl)
theorem EZ {st xt:TypeId}{s x:Value}(hK:∀ v h nx,K v h nx=true→K' v h nx)(hl:K4 A T h nx st xt s x K=true):lR A T h nx st xt s x K':=by
 unfold K4 at hl;unfold lR;split at hl
 case h_3=>cases hl
 case h_1 =>
  split at hl
  case h_2=>cases hl
  split at hl
  case h_2=>cases hl
  first|exact bF (hK _ _ _) hl|(simp only [*];exact bF (hK _ _ _) hl)
 split at hl
 case h_1=>cases hl
 split at hl
 case h_1=>cases hl
 first|refine U8 (fun m src hl=>?_) hl|(simp only [*];refine U8 (fun m src hl=>?_) hl)|(simp only [*];done)
 split at hl
 ·first|exact mG (hK _ _ _) (bF (hK _ _ _)) hl|(simp only [*];exact mG (hK _ _ _) (bF (hK _ _ _)) hl)|(simp only [*];done)
 ·split at hl
  ·split at hl
   ·first|exact mG (hK _ _ _) (bF (hK _ _ _)) hl|(simp only [*];exact mG (hK _ _ _) (bF (hK _ _ _)) hl)|(simp only [*];done)
   ·cases hl
  ·first|exact mG (bF (hK _ _ _)) (bF (hK _ _ _)) hl|(simp only [*];exact mG (bF (hK _ _ _)) (bF (hK _ _ _)) hl)|(simp only [*];done)
  ·cases hl
 ·cases hl
theorem IG {t:TypeId}{x key v:Value}(hK:∀ v h nx,K v h nx=true→K' v h nx)(hl:x9 A T h nx t x key v K=true):j8 A T h nx t x key v K':=by
 unfold x9 at hl;unfold j8;cases v <;> (split at hl <;> first|(cases hl;done)|(rename_i hq;cases hq;done)|(split at hl <;> first|(cases hl;done)|(split at hl <;> first|(cases hl;done)|(simp only [*];first|done|exact hK _ _ _ hl))))
theorem JV {t:TypeId}{x:Value}(hK:∀ v h nx,K v h nx=true→K' v h nx)(hl:T9 T h nx t x K=true):xR T h nx t x K':=by
 unfold T9 at hl;unfold xR;split at hl
 ·first|exact hK _ _ _ hl|(simp only [*];exact hK _ _ _ hl)|(simp only [*];done)
 ·split at hl
  ·first|exact hK _ _ _ hl|(simp only [*];exact hK _ _ _ hl)|(simp only [*];done)
  ·split at hl
   ·first|exact bF (hK _ _ _) hl|(simp only [*];exact bF (hK _ _ _) hl)|(simp only [*];done)
   ·cases hl
 ·cases hl
def Tw (C:wL)(C':VC):Prop:=∀ f args h nx (K:sX) (K':KE),(∀ v h nx,K v h nx=true→K' v h nx)→C f args h nx K=true→C' f args h nx K'
variable {C Y:wL}{C' Y':VC}
theorem MP (hC:Tw C C')(hY:Tw Y Y'){env:List (Nat × Value)}{op:Op}(hK:∀ v h nx,K v h nx=true→K' v h nx)(hl:wop A T C Y env h nx op K=true):qJ A T C' Y' env h nx op K':=by
 cases op with
 |store t x y=>exact bK (fun p=>bK fun v=>Y1 hK) hl
 |alloc t=>exact ZH hK hl
 |box t x=>exact bK (fun p=>aDU hK) hl
 |buildSlice t n ps =>
  simp only [wop] at hl;simp only [qJ];split at hl
  ·first|exact tJ hK hl|(simp only [*];exact tJ hK hl)|(simp only [*];done)
  ·cases hl
 |slice t x lo hi mx =>
  first|refine bK (fun v hl=>?_) hl|(simp only [*];refine bK (fun v hl=>?_) hl)|(simp only [*];done)
  split at hl
  ·first|exact uT hK hl|(simp only [*];exact uT hK hl)|(simp only [*];done)
  ·cases hl
 |makeSlice t l c=>exact bK (fun p=>bK fun v=>IS hK) hl
 |makeMap t x =>
  cases x with
  |none=>exact hK _ _ _ hl
  |some x=>simp [wop,wF] at hl
 |lookup t m k ok=>exact bK (fun x=>bK fun y=>EV fun v=>hK v h nx) hl
 |mapUpdate t m k u=>exact bK (fun x=>bK fun y=>bK fun v=>IG hK) hl
 |call c =>
  simp only [wop] at hl;simp only [qJ];split at hl
  ·split at hl
   ·first|exact EZ hK hl|(simp only [*];exact EZ hK hl)|(simp only [*];done)
   ·cases hl
  ·split at hl
   ·first|exact JV hK hl|(simp only [*];exact JV hK hl)|(simp only [*];done)
   ·cases hl
  ·first|exact nX (K':=fun v=>K' v h nx) (fun v=>hK v h nx) hl|(simp only [*];exact nX (K':=fun v=>K' v h nx) (fun v=>hK v h nx) hl)|(simp only [*];done)
  ·first|refine bK (fun fv hl=>?_) hl|(simp only [*];refine bK (fun fv hl=>?_) hl)|(simp only [*];done)
   split at hl
   case h_2=>cases hl
   split at hl
   ·split at hl
    ·first|exact hC _ _ _ _ _ _ hK hl|(simp only [*];exact hC _ _ _ _ _ _ hK hl)|(simp only [*];done)
    ·cases hl
   ·split at hl
    ·first|exact hY _ _ _ _ _ _ hK hl|(simp only [*];exact hY _ _ _ _ _ _ hK hl)|(simp only [*];done)
    ·cases hl
   ·cases hl
  ·cases hl
 |_=>simp only [wop] at hl;exact nX (K':=fun v=>K' v h nx) (fun v=>hK v h nx) hl
theorem nF {ops:List Oper}{env:List (Nat × Value)}{g:Option (Nat × Bool)}{F G:List (Nat × Value)→Bool}{F' G':List (Nat × Value)→Prop}(h1:∀ e,F e=true→F' e)(h2:∀ e,G e=true→G' e)(hl:A0 A ops env g F G=true):gD A ops env g F' G':=by
 unfold A0 at hl;unfold gD;split at hl
 ·first|exact h1 _ hl|(simp only [*];exact h1 _ hl)|(simp only [*];done)
 ·split at hl
  ·split at hl
   ·split at hl
    ·first|exact mG (h1 _) (h2 _) hl|(simp only [*];exact mG (h1 _) (h2 _) hl)|(simp only [*];done)
    ·first|exact h2 _ hl|(simp only [*];exact h2 _ hl)|(simp only [*];done)
    ·cases hl
   ·cases hl
  ·cases hl
theorem iP {tn:Nat}{env:List (Nat × Value)}{dst:Option Nat}{v:Value}{F:List (Nat × Value)→Bool}{F':List (Nat × Value)→Prop}(h1:∀ e,F e=true→F' e)(hl:GD tn env dst v F=true):eP tn env dst v F':=by
 unfold GD at hl;unfold eP;split at hl
 ·first|exact h1 _ hl|(simp only [*];exact h1 _ hl)|(simp only [*];done)
 ·split at hl
  ·first|exact h1 _ hl|(simp only [*];exact h1 _ hl)|(simp only [*];done)
  ·cases hl
theorem K0 (hC:Tw C C')(hY:Tw Y Y'){tn:Nat}{ops:List Oper}{F:qL}{F':KS}(hF:∀ e h nx,F e h nx=true→F' e h nx):∀ (l:List Oper) env h nx,aDy A T C Y tn ops l env h nx F=true→yG A T C' Y' tn ops l env h nx F'
 |[],_,_,_,hl=>hF _ _ _ hl
 |o::r,env,h,nx,hl=>nF (fun e=>MP hC hY fun v h' nx'=>iP fun e'=>K0 hC hY hF r e' h' nx') (fun e=>iP fun e'=>K0 hC hY hF r e' h nx) hl
theorem JM (hC:Tw C C'){env:List (Nat × Value)}{op:Op}{K:Value→Bool}{K':Value→Nat→Prop}(hK:∀ v,K v=true→K' v nx)(hl:EX A T C h nx env op K=true):jB A T C' h nx env op K':=by
 cases op with
 |load t x=>simp only [EX] at hl;exact nX hK hl
 |lookup t m k ok=>exact bK (fun x=>bK fun y=>EV hK) hl
 |slice t x lo hi mx =>
  refine bK (fun v hl=>?_) hl;split at hl
  ·first|refine uT (fun v h' nx' hl=>?_) hl|(simp only [*];refine uT (fun v h' nx' hl=>?_) hl)|(simp only [*];done)
   split at hl
   ·rename_i hb;rw [beq_true hb];exact hK _ hl
   ·cases hl
  ·cases hl
 |call c =>
  simp only [EX] at hl;simp only [jB];split at hl
  ·first|exact nX hK hl|(simp only [*];exact nX hK hl)|(simp only [*];done)
  ·first|refine bK (fun fv hl=>?_) hl|(simp only [*];refine bK (fun fv hl=>?_) hl)|(simp only [*];done)
   split at hl
   case h_2=>cases hl
   split at hl
   ·split at hl
    ·first|refine hC _ _ _ _ _ _ (fun v h' nx' hl=>?_) hl|(simp only [*];refine hC _ _ _ _ _ _ (fun v h' nx' hl=>?_) hl)|(simp only [*];done)
     split at hl
     ·rename_i hb;simp only [hb];exact hK _ hl
     ·cases hl
    ·cases hl
   ·cases hl
  ·cases hl
 |_=>simp only [EX] at hl;exact nX hK hl
theorem uJ (hC:Tw C C'){tn:Nat}{ops:List Oper}{F:List (Nat × Value)→Bool}{F':List (Nat × Value)→Nat→Prop}(hF:∀ e,F e=true→F' e nx):∀ (l:List Nat) env,NQ A T C tn ops h nx l env F=true→oY A T C' tn ops h l env nx F'
 |[],_,hl=>hF _ hl
 |i::r,env,hl=>by
  simp only [NQ] at hl;simp only [w9];split at hl
  ·cases hl
  ·first|exact nF (fun e=>JM hC fun v=>iP fun e'=>uJ hC hF r e') (fun e=>iP fun e'=>uJ hC hF r e') hl|(simp only [*];exact nF (fun e=>JM hC fun v=>iP fun e'=>uJ hC hF r e') (fun e=>iP fun e'=>uJ hC hF r e') hl)|(simp only [*];done)
theorem xZ {tn:Nat}{ops:List Oper}{F:qL}{F':KS}(hF:∀ e h nx,F e h nx=true→F' e h nx):∀ (l:List Nat) env h nx,DI T tn ops l env h nx F=true→lV T tn ops l env h nx F'
 |[],_,_,_,hl=>hF _ _ _ hl
 |i::r,env,h,nx,hl=>by
  simp only [DI] at hl;simp only [m9];split at hl
  ·split at hl
   ·first|exact iP (fun e'=>xZ hF r e' _ _) hl|(simp only [*];exact iP (fun e'=>xZ hF r e' _ _) hl)|(simp only [*];done)
   ·cases hl
  ·cases hl
theorem sU (hC:Tw C C')(hY:Tw Y Y'){tn:Nat}{ops:List Oper}{hJ:Heap}{F:qL}{F':KS}(hF:∀ e h nx,F e h nx=true→F' e h nx):∀ (l:List (Nat × Bool)) env h nx,PO A T C Y tn ops hJ l env h nx F=true→kL A T C' Y' tn ops hJ l env h nx F'
 |[],_,_,_,hl=>hF _ _ _ hl
 |(i,chk)::r,env,h,nx,hl=>by
  simp only [PO] at hl;simp only [xH];split at hl
  ·cases hl
  ·first|exact nF (fun e=>bF (MP hC hY fun v h' nx'=>iP fun e'=>sU hC hY hF r e' h' nx')) (fun e=>iP fun e'=>sU hC hY hF r e' h nx) hl|(simp only [*];exact nF (fun e=>bF (MP hC hY fun v h' nx'=>iP fun e'=>sU hC hY hF r e' h' nx')) (fun e=>iP fun e'=>sU hC hY hF r e' h nx) hl)|(simp only [*];done)
theorem E4 (hC:Tw C C')(hY:Tw Y Y'){tn:Nat}{ops:List Oper}{p:eZ}{env:List (Nat × Value)}{F:qL}{F':KS}(hF:∀ e h nx,F e h nx=true→F' e h nx)(hl:XN A T C Y tn ops p env h nx F=true):o5 A T C' Y' tn ops p env h nx F' :=
 uJ hC (fun e=>xZ (fun e h nx=>sU hC hY hF p.tail e h nx) p.allocs e h nx) p.head env hl
theorem PF (hC:Tw C C')(hY:Tw Y Y'){tn:Nat}{ops:List Oper}{o:Oper}{e:List (Nat × Value)}{h:Heap}{nx:Nat}{F:qL}{F':KS}(hF:∀ e h nx,F e h nx=true→F' e h nx)(hl:aAy A T C Y tn ops o e h nx F=true):pZ A T C' Y' tn ops o e h nx F' :=
 nF (fun e=>MP hC hY fun v h' nx'=>iP fun e'=>hF e' h' nx') (fun e=>iP fun e'=>hF e' h nx) hl
theorem aEP {F:Nat→Bool}{F':Nat→Prop}(hF:∀ i,F i=true→F' i){l:List Nat}(hl:wall F l=true):LI F' l:=by
 rw [y9]
 induction l with
 |nil=>intro i hi;cases hi
 |cons x r ih =>
  simp only [wall,Bool.and_eq_true] at hl;intro i hi;cases hi with
  |head=>exact hF _ hl.1
  |tail _ hm=>exact ih hl.2 i hm
theorem VF (hC:Tw C C')(hY:Tw Y Y'){tn:Nat}{ops:List Oper}{F:qL}{F':KS}(hF:∀ e h nx,F e h nx=true→F' e h nx):∀ n done e h nx,aFs A T C Y tn ops F n done e h nx=true→FH A T C' Y' tn ops F' n done e h nx
 |0,_,e,h,nx,hl=>hF _ _ _ hl
 |n+1,done,e,h,nx,hl=>by
  simp only [aFs] at hl;simp only [FH];cases hr:eY ops done ops 0 with
  |nil =>
   rw [hr] at hl;exact hF _ _ _ hl
  |cons i0 r0 =>
   rw [hr] at hl;refine aEP (fun i hi=>?_) hl;split at hi
   ·rename_i o ho;rw [ho];exact PF hC hY (fun e h nx=>VF hC hY hF n _ e h nx) hi
   ·cases hi
theorem J3 (hC:Tw C C')(hY:Tw Y Y'){tn:Nat}{ops:List Oper}{F:qL}{F':KS}(hF:∀ e h nx,F e h nx=true→F' e h nx):∀ n done e h nx,MR A T C Y tn ops F n done e h nx=true→BN A T C' Y' tn ops F' n done e h nx
 |0,_,e,h,nx,hl=>hF _ _ _ hl
 |n+1,done,e,h,nx,hl=>by
  simp only [MR] at hl;simp only [BN];cases hr:eY ops done ops 0 with
  |nil =>
   rw [hr] at hl;exact hF _ _ _ hl
  |cons i0 r0 =>
   rw [hr] at hl;simp only at hl ⊢;cases ho:fM ops i0 with
   |some o =>
    rw [ho] at hl;exact PF hC hY (fun e h nx=>J3 hC hY hF n _ e h nx) hl
   |none=>rw [ho] at hl;cases hl
theorem NM (hC:Tw C C')(hY:Tw Y Y'){tn:Nat}{ops:Array Oper}{m:Nat}{e:List (Nat × Value)}{h:Heap}{nx:Nat}{F:qL}{F':KS}(hF:∀ e h nx,F e h nx=true→F' e h nx)(hl:aCP A T C Y tn ops e h nx F=true):QQ A T C' Y' tn (.fuel m) ops e h nx F':=by
 unfold aCP at hl;unfold QQ;refine J3 hC hY (fun e0 h0 n0 hq=>?_) _ _ _ _ _ hl;rw [BD,BD,Bool.and_eq_true] at hq;refine⟨_,_,n0,VF hC hY (fun e1 h1 n1 hr=>?_) _ _ _ _ _ hq.1,hF _ _ _ hq.2⟩;exact⟨_,_,_,_,⟨rfl,rfl,rfl⟩,UH hr⟩
def TwR (R:VRB)(R':VR):Prop:=∀ g ps as bd (kn:qL) (kx:Nat→qL) (kr:qL) (kn':KS) (kx':Nat→KS) (kr':KS) e h nx,(∀ e h nx,kn e h nx=true→kn' e h nx)→(∀ i e h nx,kx i e h nx=true→kx' i e h nx)→(∀ e h nx,kr e h nx=true→kr' e h nx)→R g ps as bd kn kx kr e h nx=true→R' g ps as bd kn' kx' kr' e h nx
theorem FI {F:qL→qL}{F':KS→KS}(hF:∀ (k:qL) (k':KS) e h nx,(∀ e h nx,k e h nx=true→k' e h nx)→F k e h nx=true→F' k' e h nx):∀ n e h nx,aBh F n e h nx=true→G6 F' n e h nx
 |0,_,_,_,hl=>by cases hl
 |n+1,e,h,nx,hl=>hF _ _ e h nx (fun e h nx=>FI hF n e h nx) hl
theorem qE (hC:Tw C C')(hY:Tw Y Y'){tn:Nat}{PL:Nat→Option eZ}{n:Nat}{R:VRB}{R':VR}(hR:TwR R R'):∀ (c:Code) (kn:qL) (kx:Nat→qL) (kr:qL) (kn':KS) (kx':Nat→KS) (kr':KS) e h nx,(∀ e h nx,kn e h nx=true→kn' e h nx)→(∀ i e h nx,kx i e h nx=true→kx' i e h nx)→(∀ e h nx,kr e h nx=true→kr' e h nx) →
  qD A T C Y tn PL n R c kn kx kr e h nx=true→iL A T C' Y' tn PL (.fuel n) R' c kn' kx' kr' e h nx:=by
 intro c
 induction c with
 |skip=>exact fun kn kx kr kn' kx' kr' e h nx h1 _ _ hl=>h1 _ _ _ hl
 |region id ops draw =>
  intro kn kx kr kn' kx' kr' e h nx h1 _ _ hl;simp only [qD] at hl;simp only [gN,kC];cases draw with
  |false=>exact K0 hC hY h1 _ _ _ _ hl
  |true =>
   simp only at hl ⊢;split at hl
   ·first|exact E4 hC hY h1 hl|(simp only [*];exact E4 hC hY h1 hl)|(simp only [*];done)
   ·first|exact NM hC hY h1 hl|(simp only [*];exact NM hC hY h1 hl)
 |seq a b iha ihb=>exact fun kn kx kr kn' kx' kr' e h nx h1 h2 h3 hl=>iha _ kx kr _ kx' kr' e h nx (fun e h nx=>ihb kn kx kr kn' kx' kr' e h nx h1 h2 h3) h2 h3 hl
 |cond c t f iht ihf =>
  intro kn kx kr kn' kx' kr' e h nx h1 h2 h3 hl;simp only [qD] at hl;simp only [gN,kC];split at hl
  ·first|exact mG (iht kn kx kr kn' kx' kr' e h nx h1 h2 h3) (ihf kn kx kr kn' kx' kr' e h nx h1 h2 h3) hl|(simp only [*];exact mG (iht kn kx kr kn' kx' kr' e h nx h1 h2 h3) (ihf kn kx kr kn' kx' kr' e h nx h1 h2 h3) hl)|(simp only [*];done)
  ·cases hl
 |block id b ih =>
  intro kn kx kr kn' kx' kr' e h nx h1 h2 h3 hl
  first|refine ih kn _ kr kn' _ kr' e h nx h1 (fun j e h nx hk=>?_) h3 hl|(simp only [*];refine ih kn _ kr kn' _ kr' e h nx h1 (fun j e h nx hk=>?_) h3 hl)|(simp only [*];done)
  cases hb:Nat.beq j id with
  |true=>simp only [hb] at hk ⊢;exact h1 _ _ _ hk
  |false=>simp only [hb] at hk ⊢;exact h2 _ _ _ _ hk
 |loop b ih =>
  intro kn kx kr kn' kx' kr' e h nx h1 h2 h3 hl
  first|exact FI (fun k k' e h nx hk=>ih k kx kr k' kx' kr' e h nx hk h2 h3) n e h nx hl|(simp only [*];exact FI (fun k k' e h nx hk=>ih k kx kr k' kx' kr' e h nx hk h2 h3) n e h nx hl)|(simp only [*];done)
 |rangeFunc g ps as bd _ _=>exact fun kn kx kr kn' kx' kr' e h nx h1 h2 h3 hl=>hR g ps as bd kn kx kr kn' kx' kr' e h nx h1 h2 h3 hl
 |exit id=>exact fun kn kx kr kn' kx' kr' e h nx _ h2 _ hl=>h2 _ _ _ _ hl
 |ret=>exact fun kn kx kr kn' kx' kr' e h nx _ _ h3 hl=>h3 _ _ _ hl
 |label l=>exact fun kn kx kr kn' kx' kr' e h nx h1 _ _ hl=>h1 _ _ _ hl
 |scope b ih=>exact fun kn kx kr kn' kx' kr' e h nx h1 h2 h3 hl=>ih kn kx kr kn' kx' kr' e h nx h1 h2 h3 hl
 |goto l=>exact fun _ _ _ _ _ _ _ _ _ _ _ _ hl=>by cases hl
 |refuse s=>exact fun _ _ _ _ _ _ _ _ _ _ _ _ hl=>by cases hl
theorem uF {e:List (Nat × Value)}:∀ (l:List ResultVar) {F:List Value→Bool} {F':List Value→Prop},(∀ l,F l=true→F' l)→zV T e h l F=true→gB T e h l F'
 |[],F,F',hF,hl=>hF _ hl
 |.tmp t::r,F,F',hF,hl=>bK (fun v=>uF r fun l=>hF _) hl
 |.cell a t::r,F,F',hF,hl=>bK (fun p=>Q4 fun v=>uF r fun l=>hF _) hl
theorem DS {fn:Func}(hK:∀ v h nx,K v h nx=true→K' v h nx)(e:List (Nat × Value))(h:Heap)(nx:Nat)(hl:aKX T fn K e h nx=true):C2 T fn K' e h nx:=by
 refine uF _ (fun l hl=>?_) hl;split at hl
 ·first|exact hK _ _ _ hl|(simp only [*];exact hK _ _ _ hl)|(simp only [*];done)
 ·split at hl
  ·rename_i hn;simp only [hn];exact hK _ _ _ hl
  ·cases hl
theorem JZ (hC:Tw C C'){f tn:Nat}:TwR (aAL C f tn) (uM C' f tn):=by
 intro g ps as bd kn kx kr kn' kx' kr' e h nx h1 h2 h3 hl;refine bK (fun gv hl=>?_) hl;split at hl
 case h_2=>cases hl
 split at hl
 case h_2=>cases hl
 first|refine hC _ _ _ _ _ _ (fun v h' nx' hl=>?_) hl|(simp only [*];refine hC _ _ _ _ _ _ (fun v h' nx' hl=>?_) hl)|(simp only [*];done)
 split at hl
 case h_2=>cases hl
 rename_i l hl1 hl2;split at hl
 ·cases hl
 ·first|exact h1 _ _ _ hl|(simp only [*];exact h1 _ _ _ hl)|(simp only [*];done)
 ·first|exact h2 _ _ _ _ hl|(simp only [*];exact h2 _ _ _ _ hl)|(simp only [*];done)
 ·first|exact h3 _ _ _ hl|(simp only [*];exact h3 _ _ _ hl)|(simp only [*];done)
 ·cases hl
theorem uY {q:Nat}(hK:∀ v h nx,K v h nx=true→K' v h nx){j:Option Code}(e:List (Nat × Value))(h:Heap)(nx:Nat)(hl:aAG q K j e h nx=true):xF q K' j e h nx:=by
 unfold aAG at hl;unfold xF;split at hl
 ·first|exact hK _ _ _ hl|(simp only [*];exact hK _ _ _ hl)|(simp only [*];done)
 ·cases hl
theorem YO (hC:Tw C C')(hY:Tw Y Y'){PL:Nat→Nat→Option eZ}{n:Nat}:Tw (S0 A T C Y PL n) (rP A T C' Y' PL (.fuel n)):=by
 intro q args h nx K K' hK hl;unfold S0 at hl;unfold rP;split at hl
 case h_2=>cases hl
 split at hl
 case h_2=>cases hl
 first|refine qE hC hY (fun _ _ _ _ _ _ _ _ _ _ _ _ _ _ _ _ hl=>by cases hl) _ _ _ _ _ _ _ _ _ _ (fun e1 h1 nx1 hl=>?_) (fun _ _ _ _ hl=>by cases hl) (fun _ _ _ hl=>by cases hl) hl|(simp only [*];refine qE hC hY (fun _ _ _ _ _ _ _ _ _ _ _ _ _ _ _ _ hl=>by cases hl) _ _ _ _ _ _ _ _ _ _ (fun e1 h1 nx1 hl=>?_) (fun _ _ _ _ hl=>by cases hl) (fun _ _ _ hl=>by cases hl) hl)|(simp only [*];done)
 split at hl
 case h_2=>cases hl
 split at hl
 case h_2=>cases hl
 first|exact qE hC hY (fun _ _ _ _ _ _ _ _ _ _ _ _ _ _ _ _ hl=>by cases hl) _ _ _ _ _ _ _ _ _ _ (uY hK) (fun i=>uY hK) (uY hK) hl|(simp only [*];exact qE hC hY (fun _ _ _ _ _ _ _ _ _ _ _ _ _ _ _ _ hl=>by cases hl) _ _ _ _ _ _ _ _ _ _ (uY hK) (fun i=>uY hK) (uY hK) hl)|(simp only [*];done)
def TwX (c:C0)(XB:Nat→Option (List Value→Heap→Nat→sX→Bool)):Prop:=∀ f x xb,c.X f=some x→XB f=some xb→∀ args h nx (K:sX) (K':KE),(∀ v h nx,K v h nx=true→K' v h nx)→xb args h nx K=true→x args h nx K'
theorem aBz {c:C0}{XB:Nat→Option (List Value→Heap→Nat→sX→Bool)}(hX:TwX c XB){n:Nat}(hC:Tw C C')(hY:Tw Y Y'):Tw (aAc c XB n C Y) (sE c (some n) C' Y'):=by
 intro f args h nx K K' hK hl;unfold aAc at hl;unfold sE;split at hl
 ·rename_i x hx;split at hl
  ·rename_i xb hxb
   first|exact hX f x xb hx hxb _ _ _ _ _ hK hl|(simp only [hx];exact hX f x xb hx hxb _ _ _ _ _ hK hl)
  ·cases hl
 rename_i hx
 first|skip|(simp only [hx])
 split at hl
 ·cases hl
 split at hl
 case h_2=>cases hl
 first|exact qE hC hY (JZ hC) _ _ _ _ _ _ _ _ _ _ (DS fun v h nx=>hK v _ nx) (fun _ _ _ _ hl=>by cases hl) (DS fun v h nx=>hK v _ nx) hl|(simp only [*];exact qE hC hY (JZ hC) _ _ _ _ _ _ _ _ _ _ (DS fun v h nx=>hK v _ nx) (fun _ _ _ _ hl=>by cases hl) (DS fun v h nx=>hK v _ nx) hl)
theorem aFy {PR:Nat→Bool}(hC:Tw C C'):Tw (aHu PR C) (frC PR C'):=by
 intro f args h nx K K' hK hl;unfold aHu at hl;unfold frC;cases hp:PR f with
 |false=>simp only [hp] at hl ⊢;exact hC _ _ _ _ _ _ hK hl
 |true =>
  simp only [hp] at hl ⊢;refine hC _ _ _ _ _ _ (fun v h' nx' hq=>?_) hl;unfold aJX at hq;unfold frK;split at hq
  ·rename_i hg;rw [hg];exact hK _ _ _ hq
  ·rename_i hg;rw [hg];exact hK _ _ _ hq
theorem qA {c:C0}{XB:Nat→Option (List Value→Heap→Nat→sX→Bool)}(hX:TwX c XB):∀ (d:Nat) (b:Bool),Tw (CI c XB d b) (uC c d b)
 |0,_=>fun _ _ _ _ _ _ _ hl=>by simp [CI] at hl
 |d+1,false=>aFy (aBz hX (qA hX d false) (qA hX d true))
 |d+1,true=>YO (qA hX d false) (qA hX d true)
end
def LY (n:Nat):aX→aX
 |.cells wr g sz cs=>.cells wr g sz (cs.map (bP (fun k=>n+k)))
 |o=>o
def kQ (n:Nat):Heap→Heap
 |[]=>[]
 |(k,o)::r=>(n+k,LY n o)::kQ n r
theorem iU {n:Nat}(h:Heap){k:Nat}{o:aX}(hl:look (kQ n h) k=some o):∃ j o',k=n+j∧look h j=some o'∧o=LY n o':=by
 induction h with
 |nil=>cases hl
 |cons x r ih =>
  obtain⟨j,q⟩:=x;simp only [kQ,aE] at hl;split at hl
  ·rename_i hb;injection hl with hl;exact⟨j,q,(beq_true hb).symm,by rw [aE,show Nat.beq j j=true from Nat.beq_refl j],hl.symm⟩
  ·rename_i hb;obtain⟨j',o',h1,h2,h3⟩:=ih hl;refine⟨j',o',h1,?_,h3⟩;have:Nat.beq j j'=false:=by
    cases hb':Nat.beq j j' with
    |false=>rfl
    |true =>
     have:=beq_true hb';subst this;rw [h1,Nat.beq_refl] at hb;cases hb
   rw [aE,this];exact h2
def O4:aX→Bool
 |.cells true _ _ _=>true
 |_=>false
def lD:Heap→Bool
 |[]=>true
 |(_,o)::r=>O4 o&&lD r
theorem YM {h:Heap}(hh:lD h=true){k:Nat}{o:aX}(hl:look h k=some o):∃ g sz cs,o=.cells true g sz cs:=by
 induction h with
 |nil=>cases hl
 |cons x r ih =>
  obtain⟨j,q⟩:=x;simp only [lD,Bool.and_eq_true] at hh;rw [aE] at hl;split at hl
  ·injection hl with hl;subst hl;cases q with
   |cells wr g sz cs =>
    cases wr with
    |true=>exact⟨g,sz,cs,rfl⟩
    |false=>simp [O4] at hh
   |_=>simp [O4] at hh
  ·exact ih hh.2 hl
def D6:aX→Bool
 |.cells _ _ _ _=>true
 |_=>false
def fN:Heap→Bool
 |[]=>true
 |(_,o)::r=>D6 o&&fN r
theorem oU {h:Heap}(hh:fN h=true){k:Nat}{o:aX}(hl:look h k=some o):∃ wr g sz cs,o=.cells wr g sz cs:=by
 induction h with
 |nil=>cases hl
 |cons x r ih =>
  obtain⟨j,q⟩:=x;simp only [fN,Bool.and_eq_true] at hh;rw [aE] at hl;split at hl
  ·injection hl with hl;subst hl;cases q with
   |cells wr g sz cs=>exact⟨wr,g,sz,cs,rfl⟩
   |_=>simp [D6] at hh
  ·exact ih hh.2 hl
theorem LP (o:aX):o.closed.alone=false:=by cases o <;> rfl
section
variable {ι:Nat→Loc}{σ:Nat→Nat}{n m:Nat}
theorem zE {v:Value}(h:oK (fun k=>ι (σ k)) m v)(hs:∀ k,k<m→σ k<n):oK ι n (dV (lW σ) v):=by
 cases v with
 |pointer a=>cases a with
  |none=>trivial
  |some a=>exact⟨hs _ h.1,h.2⟩
 |slice a l c=>cases a with
  |none=>trivial
  |some a=>exact⟨hs _ h.1,fun hf=>h.2 hf⟩
 |map a=>cases a with
  |none=>trivial
  |some a=>exact⟨hs _ h.1,h.2⟩
 |agg c=>exact h.elim
 |tuple c=>exact h.elim
 |_=>trivial
theorem j4 {v:Value}(h:iM (fun k=>ι (σ k)) m v)(hs:∀ k,k<m→σ k<n):iM ι n (bR (lW σ) v):=by
 cases v with
 |func f a c =>
  refine⟨?_,fun x hx=>?_⟩
  ·have h1:=h.1;cases f with
   |yield l=>exact⟨hs _ h1.1,h1.2⟩
   |_=>trivial
  ·simp only [Array.toList_map,List.mem_map] at hx;obtain⟨y,hy,rfl⟩:=hx;exact zE (h.2 y hy) hs
 |pointer a=>have:=zE (ι:=ι) (σ:=σ) (n:=n) (m:=m) (v:=.pointer a);cases a <;> exact this h hs
 |slice a l c=>have:=zE (ι:=ι) (σ:=σ) (n:=n) (m:=m) (v:=.slice a l c);cases a <;> exact this h hs
 |map a=>have:=zE (ι:=ι) (σ:=σ) (n:=n) (m:=m) (v:=.map a);cases a <;> exact this h hs
 |agg c=>exact h.elim
 |tuple c=>exact h.elim
 |_=>trivial
theorem qR {v:Value}(h:lC (fun k=>ι (σ k)) m v)(hs:∀ k,k<m→σ k<n):lC ι n (dU (lW σ) v):=by
 cases v with
 |agg cs =>
  intro x hx;simp only [Array.toList_map,List.mem_map] at hx;obtain⟨y,hy,rfl⟩:=hx;exact j4 (h y hy) hs
 |pointer a=>have:=j4 (ι:=ι) (σ:=σ) (n:=n) (m:=m) (v:=.pointer a);cases a <;> exact this h hs
 |slice a l c=>have:=j4 (ι:=ι) (σ:=σ) (n:=n) (m:=m) (v:=.slice a l c);cases a <;> exact this h hs
 |map a=>have:=j4 (ι:=ι) (σ:=σ) (n:=n) (m:=m) (v:=.map a);cases a <;> exact this h hs
 |func f a c=>exact j4 (ι:=ι) (σ:=σ) (n:=n) (m:=m) (v:=.func f a c) h hs
 |tuple c=>exact h.elim
 |_=>trivial
theorem aCc {v:Value}(h:fA (fun k=>ι (σ k)) m v)(hs:∀ k,k<m→σ k<n):fA ι n (iQ σ v):=by
 unfold iQ;cases v with
 |tuple cs =>
  intro x hx;simp only [Array.toList_map,List.mem_map] at hx;obtain⟨y,hy,rfl⟩:=hx;exact qR (h y hy) hs
 |pointer a=>have:=qR (ι:=ι) (σ:=σ) (n:=n) (m:=m) (v:=.pointer a);cases a <;> exact this h hs
 |slice a l c=>have:=qR (ι:=ι) (σ:=σ) (n:=n) (m:=m) (v:=.slice a l c);cases a <;> exact this h hs
 |map a=>have:=qR (ι:=ι) (σ:=σ) (n:=n) (m:=m) (v:=.map a);cases a <;> exact this h hs
 |func f a c=>exact qR (ι:=ι) (σ:=σ) (n:=n) (m:=m) (v:=.func f a c) h hs
 |agg c=>exact qR (ι:=ι) (σ:=σ) (n:=n) (m:=m) (v:=.agg c) h hs
 |_=>trivial
theorem aG4 {v:Value}(h:gS v=true):gS (bR (lW σ) v)=true:=by rw [kM h];exact h
end
theorem QS {B nx n0 m:Nat}{w w':World}{ι ι0:Nat→Loc}{h h1:Heap}{v1:Value}{K Q:KE}{u:Value}(H:aT ι B h nx w)
  (hQ:∀ v h' nx',Q v h' nx'→∃ ρ,qH 0 ρ [(0,v1)] h1 m [(0,v)] h' nx') (how:fN h1=true) (hal:lD h1=true∨∀ k o,look h k=some o→o.alone=false) (hK:K (iQ (fun k=>nx+k) v1) (app (kQ nx h1) h) (nx+m))
  (hr:Ret w.heap.size w ι0 n0 Q (.returned u) w'):Ret B w ι nx K (.returned u) w':=by
 obtain⟨v,h',nx',ι',q1,q2,q3,q4,q5,q6,q7⟩:=hr;obtain⟨ρ,r⟩:=hQ v h' nx' q1;have hv:v=iQ ρ v1∧BB m v1:=by
  obtain⟨e1,e2⟩:=r.env 0 v1 rfl;injection e1 with e1;exact⟨e1,e2⟩
 obtain⟨rfl,hnm⟩:=hv;obtain⟨ιN,hloc,hold⟩:∃ ιN:Nat→Loc,(∀ j,ιN (nx+j)=ι' (ρ j))∧∀ k,k<nx→ιN k=ι k :=
  ⟨fun k=>if k<nx then ι k else ι' (ρ (k - nx)),fun j=>by
   have:¬ (nx+j<nx):=(by omega);simp only [if_neg this,Nat.add_sub_cancel_left],fun k hk=>if_pos hk⟩
 have hι:(fun k=>ιN (nx+k))=fun k=>ι' (ρ k):=funext hloc;have hsm:fA (fun k=>ι' (ρ k)) m v1:=DY q2 hnm;have R1:=r.aHR q3;have H':aT ι B h nx w':=H.ext q4;have hscn:fA ιN (nx+m) (iQ (fun k=>nx+k) v1):=by
  refine aCc (m:=m) ?_ (fun k hk=>by omega);rw [hι];exact hsm
 have hcase:∀ k o,look (app (kQ nx h1) h) k=some o→(look h k=some o∧k<nx)∨(∃ j wr g sz cs,k=nx+j∧look h1 j=some (.cells wr g sz cs)∧o=.cells wr g sz (cs.map (bP (fun k=>nx+k)))):=by
  intro k o hk;rw [fD] at hk;split at hk
  ·rename_i o' ho;injection hk with hk;subst hk;obtain⟨j,o',e1,e2,e3⟩:=iU h1 ho;obtain⟨wr,g,sz,cs,rfl⟩:=oU how e2;exact .inr ⟨j,wr,g,sz,cs,e1,e2,e3⟩
  ·exact .inl ⟨hk,H.low k _ hk⟩
 refine⟨iQ (fun k=>nx+k) v1,_,_,ιN,hK,hscn,⟨?_,?_,?_,H'.size,?_⟩,q4.mono H.size,hold,by omega,?_⟩
 ·intro k o hk;rcases hcase k o hk with ⟨h2,h3⟩|⟨j,wr,g,sz,cs,rfl,h2,rfl⟩
  ·rw [hold k h3];exact (H'.obj k o h2).names (H'.sc k o h2) hold
  ·rw [hloc];have ho:=R1.obj j _ h2;have hsc:=R1.sc j _ h2;cases hl:ι' (ρ j) with
   |nil p =>
    rw [hl] at ho;have hcz:cs=[]∧(sz=0∨wr=true→p.isSome=true):=(by cases wr <;> exact ho);obtain⟨hc0,hz⟩:=hcz;subst hc0;cases wr <;> exact⟨rfl,hz⟩
   |lay b off e =>
    rw [hl] at ho;have hcell:∀ {Φ:Nat→Value→Prop},(∀ (i:Nat) y,cs[i]? = some y→Φ i (bR (fun k=>ι' (ρ k)) y))→∀ (i:Nat) v,(cs.map (bP (fun k=>nx+k)))[i]? = some v→Φ i (bR ιN v):=by
     intro Φ hΦ i v hv;rw [List.getElem?_map] at hv;cases hy:cs[i]? with
     |none=>rw [hy] at hv;cases hv
     |some y =>
      rw [hy] at hv;injection hv with hv;subst hv;have hsy:=hsc y (List.mem_of_getElem? hy);have hin:iM ιN (nx+m) (bR (lW (fun k=>nx+k)) y):=by
       refine j4 (m:=m) ?_ (fun k hk=>by omega);rw [hι];exact hsy
      have:=hΦ i y hy;rw [← hι,← jI hin] at this;exact this
    have hgg:∀ {b:Bool},(b=true→dG cs=true)→b=true→dG (cs.map (bP (fun k=>nx+k)))=true:=fun h hg=>rQ fun v hv=>by
     obtain⟨y,hy,rfl⟩:=List.mem_map.1 hv;exact aG4 (aW (h hg) hy)
    cases wr with
    |true =>
     obtain⟨a1,a2,arr,t,a3,a4,a5⟩:=ho;exact⟨Nat.le_trans H.size a1,hgg a2,arr,t,a3,by simpa using a4,hcell (Φ:=fun i v=>arr[off+i]? = some v) a5⟩
    |false =>
     obtain⟨a1,a2,a5⟩:=ho;exact⟨a1,hgg a2,hcell (Φ:=fun i v=>w'.cell? ⟨b,off+i,none⟩=some v) a5⟩
 ·intro k k' o o' hk hk' hne ha b hb;rcases hcase k o hk with ⟨h2,h3⟩|⟨j,wr,g,sz,cs,rfl,h2,rfl⟩
  ·rw [hold k h3] at hb;rcases hcase k' o' hk' with ⟨h4,h5⟩|⟨j',wr',g',sz',cs',rfl,h4,rfl⟩
   ·rw [hold k' h5];exact H'.sep k k' o o' h2 h4 hne ha b hb
   ·rw [hloc];intro hb';have hlt:=(H.obj k o h2).lt hb;rcases hal with how2|hal
    ·obtain⟨g2,sz2,cs2,e2⟩:=YM how2 h4;have ho:=R1.obj j' _ h4;cases hl:ι' (ρ j') with
     |nil p=>rw [hl] at hb';cases hb'
     |lay b2 off e =>
      rw [hl] at hb';rw [hl,e2] at ho;have:b2=b:=(by simpa [Loc.DF] using hb');have:=ho.1;omega
    ·rw [hal k o h2] at ha;cases ha
  ·rw [hloc] at hb;rcases hcase k' o' hk' with ⟨h4,h5⟩|⟨j',wr',g',sz',cs',rfl,h4,rfl⟩
   ·rw [hold k' h5];intro hb';have hlt:=(H.obj k' o' h4).lt hb';have ho:=R1.obj j _ h2;cases hl:ι' (ρ j) with
    |nil p=>rw [hl] at hb;cases hb
    |lay b2 off e =>
     rw [hl] at ho hb;have:b2=b:=(by simpa [Loc.DF] using hb);have hwr:wr=true:=ha;subst hwr;have:=ho.1;omega
   ·rw [hloc];exact R1.sep j j' _ _ h2 h4 (fun e=>hne (by rw [e])) ha b hb
 ·intro k o hk;rcases hcase k o hk with ⟨h2,h3⟩|⟨j,wr,g,sz,cs,rfl,h2,rfl⟩
  ·omega
  ·have:=R1.low j _ h2;omega
 ·intro k o hk;rcases hcase k o hk with ⟨h2,h3⟩|⟨j,wr,g,sz,cs,rfl,h2,rfl⟩
  ·exact (H'.sc k o h2).mono (by omega) hold
  ·intro v hv;obtain⟨y,hy,rfl⟩:=List.mem_map.1 hv;refine j4 (m:=m) ?_ (fun k hk=>by omega);rw [hι];exact R1.sc j _ h2 y hy
 ·rw [q7,EM q2,EM hscn,hι]
def In (args0:List Value)(h0:Heap)(n0:Nat)(args:List Value)(h:Heap)(nx:Nat):Prop :=
 ∀ ι B w,aT ι B h nx w→(∀ v∈args,fA ι nx v)→∃ ι0,args.map (tr ι)=args0.map (tr ι0)∧(∀ v∈args0,fA ι0 n0 v)∧aT ι0 w.heap.size h0 n0 w
abbrev Sp:=List Value→Heap→Nat→Value→Heap→Nat→Prop
def mY (h1 h:Heap):Heap:=match lD h1 with|true=>h|false=>eU h
def xOf (S:Sp):List Value→Heap→Nat→KE→Prop:=fun args h nx K =>
 ∃ args0 h0 n0 v1 h1 m,S args0 h0 n0 v1 h1 m∧In args0 h0 n0 args h nx∧K (iQ (fun k=>nx+k) v1) (app (kQ nx h1) (mY h1 h)) (nx+m)
def F8 (v1:Value)(h1:Heap)(m:Nat):KE:=fun v h' nx'=>∃ ρ,qH 0 ρ [(0,v1)] h1 m [(0,v)] h' nx'
theorem gC {P:Program}{C:VC}{f:Nat}{S:Sp}(hC:bH P C)(hS:∀ args0 h0 n0 v1 h1 m,S args0 h0 n0 v1 h1 m→fN h1=true∧∃ Q:KE,C f args0 h0 n0 Q∧∀ v h nx,Q v h nx→F8 v1 h1 m v h nx):cH P f (xOf S):=by
 refine⟨fun args h nx K hx ι B w H hs=>?_,fun args h nx K hx=>?_⟩
 ·obtain⟨args0,h0,n0,v1,h1,m,s1,s2,s3⟩:=hx;obtain⟨how,Q,hc,hq⟩:=hS _ _ _ _ _ _ s1;obtain⟨ι0,e1,e2,e3⟩:=s2 ι B w H hs;obtain⟨c1,c2⟩:=hC f args0 h0 n0 _ hc ι0 w.heap.size w e3 e2;refine⟨c1,?_⟩;rw [e1];refine CallsIn.mono c2 fun e w' hr=>?_;cases e with
  |returned u =>
   unfold mY at s3;cases ho:lD h1 with
   |true=>rw [ho] at s3;exact QS H (fun v h' nx' q=>hq v h' nx' q) how (.inl ho) s3 hr
   |false =>
    rw [ho] at s3;refine QS (H.shut.down H.size) (fun v h' nx' q=>hq v h' nx' q) how (.inr fun k o hk=>?_) s3 hr;rw [gO] at hk;cases hq:look h k with
    |none=>rw [hq] at hk;cases hk
    |some q =>
     rw [hq] at hk;injection hk with hk;subst hk;exact LP q
  |_=>exact hr.elim
 ·obtain⟨args0,h0,n0,v1,h1,m,s1,s2,s3⟩:=hx;exact⟨_,_,_,s3,fun K' hk=>⟨args0,h0,n0,v1,h1,m,s1,s2,hk⟩⟩
theorem bV {α:Type}{k:Nat}{o:α}{p:Prop}(h:look [] k=some o):p:=by cases h
theorem kD {v:Value}(hv:gT v=true){h':Heap}{nx':Nat}:F8 v [] 0 v h' nx' :=
 ⟨id,⟨fun t u hu=>by
  rw [aE] at hu;split at hu
  ·rename_i hb;injection hu with hu;subst hu;exact⟨by rw [aE,hb];show some v=some (iQ id v);rw [iQ,gY hv],cY hv⟩
  ·exact bV hu,fun k o hk=>bV hk,fun k k' o o' hk=>bV hk,fun k hk=>rfl,Nat.le_refl _⟩⟩
theorem mA {σ:Nat→Nat}{v:Value}(hv:gT v=true):iQ σ v=v:=gY hv
theorem aHK {args:List Value}(hg:∀ v∈args,gT v=true){h:Heap}{nx:Nat}:In args [] 0 args h nx:=by
 intro ι B w H hs;refine⟨ι,rfl,fun v hv=>cY (hg v hv),⟨fun k o hk=>bV hk,fun k k' o o' hk=>bV hk,fun k o hk=>bV hk,Nat.le_refl _,fun k o hk=>bV hk⟩⟩
end Go.Aw
end
