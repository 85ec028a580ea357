/-
  Parts of a proof. No condition.
-/
import Derived.Test.YticajjhjehljpaaGreatQAm
set_option linter.unusedSimpArgs false
set_option linter.unusedVariables false
noncomputable section
namespace Go.Aw
open Go.RowKit
section
variable {A:Ar}{T:cF}{K:Value→Bool}{K':Value→Prop}
theorem bD {x:Option Value}(hK:∀ v,K v=true→K' v)(hl:o8 x K=true):on x K':=by
 cases x with
 |none=>cases hl
 |some v=>exact hK v hl
theorem lJ {b:Bool}{X Y:Unit→Bool}{X' Y':Unit→Prop}(h1:X ()=true→X' ())(h2:Y ()=true→Y' ())(hl:wbr b X Y=true):br b X' Y':=by
 cases b with
 |true=>exact h1 hl
 |false=>exact h2 hl
theorem bB {b X:Bool}{X':Prop}(h:X=true→X')(hl:dR b X=true):dI b X':=by
 cases b with
 |true=>exact h hl
 |false=>cases hl
theorem N4 {h:Heap}{t:TypeId}{x:Value}(hK:∀ v,K v=true→K' v)(hl:UL T h t x K=true):rR T h t x K':=by
 unfold UL at hl;unfold rR
 repeat' (split at hl)
 all_goals first|(cases hl;done)|(simp_all;done)
theorem GM {t:TypeId}{x:Value}{f:Nat}(hK:∀ v,K v=true→K' v)(hl:vD T t x f K=true):gR T t x f K':=by
 unfold vD at hl;unfold gR
 repeat' (split at hl)
 all_goals first|(cases hl;done)|(simp_all;done)
theorem GL {t:TypeId}{x ix:Value}(hK:∀ v,K v=true→K' v)(hl:vI A T t x ix K=true):gE A T t x ix K':=by
 unfold vI at hl;unfold gE
 repeat' (split at hl)
 all_goals first|(cases hl;done)|(simp_all;exact bB (hK _) hl;done)
theorem MR {t:TypeId}{cs:List Value}{o:Nat}(hK:∀ v,K v=true→K' v)(hl:TL T t cs o K=true):AP T t cs o K':=by
 unfold TL at hl;unfold AP
 repeat' (split at hl)
 all_goals first|(cases hl;done)|(simp_all;done)
theorem W7 {t:TypeId}{x:Value}{f:Nat}(hK:∀ v,K v=true→K' v)(hl:QA T t x f K=true):r7 T t x f K':=by
 unfold QA at hl;unfold r7
 repeat' (split at hl)
 all_goals first|(cases hl;done)|(simp_all;exact MR hK hl;done)
theorem W3 {t:TypeId}{x ix:Value}(hK:∀ v,K v=true→K' v)(hl:OZ A T t x ix K=true):qO A T t x ix K':=by
 unfold OZ at hl;unfold qO
 repeat' (split at hl)
 all_goals first|(cases hl;done)|(simp_all;exact bB (MR hK) hl;done)|(simp_all;done)
theorem aBW {op:BinOp}{k:IntKind}{a b:Int}(hK:∀ v,K v=true→K' v)(hl:aHt A op k a b K=true):U2 A op k a b K':=by
 cases op <;> first|(cases hl;done)|exact hK _ hl|exact bB (hK _) hl
theorem aDc {op:BinOp}{t:TypeId}{x y:Value}(hK:∀ v,K v=true→K' v)(hl:aFO A T op t x y K=true):PQ A T op t x y K':=by
 unfold aFO at hl;unfold PQ
 repeat' (split at hl)
 all_goals first|(cases hl;done)|(simp_all;done)|(simp_all;exact aBW hK hl;done)|(simp_all;exact bB (hK _) hl;done)
theorem aDp {op:BinOp}{h:Heap}{t:TypeId}{x:Value}(hK:∀ v,K v=true→K' v)(hl:aGL T h op t x K=true):PJ T h op t x K':=by
 unfold aGL at hl;unfold PJ
 repeat' (split at hl)
 all_goals first|(cases hl;done)|(simp_all;done)
theorem aFa {op:UnOp}{x:Value}(hK:∀ v,K v=true→K' v)(hl:wun A op x K=true):vun A op x K':=by
 unfold wun at hl;unfold vun
 repeat' (split at hl)
 all_goals first|(cases hl;done)|(simp_all;done)|(simp_all;exact bB (hK _) hl;done)
theorem HV {t:TypeId}{ps:List (Nat × Value)}(hK:∀ v,K v=true→K' v)(hl:O5 T t ps K=true):vR T t ps K':=by
 unfold O5 at hl;unfold vR;cases ht:look T t with
 |none=>simp only [ht] at hl;cases hl
 |some ti =>
  simp only [ht] at hl ⊢;cases hk:ti.kind <;> simp only [hk] at hl ⊢ <;> cases hp:jN ps <;> (try simp only [hp] at hl ⊢)
  all_goals first
   |(simp at hl;done)
   |(split at hl <;> first|(cases hl;done)|(split at hl <;> first|(cases hl;done)|(simp only [*];first|done|exact hK _ hl)))
theorem AG {b:Builtin}{ts:Array TypeId}{vs:List Value}(hK:∀ v,K v=true→K' v)(hl:EE A T b ts vs K=true):mS A T b ts vs K':=by
 unfold EE at hl;unfold mS
 repeat' (split at hl)
 all_goals first|(cases hl;done)|(simp_all;done)|(simp_all;exact bD hK hl;done)
theorem mM {env:List (Nat × Value)}{h:Heap}{op:Op}(hK:∀ v,K v=true→K' v)(hl:tZ A T env h op K=true):iH A T env h op K':=by
 cases op with
 |move x=>exact bD hK hl
 |assign x=>exact bD hK hl
 |pick c a b =>
  refine bD (fun u hu=>?_) hl;split at hu
  ·first|exact lJ (bD hK) (bD hK) hu|(simp only [*];exact lJ (bD hK) (bD hK) hu)|(simp only [*];done)
  ·cases hu
 |nilCheck x =>
  first|refine bD (fun u hu=>?_) hl|(simp only [*];refine bD (fun u hu=>?_) hl)|(simp only [*];done)
  split at hu
  ·first|exact hK _ hu|(simp only [*];exact hK _ hu)|(simp only [*];done)
  ·first|exact hK _ hu|(simp only [*];exact hK _ hu)|(simp only [*];done)
  ·first|exact hK _ hu|(simp only [*];exact hK _ hu)|(simp only [*];done)
  ·cases hu
 |load t x=>exact bD (fun u=>N4 hK) hl
 |fieldAddr s x f=>exact bD (fun u=>GM hK) hl
 |field s x f=>exact bD (fun u=>W7 hK) hl
 |indexAddr t x i=>exact bD (fun u=>bD fun j=>GL hK) hl
 |index t x i=>exact bD (fun u=>bD fun j=>W3 hK) hl
 |binOp op t x y z =>
  refine bD (fun u=>bD fun v hl=>?_) hl;split at hl
  ·exact aDp hK hl
  ·rename_i hne;split
   ·exact (hne _ _ rfl).elim
   ·exact aDc hK hl
 |unOp op t x=>exact bD (fun u=>aFa hK) hl
 |convert s d x =>
  first|refine bD (fun u hu=>?_) hl|(simp only [*];refine bD (fun u hu=>?_) hl)|(simp only [*];done)
  split at hu
  ·first|exact bB (hK _) hu|(simp only [*];exact bB (hK _) hu)|(simp only [*];done)
  ·cases hu
 |makeFunc fn first cap =>
  simp only [tZ] at hl;simp only [iH]
  repeat' (split at hl)
  all_goals first|(cases hl;done)|(simp_all;done)
 |extract x i =>
  first|refine bD (fun u hu=>?_) hl|(simp only [*];refine bD (fun u hu=>?_) hl)|(simp only [*];done)
  split at hu
  ·first|exact bD hK hu|(simp only [*];exact bD hK hu)|(simp only [*];done)
  ·cases hu
 |build t ps =>
  simp only [tZ] at hl;simp only [iH];split at hl
  ·first|exact HV hK hl|(simp only [*];exact HV hK hl)|(simp only [*];done)
  ·cases hl
 |call c =>
  simp only [tZ] at hl;simp only [iH];split at hl
  ·split at hl
   ·first|exact AG hK hl|(simp only [*];exact AG hK hl)|(simp only [*];done)
   ·cases hl
  ·cases hl
 |_=>cases hl
theorem DT {h:Heap}{t:TypeId}{x key:Value}{ok:Bool}(hK:∀ v,K v=true→K' v)(hl:CG A T h t x key ok K=true):nC A T h t x key ok K':=by
 unfold CG at hl;unfold nC
 repeat' (split at hl)
 all_goals first|(cases hl;done)|(simp_all;done)
end
section
variable {A:Ar}{T:cF}{K:qM}{K':KE}{h:Heap}{nx:Nat}
theorem W2 {t:TypeId}{x v:Value}(hK:∀ v h nx,K v h nx=true→K' v h nx)(hl:RL T h nx t x v K=true):mU T h nx t x v K':=by
 unfold RL at hl;unfold mU;split at hl
 case h_2=>cases hl
 split at hl
 case h_2=>cases hl
 cases v <;> (split at hl <;> first|(cases hl;done)|(simp only [*];first|done|exact bB (hK _ _ _) hl)|(rename_i hq;cases hq))
theorem aCI {v:Value}(hK:∀ v h nx,K v h nx=true→K' v h nx)(hl:aF3 h nx v K=true):OX h nx v K':=by
 unfold aF3 at hl;unfold OX;split at hl
 ·cases hl
 ·first|exact hK _ _ _ hl|(simp only [*];exact hK _ _ _ hl)|(simp only [*];done)
theorem VU {t:TypeId}(hK:∀ v h nx,K v h nx=true→K' v h nx)(hl:PH T h nx t K=true):uU T h nx t K':=by
 unfold PH at hl;unfold uU;split at hl
 ·first|exact hK _ _ _ hl|(simp only [*];exact hK _ _ _ hl)|(simp only [*];done)
 ·cases hl
theorem qY {t:TypeId}{n:Nat}{ps:List (Nat × Value)}(hK:∀ v h nx,K v h nx=true→K' v h nx)(hl:rW T h nx t n ps K=true):dQ T h nx t n ps K':=by
 unfold rW at hl;unfold dQ;split at hl
 case h_2=>cases hl
 split at hl
 case h_2=>cases hl
 split at hl
 case h_2=>cases hl
 split at hl
 case h_2=>cases hl
 first|exact hK _ _ _ hl|(simp only [*];exact hK _ _ _ hl)|(simp only [*];done)
theorem YG {n c:Nat}{hi:Option Value}{G:Nat→Bool}{G':Nat→Prop}(hG:∀ n,G n=true→G' n)(hl:whi A n c hi G=true):vhi A n c hi G':=by
 unfold whi at hl;unfold vhi;split at hl
 ·first|exact hG _ hl|(simp only [*];exact hG _ hl)|(simp only [*];done)
 ·first|exact bB (hG _) hl|(simp only [*];exact bB (hG _) hl)|(simp only [*];done)
 ·cases hl
theorem MK {b X:Bool}{X':Unit→Prop}{Y':Unit→Prop}(h:X=true→X' ())(hl:dR b X=true):br b X' Y':=by
 cases b with
 |true=>exact h hl
 |false=>cases hl
theorem sR {t:TypeId}{x:Value}{lo hi mx:Option Value}(hK:∀ v h nx,K v h nx=true→K' v h nx)(hl:JA A T h nx t x lo hi mx K=true):rF A T h nx t x lo hi mx K':=by
 unfold JA at hl;unfold rF;split at hl
 case h_2=>cases hl
 split at hl
 case h_1=>cases hl
 split at hl
 ·split at hl
  ·first|exact hK _ _ _ hl|(simp only [*];exact hK _ _ _ hl)|(simp only [*];done)
  ·cases hl
 ·first|refine YG (fun hN hl=>?_) hl|(simp only [*];refine YG (fun hN hl=>?_) hl)|(simp only [*];done)
  split at hl
  ·first|exact hK _ _ _ hl|(simp only [*];exact hK _ _ _ hl)|(simp only [*];done)
  ·first|refine bB (fun hl=>?_) hl|(simp only [*];refine bB (fun hl=>?_) hl)|(simp only [*];done)
   split at hl
   ·first|exact MK (hK _ _ _) hl|(simp only [*];exact MK (hK _ _ _) hl)|(simp only [*];done)
   ·cases hl
  ·cases hl
 ·split at hl
  ·first|exact hK _ _ _ hl|(simp only [*];exact hK _ _ _ hl)|(simp only [*];done)
  ·cases hl
 ·split at hl
  ·first|exact bB (hK _ _ _) hl|(simp only [*];exact bB (hK _ _ _) hl)
  ·first|exact bB (hK _ _ _) hl|(simp only [*];exact bB (hK _ _ _) hl)
  ·cases hl
 ·cases hl
theorem TF {sz:Nat}{x:Value}{G:Nat→List Value→Bool}{G':Nat→List Value→Prop}(hG:∀ n l,G n l=true→G' n l)(hl:aFK h sz x G=true):GD h sz x G':=by
 unfold aFK at hl;unfold GD;split at hl
 ·first|exact hG _ _ hl|(simp only [*];exact hG _ _ hl)|(simp only [*];done)
 ·split at hl
  ·first|exact bB (hG _ _) hl|(simp only [*];exact bB (hG _ _) hl)|(simp only [*];done)
  ·split at hl
   ·first|exact hG _ _ hl|(simp only [*];exact hG _ _ hl)|(simp only [*];done)
   ·cases hl
  ·cases hl
 ·cases hl
theorem F4 {t:TypeId}{l c:Value}(hK:∀ v h nx,K v h nx=true→K' v h nx)(hl:vJ A T h nx t l c K=true):jB A T h nx t l c K':=by
 unfold vJ at hl;unfold jB;split at hl
 case h_2=>cases hl
 split at hl
 case h_2=>cases hl
 first|exact bB (hK _ _ _) hl|(simp only [*];exact bB (hK _ _ _) hl)
theorem C2 {st xt:TypeId}{s x:Value}(hK:∀ v h nx,K v h nx=true→K' v h nx)(hl:KQ A T h nx st xt s x K=true):kM A T h nx st xt s x K':=by
 unfold KQ at hl;unfold kM;split at hl
 case h_3=>cases hl
 case h_1 =>
  split at hl
  case h_2=>cases hl
  split at hl
  case h_2=>cases hl
  first|exact bB (hK _ _ _) hl|(simp only [*];exact bB (hK _ _ _) hl)
 split at hl
 case h_1=>cases hl
 split at hl
 case h_1=>cases hl
 first|refine TF (fun m src hl=>?_) hl|(simp only [*];refine TF (fun m src hl=>?_) hl)|(simp only [*];done)
 split at hl
 ·first|exact lJ (hK _ _ _) (bB (hK _ _ _)) hl|(simp only [*];exact lJ (hK _ _ _) (bB (hK _ _ _)) hl)|(simp only [*];done)
 ·split at hl
  ·split at hl
   ·first|exact lJ (hK _ _ _) (bB (hK _ _ _)) hl|(simp only [*];exact lJ (hK _ _ _) (bB (hK _ _ _)) hl)|(simp only [*];done)
   ·cases hl
  ·first|exact lJ (bB (hK _ _ _)) (bB (hK _ _ _)) hl|(simp only [*];exact lJ (bB (hK _ _ _)) (bB (hK _ _ _)) hl)|(simp only [*];done)
  ·cases hl
 ·cases hl
theorem GR {t:TypeId}{x key v:Value}(hK:∀ v h nx,K v h nx=true→K' v h nx)(hl:u9 A T h nx t x key v K=true):iZ A T h nx t x key v K':=by
 unfold u9 at hl;unfold iZ;cases v <;> (split at hl <;> first|(cases hl;done)|(rename_i hq;cases hq;done)|(split at hl <;> first|(cases hl;done)|(split at hl <;> first|(cases hl;done)|(simp only [*];first|done|exact hK _ _ _ hl))))
theorem H6 {t:TypeId}{x:Value}(hK:∀ v h nx,K v h nx=true→K' v h nx)(hl:PC T h nx t x K=true):uM T h nx t x K':=by
 unfold PC at hl;unfold uM;split at hl
 ·first|exact hK _ _ _ hl|(simp only [*];exact hK _ _ _ hl)|(simp only [*];done)
 ·split at hl
  ·first|exact hK _ _ _ hl|(simp only [*];exact hK _ _ _ hl)|(simp only [*];done)
  ·split at hl
   ·first|exact bB (hK _ _ _) hl|(simp only [*];exact bB (hK _ _ _) hl)|(simp only [*];done)
   ·cases hl
 ·cases hl
def Tw (C:tO)(C':VC):Prop:=∀ f args h nx (K:qM) (K':KE),(∀ v h nx,K v h nx=true→K' v h nx)→C f args h nx K=true→C' f args h nx K'
variable {C Y:tO}{C' Y':VC}
theorem JV (hC:Tw C C')(hY:Tw Y Y'){env:List (Nat × Value)}{op:Op}(hK:∀ v h nx,K v h nx=true→K' v h nx)(hl:wop A T C Y env h nx op K=true):oZ A T C' Y' env h nx op K':=by
 cases op with
 |store t x y=>exact bD (fun p=>bD fun v=>W2 hK) hl
 |alloc t=>exact VU hK hl
 |box t x=>exact bD (fun p=>aCI hK) hl
 |buildSlice t n ps =>
  simp only [wop] at hl;simp only [oZ];split at hl
  ·first|exact qY hK hl|(simp only [*];exact qY hK hl)|(simp only [*];done)
  ·cases hl
 |slice t x lo hi mx =>
  first|refine bD (fun v hl=>?_) hl|(simp only [*];refine bD (fun v hl=>?_) hl)|(simp only [*];done)
  split at hl
  ·first|exact sR hK hl|(simp only [*];exact sR hK hl)|(simp only [*];done)
  ·cases hl
 |makeSlice t l c=>exact bD (fun p=>bD fun v=>F4 hK) hl
 |makeMap t x =>
  cases x with
  |none=>exact hK _ _ _ hl
  |some x=>simp [wop,tZ] at hl
 |lookup t m k ok=>exact bD (fun x=>bD fun y=>DT fun v=>hK v h nx) hl
 |mapUpdate t m k u=>exact bD (fun x=>bD fun y=>bD fun v=>GR hK) hl
 |call c =>
  simp only [wop] at hl;simp only [oZ];split at hl
  ·split at hl
   ·first|exact C2 hK hl|(simp only [*];exact C2 hK hl)|(simp only [*];done)
   ·cases hl
  ·split at hl
   ·first|exact H6 hK hl|(simp only [*];exact H6 hK hl)|(simp only [*];done)
   ·cases hl
  ·first|exact mM (K':=fun v=>K' v h nx) (fun v=>hK v h nx) hl|(simp only [*];exact mM (K':=fun v=>K' v h nx) (fun v=>hK v h nx) hl)|(simp only [*];done)
  ·first|refine bD (fun fv hl=>?_) hl|(simp only [*];refine bD (fun fv hl=>?_) hl)|(simp only [*];done)
   split at hl
   case h_2=>cases hl
   split at hl
   ·split at hl
    ·first|exact hC _ _ _ _ _ _ hK hl|(simp only [*];exact hC _ _ _ _ _ _ hK hl)|(simp only [*];done)
    ·cases hl
   ·split at hl
    ·first|exact hY _ _ _ _ _ _ hK hl|(simp only [*];exact hY _ _ _ _ _ _ hK hl)|(simp only [*];done)
    ·cases hl
   ·cases hl
  ·cases hl
 |_=>simp only [wop] at hl;exact mM (K':=fun v=>K' v h nx) (fun v=>hK v h nx) hl
theorem lY {ops:List Oper}{env:List (Nat × Value)}{g:Option (Nat × Bool)}{F G:List (Nat × Value)→Bool}{F' G':List (Nat × Value)→Prop}(h1:∀ e,F e=true→F' e)(h2:∀ e,G e=true→G' e)(hl:z9 A ops env g F G=true):fB A ops env g F' G':=by
 unfold z9 at hl;unfold fB;split at hl
 ·first|exact h1 _ hl|(simp only [*];exact h1 _ hl)|(simp only [*];done)
 ·split at hl
  ·split at hl
   ·split at hl
    ·first|exact lJ (h1 _) (h2 _) hl|(simp only [*];exact lJ (h1 _) (h2 _) hl)|(simp only [*];done)
    ·first|exact h2 _ hl|(simp only [*];exact h2 _ hl)|(simp only [*];done)
    ·cases hl
   ·cases hl
  ·cases hl
theorem fZ {tn:Nat}{env:List (Nat × Value)}{dst:Option Nat}{v:Value}{F:List (Nat × Value)→Bool}{F':List (Nat × Value)→Prop}(h1:∀ e,F e=true→F' e)(hl:EG tn env dst v F=true):dZ tn env dst v F':=by
 unfold EG at hl;unfold dZ;split at hl
 ·first|exact h1 _ hl|(simp only [*];exact h1 _ hl)|(simp only [*];done)
 ·split at hl
  ·first|exact h1 _ hl|(simp only [*];exact h1 _ hl)|(simp only [*];done)
  ·cases hl
theorem KZ (hC:Tw C C')(hY:Tw Y Y'){tn:Nat}{ops:List Oper}{F:oR}{F':KS}(hF:∀ e h nx,F e h nx=true→F' e h nx):∀ (l:List Oper) env h nx,aBG A T C Y tn ops l env h nx F=true→yK A T C' Y' tn ops l env h nx F'
 |[],_,_,_,hl=>hF _ _ _ hl
 |o::r,env,h,nx,hl=>lY (fun e=>JV hC hY fun v h' nx'=>fZ fun e'=>KZ hC hY hF r e' h' nx') (fun e=>fZ fun e'=>KZ hC hY hF r e' h nx) hl
theorem G0 (hC:Tw C C'){env:List (Nat × Value)}{op:Op}{K:Value→Bool}{K':Value→Nat→Prop}(hK:∀ v,K v=true→K' v nx)(hl:DJ A T C h nx env op K=true):gK A T C' h nx env op K':=by
 cases op with
 |load t x=>simp only [DJ] at hl;exact mM hK hl
 |lookup t m k ok=>exact bD (fun x=>bD fun y=>DT hK) hl
 |slice t x lo hi mx =>
  refine bD (fun v hl=>?_) hl;split at hl
  ·first|refine sR (fun v h' nx' hl=>?_) hl|(simp only [*];refine sR (fun v h' nx' hl=>?_) hl)|(simp only [*];done)
   split at hl
   ·rename_i hb;rw [beq_true hb];exact hK _ hl
   ·cases hl
  ·cases hl
 |call c =>
  simp only [DJ] at hl;simp only [gK];split at hl
  ·first|exact mM hK hl|(simp only [*];exact mM hK hl)|(simp only [*];done)
  ·first|refine bD (fun fv hl=>?_) hl|(simp only [*];refine bD (fun fv hl=>?_) hl)|(simp only [*];done)
   split at hl
   case h_2=>cases hl
   split at hl
   ·split at hl
    ·first|refine hC _ _ _ _ _ _ (fun v h' nx' hl=>?_) hl|(simp only [*];refine hC _ _ _ _ _ _ (fun v h' nx' hl=>?_) hl)|(simp only [*];done)
     split at hl
     ·rename_i hb;simp only [hb];exact hK _ hl
     ·cases hl
    ·cases hl
   ·cases hl
  ·cases hl
 |_=>simp only [DJ] at hl;exact mM hK hl
theorem rD (hC:Tw C C'){tn:Nat}{ops:List Oper}{F:List (Nat × Value)→Bool}{F':List (Nat × Value)→Nat→Prop}(hF:∀ e,F e=true→F' e nx):∀ (l:List Nat) env,LU A T C tn ops h nx l env F=true→nK A T C' tn ops h l env nx F'
 |[],_,hl=>hF _ hl
 |i::r,env,hl=>by
  simp only [LU] at hl;simp only [vQ];split at hl
  ·cases hl
  ·first|exact lY (fun e=>G0 hC fun v=>fZ fun e'=>rD hC hF r e') (fun e=>fZ fun e'=>rD hC hF r e') hl|(simp only [*];exact lY (fun e=>G0 hC fun v=>fZ fun e'=>rD hC hF r e') (fun e=>fZ fun e'=>rD hC hF r e') hl)|(simp only [*];done)
theorem uS {tn:Nat}{ops:List Oper}{F:oR}{F':KS}(hF:∀ e h nx,F e h nx=true→F' e h nx):∀ (l:List Nat) env h nx,CK T tn ops l env h nx F=true→kS T tn ops l env h nx F'
 |[],_,_,_,hl=>hF _ _ _ hl
 |i::r,env,h,nx,hl=>by
  simp only [CK] at hl;simp only [lN];split at hl
  ·split at hl
   ·first|exact fZ (fun e'=>uS hF r e' _ _) hl|(simp only [*];exact fZ (fun e'=>uS hF r e' _ _) hl)|(simp only [*];done)
   ·cases hl
  ·cases hl
theorem sE (hC:Tw C C')(hY:Tw Y Y'){tn:Nat}{ops:List Oper}{hJ:Heap}{F:oR}{F':KS}(hF:∀ e h nx,F e h nx=true→F' e h nx):∀ (l:List (Nat × Bool)) env h nx,MM A T C Y tn ops hJ l env h nx F=true→jG A T C' Y' tn ops hJ l env h nx F'
 |[],_,_,_,hl=>hF _ _ _ hl
 |(i,chk)::r,env,h,nx,hl=>by
  simp only [MM] at hl;simp only [uK];split at hl
  ·cases hl
  ·first|exact lY (fun e=>bB (JV hC hY fun v h' nx'=>fZ fun e'=>sE hC hY hF r e' h' nx')) (fun e=>fZ fun e'=>sE hC hY hF r e' h nx) hl|(simp only [*];exact lY (fun e=>bB (JV hC hY fun v h' nx'=>fZ fun e'=>sE hC hY hF r e' h' nx')) (fun e=>fZ fun e'=>sE hC hY hF r e' h nx) hl)|(simp only [*];done)
theorem FL (hC:Tw C C')(hY:Tw Y Y'){tn:Nat}{ops:List Oper}{p:eM}{env:List (Nat × Value)}{F:oR}{F':KS}(hF:∀ e h nx,F e h nx=true→F' e h nx)(hl:T8 A T C Y tn ops p env h nx F=true):nO A T C' Y' tn ops p env h nx F' :=
 rD hC (fun e=>uS (fun e h nx=>sE hC hY hF p.tail e h nx) p.allocs e h nx) p.head env hl
theorem OC (hC:Tw C C')(hY:Tw Y Y'){tn:Nat}{ops:List Oper}{o:Oper}{e:List (Nat × Value)}{h:Heap}{nx:Nat}{F:oR}{F':KS}(hF:∀ e h nx,F e h nx=true→F' e h nx)(hl:aAF A T C Y tn ops o e h nx F=true):oL A T C' Y' tn ops o e h nx F' :=
 lY (fun e=>JV hC hY fun v h' nx'=>fZ fun e'=>hF e' h' nx') (fun e=>fZ fun e'=>hF e' h nx) hl
theorem aCe {F:Nat→Bool}{F':Nat→Prop}(hF:∀ i,F i=true→F' i){l:List Nat}(hl:wall F l=true):KW F' l:=by
 rw [xT]
 induction l with
 |nil=>intro i hi;cases hi
 |cons x r ih =>
  simp only [wall,Bool.and_eq_true] at hl;intro i hi;cases hi with
  |head=>exact hF _ hl.1
  |tail _ hm=>exact ih hl.2 i hm
theorem SR (hC:Tw C C')(hY:Tw Y Y'){tn:Nat}{ops:List Oper}{F:oR}{F':KS}(hF:∀ e h nx,F e h nx=true→F' e h nx):∀ n done e h nx,aDt A T C Y tn ops F n done e h nx=true→D0 A T C' Y' tn ops F' n done e h nx
 |0,_,e,h,nx,hl=>hF _ _ _ hl
 |n+1,done,e,h,nx,hl=>by
  simp only [aDt] at hl;simp only [D0];cases hr:eE ops done ops 0 with
  |nil =>
   rw [hr] at hl;exact hF _ _ _ hl
  |cons i0 r0 =>
   rw [hr] at hl;refine aCe (fun i hi=>?_) hl;split at hi
   ·rename_i o ho;rw [ho];exact OC hC hY (fun e h nx=>SR hC hY hF n _ e h nx) hi
   ·cases hi
theorem IE (hC:Tw C C')(hY:Tw Y Y'){tn:Nat}{ops:List Oper}{F:oR}{F':KS}(hF:∀ e h nx,F e h nx=true→F' e h nx):∀ n done e h nx,IZ A T C Y tn ops F n done e h nx=true→y7 A T C' Y' tn ops F' n done e h nx
 |0,_,e,h,nx,hl=>hF _ _ _ hl
 |n+1,done,e,h,nx,hl=>by
  simp only [IZ] at hl;simp only [y7];cases hr:eE ops done ops 0 with
  |nil =>
   rw [hr] at hl;exact hF _ _ _ hl
  |cons i0 r0 =>
   rw [hr] at hl;simp only at hl ⊢;cases ho:eO ops i0 with
   |some o =>
    rw [ho] at hl;exact OC hC hY (fun e h nx=>IE hC hY hF n _ e h nx) hl
   |none=>rw [ho] at hl;cases hl
theorem NA (hC:Tw C C')(hY:Tw Y Y'){tn:Nat}{ops:Array Oper}{m:Nat}{e:List (Nat × Value)}{h:Heap}{nx:Nat}{F:oR}{F':KS}(hF:∀ e h nx,F e h nx=true→F' e h nx)(hl:aB2 A T C Y tn ops e h nx F=true):NI A T C' Y' tn (.fuel m) ops e h nx F':=by
 unfold aB2 at hl;unfold NI;refine IE hC hY (fun e0 h0 n0 hq=>?_) _ _ _ _ _ hl;rw [zX,zX,Bool.and_eq_true] at hq;refine⟨_,_,n0,SR hC hY (fun e1 h1 n1 hr=>?_) _ _ _ _ _ hq.1,hF _ _ _ hq.2⟩;exact⟨_,_,_,_,⟨rfl,rfl,rfl⟩,TU hr⟩
def TwR (R:VRB)(R':VR):Prop:=∀ g ps as bd (kn:oR) (kx:Nat→oR) (kr:oR) (kn':KS) (kx':Nat→KS) (kr':KS) e h nx,(∀ e h nx,kn e h nx=true→kn' e h nx)→(∀ i e h nx,kx i e h nx=true→kx' i e h nx)→(∀ e h nx,kr e h nx=true→kr' e h nx)→R g ps as bd kn kx kr e h nx=true→R' g ps as bd kn' kx' kr' e h nx
theorem EV {F:oR→oR}{F':KS→KS}(hF:∀ (k:oR) (k':KS) e h nx,(∀ e h nx,k e h nx=true→k' e h nx)→F k e h nx=true→F' k' e h nx):∀ n e h nx,YF F n e h nx=true→E5 F' n e h nx
 |0,_,_,_,hl=>by cases hl
 |n+1,e,h,nx,hl=>hF _ _ e h nx (fun e h nx=>EV hF n e h nx) hl
theorem oP (hC:Tw C C')(hY:Tw Y Y'){tn:Nat}{PL:Nat→Option eM}{n:Nat}{R:VRB}{R':VR}(hR:TwR R R'):∀ (c:Code) (kn:oR) (kx:Nat→oR) (kr:oR) (kn':KS) (kx':Nat→KS) (kr':KS) e h nx,(∀ e h nx,kn e h nx=true→kn' e h nx)→(∀ i e h nx,kx i e h nx=true→kx' i e h nx)→(∀ e h nx,kr e h nx=true→kr' e h nx) →
  oH A T C Y tn PL n R c kn kx kr e h nx=true→fY A T C' Y' tn PL (.fuel n) R' c kn' kx' kr' e h nx:=by
 intro c
 induction c with
 |skip=>exact fun kn kx kr kn' kx' kr' e h nx h1 _ _ hl=>h1 _ _ _ hl
 |region id ops draw =>
  intro kn kx kr kn' kx' kr' e h nx h1 _ _ hl;simp only [oH] at hl;simp only [fM,jA];cases draw with
  |false=>exact KZ hC hY h1 _ _ _ _ hl
  |true =>
   simp only at hl ⊢;split at hl
   ·first|exact FL hC hY h1 hl|(simp only [*];exact FL hC hY h1 hl)|(simp only [*];done)
   ·first|exact NA hC hY h1 hl|(simp only [*];exact NA hC hY h1 hl)
 |seq a b iha ihb=>exact fun kn kx kr kn' kx' kr' e h nx h1 h2 h3 hl=>iha _ kx kr _ kx' kr' e h nx (fun e h nx=>ihb kn kx kr kn' kx' kr' e h nx h1 h2 h3) h2 h3 hl
 |cond c t f iht ihf =>
  intro kn kx kr kn' kx' kr' e h nx h1 h2 h3 hl;simp only [oH] at hl;simp only [fM,jA];split at hl
  ·first|exact lJ (iht kn kx kr kn' kx' kr' e h nx h1 h2 h3) (ihf kn kx kr kn' kx' kr' e h nx h1 h2 h3) hl|(simp only [*];exact lJ (iht kn kx kr kn' kx' kr' e h nx h1 h2 h3) (ihf kn kx kr kn' kx' kr' e h nx h1 h2 h3) hl)|(simp only [*];done)
  ·cases hl
 |block id b ih =>
  intro kn kx kr kn' kx' kr' e h nx h1 h2 h3 hl
  first|refine ih kn _ kr kn' _ kr' e h nx h1 (fun j e h nx hk=>?_) h3 hl|(simp only [*];refine ih kn _ kr kn' _ kr' e h nx h1 (fun j e h nx hk=>?_) h3 hl)|(simp only [*];done)
  cases hb:Nat.beq j id with
  |true=>simp only [hb] at hk ⊢;exact h1 _ _ _ hk
  |false=>simp only [hb] at hk ⊢;exact h2 _ _ _ _ hk
 |loop b ih =>
  intro kn kx kr kn' kx' kr' e h nx h1 h2 h3 hl
  first|exact EV (fun k k' e h nx hk=>ih k kx kr k' kx' kr' e h nx hk h2 h3) n e h nx hl|(simp only [*];exact EV (fun k k' e h nx hk=>ih k kx kr k' kx' kr' e h nx hk h2 h3) n e h nx hl)|(simp only [*];done)
 |rangeFunc g ps as bd _ _=>exact fun kn kx kr kn' kx' kr' e h nx h1 h2 h3 hl=>hR g ps as bd kn kx kr kn' kx' kr' e h nx h1 h2 h3 hl
 |exit id=>exact fun kn kx kr kn' kx' kr' e h nx _ h2 _ hl=>h2 _ _ _ _ hl
 |ret=>exact fun kn kx kr kn' kx' kr' e h nx _ _ h3 hl=>h3 _ _ _ hl
 |label l=>exact fun kn kx kr kn' kx' kr' e h nx h1 _ _ hl=>h1 _ _ _ hl
 |scope b ih=>exact fun kn kx kr kn' kx' kr' e h nx h1 h2 h3 hl=>ih kn kx kr kn' kx' kr' e h nx h1 h2 h3 hl
 |goto l=>exact fun _ _ _ _ _ _ _ _ _ _ _ _ hl=>by cases hl
 |refuse s=>exact fun _ _ _ _ _ _ _ _ _ _ _ _ hl=>by cases hl
theorem qX {e:List (Nat × Value)}:∀ (l:List ResultVar) {F:List Value→Bool} {F':List Value→Prop},(∀ l,F l=true→F' l)→yH T e h l F=true→fE T e h l F'
 |[],F,F',hF,hl=>hF _ hl
 |.tmp t::r,F,F',hF,hl=>bD (fun v=>qX r fun l=>hF _) hl
 |.cell a t::r,F,F',hF,hl=>bD (fun p=>N4 fun v=>qX r fun l=>hF _) hl
theorem CR {fn:Func}(hK:∀ v h nx,K v h nx=true→K' v h nx)(e:List (Nat × Value))(h:Heap)(nx:Nat)(hl:aHM T fn K e h nx=true):BJ T fn K' e h nx:=by
 refine qX _ (fun l hl=>?_) hl;split at hl
 ·first|exact hK _ _ _ hl|(simp only [*];exact hK _ _ _ hl)|(simp only [*];done)
 ·split at hl
  ·rename_i hn;simp only [hn];exact hK _ _ _ hl
  ·cases hl
theorem G4 (hC:Tw C C'){f tn:Nat}:TwR (aAM C f tn) (r5 C' f tn):=by
 intro g ps as bd kn kx kr kn' kx' kr' e h nx h1 h2 h3 hl;refine bD (fun gv hl=>?_) hl;split at hl
 case h_2=>cases hl
 split at hl
 case h_2=>cases hl
 first|refine hC _ _ _ _ _ _ (fun v h' nx' hl=>?_) hl|(simp only [*];refine hC _ _ _ _ _ _ (fun v h' nx' hl=>?_) hl)|(simp only [*];done)
 split at hl
 case h_2=>cases hl
 rename_i l hl1 hl2;split at hl
 ·cases hl
 ·first|exact h1 _ _ _ hl|(simp only [*];exact h1 _ _ _ hl)|(simp only [*];done)
 ·first|exact h2 _ _ _ _ hl|(simp only [*];exact h2 _ _ _ _ hl)|(simp only [*];done)
 ·first|exact h3 _ _ _ hl|(simp only [*];exact h3 _ _ _ hl)|(simp only [*];done)
 ·cases hl
theorem sP {q:Nat}(hK:∀ v h nx,K v h nx=true→K' v h nx){j:Option Code}(e:List (Nat × Value))(h:Heap)(nx:Nat)(hl:YE q K j e h nx=true):uL q K' j e h nx:=by
 unfold YE at hl;unfold uL;split at hl
 ·first|exact hK _ _ _ hl|(simp only [*];exact hK _ _ _ hl)|(simp only [*];done)
 ·cases hl
theorem XH (hC:Tw C C')(hY:Tw Y Y'){PL:Nat→Nat→Option eM}{n:Nat}:Tw (RF A T C Y PL n) (pG A T C' Y' PL (.fuel n)):=by
 intro q args h nx K K' hK hl;unfold RF at hl;unfold pG;split at hl
 case h_2=>cases hl
 split at hl
 case h_2=>cases hl
 first|refine oP hC hY (fun _ _ _ _ _ _ _ _ _ _ _ _ _ _ _ _ hl=>by cases hl) _ _ _ _ _ _ _ _ _ _ (fun e1 h1 nx1 hl=>?_) (fun _ _ _ _ hl=>by cases hl) (fun _ _ _ hl=>by cases hl) hl|(simp only [*];refine oP hC hY (fun _ _ _ _ _ _ _ _ _ _ _ _ _ _ _ _ hl=>by cases hl) _ _ _ _ _ _ _ _ _ _ (fun e1 h1 nx1 hl=>?_) (fun _ _ _ _ hl=>by cases hl) (fun _ _ _ hl=>by cases hl) hl)|(simp only [*];done)
 split at hl
 case h_2=>cases hl
 split at hl
 case h_2=>cases hl
 first|exact oP hC hY (fun _ _ _ _ _ _ _ _ _ _ _ _ _ _ _ _ hl=>by cases hl) _ _ _ _ _ _ _ _ _ _ (sP hK) (fun i=>sP hK) (sP hK) hl|(simp only [*];exact oP hC hY (fun _ _ _ _ _ _ _ _ _ _ _ _ _ _ _ _ hl=>by cases hl) _ _ _ _ _ _ _ _ _ _ (sP hK) (fun i=>sP hK) (sP hK) hl)|(simp only [*];done)
def TwX (c:B9)(XB:Nat→Option (List Value→Heap→Nat→qM→Bool)):Prop:=∀ f x xb,c.X f=some x→XB f=some xb→∀ args h nx (K:qM) (K':KE),(∀ v h nx,K v h nx=true→K' v h nx)→xb args h nx K=true→x args h nx K'
theorem aAg {c:B9}{XB:Nat→Option (List Value→Heap→Nat→qM→Bool)}(hX:TwX c XB){n:Nat}(hC:Tw C C')(hY:Tw Y Y'):Tw (aAw c XB n C Y) (qU c (some n) C' Y'):=by
 intro f args h nx K K' hK hl;unfold aAw at hl;unfold qU;split at hl
 ·rename_i x hx;split at hl
  ·rename_i xb hxb
   first|exact hX f x xb hx hxb _ _ _ _ _ hK hl|(simp only [hx];exact hX f x xb hx hxb _ _ _ _ _ hK hl)
  ·cases hl
 rename_i hx
 first|skip|(simp only [hx])
 split at hl
 ·cases hl
 split at hl
 case h_2=>cases hl
 first|exact oP hC hY (G4 hC) _ _ _ _ _ _ _ _ _ _ (CR fun v h nx=>hK v _ nx) (fun _ _ _ _ hl=>by cases hl) (CR fun v h nx=>hK v _ nx) hl|(simp only [*];exact oP hC hY (G4 hC) _ _ _ _ _ _ _ _ _ _ (CR fun v h nx=>hK v _ nx) (fun _ _ _ _ hl=>by cases hl) (CR fun v h nx=>hK v _ nx) hl)
theorem aC8 {PR:Nat→Bool}(hC:Tw C C'):Tw (aFe PR C) (frC PR C'):=by
 intro f args h nx K K' hK hl;unfold aFe at hl;unfold frC;cases hp:PR f with
 |false=>simp only [hp] at hl ⊢;exact hC _ _ _ _ _ _ hK hl
 |true =>
  simp only [hp] at hl ⊢;refine hC _ _ _ _ _ _ (fun v h' nx' hq=>?_) hl;unfold aIi at hq;unfold frK;split at hq
  ·rename_i hg;rw [hg];exact hK _ _ _ hq
  ·rename_i hg;rw [hg];exact hK _ _ _ hq
theorem oN {c:B9}{XB:Nat→Option (List Value→Heap→Nat→qM→Bool)}(hX:TwX c XB):∀ (d:Nat) (b:Bool),Tw (AI c XB d b) (rN c d b)
 |0,_=>fun _ _ _ _ _ _ _ hl=>by simp [AI] at hl
 |d+1,false=>aC8 (aAg hX (oN hX d false) (oN hX d true))
 |d+1,true=>XH (oN hX d false) (oN hX d true)
end
def V0 (n:Nat):aS→aS
 |.cells wr g sz cs=>.cells wr g sz (cs.map (bM (fun k=>n+k)))
 |o=>o
def m8 (n:Nat):Heap→Heap
 |[]=>[]
 |(k,o)::r=>(n+k,V0 n o)::m8 n r
theorem kW {n:Nat}(h:Heap){k:Nat}{o:aS}(hl:look (m8 n h) k=some o):∃ j o',k=n+j∧look h j=some o'∧o=V0 n o':=by
 induction h with
 |nil=>cases hl
 |cons x r ih =>
  obtain⟨j,q⟩:=x;simp only [m8,aB] at hl;split at hl
  ·rename_i hb;injection hl with hl;exact⟨j,q,(beq_true hb).symm,by rw [aB,show Nat.beq j j=true from Nat.beq_refl j],hl.symm⟩
  ·rename_i hb;obtain⟨j',o',h1,h2,h3⟩:=ih hl;refine⟨j',o',h1,?_,h3⟩;have:Nat.beq j j'=false:=by
    cases hb':Nat.beq j j' with
    |false=>rfl
    |true =>
     have:=beq_true hb';subst this;rw [h1,Nat.beq_refl] at hb;cases hb
   rw [aB,this];exact h2
def aAH:aS→Bool
 |.cells true _ _ _=>true
 |_=>false
def wQ:Heap→Bool
 |[]=>true
 |(_,o)::r=>aAH o&&wQ r
theorem XE {h:Heap}(hh:wQ h=true){k:Nat}{o:aS}(hl:look h k=some o):∃ g sz cs,o=.cells true g sz cs:=by
 induction h with
 |nil=>cases hl
 |cons x r ih =>
  obtain⟨j,q⟩:=x;simp only [wQ,Bool.and_eq_true] at hh;rw [aB] at hl;split at hl
  ·injection hl with hl;subst hl;cases q with
   |cells wr g sz cs =>
    cases wr with
    |true=>exact⟨g,sz,cs,rfl⟩
    |false=>simp [aAH] at hh
   |_=>simp [aAH] at hh
  ·exact ih hh.2 hl
def JD:aS→Bool
 |.cells _ _ _ _=>true
 |_=>false
def gM:Heap→Bool
 |[]=>true
 |(_,o)::r=>JD o&&gM r
theorem r9 {h:Heap}(hh:gM h=true){k:Nat}{o:aS}(hl:look h k=some o):∃ wr g sz cs,o=.cells wr g sz cs:=by
 induction h with
 |nil=>cases hl
 |cons x r ih =>
  obtain⟨j,q⟩:=x;simp only [gM,Bool.and_eq_true] at hh;rw [aB] at hl;split at hl
  ·injection hl with hl;subst hl;cases q with
   |cells wr g sz cs=>exact⟨wr,g,sz,cs,rfl⟩
   |_=>simp [JD] at hh
  ·exact ih hh.2 hl
theorem JK (o:aS):o.closed.alone=false:=by cases o <;> rfl
section
variable {ι:Nat→Loc}{σ:Nat→Nat}{n m:Nat}
theorem vZ {v:Value}(h:mW (fun k=>ι (σ k)) m v)(hs:∀ k,k<m→σ k<n):mW ι n (dU (j3 σ) v):=by
 cases v with
 |pointer a=>cases a with
  |none=>trivial
  |some a=>exact⟨hs _ h.1,h.2⟩
 |slice a l c=>cases a with
  |none=>trivial
  |some a=>exact⟨hs _ h.1,fun hf=>h.2 hf⟩
 |map a=>cases a with
  |none=>trivial
  |some a=>exact⟨hs _ h.1,h.2⟩
 |agg c=>exact h.elim
 |tuple c=>exact h.elim
 |_=>trivial
theorem iV {v:Value}(h:fV (fun k=>ι (σ k)) m v)(hs:∀ k,k<m→σ k<n):fV ι n (bQ (j3 σ) v):=by
 cases v with
 |func f a c =>
  refine⟨?_,fun x hx=>?_⟩
  ·have h1:=h.1;cases f with
   |yield l=>exact⟨hs _ h1.1,h1.2⟩
   |_=>trivial
  ·simp only [Array.toList_map,List.mem_map] at hx;obtain⟨y,hy,rfl⟩:=hx;exact vZ (h.2 y hy) hs
 |pointer a=>have:=vZ (ι:=ι) (σ:=σ) (n:=n) (m:=m) (v:=.pointer a);cases a <;> exact this h hs
 |slice a l c=>have:=vZ (ι:=ι) (σ:=σ) (n:=n) (m:=m) (v:=.slice a l c);cases a <;> exact this h hs
 |map a=>have:=vZ (ι:=ι) (σ:=σ) (n:=n) (m:=m) (v:=.map a);cases a <;> exact this h hs
 |agg c=>exact h.elim
 |tuple c=>exact h.elim
 |_=>trivial
theorem o6 {v:Value}(h:j0 (fun k=>ι (σ k)) m v)(hs:∀ k,k<m→σ k<n):j0 ι n (dS (j3 σ) v):=by
 cases v with
 |agg cs =>
  intro x hx;simp only [Array.toList_map,List.mem_map] at hx;obtain⟨y,hy,rfl⟩:=hx;exact iV (h y hy) hs
 |pointer a=>have:=iV (ι:=ι) (σ:=σ) (n:=n) (m:=m) (v:=.pointer a);cases a <;> exact this h hs
 |slice a l c=>have:=iV (ι:=ι) (σ:=σ) (n:=n) (m:=m) (v:=.slice a l c);cases a <;> exact this h hs
 |map a=>have:=iV (ι:=ι) (σ:=σ) (n:=n) (m:=m) (v:=.map a);cases a <;> exact this h hs
 |func f a c=>exact iV (ι:=ι) (σ:=σ) (n:=n) (m:=m) (v:=.func f a c) h hs
 |tuple c=>exact h.elim
 |_=>trivial
theorem aA9 {v:Value}(h:eG (fun k=>ι (σ k)) m v)(hs:∀ k,k<m→σ k<n):eG ι n (iM σ v):=by
 unfold iM;cases v with
 |tuple cs =>
  intro x hx;simp only [Array.toList_map,List.mem_map] at hx;obtain⟨y,hy,rfl⟩:=hx;exact o6 (h y hy) hs
 |pointer a=>have:=o6 (ι:=ι) (σ:=σ) (n:=n) (m:=m) (v:=.pointer a);cases a <;> exact this h hs
 |slice a l c=>have:=o6 (ι:=ι) (σ:=σ) (n:=n) (m:=m) (v:=.slice a l c);cases a <;> exact this h hs
 |map a=>have:=o6 (ι:=ι) (σ:=σ) (n:=n) (m:=m) (v:=.map a);cases a <;> exact this h hs
 |func f a c=>exact o6 (ι:=ι) (σ:=σ) (n:=n) (m:=m) (v:=.func f a c) h hs
 |agg c=>exact o6 (ι:=ι) (σ:=σ) (n:=n) (m:=m) (v:=.agg c) h hs
 |_=>trivial
theorem aDQ {v:Value}(h:gS v=true):gS (bQ (j3 σ) v)=true:=by rw [mT h];exact h
end
theorem LZ {B nx n0 m:Nat}{w w':World}{ι ι0:Nat→Loc}{h h1:Heap}{v1:Value}{K Q:KE}{u:Value}(H:aO ι B h nx w)
  (hQ:∀ v h' nx',Q v h' nx'→∃ ρ,oU 0 ρ [(0,v1)] h1 m [(0,v)] h' nx') (how:gM h1=true) (hal:wQ h1=true∨∀ k o,look h k=some o→o.alone=false) (hK:K (iM (fun k=>nx+k) v1) (app (m8 nx h1) h) (nx+m))
  (hr:Ret w.heap.size w ι0 n0 Q (.returned u) w'):Ret B w ι nx K (.returned u) w':=by
 obtain⟨v,h',nx',ι',q1,q2,q3,q4,q5,q6,q7⟩:=hr;obtain⟨ρ,r⟩:=hQ v h' nx' q1;have hv:v=iM ρ v1∧BK m v1:=by
  obtain⟨e1,e2⟩:=r.env 0 v1 rfl;injection e1 with e1;exact⟨e1,e2⟩
 obtain⟨rfl,hnm⟩:=hv;obtain⟨ιN,hloc,hold⟩:∃ ιN:Nat→Loc,(∀ j,ιN (nx+j)=ι' (ρ j))∧∀ k,k<nx→ιN k=ι k :=
  ⟨fun k=>if k<nx then ι k else ι' (ρ (k - nx)),fun j=>by
   have:¬ (nx+j<nx):=(by omega);simp only [if_neg this,Nat.add_sub_cancel_left],fun k hk=>if_pos hk⟩
 have hι:(fun k=>ιN (nx+k))=fun k=>ι' (ρ k):=funext hloc;have hsm:eG (fun k=>ι' (ρ k)) m v1:=CM q2 hnm;have R1:=r.aEU q3;have H':aO ι B h nx w':=H.ext q4;have hscn:eG ιN (nx+m) (iM (fun k=>nx+k) v1):=by
  refine aA9 (m:=m) ?_ (fun k hk=>by omega);rw [hι];exact hsm
 have hcase:∀ k o,look (app (m8 nx h1) h) k=some o→(look h k=some o∧k<nx)∨(∃ j wr g sz cs,k=nx+j∧look h1 j=some (.cells wr g sz cs)∧o=.cells wr g sz (cs.map (bM (fun k=>nx+k)))):=by
  intro k o hk;rw [gD] at hk;split at hk
  ·rename_i o' ho;injection hk with hk;subst hk;obtain⟨j,o',e1,e2,e3⟩:=kW h1 ho;obtain⟨wr,g,sz,cs,rfl⟩:=r9 how e2;exact .inr ⟨j,wr,g,sz,cs,e1,e2,e3⟩
  ·exact .inl ⟨hk,H.low k _ hk⟩
 refine⟨iM (fun k=>nx+k) v1,_,_,ιN,hK,hscn,⟨?_,?_,?_,H'.size,?_⟩,q4.mono H.size,hold,by omega,?_⟩
 ·intro k o hk;rcases hcase k o hk with ⟨h2,h3⟩|⟨j,wr,g,sz,cs,rfl,h2,rfl⟩
  ·rw [hold k h3];exact (H'.obj k o h2).names (H'.sc k o h2) hold
  ·rw [hloc];have ho:=R1.obj j _ h2;have hsc:=R1.sc j _ h2;cases hl:ι' (ρ j) with
   |nil p =>
    rw [hl] at ho;have hcz:cs=[]∧(sz=0∨wr=true→p.isSome=true):=(by cases wr <;> exact ho);obtain⟨hc0,hz⟩:=hcz;subst hc0;cases wr <;> exact⟨rfl,hz⟩
   |lay b off e =>
    rw [hl] at ho;have hcell:∀ {Φ:Nat→Value→Prop},(∀ (i:Nat) y,cs[i]? = some y→Φ i (bQ (fun k=>ι' (ρ k)) y))→∀ (i:Nat) v,(cs.map (bM (fun k=>nx+k)))[i]? = some v→Φ i (bQ ιN v):=by
     intro Φ hΦ i v hv;rw [List.getElem?_map] at hv;cases hy:cs[i]? with
     |none=>rw [hy] at hv;cases hv
     |some y =>
      rw [hy] at hv;injection hv with hv;subst hv;have hsy:=hsc y (List.mem_of_getElem? hy);have hin:fV ιN (nx+m) (bQ (j3 (fun k=>nx+k)) y):=by
       refine iV (m:=m) ?_ (fun k hk=>by omega);rw [hι];exact hsy
      have:=hΦ i y hy;rw [← hι,← gV hin] at this;exact this
    have hgg:∀ {b:Bool},(b=true→dE cs=true)→b=true→dE (cs.map (bM (fun k=>nx+k)))=true:=fun h hg=>sU fun v hv=>by
     obtain⟨y,hy,rfl⟩:=List.mem_map.1 hv;exact aDQ (a9 (h hg) hy)
    cases wr with
    |true =>
     obtain⟨a1,a2,arr,t,a3,a4,a5⟩:=ho;exact⟨Nat.le_trans H.size a1,hgg a2,arr,t,a3,by simpa using a4,hcell (Φ:=fun i v=>arr[off+i]? = some v) a5⟩
    |false =>
     obtain⟨a1,a2,a5⟩:=ho;exact⟨a1,hgg a2,hcell (Φ:=fun i v=>w'.cell? ⟨b,off+i,none⟩=some v) a5⟩
 ·intro k k' o o' hk hk' hne ha b hb;rcases hcase k o hk with ⟨h2,h3⟩|⟨j,wr,g,sz,cs,rfl,h2,rfl⟩
  ·rw [hold k h3] at hb;rcases hcase k' o' hk' with ⟨h4,h5⟩|⟨j',wr',g',sz',cs',rfl,h4,rfl⟩
   ·rw [hold k' h5];exact H'.sep k k' o o' h2 h4 hne ha b hb
   ·rw [hloc];intro hb';have hlt:=(H.obj k o h2).lt hb;rcases hal with how2|hal
    ·obtain⟨g2,sz2,cs2,e2⟩:=XE how2 h4;have ho:=R1.obj j' _ h4;cases hl:ι' (ρ j') with
     |nil p=>rw [hl] at hb';cases hb'
     |lay b2 off e =>
      rw [hl] at hb';rw [hl,e2] at ho;have:b2=b:=(by simpa [Loc.BM] using hb');have:=ho.1;omega
    ·rw [hal k o h2] at ha;cases ha
  ·rw [hloc] at hb;rcases hcase k' o' hk' with ⟨h4,h5⟩|⟨j',wr',g',sz',cs',rfl,h4,rfl⟩
   ·rw [hold k' h5];intro hb';have hlt:=(H.obj k' o' h4).lt hb';have ho:=R1.obj j _ h2;cases hl:ι' (ρ j) with
    |nil p=>rw [hl] at hb;cases hb
    |lay b2 off e =>
     rw [hl] at ho hb;have:b2=b:=(by simpa [Loc.BM] using hb);have hwr:wr=true:=ha;subst hwr;have:=ho.1;omega
   ·rw [hloc];exact R1.sep j j' _ _ h2 h4 (fun e=>hne (by rw [e])) ha b hb
 ·intro k o hk;rcases hcase k o hk with ⟨h2,h3⟩|⟨j,wr,g,sz,cs,rfl,h2,rfl⟩
  ·omega
  ·have:=R1.low j _ h2;omega
 ·intro k o hk;rcases hcase k o hk with ⟨h2,h3⟩|⟨j,wr,g,sz,cs,rfl,h2,rfl⟩
  ·exact (H'.sc k o h2).mono (by omega) hold
  ·intro v hv;obtain⟨y,hy,rfl⟩:=List.mem_map.1 hv;refine iV (m:=m) ?_ (fun k hk=>by omega);rw [hι];exact R1.sc j _ h2 y hy
 ·rw [q7,C1 q2,C1 hscn,hι]
def In (args0:List Value)(h0:Heap)(n0:Nat)(args:List Value)(h:Heap)(nx:Nat):Prop :=
 ∀ ι B w,aO ι B h nx w→(∀ v∈args,eG ι nx v)→∃ ι0,args.map (tr ι)=args0.map (tr ι0)∧(∀ v∈args0,eG ι0 n0 v)∧aO ι0 w.heap.size h0 n0 w
abbrev Sp:=List Value→Heap→Nat→Value→Heap→Nat→Prop
def qH (h1 h:Heap):Heap:=match wQ h1 with|true=>h|false=>dT h
def xOf (S:Sp):List Value→Heap→Nat→KE→Prop:=fun args h nx K =>
 ∃ args0 h0 n0 v1 h1 m,S args0 h0 n0 v1 h1 m∧In args0 h0 n0 args h nx∧K (iM (fun k=>nx+k) v1) (app (m8 nx h1) (qH h1 h)) (nx+m)
def K1 (v1:Value)(h1:Heap)(m:Nat):KE:=fun v h' nx'=>∃ ρ,oU 0 ρ [(0,v1)] h1 m [(0,v)] h' nx'
theorem jU {P:Program}{C:VC}{f:Nat}{S:Sp}(hC:bF P C)(hS:∀ args0 h0 n0 v1 h1 m,S args0 h0 n0 v1 h1 m→gM h1=true∧∃ Q:KE,C f args0 h0 n0 Q∧∀ v h nx,Q v h nx→K1 v1 h1 m v h nx):dK P f (xOf S):=by
 refine⟨fun args h nx K hx ι B w H hs=>?_,fun args h nx K hx=>?_⟩
 ·obtain⟨args0,h0,n0,v1,h1,m,s1,s2,s3⟩:=hx;obtain⟨how,Q,hc,hq⟩:=hS _ _ _ _ _ _ s1;obtain⟨ι0,e1,e2,e3⟩:=s2 ι B w H hs;obtain⟨c1,c2⟩:=hC f args0 h0 n0 _ hc ι0 w.heap.size w e3 e2;refine⟨c1,?_⟩;rw [e1];refine CallsIn.mono c2 fun e w' hr=>?_;cases e with
  |returned u =>
   unfold qH at s3;cases ho:wQ h1 with
   |true=>rw [ho] at s3;exact LZ H (fun v h' nx' q=>hq v h' nx' q) how (.inl ho) s3 hr
   |false =>
    rw [ho] at s3;refine LZ (H.shut.down H.size) (fun v h' nx' q=>hq v h' nx' q) how (.inr fun k o hk=>?_) s3 hr;rw [jD] at hk;cases hq:look h k with
    |none=>rw [hq] at hk;cases hk
    |some q =>
     rw [hq] at hk;injection hk with hk;subst hk;exact JK q
  |_=>exact hr.elim
 ·obtain⟨args0,h0,n0,v1,h1,m,s1,s2,s3⟩:=hx;exact⟨_,_,_,s3,fun K' hk=>⟨args0,h0,n0,v1,h1,m,s1,s2,hk⟩⟩
theorem cK {α:Type}{k:Nat}{o:α}{p:Prop}(h:look [] k=some o):p:=by cases h
theorem mJ {v:Value}(hv:gT v=true){h':Heap}{nx':Nat}:K1 v [] 0 v h' nx' :=
 ⟨id,⟨fun t u hu=>by
  rw [aB] at hu;split at hu
  ·rename_i hb;injection hu with hu;subst hu;exact⟨by rw [aB,hb];show some v=some (iM id v);rw [iM,fU hv],dD hv⟩
  ·exact cK hu,fun k o hk=>cK hk,fun k k' o o' hk=>cK hk,fun k hk=>rfl,Nat.le_refl _⟩⟩
theorem sI {σ:Nat→Nat}{v:Value}(hv:gT v=true):iM σ v=v:=fU hv
theorem aJH {args:List Value}(hg:∀ v∈args,gT v=true){h:Heap}{nx:Nat}:In args [] 0 args h nx:=by
 intro ι B w H hs;refine⟨ι,rfl,fun v hv=>dD (hg v hv),⟨fun k o hk=>cK hk,fun k k' o o' hk=>cK hk,fun k o hk=>cK hk,Nat.le_refl _,fun k o hk=>cK hk⟩⟩
end Go.Aw
end
