/-
  Parts of a proof. No condition.
-/
import Derived.Test.YtjahkcbdecgbhaaGreatQAm
set_option linter.unusedSimpArgs false
set_option linter.unusedVariables false
noncomputable section
namespace Go.Aw
open Go.RowKit
section
variable {A:Ar}{T:cK}{K:Value→Bool}{K':Value→Prop}
theorem bH {x:Option Value}(hK:∀ v,K v=true→K' v)(hl:pG x K=true):on x K':=by
 cases x with
 |none=>cases hl
 |some v=>exact hK v hl
theorem lM {b:Bool}{X Y:Unit→Bool}{X' Y':Unit→Prop}(h1:X ()=true→X' ())(h2:Y ()=true→Y' ())(hl:wbr b X Y=true):br b X' Y':=by
 cases b with
 |true=>exact h1 hl
 |false=>exact h2 hl
theorem bD {b X:Bool}{X':Prop}(h:X=true→X')(hl:dW b X=true):dP b X':=by
 cases b with
 |true=>exact h hl
 |false=>cases hl
theorem OK {h:Heap}{t:TypeId}{x:Value}(hK:∀ v,K v=true→K' v)(hl:UA T h t x K=true):sJ T h t x K':=by
 unfold UA at hl;unfold sJ
 repeat' (split at hl)
 all_goals first|(cases hl;done)|(simp_all;done)
theorem HQ {t:TypeId}{x:Value}{f:Nat}(hK:∀ v,K v=true→K' v)(hl:vX T t x f K=true):gU T t x f K':=by
 unfold vX at hl;unfold gU
 repeat' (split at hl)
 all_goals first|(cases hl;done)|(simp_all;done)
theorem G3 {t:TypeId}{x ix:Value}(hK:∀ v,K v=true→K' v)(hl:vP A T t x ix K=true):gK A T t x ix K':=by
 unfold vP at hl;unfold gK
 repeat' (split at hl)
 all_goals first|(cases hl;done)|(simp_all;exact bD (hK _) hl;done)
theorem NJ {t:TypeId}{cs:List Value}{o:Nat}(hK:∀ v,K v=true→K' v)(hl:VV T t cs o K=true):BM T t cs o K':=by
 unfold VV at hl;unfold BM
 repeat' (split at hl)
 all_goals first|(cases hl;done)|(simp_all;done)
theorem WS {t:TypeId}{x:Value}{f:Nat}(hK:∀ v,K v=true→K' v)(hl:RE T t x f K=true):rM T t x f K':=by
 unfold RE at hl;unfold rM
 repeat' (split at hl)
 all_goals first|(cases hl;done)|(simp_all;exact NJ hK hl;done)
theorem W0 {t:TypeId}{x ix:Value}(hK:∀ v,K v=true→K' v)(hl:RD A T t x ix K=true):rI A T t x ix K':=by
 unfold RD at hl;unfold rI
 repeat' (split at hl)
 all_goals first|(cases hl;done)|(simp_all;exact bD (NJ hK) hl;done)|(simp_all;done)
theorem aDF {op:BinOp}{k:IntKind}{a b:Int}(hK:∀ v,K v=true→K' v)(hl:aJ2 A op k a b K=true):WR A op k a b K':=by
 cases op <;> first|(cases hl;done)|exact hK _ hl|exact bD (hK _) hl
theorem aEj {op:BinOp}{t:TypeId}{x y:Value}(hK:∀ v,K v=true→K' v)(hl:aGK A T op t x y K=true):RN A T op t x y K':=by
 unfold aGK at hl;unfold RN
 repeat' (split at hl)
 all_goals first|(cases hl;done)|(simp_all;done)|(simp_all;exact aDF hK hl;done)|(simp_all;exact bD (hK _) hl;done)
theorem aDj {op:BinOp}{h:Heap}{t:TypeId}{x:Value}(hK:∀ v,K v=true→K' v)(hl:aHn T h op t x K=true):SF T h op t x K':=by
 unfold aHn at hl;unfold SF
 repeat' (split at hl)
 all_goals first|(cases hl;done)|(simp_all;done)
theorem aH1 {op:UnOp}{x:Value}(hK:∀ v,K v=true→K' v)(hl:wun A op x K=true):vun A op x K':=by
 unfold wun at hl;unfold vun
 repeat' (split at hl)
 all_goals first|(cases hl;done)|(simp_all;done)|(simp_all;exact bD (hK _) hl;done)
theorem IZ {t:TypeId}{ps:List (Nat × Value)}(hK:∀ v,K v=true→K' v)(hl:R0 T t ps K=true):vE T t ps K':=by
 unfold R0 at hl;unfold vE;cases ht:look T t with
 |none=>simp only [ht] at hl;cases hl
 |some ti =>
  simp only [ht] at hl ⊢;cases hk:ti.kind <;> simp only [hk] at hl ⊢ <;> cases hp:jU ps <;> (try simp only [hp] at hl ⊢)
  all_goals first
   |(simp at hl;done)
   |(split at hl <;> first|(cases hl;done)|(split at hl <;> first|(cases hl;done)|(simp only [*];first|done|exact hK _ hl)))
theorem A3 {b:Builtin}{ts:Array TypeId}{vs:List Value}(hK:∀ v,K v=true→K' v)(hl:GF A T b ts vs K=true):mD A T b ts vs K':=by
 unfold GF at hl;unfold mD
 repeat' (split at hl)
 all_goals first|(cases hl;done)|(simp_all;done)|(simp_all;exact bH hK hl;done)
theorem mT {env:List (Nat × Value)}{h:Heap}{op:Op}(hK:∀ v,K v=true→K' v)(hl:vA A T env h op K=true):iO A T env h op K':=by
 cases op with
 |move x=>exact bH hK hl
 |assign x=>exact bH hK hl
 |pick c a b =>
  refine bH (fun u hu=>?_) hl;split at hu
  ·first|exact lM (bH hK) (bH hK) hu|(simp only [*];exact lM (bH hK) (bH hK) hu)|(simp only [*];done)
  ·cases hu
 |nilCheck x =>
  first|refine bH (fun u hu=>?_) hl|(simp only [*];refine bH (fun u hu=>?_) hl)|(simp only [*];done)
  split at hu
  ·first|exact hK _ hu|(simp only [*];exact hK _ hu)|(simp only [*];done)
  ·first|exact hK _ hu|(simp only [*];exact hK _ hu)|(simp only [*];done)
  ·first|exact hK _ hu|(simp only [*];exact hK _ hu)|(simp only [*];done)
  ·cases hu
 |load t x=>exact bH (fun u=>OK hK) hl
 |fieldAddr s x f=>exact bH (fun u=>HQ hK) hl
 |field s x f=>exact bH (fun u=>WS hK) hl
 |indexAddr t x i=>exact bH (fun u=>bH fun j=>G3 hK) hl
 |index t x i=>exact bH (fun u=>bH fun j=>W0 hK) hl
 |binOp op t x y z =>
  refine bH (fun u=>bH fun v hl=>?_) hl;split at hl
  ·exact aDj hK hl
  ·rename_i hne;split
   ·exact (hne _ _ rfl).elim
   ·exact aEj hK hl
 |unOp op t x=>exact bH (fun u=>aH1 hK) hl
 |convert s d x =>
  first|refine bH (fun u hu=>?_) hl|(simp only [*];refine bH (fun u hu=>?_) hl)|(simp only [*];done)
  split at hu
  ·first|exact bD (hK _) hu|(simp only [*];exact bD (hK _) hu)|(simp only [*];done)
  ·cases hu
 |makeFunc fn first cap =>
  simp only [vA] at hl;simp only [iO]
  repeat' (split at hl)
  all_goals first|(cases hl;done)|(simp_all;done)
 |extract x i =>
  first|refine bH (fun u hu=>?_) hl|(simp only [*];refine bH (fun u hu=>?_) hl)|(simp only [*];done)
  split at hu
  ·first|exact bH hK hu|(simp only [*];exact bH hK hu)|(simp only [*];done)
  ·cases hu
 |build t ps =>
  simp only [vA] at hl;simp only [iO];split at hl
  ·first|exact IZ hK hl|(simp only [*];exact IZ hK hl)|(simp only [*];done)
  ·cases hl
 |call c =>
  simp only [vA] at hl;simp only [iO];split at hl
  ·split at hl
   ·first|exact A3 hK hl|(simp only [*];exact A3 hK hl)|(simp only [*];done)
   ·cases hl
  ·cases hl
 |_=>cases hl
theorem GP {h:Heap}{t:TypeId}{x key:Value}{ok:Bool}(hK:∀ v,K v=true→K' v)(hl:C7 A T h t x key ok K=true):nX A T h t x key ok K':=by
 unfold C7 at hl;unfold nX
 repeat' (split at hl)
 all_goals first|(cases hl;done)|(simp_all;done)
end
section
variable {A:Ar}{T:cK}{K:rK}{K':KE}{h:Heap}{nx:Nat}
theorem X4 {t:TypeId}{x v:Value}(hK:∀ v h nx,K v h nx=true→K' v h nx)(hl:Q5 T h nx t x v K=true):mJ T h nx t x v K':=by
 unfold Q5 at hl;unfold mJ;split at hl
 case h_2=>cases hl
 split at hl
 case h_2=>cases hl
 cases v <;> (split at hl <;> first|(cases hl;done)|(simp only [*];first|done|exact bD (hK _ _ _) hl)|(rename_i hq;cases hq))
theorem aDu {v:Value}(hK:∀ v h nx,K v h nx=true→K' v h nx)(hl:aGh h nx v K=true):QQ h nx v K':=by
 unfold aGh at hl;unfold QQ;split at hl
 ·cases hl
 ·first|exact hK _ _ _ hl|(simp only [*];exact hK _ _ _ hl)|(simp only [*];done)
theorem XL {t:TypeId}(hK:∀ v h nx,K v h nx=true→K' v h nx)(hl:SR T h nx t K=true):vR T h nx t K':=by
 unfold SR at hl;unfold vR;split at hl
 ·first|exact hK _ _ _ hl|(simp only [*];exact hK _ _ _ hl)|(simp only [*];done)
 ·cases hl
theorem rW {t:TypeId}{n:Nat}{ps:List (Nat × Value)}(hK:∀ v h nx,K v h nx=true→K' v h nx)(hl:rZ T h nx t n ps K=true):dY T h nx t n ps K':=by
 unfold rZ at hl;unfold dY;split at hl
 case h_2=>cases hl
 split at hl
 case h_2=>cases hl
 split at hl
 case h_2=>cases hl
 split at hl
 case h_2=>cases hl
 first|exact hK _ _ _ hl|(simp only [*];exact hK _ _ _ hl)|(simp only [*];done)
theorem aB3 {n c:Nat}{hi:Option Value}{G:Nat→Bool}{G':Nat→Prop}(hG:∀ n,G n=true→G' n)(hl:whi A n c hi G=true):vhi A n c hi G':=by
 unfold whi at hl;unfold vhi;split at hl
 ·first|exact hG _ hl|(simp only [*];exact hG _ hl)|(simp only [*];done)
 ·first|exact bD (hG _) hl|(simp only [*];exact bD (hG _) hl)|(simp only [*];done)
 ·cases hl
theorem OQ {b X:Bool}{X':Unit→Prop}{Y':Unit→Prop}(h:X=true→X' ())(hl:dW b X=true):br b X' Y':=by
 cases b with
 |true=>exact h hl
 |false=>cases hl
theorem s9 {t:TypeId}{x:Value}{lo hi mx:Option Value}(hK:∀ v h nx,K v h nx=true→K' v h nx)(hl:MF A T h nx t x lo hi mx K=true):rQ A T h nx t x lo hi mx K':=by
 unfold MF at hl;unfold rQ;split at hl
 case h_2=>cases hl
 split at hl
 case h_1=>cases hl
 split at hl
 ·split at hl
  ·first|exact hK _ _ _ hl|(simp only [*];exact hK _ _ _ hl)|(simp only [*];done)
  ·cases hl
 ·first|refine aB3 (fun hN hl=>?_) hl|(simp only [*];refine aB3 (fun hN hl=>?_) hl)|(simp only [*];done)
  split at hl
  ·first|exact hK _ _ _ hl|(simp only [*];exact hK _ _ _ hl)|(simp only [*];done)
  ·first|refine bD (fun hl=>?_) hl|(simp only [*];refine bD (fun hl=>?_) hl)|(simp only [*];done)
   split at hl
   ·first|exact OQ (hK _ _ _) hl|(simp only [*];exact OQ (hK _ _ _) hl)|(simp only [*];done)
   ·cases hl
  ·cases hl
 ·split at hl
  ·first|exact hK _ _ _ hl|(simp only [*];exact hK _ _ _ hl)|(simp only [*];done)
  ·cases hl
 ·split at hl
  ·first|exact bD (hK _ _ _) hl|(simp only [*];exact bD (hK _ _ _) hl)
  ·first|exact bD (hK _ _ _) hl|(simp only [*];exact bD (hK _ _ _) hl)
  ·cases hl
 ·cases hl
theorem UK {sz:Nat}{x:Value}{G:Nat→List Value→Bool}{G':Nat→List Value→Prop}(hG:∀ n l,G n l=true→G' n l)(hl:aHr h sz x G=true):HF h sz x G':=by
 unfold aHr at hl;unfold HF;split at hl
 ·first|exact hG _ _ hl|(simp only [*];exact hG _ _ hl)|(simp only [*];done)
 ·split at hl
  ·first|exact bD (hG _ _) hl|(simp only [*];exact bD (hG _ _) hl)|(simp only [*];done)
  ·split at hl
   ·first|exact hG _ _ hl|(simp only [*];exact hG _ _ hl)|(simp only [*];done)
   ·cases hl
  ·cases hl
 ·cases hl
theorem HL {t:TypeId}{l c:Value}(hK:∀ v h nx,K v h nx=true→K' v h nx)(hl:vW A T h nx t l c K=true):jG A T h nx t l c K':=by
 unfold vW at hl;unfold jG;split at hl
 case h_2=>cases hl
 split at hl
 case h_2=>cases hl
 first|exact bD (hK _ _ _) hl|(simp only [*];exact bD (hK _ _ _) hl)
theorem EF {st xt:TypeId}{s x:Value}(hK:∀ v h nx,K v h nx=true→K' v h nx)(hl:MA A T h nx st xt s x K=true):kQ A T h nx st xt s x K':=by
 unfold MA at hl;unfold kQ;split at hl
 case h_3=>cases hl
 case h_1 =>
  split at hl
  case h_2=>cases hl
  split at hl
  case h_2=>cases hl
  first|exact bD (hK _ _ _) hl|(simp only [*];exact bD (hK _ _ _) hl)
 split at hl
 case h_1=>cases hl
 split at hl
 case h_1=>cases hl
 first|refine UK (fun m src hl=>?_) hl|(simp only [*];refine UK (fun m src hl=>?_) hl)|(simp only [*];done)
 split at hl
 ·first|exact lM (hK _ _ _) (bD (hK _ _ _)) hl|(simp only [*];exact lM (hK _ _ _) (bD (hK _ _ _)) hl)|(simp only [*];done)
 ·split at hl
  ·split at hl
   ·first|exact lM (hK _ _ _) (bD (hK _ _ _)) hl|(simp only [*];exact lM (hK _ _ _) (bD (hK _ _ _)) hl)|(simp only [*];done)
   ·cases hl
  ·first|exact lM (bD (hK _ _ _)) (bD (hK _ _ _)) hl|(simp only [*];exact lM (bD (hK _ _ _)) (bD (hK _ _ _)) hl)|(simp only [*];done)
  ·cases hl
 ·cases hl
theorem HJ {t:TypeId}{x key v:Value}(hK:∀ v h nx,K v h nx=true→K' v h nx)(hl:vB A T h nx t x key v K=true):jH A T h nx t x key v K':=by
 unfold vB at hl;unfold jH;cases v <;> (split at hl <;> first|(cases hl;done)|(rename_i hq;cases hq;done)|(split at hl <;> first|(cases hl;done)|(split at hl <;> first|(cases hl;done)|(simp only [*];first|done|exact hK _ _ _ hl))))
theorem JD {t:TypeId}{x:Value}(hK:∀ v h nx,K v h nx=true→K' v h nx)(hl:QN T h nx t x K=true):vS T h nx t x K':=by
 unfold QN at hl;unfold vS;split at hl
 ·first|exact hK _ _ _ hl|(simp only [*];exact hK _ _ _ hl)|(simp only [*];done)
 ·split at hl
  ·first|exact hK _ _ _ hl|(simp only [*];exact hK _ _ _ hl)|(simp only [*];done)
  ·split at hl
   ·first|exact bD (hK _ _ _) hl|(simp only [*];exact bD (hK _ _ _) hl)|(simp only [*];done)
   ·cases hl
 ·cases hl
def Tw (C:uM)(C':VC):Prop:=∀ f args h nx (K:rK) (K':KE),(∀ v h nx,K v h nx=true→K' v h nx)→C f args h nx K=true→C' f args h nx K'
variable {C Y:uM}{C' Y':VC}
theorem J2 (hC:Tw C C')(hY:Tw Y Y'){env:List (Nat × Value)}{op:Op}(hK:∀ v h nx,K v h nx=true→K' v h nx)(hl:wop A T C Y env h nx op K=true):pA A T C' Y' env h nx op K':=by
 cases op with
 |store t x y=>exact bH (fun p=>bH fun v=>X4 hK) hl
 |alloc t=>exact XL hK hl
 |box t x=>exact bH (fun p=>aDu hK) hl
 |buildSlice t n ps =>
  simp only [wop] at hl;simp only [pA];split at hl
  ·first|exact rW hK hl|(simp only [*];exact rW hK hl)|(simp only [*];done)
  ·cases hl
 |slice t x lo hi mx =>
  first|refine bH (fun v hl=>?_) hl|(simp only [*];refine bH (fun v hl=>?_) hl)|(simp only [*];done)
  split at hl
  ·first|exact s9 hK hl|(simp only [*];exact s9 hK hl)|(simp only [*];done)
  ·cases hl
 |makeSlice t l c=>exact bH (fun p=>bH fun v=>HL hK) hl
 |makeMap t x =>
  cases x with
  |none=>exact hK _ _ _ hl
  |some x=>simp [wop,vA] at hl
 |lookup t m k ok=>exact bH (fun x=>bH fun y=>GP fun v=>hK v h nx) hl
 |mapUpdate t m k u=>exact bH (fun x=>bH fun y=>bH fun v=>HJ hK) hl
 |call c =>
  simp only [wop] at hl;simp only [pA];split at hl
  ·split at hl
   ·first|exact EF hK hl|(simp only [*];exact EF hK hl)|(simp only [*];done)
   ·cases hl
  ·split at hl
   ·first|exact JD hK hl|(simp only [*];exact JD hK hl)|(simp only [*];done)
   ·cases hl
  ·first|exact mT (K':=fun v=>K' v h nx) (fun v=>hK v h nx) hl|(simp only [*];exact mT (K':=fun v=>K' v h nx) (fun v=>hK v h nx) hl)|(simp only [*];done)
  ·first|refine bH (fun fv hl=>?_) hl|(simp only [*];refine bH (fun fv hl=>?_) hl)|(simp only [*];done)
   split at hl
   case h_2=>cases hl
   split at hl
   ·split at hl
    ·first|exact hC _ _ _ _ _ _ hK hl|(simp only [*];exact hC _ _ _ _ _ _ hK hl)|(simp only [*];done)
    ·cases hl
   ·split at hl
    ·first|exact hY _ _ _ _ _ _ hK hl|(simp only [*];exact hY _ _ _ _ _ _ hK hl)|(simp only [*];done)
    ·cases hl
   ·cases hl
  ·cases hl
 |_=>simp only [wop] at hl;exact mT (K':=fun v=>K' v h nx) (fun v=>hK v h nx) hl
theorem mA {ops:List Oper}{env:List (Nat × Value)}{g:Option (Nat × Bool)}{F G:List (Nat × Value)→Bool}{F' G':List (Nat × Value)→Prop}(h1:∀ e,F e=true→F' e)(h2:∀ e,G e=true→G' e)(hl:y7 A ops env g F G=true):fL A ops env g F' G':=by
 unfold y7 at hl;unfold fL;split at hl
 ·first|exact h1 _ hl|(simp only [*];exact h1 _ hl)|(simp only [*];done)
 ·split at hl
  ·split at hl
   ·split at hl
    ·first|exact lM (h1 _) (h2 _) hl|(simp only [*];exact lM (h1 _) (h2 _) hl)|(simp only [*];done)
    ·first|exact h2 _ hl|(simp only [*];exact h2 _ hl)|(simp only [*];done)
    ·cases hl
   ·cases hl
  ·cases hl
theorem gH {tn:Nat}{env:List (Nat × Value)}{dst:Option Nat}{v:Value}{F:List (Nat × Value)→Bool}{F':List (Nat × Value)→Prop}(h1:∀ e,F e=true→F' e)(hl:F6 tn env dst v F=true):eC tn env dst v F':=by
 unfold F6 at hl;unfold eC;split at hl
 ·first|exact h1 _ hl|(simp only [*];exact h1 _ hl)|(simp only [*];done)
 ·split at hl
  ·first|exact h1 _ hl|(simp only [*];exact h1 _ hl)|(simp only [*];done)
  ·cases hl
theorem MG (hC:Tw C C')(hY:Tw Y Y'){tn:Nat}{ops:List Oper}{F:oY}{F':KS}(hF:∀ e h nx,F e h nx=true→F' e h nx):∀ (l:List Oper) env h nx,aCF A T C Y tn ops l env h nx F=true→yH A T C' Y' tn ops l env h nx F'
 |[],_,_,_,hl=>hF _ _ _ hl
 |o::r,env,h,nx,hl=>mA (fun e=>J2 hC hY fun v h' nx'=>gH fun e'=>MG hC hY hF r e' h' nx') (fun e=>gH fun e'=>MG hC hY hF r e' h nx) hl
theorem H8 (hC:Tw C C'){env:List (Nat × Value)}{op:Op}{K:Value→Bool}{K':Value→Nat→Prop}(hK:∀ v,K v=true→K' v nx)(hl:D3 A T C h nx env op K=true):gL A T C' h nx env op K':=by
 cases op with
 |load t x=>simp only [D3] at hl;exact mT hK hl
 |lookup t m k ok=>exact bH (fun x=>bH fun y=>GP hK) hl
 |slice t x lo hi mx =>
  refine bH (fun v hl=>?_) hl;split at hl
  ·first|refine s9 (fun v h' nx' hl=>?_) hl|(simp only [*];refine s9 (fun v h' nx' hl=>?_) hl)|(simp only [*];done)
   split at hl
   ·rename_i hb;rw [beq_true hb];exact hK _ hl
   ·cases hl
  ·cases hl
 |call c =>
  simp only [D3] at hl;simp only [gL];split at hl
  ·first|exact mT hK hl|(simp only [*];exact mT hK hl)|(simp only [*];done)
  ·first|refine bH (fun fv hl=>?_) hl|(simp only [*];refine bH (fun fv hl=>?_) hl)|(simp only [*];done)
   split at hl
   case h_2=>cases hl
   split at hl
   ·split at hl
    ·first|refine hC _ _ _ _ _ _ (fun v h' nx' hl=>?_) hl|(simp only [*];refine hC _ _ _ _ _ _ (fun v h' nx' hl=>?_) hl)|(simp only [*];done)
     split at hl
     ·rename_i hb;simp only [hb];exact hK _ hl
     ·cases hl
    ·cases hl
   ·cases hl
  ·cases hl
 |_=>simp only [D3] at hl;exact mT hK hl
theorem sT (hC:Tw C C'){tn:Nat}{ops:List Oper}{F:List (Nat × Value)→Bool}{F':List (Nat × Value)→Nat→Prop}(hF:∀ e,F e=true→F' e nx):∀ (l:List Nat) env,N7 A T C tn ops h nx l env F=true→nT A T C' tn ops h l env nx F'
 |[],_,hl=>hF _ hl
 |i::r,env,hl=>by
  simp only [N7] at hl;simp only [vT];split at hl
  ·cases hl
  ·first|exact mA (fun e=>H8 hC fun v=>gH fun e'=>sT hC hF r e') (fun e=>gH fun e'=>sT hC hF r e') hl|(simp only [*];exact mA (fun e=>H8 hC fun v=>gH fun e'=>sT hC hF r e') (fun e=>gH fun e'=>sT hC hF r e') hl)|(simp only [*];done)
theorem vQ {tn:Nat}{ops:List Oper}{F:oY}{F':KS}(hF:∀ e h nx,F e h nx=true→F' e h nx):∀ (l:List Nat) env h nx,CM T tn ops l env h nx F=true→kU T tn ops l env h nx F'
 |[],_,_,_,hl=>hF _ _ _ hl
 |i::r,env,h,nx,hl=>by
  simp only [CM] at hl;simp only [lV];split at hl
  ·split at hl
   ·first|exact gH (fun e'=>vQ hF r e' _ _) hl|(simp only [*];exact gH (fun e'=>vQ hF r e' _ _) hl)|(simp only [*];done)
   ·cases hl
  ·cases hl
theorem sR (hC:Tw C C')(hY:Tw Y Y'){tn:Nat}{ops:List Oper}{hJ:Heap}{F:oY}{F':KS}(hF:∀ e h nx,F e h nx=true→F' e h nx):∀ (l:List (Nat × Bool)) env h nx,OD A T C Y tn ops hJ l env h nx F=true→jI A T C' Y' tn ops hJ l env h nx F'
 |[],_,_,_,hl=>hF _ _ _ hl
 |(i,chk)::r,env,h,nx,hl=>by
  simp only [OD] at hl;simp only [wG];split at hl
  ·cases hl
  ·first|exact mA (fun e=>bD (J2 hC hY fun v h' nx'=>gH fun e'=>sR hC hY hF r e' h' nx')) (fun e=>gH fun e'=>sR hC hY hF r e' h nx) hl|(simp only [*];exact mA (fun e=>bD (J2 hC hY fun v h' nx'=>gH fun e'=>sR hC hY hF r e' h' nx')) (fun e=>gH fun e'=>sR hC hY hF r e' h nx) hl)|(simp only [*];done)
theorem EZ (hC:Tw C C')(hY:Tw Y Y'){tn:Nat}{ops:List Oper}{p:eZ}{env:List (Nat × Value)}{F:oY}{F':KS}(hF:∀ e h nx,F e h nx=true→F' e h nx)(hl:S5 A T C Y tn ops p env h nx F=true):nA A T C' Y' tn ops p env h nx F' :=
 sT hC (fun e=>vQ (fun e h nx=>sR hC hY hF p.tail e h nx) p.allocs e h nx) p.head env hl
theorem ND (hC:Tw C C')(hY:Tw Y Y'){tn:Nat}{ops:List Oper}{o:Oper}{e:List (Nat × Value)}{h:Heap}{nx:Nat}{F:oY}{F':KS}(hF:∀ e h nx,F e h nx=true→F' e h nx)(hl:ZJ A T C Y tn ops o e h nx F=true):oP A T C' Y' tn ops o e h nx F' :=
 mA (fun e=>J2 hC hY fun v h' nx'=>gH fun e'=>hF e' h' nx') (fun e=>gH fun e'=>hF e' h nx) hl
theorem aCv {F:Nat→Bool}{F':Nat→Prop}(hF:∀ i,F i=true→F' i){l:List Nat}(hl:wall F l=true):LI F' l:=by
 rw [xS]
 induction l with
 |nil=>intro i hi;cases hi
 |cons x r ih =>
  simp only [wall,Bool.and_eq_true] at hl;intro i hi;cases hi with
  |head=>exact hF _ hl.1
  |tail _ hm=>exact ih hl.2 i hm
theorem V5 (hC:Tw C C')(hY:Tw Y Y'){tn:Nat}{ops:List Oper}{F:oY}{F':KS}(hF:∀ e h nx,F e h nx=true→F' e h nx):∀ n done e h nx,aDr A T C Y tn ops F n done e h nx=true→F3 A T C' Y' tn ops F' n done e h nx
 |0,_,e,h,nx,hl=>hF _ _ _ hl
 |n+1,done,e,h,nx,hl=>by
  simp only [aDr] at hl;simp only [F3];cases hr:eJ ops done ops 0 with
  |nil =>
   rw [hr] at hl;exact hF _ _ _ hl
  |cons i0 r0 =>
   rw [hr] at hl;refine aCv (fun i hi=>?_) hl;split at hi
   ·rename_i o ho;rw [ho];exact ND hC hY (fun e h nx=>V5 hC hY hF n _ e h nx) hi
   ·cases hi
theorem IP (hC:Tw C C')(hY:Tw Y Y'){tn:Nat}{ops:List Oper}{F:oY}{F':KS}(hF:∀ e h nx,F e h nx=true→F' e h nx):∀ n done e h nx,KK A T C Y tn ops F n done e h nx=true→zP A T C' Y' tn ops F' n done e h nx
 |0,_,e,h,nx,hl=>hF _ _ _ hl
 |n+1,done,e,h,nx,hl=>by
  simp only [KK] at hl;simp only [zP];cases hr:eJ ops done ops 0 with
  |nil =>
   rw [hr] at hl;exact hF _ _ _ hl
  |cons i0 r0 =>
   rw [hr] at hl;simp only at hl ⊢;cases ho:eV ops i0 with
   |some o =>
    rw [ho] at hl;exact ND hC hY (fun e h nx=>IP hC hY hF n _ e h nx) hl
   |none=>rw [ho] at hl;cases hl
theorem PO (hC:Tw C C')(hY:Tw Y Y'){tn:Nat}{ops:Array Oper}{m:Nat}{e:List (Nat × Value)}{h:Heap}{nx:Nat}{F:oY}{F':KS}(hF:∀ e h nx,F e h nx=true→F' e h nx)(hl:aBi A T C Y tn ops e h nx F=true):N8 A T C' Y' tn (.fuel m) ops e h nx F':=by
 unfold aBi at hl;unfold N8;refine IP hC hY (fun e0 h0 n0 hq=>?_) _ _ _ _ _ hl;rw [AR,AR,Bool.and_eq_true] at hq;refine⟨_,_,n0,V5 hC hY (fun e1 h1 n1 hr=>?_) _ _ _ _ _ hq.1,hF _ _ _ hq.2⟩;exact⟨_,_,_,_,⟨rfl,rfl,rfl⟩,V6 hr⟩
def TwR (R:VRB)(R':VR):Prop:=∀ g ps as bd (kn:oY) (kx:Nat→oY) (kr:oY) (kn':KS) (kx':Nat→KS) (kr':KS) e h nx,(∀ e h nx,kn e h nx=true→kn' e h nx)→(∀ i e h nx,kx i e h nx=true→kx' i e h nx)→(∀ e h nx,kr e h nx=true→kr' e h nx)→R g ps as bd kn kx kr e h nx=true→R' g ps as bd kn' kx' kr' e h nx
theorem DY {F:oY→oY}{F':KS→KS}(hF:∀ (k:oY) (k':KS) e h nx,(∀ e h nx,k e h nx=true→k' e h nx)→F k e h nx=true→F' k' e h nx):∀ n e h nx,aBM F n e h nx=true→E5 F' n e h nx
 |0,_,_,_,hl=>by cases hl
 |n+1,e,h,nx,hl=>hF _ _ e h nx (fun e h nx=>DY hF n e h nx) hl
theorem o7 (hC:Tw C C')(hY:Tw Y Y'){tn:Nat}{PL:Nat→Option eZ}{n:Nat}{R:VRB}{R':VR}(hR:TwR R R'):∀ (c:Code) (kn:oY) (kx:Nat→oY) (kr:oY) (kn':KS) (kx':Nat→KS) (kr':KS) e h nx,(∀ e h nx,kn e h nx=true→kn' e h nx)→(∀ i e h nx,kx i e h nx=true→kx' i e h nx)→(∀ e h nx,kr e h nx=true→kr' e h nx) →
  oX A T C Y tn PL n R c kn kx kr e h nx=true→gF A T C' Y' tn PL (.fuel n) R' c kn' kx' kr' e h nx:=by
 intro c
 induction c with
 |skip=>exact fun kn kx kr kn' kx' kr' e h nx h1 _ _ hl=>h1 _ _ _ hl
 |region id ops draw =>
  intro kn kx kr kn' kx' kr' e h nx h1 _ _ hl;simp only [oX] at hl;simp only [fT,jE];cases draw with
  |false=>exact MG hC hY h1 _ _ _ _ hl
  |true =>
   simp only at hl ⊢;split at hl
   ·first|exact EZ hC hY h1 hl|(simp only [*];exact EZ hC hY h1 hl)|(simp only [*];done)
   ·first|exact PO hC hY h1 hl|(simp only [*];exact PO hC hY h1 hl)
 |seq a b iha ihb=>exact fun kn kx kr kn' kx' kr' e h nx h1 h2 h3 hl=>iha _ kx kr _ kx' kr' e h nx (fun e h nx=>ihb kn kx kr kn' kx' kr' e h nx h1 h2 h3) h2 h3 hl
 |cond c t f iht ihf =>
  intro kn kx kr kn' kx' kr' e h nx h1 h2 h3 hl;simp only [oX] at hl;simp only [fT,jE];split at hl
  ·first|exact lM (iht kn kx kr kn' kx' kr' e h nx h1 h2 h3) (ihf kn kx kr kn' kx' kr' e h nx h1 h2 h3) hl|(simp only [*];exact lM (iht kn kx kr kn' kx' kr' e h nx h1 h2 h3) (ihf kn kx kr kn' kx' kr' e h nx h1 h2 h3) hl)|(simp only [*];done)
  ·cases hl
 |block id b ih =>
  intro kn kx kr kn' kx' kr' e h nx h1 h2 h3 hl
  first|refine ih kn _ kr kn' _ kr' e h nx h1 (fun j e h nx hk=>?_) h3 hl|(simp only [*];refine ih kn _ kr kn' _ kr' e h nx h1 (fun j e h nx hk=>?_) h3 hl)|(simp only [*];done)
  cases hb:Nat.beq j id with
  |true=>simp only [hb] at hk ⊢;exact h1 _ _ _ hk
  |false=>simp only [hb] at hk ⊢;exact h2 _ _ _ _ hk
 |loop b ih =>
  intro kn kx kr kn' kx' kr' e h nx h1 h2 h3 hl
  first|exact DY (fun k k' e h nx hk=>ih k kx kr k' kx' kr' e h nx hk h2 h3) n e h nx hl|(simp only [*];exact DY (fun k k' e h nx hk=>ih k kx kr k' kx' kr' e h nx hk h2 h3) n e h nx hl)|(simp only [*];done)
 |rangeFunc g ps as bd _ _=>exact fun kn kx kr kn' kx' kr' e h nx h1 h2 h3 hl=>hR g ps as bd kn kx kr kn' kx' kr' e h nx h1 h2 h3 hl
 |exit id=>exact fun kn kx kr kn' kx' kr' e h nx _ h2 _ hl=>h2 _ _ _ _ hl
 |ret=>exact fun kn kx kr kn' kx' kr' e h nx _ _ h3 hl=>h3 _ _ _ hl
 |label l=>exact fun kn kx kr kn' kx' kr' e h nx h1 _ _ hl=>h1 _ _ _ hl
 |scope b ih=>exact fun kn kx kr kn' kx' kr' e h nx h1 h2 h3 hl=>ih kn kx kr kn' kx' kr' e h nx h1 h2 h3 hl
 |goto l=>exact fun _ _ _ _ _ _ _ _ _ _ _ _ hl=>by cases hl
 |refuse s=>exact fun _ _ _ _ _ _ _ _ _ _ _ _ hl=>by cases hl
theorem sQ {e:List (Nat × Value)}:∀ (l:List ResultVar) {F:List Value→Bool} {F':List Value→Prop},(∀ l,F l=true→F' l)→xE T e h l F=true→fK T e h l F'
 |[],F,F',hF,hl=>hF _ hl
 |.tmp t::r,F,F',hF,hl=>bH (fun v=>sQ r fun l=>hF _) hl
 |.cell a t::r,F,F',hF,hl=>bH (fun p=>OK fun v=>sQ r fun l=>hF _) hl
theorem DG {fn:Func}(hK:∀ v h nx,K v h nx=true→K' v h nx)(e:List (Nat × Value))(h:Heap)(nx:Nat)(hl:aI5 T fn K e h nx=true):B2 T fn K' e h nx:=by
 refine sQ _ (fun l hl=>?_) hl;split at hl
 ·first|exact hK _ _ _ hl|(simp only [*];exact hK _ _ _ hl)|(simp only [*];done)
 ·split at hl
  ·rename_i hn;simp only [hn];exact hK _ _ _ hl
  ·cases hl
theorem JN (hC:Tw C C'){f tn:Nat}:TwR (aAs C f tn) (rY C' f tn):=by
 intro g ps as bd kn kx kr kn' kx' kr' e h nx h1 h2 h3 hl;refine bH (fun gv hl=>?_) hl;split at hl
 case h_2=>cases hl
 split at hl
 case h_2=>cases hl
 first|refine hC _ _ _ _ _ _ (fun v h' nx' hl=>?_) hl|(simp only [*];refine hC _ _ _ _ _ _ (fun v h' nx' hl=>?_) hl)|(simp only [*];done)
 split at hl
 case h_2=>cases hl
 rename_i l hl1 hl2;split at hl
 ·cases hl
 ·first|exact h1 _ _ _ hl|(simp only [*];exact h1 _ _ _ hl)|(simp only [*];done)
 ·first|exact h2 _ _ _ _ hl|(simp only [*];exact h2 _ _ _ _ hl)|(simp only [*];done)
 ·first|exact h3 _ _ _ hl|(simp only [*];exact h3 _ _ _ hl)|(simp only [*];done)
 ·cases hl
theorem s8 {q:Nat}(hK:∀ v h nx,K v h nx=true→K' v h nx){j:Option Code}(e:List (Nat × Value))(h:Heap)(nx:Nat)(hl:aBp q K j e h nx=true):v8 q K' j e h nx:=by
 unfold aBp at hl;unfold v8;split at hl
 ·first|exact hK _ _ _ hl|(simp only [*];exact hK _ _ _ hl)|(simp only [*];done)
 ·cases hl
theorem YI (hC:Tw C C')(hY:Tw Y Y'){PL:Nat→Nat→Option eZ}{n:Nat}:Tw (SV A T C Y PL n) (pS A T C' Y' PL (.fuel n)):=by
 intro q args h nx K K' hK hl;unfold SV at hl;unfold pS;split at hl
 case h_2=>cases hl
 split at hl
 case h_2=>cases hl
 first|refine o7 hC hY (fun _ _ _ _ _ _ _ _ _ _ _ _ _ _ _ _ hl=>by cases hl) _ _ _ _ _ _ _ _ _ _ (fun e1 h1 nx1 hl=>?_) (fun _ _ _ _ hl=>by cases hl) (fun _ _ _ hl=>by cases hl) hl|(simp only [*];refine o7 hC hY (fun _ _ _ _ _ _ _ _ _ _ _ _ _ _ _ _ hl=>by cases hl) _ _ _ _ _ _ _ _ _ _ (fun e1 h1 nx1 hl=>?_) (fun _ _ _ _ hl=>by cases hl) (fun _ _ _ hl=>by cases hl) hl)|(simp only [*];done)
 split at hl
 case h_2=>cases hl
 split at hl
 case h_2=>cases hl
 first|exact o7 hC hY (fun _ _ _ _ _ _ _ _ _ _ _ _ _ _ _ _ hl=>by cases hl) _ _ _ _ _ _ _ _ _ _ (s8 hK) (fun i=>s8 hK) (s8 hK) hl|(simp only [*];exact o7 hC hY (fun _ _ _ _ _ _ _ _ _ _ _ _ _ _ _ _ hl=>by cases hl) _ _ _ _ _ _ _ _ _ _ (s8 hK) (fun i=>s8 hK) (s8 hK) hl)|(simp only [*];done)
def TwX (c:CP)(XB:Nat→Option (List Value→Heap→Nat→rK→Bool)):Prop:=∀ f x xb,c.X f=some x→XB f=some xb→∀ args h nx (K:rK) (K':KE),(∀ v h nx,K v h nx=true→K' v h nx)→xb args h nx K=true→x args h nx K'
theorem aA8 {c:CP}{XB:Nat→Option (List Value→Heap→Nat→rK→Bool)}(hX:TwX c XB){n:Nat}(hC:Tw C C')(hY:Tw Y Y'):Tw (Z2 c XB n C Y) (rX c (some n) C' Y'):=by
 intro f args h nx K K' hK hl;unfold Z2 at hl;unfold rX;split at hl
 ·rename_i x hx;split at hl
  ·rename_i xb hxb
   first|exact hX f x xb hx hxb _ _ _ _ _ hK hl|(simp only [hx];exact hX f x xb hx hxb _ _ _ _ _ hK hl)
  ·cases hl
 rename_i hx
 first|skip|(simp only [hx])
 split at hl
 ·cases hl
 split at hl
 case h_2=>cases hl
 first|exact o7 hC hY (JN hC) _ _ _ _ _ _ _ _ _ _ (DG fun v h nx=>hK v _ nx) (fun _ _ _ _ hl=>by cases hl) (DG fun v h nx=>hK v _ nx) hl|(simp only [*];exact o7 hC hY (JN hC) _ _ _ _ _ _ _ _ _ _ (DG fun v h nx=>hK v _ nx) (fun _ _ _ _ hl=>by cases hl) (DG fun v h nx=>hK v _ nx) hl)
theorem aCE {PR:Nat→Bool}(hC:Tw C C'):Tw (aFO PR C) (frC PR C'):=by
 intro f args h nx K K' hK hl;unfold aFO at hl;unfold frC;cases hp:PR f with
 |false=>simp only [hp] at hl ⊢;exact hC _ _ _ _ _ _ hK hl
 |true =>
  simp only [hp] at hl ⊢;refine hC _ _ _ _ _ _ (fun v h' nx' hq=>?_) hl;unfold aIJ at hq;unfold frK;split at hq
  ·rename_i hg;rw [hg];exact hK _ _ _ hq
  ·rename_i hg;rw [hg];exact hK _ _ _ hq
theorem pE {c:CP}{XB:Nat→Option (List Value→Heap→Nat→rK→Bool)}(hX:TwX c XB):∀ (d:Nat) (b:Bool),Tw (BJ c XB d b) (rH c d b)
 |0,_=>fun _ _ _ _ _ _ _ hl=>by simp [BJ] at hl
 |d+1,false=>aCE (aA8 hX (pE hX d false) (pE hX d true))
 |d+1,true=>YI (pE hX d false) (pE hX d true)
end
def SI (n:Nat):aT→aT
 |.cells wr g sz cs=>.cells wr g sz (cs.map (bR (fun k=>n+k)))
 |o=>o
def lT (n:Nat):Heap→Heap
 |[]=>[]
 |(k,o)::r=>(n+k,SI n o)::lT n r
theorem jV {n:Nat}(h:Heap){k:Nat}{o:aT}(hl:look (lT n h) k=some o):∃ j o',k=n+j∧look h j=some o'∧o=SI n o':=by
 induction h with
 |nil=>cases hl
 |cons x r ih =>
  obtain⟨j,q⟩:=x;simp only [lT,aC] at hl;split at hl
  ·rename_i hb;injection hl with hl;exact⟨j,q,(beq_true hb).symm,by rw [aC,show Nat.beq j j=true from Nat.beq_refl j],hl.symm⟩
  ·rename_i hb;obtain⟨j',o',h1,h2,h3⟩:=ih hl;refine⟨j',o',h1,?_,h3⟩;have:Nat.beq j j'=false:=by
    cases hb':Nat.beq j j' with
    |false=>rfl
    |true =>
     have:=beq_true hb';subst this;rw [h1,Nat.beq_refl] at hb;cases hb
   rw [aC,this];exact h2
def aBx:aT→Bool
 |.cells true _ _ _=>true
 |_=>false
def w8:Heap→Bool
 |[]=>true
 |(_,o)::r=>aBx o&&w8 r
theorem WL {h:Heap}(hh:w8 h=true){k:Nat}{o:aT}(hl:look h k=some o):∃ g sz cs,o=.cells true g sz cs:=by
 induction h with
 |nil=>cases hl
 |cons x r ih =>
  obtain⟨j,q⟩:=x;simp only [w8,Bool.and_eq_true] at hh;rw [aC] at hl;split at hl
  ·injection hl with hl;subst hl;cases q with
   |cells wr g sz cs =>
    cases wr with
    |true=>exact⟨g,sz,cs,rfl⟩
    |false=>simp [aBx] at hh
   |_=>simp [aBx] at hh
  ·exact ih hh.2 hl
def J8:aT→Bool
 |.cells _ _ _ _=>true
 |_=>false
def fQ:Heap→Bool
 |[]=>true
 |(_,o)::r=>J8 o&&fQ r
theorem nG {h:Heap}(hh:fQ h=true){k:Nat}{o:aT}(hl:look h k=some o):∃ wr g sz cs,o=.cells wr g sz cs:=by
 induction h with
 |nil=>cases hl
 |cons x r ih =>
  obtain⟨j,q⟩:=x;simp only [fQ,Bool.and_eq_true] at hh;rw [aC] at hl;split at hl
  ·injection hl with hl;subst hl;cases q with
   |cells wr g sz cs=>exact⟨wr,g,sz,cs,rfl⟩
   |_=>simp [J8] at hh
  ·exact ih hh.2 hl
theorem LF (o:aT):o.closed.alone=false:=by cases o <;> rfl
section
variable {ι:Nat→Loc}{σ:Nat→Nat}{n m:Nat}
theorem xA {v:Value}(h:nV (fun k=>ι (σ k)) m v)(hs:∀ k,k<m→σ k<n):nV ι n (dT (lB σ) v):=by
 cases v with
 |pointer a=>cases a with
  |none=>trivial
  |some a=>exact⟨hs _ h.1,h.2⟩
 |slice a l c=>cases a with
  |none=>trivial
  |some a=>exact⟨hs _ h.1,fun hf=>h.2 hf⟩
 |map a=>cases a with
  |none=>trivial
  |some a=>exact⟨hs _ h.1,h.2⟩
 |agg c=>exact h.elim
 |tuple c=>exact h.elim
 |_=>trivial
theorem iY {v:Value}(h:gG (fun k=>ι (σ k)) m v)(hs:∀ k,k<m→σ k<n):gG ι n (bS (lB σ) v):=by
 cases v with
 |func f a c =>
  refine⟨?_,fun x hx=>?_⟩
  ·have h1:=h.1;cases f with
   |yield l=>exact⟨hs _ h1.1,h1.2⟩
   |_=>trivial
  ·simp only [Array.toList_map,List.mem_map] at hx;obtain⟨y,hy,rfl⟩:=hx;exact xA (h.2 y hy) hs
 |pointer a=>have:=xA (ι:=ι) (σ:=σ) (n:=n) (m:=m) (v:=.pointer a);cases a <;> exact this h hs
 |slice a l c=>have:=xA (ι:=ι) (σ:=σ) (n:=n) (m:=m) (v:=.slice a l c);cases a <;> exact this h hs
 |map a=>have:=xA (ι:=ι) (σ:=σ) (n:=n) (m:=m) (v:=.map a);cases a <;> exact this h hs
 |agg c=>exact h.elim
 |tuple c=>exact h.elim
 |_=>trivial
theorem oR {v:Value}(h:j6 (fun k=>ι (σ k)) m v)(hs:∀ k,k<m→σ k<n):j6 ι n (dS (lB σ) v):=by
 cases v with
 |agg cs =>
  intro x hx;simp only [Array.toList_map,List.mem_map] at hx;obtain⟨y,hy,rfl⟩:=hx;exact iY (h y hy) hs
 |pointer a=>have:=iY (ι:=ι) (σ:=σ) (n:=n) (m:=m) (v:=.pointer a);cases a <;> exact this h hs
 |slice a l c=>have:=iY (ι:=ι) (σ:=σ) (n:=n) (m:=m) (v:=.slice a l c);cases a <;> exact this h hs
 |map a=>have:=iY (ι:=ι) (σ:=σ) (n:=n) (m:=m) (v:=.map a);cases a <;> exact this h hs
 |func f a c=>exact iY (ι:=ι) (σ:=σ) (n:=n) (m:=m) (v:=.func f a c) h hs
 |tuple c=>exact h.elim
 |_=>trivial
theorem ZP {v:Value}(h:eK (fun k=>ι (σ k)) m v)(hs:∀ k,k<m→σ k<n):eK ι n (iB σ v):=by
 unfold iB;cases v with
 |tuple cs =>
  intro x hx;simp only [Array.toList_map,List.mem_map] at hx;obtain⟨y,hy,rfl⟩:=hx;exact oR (h y hy) hs
 |pointer a=>have:=oR (ι:=ι) (σ:=σ) (n:=n) (m:=m) (v:=.pointer a);cases a <;> exact this h hs
 |slice a l c=>have:=oR (ι:=ι) (σ:=σ) (n:=n) (m:=m) (v:=.slice a l c);cases a <;> exact this h hs
 |map a=>have:=oR (ι:=ι) (σ:=σ) (n:=n) (m:=m) (v:=.map a);cases a <;> exact this h hs
 |func f a c=>exact oR (ι:=ι) (σ:=σ) (n:=n) (m:=m) (v:=.func f a c) h hs
 |agg c=>exact oR (ι:=ι) (σ:=σ) (n:=n) (m:=m) (v:=.agg c) h hs
 |_=>trivial
theorem aF4 {v:Value}(h:gS v=true):gS (bS (lB σ) v)=true:=by rw [jM h];exact h
end
theorem MW {B nx n0 m:Nat}{w w':World}{ι ι0:Nat→Loc}{h h1:Heap}{v1:Value}{K Q:KE}{u:Value}(H:aQ ι B h nx w)
  (hQ:∀ v h' nx',Q v h' nx'→∃ ρ,rB 0 ρ [(0,v1)] h1 m [(0,v)] h' nx') (how:fQ h1=true) (hal:w8 h1=true∨∀ k o,look h k=some o→o.alone=false) (hK:K (iB (fun k=>nx+k) v1) (app (lT nx h1) h) (nx+m))
  (hr:Ret w.heap.size w ι0 n0 Q (.returned u) w'):Ret B w ι nx K (.returned u) w':=by
 obtain⟨v,h',nx',ι',q1,q2,q3,q4,q5,q6,q7⟩:=hr;obtain⟨ρ,r⟩:=hQ v h' nx' q1;have hv:v=iB ρ v1∧A0 m v1:=by
  obtain⟨e1,e2⟩:=r.env 0 v1 rfl;injection e1 with e1;exact⟨e1,e2⟩
 obtain⟨rfl,hnm⟩:=hv;obtain⟨ιN,hloc,hold⟩:∃ ιN:Nat→Loc,(∀ j,ιN (nx+j)=ι' (ρ j))∧∀ k,k<nx→ιN k=ι k :=
  ⟨fun k=>if k<nx then ι k else ι' (ρ (k - nx)),fun j=>by
   have:¬ (nx+j<nx):=(by omega);simp only [if_neg this,Nat.add_sub_cancel_left],fun k hk=>if_pos hk⟩
 have hι:(fun k=>ιN (nx+k))=fun k=>ι' (ρ k):=funext hloc;have hsm:eK (fun k=>ι' (ρ k)) m v1:=CW q2 hnm;have R1:=r.aGr q3;have H':aQ ι B h nx w':=H.ext q4;have hscn:eK ιN (nx+m) (iB (fun k=>nx+k) v1):=by
  refine ZP (m:=m) ?_ (fun k hk=>by omega);rw [hι];exact hsm
 have hcase:∀ k o,look (app (lT nx h1) h) k=some o→(look h k=some o∧k<nx)∨(∃ j wr g sz cs,k=nx+j∧look h1 j=some (.cells wr g sz cs)∧o=.cells wr g sz (cs.map (bR (fun k=>nx+k)))):=by
  intro k o hk;rw [fY] at hk;split at hk
  ·rename_i o' ho;injection hk with hk;subst hk;obtain⟨j,o',e1,e2,e3⟩:=jV h1 ho;obtain⟨wr,g,sz,cs,rfl⟩:=nG how e2;exact .inr ⟨j,wr,g,sz,cs,e1,e2,e3⟩
  ·exact .inl ⟨hk,H.low k _ hk⟩
 refine⟨iB (fun k=>nx+k) v1,_,_,ιN,hK,hscn,⟨?_,?_,?_,H'.size,?_⟩,q4.mono H.size,hold,by omega,?_⟩
 ·intro k o hk;rcases hcase k o hk with ⟨h2,h3⟩|⟨j,wr,g,sz,cs,rfl,h2,rfl⟩
  ·rw [hold k h3];exact (H'.obj k o h2).names (H'.sc k o h2) hold
  ·rw [hloc];have ho:=R1.obj j _ h2;have hsc:=R1.sc j _ h2;cases hl:ι' (ρ j) with
   |nil p =>
    rw [hl] at ho;have hcz:cs=[]∧(sz=0∨wr=true→p.isSome=true):=(by cases wr <;> exact ho);obtain⟨hc0,hz⟩:=hcz;subst hc0;cases wr <;> exact⟨rfl,hz⟩
   |lay b off e =>
    rw [hl] at ho;have hcell:∀ {Φ:Nat→Value→Prop},(∀ (i:Nat) y,cs[i]? = some y→Φ i (bS (fun k=>ι' (ρ k)) y))→∀ (i:Nat) v,(cs.map (bR (fun k=>nx+k)))[i]? = some v→Φ i (bS ιN v):=by
     intro Φ hΦ i v hv;rw [List.getElem?_map] at hv;cases hy:cs[i]? with
     |none=>rw [hy] at hv;cases hv
     |some y =>
      rw [hy] at hv;injection hv with hv;subst hv;have hsy:=hsc y (List.mem_of_getElem? hy);have hin:gG ιN (nx+m) (bS (lB (fun k=>nx+k)) y):=by
       refine iY (m:=m) ?_ (fun k hk=>by omega);rw [hι];exact hsy
      have:=hΦ i y hy;rw [← hι,← gW hin] at this;exact this
    have hgg:∀ {b:Bool},(b=true→c9 cs=true)→b=true→c9 (cs.map (bR (fun k=>nx+k)))=true:=fun h hg=>pM fun v hv=>by
     obtain⟨y,hy,rfl⟩:=List.mem_map.1 hv;exact aF4 (aU (h hg) hy)
    cases wr with
    |true =>
     obtain⟨a1,a2,arr,t,a3,a4,a5⟩:=ho;exact⟨Nat.le_trans H.size a1,hgg a2,arr,t,a3,by simpa using a4,hcell (Φ:=fun i v=>arr[off+i]? = some v) a5⟩
    |false =>
     obtain⟨a1,a2,a5⟩:=ho;exact⟨a1,hgg a2,hcell (Φ:=fun i v=>w'.cell? ⟨b,off+i,none⟩=some v) a5⟩
 ·intro k k' o o' hk hk' hne ha b hb;rcases hcase k o hk with ⟨h2,h3⟩|⟨j,wr,g,sz,cs,rfl,h2,rfl⟩
  ·rw [hold k h3] at hb;rcases hcase k' o' hk' with ⟨h4,h5⟩|⟨j',wr',g',sz',cs',rfl,h4,rfl⟩
   ·rw [hold k' h5];exact H'.sep k k' o o' h2 h4 hne ha b hb
   ·rw [hloc];intro hb';have hlt:=(H.obj k o h2).lt hb;rcases hal with how2|hal
    ·obtain⟨g2,sz2,cs2,e2⟩:=WL how2 h4;have ho:=R1.obj j' _ h4;cases hl:ι' (ρ j') with
     |nil p=>rw [hl] at hb';cases hb'
     |lay b2 off e =>
      rw [hl] at hb';rw [hl,e2] at ho;have:b2=b:=(by simpa [Loc.C6] using hb');have:=ho.1;omega
    ·rw [hal k o h2] at ha;cases ha
  ·rw [hloc] at hb;rcases hcase k' o' hk' with ⟨h4,h5⟩|⟨j',wr',g',sz',cs',rfl,h4,rfl⟩
   ·rw [hold k' h5];intro hb';have hlt:=(H.obj k' o' h4).lt hb';have ho:=R1.obj j _ h2;cases hl:ι' (ρ j) with
    |nil p=>rw [hl] at hb;cases hb
    |lay b2 off e =>
     rw [hl] at ho hb;have:b2=b:=(by simpa [Loc.C6] using hb);have hwr:wr=true:=ha;subst hwr;have:=ho.1;omega
   ·rw [hloc];exact R1.sep j j' _ _ h2 h4 (fun e=>hne (by rw [e])) ha b hb
 ·intro k o hk;rcases hcase k o hk with ⟨h2,h3⟩|⟨j,wr,g,sz,cs,rfl,h2,rfl⟩
  ·omega
  ·have:=R1.low j _ h2;omega
 ·intro k o hk;rcases hcase k o hk with ⟨h2,h3⟩|⟨j,wr,g,sz,cs,rfl,h2,rfl⟩
  ·exact (H'.sc k o h2).mono (by omega) hold
  ·intro v hv;obtain⟨y,hy,rfl⟩:=List.mem_map.1 hv;refine iY (m:=m) ?_ (fun k hk=>by omega);rw [hι];exact R1.sc j _ h2 y hy
 ·rw [q7,EU q2,EU hscn,hι]
def In (args0:List Value)(h0:Heap)(n0:Nat)(args:List Value)(h:Heap)(nx:Nat):Prop :=
 ∀ ι B w,aQ ι B h nx w→(∀ v∈args,eK ι nx v)→∃ ι0,args.map (tr ι)=args0.map (tr ι0)∧(∀ v∈args0,eK ι0 n0 v)∧aQ ι0 w.heap.size h0 n0 w
abbrev Sp:=List Value→Heap→Nat→Value→Heap→Nat→Prop
def qW (h1 h:Heap):Heap:=match w8 h1 with|true=>h|false=>eG h
def xOf (S:Sp):List Value→Heap→Nat→KE→Prop:=fun args h nx K =>
 ∃ args0 h0 n0 v1 h1 m,S args0 h0 n0 v1 h1 m∧In args0 h0 n0 args h nx∧K (iB (fun k=>nx+k) v1) (app (lT nx h1) (qW h1 h)) (nx+m)
def L6 (v1:Value)(h1:Heap)(m:Nat):KE:=fun v h' nx'=>∃ ρ,rB 0 ρ [(0,v1)] h1 m [(0,v)] h' nx'
theorem jX {P:Program}{C:VC}{f:Nat}{S:Sp}(hC:bL P C)(hS:∀ args0 h0 n0 v1 h1 m,S args0 h0 n0 v1 h1 m→fQ h1=true∧∃ Q:KE,C f args0 h0 n0 Q∧∀ v h nx,Q v h nx→L6 v1 h1 m v h nx):dM P f (xOf S):=by
 refine⟨fun args h nx K hx ι B w H hs=>?_,fun args h nx K hx=>?_⟩
 ·obtain⟨args0,h0,n0,v1,h1,m,s1,s2,s3⟩:=hx;obtain⟨how,Q,hc,hq⟩:=hS _ _ _ _ _ _ s1;obtain⟨ι0,e1,e2,e3⟩:=s2 ι B w H hs;obtain⟨c1,c2⟩:=hC f args0 h0 n0 _ hc ι0 w.heap.size w e3 e2;refine⟨c1,?_⟩;rw [e1];refine CallsIn.mono c2 fun e w' hr=>?_;cases e with
  |returned u =>
   unfold qW at s3;cases ho:w8 h1 with
   |true=>rw [ho] at s3;exact MW H (fun v h' nx' q=>hq v h' nx' q) how (.inl ho) s3 hr
   |false =>
    rw [ho] at s3;refine MW (H.shut.down H.size) (fun v h' nx' q=>hq v h' nx' q) how (.inr fun k o hk=>?_) s3 hr;rw [fV] at hk;cases hq:look h k with
    |none=>rw [hq] at hk;cases hk
    |some q =>
     rw [hq] at hk;injection hk with hk;subst hk;exact LF q
  |_=>exact hr.elim
 ·obtain⟨args0,h0,n0,v1,h1,m,s1,s2,s3⟩:=hx;exact⟨_,_,_,s3,fun K' hk=>⟨args0,h0,n0,v1,h1,m,s1,s2,hk⟩⟩
theorem bY {α:Type}{k:Nat}{o:α}{p:Prop}(h:look [] k=some o):p:=by cases h
theorem mI {v:Value}(hv:gT v=true){h':Heap}{nx':Nat}:L6 v [] 0 v h' nx' :=
 ⟨id,⟨fun t u hu=>by
  rw [aC] at hu;split at hu
  ·rename_i hb;injection hu with hu;subst hu;exact⟨by rw [aC,hb];show some v=some (iB id v);rw [iB,fZ hv],cY hv⟩
  ·exact bY hu,fun k o hk=>bY hk,fun k k' o o' hk=>bY hk,fun k hk=>rfl,Nat.le_refl _⟩⟩
theorem r5 {σ:Nat→Nat}{v:Value}(hv:gT v=true):iB σ v=v:=fZ hv
theorem aL5 {args:List Value}(hg:∀ v∈args,gT v=true){h:Heap}{nx:Nat}:In args [] 0 args h nx:=by
 intro ι B w H hs;refine⟨ι,rfl,fun v hv=>cY (hg v hv),⟨fun k o hk=>bY hk,fun k k' o o' hk=>bY hk,fun k o hk=>bY hk,Nat.le_refl _,fun k o hk=>bY hk⟩⟩
end Go.Aw
end
