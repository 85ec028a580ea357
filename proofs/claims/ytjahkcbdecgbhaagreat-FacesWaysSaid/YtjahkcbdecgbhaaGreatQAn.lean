/-
  Parts of a proof. No condition.
-/
import Derived.Test.YtjahkcbdecgbhaaGreatQAm
set_option linter.unusedSimpArgs false
set_option linter.unusedVariables false
noncomputable section
namespace Go.Aw
open Go.RowKit
section
variable {A:Ar}{T:cU}{K:Value→Bool}{K':Value→Prop}
theorem bL {x:Option Value}(hK:∀ v,K v=true→K' v)(hl:qY x K=true):on x K':=by
 cases x with
 |none=>cases hl
 |some v=>exact hK v hl
theorem mM {b:Bool}{X Y:Unit→Bool}{X' Y':Unit→Prop}(h1:X ()=true→X' ())(h2:Y ()=true→Y' ())(hl:wbr b X Y=true):br b X' Y':=by
 cases b with
 |true=>exact h1 hl
 |false=>exact h2 hl
theorem bH {b X:Bool}{X':Prop}(h:X=true→X')(hl:eN b X=true):dT b X':=by
 cases b with
 |true=>exact h hl
 |false=>cases hl
theorem PF {h:Heap}{t:TypeId}{x:Value}(hK:∀ v,K v=true→K' v)(hl:XY T h t x K=true):sZ T h t x K':=by
 unfold XY at hl;unfold sZ
 repeat' (split at hl)
 all_goals first|(cases hl;done)|(simp_all;done)
theorem II {t:TypeId}{x:Value}{f:Nat}(hK:∀ v,K v=true→K' v)(hl:xK T t x f K=true):iS T t x f K':=by
 unfold xK at hl;unfold iS
 repeat' (split at hl)
 all_goals first|(cases hl;done)|(simp_all;done)
theorem IL {t:TypeId}{x ix:Value}(hK:∀ v,K v=true→K' v)(hl:xJ A T t x ix K=true):iY A T t x ix K':=by
 unfold xJ at hl;unfold iY
 repeat' (split at hl)
 all_goals first|(cases hl;done)|(simp_all;exact bH (hK _) hl;done)
theorem QW {t:TypeId}{cs:List Value}{o:Nat}(hK:∀ v,K v=true→K' v)(hl:XJ T t cs o K=true):CU T t cs o K':=by
 unfold XJ at hl;unfold CU
 repeat' (split at hl)
 all_goals first|(cases hl;done)|(simp_all;done)
theorem Z6 {t:TypeId}{x:Value}{f:Nat}(hK:∀ v,K v=true→K' v)(hl:S7 T t x f K=true):vA T t x f K':=by
 unfold S7 at hl;unfold vA
 repeat' (split at hl)
 all_goals first|(cases hl;done)|(simp_all;exact QW hK hl;done)
theorem ZC {t:TypeId}{x ix:Value}(hK:∀ v,K v=true→K' v)(hl:RO A T t x ix K=true):s9 A T t x ix K':=by
 unfold RO at hl;unfold s9
 repeat' (split at hl)
 all_goals first|(cases hl;done)|(simp_all;exact bH (QW hK) hl;done)|(simp_all;done)
theorem aDB {op:BinOp}{k:IntKind}{a b:Int}(hK:∀ v,K v=true→K' v)(hl:aKC A op k a b K=true):Z9 A op k a b K':=by
 cases op <;> first|(cases hl;done)|exact hK _ hl|exact bH (hK _) hl
theorem aF3 {op:BinOp}{t:TypeId}{x y:Value}(hK:∀ v,K v=true→K' v)(hl:aIE A T op t x y K=true):TO A T op t x y K':=by
 unfold aIE at hl;unfold TO
 repeat' (split at hl)
 all_goals first|(cases hl;done)|(simp_all;done)|(simp_all;exact aDB hK hl;done)|(simp_all;exact bH (hK _) hl;done)
theorem aFL {op:BinOp}{h:Heap}{t:TypeId}{x:Value}(hK:∀ v,K v=true→K' v)(hl:aHL T h op t x K=true):UG T h op t x K':=by
 unfold aHL at hl;unfold UG
 repeat' (split at hl)
 all_goals first|(cases hl;done)|(simp_all;done)
theorem aHS {op:UnOp}{x:Value}(hK:∀ v,K v=true→K' v)(hl:wun A op x K=true):vun A op x K':=by
 unfold wun at hl;unfold vun
 repeat' (split at hl)
 all_goals first|(cases hl;done)|(simp_all;done)|(simp_all;exact bH (hK _) hl;done)
theorem KI {t:TypeId}{ps:List (Nat × Value)}(hK:∀ v,K v=true→K' v)(hl:SK T t ps K=true):x6 T t ps K':=by
 unfold SK at hl;unfold x6;cases ht:look T t with
 |none=>simp only [ht] at hl;cases hl
 |some ti =>
  simp only [ht] at hl ⊢;cases hk:ti.kind <;> simp only [hk] at hl ⊢ <;> cases hp:kR ps <;> (try simp only [hp] at hl ⊢)
  all_goals first
   |(simp at hl;done)
   |(split at hl <;> first|(cases hl;done)|(split at hl <;> first|(cases hl;done)|(simp only [*];first|done|exact hK _ hl)))
theorem CV {b:Builtin}{ts:Array TypeId}{vs:List Value}(hK:∀ v,K v=true→K' v)(hl:FI A T b ts vs K=true):oB A T b ts vs K':=by
 unfold FI at hl;unfold oB
 repeat' (split at hl)
 all_goals first|(cases hl;done)|(simp_all;done)|(simp_all;exact bL hK hl;done)
theorem nM {env:List (Nat × Value)}{h:Heap}{op:Op}(hK:∀ v,K v=true→K' v)(hl:wV A T env h op K=true):jS A T env h op K':=by
 cases op with
 |move x=>exact bL hK hl
 |assign x=>exact bL hK hl
 |pick c a b =>
  refine bL (fun u hu=>?_) hl;split at hu
  ·first|exact mM (bL hK) (bL hK) hu|(simp only [*];exact mM (bL hK) (bL hK) hu)|(simp only [*];done)
  ·cases hu
 |nilCheck x =>
  first|refine bL (fun u hu=>?_) hl|(simp only [*];refine bL (fun u hu=>?_) hl)|(simp only [*];done)
  split at hu
  ·first|exact hK _ hu|(simp only [*];exact hK _ hu)|(simp only [*];done)
  ·first|exact hK _ hu|(simp only [*];exact hK _ hu)|(simp only [*];done)
  ·first|exact hK _ hu|(simp only [*];exact hK _ hu)|(simp only [*];done)
  ·cases hu
 |load t x=>exact bL (fun u=>PF hK) hl
 |fieldAddr s x f=>exact bL (fun u=>II hK) hl
 |field s x f=>exact bL (fun u=>Z6 hK) hl
 |indexAddr t x i=>exact bL (fun u=>bL fun j=>IL hK) hl
 |index t x i=>exact bL (fun u=>bL fun j=>ZC hK) hl
 |binOp op t x y z =>
  refine bL (fun u=>bL fun v hl=>?_) hl;split at hl
  ·exact aFL hK hl
  rename_i hne;split
  ·exact (hne _ _ rfl).elim
  exact aF3 hK hl
 |unOp op t x=>exact bL (fun u=>aHS hK) hl
 |convert s d x =>
  first|refine bL (fun u hu=>?_) hl|(simp only [*];refine bL (fun u hu=>?_) hl)|(simp only [*];done)
  split at hu
  ·first|exact bH (hK _) hu|(simp only [*];exact bH (hK _) hu)|(simp only [*];done)
  ·cases hu
 |makeFunc fn first cap =>
  simp only [wV] at hl;simp only [jS]
  repeat' (split at hl)
  all_goals first|(cases hl;done)|(simp_all;done)
 |extract x i =>
  first|refine bL (fun u hu=>?_) hl|(simp only [*];refine bL (fun u hu=>?_) hl)|(simp only [*];done)
  split at hu
  ·first|exact bL hK hu|(simp only [*];exact bL hK hu)|(simp only [*];done)
  ·cases hu
 |build t ps =>
  simp only [wV] at hl;simp only [jS];split at hl
  ·first|exact KI hK hl|(simp only [*];exact KI hK hl)|(simp only [*];done)
  ·cases hl
 |call c =>
  simp only [wV] at hl;simp only [jS];split at hl
  ·split at hl
   ·first|exact CV hK hl|(simp only [*];exact CV hK hl)|(simp only [*];done)
   ·cases hl
  ·cases hl
 |_=>cases hl
theorem GH {h:Heap}{t:TypeId}{x key:Value}{ok:Bool}(hK:∀ v,K v=true→K' v)(hl:DX A T h t x key ok K=true):oR A T h t x key ok K':=by
 unfold DX at hl;unfold oR
 repeat' (split at hl)
 all_goals first|(cases hl;done)|(simp_all;done)
end
section
variable {A:Ar}{T:cU}{K:uO}{K':KE}{h:Heap}{nx:Nat}
theorem Y8 {t:TypeId}{x v:Value}(hK:∀ v h nx,K v h nx=true→K' v h nx)(hl:T5 T h nx t x v K=true):nX T h nx t x v K':=by
 unfold T5 at hl;unfold nX;split at hl
 case h_2=>cases hl
 split at hl
 case h_2=>cases hl
 cases v <;> (split at hl <;> first|(cases hl;done)|(simp only [*];first|done|exact bH (hK _ _ _) hl)|(rename_i hq;cases hq))
theorem aFr {v:Value}(hK:∀ v h nx,K v h nx=true→K' v h nx)(hl:aH4 h nx v K=true):SE h nx v K':=by
 unfold aH4 at hl;unfold SE;split at hl
 ·cases hl
 first|exact hK _ _ _ hl|(simp only [*];exact hK _ _ _ hl)|(simp only [*];done)
theorem Z8 {t:TypeId}(hK:∀ v h nx,K v h nx=true→K' v h nx)(hl:TA T h nx t K=true):xS T h nx t K':=by
 unfold TA at hl;unfold xS;split at hl
 ·first|exact hK _ _ _ hl|(simp only [*];exact hK _ _ _ hl)|(simp only [*];done)
 ·cases hl
theorem tR {t:TypeId}{n:Nat}{ps:List (Nat × Value)}(hK:∀ v h nx,K v h nx=true→K' v h nx)(hl:uY T h nx t n ps K=true):eM T h nx t n ps K':=by
 unfold uY at hl;unfold eM;split at hl
 case h_2=>cases hl
 split at hl
 case h_2=>cases hl
 split at hl
 case h_2=>cases hl
 split at hl
 case h_2=>cases hl
 first|exact hK _ _ _ hl|(simp only [*];exact hK _ _ _ hl)|(simp only [*];done)
theorem aC9 {n c:Nat}{hi:Option Value}{G:Nat→Bool}{G':Nat→Prop}(hG:∀ n,G n=true→G' n)(hl:whi A n c hi G=true):vhi A n c hi G':=by
 unfold whi at hl;unfold vhi;split at hl
 ·first|exact hG _ hl|(simp only [*];exact hG _ hl)|(simp only [*];done)
 ·first|exact bH (hG _) hl|(simp only [*];exact bH (hG _) hl)|(simp only [*];done)
 ·cases hl
theorem PE {b X:Bool}{X':Unit→Prop}{Y':Unit→Prop}(h:X=true→X' ())(hl:eN b X=true):br b X' Y':=by
 cases b with
 |true=>exact h hl
 |false=>cases hl
theorem wC {t:TypeId}{x:Value}{lo hi mx:Option Value}(hK:∀ v h nx,K v h nx=true→K' v h nx)(hl:LZ A T h nx t x lo hi mx K=true):uH A T h nx t x lo hi mx K':=by
 unfold LZ at hl;unfold uH;split at hl
 case h_2=>cases hl
 split at hl
 case h_1=>cases hl
 split at hl
 ·split at hl
  ·first|exact hK _ _ _ hl|(simp only [*];exact hK _ _ _ hl)|(simp only [*];done)
  ·cases hl
 ·first|refine aC9 (fun hN hl=>?_) hl|(simp only [*];refine aC9 (fun hN hl=>?_) hl)|(simp only [*];done)
  split at hl
  ·first|exact hK _ _ _ hl|(simp only [*];exact hK _ _ _ hl)|(simp only [*];done)
  ·first|refine bH (fun hl=>?_) hl|(simp only [*];refine bH (fun hl=>?_) hl)|(simp only [*];done)
   split at hl
   ·first|exact PE (hK _ _ _) hl|(simp only [*];exact PE (hK _ _ _) hl)|(simp only [*];done)
   ·cases hl
  ·cases hl
 ·split at hl
  ·first|exact hK _ _ _ hl|(simp only [*];exact hK _ _ _ hl)|(simp only [*];done)
  ·cases hl
 ·split at hl
  ·first|exact bH (hK _ _ _) hl|(simp only [*];exact bH (hK _ _ _) hl)
  ·first|exact bH (hK _ _ _) hl|(simp only [*];exact bH (hK _ _ _) hl)
  ·cases hl
 ·cases hl
theorem WS {sz:Nat}{x:Value}{G:Nat→List Value→Bool}{G':Nat→List Value→Prop}(hG:∀ n l,G n l=true→G' n l)(hl:aHD h sz x G=true):I4 h sz x G':=by
 unfold aHD at hl;unfold I4;split at hl
 ·first|exact hG _ _ hl|(simp only [*];exact hG _ _ hl)|(simp only [*];done)
 ·split at hl
  ·first|exact bH (hG _ _) hl|(simp only [*];exact bH (hG _ _) hl)|(simp only [*];done)
  ·split at hl
   ·first|exact hG _ _ hl|(simp only [*];exact hG _ _ hl)|(simp only [*];done)
   ·cases hl
  ·cases hl
 ·cases hl
theorem IY {t:TypeId}{l c:Value}(hK:∀ v h nx,K v h nx=true→K' v h nx)(hl:xW A T h nx t l c K=true):kC A T h nx t l c K':=by
 unfold xW at hl;unfold kC;split at hl
 case h_2=>cases hl
 split at hl
 case h_2=>cases hl
 first|exact bH (hK _ _ _) hl|(simp only [*];exact bH (hK _ _ _) hl)
theorem F0 {st xt:TypeId}{s x:Value}(hK:∀ v h nx,K v h nx=true→K' v h nx)(hl:ML A T h nx st xt s x K=true):lU A T h nx st xt s x K':=by
 unfold ML at hl;unfold lU;split at hl
 case h_3=>cases hl
 case h_1 =>
  split at hl
  case h_2=>cases hl
  split at hl
  case h_2=>cases hl
  first|exact bH (hK _ _ _) hl|(simp only [*];exact bH (hK _ _ _) hl)
 split at hl
 case h_1=>cases hl
 split at hl
 case h_1=>cases hl
 first|refine WS (fun m src hl=>?_) hl|(simp only [*];refine WS (fun m src hl=>?_) hl)|(simp only [*];done)
 split at hl
 ·first|exact mM (hK _ _ _) (bH (hK _ _ _)) hl|(simp only [*];exact mM (hK _ _ _) (bH (hK _ _ _)) hl)|(simp only [*];done)
 ·split at hl
  ·split at hl
   ·first|exact mM (hK _ _ _) (bH (hK _ _ _)) hl|(simp only [*];exact mM (hK _ _ _) (bH (hK _ _ _)) hl)|(simp only [*];done)
   ·cases hl
  ·first|exact mM (bH (hK _ _ _)) (bH (hK _ _ _)) hl|(simp only [*];exact mM (bH (hK _ _ _)) (bH (hK _ _ _)) hl)|(simp only [*];done)
  ·cases hl
 ·cases hl
theorem IU {t:TypeId}{x key v:Value}(hK:∀ v h nx,K v h nx=true→K' v h nx)(hl:xN A T h nx t x key v K=true):kB A T h nx t x key v K':=by
 unfold xN at hl;unfold kB;cases v <;> (split at hl <;> first|(cases hl;done)|(rename_i hq;cases hq;done)|(split at hl <;> first|(cases hl;done)|(split at hl <;> first|(cases hl;done)|(simp only [*];first|done|exact hK _ _ _ hl))))
theorem KV {t:TypeId}{x:Value}(hK:∀ v h nx,K v h nx=true→K' v h nx)(hl:T4 T h nx t x K=true):x9 T h nx t x K':=by
 unfold T4 at hl;unfold x9;split at hl
 ·first|exact hK _ _ _ hl|(simp only [*];exact hK _ _ _ hl)|(simp only [*];done)
 ·split at hl
  ·first|exact hK _ _ _ hl|(simp only [*];exact hK _ _ _ hl)|(simp only [*];done)
  split at hl
  ·first|exact bH (hK _ _ _) hl|(simp only [*];exact bH (hK _ _ _) hl)|(simp only [*];done)
  ·cases hl
 ·cases hl
def Tw (C:xA)(C':VC):Prop:=∀ f args h nx (K:uO) (K':KE),(∀ v h nx,K v h nx=true→K' v h nx)→C f args h nx K=true→C' f args h nx K'
variable {C Y:xA}{C' Y':VC}
theorem K4 (hC:Tw C C')(hY:Tw Y Y'){env:List (Nat × Value)}{op:Op}(hK:∀ v h nx,K v h nx=true→K' v h nx)(hl:wop A T C Y env h nx op K=true):qL A T C' Y' env h nx op K':=by
 cases op with
 |store t x y=>exact bL (fun p=>bL fun v=>Y8 hK) hl
 |alloc t=>exact Z8 hK hl
 |box t x=>exact bL (fun p=>aFr hK) hl
 |buildSlice t n ps =>
  simp only [wop] at hl;simp only [qL];split at hl
  ·first|exact tR hK hl|(simp only [*];exact tR hK hl)|(simp only [*];done)
  ·cases hl
 |slice t x lo hi mx =>
  first|refine bL (fun v hl=>?_) hl|(simp only [*];refine bL (fun v hl=>?_) hl)|(simp only [*];done)
  split at hl
  ·first|exact wC hK hl|(simp only [*];exact wC hK hl)|(simp only [*];done)
  ·cases hl
 |makeSlice t l c=>exact bL (fun p=>bL fun v=>IY hK) hl
 |makeMap t x =>
  cases x with
  |none=>exact hK _ _ _ hl
  |some x=>simp [wop,wV] at hl
 |lookup t m k ok=>exact bL (fun x=>bL fun y=>GH fun v=>hK v h nx) hl
 |mapUpdate t m k u=>exact bL (fun x=>bL fun y=>bL fun v=>IU hK) hl
 |call c =>
  simp only [wop] at hl;simp only [qL];split at hl
  ·split at hl
   ·first|exact F0 hK hl|(simp only [*];exact F0 hK hl)|(simp only [*];done)
   ·cases hl
  ·split at hl
   ·first|exact KV hK hl|(simp only [*];exact KV hK hl)|(simp only [*];done)
   ·cases hl
  ·first|exact nM (K':=fun v=>K' v h nx) (fun v=>hK v h nx) hl|(simp only [*];exact nM (K':=fun v=>K' v h nx) (fun v=>hK v h nx) hl)|(simp only [*];done)
  ·first|refine bL (fun fv hl=>?_) hl|(simp only [*];refine bL (fun fv hl=>?_) hl)|(simp only [*];done)
   split at hl
   case h_2=>cases hl
   split at hl
   ·split at hl
    ·first|exact hC _ _ _ _ _ _ hK hl|(simp only [*];exact hC _ _ _ _ _ _ hK hl)|(simp only [*];done)
    ·cases hl
   ·split at hl
    ·first|exact hY _ _ _ _ _ _ hK hl|(simp only [*];exact hY _ _ _ _ _ _ hK hl)|(simp only [*];done)
    ·cases hl
   ·cases hl
  ·cases hl
 |_=>simp only [wop] at hl;exact nM (K':=fun v=>K' v h nx) (fun v=>hK v h nx) hl
theorem nF {ops:List Oper}{env:List (Nat × Value)}{g:Option (Nat × Bool)}{F G:List (Nat × Value)→Bool}{F' G':List (Nat × Value)→Prop}(h1:∀ e,F e=true→F' e)(h2:∀ e,G e=true→G' e)(hl:A7 A ops env g F G=true):gE A ops env g F' G':=by
 unfold A7 at hl;unfold gE;split at hl
 ·first|exact h1 _ hl|(simp only [*];exact h1 _ hl)|(simp only [*];done)
 split at hl
 ·split at hl
  ·split at hl
   ·first|exact mM (h1 _) (h2 _) hl|(simp only [*];exact mM (h1 _) (h2 _) hl)|(simp only [*];done)
   ·first|exact h2 _ hl|(simp only [*];exact h2 _ hl)|(simp only [*];done)
   ·cases hl
  ·cases hl
 ·cases hl
theorem iL {tn:Nat}{env:List (Nat × Value)}{dst:Option Nat}{v:Value}{F:List (Nat × Value)→Bool}{F':List (Nat × Value)→Prop}(h1:∀ e,F e=true→F' e)(hl:G7 tn env dst v F=true):eS tn env dst v F':=by
 unfold G7 at hl;unfold eS;split at hl
 ·first|exact h1 _ hl|(simp only [*];exact h1 _ hl)|(simp only [*];done)
 split at hl
 ·first|exact h1 _ hl|(simp only [*];exact h1 _ hl)|(simp only [*];done)
 ·cases hl
theorem NI (hC:Tw C C')(hY:Tw Y Y'){tn:Nat}{ops:List Oper}{F:qM}{F':KS}(hF:∀ e h nx,F e h nx=true→F' e h nx):∀ (l:List Oper) env h nx,aF4 A T C Y tn ops l env h nx F=true→zO A T C' Y' tn ops l env h nx F'
 |[],_,_,_,hl=>hF _ _ _ hl
 |o::r,env,h,nx,hl=>nF (fun e=>K4 hC hY fun v h' nx'=>iL fun e'=>NI hC hY hF r e' h' nx') (fun e=>iL fun e'=>NI hC hY hF r e' h nx) hl
theorem KM (hC:Tw C C'){env:List (Nat × Value)}{op:Op}{K:Value→Bool}{K':Value→Nat→Prop}(hK:∀ v,K v=true→K' v nx)(hl:HK A T C h nx env op K=true):iX A T C' h nx env op K':=by
 cases op with
 |load t x=>simp only [HK] at hl;exact nM hK hl
 |lookup t m k ok=>exact bL (fun x=>bL fun y=>GH hK) hl
 |slice t x lo hi mx =>
  refine bL (fun v hl=>?_) hl;split at hl
  ·first|refine wC (fun v h' nx' hl=>?_) hl|(simp only [*];refine wC (fun v h' nx' hl=>?_) hl)|(simp only [*];done)
   split at hl
   ·rename_i hb;rw [beq_true hb];exact hK _ hl
   ·cases hl
  ·cases hl
 |call c =>
  simp only [HK] at hl;simp only [iX];split at hl
  ·first|exact nM hK hl|(simp only [*];exact nM hK hl)|(simp only [*];done)
  ·first|refine bL (fun fv hl=>?_) hl|(simp only [*];refine bL (fun fv hl=>?_) hl)|(simp only [*];done)
   split at hl
   case h_2=>cases hl
   split at hl
   ·split at hl
    ·first|refine hC _ _ _ _ _ _ (fun v h' nx' hl=>?_) hl|(simp only [*];refine hC _ _ _ _ _ _ (fun v h' nx' hl=>?_) hl)|(simp only [*];done)
     split at hl
     ·rename_i hb;simp only [hb];exact hK _ hl
     ·cases hl
    ·cases hl
   ·cases hl
  ·cases hl
 |_=>simp only [HK] at hl;exact nM hK hl
theorem sV (hC:Tw C C'){tn:Nat}{ops:List Oper}{F:List (Nat × Value)→Bool}{F':List (Nat × Value)→Nat→Prop}(hF:∀ e,F e=true→F' e nx):∀ (l:List Nat) env,PZ A T C tn ops h nx l env F=true→oN A T C' tn ops h l env nx F'
 |[],_,hl=>hF _ hl
 |i::r,env,hl=>by
  simp only [PZ] at hl;simp only [xH];split at hl
  ·cases hl
  first|exact nF (fun e=>KM hC fun v=>iL fun e'=>sV hC hF r e') (fun e=>iL fun e'=>sV hC hF r e') hl|(simp only [*];exact nF (fun e=>KM hC fun v=>iL fun e'=>sV hC hF r e') (fun e=>iL fun e'=>sV hC hF r e') hl)|(simp only [*];done)
theorem xO {tn:Nat}{ops:List Oper}{F:qM}{F':KS}(hF:∀ e h nx,F e h nx=true→F' e h nx):∀ (l:List Nat) env h nx,EM T tn ops l env h nx F=true→lQ T tn ops l env h nx F'
 |[],_,_,_,hl=>hF _ _ _ hl
 |i::r,env,h,nx,hl=>by
  simp only [EM] at hl;simp only [nA];split at hl
  ·split at hl
   ·first|exact iL (fun e'=>xO hF r e' _ _) hl|(simp only [*];exact iL (fun e'=>xO hF r e' _ _) hl)|(simp only [*];done)
   ·cases hl
  ·cases hl
theorem tS (hC:Tw C C')(hY:Tw Y Y'){tn:Nat}{ops:List Oper}{hJ:Heap}{F:qM}{F':KS}(hF:∀ e h nx,F e h nx=true→F' e h nx):∀ (l:List (Nat × Bool)) env h nx,P8 A T C Y tn ops hJ l env h nx F=true→kL A T C' Y' tn ops hJ l env h nx F'
 |[],_,_,_,hl=>hF _ _ _ hl
 |(i,chk)::r,env,h,nx,hl=>by
  simp only [P8] at hl;simp only [yA];split at hl
  ·cases hl
  first|exact nF (fun e=>bH (K4 hC hY fun v h' nx'=>iL fun e'=>tS hC hY hF r e' h' nx')) (fun e=>iL fun e'=>tS hC hY hF r e' h nx) hl|(simp only [*];exact nF (fun e=>bH (K4 hC hY fun v h' nx'=>iL fun e'=>tS hC hY hF r e' h' nx')) (fun e=>iL fun e'=>tS hC hY hF r e' h nx) hl)|(simp only [*];done)
theorem GR (hC:Tw C C')(hY:Tw Y Y'){tn:Nat}{ops:List Oper}{p:fL}{env:List (Nat × Value)}{F:qM}{F':KS}(hF:∀ e h nx,F e h nx=true→F' e h nx)(hl:UZ A T C Y tn ops p env h nx F=true):pA A T C' Y' tn ops p env h nx F' :=
 sV hC (fun e=>xO (fun e h nx=>tS hC hY hF p.tail e h nx) p.allocs e h nx) p.head env hl
theorem PT (hC:Tw C C')(hY:Tw Y Y'){tn:Nat}{ops:List Oper}{o:Oper}{e:List (Nat × Value)}{h:Heap}{nx:Nat}{F:qM}{F':KS}(hF:∀ e h nx,F e h nx=true→F' e h nx)(hl:aC7 A T C Y tn ops o e h nx F=true):qT A T C' Y' tn ops o e h nx F' :=
 nF (fun e=>K4 hC hY fun v h' nx'=>iL fun e'=>hF e' h' nx') (fun e=>iL fun e'=>hF e' h nx) hl
theorem aEE {F:Nat→Bool}{F':Nat→Prop}(hF:∀ i,F i=true→F' i){l:List Nat}(hl:wall F l=true):LP F' l:=by
 rw [AQ]
 induction l with
 |nil=>intro i hi;cases hi
 |cons x r ih =>
  simp only [wall,Bool.and_eq_true] at hl;intro i hi;cases hi with
  |head=>exact hF _ hl.1
  |tail _ hm=>exact ih hl.2 i hm
theorem W5 (hC:Tw C C')(hY:Tw Y Y'){tn:Nat}{ops:List Oper}{F:qM}{F':KS}(hF:∀ e h nx,F e h nx=true→F' e h nx):∀ n done e h nx,aFg A T C Y tn ops F n done e h nx=true→G4 A T C' Y' tn ops F' n done e h nx
 |0,_,e,h,nx,hl=>hF _ _ _ hl
 |n+1,done,e,h,nx,hl=>by
  simp only [aFg] at hl;simp only [G4];cases hr:fA ops done ops 0 with
  |nil =>
   rw [hr] at hl;exact hF _ _ _ hl
  |cons i0 r0 =>
   rw [hr] at hl;refine aEE (fun i hi=>?_) hl;split at hi
   ·rename_i o ho;rw [ho];exact PT hC hY (fun e h nx=>W5 hC hY hF n _ e h nx) hi
   ·cases hi
theorem JM (hC:Tw C C')(hY:Tw Y Y'){tn:Nat}{ops:List Oper}{F:qM}{F':KS}(hF:∀ e h nx,F e h nx=true→F' e h nx):∀ n done e h nx,NN A T C Y tn ops F n done e h nx=true→BG A T C' Y' tn ops F' n done e h nx
 |0,_,e,h,nx,hl=>hF _ _ _ hl
 |n+1,done,e,h,nx,hl=>by
  simp only [NN] at hl;simp only [BG];cases hr:fA ops done ops 0 with
  |nil =>
   rw [hr] at hl;exact hF _ _ _ hl
  |cons i0 r0 =>
   rw [hr] at hl;simp only at hl ⊢;cases ho:fP ops i0 with
   |some o =>
    rw [ho] at hl;exact PT hC hY (fun e h nx=>JM hC hY hF n _ e h nx) hl
   |none=>rw [ho] at hl;cases hl
theorem O3 (hC:Tw C C')(hY:Tw Y Y'){tn:Nat}{ops:Array Oper}{m:Nat}{e:List (Nat × Value)}{h:Heap}{nx:Nat}{F:qM}{F':KS}(hF:∀ e h nx,F e h nx=true→F' e h nx)(hl:aCf A T C Y tn ops e h nx F=true):QG A T C' Y' tn (.fuel m) ops e h nx F':=by
 unfold aCf at hl;unfold QG;refine JM hC hY (fun e0 h0 n0 hq=>?_) _ _ _ _ _ hl;rw [BF,BF,Bool.and_eq_true] at hq;refine⟨_,_,n0,W5 hC hY (fun e1 h1 n1 hr=>?_) _ _ _ _ _ hq.1,hF _ _ _ hq.2⟩;exact⟨_,_,_,_,⟨rfl,rfl,rfl⟩,V9 hr⟩
def TwR (R:VRB)(R':VR):Prop:=∀ g ps as bd (kn:qM) (kx:Nat→qM) (kr:qM) (kn':KS) (kx':Nat→KS) (kr':KS) e h nx,(∀ e h nx,kn e h nx=true→kn' e h nx)→(∀ i e h nx,kx i e h nx=true→kx' i e h nx)→(∀ e h nx,kr e h nx=true→kr' e h nx)→R g ps as bd kn kx kr e h nx=true→R' g ps as bd kn' kx' kr' e h nx
theorem HM {F:qM→qM}{F':KS→KS}(hF:∀ (k:qM) (k':KS) e h nx,(∀ e h nx,k e h nx=true→k' e h nx)→F k e h nx=true→F' k' e h nx):∀ n e h nx,aDa F n e h nx=true→FO F' n e h nx
 |0,_,_,_,hl=>by cases hl
 |n+1,e,h,nx,hl=>hF _ _ e h nx (fun e h nx=>HM hF n e h nx) hl
theorem qA (hC:Tw C C')(hY:Tw Y Y'){tn:Nat}{PL:Nat→Option fL}{n:Nat}{R:VRB}{R':VR}(hR:TwR R R'):∀ (c:Code) (kn:qM) (kx:Nat→qM) (kr:qM) (kn':KS) (kx':Nat→KS) (kr':KS) e h nx,(∀ e h nx,kn e h nx=true→kn' e h nx)→(∀ i e h nx,kx i e h nx=true→kx' i e h nx)→(∀ e h nx,kr e h nx=true→kr' e h nx) →
  qE A T C Y tn PL n R c kn kx kr e h nx=true→iO A T C' Y' tn PL (.fuel n) R' c kn' kx' kr' e h nx:=by
 intro c
 induction c with
 |skip=>exact fun kn kx kr kn' kx' kr' e h nx h1 _ _ hl=>h1 _ _ _ hl
 |region id ops draw =>
  intro kn kx kr kn' kx' kr' e h nx h1 _ _ hl;simp only [qE] at hl;simp only [gR,kA];cases draw with
  |false=>exact NI hC hY h1 _ _ _ _ hl
  |true =>
   simp only at hl ⊢;split at hl
   ·first|exact GR hC hY h1 hl|(simp only [*];exact GR hC hY h1 hl)|(simp only [*];done)
   first|exact O3 hC hY h1 hl|(simp only [*];exact O3 hC hY h1 hl)
 |seq a b iha ihb=>exact fun kn kx kr kn' kx' kr' e h nx h1 h2 h3 hl=>iha _ kx kr _ kx' kr' e h nx (fun e h nx=>ihb kn kx kr kn' kx' kr' e h nx h1 h2 h3) h2 h3 hl
 |cond c t f iht ihf =>
  intro kn kx kr kn' kx' kr' e h nx h1 h2 h3 hl;simp only [qE] at hl;simp only [gR,kA];split at hl
  ·first|exact mM (iht kn kx kr kn' kx' kr' e h nx h1 h2 h3) (ihf kn kx kr kn' kx' kr' e h nx h1 h2 h3) hl|(simp only [*];exact mM (iht kn kx kr kn' kx' kr' e h nx h1 h2 h3) (ihf kn kx kr kn' kx' kr' e h nx h1 h2 h3) hl)|(simp only [*];done)
  ·cases hl
 |block id b ih =>
  intro kn kx kr kn' kx' kr' e h nx h1 h2 h3 hl
  first|refine ih kn _ kr kn' _ kr' e h nx h1 (fun j e h nx hk=>?_) h3 hl|(simp only [*];refine ih kn _ kr kn' _ kr' e h nx h1 (fun j e h nx hk=>?_) h3 hl)|(simp only [*];done)
  cases hb:Nat.beq j id with
  |true=>simp only [hb] at hk ⊢;exact h1 _ _ _ hk
  |false=>simp only [hb] at hk ⊢;exact h2 _ _ _ _ hk
 |loop b ih =>
  intro kn kx kr kn' kx' kr' e h nx h1 h2 h3 hl
  first|exact HM (fun k k' e h nx hk=>ih k kx kr k' kx' kr' e h nx hk h2 h3) n e h nx hl|(simp only [*];exact HM (fun k k' e h nx hk=>ih k kx kr k' kx' kr' e h nx hk h2 h3) n e h nx hl)|(simp only [*];done)
 |rangeFunc g ps as bd _ _=>exact fun kn kx kr kn' kx' kr' e h nx h1 h2 h3 hl=>hR g ps as bd kn kx kr kn' kx' kr' e h nx h1 h2 h3 hl
 |exit id=>exact fun kn kx kr kn' kx' kr' e h nx _ h2 _ hl=>h2 _ _ _ _ hl
 |ret=>exact fun kn kx kr kn' kx' kr' e h nx _ _ h3 hl=>h3 _ _ _ hl
 |label l=>exact fun kn kx kr kn' kx' kr' e h nx h1 _ _ hl=>h1 _ _ _ hl
 |scope b ih=>exact fun kn kx kr kn' kx' kr' e h nx h1 h2 h3 hl=>ih kn kx kr kn' kx' kr' e h nx h1 h2 h3 hl
 |goto l=>exact fun _ _ _ _ _ _ _ _ _ _ _ _ hl=>by cases hl
 |refuse s=>exact fun _ _ _ _ _ _ _ _ _ _ _ _ hl=>by cases hl
theorem uP {e:List (Nat × Value)}:∀ (l:List ResultVar) {F:List Value→Bool} {F':List Value→Prop},(∀ l,F l=true→F' l)→AX T e h l F=true→gB T e h l F'
 |[],F,F',hF,hl=>hF _ hl
 |.tmp t::r,F,F',hF,hl=>bL (fun v=>uP r fun l=>hF _) hl
 |.cell a t::r,F,F',hF,hl=>bL (fun p=>PF fun v=>uP r fun l=>hF _) hl
theorem EJ {fn:Func}(hK:∀ v h nx,K v h nx=true→K' v h nx)(e:List (Nat × Value))(h:Heap)(nx:Nat)(hl:aKl T fn K e h nx=true):DJ T fn K' e h nx:=by
 refine uP _ (fun l hl=>?_) hl;split at hl
 ·first|exact hK _ _ _ hl|(simp only [*];exact hK _ _ _ hl)|(simp only [*];done)
 split at hl
 ·rename_i hn;simp only [hn];exact hK _ _ _ hl
 ·cases hl
theorem JL (hC:Tw C C'){f tn:Nat}:TwR (aAY C f tn) (tW C' f tn):=by
 intro g ps as bd kn kx kr kn' kx' kr' e h nx h1 h2 h3 hl;refine bL (fun gv hl=>?_) hl;split at hl
 case h_2=>cases hl
 split at hl
 case h_2=>cases hl
 first|refine hC _ _ _ _ _ _ (fun v h' nx' hl=>?_) hl|(simp only [*];refine hC _ _ _ _ _ _ (fun v h' nx' hl=>?_) hl)|(simp only [*];done)
 split at hl
 case h_2=>cases hl
 rename_i l hl1 hl2;split at hl
 ·cases hl
 ·first|exact h1 _ _ _ hl|(simp only [*];exact h1 _ _ _ hl)|(simp only [*];done)
 ·first|exact h2 _ _ _ _ hl|(simp only [*];exact h2 _ _ _ _ hl)|(simp only [*];done)
 ·first|exact h3 _ _ _ hl|(simp only [*];exact h3 _ _ _ hl)|(simp only [*];done)
 ·cases hl
theorem v8 {q:Nat}(hK:∀ v h nx,K v h nx=true→K' v h nx){j:Option Code}(e:List (Nat × Value))(h:Heap)(nx:Nat)(hl:aCB q K j e h nx=true):xT q K' j e h nx:=by
 unfold aCB at hl;unfold xT;split at hl
 ·first|exact hK _ _ _ hl|(simp only [*];exact hK _ _ _ hl)|(simp only [*];done)
 ·cases hl
theorem YT (hC:Tw C C')(hY:Tw Y Y'){PL:Nat→Nat→Option fL}{n:Nat}:Tw (TF A T C Y PL n) (rP A T C' Y' PL (.fuel n)):=by
 intro q args h nx K K' hK hl;unfold TF at hl;unfold rP;split at hl
 case h_2=>cases hl
 split at hl
 case h_2=>cases hl
 first|refine qA hC hY (fun _ _ _ _ _ _ _ _ _ _ _ _ _ _ _ _ hl=>by cases hl) _ _ _ _ _ _ _ _ _ _ (fun e1 h1 nx1 hl=>?_) (fun _ _ _ _ hl=>by cases hl) (fun _ _ _ hl=>by cases hl) hl|(simp only [*];refine qA hC hY (fun _ _ _ _ _ _ _ _ _ _ _ _ _ _ _ _ hl=>by cases hl) _ _ _ _ _ _ _ _ _ _ (fun e1 h1 nx1 hl=>?_) (fun _ _ _ _ hl=>by cases hl) (fun _ _ _ hl=>by cases hl) hl)|(simp only [*];done)
 split at hl
 case h_2=>cases hl
 split at hl
 case h_2=>cases hl
 first|exact qA hC hY (fun _ _ _ _ _ _ _ _ _ _ _ _ _ _ _ _ hl=>by cases hl) _ _ _ _ _ _ _ _ _ _ (v8 hK) (fun i=>v8 hK) (v8 hK) hl|(simp only [*];exact qA hC hY (fun _ _ _ _ _ _ _ _ _ _ _ _ _ _ _ _ hl=>by cases hl) _ _ _ _ _ _ _ _ _ _ (v8 hK) (fun i=>v8 hK) (v8 hK) hl)|(simp only [*];done)
def TwX (c:FH)(XB:Nat→Option (List Value→Heap→Nat→uO→Bool)):Prop:=∀ f x xb,c.X f=some x→XB f=some xb→∀ args h nx (K:uO) (K':KE),(∀ v h nx,K v h nx=true→K' v h nx)→xb args h nx K=true→x args h nx K'
theorem aAs {c:FH}{XB:Nat→Option (List Value→Heap→Nat→uO→Bool)}(hX:TwX c XB){n:Nat}(hC:Tw C C')(hY:Tw Y Y'):Tw (aAz c XB n C Y) (xF c (some n) C' Y'):=by
 intro f args h nx K K' hK hl;unfold aAz at hl;unfold xF;split at hl
 ·rename_i x hx;split at hl
  ·rename_i xb hxb
   first|exact hX f x xb hx hxb _ _ _ _ _ hK hl|(simp only [hx];exact hX f x xb hx hxb _ _ _ _ _ hK hl)
  ·cases hl
 rename_i hx
 first|skip|(simp only [hx])
 split at hl
 ·cases hl
 split at hl
 case h_2=>cases hl
 first|exact qA hC hY (JL hC) _ _ _ _ _ _ _ _ _ _ (EJ fun v h nx=>hK v _ nx) (fun _ _ _ _ hl=>by cases hl) (EJ fun v h nx=>hK v _ nx) hl|(simp only [*];exact qA hC hY (JL hC) _ _ _ _ _ _ _ _ _ _ (EJ fun v h nx=>hK v _ nx) (fun _ _ _ _ hl=>by cases hl) (EJ fun v h nx=>hK v _ nx) hl)
theorem aDt {PR:Nat→Bool}(hC:Tw C C'):Tw (aGJ PR C) (frC PR C'):=by
 intro f args h nx K K' hK hl;unfold aGJ at hl;unfold frC;cases hp:PR f with
 |false=>simp only [hp] at hl ⊢;exact hC _ _ _ _ _ _ hK hl
 |true =>
  simp only [hp] at hl ⊢;refine hC _ _ _ _ _ _ (fun v h' nx' hq=>?_) hl;unfold aKz at hq;unfold frK;split at hq
  ·rename_i hg;rw [hg];exact hK _ _ _ hq
  rename_i hg;rw [hg];exact hK _ _ _ hq
theorem pZ {c:FH}{XB:Nat→Option (List Value→Heap→Nat→uO→Bool)}(hX:TwX c XB):∀ (d:Nat) (b:Bool),Tw (CK c XB d b) (uL c d b)
 |0,_=>fun _ _ _ _ _ _ _ hl=>by simp [CK] at hl
 |d+1,false=>aDt (aAs hX (pZ hX d false) (pZ hX d true))
 |d+1,true=>YT (pZ hX d false) (pZ hX d true)
end
def W8 (n:Nat):a8→a8
 |.cells wr g sz cs=>.cells wr g sz (cs.map (cD (fun k=>n+k)))
 |o=>o
def mR (n:Nat):Heap→Heap
 |[]=>[]
 |(k,o)::r=>(n+k,W8 n o)::mR n r
theorem kY {n:Nat}(h:Heap){k:Nat}{o:a8}(hl:look (mR n h) k=some o):∃ j o',k=n+j∧look h j=some o'∧o=W8 n o':=by
 induction h with
 |nil=>cases hl
 |cons x r ih =>
  obtain⟨j,q⟩:=x;simp only [mR,aE] at hl;split at hl
  ·rename_i hb;injection hl with hl;exact⟨j,q,(beq_true hb).symm,by rw [aE,show Nat.beq j j=true from Nat.beq_refl j],hl.symm⟩
  rename_i hb;obtain⟨j',o',h1,h2,h3⟩:=ih hl;refine⟨j',o',h1,?_,h3⟩;have:Nat.beq j j'=false:=by
   cases hb':Nat.beq j j' with
   |false=>rfl
   |true =>
    have:=beq_true hb';subst this;rw [h1,Nat.beq_refl] at hb;cases hb
  rw [aE,this];exact h2
def VA:a8→Bool
 |.cells true _ _ _=>true
 |_=>false
def wR:Heap→Bool
 |[]=>true
 |(_,o)::r=>VA o&&wR r
theorem aA2 {h:Heap}(hh:wR h=true){k:Nat}{o:a8}(hl:look h k=some o):∃ g sz cs,o=.cells true g sz cs:=by
 induction h with
 |nil=>cases hl
 |cons x r ih =>
  obtain⟨j,q⟩:=x;simp only [wR,Bool.and_eq_true] at hh;rw [aE] at hl;split at hl
  ·injection hl with hl;subst hl;cases q with
   |cells wr g sz cs =>
    cases wr with
    |true=>exact⟨g,sz,cs,rfl⟩
    |false=>simp [VA] at hh
   |_=>simp [VA] at hh
  exact ih hh.2 hl
def M3:a8→Bool
 |.cells _ _ _ _=>true
 |_=>false
def gM:Heap→Bool
 |[]=>true
 |(_,o)::r=>M3 o&&gM r
theorem oO {h:Heap}(hh:gM h=true){k:Nat}{o:a8}(hl:look h k=some o):∃ wr g sz cs,o=.cells wr g sz cs:=by
 induction h with
 |nil=>cases hl
 |cons x r ih =>
  obtain⟨j,q⟩:=x;simp only [gM,Bool.and_eq_true] at hh;rw [aE] at hl;split at hl
  ·injection hl with hl;subst hl;cases q with
   |cells wr g sz cs=>exact⟨wr,g,sz,cs,rfl⟩
   |_=>simp [M3] at hh
  exact ih hh.2 hl
theorem LR (o:a8):o.closed.alone=false:=by cases o <;> rfl
section
variable {ι:Nat→Loc}{σ:Nat→Nat}{n m:Nat}
theorem zX {v:Value}(h:oP (fun k=>ι (σ k)) m v)(hs:∀ k,k<m→σ k<n):oP ι n (eG (mB σ) v):=by
 cases v with
 |pointer a=>cases a with
  |none=>trivial
  |some a=>exact⟨hs _ h.1,h.2⟩
 |slice a l c=>cases a with
  |none=>trivial
  |some a=>exact⟨hs _ h.1,fun hf=>h.2 hf⟩
 |map a=>cases a with
  |none=>trivial
  |some a=>exact⟨hs _ h.1,h.2⟩
 |agg c=>exact h.elim
 |tuple c=>exact h.elim
 |_=>trivial
theorem j5 {v:Value}(h:iP (fun k=>ι (σ k)) m v)(hs:∀ k,k<m→σ k<n):iP ι n (bT (mB σ) v):=by
 cases v with
 |func f a c =>
  refine⟨?_,fun x hx=>?_⟩
  ·have h1:=h.1;cases f with
   |yield l=>exact⟨hs _ h1.1,h1.2⟩
   |_=>trivial
  simp only [Array.toList_map,List.mem_map] at hx;obtain⟨y,hy,rfl⟩:=hx;exact zX (h.2 y hy) hs
 |pointer a=>have:=zX (ι:=ι) (σ:=σ) (n:=n) (m:=m) (v:=.pointer a);cases a <;> exact this h hs
 |slice a l c=>have:=zX (ι:=ι) (σ:=σ) (n:=n) (m:=m) (v:=.slice a l c);cases a <;> exact this h hs
 |map a=>have:=zX (ι:=ι) (σ:=σ) (n:=n) (m:=m) (v:=.map a);cases a <;> exact this h hs
 |agg c=>exact h.elim
 |tuple c=>exact h.elim
 |_=>trivial
theorem qG {v:Value}(h:lB (fun k=>ι (σ k)) m v)(hs:∀ k,k<m→σ k<n):lB ι n (eD (mB σ) v):=by
 cases v with
 |agg cs =>
  intro x hx;simp only [Array.toList_map,List.mem_map] at hx;obtain⟨y,hy,rfl⟩:=hx;exact j5 (h y hy) hs
 |pointer a=>have:=j5 (ι:=ι) (σ:=σ) (n:=n) (m:=m) (v:=.pointer a);cases a <;> exact this h hs
 |slice a l c=>have:=j5 (ι:=ι) (σ:=σ) (n:=n) (m:=m) (v:=.slice a l c);cases a <;> exact this h hs
 |map a=>have:=j5 (ι:=ι) (σ:=σ) (n:=n) (m:=m) (v:=.map a);cases a <;> exact this h hs
 |func f a c=>exact j5 (ι:=ι) (σ:=σ) (n:=n) (m:=m) (v:=.func f a c) h hs
 |tuple c=>exact h.elim
 |_=>trivial
theorem aCg {v:Value}(h:fD (fun k=>ι (σ k)) m v)(hs:∀ k,k<m→σ k<n):fD ι n (jX σ v):=by
 unfold jX;cases v with
 |tuple cs =>
  intro x hx;simp only [Array.toList_map,List.mem_map] at hx;obtain⟨y,hy,rfl⟩:=hx;exact qG (h y hy) hs
 |pointer a=>have:=qG (ι:=ι) (σ:=σ) (n:=n) (m:=m) (v:=.pointer a);cases a <;> exact this h hs
 |slice a l c=>have:=qG (ι:=ι) (σ:=σ) (n:=n) (m:=m) (v:=.slice a l c);cases a <;> exact this h hs
 |map a=>have:=qG (ι:=ι) (σ:=σ) (n:=n) (m:=m) (v:=.map a);cases a <;> exact this h hs
 |func f a c=>exact qG (ι:=ι) (σ:=σ) (n:=n) (m:=m) (v:=.func f a c) h hs
 |agg c=>exact qG (ι:=ι) (σ:=σ) (n:=n) (m:=m) (v:=.agg c) h hs
 |_=>trivial
theorem aGc {v:Value}(h:gS v=true):gS (bT (mB σ) v)=true:=by rw [kG h];exact h
end
theorem RE {B nx n0 m:Nat}{w w':World}{ι ι0:Nat→Loc}{h h1:Heap}{v1:Value}{K Q:KE}{u:Value}(H:aV ι B h nx w)
  (hQ:∀ v h' nx',Q v h' nx'→∃ ρ,u7 0 ρ [(0,v1)] h1 m [(0,v)] h' nx') (how:gM h1=true) (hal:wR h1=true∨∀ k o,look h k=some o→o.alone=false) (hK:K (jX (fun k=>nx+k) v1) (app (mR nx h1) h) (nx+m))
  (hr:Ret w.heap.size w ι0 n0 Q (.returned u) w'):Ret B w ι nx K (.returned u) w':=by
 obtain⟨v,h',nx',ι',q1,q2,q3,q4,q5,q6,q7⟩:=hr;obtain⟨ρ,r⟩:=hQ v h' nx' q1;have hv:v=jX ρ v1∧C3 m v1:=by
  obtain⟨e1,e2⟩:=r.env 0 v1 rfl;injection e1 with e1;exact⟨e1,e2⟩
 obtain⟨rfl,hnm⟩:=hv;obtain⟨ιN,hloc,hold⟩:∃ ιN:Nat→Loc,(∀ j,ιN (nx+j)=ι' (ρ j))∧∀ k,k<nx→ιN k=ι k :=
  ⟨fun k=>if k<nx then ι k else ι' (ρ (k - nx)),fun j=>by
   have:¬ (nx+j<nx):=(by omega);simp only [if_neg this,Nat.add_sub_cancel_left],fun k hk=>if_pos hk⟩
 have hι:(fun k=>ιN (nx+k))=fun k=>ι' (ρ k):=funext hloc;have hsm:fD (fun k=>ι' (ρ k)) m v1:=ED q2 hnm;have R1:=r.aIC q3;have H':aV ι B h nx w':=H.ext q4;have hscn:fD ιN (nx+m) (jX (fun k=>nx+k) v1):=by
  refine aCg (m:=m) ?_ (fun k hk=>by omega);rw [hι];exact hsm
 have hcase:∀ k o,look (app (mR nx h1) h) k=some o→(look h k=some o∧k<nx)∨(∃ j wr g sz cs,k=nx+j∧look h1 j=some (.cells wr g sz cs)∧o=.cells wr g sz (cs.map (cD (fun k=>nx+k)))):=by
  intro k o hk;rw [j1] at hk;split at hk
  ·rename_i o' ho;injection hk with hk;subst hk;obtain⟨j,o',e1,e2,e3⟩:=kY h1 ho;obtain⟨wr,g,sz,cs,rfl⟩:=oO how e2;exact .inr ⟨j,wr,g,sz,cs,e1,e2,e3⟩
  exact .inl ⟨hk,H.low k _ hk⟩
 refine⟨jX (fun k=>nx+k) v1,_,_,ιN,hK,hscn,⟨?_,?_,?_,H'.size,?_⟩,q4.mono H.size,hold,by omega,?_⟩
 ·intro k o hk;rcases hcase k o hk with ⟨h2,h3⟩|⟨j,wr,g,sz,cs,rfl,h2,rfl⟩
  ·rw [hold k h3];exact (H'.obj k o h2).names (H'.sc k o h2) hold
  rw [hloc];have ho:=R1.obj j _ h2;have hsc:=R1.sc j _ h2;cases hl:ι' (ρ j) with
  |nil p =>
   rw [hl] at ho;have hcz:cs=[]∧(sz=0∨wr=true→p.isSome=true):=(by cases wr <;> exact ho);obtain⟨hc0,hz⟩:=hcz;subst hc0;cases wr <;> exact⟨rfl,hz⟩
  |lay b off e =>
   rw [hl] at ho;have hcell:∀ {Φ:Nat→Value→Prop},(∀ (i:Nat) y,cs[i]? = some y→Φ i (bT (fun k=>ι' (ρ k)) y))→∀ (i:Nat) v,(cs.map (cD (fun k=>nx+k)))[i]? = some v→Φ i (bT ιN v):=by
    intro Φ hΦ i v hv;rw [List.getElem?_map] at hv;cases hy:cs[i]? with
    |none=>rw [hy] at hv;cases hv
    |some y =>
     rw [hy] at hv;injection hv with hv;subst hv;have hsy:=hsc y (List.mem_of_getElem? hy);have hin:iP ιN (nx+m) (bT (mB (fun k=>nx+k)) y):=by
      refine j5 (m:=m) ?_ (fun k hk=>by omega);rw [hι];exact hsy
     have:=hΦ i y hy;rw [← hι,← jO hin] at this;exact this
   have hgg:∀ {b:Bool},(b=true→dL cs=true)→b=true→dL (cs.map (cD (fun k=>nx+k)))=true:=fun h hg=>rJ fun v hv=>by
    obtain⟨y,hy,rfl⟩:=List.mem_map.1 hv;exact aGc (bB (h hg) hy)
   cases wr with
   |true =>
    obtain⟨a1,a2,arr,t,a3,a4,a5⟩:=ho;exact⟨Nat.le_trans H.size a1,hgg a2,arr,t,a3,by simpa using a4,hcell (Φ:=fun i v=>arr[off+i]? = some v) a5⟩
   |false =>
    obtain⟨a1,a2,a5⟩:=ho;exact⟨a1,hgg a2,hcell (Φ:=fun i v=>w'.cell? ⟨b,off+i,none⟩=some v) a5⟩
 ·intro k k' o o' hk hk' hne ha b hb;rcases hcase k o hk with ⟨h2,h3⟩|⟨j,wr,g,sz,cs,rfl,h2,rfl⟩
  ·rw [hold k h3] at hb;rcases hcase k' o' hk' with ⟨h4,h5⟩|⟨j',wr',g',sz',cs',rfl,h4,rfl⟩
   ·rw [hold k' h5];exact H'.sep k k' o o' h2 h4 hne ha b hb
   rw [hloc];intro hb';have hlt:=(H.obj k o h2).lt hb;rcases hal with how2|hal
   ·obtain⟨g2,sz2,cs2,e2⟩:=aA2 how2 h4;have ho:=R1.obj j' _ h4;cases hl:ι' (ρ j') with
    |nil p=>rw [hl] at hb';cases hb'
    |lay b2 off e =>
     rw [hl] at hb';rw [hl,e2] at ho;have:b2=b:=(by simpa [Loc.DU] using hb');have:=ho.1;omega
   rw [hal k o h2] at ha;cases ha
  rw [hloc] at hb;rcases hcase k' o' hk' with ⟨h4,h5⟩|⟨j',wr',g',sz',cs',rfl,h4,rfl⟩
  ·rw [hold k' h5];intro hb';have hlt:=(H.obj k' o' h4).lt hb';have ho:=R1.obj j _ h2;cases hl:ι' (ρ j) with
   |nil p=>rw [hl] at hb;cases hb
   |lay b2 off e =>
    rw [hl] at ho hb;have:b2=b:=(by simpa [Loc.DU] using hb);have hwr:wr=true:=ha;subst hwr;have:=ho.1;omega
  rw [hloc];exact R1.sep j j' _ _ h2 h4 (fun e=>hne (by rw [e])) ha b hb
 ·intro k o hk;rcases hcase k o hk with ⟨h2,h3⟩|⟨j,wr,g,sz,cs,rfl,h2,rfl⟩
  ·omega
  have:=R1.low j _ h2;omega
 ·intro k o hk;rcases hcase k o hk with ⟨h2,h3⟩|⟨j,wr,g,sz,cs,rfl,h2,rfl⟩
  ·exact (H'.sc k o h2).mono (by omega) hold
  intro v hv;obtain⟨y,hy,rfl⟩:=List.mem_map.1 hv;refine j5 (m:=m) ?_ (fun k hk=>by omega);rw [hι];exact R1.sc j _ h2 y hy
 rw [q7,F3 q2,F3 hscn,hι]
def In (args0:List Value)(h0:Heap)(n0:Nat)(args:List Value)(h:Heap)(nx:Nat):Prop :=
 ∀ ι B w,aV ι B h nx w→(∀ v∈args,fD ι nx v)→∃ ι0,args.map (tr ι)=args0.map (tr ι0)∧(∀ v∈args0,fD ι0 n0 v)∧aV ι0 w.heap.size h0 n0 w
abbrev Sp:=List Value→Heap→Nat→Value→Heap→Nat→Prop
def qK (h1 h:Heap):Heap:=match wR h1 with|true=>h|false=>eY h
def xOf (S:Sp):List Value→Heap→Nat→KE→Prop:=fun args h nx K =>
 ∃ args0 h0 n0 v1 h1 m,S args0 h0 n0 v1 h1 m∧In args0 h0 n0 args h nx∧K (jX (fun k=>nx+k) v1) (app (mR nx h1) (qK h1 h)) (nx+m)
def L8 (v1:Value)(h1:Heap)(m:Nat):KE:=fun v h' nx'=>∃ ρ,u7 0 ρ [(0,v1)] h1 m [(0,v)] h' nx'
theorem jD {P:Program}{C:VC}{f:Nat}{S:Sp}(hC:bN P C)(hS:∀ args0 h0 n0 v1 h1 m,S args0 h0 n0 v1 h1 m→gM h1=true∧∃ Q:KE,C f args0 h0 n0 Q∧∀ v h nx,Q v h nx→L8 v1 h1 m v h nx):cT P f (xOf S):=by
 refine⟨fun args h nx K hx ι B w H hs=>?_,fun args h nx K hx=>?_⟩
 ·obtain⟨args0,h0,n0,v1,h1,m,s1,s2,s3⟩:=hx;obtain⟨how,Q,hc,hq⟩:=hS _ _ _ _ _ _ s1;obtain⟨ι0,e1,e2,e3⟩:=s2 ι B w H hs;obtain⟨c1,c2⟩:=hC f args0 h0 n0 _ hc ι0 w.heap.size w e3 e2;refine⟨c1,?_⟩;rw [e1];refine CallsIn.mono c2 fun e w' hr=>?_;cases e with
  |returned u =>
   unfold qK at s3;cases ho:wR h1 with
   |true=>rw [ho] at s3;exact RE H (fun v h' nx' q=>hq v h' nx' q) how (.inl ho) s3 hr
   |false =>
    rw [ho] at s3;refine RE (H.shut.down H.size) (fun v h' nx' q=>hq v h' nx' q) how (.inr fun k o hk=>?_) s3 hr;rw [gV] at hk;cases hq:look h k with
    |none=>rw [hq] at hk;cases hk
    |some q =>
     rw [hq] at hk;injection hk with hk;subst hk;exact LR q
  |_=>exact hr.elim
 obtain⟨args0,h0,n0,v1,h1,m,s1,s2,s3⟩:=hx;exact⟨_,_,_,s3,fun K' hk=>⟨args0,h0,n0,v1,h1,m,s1,s2,hk⟩⟩
theorem bU {α:Type}{k:Nat}{o:α}{p:Prop}(h:look [] k=some o):p:=by cases h
theorem mG {v:Value}(hv:gT v=true){h':Heap}{nx':Nat}:L8 v [] 0 v h' nx' :=
 ⟨id,⟨fun t u hu=>by
  rw [aE] at hu;split at hu
  ·rename_i hb;injection hu with hu;subst hu;exact⟨by rw [aE,hb];show some v=some (jX id v);rw [jX,gZ hv],dI hv⟩
  exact bU hu,fun k o hk=>bU hk,fun k k' o o' hk=>bU hk,fun k hk=>rfl,Nat.le_refl _⟩⟩
theorem tP {σ:Nat→Nat}{v:Value}(hv:gT v=true):jX σ v=v:=gZ hv
theorem aHX {args:List Value}(hg:∀ v∈args,gT v=true){h:Heap}{nx:Nat}:In args [] 0 args h nx:=by
 intro ι B w H hs;refine⟨ι,rfl,fun v hv=>dI (hg v hv),⟨fun k o hk=>bU hk,fun k k' o o' hk=>bU hk,fun k o hk=>bU hk,Nat.le_refl _,fun k o hk=>bU hk⟩⟩
end Go.Aw
end
