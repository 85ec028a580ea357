/-
  Parts of a proof. No condition.
-/
import Derived.Test.YtoekkmbbbllogaaGreatQAo
set_option linter.unusedSimpArgs false
set_option linter.unusedVariables false
noncomputable section
namespace Go.Aw
open Go.RowKit
section
variable {A:Ar}{T:Tab}{K:Value→Bool}{K':Value→Prop}
theorem won_tw {x:Option Value}(hK:∀ v,K v=true→K' v)(hl:won x K=true):on x K':=by
 cases x with
 |none=>cases hl
 |some v=>exact hK v hl
theorem wbr_tw {b:Bool}{X Y:Unit→Bool}{X' Y':Unit→Prop}(h1:X ()=true→X' ())(h2:Y ()=true→Y' ())(hl:wbr b X Y=true):br b X' Y':=by
 cases b with
 |true=>exact h1 hl
 |false=>exact h2 hl
theorem wmust_tw {b X:Bool}{X':Prop}(h:X=true→X')(hl:wmust b X=true):must b X':=by
 cases b with
 |true=>exact h hl
 |false=>cases hl
theorem wload_tw {h:Heap}{t:TypeId}{x:Value}(hK:∀ v,K v=true→K' v)(hl:wload T h t x K=true):vload T h t x K':=by
 unfold wload at hl;unfold vload
 repeat' (split at hl)
 all_goals first|(cases hl;done)|(simp_all;done)
theorem wfieldAddr_tw {t:TypeId}{x:Value}{f:Nat}(hK:∀ v,K v=true→K' v)(hl:wfieldAddr T t x f K=true):vfieldAddr T t x f K':=by
 unfold wfieldAddr at hl;unfold vfieldAddr
 repeat' (split at hl)
 all_goals first|(cases hl;done)|(simp_all;done)
theorem windexAddr_tw {t:TypeId}{x ix:Value}(hK:∀ v,K v=true→K' v)(hl:windexAddr A T t x ix K=true):vindexAddr A T t x ix K':=by
 unfold windexAddr at hl;unfold vindexAddr
 repeat' (split at hl)
 all_goals first|(cases hl;done)|(simp_all;exact wmust_tw (hK _) hl;done)
theorem wpart_tw {t:TypeId}{cs:List Value}{o:Nat}(hK:∀ v,K v=true→K' v)(hl:wpart T t cs o K=true):vpart T t cs o K':=by
 unfold wpart at hl;unfold vpart
 repeat' (split at hl)
 all_goals first|(cases hl;done)|(simp_all;done)
theorem wfield_tw {t:TypeId}{x:Value}{f:Nat}(hK:∀ v,K v=true→K' v)(hl:wfield T t x f K=true):vfield T t x f K':=by
 unfold wfield at hl;unfold vfield
 repeat' (split at hl)
 all_goals first|(cases hl;done)|(simp_all;exact wpart_tw hK hl;done)
theorem windex_tw {t:TypeId}{x ix:Value}(hK:∀ v,K v=true→K' v)(hl:windex A T t x ix K=true):vindex A T t x ix K':=by
 unfold windex at hl;unfold vindex
 repeat' (split at hl)
 all_goals first|(cases hl;done)|(simp_all;exact wmust_tw (wpart_tw hK) hl;done)|(simp_all;done)
theorem wint_tw {op:BinOp}{k:IntKind}{a b:Int}(hK:∀ v,K v=true→K' v)(hl:wint A op k a b K=true):vint A op k a b K':=by
 cases op <;> first|(cases hl;done)|exact hK _ hl|exact wmust_tw (hK _) hl
theorem wbin_tw {op:BinOp}{t:TypeId}{x y:Value}(hK:∀ v,K v=true→K' v)(hl:wbin A T op t x y K=true):vbin A T op t x y K':=by
 unfold wbin at hl;unfold vbin
 repeat' (split at hl)
 all_goals first|(cases hl;done)|(simp_all;done)|(simp_all;exact wint_tw hK hl;done)|(simp_all;exact wmust_tw (hK _) hl;done)
theorem wnil_tw {op:BinOp}{h:Heap}{t:TypeId}{x:Value}(hK:∀ v,K v=true→K' v)(hl:wnil T h op t x K=true):vnil T h op t x K':=by
 unfold wnil at hl;unfold vnil
 repeat' (split at hl)
 all_goals first|(cases hl;done)|(simp_all;done)
theorem wun_tw {op:UnOp}{x:Value}(hK:∀ v,K v=true→K' v)(hl:wun A op x K=true):vun A op x K':=by
 unfold wun at hl;unfold vun
 repeat' (split at hl)
 all_goals first|(cases hl;done)|(simp_all;done)|(simp_all;exact wmust_tw (hK _) hl;done)
theorem wbuild_tw {t:TypeId}{ps:List (Nat × Value)}(hK:∀ v,K v=true→K' v)(hl:wbuild T t ps K=true):vbuild T t ps K':=by
 unfold wbuild at hl;unfold vbuild
 cases ht:look T t with
 |none=>simp only [ht] at hl;cases hl
 |some ti =>
  simp only [ht] at hl ⊢
  cases hk:ti.kind <;> simp only [hk] at hl ⊢ <;> cases hp:aggParts ps <;> (try simp only [hp] at hl ⊢)
  all_goals first
   |(simp at hl;done)
   |(split at hl <;> first|(cases hl;done)|(split at hl <;> first|(cases hl;done)|(simp only [*];first|done|exact hK _ hl)))
theorem wbuiltin_tw {b:Builtin}{ts:Array TypeId}{vs:List Value}(hK:∀ v,K v=true→K' v)(hl:wbuiltin A T b ts vs K=true):vbuiltin A T b ts vs K':=by
 unfold wbuiltin at hl;unfold vbuiltin
 repeat' (split at hl)
 all_goals first|(cases hl;done)|(simp_all;done)|(simp_all;exact won_tw hK hl;done)
theorem wlook_tw {env:List (Nat × Value)}{h:Heap}{op:Op}(hK:∀ v,K v=true→K' v)(hl:wlook A T env h op K=true):vlook A T env h op K':=by
 cases op with
 |move x=>exact won_tw hK hl
 |assign x=>exact won_tw hK hl
 |pick c a b =>
  refine won_tw (fun u hu=>?_) hl
  split at hu
  ·first|exact wbr_tw (won_tw hK) (won_tw hK) hu|(simp only [*];exact wbr_tw (won_tw hK) (won_tw hK) hu)|(simp only [*];done)
  ·cases hu
 |nilCheck x =>
  first|refine won_tw (fun u hu=>?_) hl|(simp only [*];refine won_tw (fun u hu=>?_) hl)|(simp only [*];done)
  split at hu
  ·first|exact hK _ hu|(simp only [*];exact hK _ hu)|(simp only [*];done)
  ·first|exact hK _ hu|(simp only [*];exact hK _ hu)|(simp only [*];done)
  ·first|exact hK _ hu|(simp only [*];exact hK _ hu)|(simp only [*];done)
  ·cases hu
 |load t x=>exact won_tw (fun u=>wload_tw hK) hl
 |fieldAddr s x f=>exact won_tw (fun u=>wfieldAddr_tw hK) hl
 |field s x f=>exact won_tw (fun u=>wfield_tw hK) hl
 |indexAddr t x i=>exact won_tw (fun u=>won_tw fun j=>windexAddr_tw hK) hl
 |index t x i=>exact won_tw (fun u=>won_tw fun j=>windex_tw hK) hl
 |binOp op t x y z =>
  refine won_tw (fun u=>won_tw fun v hl=>?_) hl
  split at hl
  ·exact wnil_tw hK hl
  ·rename_i hne
   split
   ·exact (hne _ _ rfl).elim
   ·exact wbin_tw hK hl
 |unOp op t x=>exact won_tw (fun u=>wun_tw hK) hl
 |convert s d x =>
  first|refine won_tw (fun u hu=>?_) hl|(simp only [*];refine won_tw (fun u hu=>?_) hl)|(simp only [*];done)
  split at hu
  ·first|exact wmust_tw (hK _) hu|(simp only [*];exact wmust_tw (hK _) hu)|(simp only [*];done)
  ·cases hu
 |makeFunc fn first cap =>
  simp only [wlook] at hl;simp only [vlook]
  repeat' (split at hl)
  all_goals first|(cases hl;done)|(simp_all;done)
 |extract x i =>
  first|refine won_tw (fun u hu=>?_) hl|(simp only [*];refine won_tw (fun u hu=>?_) hl)|(simp only [*];done)
  split at hu
  ·first|exact won_tw hK hu|(simp only [*];exact won_tw hK hu)|(simp only [*];done)
  ·cases hu
 |build t ps =>
  simp only [wlook] at hl;simp only [vlook]
  split at hl
  ·first|exact wbuild_tw hK hl|(simp only [*];exact wbuild_tw hK hl)|(simp only [*];done)
  ·cases hl
 |call c =>
  simp only [wlook] at hl;simp only [vlook]
  split at hl
  ·split at hl
   ·first|exact wbuiltin_tw hK hl|(simp only [*];exact wbuiltin_tw hK hl)|(simp only [*];done)
   ·cases hl
  ·cases hl
 |_=>cases hl
theorem wlookup_tw {h:Heap}{t:TypeId}{x key:Value}{ok:Bool}(hK:∀ v,K v=true→K' v)(hl:wlookup A T h t x key ok K=true):vlookup A T h t x key ok K':=by
 unfold wlookup at hl;unfold vlookup
 repeat' (split at hl)
 all_goals first|(cases hl;done)|(simp_all;done)
end
section
variable {A:Ar}{T:Tab}{K:KEB}{K':KE}{h:Heap}{nx:Nat}
theorem wstore_tw {t:TypeId}{x v:Value}(hK:∀ v h nx,K v h nx=true→K' v h nx)(hl:wstore T h nx t x v K=true):vstore T h nx t x v K':=by
 unfold wstore at hl;unfold vstore
 split at hl
 case h_2=>cases hl
 split at hl
 case h_2=>cases hl
 cases v <;> (split at hl <;> first|(cases hl;done)|(simp only [*];first|done|exact wmust_tw (hK _ _ _) hl)|(rename_i hq;cases hq))
theorem wbox_tw {v:Value}(hK:∀ v h nx,K v h nx=true→K' v h nx)(hl:wbox h nx v K=true):vbox h nx v K':=by
 unfold wbox at hl;unfold vbox
 split at hl
 ·cases hl
 ·first|exact hK _ _ _ hl|(simp only [*];exact hK _ _ _ hl)|(simp only [*];done)
theorem walloc_tw {t:TypeId}(hK:∀ v h nx,K v h nx=true→K' v h nx)(hl:walloc T h nx t K=true):valloc T h nx t K':=by
 unfold walloc at hl;unfold valloc
 split at hl
 ·first|exact hK _ _ _ hl|(simp only [*];exact hK _ _ _ hl)|(simp only [*];done)
 ·cases hl
theorem wbuildSlice_tw {t:TypeId}{n:Nat}{ps:List (Nat × Value)}(hK:∀ v h nx,K v h nx=true→K' v h nx)(hl:wbuildSlice T h nx t n ps K=true):vbuildSlice T h nx t n ps K':=by
 unfold wbuildSlice at hl;unfold vbuildSlice
 split at hl
 case h_2=>cases hl
 split at hl
 case h_2=>cases hl
 split at hl
 case h_2=>cases hl
 split at hl
 case h_2=>cases hl
 first|exact hK _ _ _ hl|(simp only [*];exact hK _ _ _ hl)|(simp only [*];done)
theorem whi_tw {n c:Nat}{hi:Option Value}{G:Nat→Bool}{G':Nat→Prop}(hG:∀ n,G n=true→G' n)(hl:whi A n c hi G=true):vhi A n c hi G':=by
 unfold whi at hl;unfold vhi
 split at hl
 ·first|exact hG _ hl|(simp only [*];exact hG _ hl)|(simp only [*];done)
 ·first|exact wmust_tw (hG _) hl|(simp only [*];exact wmust_tw (hG _) hl)|(simp only [*];done)
 ·cases hl
theorem wmust_br {b X:Bool}{X':Unit→Prop}{Y':Unit→Prop}(h:X=true→X' ())(hl:wmust b X=true):br b X' Y':=by
 cases b with
 |true=>exact h hl
 |false=>cases hl
theorem wslice_tw {t:TypeId}{x:Value}{lo hi mx:Option Value}(hK:∀ v h nx,K v h nx=true→K' v h nx)(hl:wslice A T h nx t x lo hi mx K=true):vslice A T h nx t x lo hi mx K':=by
 unfold wslice at hl;unfold vslice
 split at hl
 case h_2=>cases hl
 split at hl
 case h_1=>cases hl
 split at hl
 ·split at hl
  ·first|exact hK _ _ _ hl|(simp only [*];exact hK _ _ _ hl)|(simp only [*];done)
  ·cases hl
 ·first|refine whi_tw (fun hN hl=>?_) hl|(simp only [*];refine whi_tw (fun hN hl=>?_) hl)|(simp only [*];done)
  split at hl
  ·first|exact hK _ _ _ hl|(simp only [*];exact hK _ _ _ hl)|(simp only [*];done)
  ·first|refine wmust_tw (fun hl=>?_) hl|(simp only [*];refine wmust_tw (fun hl=>?_) hl)|(simp only [*];done)
   split at hl
   ·first|exact wmust_br (hK _ _ _) hl|(simp only [*];exact wmust_br (hK _ _ _) hl)|(simp only [*];done)
   ·cases hl
  ·cases hl
 ·split at hl
  ·first|exact hK _ _ _ hl|(simp only [*];exact hK _ _ _ hl)|(simp only [*];done)
  ·cases hl
 ·split at hl
  ·first|exact wmust_tw (hK _ _ _) hl|(simp only [*];exact wmust_tw (hK _ _ _) hl)
  ·first|exact wmust_tw (hK _ _ _) hl|(simp only [*];exact wmust_tw (hK _ _ _) hl)
  ·cases hl
 ·cases hl
theorem wsrc_tw {sz:Nat}{x:Value}{G:Nat→List Value→Bool}{G':Nat→List Value→Prop}(hG:∀ n l,G n l=true→G' n l)(hl:wsrc h sz x G=true):vsrc h sz x G':=by
 unfold wsrc at hl;unfold vsrc
 split at hl
 ·first|exact hG _ _ hl|(simp only [*];exact hG _ _ hl)|(simp only [*];done)
 ·split at hl
  ·first|exact wmust_tw (hG _ _) hl|(simp only [*];exact wmust_tw (hG _ _) hl)|(simp only [*];done)
  ·split at hl
   ·first|exact hG _ _ hl|(simp only [*];exact hG _ _ hl)|(simp only [*];done)
   ·cases hl
  ·cases hl
 ·cases hl
theorem wmakeSlice_tw {t:TypeId}{l c:Value}(hK:∀ v h nx,K v h nx=true→K' v h nx)(hl:wmakeSlice A T h nx t l c K=true):vmakeSlice A T h nx t l c K':=by
 unfold wmakeSlice at hl;unfold vmakeSlice
 split at hl
 case h_2=>cases hl
 split at hl
 case h_2=>cases hl
 first|exact wmust_tw (hK _ _ _) hl|(simp only [*];exact wmust_tw (hK _ _ _) hl)
theorem wappend_tw {st xt:TypeId}{s x:Value}(hK:∀ v h nx,K v h nx=true→K' v h nx)(hl:wappend A T h nx st xt s x K=true):vappend A T h nx st xt s x K':=by
 unfold wappend at hl;unfold vappend
 split at hl
 case h_3=>cases hl
 case h_1 =>
  split at hl
  case h_2=>cases hl
  split at hl
  case h_2=>cases hl
  first|exact wmust_tw (hK _ _ _) hl|(simp only [*];exact wmust_tw (hK _ _ _) hl)
 split at hl
 case h_1=>cases hl
 split at hl
 case h_1=>cases hl
 first|refine wsrc_tw (fun m src hl=>?_) hl|(simp only [*];refine wsrc_tw (fun m src hl=>?_) hl)|(simp only [*];done)
 split at hl
 ·first|exact wbr_tw (hK _ _ _) (wmust_tw (hK _ _ _)) hl|(simp only [*];exact wbr_tw (hK _ _ _) (wmust_tw (hK _ _ _)) hl)|(simp only [*];done)
 ·split at hl
  ·split at hl
   ·first|exact wbr_tw (hK _ _ _) (wmust_tw (hK _ _ _)) hl|(simp only [*];exact wbr_tw (hK _ _ _) (wmust_tw (hK _ _ _)) hl)|(simp only [*];done)
   ·cases hl
  ·first|exact wbr_tw (wmust_tw (hK _ _ _)) (wmust_tw (hK _ _ _)) hl|(simp only [*];exact wbr_tw (wmust_tw (hK _ _ _)) (wmust_tw (hK _ _ _)) hl)|(simp only [*];done)
  ·cases hl
 ·cases hl
theorem wmapUpdate_tw {t:TypeId}{x key v:Value}(hK:∀ v h nx,K v h nx=true→K' v h nx)(hl:wmapUpdate A T h nx t x key v K=true):vmapUpdate A T h nx t x key v K':=by
 unfold wmapUpdate at hl;unfold vmapUpdate
 cases v <;> (split at hl <;> first|(cases hl;done)|(rename_i hq;cases hq;done)|(split at hl <;> first|(cases hl;done)|(split at hl <;> first|(cases hl;done)|(simp only [*];first|done|exact hK _ _ _ hl))))
theorem wclear_tw {t:TypeId}{x:Value}(hK:∀ v h nx,K v h nx=true→K' v h nx)(hl:wclear T h nx t x K=true):vclear T h nx t x K':=by
 unfold wclear at hl;unfold vclear
 split at hl
 ·first|exact hK _ _ _ hl|(simp only [*];exact hK _ _ _ hl)|(simp only [*];done)
 ·split at hl
  ·first|exact hK _ _ _ hl|(simp only [*];exact hK _ _ _ hl)|(simp only [*];done)
  ·split at hl
   ·first|exact wmust_tw (hK _ _ _) hl|(simp only [*];exact wmust_tw (hK _ _ _) hl)|(simp only [*];done)
   ·cases hl
 ·cases hl
def Tw (C:VCB)(C':VC):Prop:=∀ f args h nx (K:KEB) (K':KE),(∀ v h nx,K v h nx=true→K' v h nx)→C f args h nx K=true→C' f args h nx K'
variable {C Y:VCB}{C' Y':VC}
theorem wop_tw (hC:Tw C C')(hY:Tw Y Y'){env:List (Nat × Value)}{op:Op}(hK:∀ v h nx,K v h nx=true→K' v h nx)(hl:wop A T C Y env h nx op K=true):vop A T C' Y' env h nx op K':=by
 cases op with
 |store t x y=>exact won_tw (fun p=>won_tw fun v=>wstore_tw hK) hl
 |alloc t=>exact walloc_tw hK hl
 |box t x=>exact won_tw (fun p=>wbox_tw hK) hl
 |buildSlice t n ps =>
  simp only [wop] at hl;simp only [vop]
  split at hl
  ·first|exact wbuildSlice_tw hK hl|(simp only [*];exact wbuildSlice_tw hK hl)|(simp only [*];done)
  ·cases hl
 |slice t x lo hi mx =>
  first|refine won_tw (fun v hl=>?_) hl|(simp only [*];refine won_tw (fun v hl=>?_) hl)|(simp only [*];done)
  split at hl
  ·first|exact wslice_tw hK hl|(simp only [*];exact wslice_tw hK hl)|(simp only [*];done)
  ·cases hl
 |makeSlice t l c=>exact won_tw (fun p=>won_tw fun v=>wmakeSlice_tw hK) hl
 |makeMap t x =>
  cases x with
  |none=>exact hK _ _ _ hl
  |some x=>simp [wop,wlook] at hl
 |lookup t m k ok=>exact won_tw (fun x=>won_tw fun y=>wlookup_tw fun v=>hK v h nx) hl
 |mapUpdate t m k u=>exact won_tw (fun x=>won_tw fun y=>won_tw fun v=>wmapUpdate_tw hK) hl
 |call c =>
  simp only [wop] at hl;simp only [vop]
  split at hl
  ·split at hl
   ·first|exact wappend_tw hK hl|(simp only [*];exact wappend_tw hK hl)|(simp only [*];done)
   ·cases hl
  ·split at hl
   ·first|exact wclear_tw hK hl|(simp only [*];exact wclear_tw hK hl)|(simp only [*];done)
   ·cases hl
  ·first|exact wlook_tw (K':=fun v=>K' v h nx) (fun v=>hK v h nx) hl|(simp only [*];exact wlook_tw (K':=fun v=>K' v h nx) (fun v=>hK v h nx) hl)|(simp only [*];done)
  ·first|refine won_tw (fun fv hl=>?_) hl|(simp only [*];refine won_tw (fun fv hl=>?_) hl)|(simp only [*];done)
   split at hl
   case h_2=>cases hl
   split at hl
   ·split at hl
    ·first|exact hC _ _ _ _ _ _ hK hl|(simp only [*];exact hC _ _ _ _ _ _ hK hl)|(simp only [*];done)
    ·cases hl
   ·split at hl
    ·first|exact hY _ _ _ _ _ _ hK hl|(simp only [*];exact hY _ _ _ _ _ _ hK hl)|(simp only [*];done)
    ·cases hl
   ·cases hl
  ·cases hl
 |mapEntry t m k=>exact Bool.noConfusion (show false=true from hl)
 |entryStore t m k u=>exact Bool.noConfusion (show false=true from hl)
 |range t x=>exact Bool.noConfusion (show false=true from hl)
 |entry x=>exact Bool.noConfusion (show false=true from hl)
 |_=>simp only [wop] at hl;exact wlook_tw (K':=fun v=>K' v h nx) (fun v=>hK v h nx) hl
theorem wguard_tw {ops:List Oper}{env:List (Nat × Value)}{g:Option (Nat × Bool)}{F G:List (Nat × Value)→Bool}{F' G':List (Nat × Value)→Prop}(h1:∀ e,F e=true→F' e)(h2:∀ e,G e=true→G' e)(hl:wguard A ops env g F G=true):vguard A ops env g F' G':=by
 unfold wguard at hl;unfold vguard
 split at hl
 ·first|exact h1 _ hl|(simp only [*];exact h1 _ hl)|(simp only [*];done)
 ·split at hl
  ·split at hl
   ·split at hl
    ·first|exact wbr_tw (h1 _) (h2 _) hl|(simp only [*];exact wbr_tw (h1 _) (h2 _) hl)|(simp only [*];done)
    ·first|exact h2 _ hl|(simp only [*];exact h2 _ hl)|(simp only [*];done)
    ·cases hl
   ·cases hl
  ·cases hl
theorem wput_tw {tn:Nat}{env:List (Nat × Value)}{dst:Option Nat}{v:Value}{F:List (Nat × Value)→Bool}{F':List (Nat × Value)→Prop}(h1:∀ e,F e=true→F' e)(hl:wput tn env dst v F=true):vput tn env dst v F':=by
 unfold wput at hl;unfold vput
 split at hl
 ·first|exact h1 _ hl|(simp only [*];exact h1 _ hl)|(simp only [*];done)
 ·split at hl
  ·first|exact h1 _ hl|(simp only [*];exact h1 _ hl)|(simp only [*];done)
  ·cases hl
theorem wops_tw (hC:Tw C C')(hY:Tw Y Y'){tn:Nat}{ops:List Oper}{F:KSB}{F':KS}(hF:∀ e h nx,F e h nx=true→F' e h nx):∀ (l:List Oper) env h nx,wops A T C Y tn ops l env h nx F=true→vops A T C' Y' tn ops l env h nx F'
 |[],_,_,_,hl=>hF _ _ _ hl
 |o::r,env,h,nx,hl=>wguard_tw (fun e=>wop_tw hC hY fun v h' nx'=>wput_tw fun e'=>wops_tw hC hY hF r e' h' nx') (fun e=>wput_tw fun e'=>wops_tw hC hY hF r e' h nx) hl
theorem wquiet_tw (hC:Tw C C'){env:List (Nat × Value)}{op:Op}{K:Value→Bool}{K':Value→Nat→Prop}(hK:∀ v,K v=true→K' v nx)(hl:wquiet A T C h nx env op K=true):vquiet A T C' h nx env op K':=by
 cases op with
 |load t x=>simp only [wquiet] at hl;exact wlook_tw hK hl
 |lookup t m k ok=>exact won_tw (fun x=>won_tw fun y=>wlookup_tw hK) hl
 |slice t x lo hi mx =>
  refine won_tw (fun v hl=>?_) hl
  split at hl
  ·first|refine wslice_tw (fun v h' nx' hl=>?_) hl|(simp only [*];refine wslice_tw (fun v h' nx' hl=>?_) hl)|(simp only [*];done)
   split at hl
   ·rename_i hb;rw [beq_true hb];exact hK _ hl
   ·cases hl
  ·cases hl
 |call c =>
  simp only [wquiet] at hl;simp only [vquiet]
  split at hl
  ·first|exact wlook_tw hK hl|(simp only [*];exact wlook_tw hK hl)|(simp only [*];done)
  ·first|refine won_tw (fun fv hl=>?_) hl|(simp only [*];refine won_tw (fun fv hl=>?_) hl)|(simp only [*];done)
   split at hl
   case h_2=>cases hl
   split at hl
   ·split at hl
    ·first|refine hC _ _ _ _ _ _ (fun v h' nx' hl=>?_) hl|(simp only [*];refine hC _ _ _ _ _ _ (fun v h' nx' hl=>?_) hl)|(simp only [*];done)
     split at hl
     ·rename_i hb;simp only [hb];exact hK _ hl
     ·cases hl
    ·cases hl
   ·cases hl
  ·cases hl
 |_=>simp only [wquiet] at hl;exact wlook_tw hK hl
theorem whead_tw (hC:Tw C C'){tn:Nat}{ops:List Oper}{F:List (Nat × Value)→Bool}{F':List (Nat × Value)→Nat→Prop}(hF:∀ e,F e=true→F' e nx):∀ (l:List Nat) env,whead A T C tn ops h nx l env F=true→vhead A T C' tn ops h l env nx F'
 |[],_,hl=>hF _ hl
 |i::r,env,hl=>by
  simp only [whead] at hl;simp only [vhead_cons]
  split at hl
  ·cases hl
  ·first|exact wguard_tw (fun e=>wquiet_tw hC fun v=>wput_tw fun e'=>whead_tw hC hF r e') (fun e=>wput_tw fun e'=>whead_tw hC hF r e') hl|(simp only [*];exact wguard_tw (fun e=>wquiet_tw hC fun v=>wput_tw fun e'=>whead_tw hC hF r e') (fun e=>wput_tw fun e'=>whead_tw hC hF r e') hl)|(simp only [*];done)
theorem wallocs_tw {tn:Nat}{ops:List Oper}{F:KSB}{F':KS}(hF:∀ e h nx,F e h nx=true→F' e h nx):∀ (l:List Nat) env h nx,wallocs T tn ops l env h nx F=true→vallocs T tn ops l env h nx F'
 |[],_,_,_,hl=>hF _ _ _ hl
 |i::r,env,h,nx,hl=>by
  simp only [wallocs] at hl;simp only [vallocs_cons]
  split at hl
  ·split at hl
   ·first|exact wput_tw (fun e'=>wallocs_tw hF r e' _ _) hl|(simp only [*];exact wput_tw (fun e'=>wallocs_tw hF r e' _ _) hl)|(simp only [*];done)
   ·cases hl
  ·cases hl
theorem wtail_tw (hC:Tw C C')(hY:Tw Y Y'){tn:Nat}{ops:List Oper}{hJ:Heap}{F:KSB}{F':KS}(hF:∀ e h nx,F e h nx=true→F' e h nx):∀ (l:List (Nat × Bool)) env h nx,wtail A T C Y tn ops hJ l env h nx F=true→vtail A T C' Y' tn ops hJ l env h nx F'
 |[],_,_,_,hl=>hF _ _ _ hl
 |(i,chk)::r,env,h,nx,hl=>by
  simp only [wtail] at hl;simp only [vtail_cons]
  split at hl
  ·cases hl
  ·first|exact wguard_tw (fun e=>wmust_tw (wop_tw hC hY fun v h' nx'=>wput_tw fun e'=>wtail_tw hC hY hF r e' h' nx')) (fun e=>wput_tw fun e'=>wtail_tw hC hY hF r e' h nx) hl|(simp only [*];exact wguard_tw (fun e=>wmust_tw (wop_tw hC hY fun v h' nx'=>wput_tw fun e'=>wtail_tw hC hY hF r e' h' nx')) (fun e=>wput_tw fun e'=>wtail_tw hC hY hF r e' h nx) hl)|(simp only [*];done)
theorem wregion_tw (hC:Tw C C')(hY:Tw Y Y'){tn:Nat}{ops:List Oper}{p:Plan}{env:List (Nat × Value)}{F:KSB}{F':KS}(hF:∀ e h nx,F e h nx=true→F' e h nx)(hl:wregion A T C Y tn ops p env h nx F=true):vregion A T C' Y' tn ops p env h nx F' :=
 whead_tw hC (fun e=>wallocs_tw (fun e h nx=>wtail_tw hC hY hF p.tail e h nx) p.allocs e h nx) p.head env hl
theorem wstep_tw (hC:Tw C C')(hY:Tw Y Y'){tn:Nat}{ops:List Oper}{o:Oper}{e:List (Nat × Value)}{h:Heap}{nx:Nat}{F:KSB}{F':KS}(hF:∀ e h nx,F e h nx=true→F' e h nx)(hl:wstep A T C Y tn ops o e h nx F=true):vstep A T C' Y' tn ops o e h nx F' :=
 wguard_tw (fun e=>wop_tw hC hY fun v h' nx'=>wput_tw fun e'=>hF e' h' nx') (fun e=>wput_tw fun e'=>hF e' h nx) hl
theorem wall_tw {F:Nat→Bool}{F':Nat→Prop}(hF:∀ i,F i=true→F' i){l:List Nat}(hl:wall F l=true):vall F' l:=by
 rw [vall_iff]
 induction l with
 |nil=>intro i hi;cases hi
 |cons x r ih =>
  simp only [wall,Bool.and_eq_true] at hl
  intro i hi
  cases hi with
  |head=>exact hF _ hl.1
  |tail _ hm=>exact ih hl.2 i hm
theorem wany_tw (hC:Tw C C')(hY:Tw Y Y'){tn:Nat}{ops:List Oper}{F:KSB}{F':KS}(hF:∀ e h nx,F e h nx=true→F' e h nx):∀ n done e h nx,wany A T C Y tn ops F n done e h nx=true→vany A T C' Y' tn ops F' n done e h nx
 |0,_,e,h,nx,hl=>hF _ _ _ hl
 |n+1,done,e,h,nx,hl=>by
  simp only [wany] at hl
  simp only [vany]
  cases hr:readyL ops done ops 0 with
  |nil =>
   rw [hr] at hl
   exact hF _ _ _ hl
  |cons i0 r0 =>
   rw [hr] at hl
   refine wall_tw (fun i hi=>?_) hl
   split at hi
   ·rename_i o ho
    rw [ho]
    exact wstep_tw hC hY (fun e h nx=>wany_tw hC hY hF n _ e h nx) hi
   ·cases hi
theorem wfirst_tw (hC:Tw C C')(hY:Tw Y Y'){tn:Nat}{ops:List Oper}{F:KSB}{F':KS}(hF:∀ e h nx,F e h nx=true→F' e h nx):∀ n done e h nx,wfirst A T C Y tn ops F n done e h nx=true→vfirst A T C' Y' tn ops F' n done e h nx
 |0,_,e,h,nx,hl=>hF _ _ _ hl
 |n+1,done,e,h,nx,hl=>by
  simp only [wfirst] at hl
  simp only [vfirst]
  cases hr:readyL ops done ops 0 with
  |nil =>
   rw [hr] at hl
   exact hF _ _ _ hl
  |cons i0 r0 =>
   rw [hr] at hl
   simp only at hl ⊢
   cases ho:getL ops i0 with
   |some o =>
    rw [ho] at hl
    exact wstep_tw hC hY (fun e h nx=>wfirst_tw hC hY hF n _ e h nx) hl
   |none=>rw [ho] at hl;cases hl
theorem wregA_tw (hC:Tw C C')(hY:Tw Y Y'){tn:Nat}{ops:Array Oper}{m:Nat}{e:List (Nat × Value)}{h:Heap}{nx:Nat}{F:KSB}{F':KS}(hF:∀ e h nx,F e h nx=true→F' e h nx)(hl:wregA A T C Y tn ops e h nx F=true):vregA A T C' Y' tn (.fuel m) ops e h nx F':=by
 unfold wregA at hl
 unfold vregA
 refine wfirst_tw hC hY (fun e0 h0 n0 hq=>?_) _ _ _ _ _ hl
 rw [forceL_eq,forceL_eq,Bool.and_eq_true] at hq
 refine⟨_,_,n0,wany_tw hC hY (fun e1 h1 n1 hr=>?_) _ _ _ _ _ hq.1,hF _ _ _ hq.2⟩
 exact⟨_,_,_,_,⟨rfl,rfl,rfl⟩,renB_ok hr⟩
def TwR (R:VRB)(R':VR):Prop:=∀ g ps as bd (kn:KSB) (kx:Nat→KSB) (kr:KSB) (kn':KS) (kx':Nat→KS) (kr':KS) e h nx,(∀ e h nx,kn e h nx=true→kn' e h nx)→(∀ i e h nx,kx i e h nx=true→kx' i e h nx)→(∀ e h nx,kr e h nx=true→kr' e h nx)→R g ps as bd kn kx kr e h nx=true→R' g ps as bd kn' kx' kr' e h nx
theorem witer_tw {F:KSB→KSB}{F':KS→KS}(hF:∀ (k:KSB) (k':KS) e h nx,(∀ e h nx,k e h nx=true→k' e h nx)→F k e h nx=true→F' k' e h nx):∀ n e h nx,witer F n e h nx=true→viter F' n e h nx
 |0,_,_,_,hl=>by cases hl
 |n+1,e,h,nx,hl=>hF _ _ e h nx (fun e h nx=>witer_tw hF n e h nx) hl
theorem wcode_tw (hC:Tw C C')(hY:Tw Y Y'){tn:Nat}{PL:Nat→Option Plan}{n:Nat}{R:VRB}{R':VR}(hR:TwR R R'):∀ (c:Code) (kn:KSB) (kx:Nat→KSB) (kr:KSB) (kn':KS) (kx':Nat→KS) (kr':KS) e h nx,(∀ e h nx,kn e h nx=true→kn' e h nx)→(∀ i e h nx,kx i e h nx=true→kx' i e h nx)→(∀ e h nx,kr e h nx=true→kr' e h nx) →
  wcode A T C Y tn PL n R c kn kx kr e h nx=true→vcode A T C' Y' tn PL (.fuel n) R' c kn' kx' kr' e h nx:=by
 intro c
 induction c with
 |skip=>exact fun kn kx kr kn' kx' kr' e h nx h1 _ _ hl=>h1 _ _ _ hl
 |region id ops draw =>
  intro kn kx kr kn' kx' kr' e h nx h1 _ _ hl
  simp only [wcode] at hl;simp only [vcode_region,vcode_cond]
  cases draw with
  |false =>
   simp only at hl ⊢
   unfold vregS
   cases hn:hasNext ops.toList with
   |false=>rw [hn] at hl;exact wops_tw hC hY h1 _ _ _ _ hl
   |true=>rw [hn] at hl;cases hl
  |true =>
   simp only at hl ⊢
   split at hl
   ·first|exact wregion_tw hC hY h1 hl|(simp only [*];exact wregion_tw hC hY h1 hl)|(simp only [*];done)
   ·first|exact wregA_tw hC hY h1 hl|(simp only [*];exact wregA_tw hC hY h1 hl)
 |seq a b iha ihb=>exact fun kn kx kr kn' kx' kr' e h nx h1 h2 h3 hl=>iha _ kx kr _ kx' kr' e h nx (fun e h nx=>ihb kn kx kr kn' kx' kr' e h nx h1 h2 h3) h2 h3 hl
 |cond c t f iht ihf =>
  intro kn kx kr kn' kx' kr' e h nx h1 h2 h3 hl
  simp only [wcode] at hl;simp only [vcode_region,vcode_cond]
  split at hl
  ·first|exact wbr_tw (iht kn kx kr kn' kx' kr' e h nx h1 h2 h3) (ihf kn kx kr kn' kx' kr' e h nx h1 h2 h3) hl|(simp only [*];exact wbr_tw (iht kn kx kr kn' kx' kr' e h nx h1 h2 h3) (ihf kn kx kr kn' kx' kr' e h nx h1 h2 h3) hl)|(simp only [*];done)
  ·cases hl
 |block id b ih =>
  intro kn kx kr kn' kx' kr' e h nx h1 h2 h3 hl
  first|refine ih kn _ kr kn' _ kr' e h nx h1 (fun j e h nx hk=>?_) h3 hl|(simp only [*];refine ih kn _ kr kn' _ kr' e h nx h1 (fun j e h nx hk=>?_) h3 hl)|(simp only [*];done)
  cases hb:Nat.beq j id with
  |true=>simp only [hb] at hk ⊢;exact h1 _ _ _ hk
  |false=>simp only [hb] at hk ⊢;exact h2 _ _ _ _ hk
 |loop b ih =>
  intro kn kx kr kn' kx' kr' e h nx h1 h2 h3 hl
  first|exact witer_tw (fun k k' e h nx hk=>ih k kx kr k' kx' kr' e h nx hk h2 h3) n e h nx hl|(simp only [*];exact witer_tw (fun k k' e h nx hk=>ih k kx kr k' kx' kr' e h nx hk h2 h3) n e h nx hl)|(simp only [*];done)
 |rangeFunc g ps as bd _ _=>exact fun kn kx kr kn' kx' kr' e h nx h1 h2 h3 hl=>hR g ps as bd kn kx kr kn' kx' kr' e h nx h1 h2 h3 hl
 |exit id=>exact fun kn kx kr kn' kx' kr' e h nx _ h2 _ hl=>h2 _ _ _ _ hl
 |ret=>exact fun kn kx kr kn' kx' kr' e h nx _ _ h3 hl=>h3 _ _ _ hl
 |label l=>exact fun kn kx kr kn' kx' kr' e h nx h1 _ _ hl=>h1 _ _ _ hl
 |scope b ih=>exact fun kn kx kr kn' kx' kr' e h nx h1 h2 h3 hl=>ih kn kx kr kn' kx' kr' e h nx h1 h2 h3 hl
 |goto l=>exact fun _ _ _ _ _ _ _ _ _ _ _ _ hl=>by cases hl
 |refuse s=>exact fun _ _ _ _ _ _ _ _ _ _ _ _ hl=>by cases hl
theorem wresults_tw {e:List (Nat × Value)}:∀ (l:List ResultVar) {F:List Value→Bool} {F':List Value→Prop},(∀ l,F l=true→F' l)→wresults T e h l F=true→vresults T e h l F'
 |[],F,F',hF,hl=>hF _ hl
 |.tmp t::r,F,F',hF,hl=>won_tw (fun v=>wresults_tw r fun l=>hF _) hl
 |.cell a t::r,F,F',hF,hl=>won_tw (fun p=>wload_tw fun v=>wresults_tw r fun l=>hF _) hl
theorem wend_tw {fn:Func}(hK:∀ v h nx,K v h nx=true→K' v h nx)(e:List (Nat × Value))(h:Heap)(nx:Nat)(hl:wend T fn K e h nx=true):vend T fn K' e h nx:=by
 refine wresults_tw _ (fun l hl=>?_) hl
 split at hl
 ·first|exact hK _ _ _ hl|(simp only [*];exact hK _ _ _ hl)|(simp only [*];done)
 ·split at hl
  ·rename_i hn;simp only [hn];exact hK _ _ _ hl
  ·cases hl
theorem wrange_tw (hC:Tw C C'){f tn:Nat}:TwR (wrange C f tn) (vrange C' f tn):=by
 intro g ps as bd kn kx kr kn' kx' kr' e h nx h1 h2 h3 hl
 refine won_tw (fun gv hl=>?_) hl
 split at hl
 case h_2=>cases hl
 split at hl
 case h_2=>cases hl
 first|refine hC _ _ _ _ _ _ (fun v h' nx' hl=>?_) hl|(simp only [*];refine hC _ _ _ _ _ _ (fun v h' nx' hl=>?_) hl)|(simp only [*];done)
 split at hl
 case h_2=>cases hl
 rename_i l hl1 hl2
 split at hl
 ·cases hl
 ·first|exact h1 _ _ _ hl|(simp only [*];exact h1 _ _ _ hl)|(simp only [*];done)
 ·first|exact h2 _ _ _ _ hl|(simp only [*];exact h2 _ _ _ _ hl)|(simp only [*];done)
 ·first|exact h3 _ _ _ hl|(simp only [*];exact h3 _ _ _ hl)|(simp only [*];done)
 ·cases hl
theorem wfin_tw {q:Nat}(hK:∀ v h nx,K v h nx=true→K' v h nx){j:Option Code}(e:List (Nat × Value))(h:Heap)(nx:Nat)(hl:wfin q K j e h nx=true):vfin q K' j e h nx:=by
 unfold wfin at hl;unfold vfin
 split at hl
 ·first|exact hK _ _ _ hl|(simp only [*];exact hK _ _ _ hl)|(simp only [*];done)
 ·cases hl
theorem wround_tw (hC:Tw C C')(hY:Tw Y Y'){PL:Nat→Nat→Option Plan}{n:Nat}:Tw (wround A T C Y PL n) (vround A T C' Y' PL (.fuel n)):=by
 intro q args h nx K K' hK hl
 unfold wround at hl;unfold vround
 split at hl
 case h_2=>cases hl
 split at hl
 case h_2=>cases hl
 first|refine wcode_tw hC hY (fun _ _ _ _ _ _ _ _ _ _ _ _ _ _ _ _ hl=>by cases hl) _ _ _ _ _ _ _ _ _ _ (fun e1 h1 nx1 hl=>?_) (fun _ _ _ _ hl=>by cases hl) (fun _ _ _ hl=>by cases hl) hl|(simp only [*];refine wcode_tw hC hY (fun _ _ _ _ _ _ _ _ _ _ _ _ _ _ _ _ hl=>by cases hl) _ _ _ _ _ _ _ _ _ _ (fun e1 h1 nx1 hl=>?_) (fun _ _ _ _ hl=>by cases hl) (fun _ _ _ hl=>by cases hl) hl)|(simp only [*];done)
 split at hl
 case h_2=>cases hl
 split at hl
 case h_2=>cases hl
 first|exact wcode_tw hC hY (fun _ _ _ _ _ _ _ _ _ _ _ _ _ _ _ _ hl=>by cases hl) _ _ _ _ _ _ _ _ _ _ (wfin_tw hK) (fun i=>wfin_tw hK) (wfin_tw hK) hl|(simp only [*];exact wcode_tw hC hY (fun _ _ _ _ _ _ _ _ _ _ _ _ _ _ _ _ hl=>by cases hl) _ _ _ _ _ _ _ _ _ _ (wfin_tw hK) (fun i=>wfin_tw hK) (wfin_tw hK) hl)|(simp only [*];done)
def TwX (c:Cfg)(XB:Nat→Option (List Value→Heap→Nat→KEB→Bool)):Prop:=∀ f x xb,c.X f=some x→XB f=some xb→∀ args h nx (K:KEB) (K':KE),(∀ v h nx,K v h nx=true→K' v h nx)→xb args h nx K=true→x args h nx K'
theorem wbody_tw {c:Cfg}{XB:Nat→Option (List Value→Heap→Nat→KEB→Bool)}(hX:TwX c XB){n:Nat}(hC:Tw C C')(hY:Tw Y Y'):Tw (wbody c XB n C Y) (vbody c (some n) C' Y'):=by
 intro f args h nx K K' hK hl
 unfold wbody at hl;unfold vbody
 split at hl
 ·rename_i x hx
  split at hl
  ·rename_i xb hxb
   first|exact hX f x xb hx hxb _ _ _ _ _ hK hl|(simp only [hx];exact hX f x xb hx hxb _ _ _ _ _ hK hl)
  ·cases hl
 rename_i hx
 first|skip|(simp only [hx])
 split at hl
 ·cases hl
 split at hl
 case h_2=>cases hl
 first|exact wcode_tw hC hY (wrange_tw hC) _ _ _ _ _ _ _ _ _ _ (wend_tw fun v h nx=>hK v _ nx) (fun _ _ _ _ hl=>by cases hl) (wend_tw fun v h nx=>hK v _ nx) hl|(simp only [*];exact wcode_tw hC hY (wrange_tw hC) _ _ _ _ _ _ _ _ _ _ (wend_tw fun v h nx=>hK v _ nx) (fun _ _ _ _ hl=>by cases hl) (wend_tw fun v h nx=>hK v _ nx) hl)
theorem wfrC_tw {PR:Nat→Bool}(hC:Tw C C'):Tw (wfrC PR C) (frC PR C'):=by
 intro f args h nx K K' hK hl
 unfold wfrC at hl
 unfold frC
 cases hp:PR f with
 |false=>simp only [hp] at hl ⊢;exact hC _ _ _ _ _ _ hK hl
 |true =>
  simp only [hp] at hl ⊢
  refine hC _ _ _ _ _ _ (fun v h' nx' hq=>?_) hl
  unfold wfrK at hq
  unfold frK
  split at hq
  ·rename_i hg;rw [hg];exact hK _ _ _ hq
  ·rename_i hg;rw [hg];exact hK _ _ _ hq
theorem wcall_tw {c:Cfg}{XB:Nat→Option (List Value→Heap→Nat→KEB→Bool)}(hX:TwX c XB):∀ (d:Nat) (b:Bool),Tw (wcall c XB d b) (vcall c d b)
 |0,_=>fun _ _ _ _ _ _ _ hl=>by simp [wcall] at hl
 |d+1,false=>wfrC_tw (wbody_tw hX (wcall_tw hX d false) (wcall_tw hX d true))
 |d+1,true=>wround_tw (wcall_tw hX d false) (wcall_tw hX d true)
end
end Go.Aw
end
