/-
  Parts of a proof. No condition.
-/
import Derived.Test.YtmkcjbpekejgdaaGreatQAh
set_option linter.unusedSimpArgs false
set_option linter.unusedVariables false
noncomputable section
namespace Go.Aw
open Go.RowKit
def Det {α:Type}(E:(α→Prop)→Prop):Prop:=∀ K,E K→∃ x,K x∧∀ K':α→Prop,K' x→E K'
def DetE (E:KE→Prop):Prop:=∀ K:KE,E K→∃ v h nx,K v h nx∧∀ K':KE,K' v h nx→E K'
def DetS (E:KS→Prop):Prop:=∀ K:KS,E K→∃ e h nx,K e h nx∧∀ K':KS,K' e h nx→E K'
variable {A:Ar}{T:Tab}{h:Heap}{nx:Nat}
theorem det_on {α:Type}{x:Option Value}{F:Value→(α→Prop)→Prop}(hF:∀ v,Det (F v)):Det (fun K=>on x (fun v=>F v K)):=by
 intro K hl
 cases x with
 |none=>exact hl.elim
 |some v=>exact hF v K hl
theorem detE_on {x:Option Value}{F:Value→KE→Prop}(hF:∀ v,DetE (F v)):DetE (fun K=>on x (fun v=>F v K)):=by
 intro K hl
 cases x with
 |none=>exact hl.elim
 |some v=>exact hF v K hl
theorem det_on1 {x:Option Value}:Det (on x):=by
 intro K hl
 cases x with
 |none=>exact hl.elim
 |some v=>exact⟨v,hl,fun K' h=>h⟩
theorem det_vload {t:TypeId}{x:Value}:Det (vload T h t x):=by
 intro K hl
 unfold vload at *
 repeat' (split at hl)
 all_goals first|(exact hl.elim)|(exact⟨_,hl,fun K' h=>h⟩)|(exact⟨_,_,_,hl,fun K' h=>h⟩)|(obtain⟨hb,hl⟩:=must_iff.1 hl;exact⟨_,hl,fun K' h=>must_of hb h⟩)|(obtain⟨hb,hl⟩:=must_iff.1 hl;exact⟨_,_,_,hl,fun K' h=>must_of hb h⟩)
theorem det_vfieldAddr {t:TypeId}{x:Value}{f:Nat}:Det (vfieldAddr T t x f):=by
 intro K hl
 unfold vfieldAddr at *
 repeat' (split at hl)
 all_goals first|(exact hl.elim)|(exact⟨_,hl,fun K' h=>h⟩)|(exact⟨_,_,_,hl,fun K' h=>h⟩)|(obtain⟨hb,hl⟩:=must_iff.1 hl;exact⟨_,hl,fun K' h=>must_of hb h⟩)|(obtain⟨hb,hl⟩:=must_iff.1 hl;exact⟨_,_,_,hl,fun K' h=>must_of hb h⟩)
theorem det_must {α:Type}{b:Bool}{E:(α→Prop)→Prop}(h:Det E):Det (fun K=>must b (E K)):=by
 intro K hl
 obtain⟨hb,hl⟩:=must_iff.1 hl
 obtain⟨x,h1,h2⟩:=h K hl
 exact⟨x,h1,fun K' hk=>must_of hb (h2 K' hk)⟩
theorem detE_must {b:Bool}{E:KE→Prop}(h:DetE E):DetE (fun K=>must b (E K)):=by
 intro K hl
 obtain⟨hb,hl⟩:=must_iff.1 hl
 obtain⟨x,y,z,h1,h2⟩:=h K hl
 exact⟨x,y,z,h1,fun K' hk=>must_of hb (h2 K' hk)⟩
theorem det_pure {α:Type}{x:α}:Det (fun K:α→Prop=>K x):=fun K hl=>⟨x,hl,fun K' h=>h⟩
theorem detE_pure {v:Value}{h:Heap}{nx:Nat}:DetE (fun K=>K v h nx):=fun K hl=>⟨v,h,nx,hl,fun K' h=>h⟩
theorem det_false {α:Type}:Det (fun _:α→Prop=>False):=fun K hl=>hl.elim
theorem detE_false:DetE (fun _=>False):=fun K hl=>hl.elim
theorem det_br {α:Type}{b:Bool}{E F:(α→Prop)→Prop}(hE:Det E)(hF:Det F):Det (fun K=>br b (fun _=>E K) (fun _=>F K)):=by
 intro K hl
 cases b
 ·exact hF K hl
 ·exact hE K hl
theorem detE_br {b:Bool}{E F:KE→Prop}(hE:DetE E)(hF:DetE F):DetE (fun K=>br b (fun _=>E K) (fun _=>F K)):=by
 intro K hl
 cases b
 ·exact hF K hl
 ·exact hE K hl
theorem det_vindexAddr {t:TypeId}{x i:Value}:Det (vindexAddr A T t x i):=by
 intro K hl
 unfold vindexAddr at *
 repeat' (split at hl)
 all_goals first|(exact hl.elim)|(exact⟨_,hl,fun K' h=>h⟩)|(exact⟨_,_,_,hl,fun K' h=>h⟩)|(obtain⟨hb,hl⟩:=must_iff.1 hl;exact⟨_,hl,fun K' h=>must_of hb h⟩)|(obtain⟨hb,hl⟩:=must_iff.1 hl;exact⟨_,_,_,hl,fun K' h=>must_of hb h⟩)
theorem det_vint {op:BinOp}{k:IntKind}{a b:Int}:Det (vint A op k a b):=by
 intro K hl
 unfold vint at *
 repeat' (split at hl)
 all_goals first|(exact hl.elim)|(exact⟨_,hl,fun K' h=>h⟩)|(exact⟨_,_,_,hl,fun K' h=>h⟩)|(obtain⟨hb,hl⟩:=must_iff.1 hl;exact⟨_,hl,fun K' h=>must_of hb h⟩)|(obtain⟨hb,hl⟩:=must_iff.1 hl;exact⟨_,_,_,hl,fun K' h=>must_of hb h⟩)
theorem det_vpart {t:TypeId}{cs:List Value}{o:Nat}:Det (vpart T t cs o):=by
 intro K hl
 unfold vpart at *
 repeat' (split at hl)
 all_goals first|(exact hl.elim)|(exact⟨_,hl,fun K' h=>h⟩)|(exact⟨_,_,_,hl,fun K' h=>h⟩)|(obtain⟨hb,hl⟩:=must_iff.1 hl;exact⟨_,hl,fun K' h=>must_of hb h⟩)|(obtain⟨hb,hl⟩:=must_iff.1 hl;exact⟨_,_,_,hl,fun K' h=>must_of hb h⟩)
theorem det_vfield {t:TypeId}{x:Value}{f:Nat}:Det (vfield T t x f):=by
 intro K hl
 unfold vfield at *
 repeat' (split at hl)
 all_goals first|(exact det_vpart K hl)|(exact hl.elim)|(exact⟨_,hl,fun K' h=>h⟩)|(exact⟨_,_,_,hl,fun K' h=>h⟩)|(obtain⟨hb,hl⟩:=must_iff.1 hl;exact⟨_,hl,fun K' h=>must_of hb h⟩)|(obtain⟨hb,hl⟩:=must_iff.1 hl;exact⟨_,_,_,hl,fun K' h=>must_of hb h⟩)
theorem det_vindex {t:TypeId}{x i:Value}:Det (vindex A T t x i):=by
 intro K hl
 unfold vindex at *
 repeat' (split at hl)
 all_goals first|(exact det_must det_vpart K hl)|(exact hl.elim)|(exact⟨_,hl,fun K' h=>h⟩)|(exact⟨_,_,_,hl,fun K' h=>h⟩)|(obtain⟨hb,hl⟩:=must_iff.1 hl;exact⟨_,hl,fun K' h=>must_of hb h⟩)|(obtain⟨hb,hl⟩:=must_iff.1 hl;exact⟨_,_,_,hl,fun K' h=>must_of hb h⟩)
theorem det_vbin {op:BinOp}{t:TypeId}{x y:Value}:Det (vbin A T op t x y):=by
 intro K hl
 unfold vbin at *
 repeat' (split at hl)
 all_goals first|(exact hl.elim)|(exact⟨_,hl,fun K' h=>h⟩)|(exact⟨_,_,_,hl,fun K' h=>h⟩)|(obtain⟨hb,hl⟩:=must_iff.1 hl;exact⟨_,hl,fun K' h=>must_of hb h⟩)|(obtain⟨hb,hl⟩:=must_iff.1 hl;exact⟨_,_,_,hl,fun K' h=>must_of hb h⟩)|(exact det_vint K hl)
theorem det_vun {op:UnOp}{x:Value}:Det (vun A op x):=by
 intro K hl
 unfold vun at *
 repeat' (split at hl)
 all_goals first|(exact hl.elim)|(exact⟨_,hl,fun K' h=>h⟩)|(exact⟨_,_,_,hl,fun K' h=>h⟩)|(obtain⟨hb,hl⟩:=must_iff.1 hl;exact⟨_,hl,fun K' h=>must_of hb h⟩)|(obtain⟨hb,hl⟩:=must_iff.1 hl;exact⟨_,_,_,hl,fun K' h=>must_of hb h⟩)
theorem det_vbuild {t:TypeId}{ps:List (Nat × Value)}:Det (vbuild T t ps):=by
 intro K hl
 unfold vbuild at *
 repeat' (split at hl)
 all_goals first|(exact hl.elim)|(exact⟨_,hl,fun K' h=>h⟩)|(exact⟨_,_,_,hl,fun K' h=>h⟩)|(obtain⟨hb,hl⟩:=must_iff.1 hl;exact⟨_,hl,fun K' h=>must_of hb h⟩)|(obtain⟨hb,hl⟩:=must_iff.1 hl;exact⟨_,_,_,hl,fun K' h=>must_of hb h⟩)
theorem det_vbuiltin {b:Builtin}{ts:Array TypeId}{vs:List Value}:Det (vbuiltin A T b ts vs):=by
 intro K hl
 unfold vbuiltin at *
 repeat' (split at hl)
 all_goals first|(exact hl.elim)|(exact⟨_,hl,fun K' h=>h⟩)|(exact⟨_,_,_,hl,fun K' h=>h⟩)|(obtain⟨hb,hl⟩:=must_iff.1 hl;exact⟨_,hl,fun K' h=>must_of hb h⟩)|(obtain⟨hb,hl⟩:=must_iff.1 hl;exact⟨_,_,_,hl,fun K' h=>must_of hb h⟩)|(exact det_on1 K hl)
theorem det_vnil {op:BinOp}{t:TypeId}{x:Value}:Det (vnil T h op t x):=by
 intro K hl
 unfold vnil at *
 repeat' (split at hl)
 all_goals first|(exact hl.elim)|(exact⟨_,hl,fun K' h=>h⟩)
theorem det_vlook {env:List (Nat × Value)}{op:Op}:Det (vlook A T env h op):=by
 show Det (fun K=>vlook A T env h op K)
 cases op <;> simp only [vlook]
 case move x=>exact det_on1
 case assign x=>exact det_on1
 case pick c a b =>
  refine det_on fun u=>?_
  intro K hl
  split at hl
  ·exact det_br det_on1 det_on1 K hl
  ·exact hl.elim
 case nilCheck x =>
  refine det_on fun u=>?_
  intro K hl
  split at hl
  all_goals first|(exact hl.elim)|(exact⟨_,hl,fun K' h=>h⟩)
 case load t x=>exact det_on fun u=>det_vload
 case fieldAddr s x f=>exact det_on fun u=>det_vfieldAddr
 case field s x f=>exact det_on fun u=>det_vfield
 case indexAddr t x i=>exact det_on fun u=>det_on fun j=>det_vindexAddr
 case index t x i=>exact det_on fun u=>det_on fun j=>det_vindex
 case binOp op t x y yt =>
  refine det_on fun u=>det_on fun v=>?_
  intro K hl
  split at hl
  ·exact det_vnil K hl
  ·exact det_vbin K hl
 case unOp op t x=>exact det_on fun u=>det_vun
 case convert s d x =>
  refine det_on fun u=>?_
  intro K hl
  split at hl
  ·exact det_must det_pure K hl
  ·exact hl.elim
 case makeFunc fn first cap =>
  intro K hl
  repeat' (split at hl)
  all_goals first|(exact hl.elim)|(exact⟨_,hl,fun K' h=>h⟩)
 case extract x i =>
  refine det_on fun u=>?_
  intro K hl
  split at hl
  ·exact det_on1 K hl
  ·exact hl.elim
 case build t ps =>
  intro K hl
  split at hl
  ·exact det_vbuild K hl
  ·exact hl.elim
 case call c =>
  intro K hl
  split at hl
  ·split at hl
   ·exact det_vbuiltin K hl
   ·exact hl.elim
  ·exact hl.elim
 all_goals exact det_false
theorem detE_of {E:(Value→Prop)→Prop}(hE:Det E):DetE (fun K=>E (fun v=>K v h nx)):=by
 intro K hl
 obtain⟨v,h1,h2⟩:=hE _ hl
 exact⟨v,h,nx,h1,fun K' hk=>h2 _ hk⟩
theorem det_vstore {t:TypeId}{x v:Value}:DetE (vstore T h nx t x v):=by
 intro K hl
 unfold vstore at *
 repeat' (split at hl)
 all_goals first|(exact hl.elim)|(exact⟨_,hl,fun K' h=>h⟩)|(exact⟨_,_,_,hl,fun K' h=>h⟩)|(obtain⟨hb,hl⟩:=must_iff.1 hl;exact⟨_,hl,fun K' h=>must_of hb h⟩)|(obtain⟨hb,hl⟩:=must_iff.1 hl;exact⟨_,_,_,hl,fun K' h=>must_of hb h⟩)
theorem det_valloc {t:TypeId}:DetE (valloc T h nx t):=by
 intro K hl
 unfold valloc at *
 repeat' (split at hl)
 all_goals first|(exact hl.elim)|(exact⟨_,hl,fun K' h=>h⟩)|(exact⟨_,_,_,hl,fun K' h=>h⟩)|(obtain⟨hb,hl⟩:=must_iff.1 hl;exact⟨_,hl,fun K' h=>must_of hb h⟩)|(obtain⟨hb,hl⟩:=must_iff.1 hl;exact⟨_,_,_,hl,fun K' h=>must_of hb h⟩)
theorem det_vbox {v:Value}:DetE (vbox h nx v):=by
 intro K hl
 unfold vbox at *
 repeat' (split at hl)
 all_goals first|(exact hl.elim)|(exact⟨_,hl,fun K' h=>h⟩)|(exact⟨_,_,_,hl,fun K' h=>h⟩)|(obtain⟨hb,hl⟩:=must_iff.1 hl;exact⟨_,hl,fun K' h=>must_of hb h⟩)|(obtain⟨hb,hl⟩:=must_iff.1 hl;exact⟨_,_,_,hl,fun K' h=>must_of hb h⟩)
theorem det_vbuildSlice {t:TypeId}{n:Nat}{ps:List (Nat × Value)}:DetE (vbuildSlice T h nx t n ps):=by
 intro K hl
 unfold vbuildSlice at *
 repeat' (split at hl)
 all_goals first|(exact hl.elim)|(exact⟨_,hl,fun K' h=>h⟩)|(exact⟨_,_,_,hl,fun K' h=>h⟩)|(obtain⟨hb,hl⟩:=must_iff.1 hl;exact⟨_,hl,fun K' h=>must_of hb h⟩)|(obtain⟨hb,hl⟩:=must_iff.1 hl;exact⟨_,_,_,hl,fun K' h=>must_of hb h⟩)
theorem det_vclear {t:TypeId}{x:Value}:DetE (vclear T h nx t x):=by
 intro K hl
 unfold vclear at *
 repeat' (split at hl)
 all_goals first|(exact hl.elim)|(exact⟨_,hl,fun K' h=>h⟩)|(exact⟨_,_,_,hl,fun K' h=>h⟩)|(obtain⟨hb,hl⟩:=must_iff.1 hl;exact⟨_,hl,fun K' h=>must_of hb h⟩)|(obtain⟨hb,hl⟩:=must_iff.1 hl;exact⟨_,_,_,hl,fun K' h=>must_of hb h⟩)
theorem det_vmapUpdate {t:TypeId}{x k v:Value}:DetE (vmapUpdate A T h nx t x k v):=by
 intro K hl
 unfold vmapUpdate at *
 repeat' (split at hl)
 all_goals first|(exact hl.elim)|(obtain⟨a1,a2,⟨i,v,a3,a4,a5⟩|⟨a3,a4⟩⟩:=hl;exact⟨_,_,_,a5,fun K' hk=>⟨a1,a2,.inl ⟨i,v,a3,a4,hk⟩⟩⟩;exact⟨_,_,_,a4,fun K' hk=>⟨a1,a2,.inr ⟨a3,hk⟩⟩⟩)|(exact⟨_,hl,fun K' h=>h⟩)|(exact⟨_,_,_,hl,fun K' h=>h⟩)|(obtain⟨hb,hl⟩:=must_iff.1 hl;exact⟨_,hl,fun K' h=>must_of hb h⟩)|(obtain⟨hb,hl⟩:=must_iff.1 hl;exact⟨_,_,_,hl,fun K' h=>must_of hb h⟩)
theorem det_vlookup {t:TypeId}{x k:Value}{ok:Bool}:Det (vlookup A T h t x k ok):=by
 intro K hl
 unfold vlookup at *
 repeat' (split at hl)
 all_goals first|(exact hl.elim)|(obtain⟨a1,a2,⟨i,v,a3,a4,a5⟩|⟨a3,a4⟩⟩:=hl;exact⟨_,a5,fun K' hk=>⟨a1,a2,.inl ⟨i,v,a3,a4,hk⟩⟩⟩;exact⟨_,a4,fun K' hk=>⟨a1,a2,.inr ⟨a3,hk⟩⟩⟩)|(exact⟨_,hl,fun K' h=>h⟩)|(exact⟨_,_,_,hl,fun K' h=>h⟩)|(obtain⟨hb,hl⟩:=must_iff.1 hl;exact⟨_,hl,fun K' h=>must_of hb h⟩)|(obtain⟨hb,hl⟩:=must_iff.1 hl;exact⟨_,_,_,hl,fun K' h=>must_of hb h⟩)
theorem det_vmapEntry {t:TypeId}{x k:Value}:DetE (vmapEntry A T h nx t x k):=by
 intro K hl
 unfold vmapEntry at *
 repeat' (split at hl)
 all_goals first|(exact hl.elim)|(obtain⟨a1,a2,⟨i,v,a3,a4,a5⟩|⟨a3,a4⟩⟩:=hl;exact⟨_,_,_,a5,fun K' hk=>⟨a1,a2,.inl ⟨i,v,a3,a4,hk⟩⟩⟩;exact⟨_,_,_,a4,fun K' hk=>⟨a1,a2,.inr ⟨a3,hk⟩⟩⟩)
theorem det_ventryStore {x s v:Value}:DetE (ventryStore h nx x s v):=by
 intro K hl
 unfold ventryStore at *
 repeat' (split at hl)
 all_goals first|(exact hl.elim)|(obtain⟨i,p,a1,a2,a3⟩:=hl;exact⟨_,_,_,a3,fun K' hk=>⟨i,p,a1,a2,hk⟩⟩)
theorem det_vmrange {t:TypeId}{x:Value}:DetE (vmrange T h nx t x):=by
 intro K hl
 unfold vmrange at *
 repeat' (split at hl)
 all_goals first|(exact hl.elim)|(exact⟨_,_,_,hl,fun K' h=>h⟩)
theorem det_ventry {x:Value}:Det (ventry h x):=by
 intro K hl
 unfold ventry at *
 repeat' (split at hl)
 all_goals first|(exact hl.elim)|(obtain⟨s0,i,e,a1,a2,a3,a4⟩:=hl;exact⟨_,a4,fun K' hk=>⟨s0,i,e,a1,a2,a3,hk⟩⟩)
theorem detE_vhi {n c:Nat}{hi:Option Value}{G:Nat→KE→Prop}(hG:∀ m,DetE (G m)):DetE (fun K=>vhi A n c hi fun m=>G m K):=by
 intro K hl
 unfold vhi at *
 split at hl
 ·exact hG _ K hl
 ·exact detE_must (hG _) K hl
 ·exact hl.elim
theorem det_vslice {t:TypeId}{x:Value}{lo hi mx:Option Value}:DetE (vslice A T h nx t x lo hi mx):=by
 intro K hl
 unfold vslice at *
 split at hl
 case h_2=>exact hl.elim
 split at hl
 ·exact hl.elim
 split at hl
 ·split at hl
  ·exact detE_pure K hl
  ·exact hl.elim
 ·refine detE_vhi (fun m=>?_) K hl
  intro K hl
  split at hl
  ·exact detE_pure K hl
  ·refine detE_must ?_ K hl
   intro K hl
   split at hl
   ·exact detE_br detE_pure detE_pure K hl
   ·exact hl.elim
  ·exact hl.elim
 ·split at hl
  ·exact detE_pure K hl
  ·exact hl.elim
 ·split at hl
  ·exact detE_must detE_pure K hl
  ·exact detE_must detE_pure K hl
  ·exact hl.elim
 ·exact hl.elim
theorem detE_vsrc {sz:Nat}{x:Value}{G:Nat→List Value→KE→Prop}(hG:∀ m l,DetE (G m l)):DetE (fun K=>vsrc h sz x fun m l=>G m l K):=by
 intro K hl
 unfold vsrc at *
 split at hl
 ·exact hG _ _ K hl
 ·split at hl
  ·exact detE_must (hG _ _) K hl
  ·split at hl
   ·exact hG _ _ K hl
   ·exact hl.elim
  ·split at hl
   ·exact hG _ _ K hl
   ·exact hl.elim
  ·exact hl.elim
 ·exact hl.elim
theorem det_vmakeSlice {t:TypeId}{l c:Value}:DetE (vmakeSlice A T h nx t l c):=by
 intro K hl
 unfold vmakeSlice at *
 split at hl
 case h_2=>exact hl.elim
 split at hl
 case h_2=>exact hl.elim
 exact detE_must detE_pure K hl
theorem det_vappend {st xt:TypeId}{s x:Value}:DetE (vappend A T h nx st xt s x):=by
 intro K hl
 unfold vappend at *
 split at hl
 case h_3=>exact hl.elim
 case h_1 =>
  split at hl
  case h_2=>exact hl.elim
  split at hl
  case h_2=>exact hl.elim
  exact detE_must detE_pure K hl
 split at hl
 ·exact hl.elim
 split at hl
 ·exact hl.elim
 refine detE_vsrc (fun m l=>?_) K hl
 intro K hl
 split at hl
 ·exact detE_br detE_pure (detE_must detE_pure) K hl
 ·split at hl
  ·split at hl
   ·exact detE_br detE_pure (detE_must detE_pure) K hl
   ·exact hl.elim
  ·exact detE_br (detE_must detE_pure) (detE_must detE_pure) K hl
  ·exact hl.elim
 ·exact hl.elim
end Go.Aw
end

noncomputable section
namespace Go.Aw
open Go.RowKit
variable {A:Ar}{T:Tab}{C:VC}{Y:VY}
theorem det_vop (hC:DetC C)(hY:DetC Y){env:List (Nat × Value)}{h:Heap}{nx:Nat}{op:Op}:DetE (vop A T C Y env h nx op):=by
 have hlook:DetE (fun K=>vlook A T env h op (fun v=>K v h nx)):=detE_of det_vlook
 show DetE (fun K=>vop A T C Y env h nx op K)
 cases op
 case store t x y=>exact detE_on fun p=>detE_on fun v=>det_vstore
 case alloc t=>exact det_valloc
 case box t x=>exact detE_on fun v=>det_vbox
 case buildSlice t n ps =>
  simp only [vop]
  intro K hl
  split at hl
  ·exact det_vbuildSlice K hl
  ·exact hl.elim
 case slice t x lo hi mx =>
  simp only [vop]
  refine detE_on fun v=>?_
  intro K hl
  split at hl
  ·exact det_vslice K hl
  ·exact hl.elim
 case makeSlice t l c =>
  simp only [vop]
  exact detE_on fun x=>detE_on fun y=>det_vmakeSlice
 case makeMap t r =>
  cases r with
  |none=>exact detE_pure
  |some r=>exact hlook
 case lookup t m k ok=>exact detE_on fun x=>detE_on fun y=>detE_of det_vlookup
 case mapUpdate t m k u=>exact detE_on fun x=>detE_on fun y=>detE_on fun v=>det_vmapUpdate
 case mapEntry t m k=>exact detE_on fun x=>detE_on fun y=>det_vmapEntry
 case entryStore t m k u=>exact detE_on fun x=>detE_on fun y=>detE_on fun v=>det_ventryStore
 case range t x=>exact detE_on fun v=>det_vmrange
 case entry x=>exact detE_on fun v=>detE_of det_ventry
 case call c =>
  obtain⟨cal,args,ats⟩:=c
  cases cal with
  |invoke r m=>exact detE_false
  |builtin b =>
   cases b
   case append =>
    simp only [vop]
    intro K hl
    split at hl
    ·exact det_vappend K hl
    ·exact hl.elim
   case clear =>
    simp only [vop]
    intro K hl
    split at hl
    ·exact det_vclear K hl
    ·exact hl.elim
   all_goals exact hlook
  |value f =>
   simp only [vop]
   refine detE_on fun fv=>?_
   intro K hl
   split at hl
   ·split at hl
    ·split at hl
     ·exact hC _ _ _ _ K hl
     ·exact hl.elim
    ·split at hl
     ·exact hY _ _ _ _ K hl
     ·exact hl.elim
    ·exact hl.elim
   ·exact hl.elim
 all_goals exact hlook
theorem vguard_cases {ops:List Oper}{env:List (Nat × Value)}{g:Option (Nat × Bool)}:(∃ e,∀ Yk N,vguard A ops env g Yk N=Yk e)∨(∃ e,∀ Yk N,vguard A ops env g Yk N=N e)∨(∀ Yk N,vguard A ops env g Yk N=False):=by
 unfold vguard
 cases g with
 |none=>exact .inl ⟨env,fun _ _=>rfl⟩
 |some gw =>
  obtain⟨j,want⟩:=gw
  simp only
  cases getL ops j with
  |none=>exact .inr (.inr fun _ _=>rfl)
  |some o =>
   simp only
   cases o.dst with
   |none=>exact .inr (.inr fun _ _=>rfl)
   |some t =>
    simp only
    cases look env t with
    |none=>exact .inr (.inr fun _ _=>rfl)
    |some v =>
     cases v with
     |tuple vs=>exact .inr (.inl ⟨env,fun _ _=>rfl⟩)
     |bool b =>
      simp only
      cases A.eqB b want with
      |true=>exact .inl ⟨_,fun _ _=>rfl⟩
      |false=>exact .inr (.inl ⟨_,fun _ _=>rfl⟩)
     |_=>exact .inr (.inr fun _ _=>rfl)
theorem vput_cases {tn:Nat}{env:List (Nat × Value)}{dst:Option Nat}{v:Value}:(∃ e,∀ K,vput tn env dst v K=K e)∨(∀ K,vput tn env dst v K=False):=by
 unfold vput
 cases dst with
 |none=>exact .inl ⟨env,fun _=>rfl⟩
 |some d =>
  simp only
  cases Nat.blt d tn with
  |true=>exact .inl ⟨_,fun _=>rfl⟩
  |false=>exact .inr fun _=>rfl
theorem detS_pure {e:List (Nat × Value)}{h:Heap}{nx:Nat}:DetS (fun K=>K e h nx):=fun K hl=>⟨e,h,nx,hl,fun K' h=>h⟩
theorem detS_false:DetS (fun _=>False):=fun K hl=>hl.elim
theorem detS_guard {ops:List Oper}{env:List (Nat × Value)}{g:Option (Nat × Bool)}{F G:List (Nat × Value)→KS→Prop}(hF:∀ e,DetS (F e))(hG:∀ e,DetS (G e)):DetS (fun K=>vguard A ops env g (fun e=>F e K) (fun e=>G e K)):=by
 rcases vguard_cases (A:=A) (ops:=ops) (env:=env) (g:=g) with ⟨e,h⟩|⟨e,h⟩|h
 ·simp only [h];exact hF e
 ·simp only [h];exact hG e
 ·simp only [h];exact detS_false
theorem detS_put {tn:Nat}{env:List (Nat × Value)}{dst:Option Nat}{v:Value}{F:List (Nat × Value)→KS→Prop}(hF:∀ e,DetS (F e)):DetS (fun K=>vput tn env dst v (fun e=>F e K)):=by
 rcases vput_cases (tn:=tn) (env:=env) (dst:=dst) (v:=v) with ⟨e,h⟩|h
 ·simp only [h];exact hF e
 ·simp only [h];exact detS_false
theorem detS_bind {E:KE→Prop}{F:Value→Heap→Nat→KS→Prop}(hE:DetE E)(hF:∀ v h nx,DetS (F v h nx)):DetS (fun K=>E (fun v h nx=>F v h nx K)):=by
 intro K hl
 obtain⟨v,h,nx,h1,h2⟩:=hE _ hl
 obtain⟨e,h',nx',h3,h4⟩:=hF v h nx K h1
 exact⟨e,h',nx',h3,fun K' hk=>h2 _ (h4 K' hk)⟩
theorem detS_bindS {E:KS→Prop}{F:List (Nat × Value)→Heap→Nat→KS→Prop}(hE:DetS E)(hF:∀ v h nx,DetS (F v h nx)):DetS (fun K=>E (fun v h nx=>F v h nx K)):=by
 intro K hl
 obtain⟨v,h,nx,h1,h2⟩:=hE _ hl
 obtain⟨e,h',nx',h3,h4⟩:=hF v h nx K h1
 exact⟨e,h',nx',h3,fun K' hk=>h2 _ (h4 K' hk)⟩
theorem detS_must {b:Bool}{E:KS→Prop}(h:DetS E):DetS (fun K=>must b (E K)):=by
 intro K hl
 obtain⟨hb,hl⟩:=must_iff.1 hl
 obtain⟨x,y,z,h1,h2⟩:=h K hl
 exact⟨x,y,z,h1,fun K' hk=>must_of hb (h2 K' hk)⟩
theorem det_vops (hC:DetC C)(hY:DetC Y){tn:Nat}{ops:List Oper}:∀ (l:List Oper) (env:List (Nat × Value)) (h:Heap) (nx:Nat),DetS (vops A T C Y tn ops l env h nx)
 |[],env,h,nx=>detS_pure
 |o::r,env,h,nx=>by
  show DetS (fun K=>vops A T C Y tn ops (o::r) env h nx K)
  simp only [vops_cons]
  exact detS_guard (F:=fun e K=>vop A T C Y e h nx o.op fun v h' nx'=>vput tn e o.dst v fun env'=>vops A T C Y tn ops r env' h' nx' K) (G:=fun e K=>vput tn e o.dst undef fun env'=>vops A T C Y tn ops r env' h nx K)
   (fun e=>detS_bind (F:=fun v h' nx' K=>vput tn e o.dst v fun env'=>vops A T C Y tn ops r env' h' nx' K) (det_vop hC hY) fun v h' nx'=>detS_put (F:=fun env' K=>vops A T C Y tn ops r env' h' nx' K) fun e'=>det_vops hC hY r e' h' nx')
   (fun e=>detS_put (F:=fun env' K=>vops A T C Y tn ops r env' h nx K) fun e'=>det_vops hC hY r e' h nx)
def DetV {α:Type}(E:(α→Nat→Prop)→Prop):Prop:=∀ K,E K→∃ v n,K v n∧∀ K':α→Nat→Prop,K' v n→E K'
theorem detV_of {E:(Value→Prop)→Prop}{n:Nat}(hE:Det E):DetV (fun K=>E (fun v=>K v n)):=by
 intro K hl
 obtain⟨v,h1,h2⟩:=hE _ hl
 exact⟨v,n,h1,fun K' hk=>h2 _ hk⟩
theorem detV_on {x:Option Value}{F:Value→(Value→Nat→Prop)→Prop}(hF:∀ v,DetV (F v)):DetV (fun K=>on x (fun v=>F v K)):=by
 cases x with
 |none=>exact fun K hl=>hl.elim
 |some v=>exact hF v
theorem det_vquiet (hC:DetC C){hJ:Heap}{nx:Nat}{env:List (Nat × Value)}{op:Op}:DetV (vquiet A T C hJ nx env op):=by
 have hlook:∀ hh op',DetV (fun K=>vlook A T env hh op' (fun v=>K v nx)):=fun _ _=>detV_of det_vlook
 show DetV (fun K=>vquiet A T C hJ nx env op K)
 cases op
 case load t x=>simp only [vquiet];exact hlook hJ _
 case lookup t m k ok=>exact detV_on fun x=>detV_on fun y=>detV_of det_vlookup
 case slice t x lo hi mx =>
  simp only [vquiet]
  refine detV_on fun v=>?_
  intro K hl
  split at hl
  ·obtain⟨v,h',nx',h1,h2⟩:=det_vslice _ hl
   exact⟨v,nx',h1,fun K' hk=>h2 _ hk⟩
  ·exact hl.elim
 case call c =>
  obtain⟨cal,args,ats⟩:=c
  cases cal with
  |invoke r m=>exact fun K hl=>hl.elim
  |builtin b=>simp only [vquiet];exact hlook [] _
  |value f =>
   simp only [vquiet]
   refine detV_on fun fv=>?_
   intro K hl
   split at hl
   ·split at hl
    ·split at hl
     ·obtain⟨v,h',nx',h1,h2⟩:=hC _ _ _ _ _ hl
      split at h1
      ·rename_i hb
       exact⟨v,nx,h1,fun K' hk=>h2 _ (by rw [hb];exact hk)⟩
      ·exact h1.elim
     ·exact hl.elim
    ·exact hl.elim
   ·exact hl.elim
 all_goals (simp only [vquiet];exact hlook [] _)
theorem det_bind {α β:Type}{E:(α→Prop)→Prop}{F:α→(β→Prop)→Prop}(hE:Det E)(hF:∀ v,Det (F v)):Det (fun K=>E (fun v=>F v K)):=by
 intro K hl
 obtain⟨v,h1,h2⟩:=hE _ hl
 obtain⟨e,h3,h4⟩:=hF v K h1
 exact⟨e,h3,fun K' hk=>h2 _ (h4 K' hk)⟩
theorem detV_false {α:Type}:DetV (fun _:α→Nat→Prop=>False):=fun _ hl=>hl.elim
theorem detV_pure {α:Type}{v:α}{n:Nat}:DetV (fun K:α→Nat→Prop=>K v n):=fun _ hl=>⟨v,n,hl,fun _ h=>h⟩
theorem detV_bind {α β:Type}{E:(α→Nat→Prop)→Prop}{F:α→Nat→(β→Nat→Prop)→Prop}(hE:DetV E)(hF:∀ v n,DetV (F v n)):DetV (fun K=>E (fun v n=>F v n K)):=by
 intro K hl
 obtain⟨v,n,h1,h2⟩:=hE _ hl
 obtain⟨e,m,h3,h4⟩:=hF v n K h1
 exact⟨e,m,h3,fun K' hk=>h2 _ (h4 K' hk)⟩
theorem detV_guard {α:Type}{ops:List Oper}{env:List (Nat × Value)}{g:Option (Nat × Bool)}{F G:List (Nat × Value)→(α→Nat→Prop)→Prop}(hF:∀ e,DetV (F e))(hG:∀ e,DetV (G e)):DetV (fun K=>vguard A ops env g (fun e=>F e K) (fun e=>G e K)):=by
 rcases vguard_cases (A:=A) (ops:=ops) (env:=env) (g:=g) with ⟨e,h⟩|⟨e,h⟩|h
 ·simp only [h];exact hF e
 ·simp only [h];exact hG e
 ·simp only [h];exact detV_false
theorem detV_put {α:Type}{tn:Nat}{env:List (Nat × Value)}{dst:Option Nat}{v:Value}{F:List (Nat × Value)→(α→Nat→Prop)→Prop}(hF:∀ e,DetV (F e)):DetV (fun K=>vput tn env dst v (fun e=>F e K)):=by
 rcases vput_cases (tn:=tn) (env:=env) (dst:=dst) (v:=v) with ⟨e,h⟩|h
 ·simp only [h];exact hF e
 ·simp only [h];exact detV_false
theorem det_vhead (hC:DetC C){tn:Nat}{ops:List Oper}{hJ:Heap}:∀ (l:List Nat) (env:List (Nat × Value)) (nx:Nat),DetV (vhead A T C tn ops hJ l env nx)
 |[],env,nx=>detV_pure
 |i::r,env,nx=>by
  show DetV (fun K=>vhead A T C tn ops hJ (i::r) env nx K)
  simp only [vhead_cons]
  cases getL ops i with
  |none=>exact detV_false
  |some o =>
   exact detV_guard (F:=fun e K=>vquiet A T C hJ nx e o.op fun v nx'=>vput tn e o.dst v fun env=>vhead A T C tn ops hJ r env nx' K) (G:=fun e K=>vput tn e o.dst undef fun env=>vhead A T C tn ops hJ r env nx K)
    (fun e=>detV_bind (F:=fun v n K=>vput tn e o.dst v fun env=>vhead A T C tn ops hJ r env n K) (det_vquiet hC) fun v n=>detV_put (F:=fun env K=>vhead A T C tn ops hJ r env n K) fun e'=>det_vhead hC r e' n)
    (fun e=>detV_put (F:=fun env K=>vhead A T C tn ops hJ r env nx K) fun e'=>det_vhead hC r e' nx)
theorem detS_bind2 {E:(List (Nat × Value)→Nat→Prop)→Prop}{F:List (Nat × Value)→Nat→KS→Prop}(hE:DetV E)(hF:∀ e n,DetS (F e n)):DetS (fun K=>E (fun e n=>F e n K)):=by
 intro K hl
 obtain⟨e0,n0,h1,h2⟩:=hE _ hl
 obtain⟨e,h,nx,h3,h4⟩:=hF e0 n0 K h1
 exact⟨e,h,nx,h3,fun K' hk=>h2 _ (h4 K' hk)⟩
theorem det_vallocs {tn:Nat}{ops:List Oper}:∀ (l:List Nat) (env:List (Nat × Value)) (h:Heap) (nx:Nat),DetS (vallocs T tn ops l env h nx)
 |[],env,h,nx=>detS_pure
 |i::r,env,h,nx=>by
  intro K hl
  simp only [vallocs_cons] at hl ⊢
  split at hl
  ·split at hl
   ·exact detS_put (F:=fun e K=>vallocs T tn ops r e _ _ K) (fun e=>det_vallocs r e _ _) K hl
   ·exact hl.elim
  ·exact hl.elim
theorem det_vtail (hC:DetC C)(hY:DetC Y){tn:Nat}{ops:List Oper}{hJ:Heap}:∀ (l:List (Nat × Bool)) (env:List (Nat × Value)) (h:Heap) (nx:Nat),DetS (vtail A T C Y tn ops hJ l env h nx)
 |[],env,h,nx=>detS_pure
 |(i,chk)::r,env,h,nx=>by
  show DetS (fun K=>vtail A T C Y tn ops hJ ((i,chk)::r) env h nx K)
  simp only [vtail_cons]
  cases getL ops i with
  |none=>exact detS_false
  |some o =>
   exact detS_guard (F:=fun e K=>must (asideOK e hJ chk o.op) (vop A T C Y e h nx o.op fun v h' nx'=>vput tn e o.dst v fun env'=>vtail A T C Y tn ops hJ r env' h' nx' K)) (G:=fun e K=>vput tn e o.dst undef fun env'=>vtail A T C Y tn ops hJ r env' h nx K)
    (fun e=>detS_must (detS_bind (F:=fun v h' nx' K=>vput tn e o.dst v fun env'=>vtail A T C Y tn ops hJ r env' h' nx' K) (det_vop hC hY) fun v h' nx'=>detS_put (F:=fun env' K=>vtail A T C Y tn ops hJ r env' h' nx' K) fun e'=>det_vtail hC hY r e' h' nx'))
    (fun e=>detS_put (F:=fun env' K=>vtail A T C Y tn ops hJ r env' h nx K) fun e'=>det_vtail hC hY r e' h nx)
theorem det_vregion (hC:DetC C)(hY:DetC Y){tn:Nat}{ops:List Oper}{p:Plan}{env:List (Nat × Value)}{h:Heap}{nx:Nat}:DetS (vregion A T C Y tn ops p env h nx):=by
 show DetS (fun K=>vregion A T C Y tn ops p env h nx K)
 unfold vregion
 exact detS_bind2 (F:=fun e n K=>vallocs T tn ops p.allocs e h n fun env2 h2 nx2=>vtail A T C Y tn ops (hjOf T ops env p h) p.tail env2 h2 nx2 K) (det_vhead hC p.head env nx) fun e n =>
  detS_bindS (F:=fun env2 h2 nx2 K=>vtail A T C Y tn ops (hjOf T ops env p h) p.tail env2 h2 nx2 K) (det_vallocs p.allocs e h n) fun e2 h2 nx2=>det_vtail hC hY p.tail e2 h2 nx2
end Go.Aw
end

noncomputable section
namespace Go.Aw
open Go.RowKit
def at0 (ρ:Nat→Nat):Nat→Loc:=fun k=>.lay (ρ k) 0 0
def ren (ρ:Nat→Nat):Value→Value:=tr (at0 ρ)
def ren1 (ρ:Nat→Nat):Value→Value:=trS (at0 ρ)
def nmT (n:Nat):Value→Prop:=scT (at0 id) n
def nmS (n:Nat):Value→Prop:=scS (at0 id) n
def ObjRen (ρ:Nat→Nat)(n:Nat):AObj→AObj→Prop
 |.cells wr0 g0 sz0 cs0,.cells wr g sz cs=>wr0=wr∧g0=g∧sz0=sz∧cs=cs0.map (ren1 ρ)∧∀ v∈cs0,nmS n v
 |.map es0,.map es=>es=es0.map (fun e=>(e.1,ren1 ρ e.2))∧∀ e∈es0,nmS n e.2
 |.zero,.zero=>True
 |.iter m0 s0 t0 q0,.iter m s t q=>m=ρ m0∧s0=s∧t0=t∧q0=q∧m0<n
 |_,_=>False
structure RenOK (b:Nat) (ρ:Nat→Nat) (e0:List (Nat × Value)) (h0:Heap) (n0:Nat) (e:List (Nat × Value)) (h:Heap) (nx:Nat):Prop where
 env:∀ t v,look e0 t=some v→look e t=some (ren ρ v)∧nmT n0 v
 heap:∀ k o,look h0 k=some o→k<n0∧∃ o',look h (ρ k)=some o'∧ObjRen ρ n0 o o'
 inj:∀ k k' o o',look h0 k=some o→look h0 k'=some o'→ρ k=ρ k'→k=k'
 fix:∀ k,k<b→ρ k=k
 le:b≤n0
section
variable {ι:Nat→Loc}{ρ:Nat→Nat}{n m:Nat}
theorem trP_ren (v:Value):trP ι (trP (at0 ρ) v)=trP (fun k=>ι (ρ k)) v:=by
 cases v with
 |pointer a =>
  cases a with
  |none=>rfl
  |some a =>
   simp only [trP,at0,Nat.zero_add]
 |slice a n c =>
  cases a with
  |none=>rfl
  |some a =>
   simp only [trP,at0,Nat.zero_add,Nat.add_zero]
 |map a =>
  cases a with
  |none=>rfl
  |some a=>simp only [trP,at0]
 |_=>rfl
theorem trFn_ren {f:Fn}(h:scFn ι n (trFn (at0 ρ) f)):trFn ι (trFn (at0 ρ) f)=trFn (fun k=>ι (ρ k)) f:=by
 cases f with
 |yield l =>
  have h:=h.2
  simp only [trFn,at0]
  cases hl:ι (ρ l) with
  |nil p=>rw [hl] at h;cases h
  |lay b o e=>rfl
 |_=>rfl
theorem trS_ren {v:Value}(h:scS ι n (trS (at0 ρ) v)):trS ι (trS (at0 ρ) v)=trS (fun k=>ι (ρ k)) v:=by
 cases v with
 |func f a c =>
  have h1:=trFn_ren (ι:=ι) (n:=n) (f:=f) h.1
  simp only [trS,h1,Array.map_map]
  congr 2
  funext x
  exact trP_ren x
 |pointer a=>have:=trP_ren (ι:=ι) (ρ:=ρ) (.pointer a);cases a <;> exact this
 |slice a n c=>have:=trP_ren (ι:=ι) (ρ:=ρ) (.slice a n c);cases a <;> exact this
 |map a=>have:=trP_ren (ι:=ι) (ρ:=ρ) (.map a);cases a <;> exact this
 |_=>rfl
theorem trA_ren {v:Value}(h:scA ι n (trA (at0 ρ) v)):trA ι (trA (at0 ρ) v)=trA (fun k=>ι (ρ k)) v:=by
 cases v with
 |agg cs =>
  simp only [trA,Array.map_map]
  congr 1
  apply Array.map_congr_left
  intro x hx
  exact trS_ren (n:=n) (h (trS (at0 ρ) x) (by simp only [Array.toList_map,List.mem_map];exact⟨x,by simpa using hx,rfl⟩))
 |pointer a=>have:=trS_ren (ι:=ι) (ρ:=ρ) (n:=n) (v:=.pointer a);cases a <;> exact this h
 |slice a l c=>have:=trS_ren (ι:=ι) (ρ:=ρ) (n:=n) (v:=.slice a l c);cases a <;> exact this h
 |map a=>have:=trS_ren (ι:=ι) (ρ:=ρ) (n:=n) (v:=.map a);cases a <;> exact this h
 |func f a c=>exact trS_ren (ι:=ι) (ρ:=ρ) (n:=n) (v:=.func f a c) h
 |_=>rfl
theorem tr_ren {v:Value}(h:scT ι n (ren ρ v)):tr ι (ren ρ v)=tr (fun k=>ι (ρ k)) v:=by
 unfold ren at h ⊢
 cases v with
 |tuple cs =>
  simp only [tr,Array.map_map]
  congr 1
  apply Array.map_congr_left
  intro x hx
  exact trA_ren (n:=n) (h (trA (at0 ρ) x) (by simp only [Array.toList_map,List.mem_map];exact⟨x,by simpa using hx,rfl⟩))
 |pointer a=>have:=trA_ren (ι:=ι) (ρ:=ρ) (n:=n) (v:=.pointer a);cases a <;> exact this h
 |slice a l c=>have:=trA_ren (ι:=ι) (ρ:=ρ) (n:=n) (v:=.slice a l c);cases a <;> exact this h
 |map a=>have:=trA_ren (ι:=ι) (ρ:=ρ) (n:=n) (v:=.map a);cases a <;> exact this h
 |func f a c=>exact trA_ren (ι:=ι) (ρ:=ρ) (n:=n) (v:=.func f a c) h
 |agg c=>exact trA_ren (ι:=ι) (ρ:=ρ) (n:=n) (v:=.agg c) h
 |_=>rfl
theorem scP_ren {v:Value}(h:scP ι n (trP (at0 ρ) v))(hm:scP (at0 id) m v):scP (fun k=>ι (ρ k)) m v:=by
 cases v with
 |pointer a =>
  cases a with
  |none=>trivial
  |some a=>exact⟨hm.1,h.2⟩
 |slice a l c =>
  cases a with
  |none=>trivial
  |some a=>exact⟨hm.1,fun hf=>h.2 hf⟩
 |map a =>
  cases a with
  |none=>trivial
  |some a=>exact⟨hm.1,h.2⟩
 |agg c=>exact hm.elim
 |tuple c=>exact hm.elim
 |_=>trivial
theorem scS_ren {v:Value}(h:scS ι n (trS (at0 ρ) v))(hm:scS (at0 id) m v):scS (fun k=>ι (ρ k)) m v:=by
 cases v with
 |func f a c =>
  refine⟨?_,fun x hx=>?_⟩
  ·have h1:=h.1
   have h2:=hm.1
   cases f with
   |yield l=>exact⟨h2.1,h1.2⟩
   |_=>trivial
  ·refine scP_ren (n:=n) (h.2 _ ?_) (hm.2 x hx)
   simp only [Array.toList_map,List.mem_map]
   exact⟨x,hx,rfl⟩
 |pointer a=>have:=scP_ren (ι:=ι) (ρ:=ρ) (n:=n) (m:=m) (v:=.pointer a);cases a <;> exact this h hm
 |slice a l c=>have:=scP_ren (ι:=ι) (ρ:=ρ) (n:=n) (m:=m) (v:=.slice a l c);cases a <;> exact this h hm
 |map a=>have:=scP_ren (ι:=ι) (ρ:=ρ) (n:=n) (m:=m) (v:=.map a);cases a <;> exact this h hm
 |agg c=>exact hm.elim
 |tuple c=>exact hm.elim
 |_=>trivial
theorem scA_ren {v:Value}(h:scA ι n (trA (at0 ρ) v))(hm:scA (at0 id) m v):scA (fun k=>ι (ρ k)) m v:=by
 cases v with
 |agg cs =>
  intro x hx
  refine scS_ren (n:=n) (h _ ?_) (hm x hx)
  simp only [Array.toList_map,List.mem_map]
  exact⟨x,hx,rfl⟩
 |pointer a=>have:=scS_ren (ι:=ι) (ρ:=ρ) (n:=n) (m:=m) (v:=.pointer a);cases a <;> exact this h hm
 |slice a l c=>have:=scS_ren (ι:=ι) (ρ:=ρ) (n:=n) (m:=m) (v:=.slice a l c);cases a <;> exact this h hm
 |map a=>have:=scS_ren (ι:=ι) (ρ:=ρ) (n:=n) (m:=m) (v:=.map a);cases a <;> exact this h hm
 |func f a c=>exact scS_ren (ι:=ι) (ρ:=ρ) (n:=n) (m:=m) (v:=.func f a c) h hm
 |tuple c=>exact hm.elim
 |_=>trivial
theorem scT_ren {v:Value}(h:scT ι n (ren ρ v))(hm:nmT m v):scT (fun k=>ι (ρ k)) m v:=by
 unfold ren at h
 unfold nmT at hm
 cases v with
 |tuple cs =>
  intro x hx
  refine scA_ren (n:=n) (h _ ?_) (hm x hx)
  simp only [Array.toList_map,List.mem_map]
  exact⟨x,hx,rfl⟩
 |pointer a=>have:=scA_ren (ι:=ι) (ρ:=ρ) (n:=n) (m:=m) (v:=.pointer a);cases a <;> exact this h hm
 |slice a l c=>have:=scA_ren (ι:=ι) (ρ:=ρ) (n:=n) (m:=m) (v:=.slice a l c);cases a <;> exact this h hm
 |map a=>have:=scA_ren (ι:=ι) (ρ:=ρ) (n:=n) (m:=m) (v:=.map a);cases a <;> exact this h hm
 |func f a c=>exact scA_ren (ι:=ι) (ρ:=ρ) (n:=n) (m:=m) (v:=.func f a c) h hm
 |agg c=>exact scA_ren (ι:=ι) (ρ:=ρ) (n:=n) (m:=m) (v:=.agg c) h hm
 |_=>trivial
theorem gS_ren {v:Value}(h:gS (trS (at0 ρ) v)=true):gS v=true:=by
 cases v with
 |pointer a=>cases a with
  |none=>rfl
  |some a=>simp [trS,trP,at0,gS] at h
 |slice a n c=>cases a with
  |none=>rfl
  |some a=>simp [trS,trP,at0,gS] at h
 |map a=>cases a with
  |none=>rfl
  |some a=>simp [trS,trP,at0,gS] at h
 |func f a c =>
  cases f with
  |func f=>simpa [trS,trFn,gS] using h
  |yield l=>simp [trS,trFn,at0,gS] at h
  |_=>simp [trS,trFn,gS] at h
 |_=>exact h
theorem allG_ren {l:List Value}(h:allG (l.map (ren1 ρ))=true):allG l=true :=
 allG_of fun v hv=>gS_ren (allG_mem h (List.mem_map_of_mem hv))
theorem ORel_ren {B:Nat}{w:World}{o0 o:AObj}{l:Loc}(h:ORel ι B w o l)(hs:OSc ι n o)(hr:ObjRen ρ m o0 o):ORel (fun k=>ι (ρ k)) B w o0 l:=by
 cases o0 with
 |cells wr0 g0 sz0 cs0 =>
  cases o with
  |cells wr g sz cs =>
   obtain⟨rfl,rfl,rfl,rfl,hn⟩:=hr
   cases l with
   |nil p =>
    have h1:cs0.map (ren1 ρ)=[]∧(sz0=0∨wr0=true→p.isSome=true):=by cases wr0 <;> exact h
    have h2:cs0=[]:=by simpa using h1.1
    cases wr0 <;> exact⟨h2,h1.2⟩
   |lay b off e =>
    cases wr0 with
    |true =>
     obtain⟨h1,h2,arr,t,h3,h4,h5⟩:=h
     refine⟨h1,fun hg=>allG_ren (h2 hg),arr,t,h3,by simpa using h4,fun i v hv=>?_⟩
     rw [← trS_ren (n:=n) (hs _ (List.mem_map_of_mem (List.mem_of_getElem? hv)))]
     exact h5 i _ (by rw [List.getElem?_map,hv];rfl)
    |false =>
     obtain⟨h1,h2,h5⟩:=h
     refine⟨h1,fun hg=>allG_ren (h2 hg),fun i v hv=>?_⟩
     rw [← trS_ren (n:=n) (hs _ (List.mem_map_of_mem (List.mem_of_getElem? hv)))]
     exact h5 i _ (by rw [List.getElem?_map,hv];rfl)
  |_=>exact hr.elim
 |map es0 =>
  cases o with
  |map es =>
   obtain⟨rfl,hn⟩:=hr
   cases l with
   |nil p=>exact h.elim
   |lay b off e =>
    obtain⟨h1,ents,clock,h2,h3,h4,h5⟩:=h
    refine⟨h1,ents,clock,h2,h3.trans ?_,fun x hx=>h4 (x.1,ren1 ρ x.2) (List.mem_map_of_mem hx),h5⟩
    rw [List.map_map]
    apply List.map_congr_left
    intro x hx
    simp only [Function.comp_apply,ren1]
    rw [trS_ren (n:=n) (hs (x.1,ren1 ρ x.2) (List.mem_map_of_mem hx))]
  |_=>exact hr.elim
 |zero =>
  cases o with
  |zero=>cases l <;> exact h
  |_=>exact hr.elim
 |iter m0 s0 t0 q0 =>
  cases o with
  |iter m s t q =>
   obtain⟨rfl,rfl,rfl,rfl,_⟩:=hr
   cases l with
   |nil p=>exact h.elim
   |lay b off e=>exact h
  |_=>exact hr.elim
 |_=>exact hr.elim
theorem OSc_ren {o0 o:AObj}(h:OSc ι n o)(hr:ObjRen ρ m o0 o):OSc (fun k=>ι (ρ k)) m o0:=by
 cases o0 with
 |cells wr0 g0 sz0 cs0 =>
  cases o with
  |cells wr g sz cs =>
   obtain⟨rfl,rfl,rfl,rfl,hn⟩:=hr
   exact fun v hv=>scS_ren (n:=n) (h _ (List.mem_map_of_mem hv)) (hn v hv)
  |_=>exact hr.elim
 |map es0 =>
  cases o with
  |map es =>
   obtain⟨rfl,hn⟩:=hr
   exact fun x hx=>scS_ren (n:=n) (h (x.1,ren1 ρ x.2) (List.mem_map_of_mem hx)) (hn x hx)
  |_=>exact hr.elim
 |zero=>trivial
 |iter m0 s0 t0 q0 =>
  cases o with
  |iter m s t q=>exact hr.2.2.2.2
  |_=>exact hr.elim
 |_=>exact hr.elim
theorem ObjRen.alone {o0 o:AObj}(hr:ObjRen ρ m o0 o)(h:o0.alone=true):o.alone=true:=by
 cases o0 <;> cases o <;> first|exact hr.elim|(obtain⟨rfl,_⟩:=hr;exact h)|exact h
variable {b:Nat}{e0 e:List (Nat × Value)}{h0 h:Heap}{n0 nx:Nat}
theorem RenOK.relH (r:RenOK b ρ e0 h0 n0 e h nx){B:Nat}{w:World}(H:RelH ι B h nx w):RelH (fun k=>ι (ρ k)) B h0 n0 w:=by
 refine⟨fun k o hk=>?_,fun k k' o o' h1 h2 hne ha q hq=>?_,fun k o hk=>(r.heap k o hk).1,H.size,fun k o hk=>?_⟩
 ·obtain⟨_,o',h1,h2⟩:=r.heap k o hk
  exact ORel_ren (H.obj _ _ h1) (H.sc _ _ h1) h2
 ·obtain⟨_,p,k1,k2⟩:=r.heap k o h1
  obtain⟨_,p',k3,k4⟩:=r.heap k' o' h2
  exact H.sep _ _ p p' k1 k3 (fun e=>hne (r.inj k k' o o' h1 h2 e)) (k2.alone ha) q hq
 ·obtain⟨_,o',h1,h2⟩:=r.heap k o hk
  exact OSc_ren (H.sc _ _ h1) h2
theorem RenOK.envOK (r:RenOK b ρ e0 h0 n0 e h nx){a:Act}(H:EnvOK ι nx e a):EnvOK (fun k=>ι (ρ k)) n0 e0 a:=by
 intro t v hv
 obtain⟨h1,h2⟩:=r.env t v hv
 obtain⟨h3,h4⟩:=H t _ h1
 exact⟨by rw [← tr_ren h4];exact h3,scT_ren h4 h2⟩
end
end Go.Aw
end
