/-
  Parts of the proof, put together. No condition.
-/
import Derived.Test.YtjahkcbdecgbhaaGreatQAk
set_option linter.unusedSimpArgs false
set_option linter.unusedVariables false
noncomputable section
namespace Go.Aw
open Go.RowKit
def S1:Value→Value→Bool
 |.int k a,.int k' b=>kEq k k'&&decide (a=b)
 |.bool a,.bool b=>a == b
 |.pointer none,.pointer none=>true
 |.slice none n c,.slice none m d=>Nat.beq n m&&Nat.beq c d
 |.map none,.map none=>true
 |.nilFunc,.nilFunc=>true
 |.nilIface,.nilIface=>true
 |.string a,.string b=>(match a.data.toList,b.data.toList with|[],[]=>true|_,_=>false)
 |_,_=>false
def CW:List Value→List Value→Bool
 |[],[]=>true
 |x::r,y::s=>S1 x y&&CW r s
 |_,_=>false
def ZR:Value→Value→Bool
 |.agg xs,.agg ys=>CW xs.toList ys.toList
 |x,y=>S1 x y
theorem MO {x y:Value}(h:S1 x y=true):x=y:=by
 unfold S1 at h;split at h
 ·simp only [Bool.and_eq_true,decide_eq_true_eq] at h;rw [pO h.1,h.2]
 ·simpa using h
 ·rfl
 ·simp only [Bool.and_eq_true] at h;rw [beq_true h.1,beq_true h.2]
 ·rfl
 ·rfl
 ·rfl
 ·rename_i a b;split at h
  ·rename_i h1 h2;obtain⟨⟨a⟩⟩:=a;obtain⟨⟨b⟩⟩:=b;simp at h1 h2;rw [h1,h2]
  ·cases h
 ·cases h
theorem E4:∀ {x y:List Value},CW x y=true→x=y
 |[],[],_=>rfl
 |[],_::_,h=>by cases h
 |_::_,[],h=>by cases h
 |x::r,y::s,h=>by
  simp only [CW,Bool.and_eq_true] at h;rw [MO h.1,E4 h.2]
theorem Y1 {x y:Value}(h:ZR x y=true):x=y:=by
 unfold ZR at h;split at h
 ·congr 1;apply Array.ext';exact E4 h
 ·exact MO h
def tyB (P:Program)(t:TypeId)(i:PB):Bool :=
 (match P.info? t with|some x=>Nat.beq x.size i.size&&Nat.beq x.bytes i.bytes&&(match x.zero with|some z=>ZR z i.zv|none=>false)|none=>false) &&
 (match P.underlying t with|some d=>KOK d i.kind|none=>false) &&
 Nat.beq i.zv.cells.size i.size&&gA i.zv&&!P.stoodInHeld t&&!P.eqGuardType P.depth t&&Nat.blt 0 i.size
def aCC (P:Program):cM→Bool
 |[]=>true
 |(t,i)::r=>tyB P t i&&aCC P r
theorem aFI {P:Program}{t:TypeId}{i:PB}(h:tyB P t i=true):mJ P t i:=by
 unfold tyB at h;simp only [Bool.and_eq_true,Bool.not_eq_true'] at h;obtain⟨⟨⟨⟨⟨⟨h1,h2⟩,h3⟩,h4⟩,h5⟩,h6⟩,h7⟩:=h;split at h1
 case h_2=>cases h1
 rename_i x hx;simp only [Bool.and_eq_true] at h1;obtain⟨⟨h8,h9⟩,h10⟩:=h1;split at h10
 case h_2=>cases h10
 rename_i z hz;split at h2
 case h_2=>cases h2
 rename_i d hd;exact⟨⟨x,hx,beq_true h8,beq_true h9,by rw [hz,Y1 h10]⟩,⟨d,hd,h2⟩,beq_true h3,h4,h5,h6,pM h7⟩
theorem LX {P:Program}:∀ {T:cM},aCC P T=true→cH P T
 |[],_,t,i,h=>by cases h
 |(u,j)::r,hb,t,i,h=>by
  simp only [aCC,Bool.and_eq_true] at hb;simp only [aE] at h;split at h
  ·rename_i hu;have:=beq_true hu;subst this;injection h with h;subst h;exact aFI hb.1
  ·exact LX hb.2 t i h
end Go.Aw
end
