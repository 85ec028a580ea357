/-
  Parts of a proof. No condition.
-/
import Derived.Test.YtoekkmbbbllogaaGreatQAm
set_option linter.unusedSimpArgs false
set_option linter.unusedVariables false
noncomputable section
namespace Go.Aw
open Go.RowKit
def sameI:Int→Int→Bool
 |.ofNat a,.ofNat b=>Nat.beq a b
 |.negSucc a,.negSucc b=>Nat.beq a b
 |_,_=>false
theorem sameI_eq {a b:Int}(h:sameI a b=true):a=b:=by
 cases a <;> cases b <;> simp only [sameI] at h <;> first|cases h;done|rw [beq_true h]
def sameB:Bool→Bool→Bool
 |true,true=>true
 |false,false=>true
 |_,_=>false
theorem sameB_eq {a b:Bool}(h:sameB a b=true):a=b:=by cases a <;> cases b <;> first|rfl|cases h
def sameP:Value→Value→Bool
 |.bool a,.bool b=>sameB a b
 |.int k a,.int j b=>kEq k j&&sameI a b
 |.slice none n c,.slice none n' c'=>Nat.beq n n'&&Nat.beq c c'
 |.slice (some ⟨a,o,none⟩) n c,.slice (some ⟨a',o',none⟩) n' c'=>Nat.beq a a'&&Nat.beq o o'&&Nat.beq n n'&&Nat.beq c c'
 |.pointer none,.pointer none=>true
 |.pointer (some ⟨a,o,none⟩),.pointer (some ⟨a',o',none⟩)=>Nat.beq a a'&&Nat.beq o o'
 |.map none,.map none=>true
 |.map (some a),.map (some a')=>Nat.beq a a'
 |.nilFunc,.nilFunc=>true
 |.nilIface,.nilIface=>true
 |_,_=>false
theorem sameP_eq {v u:Value}(h:sameP v u=true):v=u:=by
 unfold sameP at h
 split at h
 ·rw [sameB_eq h]
 ·simp only [Bool.and_eq_true] at h
  rw [kEq_true h.1,sameI_eq h.2]
 ·simp only [Bool.and_eq_true] at h
  rw [beq_true h.1,beq_true h.2]
 ·simp only [Bool.and_eq_true] at h
  obtain⟨⟨⟨h1,h2⟩,h3⟩,h4⟩:=h
  rw [beq_true h1,beq_true h2,beq_true h3,beq_true h4]
 ·rfl
 ·simp only [Bool.and_eq_true] at h
  rw [beq_true h.1,beq_true h.2]
 ·rfl
 ·rw [beq_true h]
 ·rfl
 ·rfl
 ·cases h
def samePL:List Value→List Value→Bool
 |[],[]=>true
 |a::r,b::s=>sameP a b&&samePL r s
 |_,_=>false
theorem samePL_eq:∀ {l m:List Value},samePL l m=true→l=m
 |[],[],_=>rfl
 |[],_::_,h=>by cases h
 |_::_,[],h=>by cases h
 |a::r,b::s,h=>by
  simp only [samePL,Bool.and_eq_true] at h
  rw [sameP_eq h.1,samePL_eq h.2]
def sameFn:Fn→Fn→Bool
 |.func a,.func b=>Nat.beq a b
 |.yield a,.yield b=>Nat.beq a b
 |_,_=>false
theorem sameFn_eq {f g:Fn}(h:sameFn f g=true):f=g:=by
 unfold sameFn at h
 split at h
 ·rw [beq_true h]
 ·rw [beq_true h]
 ·cases h
def sameS:Value→Value→Bool
 |.func f a c,.func f' a' c'=>sameFn f f'&&samePL a.toList a'.toList&&samePL c.toList c'.toList
 |a,b=>sameP a b
theorem sameS_eq {v u:Value}(h:sameS v u=true):v=u:=by
 unfold sameS at h
 split at h
 ·simp only [Bool.and_eq_true] at h
  obtain⟨⟨h1,h2⟩,h3⟩:=h
  rw [sameFn_eq h1,show _=_ from Array.ext' (samePL_eq h2),show _=_ from Array.ext' (samePL_eq h3)]
 ·exact sameP_eq h
def sameL:List Value→List Value→Bool
 |[],[]=>true
 |a::r,b::s=>sameS a b&&sameL r s
 |_,_=>false
theorem sameL_eq:∀ {l m:List Value},sameL l m=true→l=m
 |[],[],_=>rfl
 |[],_::_,h=>by cases h
 |_::_,[],h=>by cases h
 |a::r,b::s,h=>by
  simp only [sameL,Bool.and_eq_true] at h
  rw [sameS_eq h.1,sameL_eq h.2]
def sameA:Value→Value→Bool
 |.agg a,.agg b=>sameL a.toList b.toList
 |a,b=>sameS a b
theorem sameA_eq {v u:Value}(h:sameA v u=true):v=u:=by
 unfold sameA at h
 split at h
 ·rw [show _=_ from Array.ext' (sameL_eq h)]
 ·exact sameS_eq h
def sameAL:List Value→List Value→Bool
 |[],[]=>true
 |a::r,b::s=>sameA a b&&sameAL r s
 |_,_=>false
theorem sameAL_eq:∀ {l m:List Value},sameAL l m=true→l=m
 |[],[],_=>rfl
 |[],_::_,h=>by cases h
 |_::_,[],h=>by cases h
 |a::r,b::s,h=>by
  simp only [sameAL,Bool.and_eq_true] at h
  rw [sameA_eq h.1,sameAL_eq h.2]
def sameT:Value→Value→Bool
 |.tuple a,.tuple b=>sameAL a.toList b.toList
 |a,b=>sameA a b
theorem sameT_eq {v u:Value}(h:sameT v u=true):v=u:=by
 unfold sameT at h
 split at h
 ·rw [show _=_ from Array.ext' (sameAL_eq h)]
 ·exact sameA_eq h
def nmPB (n:Nat):Value→Bool
 |.slice (some a) _ _=>Nat.blt a.block n
 |.pointer (some a)=>Nat.blt a.block n
 |.map (some k)=>Nat.blt k n
 |v=>gS v
theorem nmPB_ok {n:Nat}{v:Value}(h:nmPB n v=true):scP (at0 id) n v:=by
 unfold nmPB at h
 split at h
 ·exact⟨Nat.le_of_ble_eq_true h,fun e=>by cases e⟩
 ·exact⟨Nat.le_of_ble_eq_true h,rfl⟩
 ·exact⟨Nat.le_of_ble_eq_true h,rfl⟩
 ·cases v <;> simp [gS] at h <;> first|trivial|(rename_i a;cases a <;> simp [gS] at h <;> trivial)|(simp [scP];done)|skip
  all_goals (first|(rename_i a _ _;cases a <;> simp [gS] at h <;> simp [scP])|skip)
def nmPL (n:Nat):List Value→Bool
 |[]=>true
 |v::r=>nmPB n v&&nmPL n r
theorem nmPL_ok {n:Nat}:∀ {l:List Value},nmPL n l=true→∀ v∈l,scP (at0 id) n v
 |[],_,v,hv=>by cases hv
 |x::r,h,v,hv=>by
  simp only [nmPL,Bool.and_eq_true] at h
  cases hv with
  |head=>exact nmPB_ok h.1
  |tail _ hm=>exact nmPL_ok h.2 v hm
def nmFn (n:Nat):Fn→Bool
 |.func _=>true
 |.yield l=>Nat.blt l n
 |_=>false
theorem nmFn_ok {n:Nat}{f:Fn}(h:nmFn n f=true):scFn (at0 id) n f:=by
 unfold nmFn at h
 split at h
 ·trivial
 ·exact⟨Nat.le_of_ble_eq_true h,rfl⟩
 ·cases h
def nmSB (n:Nat):Value→Bool
 |.func f _ c=>nmFn n f&&nmPL n c.toList
 |v=>nmPB n v
theorem nmSB_ok {n:Nat}{v:Value}(h:nmSB n v=true):nmS n v:=by
 unfold nmSB at h
 split at h
 ·simp only [Bool.and_eq_true] at h
  exact⟨nmFn_ok h.1,nmPL_ok h.2⟩
 ·rename_i hf
  have h2:=nmPB_ok h
  cases v <;> first|exact h2|exact absurd rfl (hf _ _ _)
def nmLB (n:Nat):List Value→Bool
 |[]=>true
 |v::r=>nmSB n v&&nmLB n r
theorem nmLB_ok {n:Nat}:∀ {l:List Value},nmLB n l=true→∀ v∈l,nmS n v
 |[],_,v,hv=>by cases hv
 |x::r,h,v,hv=>by
  simp only [nmLB,Bool.and_eq_true] at h
  cases hv with
  |head=>exact nmSB_ok h.1
  |tail _ hm=>exact nmLB_ok h.2 v hm
def nmAB (n:Nat):Value→Bool
 |.agg c=>nmLB n c.toList
 |v=>nmSB n v
theorem nmAB_ok {n:Nat}{v:Value}(h:nmAB n v=true):scA (at0 id) n v:=by
 unfold nmAB at h
 split at h
 ·exact fun x hx=>nmLB_ok h x hx
 ·exact scA_of_S (nmSB_ok h)
def nmALB (n:Nat):List Value→Bool
 |[]=>true
 |v::r=>nmAB n v&&nmALB n r
theorem nmALB_ok {n:Nat}:∀ {l:List Value},nmALB n l=true→∀ v∈l,scA (at0 id) n v
 |[],_,v,hv=>by cases hv
 |x::r,h,v,hv=>by
  simp only [nmALB,Bool.and_eq_true] at h
  cases hv with
  |head=>exact nmAB_ok h.1
  |tail _ hm=>exact nmALB_ok h.2 v hm
def nmTB (n:Nat):Value→Bool
 |.tuple c=>nmALB n c.toList
 |v=>nmAB n v
theorem nmTB_ok {n:Nat}{v:Value}(h:nmTB n v=true):nmT n v:=by
 unfold nmTB at h
 split at h
 ·exact fun x hx=>nmALB_ok h x hx
 ·exact scT_of_A (nmAB_ok h)
def nm (ρ:List (Nat × Nat))(k:Nat):Nat:=match look ρ k with|some j=>j|none=>k
def sameE (σ:Nat→Nat)(m:Nat):List (Value × Value)→List (Value × Value)→Bool
 |[],[]=>true
 |a::r,b::s=>sameA b.1 a.1&&sameS b.2 (ren1 σ a.2)&&nmSB m a.2&&sameE σ m r s
 |_,_=>false
theorem sameE_ok {σ:Nat→Nat}{m:Nat}:∀ {l l':List (Value × Value)},sameE σ m l l'=true→l'=l.map (fun e=>(e.1,ren1 σ e.2))∧∀ e∈l,nmS m e.2
 |[],[],_=>⟨rfl,fun e he=>by cases he⟩
 |[],_::_,h=>by cases h
 |_::_,[],h=>by cases h
 |a::r,b::s,h=>by
  simp only [sameE,Bool.and_eq_true] at h
  obtain⟨⟨⟨h1,h2⟩,h3⟩,h4⟩:=h
  obtain⟨i1,i2⟩:=sameE_ok h4
  refine⟨?_,fun e he=>?_⟩
  ·rw [List.map_cons,← i1,← sameA_eq h1,← sameS_eq h2]
  ·cases he with
   |head=>exact nmSB_ok h3
   |tail _ hm=>exact i2 e hm
def sameO (σ:Nat→Nat)(m:Nat):AObj→AObj→Bool
 |.cells wr g sz cs,.cells wr' g' sz' cs'=>nmLB m cs&&sameB wr wr'&&sameB g g'&&Nat.beq sz sz'&&sameL cs' (cs.map (ren1 σ))
 |.map es,.map es'=>sameE σ m es es'
 |.zero,.zero=>true
 |_,_=>false
theorem sameO_ok {σ:Nat→Nat}{m:Nat}{o o':AObj}(h:sameO σ m o o'=true):ObjRen σ m o o':=by
 unfold sameO at h
 split at h
 ·simp only [Bool.and_eq_true] at h
  obtain⟨⟨⟨⟨h1,h2⟩,h3⟩,h4⟩,h5⟩:=h
  exact⟨sameB_eq h2,sameB_eq h3,beq_true h4,sameL_eq h5,nmLB_ok h1⟩
 ·exact sameE_ok h
 ·trivial
 ·cases h
def heapB (b:Nat)(ρ:List (Nat × Nat))(m:Nat)(h':Heap):Heap→Bool
 |[]=>true
 |(k,o)::r=>Nat.blt k m&&(match Nat.blt k b with|true=>true|false=>(match look ρ k with|some _=>true|none=>false))&&(match look h' (nm ρ k) with|some o'=>sameO (nm ρ) m o o'|none=>false)&&heapB b ρ m h' r
theorem heapB_ok {b:Nat}{ρ:List (Nat × Nat)}{m:Nat}{h':Heap}:∀ {h:Heap},heapB b ρ m h' h=true→∀ k o,look h k=some o→k<m∧(b≤k→∃ j,look ρ k=some j)∧∃ o',look h' (nm ρ k)=some o'∧ObjRen (nm ρ) m o o'
 |[],_,k,o,hk=>by cases hk
 |(j,q)::r,h,k,o,hk=>by
  simp only [heapB,Bool.and_eq_true] at h
  obtain⟨⟨⟨h1,h2⟩,h3⟩,h4⟩:=h
  rw [look_cons] at hk
  split at hk
  ·rename_i hb
   have:=beq_true hb
   subst this
   injection hk with hk
   subst hk
   refine⟨Nat.le_of_ble_eq_true h1,fun hb=>?_,?_⟩
   ·split at h2
    ·rename_i hlt
     have:=Nat.le_of_ble_eq_true hlt
     omega
    ·split at h2
     ·rename_i x hx;exact⟨x,hx⟩
     ·cases h2
   ·split at h3
    ·rename_i o' ho'
     exact⟨o',ho',sameO_ok h3⟩
    ·cases h3
  ·exact heapB_ok h4 k o hk
theorem noLook0 {α:Type}{k:Nat}{o:α}{p:Prop}(h:look [] k=some o):p:=by cases h
def rhoB (b:Nat):List (Nat × Nat)→Bool
 |[]=>true
 |(k,j)::r=>Nat.ble b k&&Nat.ble b j&&!(memB j (r.map (·.2)))&&rhoB b r
theorem rhoB_ok {b:Nat}:∀ {ρ:List (Nat × Nat)},rhoB b ρ=true→(∀ k j,look ρ k=some j→b≤k∧b≤j∧j∈ρ.map (·.2))∧∀ k k' j,look ρ k=some j→look ρ k'=some j→k=k'
 |[],_=>⟨fun k j h=>noLook0 h,fun k k' j h=>noLook0 h⟩
 |(a,c)::r,h=>by
  simp only [rhoB,Bool.and_eq_true,Bool.not_eq_true'] at h
  obtain⟨⟨⟨h1,h2⟩,h3⟩,h4⟩:=h
  obtain⟨i1,i2⟩:=rhoB_ok h4
  have h1:=Nat.le_of_ble_eq_true h1
  have h2:=Nat.le_of_ble_eq_true h2
  have hn:c∉r.map (·.2):=fun hm=>by rw [memB_iff.2 hm] at h3;cases h3
  refine⟨fun k j hl=>?_,fun k k' j hl hl'=>?_⟩
  ·rw [look_cons] at hl
   split at hl
   ·rename_i hb
    injection hl with hl
    subst hl
    rw [← beq_true hb]
    exact⟨h1,h2,.head _⟩
   ·obtain⟨q1,q2,q3⟩:=i1 k j hl
    exact⟨q1,q2,.tail _ q3⟩
  ·rw [look_cons] at hl hl'
   split at hl <;> split at hl'
   ·rename_i hb _ hb'
    exact (beq_true hb).symm.trans (beq_true hb')
   ·injection hl with hl
    subst hl
    exact absurd (i1 k' _ hl').2.2 hn
   ·injection hl' with hl'
    subst hl'
    exact absurd (i1 k _ hl).2.2 hn
   ·exact i2 k k' j hl hl'
def envB (ρ:List (Nat × Nat))(m:Nat)(e':List (Nat × Value)):List (Nat × Value)→Bool
 |[]=>true
 |(t,v)::r=>(match look e' t with|some v'=>sameT v' (ren (nm ρ) v)|none=>false)&&nmTB m v&&envB ρ m e' r
theorem envB_ok {ρ:List (Nat × Nat)}{m:Nat}{e':List (Nat × Value)}:∀ {e:List (Nat × Value)},envB ρ m e' e=true→∀ t v,look e t=some v→look e' t=some (ren (nm ρ) v)∧nmT m v
 |[],_,t,v,h=>by cases h
 |(j,q)::r,h,t,v,hl=>by
  simp only [envB,Bool.and_eq_true] at h
  obtain⟨⟨h1,h2⟩,h3⟩:=h
  rw [look_cons] at hl
  split at hl
  ·rename_i hb
   have:=beq_true hb
   subst this
   injection hl with hl
   subst hl
   refine⟨?_,nmTB_ok h2⟩
   split at h1
   ·rename_i v' hv'
    rw [hv',sameT_eq h1]
   ·cases h1
  ·exact envB_ok h3 t v hl
def renB (b:Nat)(ρ:List (Nat × Nat))(e0:List (Nat × Value))(h0:Heap)(n0:Nat)(e:List (Nat × Value))(h:Heap):Bool :=
 Nat.ble b n0&&rhoB b ρ&&envB ρ n0 e e0&&heapB b ρ n0 h h0
theorem renB_ok {b:Nat}{ρ:List (Nat × Nat)}{e0:List (Nat × Value)}{h0:Heap}{n0:Nat}{e:List (Nat × Value)}{h:Heap}{nx:Nat}(hb:renB b ρ e0 h0 n0 e h=true):RenOK b (nm ρ) e0 h0 n0 e h nx:=by
 simp only [renB,Bool.and_eq_true] at hb
 obtain⟨⟨⟨h1,h2⟩,h3⟩,h4⟩:=hb
 obtain⟨r1,r2⟩:=rhoB_ok h2
 have hh:=heapB_ok h4
 have hfix:∀ k,k<b→nm ρ k=k:=fun k hk=>by
  unfold nm
  split
  ·rename_i j hj
   have:=(r1 k j hj).1
   omega
  ·rfl
 refine⟨envB_ok h3,fun k o hk=>⟨(hh k o hk).1,(hh k o hk).2.2⟩,fun k k' o o' hk hk' he=>?_,hfix,Nat.le_of_ble_eq_true h1⟩
 have a1:=(hh k o hk).2.1
 have a2:=(hh k' o' hk').2.1
 by_cases c1:k<b <;> by_cases c2:k'<b
 ·rw [hfix k c1,hfix k' c2] at he;exact he
 ·obtain⟨j,hj⟩:=a2 (by omega)
  have hn:nm ρ k'=j:=by unfold nm;rw [hj]
  have:=(r1 k' j hj).2.1
  rw [hfix k c1,hn] at he
  omega
 ·obtain⟨j,hj⟩:=a1 (by omega)
  have hn:nm ρ k=j:=by unfold nm;rw [hj]
  have:=(r1 k j hj).2.1
  rw [hfix k' c2,hn] at he
  omega
 ·obtain⟨j,hj⟩:=a1 (by omega)
  obtain⟨j',hj'⟩:=a2 (by omega)
  have hn:nm ρ k=j:=by unfold nm;rw [hj]
  have hn':nm ρ k'=j':=by unfold nm;rw [hj']
  rw [hn,hn'] at he
  subst he
  exact r2 k k' j hj hj'
def prP (b:Nat):Value→Value→List (Nat × Nat)→List (Nat × Nat)
 |.slice (some a) _ _,.slice (some c) _ _,r=>(match Nat.ble b a.block with|true=>(a.block,c.block)::r|false=>r)
 |.pointer (some a),.pointer (some c),r=>(match Nat.ble b a.block with|true=>(a.block,c.block)::r|false=>r)
 |.map (some a),.map (some c),r=>(match Nat.ble b a with|true=>(a,c)::r|false=>r)
 |_,_,r=>r
def prPL (b:Nat):List Value→List Value→List (Nat × Nat)→List (Nat × Nat)
 |v::l,u::m,r=>prP b v u (prPL b l m r)
 |_,_,r=>r
def prS (b:Nat):Value→Value→List (Nat × Nat)→List (Nat × Nat)
 |.func _ _ c,.func _ _ c',r=>prPL b c.toList c'.toList r
 |v,u,r=>prP b v u r
def prL (b:Nat):List Value→List Value→List (Nat × Nat)→List (Nat × Nat)
 |v::l,u::m,r=>prS b v u (prL b l m r)
 |_,_,r=>r
def prA (b:Nat):Value→Value→List (Nat × Nat)→List (Nat × Nat)
 |.agg c,.agg c',r=>prL b c.toList c'.toList r
 |v,u,r=>prS b v u r
def prAL (b:Nat):List Value→List Value→List (Nat × Nat)→List (Nat × Nat)
 |v::l,u::m,r=>prA b v u (prAL b l m r)
 |_,_,r=>r
def prT (b:Nat):Value→Value→List (Nat × Nat)→List (Nat × Nat)
 |.tuple c,.tuple c',r=>prAL b c.toList c'.toList r
 |v,u,r=>prA b v u r
def prM (b:Nat):List (Value × Value)→List (Value × Value)→List (Nat × Nat)→List (Nat × Nat)
 |v::l,u::m,r=>prS b v.2 u.2 (prM b l m r)
 |_,_,r=>r
def prO (b:Nat):Option AObj→Option AObj→List (Nat × Nat)→List (Nat × Nat)
 |some (.cells _ _ _ cs),some (.cells _ _ _ cs'),r=>prL b cs cs' r
 |some (.map es),some (.map es'),r=>prM b es es' r
 |_,_,r=>r
def prE (b:Nat)(e':List (Nat × Value)):List (Nat × Value)→List (Nat × Nat)→List (Nat × Nat)
 |[],q=>q
 |(t,v)::r,q=>match look e' t with|some u=>prT b v u (prE b e' r q)|none=>prE b e' r q
def grow (b:Nat)(h h':Heap):Nat→List (Nat × Nat)→List (Nat × Nat)→List (Nat × Nat)
 |0,_,d=>d
 |_+1,[],d=>d
 |n+1,(j,k)::r,d=>match look d j with
  |some _=>grow b h h' n r d
  |none=>grow b h h' n (prO b (look h j) (look h' k) r) ((j,k)::d)
def oldL (b:Nat)(h':Heap):Heap→List (Nat × Nat)→List (Nat × Nat)
 |[],r=>r
 |(k,o)::l,r=>match Nat.blt k b with|true=>prO b (some o) (look h' k) (oldL b h' l r)|false=>oldL b h' l r
def rhoOf (b:Nat)(e e':List (Nat × Value))(h h':Heap):List (Nat × Nat):=grow b h h' 10000 (prE b e' e (oldL b h' h [])) []
def forceL {α:Type}:List α→(List α→Bool)→Bool
 |[],k=>k []
 |x::r,k=>forceL r fun r=>k (x::r)
theorem forceL_eq {α:Type}:∀ (l:List α) (k:List α→Bool),forceL l k=k l
 |[],k=>rfl
 |x::r,k=>by rw [forceL,forceL_eq r]
def freshE:List (Nat × Value)→List Nat→List (Nat × Value)
 |[],_=>[]
 |(t,v)::r,seen=>match memB t seen with|true=>freshE r seen|false=>(t,v)::freshE r (t::seen)
def keepH (b:Nat)(ρ:List (Nat × Nat)):Heap→Heap
 |[]=>[]
 |(k,o)::r=>match Nat.blt k b with
  |true=>(k,o)::keepH b ρ r
  |false=>(match look ρ k with|some _=>(k,o)::keepH b ρ r|none=>keepH b ρ r)
end Go.Aw
end
