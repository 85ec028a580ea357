/-
  Parts of the proof, put together. No condition.
-/
import Derived.Test.YtjahkcbdecgbhaaGreatQAl
set_option linter.unusedSimpArgs false
set_option linter.unusedVariables false
noncomputable section
namespace Go.Aw
open Go.RowKit
def Z2:Int→Int→Bool
 |.ofNat a,.ofNat b=>Nat.beq a b
 |.negSucc a,.negSucc b=>Nat.beq a b
 |_,_=>false
theorem aAC {a b:Int}(h:Z2 a b=true):a=b:=by
 cases a <;> cases b <;> simp only [Z2] at h <;> first|cases h;done|rw [beq_true h]
def S8:Bool→Bool→Bool
 |true,true=>true
 |false,false=>true
 |_,_=>false
theorem EB {a b:Bool}(h:S8 a b=true):a=b:=by cases a <;> cases b <;> first|rfl|cases h
def S6:Value→Value→Bool
 |.bool a,.bool b=>S8 a b
 |.int k a,.int j b=>kEq k j&&Z2 a b
 |.slice none n c,.slice none n' c'=>Nat.beq n n'&&Nat.beq c c'
 |.slice (some ⟨a,o,none⟩) n c,.slice (some ⟨a',o',none⟩) n' c'=>Nat.beq a a'&&Nat.beq o o'&&Nat.beq n n'&&Nat.beq c c'
 |.pointer none,.pointer none=>true
 |.pointer (some ⟨a,o,none⟩),.pointer (some ⟨a',o',none⟩)=>Nat.beq a a'&&Nat.beq o o'
 |.map none,.map none=>true
 |.map (some a),.map (some a')=>Nat.beq a a'
 |.nilFunc,.nilFunc=>true
 |.nilIface,.nilIface=>true
 |_,_=>false
theorem N6 {v u:Value}(h:S6 v u=true):v=u:=by
 unfold S6 at h;split at h
 ·rw [EB h]
 ·simp only [Bool.and_eq_true] at h;rw [pO h.1,aAC h.2]
 ·simp only [Bool.and_eq_true] at h;rw [beq_true h.1,beq_true h.2]
 ·simp only [Bool.and_eq_true] at h;obtain⟨⟨⟨h1,h2⟩,h3⟩,h4⟩:=h;rw [beq_true h1,beq_true h2,beq_true h3,beq_true h4]
 ·rfl
 ·simp only [Bool.and_eq_true] at h;rw [beq_true h.1,beq_true h.2]
 ·rfl
 ·rw [beq_true h]
 ·rfl
 ·rfl
 ·cases h
def F4:List Value→List Value→Bool
 |[],[]=>true
 |a::r,b::s=>S6 a b&&F4 r s
 |_,_=>false
theorem zZ:∀ {l m:List Value},F4 l m=true→l=m
 |[],[],_=>rfl
 |[],_::_,h=>by cases h
 |_::_,[],h=>by cases h
 |a::r,b::s,h=>by
  simp only [F4,Bool.and_eq_true] at h;rw [N6 h.1,zZ h.2]
def RI:Fn→Fn→Bool
 |.func a,.func b=>Nat.beq a b
 |.yield a,.yield b=>Nat.beq a b
 |_,_=>false
theorem XD {f g:Fn}(h:RI f g=true):f=g:=by
 unfold RI at h;split at h
 ·rw [beq_true h]
 ·rw [beq_true h]
 ·cases h
def MX:Value→Value→Bool
 |.func f a c,.func f' a' c'=>RI f f'&&F4 a.toList a'.toList&&F4 c.toList c'.toList
 |a,b=>S6 a b
theorem GB {v u:Value}(h:MX v u=true):v=u:=by
 unfold MX at h;split at h
 ·simp only [Bool.and_eq_true] at h;obtain⟨⟨h1,h2⟩,h3⟩:=h;rw [XD h1,show _=_ from Array.ext' (zZ h2),show _=_ from Array.ext' (zZ h3)]
 ·exact N6 h
def I9:List Value→List Value→Bool
 |[],[]=>true
 |a::r,b::s=>MX a b&&I9 r s
 |_,_=>false
theorem xN:∀ {l m:List Value},I9 l m=true→l=m
 |[],[],_=>rfl
 |[],_::_,h=>by cases h
 |_::_,[],h=>by cases h
 |a::r,b::s,h=>by
  simp only [I9,Bool.and_eq_true] at h;rw [GB h.1,xN h.2]
def OS:Value→Value→Bool
 |.agg a,.agg b=>I9 a.toList b.toList
 |a,b=>MX a b
theorem DZ {v u:Value}(h:OS v u=true):v=u:=by
 unfold OS at h;split at h
 ·rw [show _=_ from Array.ext' (xN h)]
 ·exact GB h
def LY:List Value→List Value→Bool
 |[],[]=>true
 |a::r,b::s=>OS a b&&LY r s
 |_,_=>false
theorem H4:∀ {l m:List Value},LY l m=true→l=m
 |[],[],_=>rfl
 |[],_::_,h=>by cases h
 |_::_,[],h=>by cases h
 |a::r,b::s,h=>by
  simp only [LY,Bool.and_eq_true] at h;rw [DZ h.1,H4 h.2]
def ME:Value→Value→Bool
 |.tuple a,.tuple b=>LY a.toList b.toList
 |a,b=>OS a b
theorem DQ {v u:Value}(h:ME v u=true):v=u:=by
 unfold ME at h;split at h
 ·rw [show _=_ from Array.ext' (H4 h)]
 ·exact DZ h
def aDy (n:Nat):Value→Bool
 |.slice (some a) _ _=>Nat.blt a.block n
 |.pointer (some a)=>Nat.blt a.block n
 |.map (some k)=>Nat.blt k n
 |v=>gS v
theorem SD {n:Nat}{v:Value}(h:aDy n v=true):oS (kA id) n v:=by
 unfold aDy at h;split at h
 ·exact⟨Nat.le_of_ble_eq_true h,fun e=>by cases e⟩
 ·exact⟨Nat.le_of_ble_eq_true h,rfl⟩
 ·exact⟨Nat.le_of_ble_eq_true h,rfl⟩
 ·cases v <;> simp [gS] at h <;> first|trivial|(rename_i a;cases a <;> simp [gS] at h <;> trivial)|(simp [oS];done)|skip
  all_goals (first|(rename_i a _ _;cases a <;> simp [gS] at h <;> simp [oS])|skip)
def aDC (n:Nat):List Value→Bool
 |[]=>true
 |v::r=>aDy n v&&aDC n r
theorem U8 {n:Nat}:∀ {l:List Value},aDC n l=true→∀ v∈l,oS (kA id) n v
 |[],_,v,hv=>by cases hv
 |x::r,h,v,hv=>by
  simp only [aDC,Bool.and_eq_true] at h;cases hv with
  |head=>exact SD h.1
  |tail _ hm=>exact U8 h.2 v hm
def aFy (n:Nat):Fn→Bool
 |.func _=>true
 |.yield l=>Nat.blt l n
 |_=>false
theorem aDF {n:Nat}{f:Fn}(h:aFy n f=true):QH (kA id) n f:=by
 unfold aFy at h;split at h
 ·trivial
 ·exact⟨Nat.le_of_ble_eq_true h,rfl⟩
 ·cases h
def aAM (n:Nat):Value→Bool
 |.func f _ c=>aFy n f&&aDC n c.toList
 |v=>aDy n v
theorem mQ {n:Nat}{v:Value}(h:aAM n v=true):A8 n v:=by
 unfold aAM at h;split at h
 ·simp only [Bool.and_eq_true] at h;exact⟨aDF h.1,U8 h.2⟩
 ·rename_i hf;have h2:=SD h;cases v <;> first|exact h2|exact absurd rfl (hf _ _ _)
def PU (n:Nat):List Value→Bool
 |[]=>true
 |v::r=>aAM n v&&PU n r
theorem jU {n:Nat}:∀ {l:List Value},PU n l=true→∀ v∈l,A8 n v
 |[],_,v,hv=>by cases hv
 |x::r,h,v,hv=>by
  simp only [PU,Bool.and_eq_true] at h;cases hv with
  |head=>exact mQ h.1
  |tail _ hm=>exact jU h.2 v hm
def aCA (n:Nat):Value→Bool
 |.agg c=>PU n c.toList
 |v=>aAM n v
theorem SE {n:Nat}{v:Value}(h:aCA n v=true):kP (kA id) n v:=by
 unfold aCA at h;split at h
 ·exact fun x hx=>jU h x hx
 ·exact iR (mQ h)
def TO (n:Nat):List Value→Bool
 |[]=>true
 |v::r=>aCA n v&&TO n r
theorem MZ {n:Nat}:∀ {l:List Value},TO n l=true→∀ v∈l,kP (kA id) n v
 |[],_,v,hv=>by cases hv
 |x::r,h,v,hv=>by
  simp only [TO,Bool.and_eq_true] at h;cases hv with
  |head=>exact SE h.1
  |tail _ hm=>exact MZ h.2 v hm
def aA8 (n:Nat):Value→Bool
 |.tuple c=>TO n c.toList
 |v=>aCA n v
theorem lH {n:Nat}{v:Value}(h:aA8 n v=true):wJ n v:=by
 unfold aA8 at h;split at h
 ·exact fun x hx=>MZ h x hx
 ·exact lR (SE h)
def nm (ρ:List (Nat × Nat))(k:Nat):Nat:=match look ρ k with|some j=>j|none=>k
def SL (σ:Nat→Nat)(m:Nat):List (Value × Value)→List (Value × Value)→Bool
 |[],[]=>true
 |a::r,b::s=>OS b.1 a.1&&MX b.2 (bN σ a.2)&&aAM m a.2&&SL σ m r s
 |_,_=>false
theorem O6 {σ:Nat→Nat}{m:Nat}:∀ {l l':List (Value × Value)},SL σ m l l'=true→l'=l.map (fun e=>(e.1,bN σ e.2))∧∀ e∈l,A8 m e.2
 |[],[],_=>⟨rfl,fun e he=>by cases he⟩
 |[],_::_,h=>by cases h
 |_::_,[],h=>by cases h
 |a::r,b::s,h=>by
  simp only [SL,Bool.and_eq_true] at h;obtain⟨⟨⟨h1,h2⟩,h3⟩,h4⟩:=h;obtain⟨i1,i2⟩:=O6 h4;refine⟨?_,fun e he=>?_⟩
  ·rw [List.map_cons,← i1,← DZ h1,← GB h2]
  ·cases he with
   |head=>exact mQ h3
   |tail _ hm=>exact i2 e hm
def aBr (σ:Nat→Nat)(m:Nat):aV→aV→Bool
 |.cells wr g sz cs,.cells wr' g' sz' cs'=>PU m cs&&S8 wr wr'&&S8 g g'&&Nat.beq sz sz'&&I9 cs' (cs.map (bN σ))
 |.map es,.map es'=>SL σ m es es'
 |.zero,.zero=>true
 |_,_=>false
theorem YZ {σ:Nat→Nat}{m:Nat}{o o':aV}(h:aBr σ m o o'=true):bO σ m o o':=by
 unfold aBr at h;split at h
 ·simp only [Bool.and_eq_true] at h;obtain⟨⟨⟨⟨h1,h2⟩,h3⟩,h4⟩,h5⟩:=h;exact⟨EB h2,EB h3,beq_true h4,xN h5,jU h1⟩
 ·exact O6 h
 ·trivial
 ·cases h
def UQ (b:Nat)(ρ:List (Nat × Nat))(m:Nat)(h':Heap):Heap→Bool
 |[]=>true
 |(k,o)::r=>Nat.blt k m&&(match Nat.blt k b with|true=>true|false=>(match look ρ k with|some _=>true|none=>false))&&(match look h' (nm ρ k) with|some o'=>aBr (nm ρ) m o o'|none=>false)&&UQ b ρ m h' r
theorem NF {b:Nat}{ρ:List (Nat × Nat)}{m:Nat}{h':Heap}:∀ {h:Heap},UQ b ρ m h' h=true→∀ k o,look h k=some o→k<m∧(b≤k→∃ j,look ρ k=some j)∧∃ o',look h' (nm ρ k)=some o'∧bO (nm ρ) m o o'
 |[],_,k,o,hk=>by cases hk
 |(j,q)::r,h,k,o,hk=>by
  simp only [UQ,Bool.and_eq_true] at h;obtain⟨⟨⟨h1,h2⟩,h3⟩,h4⟩:=h;rw [aE] at hk;split at hk
  ·rename_i hb;have:=beq_true hb;subst this;injection hk with hk;subst hk;refine⟨Nat.le_of_ble_eq_true h1,fun hb=>?_,?_⟩
   ·split at h2
    ·rename_i hlt;have:=Nat.le_of_ble_eq_true hlt;omega
    ·split at h2
     ·rename_i x hx;exact⟨x,hx⟩
     ·cases h2
   ·split at h3
    ·rename_i o' ho';exact⟨o',ho',YZ h3⟩
    ·cases h3
  ·exact NF h4 k o hk
theorem T9 {α:Type}{k:Nat}{o:α}{p:Prop}(h:look [] k=some o):p:=by cases h
def aCh (b:Nat):List (Nat × Nat)→Bool
 |[]=>true
 |(k,j)::r=>Nat.ble b k&&Nat.ble b j&&!(oW j (r.map (·.2)))&&aCh b r
theorem UX {b:Nat}:∀ {ρ:List (Nat × Nat)},aCh b ρ=true→(∀ k j,look ρ k=some j→b≤k∧b≤j∧j∈ρ.map (·.2))∧∀ k k' j,look ρ k=some j→look ρ k'=some j→k=k'
 |[],_=>⟨fun k j h=>T9 h,fun k k' j h=>T9 h⟩
 |(a,c)::r,h=>by
  simp only [aCh,Bool.and_eq_true,Bool.not_eq_true'] at h;obtain⟨⟨⟨h1,h2⟩,h3⟩,h4⟩:=h;obtain⟨i1,i2⟩:=UX h4;have h1:=Nat.le_of_ble_eq_true h1;have h2:=Nat.le_of_ble_eq_true h2;have hn:c∉r.map (·.2):=fun hm=>(by rw [dG.2 hm] at h3;cases h3);refine⟨fun k j hl=>?_,fun k k' j hl hl'=>?_⟩
  ·rw [aE] at hl;split at hl
   ·rename_i hb;injection hl with hl;subst hl;rw [← beq_true hb];exact⟨h1,h2,.head _⟩
   ·obtain⟨q1,q2,q3⟩:=i1 k j hl;exact⟨q1,q2,.tail _ q3⟩
  ·rw [aE] at hl hl';split at hl <;> split at hl'
   ·rename_i hb _ hb';exact (beq_true hb).symm.trans (beq_true hb')
   ·injection hl with hl;subst hl;exact absurd (i1 k' _ hl').2.2 hn
   ·injection hl' with hl';subst hl';exact absurd (i1 k _ hl).2.2 hn
   ·exact i2 k k' j hl hl'
def aD4 (ρ:List (Nat × Nat))(m:Nat)(e':List (Nat × Value)):List (Nat × Value)→Bool
 |[]=>true
 |(t,v)::r=>(match look e' t with|some v'=>ME v' (fV (nm ρ) v)|none=>false)&&aA8 m v&&aD4 ρ m e' r
theorem U7 {ρ:List (Nat × Nat)}{m:Nat}{e':List (Nat × Value)}:∀ {e:List (Nat × Value)},aD4 ρ m e' e=true→∀ t v,look e t=some v→look e' t=some (fV (nm ρ) v)∧wJ m v
 |[],_,t,v,h=>by cases h
 |(j,q)::r,h,t,v,hl=>by
  simp only [aD4,Bool.and_eq_true] at h;obtain⟨⟨h1,h2⟩,h3⟩:=h;rw [aE] at hl;split at hl
  ·rename_i hb;have:=beq_true hb;subst this;injection hl with hl;subst hl;refine⟨?_,lH h2⟩;split at h1
   ·rename_i v' hv';rw [hv',DQ h1]
   ·cases h1
  ·exact U7 h3 t v hl
def aE2 (b:Nat)(ρ:List (Nat × Nat))(e0:List (Nat × Value))(h0:Heap)(n0:Nat)(e:List (Nat × Value))(h:Heap):Bool :=
 Nat.ble b n0&&aCh b ρ&&aD4 ρ n0 e e0&&UQ b ρ n0 h h0
theorem SS {b:Nat}{ρ:List (Nat × Nat)}{e0:List (Nat × Value)}{h0:Heap}{n0:Nat}{e:List (Nat × Value)}{h:Heap}{nx:Nat}(hb:aE2 b ρ e0 h0 n0 e h=true):qE b (nm ρ) e0 h0 n0 e h nx:=by
 simp only [aE2,Bool.and_eq_true] at hb;obtain⟨⟨⟨h1,h2⟩,h3⟩,h4⟩:=hb;obtain⟨r1,r2⟩:=UX h2;have hh:=NF h4;have hfix:∀ k,k<b→nm ρ k=k:=fun k hk=>by
  unfold nm;split
  ·rename_i j hj;have:=(r1 k j hj).1;omega
  ·rfl
 refine⟨U7 h3,fun k o hk=>⟨(hh k o hk).1,(hh k o hk).2.2⟩,fun k k' o o' hk hk' he=>?_,hfix,Nat.le_of_ble_eq_true h1⟩;have a1:=(hh k o hk).2.1;have a2:=(hh k' o' hk').2.1;by_cases c1:k<b <;> by_cases c2:k'<b
 ·rw [hfix k c1,hfix k' c2] at he;exact he
 ·obtain⟨j,hj⟩:=a2 (by omega);have hn:nm ρ k'=j:=(by unfold nm;rw [hj]);have:=(r1 k' j hj).2.1;rw [hfix k c1,hn] at he;omega
 ·obtain⟨j,hj⟩:=a1 (by omega);have hn:nm ρ k=j:=(by unfold nm;rw [hj]);have:=(r1 k j hj).2.1;rw [hfix k' c2,hn] at he;omega
 ·obtain⟨j,hj⟩:=a1 (by omega);obtain⟨j',hj'⟩:=a2 (by omega);have hn:nm ρ k=j:=(by unfold nm;rw [hj]);have hn':nm ρ k'=j':=(by unfold nm;rw [hj']);rw [hn,hn'] at he;subst he;exact r2 k k' j hj hj'
def prP (b:Nat):Value→Value→List (Nat × Nat)→List (Nat × Nat)
 |.slice (some a) _ _,.slice (some c) _ _,r=>(match Nat.ble b a.block with|true=>(a.block,c.block)::r|false=>r)
 |.pointer (some a),.pointer (some c),r=>(match Nat.ble b a.block with|true=>(a.block,c.block)::r|false=>r)
 |.map (some a),.map (some c),r=>(match Nat.ble b a with|true=>(a,c)::r|false=>r)
 |_,_,r=>r
def aIv (b:Nat):List Value→List Value→List (Nat × Nat)→List (Nat × Nat)
 |v::l,u::m,r=>prP b v u (aIv b l m r)
 |_,_,r=>r
def prS (b:Nat):Value→Value→List (Nat × Nat)→List (Nat × Nat)
 |.func _ _ c,.func _ _ c',r=>aIv b c.toList c'.toList r
 |v,u,r=>prP b v u r
def prL (b:Nat):List Value→List Value→List (Nat × Nat)→List (Nat × Nat)
 |v::l,u::m,r=>prS b v u (prL b l m r)
 |_,_,r=>r
def prA (b:Nat):Value→Value→List (Nat × Nat)→List (Nat × Nat)
 |.agg c,.agg c',r=>prL b c.toList c'.toList r
 |v,u,r=>prS b v u r
def aIy (b:Nat):List Value→List Value→List (Nat × Nat)→List (Nat × Nat)
 |v::l,u::m,r=>prA b v u (aIy b l m r)
 |_,_,r=>r
def prT (b:Nat):Value→Value→List (Nat × Nat)→List (Nat × Nat)
 |.tuple c,.tuple c',r=>aIy b c.toList c'.toList r
 |v,u,r=>prA b v u r
def prM (b:Nat):List (Value × Value)→List (Value × Value)→List (Nat × Nat)→List (Nat × Nat)
 |v::l,u::m,r=>prS b v.2 u.2 (prM b l m r)
 |_,_,r=>r
def prO (b:Nat):Option aV→Option aV→List (Nat × Nat)→List (Nat × Nat)
 |some (.cells _ _ _ cs),some (.cells _ _ _ cs'),r=>prL b cs cs' r
 |some (.map es),some (.map es'),r=>prM b es es' r
 |_,_,r=>r
def prE (b:Nat)(e':List (Nat × Value)):List (Nat × Value)→List (Nat × Nat)→List (Nat × Nat)
 |[],q=>q
 |(t,v)::r,q=>match look e' t with|some u=>prT b v u (prE b e' r q)|none=>prE b e' r q
def grow (b:Nat)(h h':Heap):Nat→List (Nat × Nat)→List (Nat × Nat)→List (Nat × Nat)
 |0,_,d=>d
 |_+1,[],d=>d
 |n+1,(j,k)::r,d=>match look d j with
  |some _=>grow b h h' n r d
  |none=>grow b h h' n (prO b (look h j) (look h' k) r) ((j,k)::d)
def aGr (b:Nat)(h':Heap):Heap→List (Nat × Nat)→List (Nat × Nat)
 |[],r=>r
 |(k,o)::l,r=>match Nat.blt k b with|true=>prO b (some o) (look h' k) (aGr b h' l r)|false=>aGr b h' l r
def aAZ (b:Nat)(e e':List (Nat × Value))(h h':Heap):List (Nat × Nat):=grow b h h' 10000 (prE b e' e (aGr b h' h [])) []
def FG {α:Type}:List α→(List α→Bool)→Bool
 |[],k=>k []
 |x::r,k=>FG r fun r=>k (x::r)
theorem z7 {α:Type}:∀ (l:List α) (k:List α→Bool),FG l k=k l
 |[],k=>rfl
 |x::r,k=>by rw [FG,z7 r]
def PY:List (Nat × Value)→List Nat→List (Nat × Value)
 |[],_=>[]
 |(t,v)::r,seen=>match oW t seen with|true=>PY r seen|false=>(t,v)::PY r (t::seen)
def UJ (b:Nat)(ρ:List (Nat × Nat)):Heap→Heap
 |[]=>[]
 |(k,o)::r=>match Nat.blt k b with
  |true=>(k,o)::UJ b ρ r
  |false=>(match look ρ k with|some _=>(k,o)::UJ b ρ r|none=>UJ b ρ r)
end Go.Aw
end
