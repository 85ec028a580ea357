/-
  Parts of a proof. No condition.
-/
import Derived.Test.YtjahkcbdecgbhaaGreatQAj
set_option linter.unusedSimpArgs false
set_option linter.unusedVariables false
noncomputable section
namespace Go.Aw
open Go.RowKit
def Z1:Int→Int→Bool
 |.ofNat a,.ofNat b=>Nat.beq a b
 |.negSucc a,.negSucc b=>Nat.beq a b
 |_,_=>false
theorem aB8 {a b:Int}(h:Z1 a b=true):a=b:=by
 cases a <;> cases b <;> simp only [Z1] at h <;> first|cases h;done|rw [beq_true h]
def T6:Bool→Bool→Bool
 |true,true=>true
 |false,false=>true
 |_,_=>false
theorem E7 {a b:Bool}(h:T6 a b=true):a=b:=by cases a <;> cases b <;> first|rfl|cases h
def V1:Value→Value→Bool
 |.bool a,.bool b=>T6 a b
 |.int k a,.int j b=>kEq k j&&Z1 a b
 |.slice none n c,.slice none n' c'=>Nat.beq n n'&&Nat.beq c c'
 |.slice (some ⟨a,o,none⟩) n c,.slice (some ⟨a',o',none⟩) n' c'=>Nat.beq a a'&&Nat.beq o o'&&Nat.beq n n'&&Nat.beq c c'
 |.pointer none,.pointer none=>true
 |.pointer (some ⟨a,o,none⟩),.pointer (some ⟨a',o',none⟩)=>Nat.beq a a'&&Nat.beq o o'
 |.map none,.map none=>true
 |.map (some a),.map (some a')=>Nat.beq a a'
 |.nilFunc,.nilFunc=>true
 |.nilIface,.nilIface=>true
 |_,_=>false
theorem MY {v u:Value}(h:V1 v u=true):v=u:=by
 unfold V1 at h;split at h
 ·rw [E7 h]
 ·simp only [Bool.and_eq_true] at h;rw [qB h.1,aB8 h.2]
 ·simp only [Bool.and_eq_true] at h;rw [beq_true h.1,beq_true h.2]
 ·simp only [Bool.and_eq_true] at h;obtain⟨⟨⟨h1,h2⟩,h3⟩,h4⟩:=h;rw [beq_true h1,beq_true h2,beq_true h3,beq_true h4]
 ·rfl
 ·simp only [Bool.and_eq_true] at h;rw [beq_true h.1,beq_true h.2]
 ·rfl
 ·rw [beq_true h]
 ·rfl
 ·rfl
 ·cases h
def DR:List Value→List Value→Bool
 |[],[]=>true
 |a::r,b::s=>V1 a b&&DR r s
 |_,_=>false
theorem AB:∀ {l m:List Value},DR l m=true→l=m
 |[],[],_=>rfl
 |[],_::_,h=>by cases h
 |_::_,[],h=>by cases h
 |a::r,b::s,h=>by
  simp only [DR,Bool.and_eq_true] at h;rw [MY h.1,AB h.2]
def QC:Fn→Fn→Bool
 |.func a,.func b=>Nat.beq a b
 |.yield a,.yield b=>Nat.beq a b
 |_,_=>false
theorem XX {f g:Fn}(h:QC f g=true):f=g:=by
 unfold QC at h;split at h
 ·rw [beq_true h]
 ·rw [beq_true h]
 ·cases h
def NV:Value→Value→Bool
 |.func f a c,.func f' a' c'=>QC f f'&&DR a.toList a'.toList&&DR c.toList c'.toList
 |a,b=>V1 a b
theorem FU {v u:Value}(h:NV v u=true):v=u:=by
 unfold NV at h;split at h
 ·simp only [Bool.and_eq_true] at h;obtain⟨⟨h1,h2⟩,h3⟩:=h;rw [XX h1,show _=_ from Array.ext' (AB h2),show _=_ from Array.ext' (AB h3)]
 ·exact MY h
def I3:List Value→List Value→Bool
 |[],[]=>true
 |a::r,b::s=>NV a b&&I3 r s
 |_,_=>false
theorem y9:∀ {l m:List Value},I3 l m=true→l=m
 |[],[],_=>rfl
 |[],_::_,h=>by cases h
 |_::_,[],h=>by cases h
 |a::r,b::s,h=>by
  simp only [I3,Bool.and_eq_true] at h;rw [FU h.1,y9 h.2]
def O6:Value→Value→Bool
 |.agg a,.agg b=>I3 a.toList b.toList
 |a,b=>NV a b
theorem GI {v u:Value}(h:O6 v u=true):v=u:=by
 unfold O6 at h;split at h
 ·rw [show _=_ from Array.ext' (y9 h)]
 ·exact FU h
def JS:List Value→List Value→Bool
 |[],[]=>true
 |a::r,b::s=>O6 a b&&JS r s
 |_,_=>false
theorem IE:∀ {l m:List Value},JS l m=true→l=m
 |[],[],_=>rfl
 |[],_::_,h=>by cases h
 |_::_,[],h=>by cases h
 |a::r,b::s,h=>by
  simp only [JS,Bool.and_eq_true] at h;rw [GI h.1,IE h.2]
def NO:Value→Value→Bool
 |.tuple a,.tuple b=>JS a.toList b.toList
 |a,b=>O6 a b
theorem EV {v u:Value}(h:NO v u=true):v=u:=by
 unfold NO at h;split at h
 ·rw [show _=_ from Array.ext' (IE h)]
 ·exact GI h
def aEa (n:Nat):Value→Bool
 |.slice (some a) _ _=>Nat.blt a.block n
 |.pointer (some a)=>Nat.blt a.block n
 |.map (some k)=>Nat.blt k n
 |v=>gS v
theorem TU {n:Nat}{v:Value}(h:aEa n v=true):oB (j8 id) n v:=by
 unfold aEa at h;split at h
 ·exact⟨Nat.le_of_ble_eq_true h,fun e=>by cases e⟩
 ·exact⟨Nat.le_of_ble_eq_true h,rfl⟩
 ·exact⟨Nat.le_of_ble_eq_true h,rfl⟩
 ·cases v <;> simp [gS] at h <;> first|trivial|(rename_i a;cases a <;> simp [gS] at h <;> trivial)|(simp [oB];done)|skip
  all_goals (first|(rename_i a _ _;cases a <;> simp [gS] at h <;> simp [oB])|skip)
def aE6 (n:Nat):List Value→Bool
 |[]=>true
 |v::r=>aEa n v&&aE6 n r
theorem UG {n:Nat}:∀ {l:List Value},aE6 n l=true→∀ v∈l,oB (j8 id) n v
 |[],_,v,hv=>by cases hv
 |x::r,h,v,hv=>by
  simp only [aE6,Bool.and_eq_true] at h;cases hv with
  |head=>exact TU h.1
  |tail _ hm=>exact UG h.2 v hm
def aH2 (n:Nat):Fn→Bool
 |.func _=>true
 |.yield l=>Nat.blt l n
 |_=>false
theorem aD5 {n:Nat}{f:Fn}(h:aH2 n f=true):RE (j8 id) n f:=by
 unfold aH2 at h;split at h
 ·trivial
 ·exact⟨Nat.le_of_ble_eq_true h,rfl⟩
 ·cases h
def aBc (n:Nat):Value→Bool
 |.func f _ c=>aH2 n f&&aE6 n c.toList
 |v=>aEa n v
theorem mR {n:Nat}{v:Value}(h:aBc n v=true):CR n v:=by
 unfold aBc at h;split at h
 ·simp only [Bool.and_eq_true] at h;exact⟨aD5 h.1,UG h.2⟩
 ·rename_i hf;have h2:=TU h;cases v <;> first|exact h2|exact absurd rfl (hf _ _ _)
def SC (n:Nat):List Value→Bool
 |[]=>true
 |v::r=>aBc n v&&SC n r
theorem gR {n:Nat}:∀ {l:List Value},SC n l=true→∀ v∈l,CR n v
 |[],_,v,hv=>by cases hv
 |x::r,h,v,hv=>by
  simp only [SC,Bool.and_eq_true] at h;cases hv with
  |head=>exact mR h.1
  |tail _ hm=>exact gR h.2 v hm
def aCx (n:Nat):Value→Bool
 |.agg c=>SC n c.toList
 |v=>aBc n v
theorem UN {n:Nat}{v:Value}(h:aCx n v=true):kL (j8 id) n v:=by
 unfold aCx at h;split at h
 ·exact fun x hx=>gR h x hx
 ·exact gG (mR h)
def U8 (n:Nat):List Value→Bool
 |[]=>true
 |v::r=>aCx n v&&U8 n r
theorem ME {n:Nat}:∀ {l:List Value},U8 n l=true→∀ v∈l,kL (j8 id) n v
 |[],_,v,hv=>by cases hv
 |x::r,h,v,hv=>by
  simp only [U8,Bool.and_eq_true] at h;cases hv with
  |head=>exact UN h.1
  |tail _ hm=>exact ME h.2 v hm
def aA9 (n:Nat):Value→Bool
 |.tuple c=>U8 n c.toList
 |v=>aCx n v
theorem mN {n:Nat}{v:Value}(h:aA9 n v=true):xD n v:=by
 unfold aA9 at h;split at h
 ·exact fun x hx=>ME h x hx
 ·exact lP (UN h)
def nm (ρ:List (Nat × Nat))(k:Nat):Nat:=match look ρ k with|some j=>j|none=>k
def UR (σ:Nat→Nat)(m:Nat):List (Value × Value)→List (Value × Value)→Bool
 |[],[]=>true
 |a::r,b::s=>O6 b.1 a.1&&NV b.2 (bS σ a.2)&&aBc m a.2&&UR σ m r s
 |_,_=>false
theorem NN {σ:Nat→Nat}{m:Nat}:∀ {l l':List (Value × Value)},UR σ m l l'=true→l'=l.map (fun e=>(e.1,bS σ e.2))∧∀ e∈l,CR m e.2
 |[],[],_=>⟨rfl,fun e he=>by cases he⟩
 |[],_::_,h=>by cases h
 |_::_,[],h=>by cases h
 |a::r,b::s,h=>by
  simp only [UR,Bool.and_eq_true] at h;obtain⟨⟨⟨h1,h2⟩,h3⟩,h4⟩:=h;obtain⟨i1,i2⟩:=NN h4;refine⟨?_,fun e he=>?_⟩
  ·rw [List.map_cons,← i1,← GI h1,← FU h2]
  ·cases he with
   |head=>exact mR h3
   |tail _ hm=>exact i2 e hm
def aAc (σ:Nat→Nat)(m:Nat):aV→aV→Bool
 |.cells wr g sz cs,.cells wr' g' sz' cs'=>SC m cs&&T6 wr wr'&&T6 g g'&&Nat.beq sz sz'&&I3 cs' (cs.map (bS σ))
 |.map es,.map es'=>UR σ m es es'
 |.zero,.zero=>true
 |_,_=>false
theorem ZZ {σ:Nat→Nat}{m:Nat}{o o':aV}(h:aAc σ m o o'=true):bX σ m o o':=by
 unfold aAc at h;split at h
 ·simp only [Bool.and_eq_true] at h;obtain⟨⟨⟨⟨h1,h2⟩,h3⟩,h4⟩,h5⟩:=h;exact⟨E7 h2,E7 h3,beq_true h4,y9 h5,gR h1⟩
 ·exact NN h
 ·trivial
 ·cases h
def T8 (b:Nat)(ρ:List (Nat × Nat))(m:Nat)(h':Heap):Heap→Bool
 |[]=>true
 |(k,o)::r=>Nat.blt k m&&(match Nat.blt k b with|true=>true|false=>(match look ρ k with|some _=>true|none=>false))&&(match look h' (nm ρ k) with|some o'=>aAc (nm ρ) m o o'|none=>false)&&T8 b ρ m h' r
theorem PJ {b:Nat}{ρ:List (Nat × Nat)}{m:Nat}{h':Heap}:∀ {h:Heap},T8 b ρ m h' h=true→∀ k o,look h k=some o→k<m∧(b≤k→∃ j,look ρ k=some j)∧∃ o',look h' (nm ρ k)=some o'∧bX (nm ρ) m o o'
 |[],_,k,o,hk=>by cases hk
 |(j,q)::r,h,k,o,hk=>by
  simp only [T8,Bool.and_eq_true] at h;obtain⟨⟨⟨h1,h2⟩,h3⟩,h4⟩:=h;rw [aD] at hk;split at hk
  ·rename_i hb;have:=beq_true hb;subst this;injection hk with hk;subst hk;refine⟨Nat.le_of_ble_eq_true h1,fun hb=>?_,?_⟩
   ·split at h2
    ·rename_i hlt;have:=Nat.le_of_ble_eq_true hlt;omega
    ·split at h2
     ·rename_i x hx;exact⟨x,hx⟩
     ·cases h2
   ·split at h3
    ·rename_i o' ho';exact⟨o',ho',ZZ h3⟩
    ·cases h3
  ·exact PJ h4 k o hk
theorem TM {α:Type}{k:Nat}{o:α}{p:Prop}(h:look [] k=some o):p:=by cases h
def aCA (b:Nat):List (Nat × Nat)→Bool
 |[]=>true
 |(k,j)::r=>Nat.ble b k&&Nat.ble b j&&!(pH j (r.map (·.2)))&&aCA b r
theorem VV {b:Nat}:∀ {ρ:List (Nat × Nat)},aCA b ρ=true→(∀ k j,look ρ k=some j→b≤k∧b≤j∧j∈ρ.map (·.2))∧∀ k k' j,look ρ k=some j→look ρ k'=some j→k=k'
 |[],_=>⟨fun k j h=>TM h,fun k k' j h=>TM h⟩
 |(a,c)::r,h=>by
  simp only [aCA,Bool.and_eq_true,Bool.not_eq_true'] at h;obtain⟨⟨⟨h1,h2⟩,h3⟩,h4⟩:=h;obtain⟨i1,i2⟩:=VV h4;have h1:=Nat.le_of_ble_eq_true h1;have h2:=Nat.le_of_ble_eq_true h2;have hn:c∉r.map (·.2):=fun hm=>(by rw [dM.2 hm] at h3;cases h3);refine⟨fun k j hl=>?_,fun k k' j hl hl'=>?_⟩
  ·rw [aD] at hl;split at hl
   ·rename_i hb;injection hl with hl;subst hl;rw [← beq_true hb];exact⟨h1,h2,.head _⟩
   ·obtain⟨q1,q2,q3⟩:=i1 k j hl;exact⟨q1,q2,.tail _ q3⟩
  ·rw [aD] at hl hl';split at hl <;> split at hl'
   ·rename_i hb _ hb';exact (beq_true hb).symm.trans (beq_true hb')
   ·injection hl with hl;subst hl;exact absurd (i1 k' _ hl').2.2 hn
   ·injection hl' with hl';subst hl';exact absurd (i1 k _ hl).2.2 hn
   ·exact i2 k k' j hl hl'
def aCE (ρ:List (Nat × Nat))(m:Nat)(e':List (Nat × Value)):List (Nat × Value)→Bool
 |[]=>true
 |(t,v)::r=>(match look e' t with|some v'=>NO v' (gP (nm ρ) v)|none=>false)&&aA9 m v&&aCE ρ m e' r
theorem SZ {ρ:List (Nat × Nat)}{m:Nat}{e':List (Nat × Value)}:∀ {e:List (Nat × Value)},aCE ρ m e' e=true→∀ t v,look e t=some v→look e' t=some (gP (nm ρ) v)∧xD m v
 |[],_,t,v,h=>by cases h
 |(j,q)::r,h,t,v,hl=>by
  simp only [aCE,Bool.and_eq_true] at h;obtain⟨⟨h1,h2⟩,h3⟩:=h;rw [aD] at hl;split at hl
  ·rename_i hb;have:=beq_true hb;subst this;injection hl with hl;subst hl;refine⟨?_,mN h2⟩;split at h1
   ·rename_i v' hv';rw [hv',EV h1]
   ·cases h1
  ·exact SZ h3 t v hl
def aE5 (b:Nat)(ρ:List (Nat × Nat))(e0:List (Nat × Value))(h0:Heap)(n0:Nat)(e:List (Nat × Value))(h:Heap):Bool :=
 Nat.ble b n0&&aCA b ρ&&aCE ρ n0 e e0&&T8 b ρ n0 h h0
theorem TO {b:Nat}{ρ:List (Nat × Nat)}{e0:List (Nat × Value)}{h0:Heap}{n0:Nat}{e:List (Nat × Value)}{h:Heap}{nx:Nat}(hb:aE5 b ρ e0 h0 n0 e h=true):oM b (nm ρ) e0 h0 n0 e h nx:=by
 simp only [aE5,Bool.and_eq_true] at hb;obtain⟨⟨⟨h1,h2⟩,h3⟩,h4⟩:=hb;obtain⟨r1,r2⟩:=VV h2;have hh:=PJ h4;have hfix:∀ k,k<b→nm ρ k=k:=fun k hk=>by
  unfold nm;split
  ·rename_i j hj;have:=(r1 k j hj).1;omega
  ·rfl
 refine⟨SZ h3,fun k o hk=>⟨(hh k o hk).1,(hh k o hk).2.2⟩,fun k k' o o' hk hk' he=>?_,hfix,Nat.le_of_ble_eq_true h1⟩;have a1:=(hh k o hk).2.1;have a2:=(hh k' o' hk').2.1;by_cases c1:k<b <;> by_cases c2:k'<b
 ·rw [hfix k c1,hfix k' c2] at he;exact he
 ·obtain⟨j,hj⟩:=a2 (by omega);have hn:nm ρ k'=j:=(by unfold nm;rw [hj]);have:=(r1 k' j hj).2.1;rw [hfix k c1,hn] at he;omega
 ·obtain⟨j,hj⟩:=a1 (by omega);have hn:nm ρ k=j:=(by unfold nm;rw [hj]);have:=(r1 k j hj).2.1;rw [hfix k' c2,hn] at he;omega
 ·obtain⟨j,hj⟩:=a1 (by omega);obtain⟨j',hj'⟩:=a2 (by omega);have hn:nm ρ k=j:=(by unfold nm;rw [hj]);have hn':nm ρ k'=j':=(by unfold nm;rw [hj']);rw [hn,hn'] at he;subst he;exact r2 k k' j hj hj'
def prP (b:Nat):Value→Value→List (Nat × Nat)→List (Nat × Nat)
 |.slice (some a) _ _,.slice (some c) _ _,r=>(match Nat.ble b a.block with|true=>(a.block,c.block)::r|false=>r)
 |.pointer (some a),.pointer (some c),r=>(match Nat.ble b a.block with|true=>(a.block,c.block)::r|false=>r)
 |.map (some a),.map (some c),r=>(match Nat.ble b a with|true=>(a,c)::r|false=>r)
 |_,_,r=>r
def aIt (b:Nat):List Value→List Value→List (Nat × Nat)→List (Nat × Nat)
 |v::l,u::m,r=>prP b v u (aIt b l m r)
 |_,_,r=>r
def prS (b:Nat):Value→Value→List (Nat × Nat)→List (Nat × Nat)
 |.func _ _ c,.func _ _ c',r=>aIt b c.toList c'.toList r
 |v,u,r=>prP b v u r
def prL (b:Nat):List Value→List Value→List (Nat × Nat)→List (Nat × Nat)
 |v::l,u::m,r=>prS b v u (prL b l m r)
 |_,_,r=>r
def prA (b:Nat):Value→Value→List (Nat × Nat)→List (Nat × Nat)
 |.agg c,.agg c',r=>prL b c.toList c'.toList r
 |v,u,r=>prS b v u r
def aJB (b:Nat):List Value→List Value→List (Nat × Nat)→List (Nat × Nat)
 |v::l,u::m,r=>prA b v u (aJB b l m r)
 |_,_,r=>r
def prT (b:Nat):Value→Value→List (Nat × Nat)→List (Nat × Nat)
 |.tuple c,.tuple c',r=>aJB b c.toList c'.toList r
 |v,u,r=>prA b v u r
def prM (b:Nat):List (Value × Value)→List (Value × Value)→List (Nat × Nat)→List (Nat × Nat)
 |v::l,u::m,r=>prS b v.2 u.2 (prM b l m r)
 |_,_,r=>r
def prO (b:Nat):Option aV→Option aV→List (Nat × Nat)→List (Nat × Nat)
 |some (.cells _ _ _ cs),some (.cells _ _ _ cs'),r=>prL b cs cs' r
 |some (.map es),some (.map es'),r=>prM b es es' r
 |_,_,r=>r
def prE (b:Nat)(e':List (Nat × Value)):List (Nat × Value)→List (Nat × Nat)→List (Nat × Nat)
 |[],q=>q
 |(t,v)::r,q=>match look e' t with|some u=>prT b v u (prE b e' r q)|none=>prE b e' r q
def grow (b:Nat)(h h':Heap):Nat→List (Nat × Nat)→List (Nat × Nat)→List (Nat × Nat)
 |0,_,d=>d
 |_+1,[],d=>d
 |n+1,(j,k)::r,d=>match look d j with
  |some _=>grow b h h' n r d
  |none=>grow b h h' n (prO b (look h j) (look h' k) r) ((j,k)::d)
def aGT (b:Nat)(h':Heap):Heap→List (Nat × Nat)→List (Nat × Nat)
 |[],r=>r
 |(k,o)::l,r=>match Nat.blt k b with|true=>prO b (some o) (look h' k) (aGT b h' l r)|false=>aGT b h' l r
def YU (b:Nat)(e e':List (Nat × Value))(h h':Heap):List (Nat × Nat):=grow b h h' 10000 (prE b e' e (aGT b h' h [])) []
def DW {α:Type}:List α→(List α→Bool)→Bool
 |[],k=>k []
 |x::r,k=>DW r fun r=>k (x::r)
theorem A2 {α:Type}:∀ (l:List α) (k:List α→Bool),DW l k=k l
 |[],k=>rfl
 |x::r,k=>by rw [DW,A2 r]
def QJ:List (Nat × Value)→List Nat→List (Nat × Value)
 |[],_=>[]
 |(t,v)::r,seen=>match pH t seen with|true=>QJ r seen|false=>(t,v)::QJ r (t::seen)
def U9 (b:Nat)(ρ:List (Nat × Nat)):Heap→Heap
 |[]=>[]
 |(k,o)::r=>match Nat.blt k b with
  |true=>(k,o)::U9 b ρ r
  |false=>(match look ρ k with|some _=>(k,o)::U9 b ρ r|none=>U9 b ρ r)
end Go.Aw
end

noncomputable section
namespace Go.Aw
abbrev tI:=Value→Heap→Nat→Bool
abbrev pS:=List (Nat × Value)→Heap→Nat→Bool
abbrev vP:=Nat→List Value→Heap→Nat→tI→Bool
abbrev VRB:=Operand→Array Tmp→Code→Code→pS→(Nat→pS)→pS→pS
def qH (x:Option Value)(K:Value→Bool):Bool:=match x with|some v=>K v|none=>false
def wbr (b:Bool)(A B:Unit→Bool):Bool:=match b with|true=>A ()|false=>B ()
def eG (b:Bool)(A:Bool):Bool:=match b with|true=>A|false=>false
def TZ (T:cN)(h:Heap)(t:TypeId)(x:Value)(K:Value→Bool):Bool :=
 match x with
 |.pointer (some ⟨k,o,none⟩) =>
  match look T t,look h k with
  |some ti,some (.cells _ _ _ cs) =>
   match ti.isAgg with
   |true=>(match nO cs o ti.size with|some l=>K (.agg l.toArray)|none=>false)
   |false=>(match nth cs o with|some v=>K v|none=>false)
  |_,_=>false
 |_=>false
def wF (T:cN)(st:TypeId)(x:Value)(f:Nat)(K:Value→Bool):Bool :=
 match x,look T st with
 |.pointer (some ⟨k,o,none⟩),some { kind:=.st fs,.. } =>
  match fs[f]? with
  |some (off,ft)=>(match look T ft with|some _=>K (.pointer (some ⟨k,o+off,none⟩))|none=>false)
  |none=>false
 |_,_=>false
def wE (A:Ar)(T:cN)(t:TypeId)(x ix:Value)(K:Value→Bool):Bool :=
 match look T t,x,ix with
 |some { kind:=.sl e,.. },.slice (some ⟨k,o,none⟩) n _,.int _ i =>
  (match look T e with|some ei=>eG (A.andB (A.le 0 i) (A.lt i (A.num n))) (K (.pointer (some ⟨k,A.ix o i ei.size,none⟩)))|none=>false)
 |some { kind:=.ar n e,.. },.pointer (some ⟨k,o,none⟩),.int _ i =>
  (match look T e with|some ei=>eG (A.andB (A.le 0 i) (A.lt i (A.num n))) (K (.pointer (some ⟨k,A.ix o i ei.size,none⟩)))|none=>false)
 |_,_,_=>false
def SP (T:cN)(t:TypeId)(cs:List Value)(o:Nat)(K:Value→Bool):Bool :=
 match look T t with
 |some ti=>(match ti.isAgg with
  |true=>(match nO cs o ti.size with|some l=>K (.agg l.toArray)|none=>false)
  |false=>(match nth cs o with|some v=>K v|none=>false))
 |none=>false
def RK (T:cN)(st:TypeId)(x:Value)(f:Nat)(K:Value→Bool):Bool :=
 match x,look T st with
 |.agg cs,some { kind:=.st fs,.. }=>(match fs[f]? with|some (off,ft)=>SP T ft cs.toList off K|none=>false)
 |_,_=>false
def PU (A:Ar)(T:cN)(t:TypeId)(x ix:Value)(K:Value→Bool):Bool :=
 match look T t,x,ix with
 |some { kind:=.ar n e,.. },.agg cs,.int _ i =>
  (match look T e with|some ei=>eG (A.andB (A.le 0 i) (A.lt i (A.num n))) (SP T e cs.toList (A.ix 0 i ei.size) K)|none=>false)
 |some { kind:=.str,.. },.string b,.int _ i=>(match (if 0≤i then b[i.toNat]? else none) with|some u=>K (.int .u8 (A.num u.toNat))|none=>false)
 |_,_,_=>false
def aJz (A:Ar)(op:BinOp)(k:IntKind)(a b:Int)(K:Value→Bool):Bool :=
 match op with
 |.add=>eG (A.fits k (A.add a b)) (K (.int k (A.add a b)))
 |.sub=>eG (A.fits k (A.sub a b)) (K (.int k (A.sub a b)))
 |.mul=>eG (A.fits k (A.mul a b)) (K (.int k (A.mul a b)))
 |.quo=>eG (A.andB (A.notB (A.eq b 0)) (A.fits k (A.quo a b))) (K (.int k (A.quo a b)))
 |.rem=>eG (A.notB (A.eq b 0)) (K (.int k (A.rem a b)))
 |.eql=>K (.bool (A.eq a b))
 |.neq=>K (.bool (A.notB (A.eq a b)))
 |.lss=>K (.bool (A.lt a b))
 |.leq=>K (.bool (A.le a b))
 |.gtr=>K (.bool (A.lt b a))
 |.geq=>K (.bool (A.le b a))
 |.xor=>eG (A.andB (A.andB (A.le 0 a) (A.le 0 b)) (A.andB (A.lt a (vA k)) (A.lt b (vA k)))) (K (.int k (A.num (A.bit .xor (A.toN a) (A.toN b)))))
 |.or=>eG (A.andB (A.andB (A.le 0 a) (A.le 0 b)) (A.andB (A.lt a (vA k)) (A.lt b (vA k)))) (K (.int k (A.num (A.bit .or (A.toN a) (A.toN b)))))
 |.and=>eG (A.andB (A.andB (A.le 0 a) (A.le 0 b)) (A.andB (A.lt a (vA k)) (A.lt b (vA k)))) (K (.int k (A.num (A.bit .and (A.toN a) (A.toN b)))))
 |_=>false
def aHe (A:Ar)(T:cN)(op:BinOp)(xt:TypeId)(x y:Value)(K:Value→Bool):Bool :=
 match x,y with
 |.int k a,.int k' b=>(match aFn op with
  |true=>eG (A.andB (A.le 0 a) (A.eq b 1)) (K (.int k (A.quo a 2)))
  |false=>(match kEq k k' with|true=>aJz A op k a b K|false=>false))
 |.bool a,.bool b=>(match op,look T xt with
  |.eql,some { kind:=.bool,.. }=>K (.bool (A.eqB a b))
  |.neq,some { kind:=.bool,.. }=>K (.bool (A.notB (A.eqB a b)))
  |_,_=>false)
 |.agg xs,.agg ys=>(match look T xt with
  |some _=>(match dF xs.toList,dF ys.toList with
   |true,true=>(match veq A T 100 xt (.agg xs) (.agg ys) with
    |some r=>(match op with
     |.eql=>K (.bool r)
     |.neq=>K (.bool (A.notB r))
     |_=>false)
    |none=>false)
   |_,_=>false)
  |none=>false)
 |_,_=>false
def aGv (T:cN)(h:Heap)(op:BinOp)(t:TypeId)(x:Value)(K:Value→Bool):Bool :=
 match look T t,aE7 h x,op with
 |some { kind:=.sl _,.. },some b,.eql=>K (.bool b)
 |some { kind:=.sl _,.. },some b,.neq=>K (.bool (!b))
 |_,_,_=>false
def wun (A:Ar)(op:UnOp)(x:Value)(K:Value→Bool):Bool :=
 match op,x with
 |.neg,.int k a=>eG (A.fits k (A.neg a)) (K (.int k (A.neg a)))
 |.not,.bool b=>K (.bool (A.notB b))
 |_,_=>false
def Q1 (T:cN)(t:TypeId)(ps:List (Nat × Value))(K:Value→Bool):Bool :=
 match look T t with
 |some ti =>
  match (match ti.kind with|.st fs=>jZ T fs|.ar _ e=>(look T e).isSome|_=>false),kJ ps with
  |true,true=>(match BI (places T ti) ps ti.zv.cells.toList with
   |some cells=>K (.agg cells.toArray)
   |none=>false)
  |_,_=>false
 |none=>false
def F6 (A:Ar)(T:cN)(b:Builtin)(ts:Array TypeId)(vs:List Value)(K:Value→Bool):Bool :=
 match b,ts.toList,vs with
 |.len,[t],[.slice _ n _]=>(match look T t with|some { kind:=.sl _,.. }=>K (.int .i64 (A.num n))|_=>false)
 |.cap,[t],[.slice none _ c]=>(match look T t with|some { kind:=.sl _,.. }=>K (.int .i64 (A.num c))|_=>false)
 |.max,_,v::r=>qH (UW A.max v r) K
 |.min,_,v::r=>qH (UW A.min v r) K
 |_,_,_=>false
def vQ (A:Ar)(T:cN)(env:List (Nat × Value))(h:Heap)(op:Op)(K:Value→Bool):Bool :=
 match op with
 |.move x|.assign x=>qH (cY env x) K
 |.pick c a b=>qH (cY env c) fun u=>(match u with
  |.bool t=>wbr t (fun _=>qH (cY env a) K) (fun _=>qH (cY env b) K)
  |_=>false)
 |.nilCheck x=>qH (cY env x) fun u=>(match u with
  |.pointer (some a)=>K (.pointer (some a))
  |.func (.func f) fi c=>K (.func (.func f) fi c)
  |.func (.yield f) fi c=>K (.func (.yield f) fi c)
  |_=>false)
 |.load t x=>qH (cY env x) fun u=>TZ T h t u K
 |.fieldAddr s x f=>qH (cY env x) fun u=>wF T s u f K
 |.field s x f=>qH (cY env x) fun u=>RK T s u f K
 |.indexAddr t x i=>qH (cY env x) fun u=>qH (cY env i) fun j=>wE A T t u j K
 |.index t x i=>qH (cY env x) fun u=>qH (cY env i) fun j=>PU A T t u j K
 |.binOp op t x y _=>qH (cY env x) fun u=>qH (cY env y) fun v=>(match v with
  |.slice none _ _=>aGv T h op t u K
  |_=>aHe A T op t u v K)
 |.unOp op _ x=>qH (cY env x) fun u=>wun A op u K
 |.convert s d x=>qH (cY env x) fun u=>(match u,look T s,look T d with
  |.int _ n,some _,some { kind:=.int k,.. }=>eG (A.fits k n) (K (.int k n))
  |_,_,_=>false)
 |.makeFunc fn first cap=>(match fn,first.toList with
  |.func f,[]=>(match zI env cap.toList with|some l=>K (.func (.func f) #[] l.toArray)|none=>false)
  |_,_=>false)
 |.extract x i=>qH (cY env x) fun u=>(match u with
  |.tuple vs=>qH (vs.toList[i]?) K
  |_=>false)
 |.build t ps=>(match kE env ps.toList with|some l=>Q1 T t l K|none=>false)
 |.call c=>(match c.callee with
  |.builtin b=>(match kQ env c.args.toList with|some vs=>F6 A T b c.argTypes vs K|none=>false)
  |_=>false)
 |_=>false
def SD (T:cN)(h:Heap)(nx:Nat)(t:TypeId)(x v:Value)(K:tI):Bool :=
 match x with
 |.pointer (some ⟨k,o,none⟩) =>
  (match look T t,look h k with
  |some ti,some (.cells true _ sz cs) =>
   (match Nat.beq v.cells.size ti.size,(match v with|.tuple _=>false|_=>true) with
   |true,true=>eG (Nat.ble (o+v.cells.size) cs.length) (K undef (vX h k (.cells true false sz (dJ cs o v.cells.toList))) nx)
   |_,_=>false)
  |_,_=>false)
 |_=>false
def aHv (h:Heap)(nx:Nat)(v:Value)(K:tI):Bool :=
 match v with
 |.tuple _=>false
 |v=>K (.pointer (some ⟨nx,0,none⟩)) (bO h nx (.cells true false 1 v.cells.toList)) (nx+1)
def PV (T:cN)(h:Heap)(nx:Nat)(t:TypeId)(K:tI):Bool :=
 match look T t with
 |some ti=>K (.pointer (some ⟨nx,0,none⟩)) (bO h nx (.cells true false 1 ti.zv.cells.toList)) (nx+1)
 |none=>false
def sH (T:cN)(h:Heap)(nx:Nat)(t:TypeId)(len:Nat)(ps:List (Nat × Value))(K:tI):Bool :=
 match look T t with
 |some { kind:=.sl e,.. } =>
  (match look T e with
  |some ei =>
   (match Nat.ble (len*ei.size) 1000000,kJ ps with
   |true,true =>
    (match BI (fun i=>some (i*ei.size,ei.size)) ps (rep len ei.zv.cells.toList) with
    |some cells=>K (.slice (some ⟨nx,0,none⟩) len len) (bO h nx (.cells true false ei.size cells)) (nx+1)
    |none=>false)
   |_,_=>false)
  |none=>false)
 |_=>false
def whi (A:Ar)(n c:Nat)(hi:Option Value)(G:Nat→Bool):Bool :=
 match hi with
 |none=>G n
 |some (.int _ i)=>eG (A.andB (A.le 0 i) (A.le i (A.num c))) (G (A.toN i))
 |_=>false
def MA (A:Ar)(T:cN)(h:Heap)(nx:Nat)(t:TypeId)(x:Value)(lo hi mx:Option Value)(K:tI):Bool :=
 match look T t with
 |some { kind:=.sl e,.. } =>
  (match look T e with
  |none=>false
  |some ei =>
   match x,mx with
   |.slice none 0 0,none=>(match isZero lo,isZero hi with|true,true=>K (.slice none 0 0) h nx|_,_=>false)
   |.slice (some ⟨k,o,none⟩) n c,none =>
    whi A n c hi fun hN =>
     (match lo with
     |none=>K (.slice (some ⟨k,o,none⟩) hN c) h nx
     |some (.int _ l)=>eG (A.andB (A.andB (A.le 0 l) (A.le l (A.num hN))) (A.le (A.num hN) (A.num c)))
      (match look h k with
      |some (.cells _ _ _ _)=>eG (A.lt l (A.num c)) (K (.slice (some ⟨k,A.ix o l ei.size,none⟩) (A.subN hN (A.toN l)) (A.subN c (A.toN l))) h nx)
      |_=>false)
     |_=>false)
   |.slice (some ⟨k,o,none⟩) n c,some (.int _ 0) =>
    (match isZero lo,hi with|true,some (.int _ 0)=>K (.slice (some ⟨nx,0,none⟩) 0 0) (bO h nx .zero) (nx+1)|_,_=>false)
   |.slice (some ⟨k,o,none⟩) n c,some (.int _ m) =>
    (match lo,hi with
    |some (.int _ l),some (.int _ u)=>eG (A.andB (A.andB (A.le 0 l) (A.le l u)) (A.andB (A.le u m) (A.andB (A.le 1 m) (A.le m (A.num c))))) (K (.slice (some ⟨nx,0,none⟩) (A.subN (A.toN u) (A.toN l)) (A.subN (A.toN m) (A.toN l))) (V4 h nx k (A.ix o l ei.size) (A.subN (A.toN m) (A.toN l)*ei.size)) (nx+1))
    |none,some (.int _ u)=>eG (A.andB (A.le 0 u) (A.andB (A.le u m) (A.andB (A.le 1 m) (A.le m (A.num c))))) (K (.slice (some ⟨nx,0,none⟩) (A.toN u) (A.toN m)) (V4 h nx k o (A.toN m*ei.size)) (nx+1))
    |_,_=>false)
   |_,_=>false)
 |_=>false
def aG6 (h:Heap)(sz:Nat)(x:Value)(G:Nat→List Value→Bool):Bool :=
 match x with
 |.slice none 0 0=>G 0 []
 |.slice (some ⟨k,o,none⟩) m _ =>
  (match look h k with
  |some (.cells _ _ _ cs)=>eG (Nat.ble (o+m*sz) cs.length) (G m ((cs.drop o).take (m*sz)))
  |some .zero=>(match m with|0=>G 0 []|_=>false)
  |_=>false)
 |_=>false
def K9 (A:Ar)(T:cN)(h:Heap)(nx:Nat)(st xt:TypeId)(s x:Value)(K:tI):Bool :=
 match look T st,look T xt with
 |some { kind:=.sl e,.. },some { kind:=.int _,.. } =>
  (match look T e with
  |some ei=>(match s,x,Nat.ble ei.bytes 1000 with
   |.slice none 0 0,.int .i64 i,true=>eG (A.andB (A.lt 0 i) (A.le i 1000000000)) (K (.slice (some ⟨nx,0,none⟩) (A.toN i) (A.toN i)) (bO h nx (.cells true false ei.size (rep (A.toN i) ei.zv.cells.toList))) (nx+1))
   |_,_,_=>false)
  |none=>false)
 |some { kind:=.sl e,.. },some { kind:=.sl _,.. } =>
  (match look T e with
  |none=>false
  |some ei =>
   match Nat.ble ei.bytes 1000 with
   |false=>false
   |true =>
    aG6 h ei.size x fun m src =>
     (match s with
     |.slice none 0 0=>wbr (Nat.beq m 0) (fun _=>K (.slice none 0 0) h nx)
      (fun _=>eG (Nat.ble m 1000000000) (K (.slice (some ⟨nx,0,none⟩) m m) (bO h nx (.cells true false ei.size src)) (nx+1)))
     |.slice (some ⟨k,o,none⟩) n c =>
      (match look h k with
      |some .zero=>(match n,c with
       |0,0=>wbr (Nat.beq m 0) (fun _=>K (.slice (some ⟨k,o,none⟩) 0 0) h nx)
        (fun _=>eG (Nat.ble m 1000000000) (K (.slice (some ⟨nx,0,none⟩) m m) (bO h nx (.cells true false ei.size src)) (nx+1)))
       |_,_=>false)
      |some (.cells true _ sz cs) =>
       wbr (Nat.ble (n+m) c)
        (fun _=>eG (Nat.ble (o+(n+m)*ei.size) cs.length) (K (.slice (some ⟨k,o,none⟩) (n+m) c) (vX h k (.cells true false sz (dJ cs (o+n*ei.size) src))) nx))
        (fun _=>eG (A.andB (A.andB (Nat.ble (n+m) 1000000000) (Nat.ble (o+n*ei.size) cs.length)) (A.andB (Nat.beq (o+c*ei.size) cs.length) (Nat.beq sz ei.size)))
         (K (.slice (some ⟨nx,0,none⟩) (n+m) (n+m)) (bO (rem h k) nx (.cells true false ei.size ((cs.drop o).take (n*ei.size)++src))) (nx+1)))
      |_=>false)
     |_=>false))
 |_,_=>false
def aAh (h:Heap)(nx:Nat)(K:tI):Bool:=K (.map (some nx)) (bO h nx (.map [])) (nx+1)
def vY (A:Ar)(T:cN)(h:Heap)(nx:Nat)(t:TypeId)(l c:Value)(K:tI):Bool :=
 match look T t,l,c with
 |some { kind:=.sl e,.. },.int .i64 i,.int .i64 j =>
  (match look T e with
  |some ei=>eG (A.andB (A.andB (A.le 0 i) (A.le i j)) (A.andB (A.le j 1000000000) (Nat.ble ei.bytes 1000)))
   (K (.slice (some ⟨nx,0,none⟩) (A.toN i) (A.toN j)) (bO h nx (.cells true false ei.size (rep (A.toN j) ei.zv.cells.toList))) (nx+1))
  |none=>false)
 |_,_,_=>false
def C4 (A:Ar)(T:cN)(h:Heap)(t:TypeId)(x key:Value)(ok:Bool)(K:Value→Bool):Bool :=
 match look T t,x,key with
 |some { kind:=.mp kt et,.. },.map (some k),.agg cs =>
  (match look T kt,look T et,look h k with
  |some { kind:=.st fs,.. },some ei,some (.map es) =>
   (match iV T cs.toList fs,dF cs.toList,rJ A T kt (.agg cs) es with
   |true,true,some r =>
    (match ok,r with
    |true,some v=>K (.tuple #[v,.bool true])
    |true,none=>K (.tuple #[ei.zv,.bool false])
    |false,some v=>K v
    |false,none=>K ei.zv)
   |_,_,_=>false)
  |_,_,_=>false)
 |_,_,_=>false
def wJ (A:Ar)(T:cN)(h:Heap)(nx:Nat)(t:TypeId)(x key v:Value)(K:tI):Bool :=
 match look T t,x,key,(match v with|.agg _=>false|.tuple _=>false|_=>true) with
 |some { kind:=.mp kt _,.. },.map (some k),.agg cs,true =>
  (match look T kt,look h k with
  |some { kind:=.st fs,.. },some (.map es) =>
   (match iV T cs.toList fs,dF cs.toList,rJ A T kt (.agg cs) es with
   |true,true,some none=>K undef (vX h k (.map (es++[(.agg cs,v)]))) nx
   |_,_,_=>false)
  |_,_=>false)
 |_,_,_,_=>false
def QG (T:cN)(h:Heap)(nx:Nat)(t:TypeId)(x:Value)(K:tI):Bool :=
 match look T t,x with
 |some { kind:=.sl _,.. },.slice none 0 0=>K (.tuple #[]) h nx
 |some { kind:=.sl e,.. },.slice (some ⟨k,o,none⟩) n _ =>
  (match n with
  |0=>K (.tuple #[]) h nx
  |_=>(match look T e,look h k with
   |some ei,some (.cells true _ sz cs)=>eG (Nat.ble (o+n*ei.size) cs.length) (K (.tuple #[]) (vX h k (.cells true false sz (dJ cs o (rep n ei.zv.cells.toList)))) nx)
   |_,_=>false))
 |_,_=>false
def wop (A:Ar)(T:cN)(C:vP)(Y:vP)(env:List (Nat × Value))(h:Heap)(nx:Nat)(op:Op)(K:tI):Bool :=
 match op with
 |.store t x y=>qH (cY env x) fun p=>qH (cY env y) fun v=>SD T h nx t p v K
 |.alloc t=>PV T h nx t K
 |.box _ x=>qH (cY env x) fun v=>aHv h nx v K
 |.buildSlice t n ps=>(match kE env ps.toList with|some l=>sH T h nx t n l K|none=>false)
 |.slice t x lo hi mx=>qH (cY env x) fun v=>(match kN env lo,kN env hi,kN env mx with
  |some l,some u,some m=>MA A T h nx t v l u m K
  |_,_,_=>false)
 |.makeMap _ none=>aAh h nx K
 |.makeSlice t l c=>qH (cY env l) fun l=>qH (cY env c) fun c=>vY A T h nx t l c K
 |.lookup t m k ok=>qH (cY env m) fun x=>qH (cY env k) fun y=>C4 A T h t x y ok (fun v=>K v h nx)
 |.mapUpdate t m k u=>qH (cY env m) fun x=>qH (cY env k) fun y=>qH (cY env u) fun v=>wJ A T h nx t x y v K
 |.call c=>(match c.callee with
  |.builtin .append=>(match c.argTypes.toList,kQ env c.args.toList with|[st,xt],some [s,x]=>K9 A T h nx st xt s x K|_,_=>false)
  |.builtin .clear=>(match c.argTypes.toList,kQ env c.args.toList with|[t],some [x]=>QG T h nx t x K|_,_=>false)
  |.builtin _=>vQ A T env h op (fun v=>K v h nx)
  |.value f=>qH (cY env f) fun fv=>(match kQ env c.args.toList with
   |some l=>(match fv with
    |.func (.func g) first cap=>(match first.toList,kU cap.toList with
     |[],true=>C g (l++cap.toList) h nx K
     |_,_=>false)
    |.func (.yield q) first _=>(match first.toList with
     |[]=>Y q l h nx K
     |_=>false)
    |_=>false)
   |none=>false)
  |_=>false)
 |_=>vQ A T env h op (fun v=>K v h nx)
def zN (A:Ar)(ops:List Oper)(env:List (Nat × Value))(g:Option (Nat × Bool))(Y N:List (Nat × Value)→Bool):Bool :=
 match g with
 |none=>Y env
 |some (j,want)=>match fC ops j with
  |some o=>(match o.dst with
   |some t=>(match look env t with
    |some (.bool b)=>wbr (A.eqB b want) (fun _=>Y (put env t (.bool want))) (fun _=>N (put env t (.bool (!want))))
    |some (.tuple _)=>N env
    |_=>false)
   |none=>false)
  |none=>false
def D1 (tn:Nat)(env:List (Nat × Value))(dst:Option Nat)(v:Value)(K:List (Nat × Value)→Bool):Bool :=
 match dst with
 |none=>K env
 |some d=>match Nat.blt d tn with|true=>K (put env d v)|false=>false
def aDg (A:Ar)(T:cN)(C:vP)(Y:vP)(tn:Nat)(ops:List Oper):List Oper→List (Nat × Value)→Heap→Nat→pS→Bool
 |[],env,h,nx,K=>K env h nx
 |o :: r,env,h,nx,K=>zN A ops env o.guard
    (fun env=>wop A T C Y env h nx o.op fun v h' nx'=>D1 tn env o.dst v fun env'=>aDg A T C Y tn ops r env' h' nx' K)
    (fun env=>D1 tn env o.dst undef fun env'=>aDg A T C Y tn ops r env' h nx K)
def FX (A:Ar)(T:cN)(C:vP)(hJ:Heap)(nx:Nat)(env:List (Nat × Value))(op:Op)(K:Value→Bool):Bool :=
 match op with
 |.load _ _=>vQ A T env hJ op K
 |.lookup t m k ok=>qH (cY env m) fun x=>qH (cY env k) fun y=>C4 A T hJ t x y ok K
 |.slice t x lo hi mx=>qH (cY env x) fun v=>(match kN env lo,kN env hi,kN env mx with
  |some l,some u,some m=>MA A T hJ nx t v l u m (fun v _ nx'=>match Nat.beq nx' nx with|true=>K v|false=>false)
  |_,_,_=>false)
 |.call c=>(match c.callee with
  |.builtin _=>vQ A T env [] op K
  |.value f=>qH (cY env f) fun fv=>(match kQ env c.args.toList with
   |some l=>(match fv with
    |.func (.func g) first cap=>(match first.toList,kU cap.toList with
     |[],true=>C g (l++cap.toList) (eD hJ) nx (fun v _ _=>match gT v with|true=>K v|false=>false)
     |_,_=>false)
    |_=>false)
   |none=>false)
  |_=>false)
 |_=>vQ A T env [] op K
def NS (A:Ar)(T:cN)(C:vP)(tn:Nat)(ops:List Oper)(hJ:Heap)(nx:Nat):List Nat→List (Nat × Value)→(List (Nat × Value)→Bool)→Bool
 |[],env,K=>K env
 |i::r,env,K=>match fC ops i with
  |none=>false
  |some o=>zN A ops env o.guard
   (fun env=>FX A T C hJ nx env o.op fun v=>D1 tn env o.dst v fun env=>NS A T C tn ops hJ nx r env K)
   (fun env=>D1 tn env o.dst undef fun env=>NS A T C tn ops hJ nx r env K)
def C7 (T:cN)(tn:Nat)(ops:List Oper):List Nat→List (Nat × Value)→Heap→Nat→pS→Bool
 |[],env,h,nx,K=>K env h nx
 |i::r,env,h,nx,K=>match fC ops i with
  |some { op:=.alloc t,dst:=some d,.. }=>(match look T t with
   |some ti=>D1 tn env (some d) (.pointer (some ⟨nx,0,none⟩)) fun env=>C7 T tn ops r env (bO h nx (.cells true false 1 ti.zv.cells.toList)) (nx+1) K
   |none=>false)
  |_=>false
def NZ (A:Ar)(T:cN)(C:vP)(Y:vP)(tn:Nat)(ops:List Oper)(hJ:Heap):List (Nat × Bool)→List (Nat × Value)→Heap→Nat→pS→Bool
 |[],env,h,nx,K=>K env h nx
 |(i,chk)::r,env,h,nx,K=>match fC ops i with
  |none=>false
  |some o=>zN A ops env o.guard
   (fun env=>eG (yB env hJ chk o.op) (wop A T C Y env h nx o.op fun v h' nx'=>D1 tn env o.dst v fun env'=>NZ A T C Y tn ops hJ r env' h' nx' K))
   (fun env=>D1 tn env o.dst undef fun env'=>NZ A T C Y tn ops hJ r env' h nx K)
def S9 (A:Ar)(T:cN)(C:vP)(Y:vP)(tn:Nat)(ops:List Oper)(p:fE)(env:List (Nat × Value))(h:Heap)(nx:Nat)(K:pS):Bool :=
 NS A T C tn ops (HG T ops env p h) nx p.head env fun env1 =>
  C7 T tn ops p.allocs env1 h nx fun env2 h2 nx2 =>
   NZ A T C Y tn ops (HG T ops env p h) p.tail env2 h2 nx2 K
def aAA (A:Ar)(T:cN)(C:vP)(Y:vP)(tn:Nat)(ops:List Oper)(o:Oper)(e:List (Nat × Value))(h:Heap)(nx:Nat)(K:pS):Bool :=
 zN A ops e o.guard (fun e=>wop A T C Y e h nx o.op fun v h' nx'=>D1 tn e o.dst v fun e'=>K e' h' nx') (fun e=>D1 tn e o.dst undef fun e'=>K e' h nx)
def wall (F:Nat→Bool):List Nat→Bool
 |[]=>true
 |i::r=>F i&&wall F r
def aDT (A:Ar)(T:cN)(C:vP)(Y:vP)(tn:Nat)(ops:List Oper)(K:pS):Nat→List Nat→pS
 |0,_=>K
 |n+1,done=>fun e h nx=>match eP ops done ops 0 with
  |[]=>K e h nx
  |i::r=>wall (fun j=>match fC ops j with|some o=>aAA A T C Y tn ops o e h nx (aDT A T C Y tn ops K n (j::done))|none=>false) (i::r)
def JT (A:Ar)(T:cN)(C:vP)(Y:vP)(tn:Nat)(ops:List Oper)(K:pS):Nat→List Nat→pS
 |0,_=>K
 |n+1,done=>fun e h nx=>match eP ops done ops 0 with
  |[]=>K e h nx
  |j::_=>(match fC ops j with|some o=>aAA A T C Y tn ops o e h nx (JT A T C Y tn ops K n (j::done))|none=>false)
def aC6 (A:Ar)(T:cN)(C:vP)(Y:vP)(tn:Nat)(ops:Array Oper)(e:List (Nat × Value))(h:Heap)(nx:Nat)(K:pS):Bool :=
 JT A T C Y tn ops.toList (fun e0 h0 n0=>DW (QJ e0 []) fun e0=>DW (U9 nx (YU nx e0 e0 h0 h0) h0) fun h0 =>
  aDT A T C Y tn ops.toList (fun e1 h1 _=>aE5 nx (YU nx e0 e1 h0 h1) e0 h0 n0 e1 h1) ops.size [] e h nx&&K e0 h0 n0) ops.size [] e h nx
def aBR (F:pS→pS):Nat→pS
 |0,_,_,_=>false
 |n+1,e,h,nx=>F (aBR F n) e h nx
def pT (A:Ar)(T:cN)(C:vP)(Y:vP)(tn:Nat)(PL:Nat→Option fE)(M:Nat)(R:VRB):Code→pS→(Nat→pS)→pS→pS
 |.skip,kn,_,_=>kn
 |.region id ops draw,kn,_,_=>fun e h nx=>match draw with
  |false=>aDg A T C Y tn ops.toList ops.toList e h nx kn
  |true=>(match PL id with|some p=>S9 A T C Y tn ops.toList p e h nx kn|none=>aC6 A T C Y tn ops e h nx kn)
 |.seq a b,kn,kx,kr=>pT A T C Y tn PL M R a (pT A T C Y tn PL M R b kn kx kr) kx kr
 |.cond c t f,kn,kx,kr=>fun e h nx=>match cY e c with
  |some (.bool b)=>wbr b (fun _=>pT A T C Y tn PL M R t kn kx kr e h nx) (fun _=>pT A T C Y tn PL M R f kn kx kr e h nx)
  |_=>false
 |.block id b,kn,kx,kr=>pT A T C Y tn PL M R b kn (fun j=>match Nat.beq j id with|true=>kn|false=>kx j) kr
 |.loop b,_,kx,kr=>aBR (fun k=>pT A T C Y tn PL M R b k kx kr) M
 |.rangeFunc g ps as bd,kn,kx,kr=>R g ps as bd kn kx kr
 |.exit id,_,kx,_=>kx id
 |.ret,_,_,kr=>kr
 |.label _,kn,_,_=>kn
 |.scope b,kn,kx,kr=>pT A T C Y tn PL M R b kn kx kr
 |_,_,_,_=>fun _ _ _=>false
def zF (T:cN)(e:List (Nat × Value))(h:Heap):List ResultVar→(List Value→Bool)→Bool
 |[],K=>K []
 |.tmp t::r,K=>qH (look e t) fun v=>zF T e h r fun l=>K (v::l)
 |.cell a t::r,K=>qH (look e a) fun p=>TZ T h t p fun v=>zF T e h r fun l=>K (v::l)
def aJb (T:cN)(fn:Func)(K:tI):pS:=fun e h nx=>zF T e h fn.results.toList fun l =>
 match l with
 |[v]=>K v h nx
 |l=>match IC l with|true=>K (.tuple l.toArray) h nx|false=>false
def Z2 (C:vP)(f tn:Nat):VRB:=fun g ps as bd kn kx kr e h nx =>
 qH (cY e g) fun gv=>match gv with
  |.func (.func q) first cap=>(match first.toList,kU cap.toList with
   |[],true=>C q (.func (.yield (nx+1)) #[] #[]::cap.toList)
    (bO (bO h nx .deferred) (nx+1) (.loop { state:=.ready,pending:=none,fn:=f,env:=e,tn:=tn,params:=ps.toList,assign:=as,body:=bd,defers:=nx })) (nx+2) fun _ h' nx' =>
    (match look h' (nx+1),look h' nx with
    |some (.loop l),some .deferred=>(match l.state,l.pending with
     |.busy,_=>false
     |_,none=>kn e (gL h' nx) nx'
     |_,some (.exit id)=>kx id e (gL h' nx) nx'
     |_,some .ret=>kr e (gL h' nx) nx'
     |_,_=>false)
    |_,_=>false)
   |_,_=>false)
  |_=>false
def OC:VRB:=fun _ _ _ _ _ _ _ _ _ _=>false
def aAu (q:Nat)(K:tI)(j:Option Code):pS:=fun _ h nx =>
 match look h q with
 |some (.loop l)=>K (.bool j.isNone) (vX h q (.loop { l with state:=if j.isNone then .ready else .done,pending:=j })) nx
 |_=>false
def QV (A:Ar)(T:cN)(C:vP)(Y:vP)(PL:Nat→Nat→Option fE)(M:Nat):vP:=fun q args h nx K =>
 match look h q with
 |some (.loop l)=>(match sO l.tn l.env l.params args,dY (PL l.fn) l.assign&&dY (PL l.fn) l.body with
  |some e0,true=>pT A T C Y l.tn (PL l.fn) M OC l.assign (fun e1 h1 nx1 =>
   match look h1 q with
   |some (.loop l1)=>(match l1.state with
    |.ready=>pT A T C Y l.tn (PL l.fn) M OC l.body (aAu q K none) (fun id=>aAu q K (some (.exit id))) (aAu q K (some .ret)) e1 (vX h1 q (.loop { l1 with state:=.busy })) nx1
    |_=>false)
   |_=>false) (fun _ _ _ _=>false) (fun _ _ _=>false) e0 h nx
  |_,_=>false)
 |_=>false
def aBt (c:CM)(XB:Nat→Option (List Value→Heap→Nat→tI→Bool))(M:Nat)(C:vP)(Y:vP):vP:=fun f args h nx K =>
 match c.X f with
 |some _=>(match XB f with|some xb=>xb args h nx K|none=>false)
 |none=>match c.FT f with
  |none=>false
  |some fn=>(match fn.body,Nat.ble args.length fn.ntmps with
   |some b,true =>
    let fin:pS:=aJb c.T fn fun v h' nx'=>K v h' nx'
    pT c.A c.T C Y fn.ntmps (c.PL f) M (Z2 C f fn.ntmps) b fin (fun _ _ _ _=>false) fin (rB 0 args) h nx
   |_,_=>false)
def aIo (h:Heap)(nx:Nat)(K:tI):tI:=fun v h' nx'=>match gT v with
 |true=>K v h nx
 |false=>K v (app (oV nx h' h') h) nx'
def aGY (PR:Nat→Bool)(C:vP):vP:=fun f args h nx K=>match PR f with
 |true=>C f args (eD h) nx (aIo h nx K)
 |false=>C f args h nx K
def A9 (c:CM)(XB:Nat→Option (List Value→Heap→Nat→tI→Bool)):Nat→Bool→vP
 |0,_=>fun _ _ _ _ _=>false
 |d+1,false=>aGY c.PR (aBt c XB c.M (A9 c XB d false) (A9 c XB d true))
 |d+1,true=>QV c.A c.T (A9 c XB d false) (A9 c XB d true) c.PL c.M
end Go.Aw
end
