/-
  Parts of a proof. No condition.
-/
import Derived.Test.YtjahkcbdecgbhaaGreatQAj
set_option linter.unusedSimpArgs false
set_option linter.unusedVariables false
noncomputable section
namespace Go.Aw
open Go.RowKit
def aBQ:Int→Int→Bool
 |.ofNat a,.ofNat b=>Nat.beq a b
 |.negSucc a,.negSucc b=>Nat.beq a b
 |_,_=>false
theorem aB9 {a b:Int}(h:aBQ a b=true):a=b:=by
 cases a <;> cases b <;> simp only [aBQ] at h <;> first|cases h;done|rw [beq_true h]
def WU:Bool→Bool→Bool
 |true,true=>true
 |false,false=>true
 |_,_=>false
theorem H8 {a b:Bool}(h:WU a b=true):a=b:=by cases a <;> cases b <;> first|rfl|cases h
def U3:Value→Value→Bool
 |.bool a,.bool b=>WU a b
 |.int k a,.int j b=>kEq k j&&aBQ a b
 |.slice none n c,.slice none n' c'=>Nat.beq n n'&&Nat.beq c c'
 |.slice (some ⟨a,o,none⟩) n c,.slice (some ⟨a',o',none⟩) n' c'=>Nat.beq a a'&&Nat.beq o o'&&Nat.beq n n'&&Nat.beq c c'
 |.pointer none,.pointer none=>true
 |.pointer (some ⟨a,o,none⟩),.pointer (some ⟨a',o',none⟩)=>Nat.beq a a'&&Nat.beq o o'
 |.map none,.map none=>true
 |.map (some a),.map (some a')=>Nat.beq a a'
 |.nilFunc,.nilFunc=>true
 |.nilIface,.nilIface=>true
 |_,_=>false
theorem N8 {v u:Value}(h:U3 v u=true):v=u:=by
 unfold U3 at h;split at h
 ·rw [H8 h]
 ·simp only [Bool.and_eq_true] at h;rw [qB h.1,aB9 h.2]
 ·simp only [Bool.and_eq_true] at h;rw [beq_true h.1,beq_true h.2]
 ·simp only [Bool.and_eq_true] at h;obtain⟨⟨⟨h1,h2⟩,h3⟩,h4⟩:=h;rw [beq_true h1,beq_true h2,beq_true h3,beq_true h4]
 ·rfl
 ·simp only [Bool.and_eq_true] at h;rw [beq_true h.1,beq_true h.2]
 ·rfl
 ·rw [beq_true h]
 ·rfl
 ·rfl
 ·cases h
def GF:List Value→List Value→Bool
 |[],[]=>true
 |a::r,b::s=>U3 a b&&GF r s
 |_,_=>false
theorem A1:∀ {l m:List Value},GF l m=true→l=m
 |[],[],_=>rfl
 |[],_::_,h=>by cases h
 |_::_,[],h=>by cases h
 |a::r,b::s,h=>by
  simp only [GF,Bool.and_eq_true] at h;rw [N8 h.1,A1 h.2]
def TX:Fn→Fn→Bool
 |.func a,.func b=>Nat.beq a b
 |.yield a,.yield b=>Nat.beq a b
 |_,_=>false
theorem Y7 {f g:Fn}(h:TX f g=true):f=g:=by
 unfold TX at h;split at h
 ·rw [beq_true h]
 ·rw [beq_true h]
 ·cases h
def PI:Value→Value→Bool
 |.func f a c,.func f' a' c'=>TX f f'&&GF a.toList a'.toList&&GF c.toList c'.toList
 |a,b=>U3 a b
theorem GB {v u:Value}(h:PI v u=true):v=u:=by
 unfold PI at h;split at h
 ·simp only [Bool.and_eq_true] at h;obtain⟨⟨h1,h2⟩,h3⟩:=h;rw [Y7 h1,show _=_ from Array.ext' (A1 h2),show _=_ from Array.ext' (A1 h3)]
 exact N8 h
def KT:List Value→List Value→Bool
 |[],[]=>true
 |a::r,b::s=>PI a b&&KT r s
 |_,_=>false
theorem yT:∀ {l m:List Value},KT l m=true→l=m
 |[],[],_=>rfl
 |[],_::_,h=>by cases h
 |_::_,[],h=>by cases h
 |a::r,b::s,h=>by
  simp only [KT,Bool.and_eq_true] at h;rw [GB h.1,yT h.2]
def O4:Value→Value→Bool
 |.agg a,.agg b=>KT a.toList b.toList
 |a,b=>PI a b
theorem GU {v u:Value}(h:O4 v u=true):v=u:=by
 unfold O4 at h;split at h
 ·rw [show _=_ from Array.ext' (yT h)]
 exact GB h
def LB:List Value→List Value→Bool
 |[],[]=>true
 |a::r,b::s=>O4 a b&&LB r s
 |_,_=>false
theorem J8:∀ {l m:List Value},LB l m=true→l=m
 |[],[],_=>rfl
 |[],_::_,h=>by cases h
 |_::_,[],h=>by cases h
 |a::r,b::s,h=>by
  simp only [LB,Bool.and_eq_true] at h;rw [GU h.1,J8 h.2]
def OZ:Value→Value→Bool
 |.tuple a,.tuple b=>LB a.toList b.toList
 |a,b=>O4 a b
theorem GM {v u:Value}(h:OZ v u=true):v=u:=by
 unfold OZ at h;split at h
 ·rw [show _=_ from Array.ext' (J8 h)]
 exact GU h
def aDD (n:Nat):Value→Bool
 |.slice (some a) _ _=>Nat.blt a.block n
 |.pointer (some a)=>Nat.blt a.block n
 |.map (some k)=>Nat.blt k n
 |v=>gS v
theorem U9 {n:Nat}{v:Value}(h:aDD n v=true):oP (mB id) n v:=by
 unfold aDD at h;split at h
 ·exact⟨Nat.le_of_ble_eq_true h,fun e=>by cases e⟩
 ·exact⟨Nat.le_of_ble_eq_true h,rfl⟩
 ·exact⟨Nat.le_of_ble_eq_true h,rfl⟩
 ·cases v <;> simp [gS] at h <;> first|trivial|(rename_i a;cases a <;> simp [gS] at h <;> trivial)|(simp [oP];done)|skip
  all_goals (first|(rename_i a _ _;cases a <;> simp [gS] at h <;> simp [oP])|skip)
def aFH (n:Nat):List Value→Bool
 |[]=>true
 |v::r=>aDD n v&&aFH n r
theorem WQ {n:Nat}:∀ {l:List Value},aFH n l=true→∀ v∈l,oP (mB id) n v
 |[],_,v,hv=>by cases hv
 |x::r,h,v,hv=>by
  simp only [aFH,Bool.and_eq_true] at h;cases hv with
  |head=>exact U9 h.1
  |tail _ hm=>exact WQ h.2 v hm
def aHP (n:Nat):Fn→Bool
 |.func _=>true
 |.yield l=>Nat.blt l n
 |_=>false
theorem aDC {n:Nat}{f:Fn}(h:aHP n f=true):TR (mB id) n f:=by
 unfold aHP at h;split at h
 ·trivial
 ·exact⟨Nat.le_of_ble_eq_true h,rfl⟩
 ·cases h
def aCn (n:Nat):Value→Bool
 |.func f _ c=>aHP n f&&aFH n c.toList
 |v=>aDD n v
theorem dV {n:Nat}{v:Value}(h:aCn n v=true):DN n v:=by
 unfold aCn at h;split at h
 ·simp only [Bool.and_eq_true] at h;exact⟨aDC h.1,WQ h.2⟩
 rename_i hf;have h2:=U9 h;cases v <;> first|exact h2|exact absurd rfl (hf _ _ _)
def RZ (n:Nat):List Value→Bool
 |[]=>true
 |v::r=>aCn n v&&RZ n r
theorem cO {n:Nat}:∀ {l:List Value},RZ n l=true→∀ v∈l,DN n v
 |[],_,v,hv=>by cases hv
 |x::r,h,v,hv=>by
  simp only [RZ,Bool.and_eq_true] at h;cases hv with
  |head=>exact dV h.1
  |tail _ hm=>exact cO h.2 v hm
def aDK (n:Nat):Value→Bool
 |.agg c=>RZ n c.toList
 |v=>aCn n v
theorem VS {n:Nat}{v:Value}(h:aDK n v=true):lB (mB id) n v:=by
 unfold aDK at h;split at h
 ·exact fun x hx=>cO h x hx
 exact iV (dV h)
def XA (n:Nat):List Value→Bool
 |[]=>true
 |v::r=>aDK n v&&XA n r
theorem O5 {n:Nat}:∀ {l:List Value},XA n l=true→∀ v∈l,lB (mB id) n v
 |[],_,v,hv=>by cases hv
 |x::r,h,v,hv=>by
  simp only [XA,Bool.and_eq_true] at h;cases hv with
  |head=>exact VS h.1
  |tail _ hm=>exact O5 h.2 v hm
def aD6 (n:Nat):Value→Bool
 |.tuple c=>XA n c.toList
 |v=>aDK n v
theorem lR {n:Nat}{v:Value}(h:aD6 n v=true):C3 n v:=by
 unfold aD6 at h;split at h
 ·exact fun x hx=>O5 h x hx
 exact l9 (VS h)
def nm (ρ:List (Nat × Nat))(k:Nat):Nat:=match look ρ k with|some j=>j|none=>k
def VP (σ:Nat→Nat)(m:Nat):List (Value × Value)→List (Value × Value)→Bool
 |[],[]=>true
 |a::r,b::s=>O4 b.1 a.1&&PI b.2 (cD σ a.2)&&aCn m a.2&&VP σ m r s
 |_,_=>false
theorem O8 {σ:Nat→Nat}{m:Nat}:∀ {l l':List (Value × Value)},VP σ m l l'=true→l'=l.map (fun e=>(e.1,cD σ e.2))∧∀ e∈l,DN m e.2
 |[],[],_=>⟨rfl,fun e he=>by cases he⟩
 |[],_::_,h=>by cases h
 |_::_,[],h=>by cases h
 |a::r,b::s,h=>by
  simp only [VP,Bool.and_eq_true] at h;obtain⟨⟨⟨h1,h2⟩,h3⟩,h4⟩:=h;obtain⟨i1,i2⟩:=O8 h4;refine⟨?_,fun e he=>?_⟩
  ·rw [List.map_cons,← i1,← GU h1,← GB h2]
  ·cases he with
   |head=>exact dV h3
   |tail _ hm=>exact i2 e hm
def aBF (σ:Nat→Nat)(m:Nat):a8→a8→Bool
 |.cells wr g sz cs,.cells wr' g' sz' cs'=>RZ m cs&&WU wr wr'&&WU g g'&&Nat.beq sz sz'&&KT cs' (cs.map (cD σ))
 |.map es,.map es'=>VP σ m es es'
 |.zero,.zero=>true
 |_,_=>false
theorem aCu {σ:Nat→Nat}{m:Nat}{o o':a8}(h:aBF σ m o o'=true):bQ σ m o o':=by
 unfold aBF at h;split at h
 ·simp only [Bool.and_eq_true] at h;obtain⟨⟨⟨⟨h1,h2⟩,h3⟩,h4⟩,h5⟩:=h;exact⟨H8 h2,H8 h3,beq_true h4,yT h5,cO h1⟩
 ·exact O8 h
 ·trivial
 ·cases h
def YA (b:Nat)(ρ:List (Nat × Nat))(m:Nat)(h':Heap):Heap→Bool
 |[]=>true
 |(k,o)::r=>Nat.blt k m&&(match Nat.blt k b with|true=>true|false=>(match look ρ k with|some _=>true|none=>false))&&(match look h' (nm ρ k) with|some o'=>aBF (nm ρ) m o o'|none=>false)&&YA b ρ m h' r
theorem O7 {b:Nat}{ρ:List (Nat × Nat)}{m:Nat}{h':Heap}:∀ {h:Heap},YA b ρ m h' h=true→∀ k o,look h k=some o→k<m∧(b≤k→∃ j,look ρ k=some j)∧∃ o',look h' (nm ρ k)=some o'∧bQ (nm ρ) m o o'
 |[],_,k,o,hk=>by cases hk
 |(j,q)::r,h,k,o,hk=>by
  simp only [YA,Bool.and_eq_true] at h;obtain⟨⟨⟨h1,h2⟩,h3⟩,h4⟩:=h;rw [aE] at hk;split at hk
  ·rename_i hb;have:=beq_true hb;subst this;injection hk with hk;subst hk;refine⟨Nat.le_of_ble_eq_true h1,fun hb=>?_,?_⟩
   ·split at h2
    ·rename_i hlt;have:=Nat.le_of_ble_eq_true hlt;omega
    split at h2
    ·rename_i x hx;exact⟨x,hx⟩
    ·cases h2
   split at h3
   ·rename_i o' ho';exact⟨o',ho',aCu h3⟩
   ·cases h3
  exact O7 h4 k o hk
theorem U0 {α:Type}{k:Nat}{o:α}{p:Prop}(h:look [] k=some o):p:=by cases h
def aFx (b:Nat):List (Nat × Nat)→Bool
 |[]=>true
 |(k,j)::r=>Nat.ble b k&&Nat.ble b j&&!(pH j (r.map (·.2)))&&aFx b r
theorem UW {b:Nat}:∀ {ρ:List (Nat × Nat)},aFx b ρ=true→(∀ k j,look ρ k=some j→b≤k∧b≤j∧j∈ρ.map (·.2))∧∀ k k' j,look ρ k=some j→look ρ k'=some j→k=k'
 |[],_=>⟨fun k j h=>U0 h,fun k k' j h=>U0 h⟩
 |(a,c)::r,h=>by
  simp only [aFx,Bool.and_eq_true,Bool.not_eq_true'] at h;obtain⟨⟨⟨h1,h2⟩,h3⟩,h4⟩:=h;obtain⟨i1,i2⟩:=UW h4;have h1:=Nat.le_of_ble_eq_true h1;have h2:=Nat.le_of_ble_eq_true h2;have hn:c∉r.map (·.2):=fun hm=>(by rw [dP.2 hm] at h3;cases h3);refine⟨fun k j hl=>?_,fun k k' j hl hl'=>?_⟩
  ·rw [aE] at hl;split at hl
   ·rename_i hb;injection hl with hl;subst hl;rw [← beq_true hb];exact⟨h1,h2,.head _⟩
   obtain⟨q1,q2,q3⟩:=i1 k j hl;exact⟨q1,q2,.tail _ q3⟩
  rw [aE] at hl hl';split at hl <;> split at hl'
  ·rename_i hb _ hb';exact (beq_true hb).symm.trans (beq_true hb')
  ·injection hl with hl;subst hl;exact absurd (i1 k' _ hl').2.2 hn
  ·injection hl' with hl';subst hl';exact absurd (i1 k _ hl).2.2 hn
  exact i2 k k' j hl hl'
def aDF (ρ:List (Nat × Nat))(m:Nat)(e':List (Nat × Value)):List (Nat × Value)→Bool
 |[]=>true
 |(t,v)::r=>(match look e' t with|some v'=>OZ v' (jX (nm ρ) v)|none=>false)&&aD6 m v&&aDF ρ m e' r
theorem V1 {ρ:List (Nat × Nat)}{m:Nat}{e':List (Nat × Value)}:∀ {e:List (Nat × Value)},aDF ρ m e' e=true→∀ t v,look e t=some v→look e' t=some (jX (nm ρ) v)∧C3 m v
 |[],_,t,v,h=>by cases h
 |(j,q)::r,h,t,v,hl=>by
  simp only [aDF,Bool.and_eq_true] at h;obtain⟨⟨h1,h2⟩,h3⟩:=h;rw [aE] at hl;split at hl
  ·rename_i hb;have:=beq_true hb;subst this;injection hl with hl;subst hl;refine⟨?_,lR h2⟩;split at h1
   ·rename_i v' hv';rw [hv',GM h1]
   ·cases h1
  exact V1 h3 t v hl
def aFz (b:Nat)(ρ:List (Nat × Nat))(e0:List (Nat × Value))(h0:Heap)(n0:Nat)(e:List (Nat × Value))(h:Heap):Bool :=
 Nat.ble b n0&&aFx b ρ&&aDF ρ n0 e e0&&YA b ρ n0 h h0
theorem V9 {b:Nat}{ρ:List (Nat × Nat)}{e0:List (Nat × Value)}{h0:Heap}{n0:Nat}{e:List (Nat × Value)}{h:Heap}{nx:Nat}(hb:aFz b ρ e0 h0 n0 e h=true):u7 b (nm ρ) e0 h0 n0 e h nx:=by
 simp only [aFz,Bool.and_eq_true] at hb;obtain⟨⟨⟨h1,h2⟩,h3⟩,h4⟩:=hb;obtain⟨r1,r2⟩:=UW h2;have hh:=O7 h4;have hfix:∀ k,k<b→nm ρ k=k:=fun k hk=>by
  unfold nm;split
  ·rename_i j hj;have:=(r1 k j hj).1;omega
  rfl
 refine⟨V1 h3,fun k o hk=>⟨(hh k o hk).1,(hh k o hk).2.2⟩,fun k k' o o' hk hk' he=>?_,hfix,Nat.le_of_ble_eq_true h1⟩;have a1:=(hh k o hk).2.1;have a2:=(hh k' o' hk').2.1;by_cases c1:k<b <;> by_cases c2:k'<b
 ·rw [hfix k c1,hfix k' c2] at he;exact he
 ·obtain⟨j,hj⟩:=a2 (by omega);have hn:nm ρ k'=j:=(by unfold nm;rw [hj]);have:=(r1 k' j hj).2.1;rw [hfix k c1,hn] at he;omega
 ·obtain⟨j,hj⟩:=a1 (by omega);have hn:nm ρ k=j:=(by unfold nm;rw [hj]);have:=(r1 k j hj).2.1;rw [hfix k' c2,hn] at he;omega
 obtain⟨j,hj⟩:=a1 (by omega);obtain⟨j',hj'⟩:=a2 (by omega);have hn:nm ρ k=j:=(by unfold nm;rw [hj]);have hn':nm ρ k'=j':=(by unfold nm;rw [hj']);rw [hn,hn'] at he;subst he;exact r2 k k' j hj hj'
def prP (b:Nat):Value→Value→List (Nat × Nat)→List (Nat × Nat)
 |.slice (some a) _ _,.slice (some c) _ _,r=>(match Nat.ble b a.block with|true=>(a.block,c.block)::r|false=>r)
 |.pointer (some a),.pointer (some c),r=>(match Nat.ble b a.block with|true=>(a.block,c.block)::r|false=>r)
 |.map (some a),.map (some c),r=>(match Nat.ble b a with|true=>(a,c)::r|false=>r)
 |_,_,r=>r
def aJx (b:Nat):List Value→List Value→List (Nat × Nat)→List (Nat × Nat)
 |v::l,u::m,r=>prP b v u (aJx b l m r)
 |_,_,r=>r
def prS (b:Nat):Value→Value→List (Nat × Nat)→List (Nat × Nat)
 |.func _ _ c,.func _ _ c',r=>aJx b c.toList c'.toList r
 |v,u,r=>prP b v u r
def prL (b:Nat):List Value→List Value→List (Nat × Nat)→List (Nat × Nat)
 |v::l,u::m,r=>prS b v u (prL b l m r)
 |_,_,r=>r
def prA (b:Nat):Value→Value→List (Nat × Nat)→List (Nat × Nat)
 |.agg c,.agg c',r=>prL b c.toList c'.toList r
 |v,u,r=>prS b v u r
def aKf (b:Nat):List Value→List Value→List (Nat × Nat)→List (Nat × Nat)
 |v::l,u::m,r=>prA b v u (aKf b l m r)
 |_,_,r=>r
def prT (b:Nat):Value→Value→List (Nat × Nat)→List (Nat × Nat)
 |.tuple c,.tuple c',r=>aKf b c.toList c'.toList r
 |v,u,r=>prA b v u r
def prM (b:Nat):List (Value × Value)→List (Value × Value)→List (Nat × Nat)→List (Nat × Nat)
 |v::l,u::m,r=>prS b v.2 u.2 (prM b l m r)
 |_,_,r=>r
def prO (b:Nat):Option a8→Option a8→List (Nat × Nat)→List (Nat × Nat)
 |some (.cells _ _ _ cs),some (.cells _ _ _ cs'),r=>prL b cs cs' r
 |some (.map es),some (.map es'),r=>prM b es es' r
 |_,_,r=>r
def prE (b:Nat)(e':List (Nat × Value)):List (Nat × Value)→List (Nat × Nat)→List (Nat × Nat)
 |[],q=>q
 |(t,v)::r,q=>match look e' t with|some u=>prT b v u (prE b e' r q)|none=>prE b e' r q
def grow (b:Nat)(h h':Heap):Nat→List (Nat × Nat)→List (Nat × Nat)→List (Nat × Nat)
 |0,_,d=>d
 |_+1,[],d=>d
 |n+1,(j,k)::r,d=>match look d j with
  |some _=>grow b h h' n r d
  |none=>grow b h h' n (prO b (look h j) (look h' k) r) ((j,k)::d)
def aGM (b:Nat)(h':Heap):Heap→List (Nat × Nat)→List (Nat × Nat)
 |[],r=>r
 |(k,o)::l,r=>match Nat.blt k b with|true=>prO b (some o) (look h' k) (aGM b h' l r)|false=>aGM b h' l r
def aBN (b:Nat)(e e':List (Nat × Value))(h h':Heap):List (Nat × Nat):=grow b h h' 10000 (prE b e' e (aGM b h' h [])) []
def GX {α:Type}:List α→(List α→Bool)→Bool
 |[],k=>k []
 |x::r,k=>GX r fun r=>k (x::r)
theorem BF {α:Type}:∀ (l:List α) (k:List α→Bool),GX l k=k l
 |[],k=>rfl
 |x::r,k=>by rw [GX,BF r]
def RV:List (Nat × Value)→List Nat→List (Nat × Value)
 |[],_=>[]
 |(t,v)::r,seen=>match pH t seen with|true=>RV r seen|false=>(t,v)::RV r (t::seen)
def UR (b:Nat)(ρ:List (Nat × Nat)):Heap→Heap
 |[]=>[]
 |(k,o)::r=>match Nat.blt k b with
  |true=>(k,o)::UR b ρ r
  |false=>(match look ρ k with|some _=>(k,o)::UR b ρ r|none=>UR b ρ r)
end Go.Aw
end

noncomputable section
namespace Go.Aw
abbrev uO:=Value→Heap→Nat→Bool
abbrev qM:=List (Nat × Value)→Heap→Nat→Bool
abbrev xA:=Nat→List Value→Heap→Nat→uO→Bool
abbrev VRB:=Operand→Array Tmp→Code→Code→qM→(Nat→qM)→qM→qM
def qY (x:Option Value)(K:Value→Bool):Bool:=match x with|some v=>K v|none=>false
def wbr (b:Bool)(A B:Unit→Bool):Bool:=match b with|true=>A ()|false=>B ()
def eN (b:Bool)(A:Bool):Bool:=match b with|true=>A|false=>false
def XY (T:cU)(h:Heap)(t:TypeId)(x:Value)(K:Value→Bool):Bool :=
 match x with
 |.pointer (some ⟨k,o,none⟩) =>
  match look T t,look h k with
  |some ti,some (.cells _ _ _ cs) =>
   match ti.isAgg with
   |true=>(match nU cs o ti.size with|some l=>K (.agg l.toArray)|none=>false)
   |false=>(match nth cs o with|some v=>K v|none=>false)
  |_,_=>false
 |_=>false
def xK (T:cU)(st:TypeId)(x:Value)(f:Nat)(K:Value→Bool):Bool :=
 match x,look T st with
 |.pointer (some ⟨k,o,none⟩),some { kind:=.st fs,.. } =>
  match fs[f]? with
  |some (off,ft)=>(match look T ft with|some _=>K (.pointer (some ⟨k,o+off,none⟩))|none=>false)
  |none=>false
 |_,_=>false
def xJ (A:Ar)(T:cU)(t:TypeId)(x ix:Value)(K:Value→Bool):Bool :=
 match look T t,x,ix with
 |some { kind:=.sl e,.. },.slice (some ⟨k,o,none⟩) n _,.int _ i =>
  (match look T e with|some ei=>eN (A.andB (A.le 0 i) (A.lt i (A.num n))) (K (.pointer (some ⟨k,A.ix o i ei.size,none⟩)))|none=>false)
 |some { kind:=.ar n e,.. },.pointer (some ⟨k,o,none⟩),.int _ i =>
  (match look T e with|some ei=>eN (A.andB (A.le 0 i) (A.lt i (A.num n))) (K (.pointer (some ⟨k,A.ix o i ei.size,none⟩)))|none=>false)
 |_,_,_=>false
def XJ (T:cU)(t:TypeId)(cs:List Value)(o:Nat)(K:Value→Bool):Bool :=
 match look T t with
 |some ti=>(match ti.isAgg with
  |true=>(match nU cs o ti.size with|some l=>K (.agg l.toArray)|none=>false)
  |false=>(match nth cs o with|some v=>K v|none=>false))
 |none=>false
def S7 (T:cU)(st:TypeId)(x:Value)(f:Nat)(K:Value→Bool):Bool :=
 match x,look T st with
 |.agg cs,some { kind:=.st fs,.. }=>(match fs[f]? with|some (off,ft)=>XJ T ft cs.toList off K|none=>false)
 |_,_=>false
def RO (A:Ar)(T:cU)(t:TypeId)(x ix:Value)(K:Value→Bool):Bool :=
 match look T t,x,ix with
 |some { kind:=.ar n e,.. },.agg cs,.int _ i =>
  (match look T e with|some ei=>eN (A.andB (A.le 0 i) (A.lt i (A.num n))) (XJ T e cs.toList (A.ix 0 i ei.size) K)|none=>false)
 |some { kind:=.str,.. },.string b,.int _ i=>(match (if 0≤i then b[i.toNat]? else none) with|some u=>K (.int .u8 (A.num u.toNat))|none=>false)
 |_,_,_=>false
def aKC (A:Ar)(op:BinOp)(k:IntKind)(a b:Int)(K:Value→Bool):Bool :=
 match op with
 |.add=>eN (A.fits k (A.add a b)) (K (.int k (A.add a b)))
 |.sub=>eN (A.fits k (A.sub a b)) (K (.int k (A.sub a b)))
 |.mul=>eN (A.fits k (A.mul a b)) (K (.int k (A.mul a b)))
 |.quo=>eN (A.andB (A.notB (A.eq b 0)) (A.fits k (A.quo a b))) (K (.int k (A.quo a b)))
 |.rem=>eN (A.notB (A.eq b 0)) (K (.int k (A.rem a b)))
 |.eql=>K (.bool (A.eq a b))
 |.neq=>K (.bool (A.notB (A.eq a b)))
 |.lss=>K (.bool (A.lt a b))
 |.leq=>K (.bool (A.le a b))
 |.gtr=>K (.bool (A.lt b a))
 |.geq=>K (.bool (A.le b a))
 |.xor=>eN (A.andB (A.andB (A.le 0 a) (A.le 0 b)) (A.andB (A.lt a (wE k)) (A.lt b (wE k)))) (K (.int k (A.num (A.bit .xor (A.toN a) (A.toN b)))))
 |.or=>eN (A.andB (A.andB (A.le 0 a) (A.le 0 b)) (A.andB (A.lt a (wE k)) (A.lt b (wE k)))) (K (.int k (A.num (A.bit .or (A.toN a) (A.toN b)))))
 |.and=>eN (A.andB (A.andB (A.le 0 a) (A.le 0 b)) (A.andB (A.lt a (wE k)) (A.lt b (wE k)))) (K (.int k (A.num (A.bit .and (A.toN a) (A.toN b)))))
 |_=>false
def aIE (A:Ar)(T:cU)(op:BinOp)(xt:TypeId)(x y:Value)(K:Value→Bool):Bool :=
 match x,y with
 |.int k a,.int k' b=>(match aGm op with
  |true=>eN (A.andB (A.le 0 a) (A.eq b 1)) (K (.int k (A.quo a 2)))
  |false=>(match kEq k k' with|true=>aKC A op k a b K|false=>false))
 |.bool a,.bool b=>(match op,look T xt with
  |.eql,some { kind:=.bool,.. }=>K (.bool (A.eqB a b))
  |.neq,some { kind:=.bool,.. }=>K (.bool (A.notB (A.eqB a b)))
  |_,_=>false)
 |.agg xs,.agg ys=>(match look T xt with
  |some _=>(match dL xs.toList,dL ys.toList with
   |true,true=>(match veq A T 100 xt (.agg xs) (.agg ys) with
    |some r=>(match op with
     |.eql=>K (.bool r)
     |.neq=>K (.bool (A.notB r))
     |_=>false)
    |none=>false)
   |_,_=>false)
  |none=>false)
 |_,_=>false
def aHL (T:cU)(h:Heap)(op:BinOp)(t:TypeId)(x:Value)(K:Value→Bool):Bool :=
 match look T t,aDs h x,op with
 |some { kind:=.sl _,.. },some b,.eql=>K (.bool b)
 |some { kind:=.sl _,.. },some b,.neq=>K (.bool (!b))
 |_,_,_=>false
def wun (A:Ar)(op:UnOp)(x:Value)(K:Value→Bool):Bool :=
 match op,x with
 |.neg,.int k a=>eN (A.fits k (A.neg a)) (K (.int k (A.neg a)))
 |.not,.bool b=>K (.bool (A.notB b))
 |_,_=>false
def SK (T:cU)(t:TypeId)(ps:List (Nat × Value))(K:Value→Bool):Bool :=
 match look T t with
 |some ti =>
  match (match ti.kind with|.st fs=>kM T fs|.ar _ e=>(look T e).isSome|_=>false),kR ps with
  |true,true=>(match CT (places T ti) ps ti.zv.cells.toList with
   |some cells=>K (.agg cells.toArray)
   |none=>false)
  |_,_=>false
 |none=>false
def FI (A:Ar)(T:cU)(b:Builtin)(ts:Array TypeId)(vs:List Value)(K:Value→Bool):Bool :=
 match b,ts.toList,vs with
 |.len,[t],[.slice _ n _]=>(match look T t with|some { kind:=.sl _,.. }=>K (.int .i64 (A.num n))|_=>false)
 |.cap,[t],[.slice none _ c]=>(match look T t with|some { kind:=.sl _,.. }=>K (.int .i64 (A.num c))|_=>false)
 |.max,_,v::r=>qY (WW A.max v r) K
 |.min,_,v::r=>qY (WW A.min v r) K
 |_,_,_=>false
def wV (A:Ar)(T:cU)(env:List (Nat × Value))(h:Heap)(op:Op)(K:Value→Bool):Bool :=
 match op with
 |.move x|.assign x=>qY (dH env x) K
 |.pick c a b=>qY (dH env c) fun u=>(match u with
  |.bool t=>wbr t (fun _=>qY (dH env a) K) (fun _=>qY (dH env b) K)
  |_=>false)
 |.nilCheck x=>qY (dH env x) fun u=>(match u with
  |.pointer (some a)=>K (.pointer (some a))
  |.func (.func f) fi c=>K (.func (.func f) fi c)
  |.func (.yield f) fi c=>K (.func (.yield f) fi c)
  |_=>false)
 |.load t x=>qY (dH env x) fun u=>XY T h t u K
 |.fieldAddr s x f=>qY (dH env x) fun u=>xK T s u f K
 |.field s x f=>qY (dH env x) fun u=>S7 T s u f K
 |.indexAddr t x i=>qY (dH env x) fun u=>qY (dH env i) fun j=>xJ A T t u j K
 |.index t x i=>qY (dH env x) fun u=>qY (dH env i) fun j=>RO A T t u j K
 |.binOp op t x y _=>qY (dH env x) fun u=>qY (dH env y) fun v=>(match v with
  |.slice none _ _=>aHL T h op t u K
  |_=>aIE A T op t u v K)
 |.unOp op _ x=>qY (dH env x) fun u=>wun A op u K
 |.convert s d x=>qY (dH env x) fun u=>(match u,look T s,look T d with
  |.int _ n,some _,some { kind:=.int k,.. }=>eN (A.fits k n) (K (.int k n))
  |_,_,_=>false)
 |.makeFunc fn first cap=>(match fn,first.toList with
  |.func f,[]=>(match AK env cap.toList with|some l=>K (.func (.func f) #[] l.toArray)|none=>false)
  |_,_=>false)
 |.extract x i=>qY (dH env x) fun u=>(match u with
  |.tuple vs=>qY (vs.toList[i]?) K
  |_=>false)
 |.build t ps=>(match kZ env ps.toList with|some l=>SK T t l K|none=>false)
 |.call c=>(match c.callee with
  |.builtin b=>(match lE env c.args.toList with|some vs=>FI A T b c.argTypes vs K|none=>false)
  |_=>false)
 |_=>false
def T5 (T:cU)(h:Heap)(nx:Nat)(t:TypeId)(x v:Value)(K:uO):Bool :=
 match x with
 |.pointer (some ⟨k,o,none⟩) =>
  (match look T t,look h k with
  |some ti,some (.cells true _ sz cs) =>
   (match Nat.beq v.cells.size ti.size,(match v with|.tuple _=>false|_=>true) with
   |true,true=>eN (Nat.ble (o+v.cells.size) cs.length) (K undef (r8 h k (.cells true false sz (cN cs o v.cells.toList))) nx)
   |_,_=>false)
  |_,_=>false)
 |_=>false
def aH4 (h:Heap)(nx:Nat)(v:Value)(K:uO):Bool :=
 match v with
 |.tuple _=>false
 |v=>K (.pointer (some ⟨nx,0,none⟩)) (bZ h nx (.cells true false 1 v.cells.toList)) (nx+1)
def TA (T:cU)(h:Heap)(nx:Nat)(t:TypeId)(K:uO):Bool :=
 match look T t with
 |some ti=>K (.pointer (some ⟨nx,0,none⟩)) (bZ h nx (.cells true false 1 ti.zv.cells.toList)) (nx+1)
 |none=>false
def uY (T:cU)(h:Heap)(nx:Nat)(t:TypeId)(len:Nat)(ps:List (Nat × Value))(K:uO):Bool :=
 match look T t with
 |some { kind:=.sl e,.. } =>
  (match look T e with
  |some ei =>
   (match Nat.ble (len*ei.size) 1000000,kR ps with
   |true,true =>
    (match CT (fun i=>some (i*ei.size,ei.size)) ps (rep len ei.zv.cells.toList) with
    |some cells=>K (.slice (some ⟨nx,0,none⟩) len len) (bZ h nx (.cells true false ei.size cells)) (nx+1)
    |none=>false)
   |_,_=>false)
  |none=>false)
 |_=>false
def whi (A:Ar)(n c:Nat)(hi:Option Value)(G:Nat→Bool):Bool :=
 match hi with
 |none=>G n
 |some (.int _ i)=>eN (A.andB (A.le 0 i) (A.le i (A.num c))) (G (A.toN i))
 |_=>false
def LZ (A:Ar)(T:cU)(h:Heap)(nx:Nat)(t:TypeId)(x:Value)(lo hi mx:Option Value)(K:uO):Bool :=
 match look T t with
 |some { kind:=.sl e,.. } =>
  (match look T e with
  |none=>false
  |some ei =>
   match x,mx with
   |.slice none 0 0,none=>(match isZero lo,isZero hi with|true,true=>K (.slice none 0 0) h nx|_,_=>false)
   |.slice (some ⟨k,o,none⟩) n c,none =>
    whi A n c hi fun hN =>
     (match lo with
     |none=>K (.slice (some ⟨k,o,none⟩) hN c) h nx
     |some (.int _ l)=>eN (A.andB (A.andB (A.le 0 l) (A.le l (A.num hN))) (A.le (A.num hN) (A.num c)))
      (match look h k with
      |some (.cells _ _ _ _)=>eN (A.lt l (A.num c)) (K (.slice (some ⟨k,A.ix o l ei.size,none⟩) (A.subN hN (A.toN l)) (A.subN c (A.toN l))) h nx)
      |_=>false)
     |_=>false)
   |.slice (some ⟨k,o,none⟩) n c,some (.int _ 0) =>
    (match isZero lo,hi with|true,some (.int _ 0)=>K (.slice (some ⟨nx,0,none⟩) 0 0) (bZ h nx .zero) (nx+1)|_,_=>false)
   |.slice (some ⟨k,o,none⟩) n c,some (.int _ m) =>
    (match lo,hi with
    |some (.int _ l),some (.int _ u)=>eN (A.andB (A.andB (A.le 0 l) (A.le l u)) (A.andB (A.le u m) (A.andB (A.le 1 m) (A.le m (A.num c))))) (K (.slice (some ⟨nx,0,none⟩) (A.subN (A.toN u) (A.toN l)) (A.subN (A.toN m) (A.toN l))) (aA6 h nx k (A.ix o l ei.size) (A.subN (A.toN m) (A.toN l)*ei.size)) (nx+1))
    |none,some (.int _ u)=>eN (A.andB (A.le 0 u) (A.andB (A.le u m) (A.andB (A.le 1 m) (A.le m (A.num c))))) (K (.slice (some ⟨nx,0,none⟩) (A.toN u) (A.toN m)) (aA6 h nx k o (A.toN m*ei.size)) (nx+1))
    |_,_=>false)
   |_,_=>false)
 |_=>false
def aHD (h:Heap)(sz:Nat)(x:Value)(G:Nat→List Value→Bool):Bool :=
 match x with
 |.slice none 0 0=>G 0 []
 |.slice (some ⟨k,o,none⟩) m _ =>
  (match look h k with
  |some (.cells _ _ _ cs)=>eN (Nat.ble (o+m*sz) cs.length) (G m ((cs.drop o).take (m*sz)))
  |some .zero=>(match m with|0=>G 0 []|_=>false)
  |_=>false)
 |_=>false
def ML (A:Ar)(T:cU)(h:Heap)(nx:Nat)(st xt:TypeId)(s x:Value)(K:uO):Bool :=
 match look T st,look T xt with
 |some { kind:=.sl e,.. },some { kind:=.int _,.. } =>
  (match look T e with
  |some ei=>(match s,x,Nat.ble ei.bytes 1000 with
   |.slice none 0 0,.int .i64 i,true=>eN (A.andB (A.lt 0 i) (A.le i 1000000000)) (K (.slice (some ⟨nx,0,none⟩) (A.toN i) (A.toN i)) (bZ h nx (.cells true false ei.size (rep (A.toN i) ei.zv.cells.toList))) (nx+1))
   |_,_,_=>false)
  |none=>false)
 |some { kind:=.sl e,.. },some { kind:=.sl _,.. } =>
  (match look T e with
  |none=>false
  |some ei =>
   match Nat.ble ei.bytes 1000 with
   |false=>false
   |true =>
    aHD h ei.size x fun m src =>
     (match s with
     |.slice none 0 0=>wbr (Nat.beq m 0) (fun _=>K (.slice none 0 0) h nx)
      (fun _=>eN (Nat.ble m 1000000000) (K (.slice (some ⟨nx,0,none⟩) m m) (bZ h nx (.cells true false ei.size src)) (nx+1)))
     |.slice (some ⟨k,o,none⟩) n c =>
      (match look h k with
      |some .zero=>(match n,c with
       |0,0=>wbr (Nat.beq m 0) (fun _=>K (.slice (some ⟨k,o,none⟩) 0 0) h nx)
        (fun _=>eN (Nat.ble m 1000000000) (K (.slice (some ⟨nx,0,none⟩) m m) (bZ h nx (.cells true false ei.size src)) (nx+1)))
       |_,_=>false)
      |some (.cells true _ sz cs) =>
       wbr (Nat.ble (n+m) c)
        (fun _=>eN (Nat.ble (o+(n+m)*ei.size) cs.length) (K (.slice (some ⟨k,o,none⟩) (n+m) c) (r8 h k (.cells true false sz (cN cs (o+n*ei.size) src))) nx))
        (fun _=>eN (A.andB (A.andB (Nat.ble (n+m) 1000000000) (Nat.ble (o+n*ei.size) cs.length)) (A.andB (Nat.beq (o+c*ei.size) cs.length) (Nat.beq sz ei.size)))
         (K (.slice (some ⟨nx,0,none⟩) (n+m) (n+m)) (bZ (rem h k) nx (.cells true false ei.size ((cs.drop o).take (n*ei.size)++src))) (nx+1)))
      |_=>false)
     |_=>false))
 |_,_=>false
def aBH (h:Heap)(nx:Nat)(K:uO):Bool:=K (.map (some nx)) (bZ h nx (.map [])) (nx+1)
def xW (A:Ar)(T:cU)(h:Heap)(nx:Nat)(t:TypeId)(l c:Value)(K:uO):Bool :=
 match look T t,l,c with
 |some { kind:=.sl e,.. },.int .i64 i,.int .i64 j =>
  (match look T e with
  |some ei=>eN (A.andB (A.andB (A.le 0 i) (A.le i j)) (A.andB (A.le j 1000000000) (Nat.ble ei.bytes 1000)))
   (K (.slice (some ⟨nx,0,none⟩) (A.toN i) (A.toN j)) (bZ h nx (.cells true false ei.size (rep (A.toN j) ei.zv.cells.toList))) (nx+1))
  |none=>false)
 |_,_,_=>false
def DX (A:Ar)(T:cU)(h:Heap)(t:TypeId)(x key:Value)(ok:Bool)(K:Value→Bool):Bool :=
 match look T t,x,key with
 |some { kind:=.mp kt et,.. },.map (some k),.agg cs =>
  (match look T kt,look T et,look h k with
  |some { kind:=.st fs,.. },some ei,some (.map es) =>
   (match jI T cs.toList fs,dL cs.toList,sL A T kt (.agg cs) es with
   |true,true,some r =>
    (match ok,r with
    |true,some v=>K (.tuple #[v,.bool true])
    |true,none=>K (.tuple #[ei.zv,.bool false])
    |false,some v=>K v
    |false,none=>K ei.zv)
   |_,_,_=>false)
  |_,_,_=>false)
 |_,_,_=>false
def xN (A:Ar)(T:cU)(h:Heap)(nx:Nat)(t:TypeId)(x key v:Value)(K:uO):Bool :=
 match look T t,x,key,(match v with|.agg _=>false|.tuple _=>false|_=>true) with
 |some { kind:=.mp kt _,.. },.map (some k),.agg cs,true =>
  (match look T kt,look h k with
  |some { kind:=.st fs,.. },some (.map es) =>
   (match jI T cs.toList fs,dL cs.toList,sL A T kt (.agg cs) es with
   |true,true,some none=>K undef (r8 h k (.map (es++[(.agg cs,v)]))) nx
   |_,_,_=>false)
  |_,_=>false)
 |_,_,_,_=>false
def T4 (T:cU)(h:Heap)(nx:Nat)(t:TypeId)(x:Value)(K:uO):Bool :=
 match look T t,x with
 |some { kind:=.sl _,.. },.slice none 0 0=>K (.tuple #[]) h nx
 |some { kind:=.sl e,.. },.slice (some ⟨k,o,none⟩) n _ =>
  (match n with
  |0=>K (.tuple #[]) h nx
  |_=>(match look T e,look h k with
   |some ei,some (.cells true _ sz cs)=>eN (Nat.ble (o+n*ei.size) cs.length) (K (.tuple #[]) (r8 h k (.cells true false sz (cN cs o (rep n ei.zv.cells.toList)))) nx)
   |_,_=>false))
 |_,_=>false
def wop (A:Ar)(T:cU)(C:xA)(Y:xA)(env:List (Nat × Value))(h:Heap)(nx:Nat)(op:Op)(K:uO):Bool :=
 match op with
 |.store t x y=>qY (dH env x) fun p=>qY (dH env y) fun v=>T5 T h nx t p v K
 |.alloc t=>TA T h nx t K
 |.box _ x=>qY (dH env x) fun v=>aH4 h nx v K
 |.buildSlice t n ps=>(match kZ env ps.toList with|some l=>uY T h nx t n l K|none=>false)
 |.slice t x lo hi mx=>qY (dH env x) fun v=>(match lF env lo,lF env hi,lF env mx with
  |some l,some u,some m=>LZ A T h nx t v l u m K
  |_,_,_=>false)
 |.makeMap _ none=>aBH h nx K
 |.makeSlice t l c=>qY (dH env l) fun l=>qY (dH env c) fun c=>xW A T h nx t l c K
 |.lookup t m k ok=>qY (dH env m) fun x=>qY (dH env k) fun y=>DX A T h t x y ok (fun v=>K v h nx)
 |.mapUpdate t m k u=>qY (dH env m) fun x=>qY (dH env k) fun y=>qY (dH env u) fun v=>xN A T h nx t x y v K
 |.call c=>(match c.callee with
  |.builtin .append=>(match c.argTypes.toList,lE env c.args.toList with|[st,xt],some [s,x]=>ML A T h nx st xt s x K|_,_=>false)
  |.builtin .clear=>(match c.argTypes.toList,lE env c.args.toList with|[t],some [x]=>T4 T h nx t x K|_,_=>false)
  |.builtin _=>wV A T env h op (fun v=>K v h nx)
  |.value f=>qY (dH env f) fun fv=>(match lE env c.args.toList with
   |some l=>(match fv with
    |.func (.func g) first cap=>(match first.toList,r5 cap.toList with
     |[],true=>C g (l++cap.toList) h nx K
     |_,_=>false)
    |.func (.yield q) first _=>(match first.toList with
     |[]=>Y q l h nx K
     |_=>false)
    |_=>false)
   |none=>false)
  |_=>false)
 |_=>wV A T env h op (fun v=>K v h nx)
def A7 (A:Ar)(ops:List Oper)(env:List (Nat × Value))(g:Option (Nat × Bool))(Y N:List (Nat × Value)→Bool):Bool :=
 match g with
 |none=>Y env
 |some (j,want)=>match fP ops j with
  |some o=>(match o.dst with
   |some t=>(match look env t with
    |some (.bool b)=>wbr (A.eqB b want) (fun _=>Y (put env t (.bool want))) (fun _=>N (put env t (.bool (!want))))
    |some (.tuple _)=>N env
    |_=>false)
   |none=>false)
  |none=>false
def G7 (tn:Nat)(env:List (Nat × Value))(dst:Option Nat)(v:Value)(K:List (Nat × Value)→Bool):Bool :=
 match dst with
 |none=>K env
 |some d=>match Nat.blt d tn with|true=>K (put env d v)|false=>false
def aF4 (A:Ar)(T:cU)(C:xA)(Y:xA)(tn:Nat)(ops:List Oper):List Oper→List (Nat × Value)→Heap→Nat→qM→Bool
 |[],env,h,nx,K=>K env h nx
 |o :: r,env,h,nx,K=>A7 A ops env o.guard
    (fun env=>wop A T C Y env h nx o.op fun v h' nx'=>G7 tn env o.dst v fun env'=>aF4 A T C Y tn ops r env' h' nx' K)
    (fun env=>G7 tn env o.dst undef fun env'=>aF4 A T C Y tn ops r env' h nx K)
def HK (A:Ar)(T:cU)(C:xA)(hJ:Heap)(nx:Nat)(env:List (Nat × Value))(op:Op)(K:Value→Bool):Bool :=
 match op with
 |.load _ _=>wV A T env hJ op K
 |.lookup t m k ok=>qY (dH env m) fun x=>qY (dH env k) fun y=>DX A T hJ t x y ok K
 |.slice t x lo hi mx=>qY (dH env x) fun v=>(match lF env lo,lF env hi,lF env mx with
  |some l,some u,some m=>LZ A T hJ nx t v l u m (fun v _ nx'=>match Nat.beq nx' nx with|true=>K v|false=>false)
  |_,_,_=>false)
 |.call c=>(match c.callee with
  |.builtin _=>wV A T env [] op K
  |.value f=>qY (dH env f) fun fv=>(match lE env c.args.toList with
   |some l=>(match fv with
    |.func (.func g) first cap=>(match first.toList,r5 cap.toList with
     |[],true=>C g (l++cap.toList) (eY hJ) nx (fun v _ _=>match gT v with|true=>K v|false=>false)
     |_,_=>false)
    |_=>false)
   |none=>false)
  |_=>false)
 |_=>wV A T env [] op K
def PZ (A:Ar)(T:cU)(C:xA)(tn:Nat)(ops:List Oper)(hJ:Heap)(nx:Nat):List Nat→List (Nat × Value)→(List (Nat × Value)→Bool)→Bool
 |[],env,K=>K env
 |i::r,env,K=>match fP ops i with
  |none=>false
  |some o=>A7 A ops env o.guard
   (fun env=>HK A T C hJ nx env o.op fun v=>G7 tn env o.dst v fun env=>PZ A T C tn ops hJ nx r env K)
   (fun env=>G7 tn env o.dst undef fun env=>PZ A T C tn ops hJ nx r env K)
def EM (T:cU)(tn:Nat)(ops:List Oper):List Nat→List (Nat × Value)→Heap→Nat→qM→Bool
 |[],env,h,nx,K=>K env h nx
 |i::r,env,h,nx,K=>match fP ops i with
  |some { op:=.alloc t,dst:=some d,.. }=>(match look T t with
   |some ti=>G7 tn env (some d) (.pointer (some ⟨nx,0,none⟩)) fun env=>EM T tn ops r env (bZ h nx (.cells true false 1 ti.zv.cells.toList)) (nx+1) K
   |none=>false)
  |_=>false
def P8 (A:Ar)(T:cU)(C:xA)(Y:xA)(tn:Nat)(ops:List Oper)(hJ:Heap):List (Nat × Bool)→List (Nat × Value)→Heap→Nat→qM→Bool
 |[],env,h,nx,K=>K env h nx
 |(i,chk)::r,env,h,nx,K=>match fP ops i with
  |none=>false
  |some o=>A7 A ops env o.guard
   (fun env=>eN (zF env hJ chk o.op) (wop A T C Y env h nx o.op fun v h' nx'=>G7 tn env o.dst v fun env'=>P8 A T C Y tn ops hJ r env' h' nx' K))
   (fun env=>G7 tn env o.dst undef fun env'=>P8 A T C Y tn ops hJ r env' h nx K)
def UZ (A:Ar)(T:cU)(C:xA)(Y:xA)(tn:Nat)(ops:List Oper)(p:fL)(env:List (Nat × Value))(h:Heap)(nx:Nat)(K:qM):Bool :=
 PZ A T C tn ops (IS T ops env p h) nx p.head env fun env1 =>
  EM T tn ops p.allocs env1 h nx fun env2 h2 nx2 =>
   P8 A T C Y tn ops (IS T ops env p h) p.tail env2 h2 nx2 K
def aC7 (A:Ar)(T:cU)(C:xA)(Y:xA)(tn:Nat)(ops:List Oper)(o:Oper)(e:List (Nat × Value))(h:Heap)(nx:Nat)(K:qM):Bool :=
 A7 A ops e o.guard (fun e=>wop A T C Y e h nx o.op fun v h' nx'=>G7 tn e o.dst v fun e'=>K e' h' nx') (fun e=>G7 tn e o.dst undef fun e'=>K e' h nx)
def wall (F:Nat→Bool):List Nat→Bool
 |[]=>true
 |i::r=>F i&&wall F r
def aFg (A:Ar)(T:cU)(C:xA)(Y:xA)(tn:Nat)(ops:List Oper)(K:qM):Nat→List Nat→qM
 |0,_=>K
 |n+1,done=>fun e h nx=>match fA ops done ops 0 with
  |[]=>K e h nx
  |i::r=>wall (fun j=>match fP ops j with|some o=>aC7 A T C Y tn ops o e h nx (aFg A T C Y tn ops K n (j::done))|none=>false) (i::r)
def NN (A:Ar)(T:cU)(C:xA)(Y:xA)(tn:Nat)(ops:List Oper)(K:qM):Nat→List Nat→qM
 |0,_=>K
 |n+1,done=>fun e h nx=>match fA ops done ops 0 with
  |[]=>K e h nx
  |j::_=>(match fP ops j with|some o=>aC7 A T C Y tn ops o e h nx (NN A T C Y tn ops K n (j::done))|none=>false)
def aCf (A:Ar)(T:cU)(C:xA)(Y:xA)(tn:Nat)(ops:Array Oper)(e:List (Nat × Value))(h:Heap)(nx:Nat)(K:qM):Bool :=
 NN A T C Y tn ops.toList (fun e0 h0 n0=>GX (RV e0 []) fun e0=>GX (UR nx (aBN nx e0 e0 h0 h0) h0) fun h0 =>
  aFg A T C Y tn ops.toList (fun e1 h1 _=>aFz nx (aBN nx e0 e1 h0 h1) e0 h0 n0 e1 h1) ops.size [] e h nx&&K e0 h0 n0) ops.size [] e h nx
def aDa (F:qM→qM):Nat→qM
 |0,_,_,_=>false
 |n+1,e,h,nx=>F (aDa F n) e h nx
def qE (A:Ar)(T:cU)(C:xA)(Y:xA)(tn:Nat)(PL:Nat→Option fL)(M:Nat)(R:VRB):Code→qM→(Nat→qM)→qM→qM
 |.skip,kn,_,_=>kn
 |.region id ops draw,kn,_,_=>fun e h nx=>match draw with
  |false=>aF4 A T C Y tn ops.toList ops.toList e h nx kn
  |true=>(match PL id with|some p=>UZ A T C Y tn ops.toList p e h nx kn|none=>aCf A T C Y tn ops e h nx kn)
 |.seq a b,kn,kx,kr=>qE A T C Y tn PL M R a (qE A T C Y tn PL M R b kn kx kr) kx kr
 |.cond c t f,kn,kx,kr=>fun e h nx=>match dH e c with
  |some (.bool b)=>wbr b (fun _=>qE A T C Y tn PL M R t kn kx kr e h nx) (fun _=>qE A T C Y tn PL M R f kn kx kr e h nx)
  |_=>false
 |.block id b,kn,kx,kr=>qE A T C Y tn PL M R b kn (fun j=>match Nat.beq j id with|true=>kn|false=>kx j) kr
 |.loop b,_,kx,kr=>aDa (fun k=>qE A T C Y tn PL M R b k kx kr) M
 |.rangeFunc g ps as bd,kn,kx,kr=>R g ps as bd kn kx kr
 |.exit id,_,kx,_=>kx id
 |.ret,_,_,kr=>kr
 |.label _,kn,_,_=>kn
 |.scope b,kn,kx,kr=>qE A T C Y tn PL M R b kn kx kr
 |_,_,_,_=>fun _ _ _=>false
def AX (T:cU)(e:List (Nat × Value))(h:Heap):List ResultVar→(List Value→Bool)→Bool
 |[],K=>K []
 |.tmp t::r,K=>qY (look e t) fun v=>AX T e h r fun l=>K (v::l)
 |.cell a t::r,K=>qY (look e a) fun p=>XY T h t p fun v=>AX T e h r fun l=>K (v::l)
def aKl (T:cU)(fn:Func)(K:uO):qM:=fun e h nx=>AX T e h fn.results.toList fun l =>
 match l with
 |[v]=>K v h nx
 |l=>match KH l with|true=>K (.tuple l.toArray) h nx|false=>false
def aAY (C:xA)(f tn:Nat):VRB:=fun g ps as bd kn kx kr e h nx =>
 qY (dH e g) fun gv=>match gv with
  |.func (.func q) first cap=>(match first.toList,r5 cap.toList with
   |[],true=>C q (.func (.yield (nx+1)) #[] #[]::cap.toList)
    (bZ (bZ h nx .deferred) (nx+1) (.loop { state:=.ready,pending:=none,fn:=f,env:=e,tn:=tn,params:=ps.toList,assign:=as,body:=bd,defers:=nx })) (nx+2) fun _ h' nx' =>
    (match look h' (nx+1),look h' nx with
    |some (.loop l),some .deferred=>(match l.state,l.pending with
     |.busy,_=>false
     |_,none=>kn e (iA h' nx) nx'
     |_,some (.exit id)=>kx id e (iA h' nx) nx'
     |_,some .ret=>kr e (iA h' nx) nx'
     |_,_=>false)
    |_,_=>false)
   |_,_=>false)
  |_=>false
def RC:VRB:=fun _ _ _ _ _ _ _ _ _ _=>false
def aCB (q:Nat)(K:uO)(j:Option Code):qM:=fun _ h nx =>
 match look h q with
 |some (.loop l)=>K (.bool j.isNone) (r8 h q (.loop { l with state:=if j.isNone then .ready else .done,pending:=j })) nx
 |_=>false
def TF (A:Ar)(T:cU)(C:xA)(Y:xA)(PL:Nat→Nat→Option fL)(M:Nat):xA:=fun q args h nx K =>
 match look h q with
 |some (.loop l)=>(match uU l.tn l.env l.params args,eJ (PL l.fn) l.assign&&eJ (PL l.fn) l.body with
  |some e0,true=>qE A T C Y l.tn (PL l.fn) M RC l.assign (fun e1 h1 nx1 =>
   match look h1 q with
   |some (.loop l1)=>(match l1.state with
    |.ready=>qE A T C Y l.tn (PL l.fn) M RC l.body (aCB q K none) (fun id=>aCB q K (some (.exit id))) (aCB q K (some .ret)) e1 (r8 h1 q (.loop { l1 with state:=.busy })) nx1
    |_=>false)
   |_=>false) (fun _ _ _ _=>false) (fun _ _ _=>false) e0 h nx
  |_,_=>false)
 |_=>false
def aAz (c:FH)(XB:Nat→Option (List Value→Heap→Nat→uO→Bool))(M:Nat)(C:xA)(Y:xA):xA:=fun f args h nx K =>
 match c.X f with
 |some _=>(match XB f with|some xb=>xb args h nx K|none=>false)
 |none=>match c.FT f with
  |none=>false
  |some fn=>(match fn.body,Nat.ble args.length fn.ntmps with
   |some b,true =>
    let fin:qM:=aKl c.T fn fun v h' nx'=>K v h' nx'
    qE c.A c.T C Y fn.ntmps (c.PL f) M (aAY C f fn.ntmps) b fin (fun _ _ _ _=>false) fin (rT 0 args) h nx
   |_,_=>false)
def aKz (h:Heap)(nx:Nat)(K:uO):uO:=fun v h' nx'=>match gT v with
 |true=>K v h nx
 |false=>K v (app (pI nx h' h') h) nx'
def aGJ (PR:Nat→Bool)(C:xA):xA:=fun f args h nx K=>match PR f with
 |true=>C f args (eY h) nx (aKz h nx K)
 |false=>C f args h nx K
def CK (c:FH)(XB:Nat→Option (List Value→Heap→Nat→uO→Bool)):Nat→Bool→xA
 |0,_=>fun _ _ _ _ _=>false
 |d+1,false=>aGJ c.PR (aAz c XB c.M (CK c XB d false) (CK c XB d true))
 |d+1,true=>TF c.A c.T (CK c XB d false) (CK c XB d true) c.PL c.M
end Go.Aw
end
