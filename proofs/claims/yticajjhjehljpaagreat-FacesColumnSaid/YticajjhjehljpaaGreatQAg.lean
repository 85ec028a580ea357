/-
  Parts of a proof. No condition.
-/
import Derived.Test.YticajjhjehljpaaGreatQAd
set_option linter.unusedSimpArgs false
set_option linter.unusedVariables false
noncomputable section
namespace Go.Aw
open Go.RowKit
def aCx:Int→Int→Bool
 |.ofNat a,.ofNat b=>Nat.beq a b
 |.negSucc a,.negSucc b=>Nat.beq a b
 |_,_=>false
theorem aAY {a b:Int}(h:aCx a b=true):a=b:=by
 cases a <;> cases b <;> simp only [aCx] at h <;> first|cases h;done|rw [beq_true h]
def VD:Bool→Bool→Bool
 |true,true=>true
 |false,false=>true
 |_,_=>false
theorem FY {a b:Bool}(h:VD a b=true):a=b:=by cases a <;> cases b <;> first|rfl|cases h
def YH:Value→Value→Bool
 |.bool a,.bool b=>VD a b
 |.int k a,.int j b=>kEq k j&&aCx a b
 |.slice none n c,.slice none n' c'=>Nat.beq n n'&&Nat.beq c c'
 |.slice (some ⟨a,o,none⟩) n c,.slice (some ⟨a',o',none⟩) n' c'=>Nat.beq a a'&&Nat.beq o o'&&Nat.beq n n'&&Nat.beq c c'
 |.pointer none,.pointer none=>true
 |.pointer (some ⟨a,o,none⟩),.pointer (some ⟨a',o',none⟩)=>Nat.beq a a'&&Nat.beq o o'
 |.map none,.map none=>true
 |.map (some a),.map (some a')=>Nat.beq a a'
 |.nilFunc,.nilFunc=>true
 |.nilIface,.nilIface=>true
 |_,_=>false
theorem OZ {v u:Value}(h:YH v u=true):v=u:=by
 unfold YH at h;split at h
 ·rw [FY h]
 ·simp only [Bool.and_eq_true] at h;rw [pU h.1,aAY h.2]
 ·simp only [Bool.and_eq_true] at h;rw [beq_true h.1,beq_true h.2]
 ·simp only [Bool.and_eq_true] at h;obtain⟨⟨⟨h1,h2⟩,h3⟩,h4⟩:=h;rw [beq_true h1,beq_true h2,beq_true h3,beq_true h4]
 ·rfl
 ·simp only [Bool.and_eq_true] at h;rw [beq_true h.1,beq_true h.2]
 ·rfl
 ·rw [beq_true h]
 ·rfl
 ·rfl
 ·cases h
def GX:List Value→List Value→Bool
 |[],[]=>true
 |a::r,b::s=>YH a b&&GX r s
 |_,_=>false
theorem BC:∀ {l m:List Value},GX l m=true→l=m
 |[],[],_=>rfl
 |[],_::_,h=>by cases h
 |_::_,[],h=>by cases h
 |a::r,b::s,h=>by
  simp only [GX,Bool.and_eq_true] at h;rw [OZ h.1,BC h.2]
def T8:Fn→Fn→Bool
 |.func a,.func b=>Nat.beq a b
 |.yield a,.yield b=>Nat.beq a b
 |_,_=>false
theorem Z4 {f g:Fn}(h:T8 f g=true):f=g:=by
 unfold T8 at h;split at h
 ·rw [beq_true h]
 ·rw [beq_true h]
 ·cases h
def Q8:Value→Value→Bool
 |.func f a c,.func f' a' c'=>T8 f f'&&GX a.toList a'.toList&&GX c.toList c'.toList
 |a,b=>YH a b
theorem FR {v u:Value}(h:Q8 v u=true):v=u:=by
 unfold Q8 at h;split at h
 ·simp only [Bool.and_eq_true] at h;obtain⟨⟨h1,h2⟩,h3⟩:=h;rw [Z4 h1,show _=_ from Array.ext' (BC h2),show _=_ from Array.ext' (BC h3)]
 exact OZ h
def J2:List Value→List Value→Bool
 |[],[]=>true
 |a::r,b::s=>Q8 a b&&J2 r s
 |_,_=>false
theorem zR:∀ {l m:List Value},J2 l m=true→l=m
 |[],[],_=>rfl
 |[],_::_,h=>by cases h
 |_::_,[],h=>by cases h
 |a::r,b::s,h=>by
  simp only [J2,Bool.and_eq_true] at h;rw [FR h.1,zR h.2]
def QO:Value→Value→Bool
 |.agg a,.agg b=>J2 a.toList b.toList
 |a,b=>Q8 a b
theorem GZ {v u:Value}(h:QO v u=true):v=u:=by
 unfold QO at h;split at h
 ·rw [show _=_ from Array.ext' (zR h)]
 exact FR h
def LH:List Value→List Value→Bool
 |[],[]=>true
 |a::r,b::s=>QO a b&&LH r s
 |_,_=>false
theorem KF:∀ {l m:List Value},LH l m=true→l=m
 |[],[],_=>rfl
 |[],_::_,h=>by cases h
 |_::_,[],h=>by cases h
 |a::r,b::s,h=>by
  simp only [LH,Bool.and_eq_true] at h;rw [GZ h.1,KF h.2]
def OM:Value→Value→Bool
 |.tuple a,.tuple b=>LH a.toList b.toList
 |a,b=>QO a b
theorem G8 {v u:Value}(h:OM v u=true):v=u:=by
 unfold OM at h;split at h
 ·rw [show _=_ from Array.ext' (KF h)]
 exact GZ h
def aGi (n:Nat):Value→Bool
 |.slice (some a) _ _=>Nat.blt a.block n
 |.pointer (some a)=>Nat.blt a.block n
 |.map (some k)=>Nat.blt k n
 |v=>gS v
theorem YC {n:Nat}{v:Value}(h:aGi n v=true):oL (jR id) n v:=by
 unfold aGi at h;split at h
 ·exact⟨Nat.le_of_ble_eq_true h,fun e=>by cases e⟩
 ·exact⟨Nat.le_of_ble_eq_true h,rfl⟩
 ·exact⟨Nat.le_of_ble_eq_true h,rfl⟩
 ·cases v <;> simp [gS] at h <;> first|trivial|(rename_i a;cases a <;> simp [gS] at h <;> trivial)|(simp [oL];done)|skip
  all_goals (first|(rename_i a _ _;cases a <;> simp [gS] at h <;> simp [oL])|skip)
def aET (n:Nat):List Value→Bool
 |[]=>true
 |v::r=>aGi n v&&aET n r
theorem WC {n:Nat}:∀ {l:List Value},aET n l=true→∀ v∈l,oL (jR id) n v
 |[],_,v,hv=>by cases hv
 |x::r,h,v,hv=>by
  simp only [aET,Bool.and_eq_true] at h;cases hv with
  |head=>exact YC h.1
  |tail _ hm=>exact WC h.2 v hm
def aJT (n:Nat):Fn→Bool
 |.func _=>true
 |.yield l=>Nat.blt l n
 |_=>false
theorem aGu {n:Nat}{f:Fn}(h:aJT n f=true):RU (jR id) n f:=by
 unfold aJT at h;split at h
 ·trivial
 ·exact⟨Nat.le_of_ble_eq_true h,rfl⟩
 ·cases h
def aDA (n:Nat):Value→Bool
 |.func f _ c=>aJT n f&&aET n c.toList
 |v=>aGi n v
theorem mN {n:Nat}{v:Value}(h:aDA n v=true):CC n v:=by
 unfold aDA at h;split at h
 ·simp only [Bool.and_eq_true] at h;exact⟨aGu h.1,WC h.2⟩
 rename_i hf;have h2:=YC h;cases v <;> first|exact h2|exact absurd rfl (hf _ _ _)
def TI (n:Nat):List Value→Bool
 |[]=>true
 |v::r=>aDA n v&&TI n r
theorem cY {n:Nat}:∀ {l:List Value},TI n l=true→∀ v∈l,CC n v
 |[],_,v,hv=>by cases hv
 |x::r,h,v,hv=>by
  simp only [TI,Bool.and_eq_true] at h;cases hv with
  |head=>exact mN h.1
  |tail _ hm=>exact cY h.2 v hm
def aEl (n:Nat):Value→Bool
 |.agg c=>TI n c.toList
 |v=>aDA n v
theorem VO {n:Nat}{v:Value}(h:aEl n v=true):kU (jR id) n v:=by
 unfold aEl at h;split at h
 ·exact fun x hx=>cY h x hx
 exact fZ (mN h)
def XZ (n:Nat):List Value→Bool
 |[]=>true
 |v::r=>aEl n v&&XZ n r
theorem QK {n:Nat}:∀ {l:List Value},XZ n l=true→∀ v∈l,kU (jR id) n v
 |[],_,v,hv=>by cases hv
 |x::r,h,v,hv=>by
  simp only [XZ,Bool.and_eq_true] at h;cases hv with
  |head=>exact VO h.1
  |tail _ hm=>exact QK h.2 v hm
def aDJ (n:Nat):Value→Bool
 |.tuple c=>XZ n c.toList
 |v=>aEl n v
theorem gO {n:Nat}{v:Value}(h:aDJ n v=true):x6 n v:=by
 unfold aDJ at h;split at h
 ·exact fun x hx=>QK h x hx
 exact lW (VO h)
def nm (ρ:List (Nat × Nat))(k:Nat):Nat:=match look ρ k with|some j=>j|none=>k
def VE (σ:Nat→Nat)(m:Nat):List (Value × Value)→List (Value × Value)→Bool
 |[],[]=>true
 |a::r,b::s=>QO b.1 a.1&&Q8 b.2 (bJ σ a.2)&&aDA m a.2&&VE σ m r s
 |_,_=>false
theorem PM {σ:Nat→Nat}{m:Nat}:∀ {l l':List (Value × Value)},VE σ m l l'=true→l'=l.map (fun e=>(e.1,bJ σ e.2))∧∀ e∈l,CC m e.2
 |[],[],_=>⟨rfl,fun e he=>by cases he⟩
 |[],_::_,h=>by cases h
 |_::_,[],h=>by cases h
 |a::r,b::s,h=>by
  simp only [VE,Bool.and_eq_true] at h;obtain⟨⟨⟨h1,h2⟩,h3⟩,h4⟩:=h;obtain⟨i1,i2⟩:=PM h4;refine⟨?_,fun e he=>?_⟩
  ·rw [List.map_cons,← i1,← GZ h1,← FR h2]
  ·cases he with
   |head=>exact mN h3
   |tail _ hm=>exact i2 e hm
def aCW (σ:Nat→Nat)(m:Nat):bH→bH→Bool
 |.cells wr g sz cs,.cells wr' g' sz' cs'=>TI m cs&&VD wr wr'&&VD g g'&&Nat.beq sz sz'&&J2 cs' (cs.map (bJ σ))
 |.map es,.map es'=>VE σ m es es'
 |.zero,.zero=>true
 |_,_=>false
theorem aBF {σ:Nat→Nat}{m:Nat}{o o':bH}(h:aCW σ m o o'=true):bT σ m o o':=by
 unfold aCW at h;split at h
 ·simp only [Bool.and_eq_true] at h;obtain⟨⟨⟨⟨h1,h2⟩,h3⟩,h4⟩,h5⟩:=h;exact⟨FY h2,FY h3,beq_true h4,zR h5,cY h1⟩
 ·exact PM h
 ·trivial
 ·cases h
def YM (b:Nat)(ρ:List (Nat × Nat))(m:Nat)(h':Heap):Heap→Bool
 |[]=>true
 |(k,o)::r=>Nat.blt k m&&(match Nat.blt k b with|true=>true|false=>(match look ρ k with|some _=>true|none=>false))&&(match look h' (nm ρ k) with|some o'=>aCW (nm ρ) m o o'|none=>false)&&YM b ρ m h' r
theorem PA {b:Nat}{ρ:List (Nat × Nat)}{m:Nat}{h':Heap}:∀ {h:Heap},YM b ρ m h' h=true→∀ k o,look h k=some o→k<m∧(b≤k→∃ j,look ρ k=some j)∧∃ o',look h' (nm ρ k)=some o'∧bT (nm ρ) m o o'
 |[],_,k,o,hk=>by cases hk
 |(j,q)::r,h,k,o,hk=>by
  simp only [YM,Bool.and_eq_true] at h;obtain⟨⟨⟨h1,h2⟩,h3⟩,h4⟩:=h;rw [aB] at hk;split at hk
  ·rename_i hb;have:=beq_true hb;subst this;injection hk with hk;subst hk;refine⟨Nat.le_of_ble_eq_true h1,fun hb=>?_,?_⟩
   ·split at h2
    ·rename_i hlt;have:=Nat.le_of_ble_eq_true hlt;omega
    split at h2
    ·rename_i x hx;exact⟨x,hx⟩
    ·cases h2
   split at h3
   ·rename_i o' ho';exact⟨o',ho',aBF h3⟩
   ·cases h3
  exact PA h4 k o hk
theorem XQ {α:Type}{k:Nat}{o:α}{p:Prop}(h:look [] k=some o):p:=by cases h
def aFd (b:Nat):List (Nat × Nat)→Bool
 |[]=>true
 |(k,j)::r=>Nat.ble b k&&Nat.ble b j&&!(memB j (r.map (·.2)))&&aFd b r
theorem XV {b:Nat}:∀ {ρ:List (Nat × Nat)},aFd b ρ=true→(∀ k j,look ρ k=some j→b≤k∧b≤j∧j∈ρ.map (·.2))∧∀ k k' j,look ρ k=some j→look ρ k'=some j→k=k'
 |[],_=>⟨fun k j h=>XQ h,fun k k' j h=>XQ h⟩
 |(a,c)::r,h=>by
  simp only [aFd,Bool.and_eq_true,Bool.not_eq_true'] at h;obtain⟨⟨⟨h1,h2⟩,h3⟩,h4⟩:=h;obtain⟨i1,i2⟩:=XV h4;have h1:=Nat.le_of_ble_eq_true h1;have h2:=Nat.le_of_ble_eq_true h2;have hn:c∉r.map (·.2):=fun hm=>(by rw [dI.2 hm] at h3;cases h3);refine⟨fun k j hl=>?_,fun k k' j hl hl'=>?_⟩
  ·rw [aB] at hl;split at hl
   ·rename_i hb;injection hl with hl;subst hl;rw [← beq_true hb];exact⟨h1,h2,.head _⟩
   obtain⟨q1,q2,q3⟩:=i1 k j hl;exact⟨q1,q2,.tail _ q3⟩
  rw [aB] at hl hl';split at hl <;> split at hl'
  ·rename_i hb _ hb';exact (beq_true hb).symm.trans (beq_true hb')
  ·injection hl with hl;subst hl;exact absurd (i1 k' _ hl').2.2 hn
  ·injection hl' with hl';subst hl';exact absurd (i1 k _ hl).2.2 hn
  exact i2 k k' j hl hl'
def aFs (ρ:List (Nat × Nat))(m:Nat)(e':List (Nat × Value)):List (Nat × Value)→Bool
 |[]=>true
 |(t,v)::r=>(match look e' t with|some v'=>OM v' (fL (nm ρ) v)|none=>false)&&aDJ m v&&aFs ρ m e' r
theorem W6 {ρ:List (Nat × Nat)}{m:Nat}{e':List (Nat × Value)}:∀ {e:List (Nat × Value)},aFs ρ m e' e=true→∀ t v,look e t=some v→look e' t=some (fL (nm ρ) v)∧x6 m v
 |[],_,t,v,h=>by cases h
 |(j,q)::r,h,t,v,hl=>by
  simp only [aFs,Bool.and_eq_true] at h;obtain⟨⟨h1,h2⟩,h3⟩:=h;rw [aB] at hl;split at hl
  ·rename_i hb;have:=beq_true hb;subst this;injection hl with hl;subst hl;refine⟨?_,gO h2⟩;split at h1
   ·rename_i v' hv';rw [hv',G8 h1]
   ·cases h1
  exact W6 h3 t v hl
def aGA (b:Nat)(ρ:List (Nat × Nat))(e0:List (Nat × Value))(h0:Heap)(n0:Nat)(e:List (Nat × Value))(h:Heap):Bool :=
 Nat.ble b n0&&aFd b ρ&&aFs ρ n0 e e0&&YM b ρ n0 h h0
theorem WE {b:Nat}{ρ:List (Nat × Nat)}{e0:List (Nat × Value)}{h0:Heap}{n0:Nat}{e:List (Nat × Value)}{h:Heap}{nx:Nat}(hb:aGA b ρ e0 h0 n0 e h=true):kV b (nm ρ) e0 h0 n0 e h nx:=by
 simp only [aGA,Bool.and_eq_true] at hb;obtain⟨⟨⟨h1,h2⟩,h3⟩,h4⟩:=hb;obtain⟨r1,r2⟩:=XV h2;have hh:=PA h4;have hfix:∀ k,k<b→nm ρ k=k:=fun k hk=>by
  unfold nm;split
  ·rename_i j hj;have:=(r1 k j hj).1;omega
  rfl
 refine⟨W6 h3,fun k o hk=>⟨(hh k o hk).1,(hh k o hk).2.2⟩,fun k k' o o' hk hk' he=>?_,hfix,Nat.le_of_ble_eq_true h1⟩;have a1:=(hh k o hk).2.1;have a2:=(hh k' o' hk').2.1;by_cases c1:k<b <;> by_cases c2:k'<b
 ·rw [hfix k c1,hfix k' c2] at he;exact he
 ·obtain⟨j,hj⟩:=a2 (by omega);have hn:nm ρ k'=j:=(by unfold nm;rw [hj]);have:=(r1 k' j hj).2.1;rw [hfix k c1,hn] at he;omega
 ·obtain⟨j,hj⟩:=a1 (by omega);have hn:nm ρ k=j:=(by unfold nm;rw [hj]);have:=(r1 k j hj).2.1;rw [hfix k' c2,hn] at he;omega
 obtain⟨j,hj⟩:=a1 (by omega);obtain⟨j',hj'⟩:=a2 (by omega);have hn:nm ρ k=j:=(by unfold nm;rw [hj]);have hn':nm ρ k'=j':=(by unfold nm;rw [hj']);rw [hn,hn'] at he;subst he;exact r2 k k' j hj hj'
def prP (b:Nat):Value→Value→List (Nat × Nat)→List (Nat × Nat)
 |.slice (some a) _ _,.slice (some c) _ _,r=>(match Nat.ble b a.block with|true=>(a.block,c.block)::r|false=>r)
 |.pointer (some a),.pointer (some c),r=>(match Nat.ble b a.block with|true=>(a.block,c.block)::r|false=>r)
 |.map (some a),.map (some c),r=>(match Nat.ble b a with|true=>(a,c)::r|false=>r)
 |_,_,r=>r
def aLD (b:Nat):List Value→List Value→List (Nat × Nat)→List (Nat × Nat)
 |v::l,u::m,r=>prP b v u (aLD b l m r)
 |_,_,r=>r
def prS (b:Nat):Value→Value→List (Nat × Nat)→List (Nat × Nat)
 |.func _ _ c,.func _ _ c',r=>aLD b c.toList c'.toList r
 |v,u,r=>prP b v u r
def prL (b:Nat):List Value→List Value→List (Nat × Nat)→List (Nat × Nat)
 |v::l,u::m,r=>prS b v u (prL b l m r)
 |_,_,r=>r
def prA (b:Nat):Value→Value→List (Nat × Nat)→List (Nat × Nat)
 |.agg c,.agg c',r=>prL b c.toList c'.toList r
 |v,u,r=>prS b v u r
def aLH (b:Nat):List Value→List Value→List (Nat × Nat)→List (Nat × Nat)
 |v::l,u::m,r=>prA b v u (aLH b l m r)
 |_,_,r=>r
def prT (b:Nat):Value→Value→List (Nat × Nat)→List (Nat × Nat)
 |.tuple c,.tuple c',r=>aLH b c.toList c'.toList r
 |v,u,r=>prA b v u r
def prM (b:Nat):List (Value × Value)→List (Value × Value)→List (Nat × Nat)→List (Nat × Nat)
 |v::l,u::m,r=>prS b v.2 u.2 (prM b l m r)
 |_,_,r=>r
def prO (b:Nat):Option bH→Option bH→List (Nat × Nat)→List (Nat × Nat)
 |some (.cells _ _ _ cs),some (.cells _ _ _ cs'),r=>prL b cs cs' r
 |some (.map es),some (.map es'),r=>prM b es es' r
 |_,_,r=>r
def prE (b:Nat)(e':List (Nat × Value)):List (Nat × Value)→List (Nat × Nat)→List (Nat × Nat)
 |[],q=>q
 |(t,v)::r,q=>match look e' t with|some u=>prT b v u (prE b e' r q)|none=>prE b e' r q
def grow (b:Nat)(h h':Heap):Nat→List (Nat × Nat)→List (Nat × Nat)→List (Nat × Nat)
 |0,_,d=>d
 |_+1,[],d=>d
 |n+1,(j,k)::r,d=>match look d j with
  |some _=>grow b h h' n r d
  |none=>grow b h h' n (prO b (look h j) (look h' k) r) ((j,k)::d)
def aJO (b:Nat)(h':Heap):Heap→List (Nat × Nat)→List (Nat × Nat)
 |[],r=>r
 |(k,o)::l,r=>match Nat.blt k b with|true=>prO b (some o) (look h' k) (aJO b h' l r)|false=>aJO b h' l r
def aAL (b:Nat)(e e':List (Nat × Value))(h h':Heap):List (Nat × Nat):=grow b h h' 10000 (prE b e' e (aJO b h' h [])) []
def FJ {α:Type}:List α→(List α→Bool)→Bool
 |[],k=>k []
 |x::r,k=>FJ r fun r=>k (x::r)
theorem BE {α:Type}:∀ (l:List α) (k:List α→Bool),FJ l k=k l
 |[],k=>rfl
 |x::r,k=>by rw [FJ,BE r]
def RT:List (Nat × Value)→List Nat→List (Nat × Value)
 |[],_=>[]
 |(t,v)::r,seen=>match memB t seen with|true=>RT r seen|false=>(t,v)::RT r (t::seen)
def WN (b:Nat)(ρ:List (Nat × Nat)):Heap→Heap
 |[]=>[]
 |(k,o)::r=>match Nat.blt k b with
  |true=>(k,o)::WN b ρ r
  |false=>(match look ρ k with|some _=>(k,o)::WN b ρ r|none=>WN b ρ r)
abbrev uH:=Value→Heap→Nat→Bool
abbrev pZ:=List (Nat × Value)→Heap→Nat→Bool
abbrev vV:=Nat→List Value→Heap→Nat→uH→Bool
abbrev VRB:=Operand→Array Tmp→Code→Code→pZ→(Nat→pZ)→pZ→pZ
def qQ (x:Option Value)(K:Value→Bool):Bool:=match x with|some v=>K v|none=>false
def wbr (b:Bool)(A B:Unit→Bool):Bool:=match b with|true=>A ()|false=>B ()
def eH (b:Bool)(A:Bool):Bool:=match b with|true=>A|false=>false
def V3 (T:cQ)(h:Heap)(t:TypeId)(x:Value)(K:Value→Bool):Bool :=
 match x with
 |.pointer (some ⟨k,o,none⟩) =>
  match look T t,look h k with
  |some ti,some (.cells _ _ _ cs) =>
   match ti.isAgg with
   |true=>(match oK cs o ti.size with|some l=>K (.agg l.toArray)|none=>false)
   |false=>(match nth cs o with|some v=>K v|none=>false)
  |_,_=>false
 |_=>false
def w9 (T:cQ)(st:TypeId)(x:Value)(f:Nat)(K:Value→Bool):Bool :=
 match x,look T st with
 |.pointer (some ⟨k,o,none⟩),some { kind:=.st fs,.. } =>
  match fs[f]? with
  |some (off,ft)=>(match look T ft with|some _=>K (.pointer (some ⟨k,o+off,none⟩))|none=>false)
  |none=>false
 |_,_=>false
def xR (A:Ar)(T:cQ)(t:TypeId)(x ix:Value)(K:Value→Bool):Bool :=
 match look T t,x,ix with
 |some { kind:=.sl e,.. },.slice (some ⟨k,o,none⟩) n _,.int _ i =>
  (match look T e with|some ei=>eH (A.andB (A.le 0 i) (A.lt i (A.num n))) (K (.pointer (some ⟨k,A.ix o i ei.size,none⟩)))|none=>false)
 |some { kind:=.ar n e,.. },.pointer (some ⟨k,o,none⟩),.int _ i =>
  (match look T e with|some ei=>eH (A.andB (A.le 0 i) (A.lt i (A.num n))) (K (.pointer (some ⟨k,A.ix o i ei.size,none⟩)))|none=>false)
 |_,_,_=>false
def WT (T:cQ)(t:TypeId)(cs:List Value)(o:Nat)(K:Value→Bool):Bool :=
 match look T t with
 |some ti=>(match ti.isAgg with
  |true=>(match oK cs o ti.size with|some l=>K (.agg l.toArray)|none=>false)
  |false=>(match nth cs o with|some v=>K v|none=>false))
 |none=>false
def UT (T:cQ)(st:TypeId)(x:Value)(f:Nat)(K:Value→Bool):Bool :=
 match x,look T st with
 |.agg cs,some { kind:=.st fs,.. }=>(match fs[f]? with|some (off,ft)=>WT T ft cs.toList off K|none=>false)
 |_,_=>false
def TW (A:Ar)(T:cQ)(t:TypeId)(x ix:Value)(K:Value→Bool):Bool :=
 match look T t,x,ix with
 |some { kind:=.ar n e,.. },.agg cs,.int _ i =>
  (match look T e with|some ei=>eH (A.andB (A.le 0 i) (A.lt i (A.num n))) (WT T e cs.toList (A.ix 0 i ei.size) K)|none=>false)
 |some { kind:=.str,.. },.string b,.int _ i=>(match (if 0≤i then b[i.toNat]? else none) with|some u=>K (.int .u8 (A.num u.toNat))|none=>false)
 |_,_,_=>false
def aLw (A:Ar)(op:BinOp)(k:IntKind)(a b:Int)(K:Value→Bool):Bool :=
 match op with
 |.add=>eH (A.fits k (A.add a b)) (K (.int k (A.add a b)))
 |.sub=>eH (A.fits k (A.sub a b)) (K (.int k (A.sub a b)))
 |.mul=>eH (A.fits k (A.mul a b)) (K (.int k (A.mul a b)))
 |.quo=>eH (A.andB (A.notB (A.eq b 0)) (A.fits k (A.quo a b))) (K (.int k (A.quo a b)))
 |.rem=>eH (A.notB (A.eq b 0)) (K (.int k (A.rem a b)))
 |.eql=>K (.bool (A.eq a b))
 |.neq=>K (.bool (A.notB (A.eq a b)))
 |.lss=>K (.bool (A.lt a b))
 |.leq=>K (.bool (A.le a b))
 |.gtr=>K (.bool (A.lt b a))
 |.geq=>K (.bool (A.le b a))
 |.xor=>eH (A.andB (A.andB (A.le 0 a) (A.le 0 b)) (A.andB (A.lt a (vQ k)) (A.lt b (vQ k)))) (K (.int k (A.num (A.bit .xor (A.eP a) (A.eP b)))))
 |.or=>eH (A.andB (A.andB (A.le 0 a) (A.le 0 b)) (A.andB (A.lt a (vQ k)) (A.lt b (vQ k)))) (K (.int k (A.num (A.bit .or (A.eP a) (A.eP b)))))
 |.and=>eH (A.andB (A.andB (A.le 0 a) (A.le 0 b)) (A.andB (A.lt a (vQ k)) (A.lt b (vQ k)))) (K (.int k (A.num (A.bit .and (A.eP a) (A.eP b)))))
 |_=>false
def aHT (A:Ar)(T:cQ)(op:BinOp)(xt:TypeId)(x y:Value)(K:Value→Bool):Bool :=
 match x,y with
 |.int k a,.int k' b=>(match aGI op with
  |true=>eH (A.andB (A.le 0 a) (A.eq b 1)) (K (.int k (A.quo a 2)))
  |false=>(match kEq k k' with|true=>aLw A op k a b K|false=>false))
 |.bool a,.bool b=>(match op,look T xt with
  |.eql,some { kind:=.bool,.. }=>K (.bool (A.eqB a b))
  |.neq,some { kind:=.bool,.. }=>K (.bool (A.notB (A.eqB a b)))
  |_,_=>false)
 |.agg xs,.agg ys=>(match look T xt with
  |some _=>(match dL xs.toList,dL ys.toList with
   |true,true=>(match veq A T 100 xt (.agg xs) (.agg ys) with
    |some r=>(match op with
     |.eql=>K (.bool r)
     |.neq=>K (.bool (A.notB r))
     |_=>false)
    |none=>false)
   |_,_=>false)
  |none=>false)
 |_,_=>false
def aHY (T:cQ)(h:Heap)(op:BinOp)(t:TypeId)(x:Value)(K:Value→Bool):Bool :=
 match look T t,aEx h x,op with
 |some { kind:=.sl _,.. },some b,.eql=>K (.bool b)
 |some { kind:=.sl _,.. },some b,.neq=>K (.bool (!b))
 |_,_,_=>false
def wun (A:Ar)(op:UnOp)(x:Value)(K:Value→Bool):Bool :=
 match op,x with
 |.neg,.int k a=>eH (A.fits k (A.neg a)) (K (.int k (A.neg a)))
 |.not,.bool b=>K (.bool (A.notB b))
 |_,_=>false
def UN (T:cQ)(t:TypeId)(ps:List (Nat × Value))(K:Value→Bool):Bool :=
 match look T t with
 |some ti =>
  match (match ti.kind with|.st fs=>j5 T fs|.ar _ e=>(look T e).isSome|_=>false),kL ps with
  |true,true=>(match CB (places T ti) ps ti.zv.cells.toList with
   |some cells=>K (.agg cells.toArray)
   |none=>false)
  |_,_=>false
 |none=>false
def ET (A:Ar)(T:cQ)(b:Builtin)(ts:Array TypeId)(vs:List Value)(K:Value→Bool):Bool :=
 match b,ts.toList,vs with
 |.len,[t],[.slice _ n _]=>(match look T t with|some { kind:=.sl _,.. }=>K (.int .i64 (A.num n))|_=>false)
 |.cap,[t],[.slice none _ c]=>(match look T t with|some { kind:=.sl _,.. }=>K (.int .i64 (A.num c))|_=>false)
 |.max,_,v::r=>qQ (W8 A.max v r) K
 |.min,_,v::r=>qQ (W8 A.min v r) K
 |_,_,_=>false
def wF (A:Ar)(T:cQ)(env:List (Nat × Value))(h:Heap)(op:Op)(K:Value→Bool):Bool :=
 match op with
 |.move x|.assign x=>qQ (cK env x) K
 |.pick c a b=>qQ (cK env c) fun u=>(match u with
  |.bool t=>wbr t (fun _=>qQ (cK env a) K) (fun _=>qQ (cK env b) K)
  |_=>false)
 |.nilCheck x=>qQ (cK env x) fun u=>(match u with
  |.pointer (some a)=>K (.pointer (some a))
  |.func (.func f) fi c=>K (.func (.func f) fi c)
  |.func (.yield f) fi c=>K (.func (.yield f) fi c)
  |_=>false)
 |.load t x=>qQ (cK env x) fun u=>V3 T h t u K
 |.fieldAddr s x f=>qQ (cK env x) fun u=>w9 T s u f K
 |.field s x f=>qQ (cK env x) fun u=>UT T s u f K
 |.indexAddr t x i=>qQ (cK env x) fun u=>qQ (cK env i) fun j=>xR A T t u j K
 |.index t x i=>qQ (cK env x) fun u=>qQ (cK env i) fun j=>TW A T t u j K
 |.binOp op t x y _=>qQ (cK env x) fun u=>qQ (cK env y) fun v=>(match v with
  |.slice none _ _=>aHY T h op t u K
  |_=>aHT A T op t u v K)
 |.unOp op _ x=>qQ (cK env x) fun u=>wun A op u K
 |.convert s d x=>qQ (cK env x) fun u=>(match u,look T s,look T d with
  |.int _ n,some _,some { kind:=.int k,.. }=>eH (A.fits k n) (K (.int k n))
  |_,_,_=>false)
 |.makeFunc fn first cap=>(match fn,first.toList with
  |.func f,[]=>(match AO env cap.toList with|some l=>K (.func (.func f) #[] l.toArray)|none=>false)
  |_,_=>false)
 |.extract x i=>qQ (cK env x) fun u=>(match u with
  |.tuple vs=>qQ (vs.toList[i]?) K
  |_=>false)
 |.build t ps=>(match kM env ps.toList with|some l=>UN T t l K|none=>false)
 |.call c=>(match c.callee with
  |.builtin b=>(match jL env c.args.toList with|some vs=>ET A T b c.argTypes vs K|none=>false)
  |_=>false)
 |_=>false
def RW (T:cQ)(h:Heap)(nx:Nat)(t:TypeId)(x v:Value)(K:uH):Bool :=
 match x with
 |.pointer (some ⟨k,o,none⟩) =>
  (match look T t,look h k with
  |some ti,some (.cells true _ sz cs) =>
   (match Nat.beq v.cells.size ti.size,(match v with|.tuple _=>false|_=>true) with
   |true,true=>eH (Nat.ble (o+v.cells.size) cs.length) (K undef (xA h k (.cells true false sz (eY cs o v.cells.toList))) nx)
   |_,_=>false)
  |_,_=>false)
 |_=>false
def aIp (h:Heap)(nx:Nat)(v:Value)(K:uH):Bool :=
 match v with
 |.tuple _=>false
 |v=>K (.pointer (some ⟨nx,0,none⟩)) (cU h nx (.cells true false 1 v.cells.toList)) (nx+1)
def TH (T:cQ)(h:Heap)(nx:Nat)(t:TypeId)(K:uH):Bool :=
 match look T t with
 |some ti=>K (.pointer (some ⟨nx,0,none⟩)) (cU h nx (.cells true false 1 ti.zv.cells.toList)) (nx+1)
 |none=>false
def uI (T:cQ)(h:Heap)(nx:Nat)(t:TypeId)(len:Nat)(ps:List (Nat × Value))(K:uH):Bool :=
 match look T t with
 |some { kind:=.sl e,.. } =>
  (match look T e with
  |some ei =>
   (match Nat.ble (len*ei.size) 1000000,kL ps with
   |true,true =>
    (match CB (fun i=>some (i*ei.size,ei.size)) ps (rep len ei.zv.cells.toList) with
    |some cells=>K (.slice (some ⟨nx,0,none⟩) len len) (cU h nx (.cells true false ei.size cells)) (nx+1)
    |none=>false)
   |_,_=>false)
  |none=>false)
 |_=>false
def whi (A:Ar)(n c:Nat)(hi:Option Value)(G:Nat→Bool):Bool :=
 match hi with
 |none=>G n
 |some (.int _ i)=>eH (A.andB (A.le 0 i) (A.le i (A.num c))) (G (A.eP i))
 |_=>false
def MQ (A:Ar)(T:cQ)(h:Heap)(nx:Nat)(t:TypeId)(x:Value)(lo hi mx:Option Value)(K:uH):Bool :=
 match look T t with
 |some { kind:=.sl e,.. } =>
  (match look T e with
  |none=>false
  |some ei =>
   match x,mx with
   |.slice none 0 0,none=>(match isZero lo,isZero hi with|true,true=>K (.slice none 0 0) h nx|_,_=>false)
   |.slice (some ⟨k,o,none⟩) n c,none =>
    whi A n c hi fun hN =>
     (match lo with
     |none=>K (.slice (some ⟨k,o,none⟩) hN c) h nx
     |some (.int _ l)=>eH (A.andB (A.andB (A.le 0 l) (A.le l (A.num hN))) (A.le (A.num hN) (A.num c)))
      (match look h k with
      |some (.cells _ _ _ _)=>eH (A.lt l (A.num c)) (K (.slice (some ⟨k,A.ix o l ei.size,none⟩) (A.subN hN (A.eP l)) (A.subN c (A.eP l))) h nx)
      |_=>false)
     |_=>false)
   |.slice (some ⟨k,o,none⟩) n c,some (.int _ 0) =>
    (match isZero lo,hi with|true,some (.int _ 0)=>K (.slice (some ⟨nx,0,none⟩) 0 0) (cU h nx .zero) (nx+1)|_,_=>false)
   |.slice (some ⟨k,o,none⟩) n c,some (.int _ m) =>
    (match lo,hi with
    |some (.int _ l),some (.int _ u)=>eH (A.andB (A.andB (A.le 0 l) (A.le l u)) (A.andB (A.le u m) (A.andB (A.le 1 m) (A.le m (A.num c))))) (K (.slice (some ⟨nx,0,none⟩) (A.subN (A.eP u) (A.eP l)) (A.subN (A.eP m) (A.eP l))) (Z2 h nx k (A.ix o l ei.size) (A.subN (A.eP m) (A.eP l)*ei.size)) (nx+1))
    |none,some (.int _ u)=>eH (A.andB (A.le 0 u) (A.andB (A.le u m) (A.andB (A.le 1 m) (A.le m (A.num c))))) (K (.slice (some ⟨nx,0,none⟩) (A.eP u) (A.eP m)) (Z2 h nx k o (A.eP m*ei.size)) (nx+1))
    |_,_=>false)
   |_,_=>false)
 |_=>false
def aK2 (h:Heap)(sz:Nat)(x:Value)(G:Nat→List Value→Bool):Bool :=
 match x with
 |.slice none 0 0=>G 0 []
 |.slice (some ⟨k,o,none⟩) m _ =>
  (match look h k with
  |some (.cells _ _ _ cs)=>eH (Nat.ble (o+m*sz) cs.length) (G m ((cs.drop o).take (m*sz)))
  |some .zero=>(match m with|0=>G 0 []|_=>false)
  |_=>false)
 |_=>false
def K8 (A:Ar)(T:cQ)(h:Heap)(nx:Nat)(st xt:TypeId)(s x:Value)(K:uH):Bool :=
 match look T st,look T xt with
 |some { kind:=.sl e,.. },some { kind:=.int _,.. } =>
  (match look T e with
  |some ei=>(match s,x,Nat.ble ei.bytes 1000 with
   |.slice none 0 0,.int .i64 i,true=>eH (A.andB (A.lt 0 i) (A.le i 1000000000)) (K (.slice (some ⟨nx,0,none⟩) (A.eP i) (A.eP i)) (cU h nx (.cells true false ei.size (rep (A.eP i) ei.zv.cells.toList))) (nx+1))
   |_,_,_=>false)
  |none=>false)
 |some { kind:=.sl e,.. },some { kind:=.sl _,.. } =>
  (match look T e with
  |none=>false
  |some ei =>
   match Nat.ble ei.bytes 1000 with
   |false=>false
   |true =>
    aK2 h ei.size x fun m src =>
     (match s with
     |.slice none 0 0=>wbr (Nat.beq m 0) (fun _=>K (.slice none 0 0) h nx)
      (fun _=>eH (Nat.ble m 1000000000) (K (.slice (some ⟨nx,0,none⟩) m m) (cU h nx (.cells true false ei.size src)) (nx+1)))
     |.slice (some ⟨k,o,none⟩) n c =>
      (match look h k with
      |some .zero=>(match n,c with
       |0,0=>wbr (Nat.beq m 0) (fun _=>K (.slice (some ⟨k,o,none⟩) 0 0) h nx)
        (fun _=>eH (Nat.ble m 1000000000) (K (.slice (some ⟨nx,0,none⟩) m m) (cU h nx (.cells true false ei.size src)) (nx+1)))
       |_,_=>false)
      |some (.cells true _ sz cs) =>
       wbr (Nat.ble (n+m) c)
        (fun _=>eH (Nat.ble (o+(n+m)*ei.size) cs.length) (K (.slice (some ⟨k,o,none⟩) (n+m) c) (xA h k (.cells true false sz (eY cs (o+n*ei.size) src))) nx))
        (fun _=>eH (A.andB (A.andB (Nat.ble (n+m) 1000000000) (Nat.ble (o+n*ei.size) cs.length)) (A.andB (Nat.beq (o+c*ei.size) cs.length) (Nat.beq sz ei.size)))
         (K (.slice (some ⟨nx,0,none⟩) (n+m) (n+m)) (cU (rem h k) nx (.cells true false ei.size ((cs.drop o).take (n*ei.size)++src))) (nx+1)))
      |_=>false)
     |_=>false))
 |_,_=>false
def aBs (h:Heap)(nx:Nat)(K:uH):Bool:=K (.map (some nx)) (cU h nx (.map [])) (nx+1)
def xV (A:Ar)(T:cQ)(h:Heap)(nx:Nat)(t:TypeId)(l c:Value)(K:uH):Bool :=
 match look T t,l,c with
 |some { kind:=.sl e,.. },.int .i64 i,.int .i64 j =>
  (match look T e with
  |some ei=>eH (A.andB (A.andB (A.le 0 i) (A.le i j)) (A.andB (A.le j 1000000000) (Nat.ble ei.bytes 1000)))
   (K (.slice (some ⟨nx,0,none⟩) (A.eP i) (A.eP j)) (cU h nx (.cells true false ei.size (rep (A.eP j) ei.zv.cells.toList))) (nx+1))
  |none=>false)
 |_,_,_=>false
def D4 (A:Ar)(T:cQ)(h:Heap)(t:TypeId)(x key:Value)(ok:Bool)(K:Value→Bool):Bool :=
 match look T t,x,key with
 |some { kind:=.mp kt et,.. },.map (some k),.agg cs =>
  (match look T kt,look T et,look h k with
  |some { kind:=.st fs,.. },some ei,some (.map es) =>
   (match jB T cs.toList fs,dL cs.toList,rQ A T kt (.agg cs) es with
   |true,true,some r =>
    (match ok,r with
    |true,some v=>K (.tuple #[v,.bool true])
    |true,none=>K (.tuple #[ei.zv,.bool false])
    |false,some v=>K v
    |false,none=>K ei.zv)
   |_,_,_=>false)
  |_,_,_=>false)
 |_,_,_=>false
def wX (A:Ar)(T:cQ)(h:Heap)(nx:Nat)(t:TypeId)(x key v:Value)(K:uH):Bool :=
 match look T t,x,key,(match v with|.agg _=>false|.tuple _=>false|_=>true) with
 |some { kind:=.mp kt _,.. },.map (some k),.agg cs,true =>
  (match look T kt,look h k with
  |some { kind:=.st fs,.. },some (.map es) =>
   (match jB T cs.toList fs,dL cs.toList,rQ A T kt (.agg cs) es with
   |true,true,some none=>K undef (xA h k (.map (es++[(.agg cs,v)]))) nx
   |_,_,_=>false)
  |_,_=>false)
 |_,_,_,_=>false
def SH (T:cQ)(h:Heap)(nx:Nat)(t:TypeId)(x:Value)(K:uH):Bool :=
 match look T t,x with
 |some { kind:=.sl _,.. },.slice none 0 0=>K (.tuple #[]) h nx
 |some { kind:=.sl e,.. },.slice (some ⟨k,o,none⟩) n _ =>
  (match n with
  |0=>K (.tuple #[]) h nx
  |_=>(match look T e,look h k with
   |some ei,some (.cells true _ sz cs)=>eH (Nat.ble (o+n*ei.size) cs.length) (K (.tuple #[]) (xA h k (.cells true false sz (eY cs o (rep n ei.zv.cells.toList)))) nx)
   |_,_=>false))
 |_,_=>false
def wop (A:Ar)(T:cQ)(C:vV)(Y:vV)(env:List (Nat × Value))(h:Heap)(nx:Nat)(op:Op)(K:uH):Bool :=
 match op with
 |.store t x y=>qQ (cK env x) fun p=>qQ (cK env y) fun v=>RW T h nx t p v K
 |.alloc t=>TH T h nx t K
 |.box _ x=>qQ (cK env x) fun v=>aIp h nx v K
 |.buildSlice t n ps=>(match kM env ps.toList with|some l=>uI T h nx t n l K|none=>false)
 |.slice t x lo hi mx=>qQ (cK env x) fun v=>(match kY env lo,kY env hi,kY env mx with
  |some l,some u,some m=>MQ A T h nx t v l u m K
  |_,_,_=>false)
 |.makeMap _ none=>aBs h nx K
 |.makeSlice t l c=>qQ (cK env l) fun l=>qQ (cK env c) fun c=>xV A T h nx t l c K
 |.lookup t m k ok=>qQ (cK env m) fun x=>qQ (cK env k) fun y=>D4 A T h t x y ok (fun v=>K v h nx)
 |.mapUpdate t m k u=>qQ (cK env m) fun x=>qQ (cK env k) fun y=>qQ (cK env u) fun v=>wX A T h nx t x y v K
 |.call c=>(match c.callee with
  |.builtin .append=>(match c.argTypes.toList,jL env c.args.toList with|[st,xt],some [s,x]=>K8 A T h nx st xt s x K|_,_=>false)
  |.builtin .clear=>(match c.argTypes.toList,jL env c.args.toList with|[t],some [x]=>SH T h nx t x K|_,_=>false)
  |.builtin _=>wF A T env h op (fun v=>K v h nx)
  |.value f=>qQ (cK env f) fun fv=>(match jL env c.args.toList with
   |some l=>(match fv with
    |.func (.func g) first cap=>(match first.toList,lC cap.toList with
     |[],true=>C g (l++cap.toList) h nx K
     |_,_=>false)
    |.func (.yield q) first _=>(match first.toList with
     |[]=>Y q l h nx K
     |_=>false)
    |_=>false)
   |none=>false)
  |_=>false)
 |_=>wF A T env h op (fun v=>K v h nx)
def AR (A:Ar)(ops:List Oper)(env:List (Nat × Value))(g:Option (Nat × Bool))(Y N:List (Nat × Value)→Bool):Bool :=
 match g with
 |none=>Y env
 |some (j,want)=>match eL ops j with
  |some o=>(match o.dst with
   |some t=>(match look env t with
    |some (.bool b)=>wbr (A.eqB b want) (fun _=>Y (put env t (.bool want))) (fun _=>N (put env t (.bool (!want))))
    |some (.tuple _)=>N env
    |_=>false)
   |none=>false)
  |none=>false
def HD (tn:Nat)(env:List (Nat × Value))(dst:Option Nat)(v:Value)(K:List (Nat × Value)→Bool):Bool :=
 match dst with
 |none=>K env
 |some d=>match Nat.blt d tn with|true=>K (put env d v)|false=>false
def aFj (A:Ar)(T:cQ)(C:vV)(Y:vV)(tn:Nat)(ops:List Oper):List Oper→List (Nat × Value)→Heap→Nat→pZ→Bool
 |[],env,h,nx,K=>K env h nx
 |o :: r,env,h,nx,K=>AR A ops env o.guard
    (fun env=>wop A T C Y env h nx o.op fun v h' nx'=>HD tn env o.dst v fun env'=>aFj A T C Y tn ops r env' h' nx' K)
    (fun env=>HD tn env o.dst undef fun env'=>aFj A T C Y tn ops r env' h nx K)
def HM (A:Ar)(T:cQ)(C:vV)(hJ:Heap)(nx:Nat)(env:List (Nat × Value))(op:Op)(K:Value→Bool):Bool :=
 match op with
 |.load _ _=>wF A T env hJ op K
 |.lookup t m k ok=>qQ (cK env m) fun x=>qQ (cK env k) fun y=>D4 A T hJ t x y ok K
 |.slice t x lo hi mx=>qQ (cK env x) fun v=>(match kY env lo,kY env hi,kY env mx with
  |some l,some u,some m=>MQ A T hJ nx t v l u m (fun v _ nx'=>match Nat.beq nx' nx with|true=>K v|false=>false)
  |_,_,_=>false)
 |.call c=>(match c.callee with
  |.builtin _=>wF A T env [] op K
  |.value f=>qQ (cK env f) fun fv=>(match jL env c.args.toList with
   |some l=>(match fv with
    |.func (.func g) first cap=>(match first.toList,lC cap.toList with
     |[],true=>C g (l++cap.toList) (eI hJ) nx (fun v _ _=>match gT v with|true=>K v|false=>false)
     |_,_=>false)
    |_=>false)
   |none=>false)
  |_=>false)
 |_=>wF A T env [] op K
def QW (A:Ar)(T:cQ)(C:vV)(tn:Nat)(ops:List Oper)(hJ:Heap)(nx:Nat):List Nat→List (Nat × Value)→(List (Nat × Value)→Bool)→Bool
 |[],env,K=>K env
 |i::r,env,K=>match eL ops i with
  |none=>false
  |some o=>AR A ops env o.guard
   (fun env=>HM A T C hJ nx env o.op fun v=>HD tn env o.dst v fun env=>QW A T C tn ops hJ nx r env K)
   (fun env=>HD tn env o.dst undef fun env=>QW A T C tn ops hJ nx r env K)
def EA (T:cQ)(tn:Nat)(ops:List Oper):List Nat→List (Nat × Value)→Heap→Nat→pZ→Bool
 |[],env,h,nx,K=>K env h nx
 |i::r,env,h,nx,K=>match eL ops i with
  |some { op:=.alloc t,dst:=some d,.. }=>(match look T t with
   |some ti=>HD tn env (some d) (.pointer (some ⟨nx,0,none⟩)) fun env=>EA T tn ops r env (cU h nx (.cells true false 1 ti.zv.cells.toList)) (nx+1) K
   |none=>false)
  |_=>false
def PG (A:Ar)(T:cQ)(C:vV)(Y:vV)(tn:Nat)(ops:List Oper)(hJ:Heap):List (Nat × Bool)→List (Nat × Value)→Heap→Nat→pZ→Bool
 |[],env,h,nx,K=>K env h nx
 |(i,chk)::r,env,h,nx,K=>match eL ops i with
  |none=>false
  |some o=>AR A ops env o.guard
   (fun env=>eH (yA env hJ chk o.op) (wop A T C Y env h nx o.op fun v h' nx'=>HD tn env o.dst v fun env'=>PG A T C Y tn ops hJ r env' h' nx' K))
   (fun env=>HD tn env o.dst undef fun env'=>PG A T C Y tn ops hJ r env' h nx K)
def WJ (A:Ar)(T:cQ)(C:vV)(Y:vV)(tn:Nat)(ops:List Oper)(p:fB)(env:List (Nat × Value))(h:Heap)(nx:Nat)(K:pZ):Bool :=
 QW A T C tn ops (JH T ops env p h) nx p.head env fun env1 =>
  EA T tn ops p.allocs env1 h nx fun env2 h2 nx2 =>
   PG A T C Y tn ops (JH T ops env p h) p.tail env2 h2 nx2 K
def aBQ (A:Ar)(T:cQ)(C:vV)(Y:vV)(tn:Nat)(ops:List Oper)(o:Oper)(e:List (Nat × Value))(h:Heap)(nx:Nat)(K:pZ):Bool :=
 AR A ops e o.guard (fun e=>wop A T C Y e h nx o.op fun v h' nx'=>HD tn e o.dst v fun e'=>K e' h' nx') (fun e=>HD tn e o.dst undef fun e'=>K e' h nx)
def wall (F:Nat→Bool):List Nat→Bool
 |[]=>true
 |i::r=>F i&&wall F r
def aEz (A:Ar)(T:cQ)(C:vV)(Y:vV)(tn:Nat)(ops:List Oper)(K:pZ):Nat→List Nat→pZ
 |0,_=>K
 |n+1,done=>fun e h nx=>match eG ops done ops 0 with
  |[]=>K e h nx
  |i::r=>wall (fun j=>match eL ops j with|some o=>aBQ A T C Y tn ops o e h nx (aEz A T C Y tn ops K n (j::done))|none=>false) (i::r)
def L4 (A:Ar)(T:cQ)(C:vV)(Y:vV)(tn:Nat)(ops:List Oper)(K:pZ):Nat→List Nat→pZ
 |0,_=>K
 |n+1,done=>fun e h nx=>match eG ops done ops 0 with
  |[]=>K e h nx
  |j::_=>(match eL ops j with|some o=>aBQ A T C Y tn ops o e h nx (L4 A T C Y tn ops K n (j::done))|none=>false)
def aCG (A:Ar)(T:cQ)(C:vV)(Y:vV)(tn:Nat)(ops:Array Oper)(e:List (Nat × Value))(h:Heap)(nx:Nat)(K:pZ):Bool :=
 L4 A T C Y tn ops.toList (fun e0 h0 n0=>FJ (RT e0 []) fun e0=>FJ (WN nx (aAL nx e0 e0 h0 h0) h0) fun h0 =>
  aEz A T C Y tn ops.toList (fun e1 h1 _=>aGA nx (aAL nx e0 e1 h0 h1) e0 h0 n0 e1 h1) ops.size [] e h nx&&K e0 h0 n0) ops.size [] e h nx
def aDN (F:pZ→pZ):Nat→pZ
 |0,_,_,_=>false
 |n+1,e,h,nx=>F (aDN F n) e h nx
def qJ (A:Ar)(T:cQ)(C:vV)(Y:vV)(tn:Nat)(PL:Nat→Option fB)(M:Nat)(R:VRB):Code→pZ→(Nat→pZ)→pZ→pZ
 |.skip,kn,_,_=>kn
 |.region id ops draw,kn,_,_=>fun e h nx=>match draw with
  |false=>aFj A T C Y tn ops.toList ops.toList e h nx kn
  |true=>(match PL id with|some p=>WJ A T C Y tn ops.toList p e h nx kn|none=>aCG A T C Y tn ops e h nx kn)
 |.seq a b,kn,kx,kr=>qJ A T C Y tn PL M R a (qJ A T C Y tn PL M R b kn kx kr) kx kr
 |.cond c t f,kn,kx,kr=>fun e h nx=>match cK e c with
  |some (.bool b)=>wbr b (fun _=>qJ A T C Y tn PL M R t kn kx kr e h nx) (fun _=>qJ A T C Y tn PL M R f kn kx kr e h nx)
  |_=>false
 |.block id b,kn,kx,kr=>qJ A T C Y tn PL M R b kn (fun j=>match Nat.beq j id with|true=>kn|false=>kx j) kr
 |.loop b,_,kx,kr=>aDN (fun k=>qJ A T C Y tn PL M R b k kx kr) M
 |.rangeFunc g ps as bd,kn,kx,kr=>R g ps as bd kn kx kr
 |.exit id,_,kx,_=>kx id
 |.ret,_,_,kr=>kr
 |.label _,kn,_,_=>kn
 |.scope b,kn,kx,kr=>qJ A T C Y tn PL M R b kn kx kr
 |_,_,_,_=>fun _ _ _=>false
def zT (T:cQ)(e:List (Nat × Value))(h:Heap):List ResultVar→(List Value→Bool)→Bool
 |[],K=>K []
 |.tmp t::r,K=>qQ (look e t) fun v=>zT T e h r fun l=>K (v::l)
 |.cell a t::r,K=>qQ (look e a) fun p=>V3 T h t p fun v=>zT T e h r fun l=>K (v::l)
def aLu (T:cQ)(fn:Func)(K:uH):pZ:=fun e h nx=>zT T e h fn.results.toList fun l =>
 match l with
 |[v]=>K v h nx
 |l=>match JT l with|true=>K (.tuple l.toArray) h nx|false=>false
def aDv (C:vV)(f tn:Nat):VRB:=fun g ps as bd kn kx kr e h nx =>
 qQ (cK e g) fun gv=>match gv with
  |.func (.func q) first cap=>(match first.toList,lC cap.toList with
   |[],true=>C q (.func (.yield (nx+1)) #[] #[]::cap.toList)
    (cU (cU h nx .deferred) (nx+1) (.loop { state:=.ready,pending:=none,fn:=f,env:=e,tn:=tn,params:=ps.toList,assign:=as,body:=bd,defers:=nx })) (nx+2) fun _ h' nx' =>
    (match look h' (nx+1),look h' nx with
    |some (.loop l),some .deferred=>(match l.state,l.pending with
     |.busy,_=>false
     |_,none=>kn e (gE h' nx) nx'
     |_,some (.exit id)=>kx id e (gE h' nx) nx'
     |_,some .ret=>kr e (gE h' nx) nx'
     |_,_=>false)
    |_,_=>false)
   |_,_=>false)
  |_=>false
def OB:VRB:=fun _ _ _ _ _ _ _ _ _ _=>false
def aCF (q:Nat)(K:uH)(j:Option Code):pZ:=fun _ h nx =>
 match look h q with
 |some (.loop l)=>K (.bool j.isNone) (xA h q (.loop { l with state:=if j.isNone then .ready else .done,pending:=j })) nx
 |_=>false
def SG (A:Ar)(T:cQ)(C:vV)(Y:vV)(PL:Nat→Nat→Option fB)(M:Nat):vV:=fun q args h nx K =>
 match look h q with
 |some (.loop l)=>(match sZ l.tn l.env l.params args,cR (PL l.fn) l.assign&&cR (PL l.fn) l.body with
  |some e0,true=>qJ A T C Y l.tn (PL l.fn) M OB l.assign (fun e1 h1 nx1 =>
   match look h1 q with
   |some (.loop l1)=>(match l1.state with
    |.ready=>qJ A T C Y l.tn (PL l.fn) M OB l.body (aCF q K none) (fun id=>aCF q K (some (.exit id))) (aCF q K (some .ret)) e1 (xA h1 q (.loop { l1 with state:=.busy })) nx1
    |_=>false)
   |_=>false) (fun _ _ _ _=>false) (fun _ _ _=>false) e0 h nx
  |_,_=>false)
 |_=>false
def aBR (c:DC)(XB:Nat→Option (List Value→Heap→Nat→uH→Bool))(M:Nat)(C:vV)(Y:vV):vV:=fun f args h nx K =>
 match c.X f with
 |some _=>(match XB f with|some xb=>xb args h nx K|none=>false)
 |none=>match c.FT f with
  |none=>false
  |some fn=>(match fn.body,Nat.ble args.length fn.ntmps with
   |some b,true =>
    let fin:pZ:=aLu c.T fn fun v h' nx'=>K v h' nx'
    qJ c.A c.T C Y fn.ntmps (c.PL f) M (aDv C f fn.ntmps) b fin (fun _ _ _ _=>false) fin (rN 0 args) h nx
   |_,_=>false)
def aLG (h:Heap)(nx:Nat)(K:uH):uH:=fun v h' nx'=>match gT v with
 |true=>K v h nx
 |false=>K v (app (pJ nx h' h') h) nx'
def aIB (PR:Nat→Bool)(C:vV):vV:=fun f args h nx K=>match PR f with
 |true=>C f args (eI h) nx (aLG h nx K)
 |false=>C f args h nx K
def CZ (c:DC)(XB:Nat→Option (List Value→Heap→Nat→uH→Bool)):Nat→Bool→vV
 |0,_=>fun _ _ _ _ _=>false
 |d+1,false=>aIB c.PR (aBR c XB c.M (CZ c XB d false) (CZ c XB d true))
 |d+1,true=>SG c.A c.T (CZ c XB d false) (CZ c XB d true) c.PL c.M
section
variable {A:Ar}{T:cQ}{K:Value→Bool}{K':Value→Prop}
theorem bB {x:Option Value}(hK:∀ v,K v=true→K' v)(hl:qQ x K=true):on x K':=by
 cases x with
 |none=>cases hl
 |some v=>exact hK v hl
theorem mD {b:Bool}{X Y:Unit→Bool}{X' Y':Unit→Prop}(h1:X ()=true→X' ())(h2:Y ()=true→Y' ())(hl:wbr b X Y=true):br b X' Y':=by
 cases b with
 |true=>exact h1 hl
 |false=>exact h2 hl
theorem aX {b X:Bool}{X':Prop}(h:X=true→X')(hl:eH b X=true):dT b X':=by
 cases b with
 |true=>exact h hl
 |false=>cases hl
theorem PC {h:Heap}{t:TypeId}{x:Value}(hK:∀ v,K v=true→K' v)(hl:V3 T h t x K=true):sR T h t x K':=by
 unfold V3 at hl;unfold sR
 repeat' (split at hl)
 all_goals first|(cases hl;done)|(simp_all;done)
theorem IY {t:TypeId}{x:Value}{f:Nat}(hK:∀ v,K v=true→K' v)(hl:w9 T t x f K=true):gY T t x f K':=by
 unfold w9 at hl;unfold gY
 repeat' (split at hl)
 all_goals first|(cases hl;done)|(simp_all;done)
theorem JB {t:TypeId}{x ix:Value}(hK:∀ v,K v=true→K' v)(hl:xR A T t x ix K=true):iR A T t x ix K':=by
 unfold xR at hl;unfold iR
 repeat' (split at hl)
 all_goals first|(cases hl;done)|(simp_all;exact aX (hK _) hl;done)
theorem Q6 {t:TypeId}{cs:List Value}{o:Nat}(hK:∀ v,K v=true→K' v)(hl:WT T t cs o K=true):CN T t cs o K':=by
 unfold WT at hl;unfold CN
 repeat' (split at hl)
 all_goals first|(cases hl;done)|(simp_all;done)
theorem ZM {t:TypeId}{x:Value}{f:Nat}(hK:∀ v,K v=true→K' v)(hl:UT T t x f K=true):sW T t x f K':=by
 unfold UT at hl;unfold sW
 repeat' (split at hl)
 all_goals first|(cases hl;done)|(simp_all;exact Q6 hK hl;done)
theorem Z0 {t:TypeId}{x ix:Value}(hK:∀ v,K v=true→K' v)(hl:TW A T t x ix K=true):sT A T t x ix K':=by
 unfold TW at hl;unfold sT
 repeat' (split at hl)
 all_goals first|(cases hl;done)|(simp_all;exact aX (Q6 hK) hl;done)|(simp_all;done)
theorem aG4 {op:BinOp}{k:IntKind}{a b:Int}(hK:∀ v,K v=true→K' v)(hl:aLw A op k a b K=true):Y0 A op k a b K':=by
 cases op <;> first|(cases hl;done)|exact hK _ hl|exact aX (hK _) hl
theorem aGj {op:BinOp}{t:TypeId}{x y:Value}(hK:∀ v,K v=true→K' v)(hl:aHT A T op t x y K=true):RX A T op t x y K':=by
 unfold aHT at hl;unfold RX
 repeat' (split at hl)
 all_goals first|(cases hl;done)|(simp_all;done)|(simp_all;exact aG4 hK hl;done)|(simp_all;exact aX (hK _) hl;done)
theorem aGx {op:BinOp}{h:Heap}{t:TypeId}{x:Value}(hK:∀ v,K v=true→K' v)(hl:aHY T h op t x K=true):R7 T h op t x K':=by
 unfold aHY at hl;unfold R7
 repeat' (split at hl)
 all_goals first|(cases hl;done)|(simp_all;done)
theorem aK6 {op:UnOp}{x:Value}(hK:∀ v,K v=true→K' v)(hl:wun A op x K=true):vun A op x K':=by
 unfold wun at hl;unfold vun
 repeat' (split at hl)
 all_goals first|(cases hl;done)|(simp_all;done)|(simp_all;exact aX (hK _) hl;done)
theorem J0 {t:TypeId}{ps:List (Nat × Value)}(hK:∀ v,K v=true→K' v)(hl:UN T t ps K=true):xB T t ps K':=by
 unfold UN at hl;unfold xB;cases ht:look T t with
 |none=>simp only [ht] at hl;cases hl
 |some ti =>
  simp only [ht] at hl ⊢;cases hk:ti.kind <;> simp only [hk] at hl ⊢ <;> cases hp:kL ps <;> (try simp only [hp] at hl ⊢)
  all_goals first
   |(simp at hl;done)
   |(split at hl <;> first|(cases hl;done)|(split at hl <;> first|(cases hl;done)|(simp only [*];first|done|exact hK _ hl)))
theorem CG {b:Builtin}{ts:Array TypeId}{vs:List Value}(hK:∀ v,K v=true→K' v)(hl:ET A T b ts vs K=true):nM A T b ts vs K':=by
 unfold ET at hl;unfold nM
 repeat' (split at hl)
 all_goals first|(cases hl;done)|(simp_all;done)|(simp_all;exact bB hK hl;done)
theorem oC {env:List (Nat × Value)}{h:Heap}{op:Op}(hK:∀ v,K v=true→K' v)(hl:wF A T env h op K=true):jC A T env h op K':=by
 cases op with
 |move x=>exact bB hK hl
 |assign x=>exact bB hK hl
 |pick c a b =>
  refine bB (fun u hu=>?_) hl;split at hu
  ·first|exact mD (bB hK) (bB hK) hu|(simp only [*];exact mD (bB hK) (bB hK) hu)|(simp only [*];done)
  ·cases hu
 |nilCheck x =>
  first|refine bB (fun u hu=>?_) hl|(simp only [*];refine bB (fun u hu=>?_) hl)|(simp only [*];done)
  split at hu
  ·first|exact hK _ hu|(simp only [*];exact hK _ hu)|(simp only [*];done)
  ·first|exact hK _ hu|(simp only [*];exact hK _ hu)|(simp only [*];done)
  ·first|exact hK _ hu|(simp only [*];exact hK _ hu)|(simp only [*];done)
  ·cases hu
 |load t x=>exact bB (fun u=>PC hK) hl
 |fieldAddr s x f=>exact bB (fun u=>IY hK) hl
 |field s x f=>exact bB (fun u=>ZM hK) hl
 |indexAddr t x i=>exact bB (fun u=>bB fun j=>JB hK) hl
 |index t x i=>exact bB (fun u=>bB fun j=>Z0 hK) hl
 |binOp op t x y z =>
  refine bB (fun u=>bB fun v hl=>?_) hl;split at hl
  ·exact aGx hK hl
  rename_i hne;split
  ·exact (hne _ _ rfl).elim
  exact aGj hK hl
 |unOp op t x=>exact bB (fun u=>aK6 hK) hl
 |convert s d x =>
  first|refine bB (fun u hu=>?_) hl|(simp only [*];refine bB (fun u hu=>?_) hl)|(simp only [*];done)
  split at hu
  ·first|exact aX (hK _) hu|(simp only [*];exact aX (hK _) hu)|(simp only [*];done)
  ·cases hu
 |makeFunc fn first cap =>
  simp only [wF] at hl;simp only [jC]
  repeat' (split at hl)
  all_goals first|(cases hl;done)|(simp_all;done)
 |extract x i =>
  first|refine bB (fun u hu=>?_) hl|(simp only [*];refine bB (fun u hu=>?_) hl)|(simp only [*];done)
  split at hu
  ·first|exact bB hK hu|(simp only [*];exact bB hK hu)|(simp only [*];done)
  ·cases hu
 |build t ps =>
  simp only [wF] at hl;simp only [jC];split at hl
  ·first|exact J0 hK hl|(simp only [*];exact J0 hK hl)|(simp only [*];done)
  ·cases hl
 |call c =>
  simp only [wF] at hl;simp only [jC];split at hl
  ·split at hl
   ·first|exact CG hK hl|(simp only [*];exact CG hK hl)|(simp only [*];done)
   ·cases hl
  ·cases hl
 |_=>cases hl
theorem GW {h:Heap}{t:TypeId}{x key:Value}{ok:Bool}(hK:∀ v,K v=true→K' v)(hl:D4 A T h t x key ok K=true):oY A T h t x key ok K':=by
 unfold D4 at hl;unfold oY
 repeat' (split at hl)
 all_goals first|(cases hl;done)|(simp_all;done)
end
section
variable {A:Ar}{T:cQ}{K:uH}{K':KE}{h:Heap}{nx:Nat}
theorem ZL {t:TypeId}{x v:Value}(hK:∀ v h nx,K v h nx=true→K' v h nx)(hl:RW T h nx t x v K=true):oH T h nx t x v K':=by
 unfold RW at hl;unfold oH;split at hl
 case h_2=>cases hl
 split at hl
 case h_2=>cases hl
 cases v <;> (split at hl <;> first|(cases hl;done)|(simp only [*];first|done|exact aX (hK _ _ _) hl)|(rename_i hq;cases hq))
theorem aFV {v:Value}(hK:∀ v h nx,K v h nx=true→K' v h nx)(hl:aIp h nx v K=true):RS h nx v K':=by
 unfold aIp at hl;unfold RS;split at hl
 ·cases hl
 first|exact hK _ _ _ hl|(simp only [*];exact hK _ _ _ hl)|(simp only [*];done)
theorem ZD {t:TypeId}(hK:∀ v h nx,K v h nx=true→K' v h nx)(hl:TH T h nx t K=true):xL T h nx t K':=by
 unfold TH at hl;unfold xL;split at hl
 ·first|exact hK _ _ _ hl|(simp only [*];exact hK _ _ _ hl)|(simp only [*];done)
 ·cases hl
theorem tA {t:TypeId}{n:Nat}{ps:List (Nat × Value)}(hK:∀ v h nx,K v h nx=true→K' v h nx)(hl:uI T h nx t n ps K=true):eJ T h nx t n ps K':=by
 unfold uI at hl;unfold eJ;split at hl
 case h_2=>cases hl
 split at hl
 case h_2=>cases hl
 split at hl
 case h_2=>cases hl
 split at hl
 case h_2=>cases hl
 first|exact hK _ _ _ hl|(simp only [*];exact hK _ _ _ hl)|(simp only [*];done)
theorem aCb {n c:Nat}{hi:Option Value}{G:Nat→Bool}{G':Nat→Prop}(hG:∀ n,G n=true→G' n)(hl:whi A n c hi G=true):vhi A n c hi G':=by
 unfold whi at hl;unfold vhi;split at hl
 ·first|exact hG _ hl|(simp only [*];exact hG _ hl)|(simp only [*];done)
 ·first|exact aX (hG _) hl|(simp only [*];exact aX (hG _) hl)|(simp only [*];done)
 ·cases hl
theorem RI {b X:Bool}{X':Unit→Prop}{Y':Unit→Prop}(h:X=true→X' ())(hl:eH b X=true):br b X' Y':=by
 cases b with
 |true=>exact h hl
 |false=>cases hl
theorem vI {t:TypeId}{x:Value}{lo hi mx:Option Value}(hK:∀ v h nx,K v h nx=true→K' v h nx)(hl:MQ A T h nx t x lo hi mx K=true):sY A T h nx t x lo hi mx K':=by
 unfold MQ at hl;unfold sY;split at hl
 case h_2=>cases hl
 split at hl
 case h_1=>cases hl
 split at hl
 ·split at hl
  ·first|exact hK _ _ _ hl|(simp only [*];exact hK _ _ _ hl)|(simp only [*];done)
  ·cases hl
 ·first|refine aCb (fun hN hl=>?_) hl|(simp only [*];refine aCb (fun hN hl=>?_) hl)|(simp only [*];done)
  split at hl
  ·first|exact hK _ _ _ hl|(simp only [*];exact hK _ _ _ hl)|(simp only [*];done)
  ·first|refine aX (fun hl=>?_) hl|(simp only [*];refine aX (fun hl=>?_) hl)|(simp only [*];done)
   split at hl
   ·first|exact RI (hK _ _ _) hl|(simp only [*];exact RI (hK _ _ _) hl)|(simp only [*];done)
   ·cases hl
  ·cases hl
 ·split at hl
  ·first|exact hK _ _ _ hl|(simp only [*];exact hK _ _ _ hl)|(simp only [*];done)
  ·cases hl
 ·split at hl
  ·first|exact aX (hK _ _ _) hl|(simp only [*];exact aX (hK _ _ _) hl)
  ·first|exact aX (hK _ _ _) hl|(simp only [*];exact aX (hK _ _ _) hl)
  ·cases hl
 ·cases hl
theorem WX {sz:Nat}{x:Value}{G:Nat→List Value→Bool}{G':Nat→List Value→Prop}(hG:∀ n l,G n l=true→G' n l)(hl:aK2 h sz x G=true):I3 h sz x G':=by
 unfold aK2 at hl;unfold I3;split at hl
 ·first|exact hG _ _ hl|(simp only [*];exact hG _ _ hl)|(simp only [*];done)
 ·split at hl
  ·first|exact aX (hG _ _) hl|(simp only [*];exact aX (hG _ _) hl)|(simp only [*];done)
  ·split at hl
   ·first|exact hG _ _ hl|(simp only [*];exact hG _ _ hl)|(simp only [*];done)
   ·cases hl
  ·cases hl
 ·cases hl
theorem I7 {t:TypeId}{l c:Value}(hK:∀ v h nx,K v h nx=true→K' v h nx)(hl:xV A T h nx t l c K=true):jZ A T h nx t l c K':=by
 unfold xV at hl;unfold jZ;split at hl
 case h_2=>cases hl
 split at hl
 case h_2=>cases hl
 first|exact aX (hK _ _ _) hl|(simp only [*];exact aX (hK _ _ _) hl)
theorem EY {st xt:TypeId}{s x:Value}(hK:∀ v h nx,K v h nx=true→K' v h nx)(hl:K8 A T h nx st xt s x K=true):lN A T h nx st xt s x K':=by
 unfold K8 at hl;unfold lN;split at hl
 case h_3=>cases hl
 case h_1 =>
  split at hl
  case h_2=>cases hl
  split at hl
  case h_2=>cases hl
  first|exact aX (hK _ _ _) hl|(simp only [*];exact aX (hK _ _ _) hl)
 split at hl
 case h_1=>cases hl
 split at hl
 case h_1=>cases hl
 first|refine WX (fun m src hl=>?_) hl|(simp only [*];refine WX (fun m src hl=>?_) hl)|(simp only [*];done)
 split at hl
 ·first|exact mD (hK _ _ _) (aX (hK _ _ _)) hl|(simp only [*];exact mD (hK _ _ _) (aX (hK _ _ _)) hl)|(simp only [*];done)
 ·split at hl
  ·split at hl
   ·first|exact mD (hK _ _ _) (aX (hK _ _ _)) hl|(simp only [*];exact mD (hK _ _ _) (aX (hK _ _ _)) hl)|(simp only [*];done)
   ·cases hl
  ·first|exact mD (aX (hK _ _ _)) (aX (hK _ _ _)) hl|(simp only [*];exact mD (aX (hK _ _ _)) (aX (hK _ _ _)) hl)|(simp only [*];done)
  ·cases hl
 ·cases hl
theorem IQ {t:TypeId}{x key v:Value}(hK:∀ v h nx,K v h nx=true→K' v h nx)(hl:wX A T h nx t x key v K=true):jY A T h nx t x key v K':=by
 unfold wX at hl;unfold jY;cases v <;> (split at hl <;> first|(cases hl;done)|(rename_i hq;cases hq;done)|(split at hl <;> first|(cases hl;done)|(split at hl <;> first|(cases hl;done)|(simp only [*];first|done|exact hK _ _ _ hl))))
theorem JJ {t:TypeId}{x:Value}(hK:∀ v h nx,K v h nx=true→K' v h nx)(hl:SH T h nx t x K=true):wW T h nx t x K':=by
 unfold SH at hl;unfold wW;split at hl
 ·first|exact hK _ _ _ hl|(simp only [*];exact hK _ _ _ hl)|(simp only [*];done)
 ·split at hl
  ·first|exact hK _ _ _ hl|(simp only [*];exact hK _ _ _ hl)|(simp only [*];done)
  split at hl
  ·first|exact aX (hK _ _ _) hl|(simp only [*];exact aX (hK _ _ _) hl)|(simp only [*];done)
  ·cases hl
 ·cases hl
def Tw (C:vV)(C':VC):Prop:=∀ f args h nx (K:uH) (K':KE),(∀ v h nx,K v h nx=true→K' v h nx)→C f args h nx K=true→C' f args h nx K'
variable {C Y:vV}{C' Y':VC}
theorem MV (hC:Tw C C')(hY:Tw Y Y'){env:List (Nat × Value)}{op:Op}(hK:∀ v h nx,K v h nx=true→K' v h nx)(hl:wop A T C Y env h nx op K=true):pD A T C' Y' env h nx op K':=by
 cases op with
 |store t x y=>exact bB (fun p=>bB fun v=>ZL hK) hl
 |alloc t=>exact ZD hK hl
 |box t x=>exact bB (fun p=>aFV hK) hl
 |buildSlice t n ps =>
  simp only [wop] at hl;simp only [pD];split at hl
  ·first|exact tA hK hl|(simp only [*];exact tA hK hl)|(simp only [*];done)
  ·cases hl
 |slice t x lo hi mx =>
  first|refine bB (fun v hl=>?_) hl|(simp only [*];refine bB (fun v hl=>?_) hl)|(simp only [*];done)
  split at hl
  ·first|exact vI hK hl|(simp only [*];exact vI hK hl)|(simp only [*];done)
  ·cases hl
 |makeSlice t l c=>exact bB (fun p=>bB fun v=>I7 hK) hl
 |makeMap t x =>
  cases x with
  |none=>exact hK _ _ _ hl
  |some x=>simp [wop,wF] at hl
 |lookup t m k ok=>exact bB (fun x=>bB fun y=>GW fun v=>hK v h nx) hl
 |mapUpdate t m k u=>exact bB (fun x=>bB fun y=>bB fun v=>IQ hK) hl
 |call c =>
  simp only [wop] at hl;simp only [pD];split at hl
  ·split at hl
   ·first|exact EY hK hl|(simp only [*];exact EY hK hl)|(simp only [*];done)
   ·cases hl
  ·split at hl
   ·first|exact JJ hK hl|(simp only [*];exact JJ hK hl)|(simp only [*];done)
   ·cases hl
  ·first|exact oC (K':=fun v=>K' v h nx) (fun v=>hK v h nx) hl|(simp only [*];exact oC (K':=fun v=>K' v h nx) (fun v=>hK v h nx) hl)|(simp only [*];done)
  ·first|refine bB (fun fv hl=>?_) hl|(simp only [*];refine bB (fun fv hl=>?_) hl)|(simp only [*];done)
   split at hl
   case h_2=>cases hl
   split at hl
   ·split at hl
    ·first|exact hC _ _ _ _ _ _ hK hl|(simp only [*];exact hC _ _ _ _ _ _ hK hl)|(simp only [*];done)
    ·cases hl
   ·split at hl
    ·first|exact hY _ _ _ _ _ _ hK hl|(simp only [*];exact hY _ _ _ _ _ _ hK hl)|(simp only [*];done)
    ·cases hl
   ·cases hl
  ·cases hl
 |_=>simp only [wop] at hl;exact oC (K':=fun v=>K' v h nx) (fun v=>hK v h nx) hl
theorem nK {ops:List Oper}{env:List (Nat × Value)}{g:Option (Nat × Bool)}{F G:List (Nat × Value)→Bool}{F' G':List (Nat × Value)→Prop}(h1:∀ e,F e=true→F' e)(h2:∀ e,G e=true→G' e)(hl:AR A ops env g F G=true):fC A ops env g F' G':=by
 unfold AR at hl;unfold fC;split at hl
 ·first|exact h1 _ hl|(simp only [*];exact h1 _ hl)|(simp only [*];done)
 split at hl
 ·split at hl
  ·split at hl
   ·first|exact mD (h1 _) (h2 _) hl|(simp only [*];exact mD (h1 _) (h2 _) hl)|(simp only [*];done)
   ·first|exact h2 _ hl|(simp only [*];exact h2 _ hl)|(simp only [*];done)
   ·cases hl
  ·cases hl
 ·cases hl
theorem gQ {tn:Nat}{env:List (Nat × Value)}{dst:Option Nat}{v:Value}{F:List (Nat × Value)→Bool}{F':List (Nat × Value)→Prop}(h1:∀ e,F e=true→F' e)(hl:HD tn env dst v F=true):dZ tn env dst v F':=by
 unfold HD at hl;unfold dZ;split at hl
 ·first|exact h1 _ hl|(simp only [*];exact h1 _ hl)|(simp only [*];done)
 split at hl
 ·first|exact h1 _ hl|(simp only [*];exact h1 _ hl)|(simp only [*];done)
 ·cases hl
theorem NA (hC:Tw C C')(hY:Tw Y Y'){tn:Nat}{ops:List Oper}{F:pZ}{F':KS}(hF:∀ e h nx,F e h nx=true→F' e h nx):∀ (l:List Oper) env h nx,aFj A T C Y tn ops l env h nx F=true→yQ A T C' Y' tn ops l env h nx F'
 |[],_,_,_,hl=>hF _ _ _ hl
 |o::r,env,h,nx,hl=>nK (fun e=>MV hC hY fun v h' nx'=>gQ fun e'=>NA hC hY hF r e' h' nx') (fun e=>gQ fun e'=>NA hC hY hF r e' h nx) hl
theorem KA (hC:Tw C C'){env:List (Nat × Value)}{op:Op}{K:Value→Bool}{K':Value→Nat→Prop}(hK:∀ v,K v=true→K' v nx)(hl:HM A T C h nx env op K=true):iA A T C' h nx env op K':=by
 cases op with
 |load t x=>simp only [HM] at hl;exact oC hK hl
 |lookup t m k ok=>exact bB (fun x=>bB fun y=>GW hK) hl
 |slice t x lo hi mx =>
  refine bB (fun v hl=>?_) hl;split at hl
  ·first|refine vI (fun v h' nx' hl=>?_) hl|(simp only [*];refine vI (fun v h' nx' hl=>?_) hl)|(simp only [*];done)
   split at hl
   ·rename_i hb;rw [beq_true hb];exact hK _ hl
   ·cases hl
  ·cases hl
 |call c =>
  simp only [HM] at hl;simp only [iA];split at hl
  ·first|exact oC hK hl|(simp only [*];exact oC hK hl)|(simp only [*];done)
  ·first|refine bB (fun fv hl=>?_) hl|(simp only [*];refine bB (fun fv hl=>?_) hl)|(simp only [*];done)
   split at hl
   case h_2=>cases hl
   split at hl
   ·split at hl
    ·first|refine hC _ _ _ _ _ _ (fun v h' nx' hl=>?_) hl|(simp only [*];refine hC _ _ _ _ _ _ (fun v h' nx' hl=>?_) hl)|(simp only [*];done)
     split at hl
     ·rename_i hb;simp only [hb];exact hK _ hl
     ·cases hl
    ·cases hl
   ·cases hl
  ·cases hl
 |_=>simp only [HM] at hl;exact oC hK hl
theorem tQ (hC:Tw C C'){tn:Nat}{ops:List Oper}{F:List (Nat × Value)→Bool}{F':List (Nat × Value)→Nat→Prop}(hF:∀ e,F e=true→F' e nx):∀ (l:List Nat) env,QW A T C tn ops h nx l env F=true→oX A T C' tn ops h l env nx F'
 |[],_,hl=>hF _ hl
 |i::r,env,hl=>by
  simp only [QW] at hl;simp only [xF];split at hl
  ·cases hl
  first|exact nK (fun e=>KA hC fun v=>gQ fun e'=>tQ hC hF r e') (fun e=>gQ fun e'=>tQ hC hF r e') hl|(simp only [*];exact nK (fun e=>KA hC fun v=>gQ fun e'=>tQ hC hF r e') (fun e=>gQ fun e'=>tQ hC hF r e') hl)|(simp only [*];done)
theorem wP {tn:Nat}{ops:List Oper}{F:pZ}{F':KS}(hF:∀ e h nx,F e h nx=true→F' e h nx):∀ (l:List Nat) env h nx,EA T tn ops l env h nx F=true→lO T tn ops l env h nx F'
 |[],_,_,_,hl=>hF _ _ _ hl
 |i::r,env,h,nx,hl=>by
  simp only [EA] at hl;simp only [mV];split at hl
  ·split at hl
   ·first|exact gQ (fun e'=>wP hF r e' _ _) hl|(simp only [*];exact gQ (fun e'=>wP hF r e' _ _) hl)|(simp only [*];done)
   ·cases hl
  ·cases hl
theorem sG (hC:Tw C C')(hY:Tw Y Y'){tn:Nat}{ops:List Oper}{hJ:Heap}{F:pZ}{F':KS}(hF:∀ e h nx,F e h nx=true→F' e h nx):∀ (l:List (Nat × Bool)) env h nx,PG A T C Y tn ops hJ l env h nx F=true→kD A T C' Y' tn ops hJ l env h nx F'
 |[],_,_,_,hl=>hF _ _ _ hl
 |(i,chk)::r,env,h,nx,hl=>by
  simp only [PG] at hl;simp only [xT];split at hl
  ·cases hl
  first|exact nK (fun e=>aX (MV hC hY fun v h' nx'=>gQ fun e'=>sG hC hY hF r e' h' nx')) (fun e=>gQ fun e'=>sG hC hY hF r e' h nx) hl|(simp only [*];exact nK (fun e=>aX (MV hC hY fun v h' nx'=>gQ fun e'=>sG hC hY hF r e' h' nx')) (fun e=>gQ fun e'=>sG hC hY hF r e' h nx) hl)|(simp only [*];done)
theorem F8 (hC:Tw C C')(hY:Tw Y Y'){tn:Nat}{ops:List Oper}{p:fB}{env:List (Nat × Value)}{F:pZ}{F':KS}(hF:∀ e h nx,F e h nx=true→F' e h nx)(hl:WJ A T C Y tn ops p env h nx F=true):oV A T C' Y' tn ops p env h nx F' :=
 tQ hC (fun e=>wP (fun e h nx=>sG hC hY hF p.tail e h nx) p.allocs e h nx) p.head env hl
theorem PS (hC:Tw C C')(hY:Tw Y Y'){tn:Nat}{ops:List Oper}{o:Oper}{e:List (Nat × Value)}{h:Heap}{nx:Nat}{F:pZ}{F':KS}(hF:∀ e h nx,F e h nx=true→F' e h nx)(hl:aBQ A T C Y tn ops o e h nx F=true):lZ A T C' Y' tn ops o e h nx F' :=
 nK (fun e=>MV hC hY fun v h' nx'=>gQ fun e'=>hF e' h' nx') (fun e=>gQ fun e'=>hF e' h nx) hl
theorem aF2 {F:Nat→Bool}{F':Nat→Prop}(hF:∀ i,F i=true→F' i){l:List Nat}(hl:wall F l=true):ME F' l:=by
 rw [uE]
 induction l with
 |nil=>intro i hi;cases hi
 |cons x r ih =>
  simp only [wall,Bool.and_eq_true] at hl;intro i hi;cases hi with
  |head=>exact hF _ hl.1
  |tail _ hm=>exact ih hl.2 i hm
theorem X7 (hC:Tw C C')(hY:Tw Y Y'){tn:Nat}{ops:List Oper}{F:pZ}{F':KS}(hF:∀ e h nx,F e h nx=true→F' e h nx):∀ n done e h nx,aEz A T C Y tn ops F n done e h nx=true→vany A T C' Y' tn ops F' n done e h nx
 |0,_,e,h,nx,hl=>hF _ _ _ hl
 |n+1,done,e,h,nx,hl=>by
  simp only [aEz] at hl;simp only [vany];cases hr:eG ops done ops 0 with
  |nil =>
   rw [hr] at hl;exact hF _ _ _ hl
  |cons i0 r0 =>
   rw [hr] at hl;refine aF2 (fun i hi=>?_) hl;split at hi
   ·rename_i o ho;rw [ho];exact PS hC hY (fun e h nx=>X7 hC hY hF n _ e h nx) hi
   ·cases hi
theorem KP (hC:Tw C C')(hY:Tw Y Y'){tn:Nat}{ops:List Oper}{F:pZ}{F':KS}(hF:∀ e h nx,F e h nx=true→F' e h nx):∀ n done e h nx,L4 A T C Y tn ops F n done e h nx=true→AP A T C' Y' tn ops F' n done e h nx
 |0,_,e,h,nx,hl=>hF _ _ _ hl
 |n+1,done,e,h,nx,hl=>by
  simp only [L4] at hl;simp only [AP];cases hr:eG ops done ops 0 with
  |nil =>
   rw [hr] at hl;exact hF _ _ _ hl
  |cons i0 r0 =>
   rw [hr] at hl;simp only at hl ⊢;cases ho:eL ops i0 with
   |some o =>
    rw [ho] at hl;exact PS hC hY (fun e h nx=>KP hC hY hF n _ e h nx) hl
   |none=>rw [ho] at hl;cases hl
theorem QJ (hC:Tw C C')(hY:Tw Y Y'){tn:Nat}{ops:Array Oper}{m:Nat}{e:List (Nat × Value)}{h:Heap}{nx:Nat}{F:pZ}{F':KS}(hF:∀ e h nx,F e h nx=true→F' e h nx)(hl:aCG A T C Y tn ops e h nx F=true):O1 A T C' Y' tn (.fuel m) ops e h nx F':=by
 unfold aCG at hl;unfold O1;refine KP hC hY (fun e0 h0 n0 hq=>?_) _ _ _ _ _ hl;rw [BE,BE,Bool.and_eq_true] at hq;refine⟨_,_,n0,X7 hC hY (fun e1 h1 n1 hr=>?_) _ _ _ _ _ hq.1,hF _ _ _ hq.2⟩;exact⟨_,_,_,_,⟨rfl,rfl,rfl⟩,WE hr⟩
def TwR (R:VRB)(R':VR):Prop:=∀ g ps as bd (kn:pZ) (kx:Nat→pZ) (kr:pZ) (kn':KS) (kx':Nat→KS) (kr':KS) e h nx,(∀ e h nx,kn e h nx=true→kn' e h nx)→(∀ i e h nx,kx i e h nx=true→kx' i e h nx)→(∀ e h nx,kr e h nx=true→kr' e h nx)→R g ps as bd kn kx kr e h nx=true→R' g ps as bd kn' kx' kr' e h nx
theorem FU {F:pZ→pZ}{F':KS→KS}(hF:∀ (k:pZ) (k':KS) e h nx,(∀ e h nx,k e h nx=true→k' e h nx)→F k e h nx=true→F' k' e h nx):∀ n e h nx,aDN F n e h nx=true→G9 F' n e h nx
 |0,_,_,_,hl=>by cases hl
 |n+1,e,h,nx,hl=>hF _ _ e h nx (fun e h nx=>FU hF n e h nx) hl
theorem qA (hC:Tw C C')(hY:Tw Y Y'){tn:Nat}{PL:Nat→Option fB}{n:Nat}{R:VRB}{R':VR}(hR:TwR R R'):∀ (c:Code) (kn:pZ) (kx:Nat→pZ) (kr:pZ) (kn':KS) (kx':Nat→KS) (kr':KS) e h nx,(∀ e h nx,kn e h nx=true→kn' e h nx)→(∀ i e h nx,kx i e h nx=true→kx' i e h nx)→(∀ e h nx,kr e h nx=true→kr' e h nx) →
  qJ A T C Y tn PL n R c kn kx kr e h nx=true→gL A T C' Y' tn PL (.fuel n) R' c kn' kx' kr' e h nx:=by
 intro c
 induction c with
 |skip=>exact fun kn kx kr kn' kx' kr' e h nx h1 _ _ hl=>h1 _ _ _ hl
 |region id ops draw =>
  intro kn kx kr kn' kx' kr' e h nx h1 _ _ hl;simp only [qJ] at hl;simp only [fT,jW];cases draw with
  |false=>exact NA hC hY h1 _ _ _ _ hl
  |true =>
   simp only at hl ⊢;split at hl
   ·first|exact F8 hC hY h1 hl|(simp only [*];exact F8 hC hY h1 hl)|(simp only [*];done)
   first|exact QJ hC hY h1 hl|(simp only [*];exact QJ hC hY h1 hl)
 |seq a b iha ihb=>exact fun kn kx kr kn' kx' kr' e h nx h1 h2 h3 hl=>iha _ kx kr _ kx' kr' e h nx (fun e h nx=>ihb kn kx kr kn' kx' kr' e h nx h1 h2 h3) h2 h3 hl
 |cond c t f iht ihf =>
  intro kn kx kr kn' kx' kr' e h nx h1 h2 h3 hl;simp only [qJ] at hl;simp only [fT,jW];split at hl
  ·first|exact mD (iht kn kx kr kn' kx' kr' e h nx h1 h2 h3) (ihf kn kx kr kn' kx' kr' e h nx h1 h2 h3) hl|(simp only [*];exact mD (iht kn kx kr kn' kx' kr' e h nx h1 h2 h3) (ihf kn kx kr kn' kx' kr' e h nx h1 h2 h3) hl)|(simp only [*];done)
  ·cases hl
 |block id b ih =>
  intro kn kx kr kn' kx' kr' e h nx h1 h2 h3 hl
  first|refine ih kn _ kr kn' _ kr' e h nx h1 (fun j e h nx hk=>?_) h3 hl|(simp only [*];refine ih kn _ kr kn' _ kr' e h nx h1 (fun j e h nx hk=>?_) h3 hl)|(simp only [*];done)
  cases hb:Nat.beq j id with
  |true=>simp only [hb] at hk ⊢;exact h1 _ _ _ hk
  |false=>simp only [hb] at hk ⊢;exact h2 _ _ _ _ hk
 |loop b ih =>
  intro kn kx kr kn' kx' kr' e h nx h1 h2 h3 hl
  first|exact FU (fun k k' e h nx hk=>ih k kx kr k' kx' kr' e h nx hk h2 h3) n e h nx hl|(simp only [*];exact FU (fun k k' e h nx hk=>ih k kx kr k' kx' kr' e h nx hk h2 h3) n e h nx hl)|(simp only [*];done)
 |rangeFunc g ps as bd _ _=>exact fun kn kx kr kn' kx' kr' e h nx h1 h2 h3 hl=>hR g ps as bd kn kx kr kn' kx' kr' e h nx h1 h2 h3 hl
 |exit id=>exact fun kn kx kr kn' kx' kr' e h nx _ h2 _ hl=>h2 _ _ _ _ hl
 |ret=>exact fun kn kx kr kn' kx' kr' e h nx _ _ h3 hl=>h3 _ _ _ hl
 |label l=>exact fun kn kx kr kn' kx' kr' e h nx h1 _ _ hl=>h1 _ _ _ hl
 |scope b ih=>exact fun kn kx kr kn' kx' kr' e h nx h1 h2 h3 hl=>ih kn kx kr kn' kx' kr' e h nx h1 h2 h3 hl
 |goto l=>exact fun _ _ _ _ _ _ _ _ _ _ _ _ hl=>by cases hl
 |refuse s=>exact fun _ _ _ _ _ _ _ _ _ _ _ _ hl=>by cases hl
theorem sV {e:List (Nat × Value)}:∀ (l:List ResultVar) {F:List Value→Bool} {F':List Value→Prop},(∀ l,F l=true→F' l)→zT T e h l F=true→fM T e h l F'
 |[],F,F',hF,hl=>hF _ hl
 |.tmp t::r,F,F',hF,hl=>bB (fun v=>sV r fun l=>hF _) hl
 |.cell a t::r,F,F',hF,hl=>bB (fun p=>PC fun v=>sV r fun l=>hF _) hl
theorem D2 {fn:Func}(hK:∀ v h nx,K v h nx=true→K' v h nx)(e:List (Nat × Value))(h:Heap)(nx:Nat)(hl:aLu T fn K e h nx=true):DD T fn K' e h nx:=by
 refine sV _ (fun l hl=>?_) hl;split at hl
 ·first|exact hK _ _ _ hl|(simp only [*];exact hK _ _ _ hl)|(simp only [*];done)
 split at hl
 ·rename_i hn;simp only [hn];exact hK _ _ _ hl
 ·cases hl
theorem KJ (hC:Tw C C'){f tn:Nat}:TwR (aDv C f tn) (sP C' f tn):=by
 intro g ps as bd kn kx kr kn' kx' kr' e h nx h1 h2 h3 hl;refine bB (fun gv hl=>?_) hl;split at hl
 case h_2=>cases hl
 split at hl
 case h_2=>cases hl
 first|refine hC _ _ _ _ _ _ (fun v h' nx' hl=>?_) hl|(simp only [*];refine hC _ _ _ _ _ _ (fun v h' nx' hl=>?_) hl)|(simp only [*];done)
 split at hl
 case h_2=>cases hl
 rename_i l hl1 hl2;split at hl
 ·cases hl
 ·first|exact h1 _ _ _ hl|(simp only [*];exact h1 _ _ _ hl)|(simp only [*];done)
 ·first|exact h2 _ _ _ _ hl|(simp only [*];exact h2 _ _ _ _ hl)|(simp only [*];done)
 ·first|exact h3 _ _ _ hl|(simp only [*];exact h3 _ _ _ hl)|(simp only [*];done)
 ·cases hl
theorem uS {q:Nat}(hK:∀ v h nx,K v h nx=true→K' v h nx){j:Option Code}(e:List (Nat × Value))(h:Heap)(nx:Nat)(hl:aCF q K j e h nx=true):xX q K' j e h nx:=by
 unfold aCF at hl;unfold xX;split at hl
 ·first|exact hK _ _ _ hl|(simp only [*];exact hK _ _ _ hl)|(simp only [*];done)
 ·cases hl
theorem aAe (hC:Tw C C')(hY:Tw Y Y'){PL:Nat→Nat→Option fB}{n:Nat}:Tw (SG A T C Y PL n) (rE A T C' Y' PL (.fuel n)):=by
 intro q args h nx K K' hK hl;unfold SG at hl;unfold rE;split at hl
 case h_2=>cases hl
 split at hl
 case h_2=>cases hl
 first|refine qA hC hY (fun _ _ _ _ _ _ _ _ _ _ _ _ _ _ _ _ hl=>by cases hl) _ _ _ _ _ _ _ _ _ _ (fun e1 h1 nx1 hl=>?_) (fun _ _ _ _ hl=>by cases hl) (fun _ _ _ hl=>by cases hl) hl|(simp only [*];refine qA hC hY (fun _ _ _ _ _ _ _ _ _ _ _ _ _ _ _ _ hl=>by cases hl) _ _ _ _ _ _ _ _ _ _ (fun e1 h1 nx1 hl=>?_) (fun _ _ _ _ hl=>by cases hl) (fun _ _ _ hl=>by cases hl) hl)|(simp only [*];done)
 split at hl
 case h_2=>cases hl
 split at hl
 case h_2=>cases hl
 first|exact qA hC hY (fun _ _ _ _ _ _ _ _ _ _ _ _ _ _ _ _ hl=>by cases hl) _ _ _ _ _ _ _ _ _ _ (uS hK) (fun i=>uS hK) (uS hK) hl|(simp only [*];exact qA hC hY (fun _ _ _ _ _ _ _ _ _ _ _ _ _ _ _ _ hl=>by cases hl) _ _ _ _ _ _ _ _ _ _ (uS hK) (fun i=>uS hK) (uS hK) hl)|(simp only [*];done)
def TwX (c:DC)(XB:Nat→Option (List Value→Heap→Nat→uH→Bool)):Prop:=∀ f x xb,c.X f=some x→XB f=some xb→∀ args h nx (K:uH) (K':KE),(∀ v h nx,K v h nx=true→K' v h nx)→xb args h nx K=true→x args h nx K'
theorem aDK {c:DC}{XB:Nat→Option (List Value→Heap→Nat→uH→Bool)}(hX:TwX c XB){n:Nat}(hC:Tw C C')(hY:Tw Y Y'):Tw (aBR c XB n C Y) (rS c (some n) C' Y'):=by
 intro f args h nx K K' hK hl;unfold aBR at hl;unfold rS;split at hl
 ·rename_i x hx;split at hl
  ·rename_i xb hxb
   first|exact hX f x xb hx hxb _ _ _ _ _ hK hl|(simp only [hx];exact hX f x xb hx hxb _ _ _ _ _ hK hl)
  ·cases hl
 rename_i hx
 first|skip|(simp only [hx])
 split at hl
 ·cases hl
 split at hl
 case h_2=>cases hl
 first|exact qA hC hY (KJ hC) _ _ _ _ _ _ _ _ _ _ (D2 fun v h nx=>hK v _ nx) (fun _ _ _ _ hl=>by cases hl) (D2 fun v h nx=>hK v _ nx) hl|(simp only [*];exact qA hC hY (KJ hC) _ _ _ _ _ _ _ _ _ _ (D2 fun v h nx=>hK v _ nx) (fun _ _ _ _ hl=>by cases hl) (D2 fun v h nx=>hK v _ nx) hl)
theorem aGq {PR:Nat→Bool}(hC:Tw C C'):Tw (aIB PR C) (frC PR C'):=by
 intro f args h nx K K' hK hl;unfold aIB at hl;unfold frC;cases hp:PR f with
 |false=>simp only [hp] at hl ⊢;exact hC _ _ _ _ _ _ hK hl
 |true =>
  simp only [hp] at hl ⊢;refine hC _ _ _ _ _ _ (fun v h' nx' hq=>?_) hl;unfold aLG at hq;unfold frK;split at hq
  ·rename_i hg;rw [hg];exact hK _ _ _ hq
  rename_i hg;rw [hg];exact hK _ _ _ hq
theorem qG {c:DC}{XB:Nat→Option (List Value→Heap→Nat→uH→Bool)}(hX:TwX c XB):∀ (d:Nat) (b:Bool),Tw (CZ c XB d b) (sC c d b)
 |0,_=>fun _ _ _ _ _ _ _ hl=>by simp [CZ] at hl
 |d+1,false=>aGq (aDK hX (qG hX d false) (qG hX d true))
 |d+1,true=>aAe (qG hX d false) (qG hX d true)
end
def YU (n:Nat):bH→bH
 |.cells wr g sz cs=>.cells wr g sz (cs.map (bJ (fun k=>n+k)))
 |o=>o
def oP (n:Nat):Heap→Heap
 |[]=>[]
 |(k,o)::r=>(n+k,YU n o)::oP n r
theorem lU {n:Nat}(h:Heap){k:Nat}{o:bH}(hl:look (oP n h) k=some o):∃ j o',k=n+j∧look h j=some o'∧o=YU n o':=by
 induction h with
 |nil=>cases hl
 |cons x r ih =>
  obtain⟨j,q⟩:=x;simp only [oP,aB] at hl;split at hl
  ·rename_i hb;injection hl with hl;exact⟨j,q,(beq_true hb).symm,by rw [aB,show Nat.beq j j=true from Nat.beq_refl j],hl.symm⟩
  rename_i hb;obtain⟨j',o',h1,h2,h3⟩:=ih hl;refine⟨j',o',h1,?_,h3⟩;have:Nat.beq j j'=false:=by
   cases hb':Nat.beq j j' with
   |false=>rfl
   |true =>
    have:=beq_true hb';subst this;rw [h1,Nat.beq_refl] at hb;cases hb
  rw [aB,this];exact h2
def aCL:bH→Bool
 |.cells true _ _ _=>true
 |_=>false
def zL:Heap→Bool
 |[]=>true
 |(_,o)::r=>aCL o&&zL r
theorem YT {h:Heap}(hh:zL h=true){k:Nat}{o:bH}(hl:look h k=some o):∃ g sz cs,o=.cells true g sz cs:=by
 induction h with
 |nil=>cases hl
 |cons x r ih =>
  obtain⟨j,q⟩:=x;simp only [zL,Bool.and_eq_true] at hh;rw [aB] at hl;split at hl
  ·injection hl with hl;subst hl;cases q with
   |cells wr g sz cs =>
    cases wr with
    |true=>exact⟨g,sz,cs,rfl⟩
    |false=>simp [aCL] at hh
   |_=>simp [aCL] at hh
  exact ih hh.2 hl
def LI:bH→Bool
 |.cells _ _ _ _=>true
 |_=>false
def gH:Heap→Bool
 |[]=>true
 |(_,o)::r=>LI o&&gH r
theorem o6 {h:Heap}(hh:gH h=true){k:Nat}{o:bH}(hl:look h k=some o):∃ wr g sz cs,o=.cells wr g sz cs:=by
 induction h with
 |nil=>cases hl
 |cons x r ih =>
  obtain⟨j,q⟩:=x;simp only [gH,Bool.and_eq_true] at hh;rw [aB] at hl;split at hl
  ·injection hl with hl;subst hl;cases q with
   |cells wr g sz cs=>exact⟨wr,g,sz,cs,rfl⟩
   |_=>simp [LI] at hh
  exact ih hh.2 hl
theorem M9 (o:bH):o.closed.alone=false:=by cases o <;> rfl
section
variable {ι:Nat→Loc}{σ:Nat→Nat}{n m:Nat}
theorem yG {v:Value}(h:oL (fun k=>ι (σ k)) m v)(hs:∀ k,k<m→σ k<n):oL ι n (dY (jR σ) v):=by
 cases v with
 |pointer a=>cases a with
  |none=>trivial
  |some a=>exact⟨hs _ h.1,h.2⟩
 |slice a l c=>cases a with
  |none=>trivial
  |some a=>exact⟨hs _ h.1,fun hf=>h.2 hf⟩
 |map a=>cases a with
  |none=>trivial
  |some a=>exact⟨hs _ h.1,h.2⟩
 |agg c=>exact h.elim
 |tuple c=>exact h.elim
 |_=>trivial
theorem jM {v:Value}(h:gP (fun k=>ι (σ k)) m v)(hs:∀ k,k<m→σ k<n):gP ι n (bO (jR σ) v):=by
 cases v with
 |func f a c =>
  refine⟨?_,fun x hx=>?_⟩
  ·have h1:=h.1;cases f with
   |yield l=>exact⟨hs _ h1.1,h1.2⟩
   |_=>trivial
  simp only [Array.toList_map,List.mem_map] at hx;obtain⟨y,hy,rfl⟩:=hx;exact yG (h.2 y hy) hs
 |pointer a=>have:=yG (ι:=ι) (σ:=σ) (n:=n) (m:=m) (v:=.pointer a);cases a <;> exact this h hs
 |slice a l c=>have:=yG (ι:=ι) (σ:=σ) (n:=n) (m:=m) (v:=.slice a l c);cases a <;> exact this h hs
 |map a=>have:=yG (ι:=ι) (σ:=σ) (n:=n) (m:=m) (v:=.map a);cases a <;> exact this h hs
 |agg c=>exact h.elim
 |tuple c=>exact h.elim
 |_=>trivial
theorem qI {v:Value}(h:kU (fun k=>ι (σ k)) m v)(hs:∀ k,k<m→σ k<n):kU ι n (dW (jR σ) v):=by
 cases v with
 |agg cs =>
  intro x hx;simp only [Array.toList_map,List.mem_map] at hx;obtain⟨y,hy,rfl⟩:=hx;exact jM (h y hy) hs
 |pointer a=>have:=jM (ι:=ι) (σ:=σ) (n:=n) (m:=m) (v:=.pointer a);cases a <;> exact this h hs
 |slice a l c=>have:=jM (ι:=ι) (σ:=σ) (n:=n) (m:=m) (v:=.slice a l c);cases a <;> exact this h hs
 |map a=>have:=jM (ι:=ι) (σ:=σ) (n:=n) (m:=m) (v:=.map a);cases a <;> exact this h hs
 |func f a c=>exact jM (ι:=ι) (σ:=σ) (n:=n) (m:=m) (v:=.func f a c) h hs
 |tuple c=>exact h.elim
 |_=>trivial
theorem aAG {v:Value}(h:eX (fun k=>ι (σ k)) m v)(hs:∀ k,k<m→σ k<n):eX ι n (fL σ v):=by
 unfold fL;cases v with
 |tuple cs =>
  intro x hx;simp only [Array.toList_map,List.mem_map] at hx;obtain⟨y,hy,rfl⟩:=hx;exact qI (h y hy) hs
 |pointer a=>have:=qI (ι:=ι) (σ:=σ) (n:=n) (m:=m) (v:=.pointer a);cases a <;> exact this h hs
 |slice a l c=>have:=qI (ι:=ι) (σ:=σ) (n:=n) (m:=m) (v:=.slice a l c);cases a <;> exact this h hs
 |map a=>have:=qI (ι:=ι) (σ:=σ) (n:=n) (m:=m) (v:=.map a);cases a <;> exact this h hs
 |func f a c=>exact qI (ι:=ι) (σ:=σ) (n:=n) (m:=m) (v:=.func f a c) h hs
 |agg c=>exact qI (ι:=ι) (σ:=σ) (n:=n) (m:=m) (v:=.agg c) h hs
 |_=>trivial
theorem aH9 {v:Value}(h:gS v=true):gS (bO (jR σ) v)=true:=by rw [nU h];exact h
end
theorem PD {B nx n0 m:Nat}{w w':World}{ι ι0:Nat→Loc}{h h1:Heap}{v1:Value}{K Q:KE}{u:Value}(H:aQ ι B h nx w)
  (hQ:∀ v h' nx',Q v h' nx'→∃ ρ,kV 0 ρ [(0,v1)] h1 m [(0,v)] h' nx') (how:gH h1=true) (hal:zL h1=true∨∀ k o,look h k=some o→o.alone=false) (hK:K (fL (fun k=>nx+k) v1) (app (oP nx h1) h) (nx+m))
  (hr:Ret w.heap.size w ι0 n0 Q (.returned u) w'):Ret B w ι nx K (.returned u) w':=by
 obtain⟨v,h',nx',ι',q1,q2,q3,q4,q5,q6,q7⟩:=hr;obtain⟨ρ,r⟩:=hQ v h' nx' q1;have hv:v=fL ρ v1∧x6 m v1:=by
  obtain⟨e1,e2⟩:=r.env 0 v1 rfl;injection e1 with e1;exact⟨e1,e2⟩
 obtain⟨rfl,hnm⟩:=hv;obtain⟨ιN,hloc,hold⟩:∃ ιN:Nat→Loc,(∀ j,ιN (nx+j)=ι' (ρ j))∧∀ k,k<nx→ιN k=ι k :=
  ⟨fun k=>if k<nx then ι k else ι' (ρ (k - nx)),fun j=>by
   have:¬ (nx+j<nx):=(by omega);simp only [if_neg this,Nat.add_sub_cancel_left],fun k hk=>if_pos hk⟩
 have hι:(fun k=>ιN (nx+k))=fun k=>ι' (ρ k):=funext hloc;have hsm:eX (fun k=>ι' (ρ k)) m v1:=DM q2 hnm;have R1:=r.aJi q3;have H':aQ ι B h nx w':=H.ext q4;have hscn:eX ιN (nx+m) (fL (fun k=>nx+k) v1):=by
  refine aAG (m:=m) ?_ (fun k hk=>by omega);rw [hι];exact hsm
 have hcase:∀ k o,look (app (oP nx h1) h) k=some o→(look h k=some o∧k<nx)∨(∃ j wr g sz cs,k=nx+j∧look h1 j=some (.cells wr g sz cs)∧o=.cells wr g sz (cs.map (bJ (fun k=>nx+k)))):=by
  intro k o hk;rw [gV] at hk;split at hk
  ·rename_i o' ho;injection hk with hk;subst hk;obtain⟨j,o',e1,e2,e3⟩:=lU h1 ho;obtain⟨wr,g,sz,cs,rfl⟩:=o6 how e2;exact .inr ⟨j,wr,g,sz,cs,e1,e2,e3⟩
  exact .inl ⟨hk,H.low k _ hk⟩
 refine⟨fL (fun k=>nx+k) v1,_,_,ιN,hK,hscn,⟨?_,?_,?_,H'.size,?_⟩,q4.mono H.size,hold,by omega,?_⟩
 ·intro k o hk;rcases hcase k o hk with ⟨h2,h3⟩|⟨j,wr,g,sz,cs,rfl,h2,rfl⟩
  ·rw [hold k h3];exact (H'.obj k o h2).names (H'.sc k o h2) hold
  rw [hloc];have ho:=R1.obj j _ h2;have hsc:=R1.sc j _ h2;cases hl:ι' (ρ j) with
  |nil p =>
   rw [hl] at ho;have hcz:cs=[]∧(sz=0∨wr=true→p.isSome=true):=(by cases wr <;> exact ho);obtain⟨hc0,hz⟩:=hcz;subst hc0;cases wr <;> exact⟨rfl,hz⟩
  |lay b off e =>
   rw [hl] at ho;have hcell:∀ {Φ:Nat→Value→Prop},(∀ (i:Nat) y,cs[i]? = some y→Φ i (bO (fun k=>ι' (ρ k)) y))→∀ (i:Nat) v,(cs.map (bJ (fun k=>nx+k)))[i]? = some v→Φ i (bO ιN v):=by
    intro Φ hΦ i v hv;rw [List.getElem?_map] at hv;cases hy:cs[i]? with
    |none=>rw [hy] at hv;cases hv
    |some y =>
     rw [hy] at hv;injection hv with hv;subst hv;have hsy:=hsc y (List.mem_of_getElem? hy);have hin:gP ιN (nx+m) (bO (jR (fun k=>nx+k)) y):=by
      refine jM (m:=m) ?_ (fun k hk=>by omega);rw [hι];exact hsy
     have:=hΦ i y hy;rw [← hι,← iS hin] at this;exact this
   have hgg:∀ {b:Bool},(b=true→dL cs=true)→b=true→dL (cs.map (bJ (fun k=>nx+k)))=true:=fun h hg=>vH fun v hv=>by
    obtain⟨y,hy,rfl⟩:=List.mem_map.1 hv;exact aH9 (aT (h hg) hy)
   cases wr with
   |true =>
    obtain⟨a1,a2,arr,t,a3,a4,a5⟩:=ho;exact⟨Nat.le_trans H.size a1,hgg a2,arr,t,a3,by simpa using a4,hcell (Φ:=fun i v=>arr[off+i]? = some v) a5⟩
   |false =>
    obtain⟨a1,a2,a5⟩:=ho;exact⟨a1,hgg a2,hcell (Φ:=fun i v=>w'.cell? ⟨b,off+i,none⟩=some v) a5⟩
 ·intro k k' o o' hk hk' hne ha b hb;rcases hcase k o hk with ⟨h2,h3⟩|⟨j,wr,g,sz,cs,rfl,h2,rfl⟩
  ·rw [hold k h3] at hb;rcases hcase k' o' hk' with ⟨h4,h5⟩|⟨j',wr',g',sz',cs',rfl,h4,rfl⟩
   ·rw [hold k' h5];exact H'.sep k k' o o' h2 h4 hne ha b hb
   rw [hloc];intro hb';have hlt:=(H.obj k o h2).lt hb;rcases hal with how2|hal
   ·obtain⟨g2,sz2,cs2,e2⟩:=YT how2 h4;have ho:=R1.obj j' _ h4;cases hl:ι' (ρ j') with
    |nil p=>rw [hl] at hb';cases hb'
    |lay b2 off e =>
     rw [hl] at hb';rw [hl,e2] at ho;have:b2=b:=(by simpa [Loc.D0] using hb');have:=ho.1;omega
   rw [hal k o h2] at ha;cases ha
  rw [hloc] at hb;rcases hcase k' o' hk' with ⟨h4,h5⟩|⟨j',wr',g',sz',cs',rfl,h4,rfl⟩
  ·rw [hold k' h5];intro hb';have hlt:=(H.obj k' o' h4).lt hb';have ho:=R1.obj j _ h2;cases hl:ι' (ρ j) with
   |nil p=>rw [hl] at hb;cases hb
   |lay b2 off e =>
    rw [hl] at ho hb;have:b2=b:=(by simpa [Loc.D0] using hb);have hwr:wr=true:=ha;subst hwr;have:=ho.1;omega
  rw [hloc];exact R1.sep j j' _ _ h2 h4 (fun e=>hne (by rw [e])) ha b hb
 ·intro k o hk;rcases hcase k o hk with ⟨h2,h3⟩|⟨j,wr,g,sz,cs,rfl,h2,rfl⟩
  ·omega
  have:=R1.low j _ h2;omega
 ·intro k o hk;rcases hcase k o hk with ⟨h2,h3⟩|⟨j,wr,g,sz,cs,rfl,h2,rfl⟩
  ·exact (H'.sc k o h2).mono (by omega) hold
  intro v hv;obtain⟨y,hy,rfl⟩:=List.mem_map.1 hv;refine jM (m:=m) ?_ (fun k hk=>by omega);rw [hι];exact R1.sc j _ h2 y hy
 rw [q7,E3 q2,E3 hscn,hι]
def In (args0:List Value)(h0:Heap)(n0:Nat)(args:List Value)(h:Heap)(nx:Nat):Prop :=
 ∀ ι B w,aQ ι B h nx w→(∀ v∈args,eX ι nx v)→∃ ι0,args.map (tr ι)=args0.map (tr ι0)∧(∀ v∈args0,eX ι0 n0 v)∧aQ ι0 w.heap.size h0 n0 w
abbrev Sp:=List Value→Heap→Nat→Value→Heap→Nat→Prop
def rZ (h1 h:Heap):Heap:=match zL h1 with|true=>h|false=>eI h
def xOf (S:Sp):List Value→Heap→Nat→KE→Prop:=fun args h nx K =>
 ∃ args0 h0 n0 v1 h1 m,S args0 h0 n0 v1 h1 m∧In args0 h0 n0 args h nx∧K (fL (fun k=>nx+k) v1) (app (oP nx h1) (rZ h1 h)) (nx+m)
def L5 (v1:Value)(h1:Heap)(m:Nat):KE:=fun v h' nx'=>∃ ρ,kV 0 ρ [(0,v1)] h1 m [(0,v)] h' nx'
theorem jD {P:Program}{C:VC}{f:Nat}{S:Sp}(hC:bC P C)(hS:∀ args0 h0 n0 v1 h1 m,S args0 h0 n0 v1 h1 m→gH h1=true∧∃ Q:KE,C f args0 h0 n0 Q∧∀ v h nx,Q v h nx→L5 v1 h1 m v h nx):dJ P f (xOf S):=by
 refine⟨fun args h nx K hx ι B w H hs=>?_,fun args h nx K hx=>?_⟩
 ·obtain⟨args0,h0,n0,v1,h1,m,s1,s2,s3⟩:=hx;obtain⟨how,Q,hc,hq⟩:=hS _ _ _ _ _ _ s1;obtain⟨ι0,e1,e2,e3⟩:=s2 ι B w H hs;obtain⟨c1,c2⟩:=hC f args0 h0 n0 _ hc ι0 w.heap.size w e3 e2;refine⟨c1,?_⟩;rw [e1];refine CallsIn.mono c2 fun e w' hr=>?_;cases e with
  |returned u =>
   unfold rZ at s3;cases ho:zL h1 with
   |true=>rw [ho] at s3;exact PD H (fun v h' nx' q=>hq v h' nx' q) how (.inl ho) s3 hr
   |false =>
    rw [ho] at s3;refine PD (H.shut.down H.size) (fun v h' nx' q=>hq v h' nx' q) how (.inr fun k o hk=>?_) s3 hr;rw [jX] at hk;cases hq:look h k with
    |none=>rw [hq] at hk;cases hk
    |some q =>
     rw [hq] at hk;injection hk with hk;subst hk;exact M9 q
  |_=>exact hr.elim
 obtain⟨args0,h0,n0,v1,h1,m,s1,s2,s3⟩:=hx;exact⟨_,_,_,s3,fun K' hk=>⟨args0,h0,n0,v1,h1,m,s1,s2,hk⟩⟩
theorem bZ {α:Type}{k:Nat}{o:α}{p:Prop}(h:look [] k=some o):p:=by cases h
theorem lJ {v:Value}(hv:gT v=true){h':Heap}{nx':Nat}:L5 v [] 0 v h' nx' :=
 ⟨id,⟨fun t u hu=>by
  rw [aB] at hu;split at hu
  ·rename_i hb;injection hu with hu;subst hu;exact⟨by rw [aB,hb];show some v=some (fL id v);rw [fL,gU hv],bU hv⟩
  exact bZ hu,fun k o hk=>bZ hk,fun k k' o o' hk=>bZ hk,fun k hk=>rfl,Nat.le_refl _⟩⟩
theorem iQ {σ:Nat→Nat}{v:Value}(hv:gT v=true):fL σ v=v:=gU hv
theorem aMQ {args:List Value}(hg:∀ v∈args,gT v=true){h:Heap}{nx:Nat}:In args [] 0 args h nx:=by
 intro ι B w H hs;refine⟨ι,rfl,fun v hv=>bU (hg v hv),⟨fun k o hk=>bZ hk,fun k k' o o' hk=>bZ hk,fun k o hk=>bZ hk,Nat.le_refl _,fun k o hk=>bZ hk⟩⟩
theorem aW {α:Type}{l:List (Nat × α)}{k:Nat}{o:α}(h:look l k=some o):(k,o)∈l:=by
 induction l with
 |nil=>exact bZ h
 |cons x r ih =>
  obtain⟨j,q⟩:=x;rw [aB] at h;split at h
  ·rename_i hb;have:=beq_true hb;subst this;injection h with h;subst h;exact .head _
  exact .tail _ (ih h)
theorem cA {l:List Value}(h:fN l=true){v:Value}(hv:v∈l):gT v=true:=by
 induction l with
 |nil=>cases hv
 |cons x r ih =>
  simp only [fN,Bool.and_eq_true] at h;cases hv with
  |head =>
   have:=h.1;cases v <;> first|exact this|(simp [gA,gS] at this)
  |tail _ hm=>exact ih h.2 hm
theorem aBV {k o n c:Nat}{r:List Value}(hr:fN r=true){h:Heap}{nx:Nat}{wr g:Bool}{sz0:Nat}{cs:List Value}(hk:look h k=some (.cells wr g sz0 cs)){cs0:List Value}(hcs:(cs.drop o).take cs0.length=cs0)(hg:dL cs0=true)(g0:Bool)(sz:Nat)(hz:sz≠0) :
  In (.slice (some ⟨0,0,none⟩) n c::r) [(0,.cells false g0 sz cs0)] 1 (.slice (some ⟨k,o,none⟩) n c::r) h nx:=by
 intro ι B w H hs;have hx:k<nx∧((ι k).gR=false→n=0∧c=0):=hs _ (.head _);have hmap:∀ ι1 ι2:Nat→Loc,r.map (tr ι1)=r.map (tr ι2):=fun ι1 ι2=>List.map_congr_left fun v hv=>(by rw [gU (cA hr hv),gU (cA hr hv)]);have hsc:∀ ι0:Nat→Loc,∀ v∈r,eX ι0 1 v:=fun ι0 v hv=>bU (cA hr hv);have ho:=H.obj k _ hk;cases hι:ι k with
 |nil p =>
  rw [hι] at ho;have hnil:cs=[]:=(by cases wr <;> exact ho.1);subst hnil;have h0:cs0=[]:=(by rw [← hcs];simp);subst h0;refine⟨fun _=>.nil p,?_,?_,⟨?_,?_,?_,Nat.le_refl _,?_⟩⟩
  ·rw [List.map_cons,List.map_cons,hmap ι];congr 1;simp [tr,dW,bO,dY,hι]
  ·intro v hv;cases hv with
   |head=>exact⟨Nat.one_pos,fun _=>hx.2 (by rw [hι];rfl)⟩
   |tail _ hm=>exact hsc _ v hm
  ·intro j q hq;rw [aB] at hq;split at hq
   ·injection hq with hq;subst hq;exact⟨rfl,fun h=>h.elim (fun h=>absurd h hz) (fun h=>by cases h)⟩
   exact bZ hq
  ·intro j j' q q' hq hq' hne ha b hb;cases hb
  ·intro j q hq;rw [aB] at hq;split at hq
   ·rename_i hb;rw [← beq_true hb];exact Nat.one_pos
   exact bZ hq
  intro j q hq;rw [aB] at hq;split at hq
  ·injection hq with hq;subst hq;intro v hv;cases hv
  exact bZ hq
 |lay b off e =>
  have hlt:b<w.heap.size:=ho.lt (by rw [hι];rfl);refine⟨fun _=>.lay b (off+o) e,?_,?_,⟨?_,?_,?_,Nat.le_refl _,?_⟩⟩
  ·rw [List.map_cons,List.map_cons,hmap ι];congr 1;simp [tr,dW,bO,dY,hι]
  ·intro v hv;cases hv with
   |head=>exact⟨Nat.one_pos,fun h=>by cases h⟩
   |tail _ hm=>exact hsc _ v hm
  ·intro j q hq;rw [aB] at hq;split at hq
   ·injection hq with hq;subst hq;refine⟨hlt,fun _=>hg,fun i v hv=>?_⟩;have hv2:cs[o+i]? = some v:=by
     rw [← hcs] at hv;rw [List.getElem?_take] at hv;split at hv
     ·rw [List.getElem?_drop] at hv;exact hv
     ·cases hv
    obtain⟨b',off',e',hι',hc⟩:=H.cell hk hv2;rw [hι] at hι';injection hι' with e1 e2 e3;subst e1;subst e2;have hgv:=aT hg (List.mem_of_getElem? hv);rw [Nat.add_assoc,hc,nU hgv,nU hgv]
   exact bZ hq
  ·intro j j' q q' hq hq' hne ha b hb;rw [aB] at hq hq';split at hq
   ·rename_i hb1;split at hq'
    ·rename_i hb2;exact absurd ((beq_true hb1).symm.trans (beq_true hb2)) hne
    exact bZ hq'
   exact bZ hq
  ·intro j q hq;rw [aB] at hq;split at hq
   ·rename_i hb;rw [← beq_true hb];exact Nat.one_pos
   exact bZ hq
  intro j q hq;rw [aB] at hq;split at hq
  ·injection hq with hq;subst hq;exact fun v hv=>bY (aT hg hv)
  exact bZ hq
end Go.Aw
end
