/-
  Parts of a proof. No condition.
-/
import Derived.Test.YticajjhjehljpaaGreatQAd
set_option linter.unusedSimpArgs false
set_option linter.unusedVariables false
noncomputable section
namespace Go.Aw
open Go.RowKit
def aCx:Int→Int→Bool
 |.ofNat a,.ofNat b=>Nat.beq a b
 |.negSucc a,.negSucc b=>Nat.beq a b
 |_,_=>false
theorem aCb {a b:Int}(h:aCx a b=true):a=b:=by
 cases a <;> cases b <;> simp only [aCx] at h <;> first|cases h;done|rw [beq_true h]
def aA1:Bool→Bool→Bool
 |true,true=>true
 |false,false=>true
 |_,_=>false
theorem J0 {a b:Bool}(h:aA1 a b=true):a=b:=by cases a <;> cases b <;> first|rfl|cases h
def XQ:Value→Value→Bool
 |.bool a,.bool b=>aA1 a b
 |.int k a,.int j b=>kEq k j&&aCx a b
 |.slice none n c,.slice none n' c'=>Nat.beq n n'&&Nat.beq c c'
 |.slice (some ⟨a,o,none⟩) n c,.slice (some ⟨a',o',none⟩) n' c'=>Nat.beq a a'&&Nat.beq o o'&&Nat.beq n n'&&Nat.beq c c'
 |.pointer none,.pointer none=>true
 |.pointer (some ⟨a,o,none⟩),.pointer (some ⟨a',o',none⟩)=>Nat.beq a a'&&Nat.beq o o'
 |.map none,.map none=>true
 |.map (some a),.map (some a')=>Nat.beq a a'
 |.nilFunc,.nilFunc=>true
 |.nilIface,.nilIface=>true
 |_,_=>false
theorem P8 {v u:Value}(h:XQ v u=true):v=u:=by
 unfold XQ at h;split at h
 ·rw [J0 h]
 ·simp only [Bool.and_eq_true] at h;rw [rK h.1,aCb h.2]
 ·simp only [Bool.and_eq_true] at h;rw [beq_true h.1,beq_true h.2]
 ·simp only [Bool.and_eq_true] at h;obtain⟨⟨⟨h1,h2⟩,h3⟩,h4⟩:=h;rw [beq_true h1,beq_true h2,beq_true h3,beq_true h4]
 ·rfl
 ·simp only [Bool.and_eq_true] at h;rw [beq_true h.1,beq_true h.2]
 ·rfl
 ·rw [beq_true h]
 ·rfl
 ·rfl
 ·cases h
def GO:List Value→List Value→Bool
 |[],[]=>true
 |a::r,b::s=>XQ a b&&GO r s
 |_,_=>false
theorem DL:∀ {l m:List Value},GO l m=true→l=m
 |[],[],_=>rfl
 |[],_::_,h=>by cases h
 |_::_,[],h=>by cases h
 |a::r,b::s,h=>by
  simp only [GO,Bool.and_eq_true] at h;rw [P8 h.1,DL h.2]
def W7:Fn→Fn→Bool
 |.func a,.func b=>Nat.beq a b
 |.yield a,.yield b=>Nat.beq a b
 |_,_=>false
theorem aBc {f g:Fn}(h:W7 f g=true):f=g:=by
 unfold W7 at h;split at h
 ·rw [beq_true h]
 ·rw [beq_true h]
 ·cases h
def SQ:Value→Value→Bool
 |.func f a c,.func f' a' c'=>W7 f f'&&GO a.toList a'.toList&&GO c.toList c'.toList
 |a,b=>XQ a b
theorem II {v u:Value}(h:SQ v u=true):v=u:=by
 unfold SQ at h;split at h
 ·simp only [Bool.and_eq_true] at h;obtain⟨⟨h1,h2⟩,h3⟩:=h;rw [aBc h1,show _=_ from Array.ext' (DL h2),show _=_ from Array.ext' (DL h3)]
 exact P8 h
def LG:List Value→List Value→Bool
 |[],[]=>true
 |a::r,b::s=>SQ a b&&LG r s
 |_,_=>false
theorem AN:∀ {l m:List Value},LG l m=true→l=m
 |[],[],_=>rfl
 |[],_::_,h=>by cases h
 |_::_,[],h=>by cases h
 |a::r,b::s,h=>by
  simp only [LG,Bool.and_eq_true] at h;rw [II h.1,AN h.2]
def QZ:Value→Value→Bool
 |.agg a,.agg b=>LG a.toList b.toList
 |a,b=>SQ a b
theorem IC {v u:Value}(h:QZ v u=true):v=u:=by
 unfold QZ at h;split at h
 ·rw [show _=_ from Array.ext' (AN h)]
 exact II h
def OQ:List Value→List Value→Bool
 |[],[]=>true
 |a::r,b::s=>QZ a b&&OQ r s
 |_,_=>false
theorem K0:∀ {l m:List Value},OQ l m=true→l=m
 |[],[],_=>rfl
 |[],_::_,h=>by cases h
 |_::_,[],h=>by cases h
 |a::r,b::s,h=>by
  simp only [OQ,Bool.and_eq_true] at h;rw [IC h.1,K0 h.2]
def Q1:Value→Value→Bool
 |.tuple a,.tuple b=>OQ a.toList b.toList
 |a,b=>QZ a b
theorem JZ {v u:Value}(h:Q1 v u=true):v=u:=by
 unfold Q1 at h;split at h
 ·rw [show _=_ from Array.ext' (K0 h)]
 exact IC h
def aGC (n:Nat):Value→Bool
 |.slice (some a) _ _=>Nat.blt a.block n
 |.pointer (some a)=>Nat.blt a.block n
 |.map (some k)=>Nat.blt k n
 |v=>gS v
theorem aAj {n:Nat}{v:Value}(h:aGC n v=true):pU (kV id) n v:=by
 unfold aGC at h;split at h
 ·exact⟨Nat.le_of_ble_eq_true h,fun e=>by cases e⟩
 ·exact⟨Nat.le_of_ble_eq_true h,rfl⟩
 ·exact⟨Nat.le_of_ble_eq_true h,rfl⟩
 ·cases v <;> simp [gS] at h <;> first|trivial|(rename_i a;cases a <;> simp [gS] at h <;> trivial)|(simp [pU];done)|skip
  all_goals (first|(rename_i a _ _;cases a <;> simp [gS] at h <;> simp [pU])|skip)
def aHB (n:Nat):List Value→Bool
 |[]=>true
 |v::r=>aGC n v&&aHB n r
theorem Z1 {n:Nat}:∀ {l:List Value},aHB n l=true→∀ v∈l,pU (kV id) n v
 |[],_,v,hv=>by cases hv
 |x::r,h,v,hv=>by
  simp only [aHB,Bool.and_eq_true] at h;cases hv with
  |head=>exact aAj h.1
  |tail _ hm=>exact Z1 h.2 v hm
def aKk (n:Nat):Fn→Bool
 |.func _=>true
 |.yield l=>Nat.blt l n
 |_=>false
theorem aGY {n:Nat}{f:Fn}(h:aKk n f=true):TX (kV id) n f:=by
 unfold aKk at h;split at h
 ·trivial
 ·exact⟨Nat.le_of_ble_eq_true h,rfl⟩
 ·cases h
def aDF (n:Nat):Value→Bool
 |.func f _ c=>aKk n f&&aHB n c.toList
 |v=>aGC n v
theorem oH {n:Nat}{v:Value}(h:aDF n v=true):E4 n v:=by
 unfold aDF at h;split at h
 ·simp only [Bool.and_eq_true] at h;exact⟨aGY h.1,Z1 h.2⟩
 rename_i hf;have h2:=aAj h;cases v <;> first|exact h2|exact absurd rfl (hf _ _ _)
def UC (n:Nat):List Value→Bool
 |[]=>true
 |v::r=>aDF n v&&UC n r
theorem dT {n:Nat}:∀ {l:List Value},UC n l=true→∀ v∈l,E4 n v
 |[],_,v,hv=>by cases hv
 |x::r,h,v,hv=>by
  simp only [UC,Bool.and_eq_true] at h;cases hv with
  |head=>exact oH h.1
  |tail _ hm=>exact dT h.2 v hm
def aI1 (n:Nat):Value→Bool
 |.agg c=>UC n c.toList
 |v=>aDF n v
theorem YY {n:Nat}{v:Value}(h:aI1 n v=true):lZ (kV id) n v:=by
 unfold aI1 at h;split at h
 ·exact fun x hx=>dT h x hx
 exact iL (oH h)
def X0 (n:Nat):List Value→Bool
 |[]=>true
 |v::r=>aI1 n v&&X0 n r
theorem TO {n:Nat}:∀ {l:List Value},X0 n l=true→∀ v∈l,lZ (kV id) n v
 |[],_,v,hv=>by cases hv
 |x::r,h,v,hv=>by
  simp only [X0,Bool.and_eq_true] at h;cases hv with
  |head=>exact YY h.1
  |tail _ hm=>exact TO h.2 v hm
def aDK (n:Nat):Value→Bool
 |.tuple c=>X0 n c.toList
 |v=>aI1 n v
theorem oJ {n:Nat}{v:Value}(h:aDK n v=true):zR n v:=by
 unfold aDK at h;split at h
 ·exact fun x hx=>TO h x hx
 exact m6 (YY h)
def nm (ρ:List (Nat × Nat))(k:Nat):Nat:=match look ρ k with|some j=>j|none=>k
def YZ (σ:Nat→Nat)(m:Nat):List (Value × Value)→List (Value × Value)→Bool
 |[],[]=>true
 |a::r,b::s=>QZ b.1 a.1&&SQ b.2 (bY σ a.2)&&aDF m a.2&&YZ σ m r s
 |_,_=>false
theorem TD {σ:Nat→Nat}{m:Nat}:∀ {l l':List (Value × Value)},YZ σ m l l'=true→l'=l.map (fun e=>(e.1,bY σ e.2))∧∀ e∈l,E4 m e.2
 |[],[],_=>⟨rfl,fun e he=>by cases he⟩
 |[],_::_,h=>by cases h
 |_::_,[],h=>by cases h
 |a::r,b::s,h=>by
  simp only [YZ,Bool.and_eq_true] at h;obtain⟨⟨⟨h1,h2⟩,h3⟩,h4⟩:=h;obtain⟨i1,i2⟩:=TD h4;refine⟨?_,fun e he=>?_⟩
  ·rw [List.map_cons,← i1,← IC h1,← II h2]
  ·cases he with
   |head=>exact oH h3
   |tail _ hm=>exact i2 e hm
def aD8 (σ:Nat→Nat)(m:Nat):bV→bV→Bool
 |.cells wr g sz cs,.cells wr' g' sz' cs'=>UC m cs&&aA1 wr wr'&&aA1 g g'&&Nat.beq sz sz'&&LG cs' (cs.map (bY σ))
 |.map es,.map es'=>YZ σ m es es'
 |.zero,.zero=>true
 |_,_=>false
theorem aDO {σ:Nat→Nat}{m:Nat}{o o':bV}(h:aD8 σ m o o'=true):bZ σ m o o':=by
 unfold aD8 at h;split at h
 ·simp only [Bool.and_eq_true] at h;obtain⟨⟨⟨⟨h1,h2⟩,h3⟩,h4⟩,h5⟩:=h;exact⟨J0 h2,J0 h3,beq_true h4,AN h5,dT h1⟩
 ·exact TD h
 ·trivial
 ·cases h
def XI (b:Nat)(ρ:List (Nat × Nat))(m:Nat)(h':Heap):Heap→Bool
 |[]=>true
 |(k,o)::r=>Nat.blt k m&&(match Nat.blt k b with|true=>true|false=>(match look ρ k with|some _=>true|none=>false))&&(match look h' (nm ρ k) with|some o'=>aD8 (nm ρ) m o o'|none=>false)&&XI b ρ m h' r
theorem PY {b:Nat}{ρ:List (Nat × Nat)}{m:Nat}{h':Heap}:∀ {h:Heap},XI b ρ m h' h=true→∀ k o,look h k=some o→k<m∧(b≤k→∃ j,look ρ k=some j)∧∃ o',look h' (nm ρ k)=some o'∧bZ (nm ρ) m o o'
 |[],_,k,o,hk=>by cases hk
 |(j,q)::r,h,k,o,hk=>by
  simp only [XI,Bool.and_eq_true] at h;obtain⟨⟨⟨h1,h2⟩,h3⟩,h4⟩:=h;rw [aB] at hk;split at hk
  ·rename_i hb;have:=beq_true hb;subst this;injection hk with hk;subst hk;refine⟨Nat.le_of_ble_eq_true h1,fun hb=>?_,?_⟩
   ·split at h2
    ·rename_i hlt;have:=Nat.le_of_ble_eq_true hlt;omega
    split at h2
    ·rename_i x hx;exact⟨x,hx⟩
    ·cases h2
   split at h3
   ·rename_i o' ho';exact⟨o',ho',aDO h3⟩
   ·cases h3
  exact PY h4 k o hk
theorem Y6 {α:Type}{k:Nat}{o:α}{p:Prop}(h:look [] k=some o):p:=by cases h
def aHa (b:Nat):List (Nat × Nat)→Bool
 |[]=>true
 |(k,j)::r=>Nat.ble b k&&Nat.ble b j&&!(qN j (r.map (·.2)))&&aHa b r
theorem ZB {b:Nat}:∀ {ρ:List (Nat × Nat)},aHa b ρ=true→(∀ k j,look ρ k=some j→b≤k∧b≤j∧j∈ρ.map (·.2))∧∀ k k' j,look ρ k=some j→look ρ k'=some j→k=k'
 |[],_=>⟨fun k j h=>Y6 h,fun k k' j h=>Y6 h⟩
 |(a,c)::r,h=>by
  simp only [aHa,Bool.and_eq_true,Bool.not_eq_true'] at h;obtain⟨⟨⟨h1,h2⟩,h3⟩,h4⟩:=h;obtain⟨i1,i2⟩:=ZB h4;have h1:=Nat.le_of_ble_eq_true h1;have h2:=Nat.le_of_ble_eq_true h2;have hn:c∉r.map (·.2):=fun hm=>(by rw [dU.2 hm] at h3;cases h3);refine⟨fun k j hl=>?_,fun k k' j hl hl'=>?_⟩
  ·rw [aB] at hl;split at hl
   ·rename_i hb;injection hl with hl;subst hl;rw [← beq_true hb];exact⟨h1,h2,.head _⟩
   obtain⟨q1,q2,q3⟩:=i1 k j hl;exact⟨q1,q2,.tail _ q3⟩
  rw [aB] at hl hl';split at hl <;> split at hl'
  ·rename_i hb _ hb';exact (beq_true hb).symm.trans (beq_true hb')
  ·injection hl with hl;subst hl;exact absurd (i1 k' _ hl').2.2 hn
  ·injection hl' with hl';subst hl';exact absurd (i1 k _ hl).2.2 hn
  exact i2 k k' j hl hl'
def aGM (ρ:List (Nat × Nat))(m:Nat)(e':List (Nat × Value)):List (Nat × Value)→Bool
 |[]=>true
 |(t,v)::r=>(match look e' t with|some v'=>Q1 v' (iM (nm ρ) v)|none=>false)&&aDK m v&&aGM ρ m e' r
theorem ZJ {ρ:List (Nat × Nat)}{m:Nat}{e':List (Nat × Value)}:∀ {e:List (Nat × Value)},aGM ρ m e' e=true→∀ t v,look e t=some v→look e' t=some (iM (nm ρ) v)∧zR m v
 |[],_,t,v,h=>by cases h
 |(j,q)::r,h,t,v,hl=>by
  simp only [aGM,Bool.and_eq_true] at h;obtain⟨⟨h1,h2⟩,h3⟩:=h;rw [aB] at hl;split at hl
  ·rename_i hb;have:=beq_true hb;subst this;injection hl with hl;subst hl;refine⟨?_,oJ h2⟩;split at h1
   ·rename_i v' hv';rw [hv',JZ h1]
   ·cases h1
  exact ZJ h3 t v hl
def aHW (b:Nat)(ρ:List (Nat × Nat))(e0:List (Nat × Value))(h0:Heap)(n0:Nat)(e:List (Nat × Value))(h:Heap):Bool :=
 Nat.ble b n0&&aHa b ρ&&aGM ρ n0 e e0&&XI b ρ n0 h h0
theorem YJ {b:Nat}{ρ:List (Nat × Nat)}{e0:List (Nat × Value)}{h0:Heap}{n0:Nat}{e:List (Nat × Value)}{h:Heap}{nx:Nat}(hb:aHW b ρ e0 h0 n0 e h=true):lQ b (nm ρ) e0 h0 n0 e h nx:=by
 simp only [aHW,Bool.and_eq_true] at hb;obtain⟨⟨⟨h1,h2⟩,h3⟩,h4⟩:=hb;obtain⟨r1,r2⟩:=ZB h2;have hh:=PY h4;have hfix:∀ k,k<b→nm ρ k=k:=fun k hk=>by
  unfold nm;split
  ·rename_i j hj;have:=(r1 k j hj).1;omega
  rfl
 refine⟨ZJ h3,fun k o hk=>⟨(hh k o hk).1,(hh k o hk).2.2⟩,fun k k' o o' hk hk' he=>?_,hfix,Nat.le_of_ble_eq_true h1⟩;have a1:=(hh k o hk).2.1;have a2:=(hh k' o' hk').2.1;by_cases c1:k<b <;> by_cases c2:k'<b
 ·rw [hfix k c1,hfix k' c2] at he;exact he
 ·obtain⟨j,hj⟩:=a2 (by omega);have hn:nm ρ k'=j:=(by unfold nm;rw [hj]);have:=(r1 k' j hj).2.1;rw [hfix k c1,hn] at he;omega
 ·obtain⟨j,hj⟩:=a1 (by omega);have hn:nm ρ k=j:=(by unfold nm;rw [hj]);have:=(r1 k j hj).2.1;rw [hfix k' c2,hn] at he;omega
 obtain⟨j,hj⟩:=a1 (by omega);obtain⟨j',hj'⟩:=a2 (by omega);have hn:nm ρ k=j:=(by unfold nm;rw [hj]);have hn':nm ρ k'=j':=(by unfold nm;rw [hj']);rw [hn,hn'] at he;subst he;exact r2 k k' j hj hj'
def prP (b:Nat):Value→Value→List (Nat × Nat)→List (Nat × Nat)
 |.slice (some a) _ _,.slice (some c) _ _,r=>(match Nat.ble b a.block with|true=>(a.block,c.block)::r|false=>r)
 |.pointer (some a),.pointer (some c),r=>(match Nat.ble b a.block with|true=>(a.block,c.block)::r|false=>r)
 |.map (some a),.map (some c),r=>(match Nat.ble b a with|true=>(a,c)::r|false=>r)
 |_,_,r=>r
def aNI (b:Nat):List Value→List Value→List (Nat × Nat)→List (Nat × Nat)
 |v::l,u::m,r=>prP b v u (aNI b l m r)
 |_,_,r=>r
def prS (b:Nat):Value→Value→List (Nat × Nat)→List (Nat × Nat)
 |.func _ _ c,.func _ _ c',r=>aNI b c.toList c'.toList r
 |v,u,r=>prP b v u r
def prL (b:Nat):List Value→List Value→List (Nat × Nat)→List (Nat × Nat)
 |v::l,u::m,r=>prS b v u (prL b l m r)
 |_,_,r=>r
def prA (b:Nat):Value→Value→List (Nat × Nat)→List (Nat × Nat)
 |.agg c,.agg c',r=>prL b c.toList c'.toList r
 |v,u,r=>prS b v u r
def aMS (b:Nat):List Value→List Value→List (Nat × Nat)→List (Nat × Nat)
 |v::l,u::m,r=>prA b v u (aMS b l m r)
 |_,_,r=>r
def prT (b:Nat):Value→Value→List (Nat × Nat)→List (Nat × Nat)
 |.tuple c,.tuple c',r=>aMS b c.toList c'.toList r
 |v,u,r=>prA b v u r
def prM (b:Nat):List (Value × Value)→List (Value × Value)→List (Nat × Nat)→List (Nat × Nat)
 |v::l,u::m,r=>prS b v.2 u.2 (prM b l m r)
 |_,_,r=>r
def prO (b:Nat):Option bV→Option bV→List (Nat × Nat)→List (Nat × Nat)
 |some (.cells _ _ _ cs),some (.cells _ _ _ cs'),r=>prL b cs cs' r
 |some (.map es),some (.map es'),r=>prM b es es' r
 |_,_,r=>r
def prE (b:Nat)(e':List (Nat × Value)):List (Nat × Value)→List (Nat × Nat)→List (Nat × Nat)
 |[],q=>q
 |(t,v)::r,q=>match look e' t with|some u=>prT b v u (prE b e' r q)|none=>prE b e' r q
def grow (b:Nat)(h h':Heap):Nat→List (Nat × Nat)→List (Nat × Nat)→List (Nat × Nat)
 |0,_,d=>d
 |_+1,[],d=>d
 |n+1,(j,k)::r,d=>match look d j with
  |some _=>grow b h h' n r d
  |none=>grow b h h' n (prO b (look h j) (look h' k) r) ((j,k)::d)
def aJI (b:Nat)(h':Heap):Heap→List (Nat × Nat)→List (Nat × Nat)
 |[],r=>r
 |(k,o)::l,r=>match Nat.blt k b with|true=>prO b (some o) (look h' k) (aJI b h' l r)|false=>aJI b h' l r
def aCO (b:Nat)(e e':List (Nat × Value))(h h':Heap):List (Nat × Nat):=grow b h h' 10000 (prE b e' e (aJI b h' h [])) []
def JL {α:Type}:List α→(List α→Bool)→Bool
 |[],k=>k []
 |x::r,k=>JL r fun r=>k (x::r)
theorem CA {α:Type}:∀ (l:List α) (k:List α→Bool),JL l k=k l
 |[],k=>rfl
 |x::r,k=>by rw [JL,CA r]
def UM:List (Nat × Value)→List Nat→List (Nat × Value)
 |[],_=>[]
 |(t,v)::r,seen=>match qN t seen with|true=>UM r seen|false=>(t,v)::UM r (t::seen)
def X3 (b:Nat)(ρ:List (Nat × Nat)):Heap→Heap
 |[]=>[]
 |(k,o)::r=>match Nat.blt k b with
  |true=>(k,o)::X3 b ρ r
  |false=>(match look ρ k with|some _=>(k,o)::X3 b ρ r|none=>X3 b ρ r)
abbrev uJ:=Value→Heap→Nat→Bool
abbrev r7:=List (Nat × Value)→Heap→Nat→Bool
abbrev x8:=Nat→List Value→Heap→Nat→uJ→Bool
abbrev VRB:=Operand→Array Tmp→Code→Code→r7→(Nat→r7)→r7→r7
def sK (x:Option Value)(K:Value→Bool):Bool:=match x with|some v=>K v|none=>false
def wbr (b:Bool)(A B:Unit→Bool):Bool:=match b with|true=>A ()|false=>B ()
def eY (b:Bool)(A:Bool):Bool:=match b with|true=>A|false=>false
def XA (T:dD)(h:Heap)(t:TypeId)(x:Value)(K:Value→Bool):Bool :=
 match x with
 |.pointer (some ⟨k,o,none⟩) =>
  match look T t,look h k with
  |some ti,some (.cells _ _ _ cs) =>
   match ti.isAgg with
   |true=>(match pC cs o ti.size with|some l=>K (.agg l.toArray)|none=>false)
   |false=>(match nth cs o with|some v=>K v|none=>false)
  |_,_=>false
 |_=>false
def zD (T:dD)(st:TypeId)(x:Value)(f:Nat)(K:Value→Bool):Bool :=
 match x,look T st with
 |.pointer (some ⟨k,o,none⟩),some { kind:=.st fs,.. } =>
  match fs[f]? with
  |some (off,ft)=>(match look T ft with|some _=>K (.pointer (some ⟨k,o+off,none⟩))|none=>false)
  |none=>false
 |_,_=>false
def yN (A:Ar)(T:dD)(t:TypeId)(x ix:Value)(K:Value→Bool):Bool :=
 match look T t,x,ix with
 |some { kind:=.sl e,.. },.slice (some ⟨k,o,none⟩) n _,.int _ i =>
  (match look T e with|some ei=>eY (A.andB (A.le 0 i) (A.lt i (A.num n))) (K (.pointer (some ⟨k,A.ix o i ei.size,none⟩)))|none=>false)
 |some { kind:=.ar n e,.. },.pointer (some ⟨k,o,none⟩),.int _ i =>
  (match look T e with|some ei=>eY (A.andB (A.le 0 i) (A.lt i (A.num n))) (K (.pointer (some ⟨k,A.ix o i ei.size,none⟩)))|none=>false)
 |_,_,_=>false
def ZR (T:dD)(t:TypeId)(cs:List Value)(o:Nat)(K:Value→Bool):Bool :=
 match look T t with
 |some ti=>(match ti.isAgg with
  |true=>(match pC cs o ti.size with|some l=>K (.agg l.toArray)|none=>false)
  |false=>(match nth cs o with|some v=>K v|none=>false))
 |none=>false
def WR (T:dD)(st:TypeId)(x:Value)(f:Nat)(K:Value→Bool):Bool :=
 match x,look T st with
 |.agg cs,some { kind:=.st fs,.. }=>(match fs[f]? with|some (off,ft)=>ZR T ft cs.toList off K|none=>false)
 |_,_=>false
def WG (A:Ar)(T:dD)(t:TypeId)(x ix:Value)(K:Value→Bool):Bool :=
 match look T t,x,ix with
 |some { kind:=.ar n e,.. },.agg cs,.int _ i =>
  (match look T e with|some ei=>eY (A.andB (A.le 0 i) (A.lt i (A.num n))) (ZR T e cs.toList (A.ix 0 i ei.size) K)|none=>false)
 |some { kind:=.str,.. },.string b,.int _ i=>(match (if 0≤i then b[i.toNat]? else none) with|some u=>K (.int .u8 (A.num u.toNat))|none=>false)
 |_,_,_=>false
def aOw (A:Ar)(op:BinOp)(k:IntKind)(a b:Int)(K:Value→Bool):Bool :=
 match op with
 |.add=>eY (A.fits k (A.add a b)) (K (.int k (A.add a b)))
 |.sub=>eY (A.fits k (A.sub a b)) (K (.int k (A.sub a b)))
 |.mul=>eY (A.fits k (A.mul a b)) (K (.int k (A.mul a b)))
 |.quo=>eY (A.andB (A.notB (A.eq b 0)) (A.fits k (A.quo a b))) (K (.int k (A.quo a b)))
 |.rem=>eY (A.notB (A.eq b 0)) (K (.int k (A.rem a b)))
 |.eql=>K (.bool (A.eq a b))
 |.neq=>K (.bool (A.notB (A.eq a b)))
 |.lss=>K (.bool (A.lt a b))
 |.leq=>K (.bool (A.le a b))
 |.gtr=>K (.bool (A.lt b a))
 |.geq=>K (.bool (A.le b a))
 |.xor=>eY (A.andB (A.andB (A.le 0 a) (A.le 0 b)) (A.andB (A.lt a (xS k)) (A.lt b (xS k)))) (K (.int k (A.num (A.bit .xor (A.fH a) (A.fH b)))))
 |.or=>eY (A.andB (A.andB (A.le 0 a) (A.le 0 b)) (A.andB (A.lt a (xS k)) (A.lt b (xS k)))) (K (.int k (A.num (A.bit .or (A.fH a) (A.fH b)))))
 |.and=>eY (A.andB (A.andB (A.le 0 a) (A.le 0 b)) (A.andB (A.lt a (xS k)) (A.lt b (xS k)))) (K (.int k (A.num (A.bit .and (A.fH a) (A.fH b)))))
 |_=>false
def aJL (A:Ar)(T:dD)(op:BinOp)(xt:TypeId)(x y:Value)(K:Value→Bool):Bool :=
 match x,y with
 |.int k a,.int k' b=>(match aJr op with
  |true=>eY (A.andB (A.le 0 a) (A.eq b 1)) (K (.int k (A.quo a 2)))
  |false=>(match kEq k k' with|true=>aOw A op k a b K|false=>false))
 |.bool a,.bool b=>(match op,look T xt with
  |.eql,some { kind:=.bool,.. }=>K (.bool (A.eqB a b))
  |.neq,some { kind:=.bool,.. }=>K (.bool (A.notB (A.eqB a b)))
  |_,_=>false)
 |.agg xs,.agg ys=>(match look T xt with
  |some _=>(match dP xs.toList,dP ys.toList with
   |true,true=>(match veq A T 100 xt (.agg xs) (.agg ys) with
    |some r=>(match op with
     |.eql=>K (.bool r)
     |.neq=>K (.bool (A.notB r))
     |_=>false)
    |none=>false)
   |_,_=>false)
  |none=>false)
 |_,_=>false
def aLZ (T:dD)(h:Heap)(op:BinOp)(t:TypeId)(x:Value)(K:Value→Bool):Bool :=
 match look T t,aGX h x,op with
 |some { kind:=.sl _,.. },some b,.eql=>K (.bool b)
 |some { kind:=.sl _,.. },some b,.neq=>K (.bool (!b))
 |_,_,_=>false
def wun (A:Ar)(op:UnOp)(x:Value)(K:Value→Bool):Bool :=
 match op,x with
 |.neg,.int k a=>eY (A.fits k (A.neg a)) (K (.int k (A.neg a)))
 |.not,.bool b=>K (.bool (A.notB b))
 |_,_=>false
def VG (T:dD)(t:TypeId)(ps:List (Nat × Value))(K:Value→Bool):Bool :=
 match look T t with
 |some ti =>
  match (match ti.kind with|.st fs=>lI T fs|.ar _ e=>(look T e).isSome|_=>false),lR ps with
  |true,true=>(match D5 (places T ti) ps ti.zv.cells.toList with
   |some cells=>K (.agg cells.toArray)
   |none=>false)
  |_,_=>false
 |none=>false
def JQ (A:Ar)(T:dD)(b:Builtin)(ts:Array TypeId)(vs:List Value)(K:Value→Bool):Bool :=
 match b,ts.toList,vs with
 |.len,[t],[.slice _ n _]=>(match look T t with|some { kind:=.sl _,.. }=>K (.int .i64 (A.num n))|_=>false)
 |.cap,[t],[.slice none _ c]=>(match look T t with|some { kind:=.sl _,.. }=>K (.int .i64 (A.num c))|_=>false)
 |.max,_,v::r=>sK (X9 A.max v r) K
 |.min,_,v::r=>sK (X9 A.min v r) K
 |_,_,_=>false
def yI (A:Ar)(T:dD)(env:List (Nat × Value))(h:Heap)(op:Op)(K:Value→Bool):Bool :=
 match op with
 |.move x|.assign x=>sK (dK env x) K
 |.pick c a b=>sK (dK env c) fun u=>(match u with
  |.bool t=>wbr t (fun _=>sK (dK env a) K) (fun _=>sK (dK env b) K)
  |_=>false)
 |.nilCheck x=>sK (dK env x) fun u=>(match u with
  |.pointer (some a)=>K (.pointer (some a))
  |.func (.func f) fi c=>K (.func (.func f) fi c)
  |.func (.yield f) fi c=>K (.func (.yield f) fi c)
  |_=>false)
 |.load t x=>sK (dK env x) fun u=>XA T h t u K
 |.fieldAddr s x f=>sK (dK env x) fun u=>zD T s u f K
 |.field s x f=>sK (dK env x) fun u=>WR T s u f K
 |.indexAddr t x i=>sK (dK env x) fun u=>sK (dK env i) fun j=>yN A T t u j K
 |.index t x i=>sK (dK env x) fun u=>sK (dK env i) fun j=>WG A T t u j K
 |.binOp op t x y _=>sK (dK env x) fun u=>sK (dK env y) fun v=>(match v with
  |.slice none _ _=>aLZ T h op t u K
  |_=>aJL A T op t u v K)
 |.unOp op _ x=>sK (dK env x) fun u=>wun A op u K
 |.convert s d x=>sK (dK env x) fun u=>(match u,look T s,look T d with
  |.int _ n,some _,some { kind:=.int k,.. }=>eY (A.fits k n) (K (.int k n))
  |_,_,_=>false)
 |.makeFunc fn first cap=>(match fn,first.toList with
  |.func f,[]=>(match BL env cap.toList with|some l=>K (.func (.func f) #[] l.toArray)|none=>false)
  |_,_=>false)
 |.extract x i=>sK (dK env x) fun u=>(match u with
  |.tuple vs=>sK (vs.toList[i]?) K
  |_=>false)
 |.build t ps=>(match lO env ps.toList with|some l=>VG T t l K|none=>false)
 |.call c=>(match c.callee with
  |.builtin b=>(match l7 env c.args.toList with|some vs=>JQ A T b c.argTypes vs K|none=>false)
  |_=>false)
 |_=>false
def UA (T:dD)(h:Heap)(nx:Nat)(t:TypeId)(x v:Value)(K:uJ):Bool :=
 match x with
 |.pointer (some ⟨k,o,none⟩) =>
  (match look T t,look h k with
  |some ti,some (.cells true _ sz cs) =>
   (match Nat.beq v.cells.size ti.size,(match v with|.tuple _=>false|_=>true) with
   |true,true=>eY (Nat.ble (o+v.cells.size) cs.length) (K undef (y7 h k (.cells true false sz (eJ cs o v.cells.toList))) nx)
   |_,_=>false)
  |_,_=>false)
 |_=>false
def aKH (h:Heap)(nx:Nat)(v:Value)(K:uJ):Bool :=
 match v with
 |.tuple _=>false
 |v=>K (.pointer (some ⟨nx,0,none⟩)) (bT h nx (.cells true false 1 v.cells.toList)) (nx+1)
def T5 (T:dD)(h:Heap)(nx:Nat)(t:TypeId)(K:uJ):Bool :=
 match look T t with
 |some ti=>K (.pointer (some ⟨nx,0,none⟩)) (bT h nx (.cells true false 1 ti.zv.cells.toList)) (nx+1)
 |none=>false
def vG (T:dD)(h:Heap)(nx:Nat)(t:TypeId)(len:Nat)(ps:List (Nat × Value))(K:uJ):Bool :=
 match look T t with
 |some { kind:=.sl e,.. } =>
  (match look T e with
  |some ei =>
   (match Nat.ble (len*ei.size) 1000000,lR ps with
   |true,true =>
    (match D5 (fun i=>some (i*ei.size,ei.size)) ps (rep len ei.zv.cells.toList) with
    |some cells=>K (.slice (some ⟨nx,0,none⟩) len len) (bT h nx (.cells true false ei.size cells)) (nx+1)
    |none=>false)
   |_,_=>false)
  |none=>false)
 |_=>false
def whi (A:Ar)(n c:Nat)(hi:Option Value)(G:Nat→Bool):Bool :=
 match hi with
 |none=>G n
 |some (.int _ i)=>eY (A.andB (A.le 0 i) (A.le i (A.num c))) (G (A.fH i))
 |_=>false
def O3 (A:Ar)(T:dD)(h:Heap)(nx:Nat)(t:TypeId)(x:Value)(lo hi mx:Option Value)(K:uJ):Bool :=
 match look T t with
 |some { kind:=.sl e,.. } =>
  (match look T e with
  |none=>false
  |some ei =>
   match x,mx with
   |.slice none 0 0,none=>(match isZero lo,isZero hi with|true,true=>K (.slice none 0 0) h nx|_,_=>false)
   |.slice (some ⟨k,o,none⟩) n c,none =>
    whi A n c hi fun hN =>
     (match lo with
     |none=>K (.slice (some ⟨k,o,none⟩) hN c) h nx
     |some (.int _ l)=>eY (A.andB (A.andB (A.le 0 l) (A.le l (A.num hN))) (A.le (A.num hN) (A.num c)))
      (match look h k with
      |some (.cells _ _ _ _)=>eY (A.lt l (A.num c)) (K (.slice (some ⟨k,A.ix o l ei.size,none⟩) (A.subN hN (A.fH l)) (A.subN c (A.fH l))) h nx)
      |_=>false)
     |_=>false)
   |.slice (some ⟨k,o,none⟩) n c,some (.int _ 0) =>
    (match isZero lo,hi with|true,some (.int _ 0)=>K (.slice (some ⟨nx,0,none⟩) 0 0) (bT h nx .zero) (nx+1)|_,_=>false)
   |.slice (some ⟨k,o,none⟩) n c,some (.int _ m) =>
    (match lo,hi with
    |some (.int _ l),some (.int _ u)=>eY (A.andB (A.andB (A.le 0 l) (A.le l u)) (A.andB (A.le u m) (A.andB (A.le 1 m) (A.le m (A.num c))))) (K (.slice (some ⟨nx,0,none⟩) (A.subN (A.fH u) (A.fH l)) (A.subN (A.fH m) (A.fH l))) (aBl h nx k (A.ix o l ei.size) (A.subN (A.fH m) (A.fH l)*ei.size)) (nx+1))
    |none,some (.int _ u)=>eY (A.andB (A.le 0 u) (A.andB (A.le u m) (A.andB (A.le 1 m) (A.le m (A.num c))))) (K (.slice (some ⟨nx,0,none⟩) (A.fH u) (A.fH m)) (aBl h nx k o (A.fH m*ei.size)) (nx+1))
    |_,_=>false)
   |_,_=>false)
 |_=>false
def aLF (h:Heap)(sz:Nat)(x:Value)(G:Nat→List Value→Bool):Bool :=
 match x with
 |.slice none 0 0=>G 0 []
 |.slice (some ⟨k,o,none⟩) m _ =>
  (match look h k with
  |some (.cells _ _ _ cs)=>eY (Nat.ble (o+m*sz) cs.length) (G m ((cs.drop o).take (m*sz)))
  |some .zero=>(match m with|0=>G 0 []|_=>false)
  |_=>false)
 |_=>false
def PG (A:Ar)(T:dD)(h:Heap)(nx:Nat)(st xt:TypeId)(s x:Value)(K:uJ):Bool :=
 match look T st,look T xt with
 |some { kind:=.sl e,.. },some { kind:=.int _,.. } =>
  (match look T e with
  |some ei=>(match s,x,Nat.ble ei.bytes 1000 with
   |.slice none 0 0,.int .i64 i,true=>eY (A.andB (A.lt 0 i) (A.le i 1000000000)) (K (.slice (some ⟨nx,0,none⟩) (A.fH i) (A.fH i)) (bT h nx (.cells true false ei.size (rep (A.fH i) ei.zv.cells.toList))) (nx+1))
   |_,_,_=>false)
  |none=>false)
 |some { kind:=.sl e,.. },some { kind:=.sl _,.. } =>
  (match look T e with
  |none=>false
  |some ei =>
   match Nat.ble ei.bytes 1000 with
   |false=>false
   |true =>
    aLF h ei.size x fun m src =>
     (match s with
     |.slice none 0 0=>wbr (Nat.beq m 0) (fun _=>K (.slice none 0 0) h nx)
      (fun _=>eY (Nat.ble m 1000000000) (K (.slice (some ⟨nx,0,none⟩) m m) (bT h nx (.cells true false ei.size src)) (nx+1)))
     |.slice (some ⟨k,o,none⟩) n c =>
      (match look h k with
      |some .zero=>(match n,c with
       |0,0=>wbr (Nat.beq m 0) (fun _=>K (.slice (some ⟨k,o,none⟩) 0 0) h nx)
        (fun _=>eY (Nat.ble m 1000000000) (K (.slice (some ⟨nx,0,none⟩) m m) (bT h nx (.cells true false ei.size src)) (nx+1)))
       |_,_=>false)
      |some (.cells true _ sz cs) =>
       wbr (Nat.ble (n+m) c)
        (fun _=>eY (Nat.ble (o+(n+m)*ei.size) cs.length) (K (.slice (some ⟨k,o,none⟩) (n+m) c) (y7 h k (.cells true false sz (eJ cs (o+n*ei.size) src))) nx))
        (fun _=>eY (A.andB (A.andB (Nat.ble (n+m) 1000000000) (Nat.ble (o+n*ei.size) cs.length)) (A.andB (Nat.beq (o+c*ei.size) cs.length) (Nat.beq sz ei.size)))
         (K (.slice (some ⟨nx,0,none⟩) (n+m) (n+m)) (bT (rem h k) nx (.cells true false ei.size ((cs.drop o).take (n*ei.size)++src))) (nx+1)))
      |_=>false)
     |_=>false))
 |_,_=>false
def aFk (h:Heap)(nx:Nat)(K:uJ):Bool:=K (.map (some nx)) (bT h nx (.map [])) (nx+1)
def y8 (A:Ar)(T:dD)(h:Heap)(nx:Nat)(t:TypeId)(l c:Value)(K:uJ):Bool :=
 match look T t,l,c with
 |some { kind:=.sl e,.. },.int .i64 i,.int .i64 j =>
  (match look T e with
  |some ei=>eY (A.andB (A.andB (A.le 0 i) (A.le i j)) (A.andB (A.le j 1000000000) (Nat.ble ei.bytes 1000)))
   (K (.slice (some ⟨nx,0,none⟩) (A.fH i) (A.fH j)) (bT h nx (.cells true false ei.size (rep (A.fH j) ei.zv.cells.toList))) (nx+1))
  |none=>false)
 |_,_,_=>false
def FG (A:Ar)(T:dD)(h:Heap)(t:TypeId)(x key:Value)(ok:Bool)(K:Value→Bool):Bool :=
 match look T t,x,key with
 |some { kind:=.mp kt et,.. },.map (some k),.agg cs =>
  (match look T kt,look T et,look h k with
  |some { kind:=.st fs,.. },some ei,some (.map es) =>
   (match jU T cs.toList fs,dP cs.toList,uD A T kt (.agg cs) es with
   |true,true,some r =>
    (match ok,r with
    |true,some v=>K (.tuple #[v,.bool true])
    |true,none=>K (.tuple #[ei.zv,.bool false])
    |false,some v=>K v
    |false,none=>K ei.zv)
   |_,_,_=>false)
  |_,_,_=>false)
 |_,_,_=>false
def yS (A:Ar)(T:dD)(h:Heap)(nx:Nat)(t:TypeId)(x key v:Value)(K:uJ):Bool :=
 match look T t,x,key,(match v with|.agg _=>false|.tuple _=>false|_=>true) with
 |some { kind:=.mp kt _,.. },.map (some k),.agg cs,true =>
  (match look T kt,look h k with
  |some { kind:=.st fs,.. },some (.map es) =>
   (match jU T cs.toList fs,dP cs.toList,uD A T kt (.agg cs) es with
   |true,true,some none=>K undef (y7 h k (.map (es++[(.agg cs,v)]))) nx
   |_,_,_=>false)
  |_,_=>false)
 |_,_,_,_=>false
def VF (T:dD)(h:Heap)(nx:Nat)(t:TypeId)(x:Value)(K:uJ):Bool :=
 match look T t,x with
 |some { kind:=.sl _,.. },.slice none 0 0=>K (.tuple #[]) h nx
 |some { kind:=.sl e,.. },.slice (some ⟨k,o,none⟩) n _ =>
  (match n with
  |0=>K (.tuple #[]) h nx
  |_=>(match look T e,look h k with
   |some ei,some (.cells true _ sz cs)=>eY (Nat.ble (o+n*ei.size) cs.length) (K (.tuple #[]) (y7 h k (.cells true false sz (eJ cs o (rep n ei.zv.cells.toList)))) nx)
   |_,_=>false))
 |_,_=>false
def wop (A:Ar)(T:dD)(C:x8)(Y:x8)(env:List (Nat × Value))(h:Heap)(nx:Nat)(op:Op)(K:uJ):Bool :=
 match op with
 |.store t x y=>sK (dK env x) fun p=>sK (dK env y) fun v=>UA T h nx t p v K
 |.alloc t=>T5 T h nx t K
 |.box _ x=>sK (dK env x) fun v=>aKH h nx v K
 |.buildSlice t n ps=>(match lO env ps.toList with|some l=>vG T h nx t n l K|none=>false)
 |.slice t x lo hi mx=>sK (dK env x) fun v=>(match l9 env lo,l9 env hi,l9 env mx with
  |some l,some u,some m=>O3 A T h nx t v l u m K
  |_,_,_=>false)
 |.makeMap _ none=>aFk h nx K
 |.makeSlice t l c=>sK (dK env l) fun l=>sK (dK env c) fun c=>y8 A T h nx t l c K
 |.lookup t m k ok=>sK (dK env m) fun x=>sK (dK env k) fun y=>FG A T h t x y ok (fun v=>K v h nx)
 |.mapUpdate t m k u=>sK (dK env m) fun x=>sK (dK env k) fun y=>sK (dK env u) fun v=>yS A T h nx t x y v K
 |.call c=>(match c.callee with
  |.builtin .append=>(match c.argTypes.toList,l7 env c.args.toList with|[st,xt],some [s,x]=>PG A T h nx st xt s x K|_,_=>false)
  |.builtin .clear=>(match c.argTypes.toList,l7 env c.args.toList with|[t],some [x]=>VF T h nx t x K|_,_=>false)
  |.builtin _=>yI A T env h op (fun v=>K v h nx)
  |.value f=>sK (dK env f) fun fv=>(match l7 env c.args.toList with
   |some l=>(match fv with
    |.func (.func g) first cap=>(match first.toList,mE cap.toList with
     |[],true=>C g (l++cap.toList) h nx K
     |_,_=>false)
    |.func (.yield q) first _=>(match first.toList with
     |[]=>Y q l h nx K
     |_=>false)
    |_=>false)
   |none=>false)
  |_=>false)
 |_=>yI A T env h op (fun v=>K v h nx)
def DB (A:Ar)(ops:List Oper)(env:List (Nat × Value))(g:Option (Nat × Bool))(Y N:List (Nat × Value)→Bool):Bool :=
 match g with
 |none=>Y env
 |some (j,want)=>match gD ops j with
  |some o=>(match o.dst with
   |some t=>(match look env t with
    |some (.bool b)=>wbr (A.eqB b want) (fun _=>Y (put env t (.bool want))) (fun _=>N (put env t (.bool (!want))))
    |some (.tuple _)=>N env
    |_=>false)
   |none=>false)
  |none=>false
def JF (tn:Nat)(env:List (Nat × Value))(dst:Option Nat)(v:Value)(K:List (Nat × Value)→Bool):Bool :=
 match dst with
 |none=>K env
 |some d=>match Nat.blt d tn with|true=>K (put env d v)|false=>false
def aGq (A:Ar)(T:dD)(C:x8)(Y:x8)(tn:Nat)(ops:List Oper):List Oper→List (Nat × Value)→Heap→Nat→r7→Bool
 |[],env,h,nx,K=>K env h nx
 |o :: r,env,h,nx,K=>DB A ops env o.guard
    (fun env=>wop A T C Y env h nx o.op fun v h' nx'=>JF tn env o.dst v fun env'=>aGq A T C Y tn ops r env' h' nx' K)
    (fun env=>JF tn env o.dst undef fun env'=>aGq A T C Y tn ops r env' h nx K)
def HL (A:Ar)(T:dD)(C:x8)(hJ:Heap)(nx:Nat)(env:List (Nat × Value))(op:Op)(K:Value→Bool):Bool :=
 match op with
 |.load _ _=>yI A T env hJ op K
 |.lookup t m k ok=>sK (dK env m) fun x=>sK (dK env k) fun y=>FG A T hJ t x y ok K
 |.slice t x lo hi mx=>sK (dK env x) fun v=>(match l9 env lo,l9 env hi,l9 env mx with
  |some l,some u,some m=>O3 A T hJ nx t v l u m (fun v _ nx'=>match Nat.beq nx' nx with|true=>K v|false=>false)
  |_,_,_=>false)
 |.call c=>(match c.callee with
  |.builtin _=>yI A T env [] op K
  |.value f=>sK (dK env f) fun fv=>(match l7 env c.args.toList with
   |some l=>(match fv with
    |.func (.func g) first cap=>(match first.toList,mE cap.toList with
     |[],true=>C g (l++cap.toList) (eP hJ) nx (fun v _ _=>match gT v with|true=>K v|false=>false)
     |_,_=>false)
    |_=>false)
   |none=>false)
  |_=>false)
 |_=>yI A T env [] op K
def R5 (A:Ar)(T:dD)(C:x8)(tn:Nat)(ops:List Oper)(hJ:Heap)(nx:Nat):List Nat→List (Nat × Value)→(List (Nat × Value)→Bool)→Bool
 |[],env,K=>K env
 |i::r,env,K=>match gD ops i with
  |none=>false
  |some o=>DB A ops env o.guard
   (fun env=>HL A T C hJ nx env o.op fun v=>JF tn env o.dst v fun env=>R5 A T C tn ops hJ nx r env K)
   (fun env=>JF tn env o.dst undef fun env=>R5 A T C tn ops hJ nx r env K)
def FW (T:dD)(tn:Nat)(ops:List Oper):List Nat→List (Nat × Value)→Heap→Nat→r7→Bool
 |[],env,h,nx,K=>K env h nx
 |i::r,env,h,nx,K=>match gD ops i with
  |some { op:=.alloc t,dst:=some d,.. }=>(match look T t with
   |some ti=>JF tn env (some d) (.pointer (some ⟨nx,0,none⟩)) fun env=>FW T tn ops r env (bT h nx (.cells true false 1 ti.zv.cells.toList)) (nx+1) K
   |none=>false)
  |_=>false
def SV (A:Ar)(T:dD)(C:x8)(Y:x8)(tn:Nat)(ops:List Oper)(hJ:Heap):List (Nat × Bool)→List (Nat × Value)→Heap→Nat→r7→Bool
 |[],env,h,nx,K=>K env h nx
 |(i,chk)::r,env,h,nx,K=>match gD ops i with
  |none=>false
  |some o=>DB A ops env o.guard
   (fun env=>eY (zZ env hJ chk o.op) (wop A T C Y env h nx o.op fun v h' nx'=>JF tn env o.dst v fun env'=>SV A T C Y tn ops hJ r env' h' nx' K))
   (fun env=>JF tn env o.dst undef fun env'=>SV A T C Y tn ops hJ r env' h nx K)
def ZF (A:Ar)(T:dD)(C:x8)(Y:x8)(tn:Nat)(ops:List Oper)(p:fS)(env:List (Nat × Value))(h:Heap)(nx:Nat)(K:r7):Bool :=
 R5 A T C tn ops (KB T ops env p h) nx p.head env fun env1 =>
  FW T tn ops p.allocs env1 h nx fun env2 h2 nx2 =>
   SV A T C Y tn ops (KB T ops env p h) p.tail env2 h2 nx2 K
def aDi (A:Ar)(T:dD)(C:x8)(Y:x8)(tn:Nat)(ops:List Oper)(o:Oper)(e:List (Nat × Value))(h:Heap)(nx:Nat)(K:r7):Bool :=
 DB A ops e o.guard (fun e=>wop A T C Y e h nx o.op fun v h' nx'=>JF tn e o.dst v fun e'=>K e' h' nx') (fun e=>JF tn e o.dst undef fun e'=>K e' h nx)
def wall (F:Nat→Bool):List Nat→Bool
 |[]=>true
 |i::r=>F i&&wall F r
def aFX (A:Ar)(T:dD)(C:x8)(Y:x8)(tn:Nat)(ops:List Oper)(K:r7):Nat→List Nat→r7
 |0,_=>K
 |n+1,done=>fun e h nx=>match fL ops done ops 0 with
  |[]=>K e h nx
  |i::r=>wall (fun j=>match gD ops j with|some o=>aDi A T C Y tn ops o e h nx (aFX A T C Y tn ops K n (j::done))|none=>false) (i::r)
def MV (A:Ar)(T:dD)(C:x8)(Y:x8)(tn:Nat)(ops:List Oper)(K:r7):Nat→List Nat→r7
 |0,_=>K
 |n+1,done=>fun e h nx=>match fL ops done ops 0 with
  |[]=>K e h nx
  |j::_=>(match gD ops j with|some o=>aDi A T C Y tn ops o e h nx (MV A T C Y tn ops K n (j::done))|none=>false)
def aD2 (A:Ar)(T:dD)(C:x8)(Y:x8)(tn:Nat)(ops:Array Oper)(e:List (Nat × Value))(h:Heap)(nx:Nat)(K:r7):Bool :=
 MV A T C Y tn ops.toList (fun e0 h0 n0=>JL (UM e0 []) fun e0=>JL (X3 nx (aCO nx e0 e0 h0 h0) h0) fun h0 =>
  aFX A T C Y tn ops.toList (fun e1 h1 _=>aHW nx (aCO nx e0 e1 h0 h1) e0 h0 n0 e1 h1) ops.size [] e h nx&&K e0 h0 n0) ops.size [] e h nx
def aCm (F:r7→r7):Nat→r7
 |0,_,_,_=>false
 |n+1,e,h,nx=>F (aCm F n) e h nx
def rY (A:Ar)(T:dD)(C:x8)(Y:x8)(tn:Nat)(PL:Nat→Option fS)(M:Nat)(R:VRB):Code→r7→(Nat→r7)→r7→r7
 |.skip,kn,_,_=>kn
 |.region id ops draw,kn,_,_=>fun e h nx=>match draw with
  |false=>aGq A T C Y tn ops.toList ops.toList e h nx kn
  |true=>(match PL id with|some p=>ZF A T C Y tn ops.toList p e h nx kn|none=>aD2 A T C Y tn ops e h nx kn)
 |.seq a b,kn,kx,kr=>rY A T C Y tn PL M R a (rY A T C Y tn PL M R b kn kx kr) kx kr
 |.cond c t f,kn,kx,kr=>fun e h nx=>match dK e c with
  |some (.bool b)=>wbr b (fun _=>rY A T C Y tn PL M R t kn kx kr e h nx) (fun _=>rY A T C Y tn PL M R f kn kx kr e h nx)
  |_=>false
 |.block id b,kn,kx,kr=>rY A T C Y tn PL M R b kn (fun j=>match Nat.beq j id with|true=>kn|false=>kx j) kr
 |.loop b,_,kx,kr=>aCm (fun k=>rY A T C Y tn PL M R b k kx kr) M
 |.rangeFunc g ps as bd,kn,kx,kr=>R g ps as bd kn kx kr
 |.exit id,_,kx,_=>kx id
 |.ret,_,_,kr=>kr
 |.label _,kn,_,_=>kn
 |.scope b,kn,kx,kr=>rY A T C Y tn PL M R b kn kx kr
 |_,_,_,_=>fun _ _ _=>false
def A0 (T:dD)(e:List (Nat × Value))(h:Heap):List ResultVar→(List Value→Bool)→Bool
 |[],K=>K []
 |.tmp t::r,K=>sK (look e t) fun v=>A0 T e h r fun l=>K (v::l)
 |.cell a t::r,K=>sK (look e a) fun p=>XA T h t p fun v=>A0 T e h r fun l=>K (v::l)
def aOa (T:dD)(fn:Func)(K:uJ):r7:=fun e h nx=>A0 T e h fn.results.toList fun l =>
 match l with
 |[v]=>K v h nx
 |l=>match MM l with|true=>K (.tuple l.toArray) h nx|false=>false
def aEm (C:x8)(f tn:Nat):VRB:=fun g ps as bd kn kx kr e h nx =>
 sK (dK e g) fun gv=>match gv with
  |.func (.func q) first cap=>(match first.toList,mE cap.toList with
   |[],true=>C q (.func (.yield (nx+1)) #[] #[]::cap.toList)
    (bT (bT h nx .deferred) (nx+1) (.loop { state:=.ready,pending:=none,fn:=f,env:=e,tn:=tn,params:=ps.toList,assign:=as,body:=bd,defers:=nx })) (nx+2) fun _ h' nx' =>
    (match look h' (nx+1),look h' nx with
    |some (.loop l),some .deferred=>(match l.state,l.pending with
     |.busy,_=>false
     |_,none=>kn e (iT h' nx) nx'
     |_,some (.exit id)=>kx id e (iT h' nx) nx'
     |_,some .ret=>kr e (iT h' nx) nx'
     |_,_=>false)
    |_,_=>false)
   |_,_=>false)
  |_=>false
def RL:VRB:=fun _ _ _ _ _ _ _ _ _ _=>false
def aDM (q:Nat)(K:uJ)(j:Option Code):r7:=fun _ h nx =>
 match look h q with
 |some (.loop l)=>K (.bool j.isNone) (y7 h q (.loop { l with state:=if j.isNone then .ready else .done,pending:=j })) nx
 |_=>false
def UR (A:Ar)(T:dD)(C:x8)(Y:x8)(PL:Nat→Nat→Option fS)(M:Nat):x8:=fun q args h nx K =>
 match look h q with
 |some (.loop l)=>(match uM l.tn l.env l.params args,dC (PL l.fn) l.assign&&dC (PL l.fn) l.body with
  |some e0,true=>rY A T C Y l.tn (PL l.fn) M RL l.assign (fun e1 h1 nx1 =>
   match look h1 q with
   |some (.loop l1)=>(match l1.state with
    |.ready=>rY A T C Y l.tn (PL l.fn) M RL l.body (aDM q K none) (fun id=>aDM q K (some (.exit id))) (aDM q K (some .ret)) e1 (y7 h1 q (.loop { l1 with state:=.busy })) nx1
    |_=>false)
   |_=>false) (fun _ _ _ _=>false) (fun _ _ _=>false) e0 h nx
  |_,_=>false)
 |_=>false
def aDE (c:EP)(XB:Nat→Option (List Value→Heap→Nat→uJ→Bool))(M:Nat)(C:x8)(Y:x8):x8:=fun f args h nx K =>
 match c.X f with
 |some _=>(match XB f with|some xb=>xb args h nx K|none=>false)
 |none=>match c.FT f with
  |none=>false
  |some fn=>(match fn.body,Nat.ble args.length fn.ntmps with
   |some b,true =>
    let fin:r7:=aOa c.T fn fun v h' nx'=>K v h' nx'
    rY c.A c.T C Y fn.ntmps (c.PL f) M (aEm C f fn.ntmps) b fin (fun _ _ _ _=>false) fin (sP 0 args) h nx
   |_,_=>false)
def aNf (h:Heap)(nx:Nat)(K:uJ):uJ:=fun v h' nx'=>match gT v with
 |true=>K v h nx
 |false=>K v (app (qM nx h' h') h) nx'
def aJQ (PR:Nat→Bool)(C:x8):x8:=fun f args h nx K=>match PR f with
 |true=>C f args (eP h) nx (aNf h nx K)
 |false=>C f args h nx K
def EE (c:EP)(XB:Nat→Option (List Value→Heap→Nat→uJ→Bool)):Nat→Bool→x8
 |0,_=>fun _ _ _ _ _=>false
 |d+1,false=>aJQ c.PR (aDE c XB c.M (EE c XB d false) (EE c XB d true))
 |d+1,true=>UR c.A c.T (EE c XB d false) (EE c XB d true) c.PL c.M
section
variable {A:Ar}{T:dD}{K:Value→Bool}{K':Value→Prop}
theorem bK {x:Option Value}(hK:∀ v,K v=true→K' v)(hl:sK x K=true):on x K':=by
 cases x with
 |none=>cases hl
 |some v=>exact hK v hl
theorem nS {b:Bool}{X Y:Unit→Bool}{X' Y':Unit→Prop}(h1:X ()=true→X' ())(h2:Y ()=true→Y' ())(hl:wbr b X Y=true):br b X' Y':=by
 cases b with
 |true=>exact h1 hl
 |false=>exact h2 hl
theorem bD {b X:Bool}{X':Prop}(h:X=true→X')(hl:eY b X=true):dQ b X':=by
 cases b with
 |true=>exact h hl
 |false=>cases hl
theorem RK {h:Heap}{t:TypeId}{x:Value}(hK:∀ v,K v=true→K' v)(hl:XA T h t x K=true):wF T h t x K':=by
 unfold XA at hl;unfold wF
 repeat' (split at hl)
 all_goals first|(cases hl;done)|(simp_all;done)
theorem KF {t:TypeId}{x:Value}{f:Nat}(hK:∀ v,K v=true→K' v)(hl:zD T t x f K=true):jK T t x f K':=by
 unfold zD at hl;unfold jK
 repeat' (split at hl)
 all_goals first|(cases hl;done)|(simp_all;done)
theorem KP {t:TypeId}{x ix:Value}(hK:∀ v,K v=true→K' v)(hl:yN A T t x ix K=true):jJ A T t x ix K':=by
 unfold yN at hl;unfold jJ
 repeat' (split at hl)
 all_goals first|(cases hl;done)|(simp_all;exact bD (hK _) hl;done)
theorem QI {t:TypeId}{cs:List Value}{o:Nat}(hK:∀ v,K v=true→K' v)(hl:ZR T t cs o K=true):EF T t cs o K':=by
 unfold ZR at hl;unfold EF
 repeat' (split at hl)
 all_goals first|(cases hl;done)|(simp_all;done)
theorem aBW {t:TypeId}{x:Value}{f:Nat}(hK:∀ v,K v=true→K' v)(hl:WR T t x f K=true):vB T t x f K':=by
 unfold WR at hl;unfold vB
 repeat' (split at hl)
 all_goals first|(cases hl;done)|(simp_all;exact QI hK hl;done)
theorem aBu {t:TypeId}{x ix:Value}(hK:∀ v,K v=true→K' v)(hl:WG A T t x ix K=true):vF A T t x ix K':=by
 unfold WG at hl;unfold vF
 repeat' (split at hl)
 all_goals first|(cases hl;done)|(simp_all;exact bD (QI hK) hl;done)|(simp_all;done)
theorem aGe {op:BinOp}{k:IntKind}{a b:Int}(hK:∀ v,K v=true→K' v)(hl:aOw A op k a b K=true):aAZ A op k a b K':=by
 cases op <;> first|(cases hl;done)|exact hK _ hl|exact bD (hK _) hl
theorem aGj {op:BinOp}{t:TypeId}{x y:Value}(hK:∀ v,K v=true→K' v)(hl:aJL A T op t x y K=true):WE A T op t x y K':=by
 unfold aJL at hl;unfold WE
 repeat' (split at hl)
 all_goals first|(cases hl;done)|(simp_all;done)|(simp_all;exact aGe hK hl;done)|(simp_all;exact bD (hK _) hl;done)
theorem aIk {op:BinOp}{h:Heap}{t:TypeId}{x:Value}(hK:∀ v,K v=true→K' v)(hl:aLZ T h op t x K=true):WI T h op t x K':=by
 unfold aLZ at hl;unfold WI
 repeat' (split at hl)
 all_goals first|(cases hl;done)|(simp_all;done)
theorem aK0 {op:UnOp}{x:Value}(hK:∀ v,K v=true→K' v)(hl:wun A op x K=true):vun A op x K':=by
 unfold wun at hl;unfold vun
 repeat' (split at hl)
 all_goals first|(cases hl;done)|(simp_all;done)|(simp_all;exact bD (hK _) hl;done)
theorem LC {t:TypeId}{ps:List (Nat × Value)}(hK:∀ v,K v=true→K' v)(hl:VG T t ps K=true):zL T t ps K':=by
 unfold VG at hl;unfold zL;cases ht:look T t with
 |none=>simp only [ht] at hl;cases hl
 |some ti =>
  simp only [ht] at hl ⊢;cases hk:ti.kind <;> simp only [hk] at hl ⊢ <;> cases hp:lR ps <;> (try simp only [hp] at hl ⊢)
  all_goals first
   |(simp at hl;done)
   |(split at hl <;> first|(cases hl;done)|(split at hl <;> first|(cases hl;done)|(simp only [*];first|done|exact hK _ hl)))
theorem EC {b:Builtin}{ts:Array TypeId}{vs:List Value}(hK:∀ v,K v=true→K' v)(hl:JQ A T b ts vs K=true):pD A T b ts vs K':=by
 unfold JQ at hl;unfold pD
 repeat' (split at hl)
 all_goals first|(cases hl;done)|(simp_all;done)|(simp_all;exact bK hK hl;done)
theorem o7 {env:List (Nat × Value)}{h:Heap}{op:Op}(hK:∀ v,K v=true→K' v)(hl:yI A T env h op K=true):j6 A T env h op K':=by
 cases op with
 |move x=>exact bK hK hl
 |assign x=>exact bK hK hl
 |pick c a b =>
  refine bK (fun u hu=>?_) hl;split at hu
  ·first|exact nS (bK hK) (bK hK) hu|(simp only [*];exact nS (bK hK) (bK hK) hu)|(simp only [*];done)
  ·cases hu
 |nilCheck x =>
  first|refine bK (fun u hu=>?_) hl|(simp only [*];refine bK (fun u hu=>?_) hl)|(simp only [*];done)
  split at hu
  ·first|exact hK _ hu|(simp only [*];exact hK _ hu)|(simp only [*];done)
  ·first|exact hK _ hu|(simp only [*];exact hK _ hu)|(simp only [*];done)
  ·first|exact hK _ hu|(simp only [*];exact hK _ hu)|(simp only [*];done)
  ·cases hu
 |load t x=>exact bK (fun u=>RK hK) hl
 |fieldAddr s x f=>exact bK (fun u=>KF hK) hl
 |field s x f=>exact bK (fun u=>aBW hK) hl
 |indexAddr t x i=>exact bK (fun u=>bK fun j=>KP hK) hl
 |index t x i=>exact bK (fun u=>bK fun j=>aBu hK) hl
 |binOp op t x y z =>
  refine bK (fun u=>bK fun v hl=>?_) hl;split at hl
  ·exact aIk hK hl
  rename_i hne;split
  ·exact (hne _ _ rfl).elim
  exact aGj hK hl
 |unOp op t x=>exact bK (fun u=>aK0 hK) hl
 |convert s d x =>
  first|refine bK (fun u hu=>?_) hl|(simp only [*];refine bK (fun u hu=>?_) hl)|(simp only [*];done)
  split at hu
  ·first|exact bD (hK _) hu|(simp only [*];exact bD (hK _) hu)|(simp only [*];done)
  ·cases hu
 |makeFunc fn first cap =>
  simp only [yI] at hl;simp only [j6]
  repeat' (split at hl)
  all_goals first|(cases hl;done)|(simp_all;done)
 |extract x i =>
  first|refine bK (fun u hu=>?_) hl|(simp only [*];refine bK (fun u hu=>?_) hl)|(simp only [*];done)
  split at hu
  ·first|exact bK hK hu|(simp only [*];exact bK hK hu)|(simp only [*];done)
  ·cases hu
 |build t ps =>
  simp only [yI] at hl;simp only [j6];split at hl
  ·first|exact LC hK hl|(simp only [*];exact LC hK hl)|(simp only [*];done)
  ·cases hl
 |call c =>
  simp only [yI] at hl;simp only [j6];split at hl
  ·split at hl
   ·first|exact EC hK hl|(simp only [*];exact EC hK hl)|(simp only [*];done)
   ·cases hl
  ·cases hl
 |_=>cases hl
theorem GC {h:Heap}{t:TypeId}{x key:Value}{ok:Bool}(hK:∀ v,K v=true→K' v)(hl:FG A T h t x key ok K=true):qI A T h t x key ok K':=by
 unfold FG at hl;unfold qI
 repeat' (split at hl)
 all_goals first|(cases hl;done)|(simp_all;done)
end
section
variable {A:Ar}{T:dD}{K:uJ}{K':KE}{h:Heap}{nx:Nat}
theorem aBA {t:TypeId}{x v:Value}(hK:∀ v h nx,K v h nx=true→K' v h nx)(hl:UA T h nx t x v K=true):pK T h nx t x v K':=by
 unfold UA at hl;unfold pK;split at hl
 case h_2=>cases hl
 split at hl
 case h_2=>cases hl
 cases v <;> (split at hl <;> first|(cases hl;done)|(simp only [*];first|done|exact bD (hK _ _ _) hl)|(rename_i hq;cases hq))
theorem aHh {v:Value}(hK:∀ v h nx,K v h nx=true→K' v h nx)(hl:aKH h nx v K=true):U5 h nx v K':=by
 unfold aKH at hl;unfold U5;split at hl
 ·cases hl
 first|exact hK _ _ _ hl|(simp only [*];exact hK _ _ _ hl)|(simp only [*];done)
theorem aBY {t:TypeId}(hK:∀ v h nx,K v h nx=true→K' v h nx)(hl:T5 T h nx t K=true):yZ T h nx t K':=by
 unfold T5 at hl;unfold yZ;split at hl
 ·first|exact hK _ _ _ hl|(simp only [*];exact hK _ _ _ hl)|(simp only [*];done)
 ·cases hl
theorem uU {t:TypeId}{n:Nat}{ps:List (Nat × Value)}(hK:∀ v h nx,K v h nx=true→K' v h nx)(hl:vG T h nx t n ps K=true):eZ T h nx t n ps K':=by
 unfold vG at hl;unfold eZ;split at hl
 case h_2=>cases hl
 split at hl
 case h_2=>cases hl
 split at hl
 case h_2=>cases hl
 split at hl
 case h_2=>cases hl
 first|exact hK _ _ _ hl|(simp only [*];exact hK _ _ _ hl)|(simp only [*];done)
theorem aD6 {n c:Nat}{hi:Option Value}{G:Nat→Bool}{G':Nat→Prop}(hG:∀ n,G n=true→G' n)(hl:whi A n c hi G=true):vhi A n c hi G':=by
 unfold whi at hl;unfold vhi;split at hl
 ·first|exact hG _ hl|(simp only [*];exact hG _ hl)|(simp only [*];done)
 ·first|exact bD (hG _) hl|(simp only [*];exact bD (hG _) hl)|(simp only [*];done)
 ·cases hl
theorem P0 {b X:Bool}{X':Unit→Prop}{Y':Unit→Prop}(h:X=true→X' ())(hl:eY b X=true):br b X' Y':=by
 cases b with
 |true=>exact h hl
 |false=>cases hl
theorem xE {t:TypeId}{x:Value}{lo hi mx:Option Value}(hK:∀ v h nx,K v h nx=true→K' v h nx)(hl:O3 A T h nx t x lo hi mx K=true):uY A T h nx t x lo hi mx K':=by
 unfold O3 at hl;unfold uY;split at hl
 case h_2=>cases hl
 split at hl
 case h_1=>cases hl
 split at hl
 ·split at hl
  ·first|exact hK _ _ _ hl|(simp only [*];exact hK _ _ _ hl)|(simp only [*];done)
  ·cases hl
 ·first|refine aD6 (fun hN hl=>?_) hl|(simp only [*];refine aD6 (fun hN hl=>?_) hl)|(simp only [*];done)
  split at hl
  ·first|exact hK _ _ _ hl|(simp only [*];exact hK _ _ _ hl)|(simp only [*];done)
  ·first|refine bD (fun hl=>?_) hl|(simp only [*];refine bD (fun hl=>?_) hl)|(simp only [*];done)
   split at hl
   ·first|exact P0 (hK _ _ _) hl|(simp only [*];exact P0 (hK _ _ _) hl)|(simp only [*];done)
   ·cases hl
  ·cases hl
 ·split at hl
  ·first|exact hK _ _ _ hl|(simp only [*];exact hK _ _ _ hl)|(simp only [*];done)
  ·cases hl
 ·split at hl
  ·first|exact bD (hK _ _ _) hl|(simp only [*];exact bD (hK _ _ _) hl)
  ·first|exact bD (hK _ _ _) hl|(simp only [*];exact bD (hK _ _ _) hl)
  ·cases hl
 ·cases hl
theorem Y5 {sz:Nat}{x:Value}{G:Nat→List Value→Bool}{G':Nat→List Value→Prop}(hG:∀ n l,G n l=true→G' n l)(hl:aLF h sz x G=true):J4 h sz x G':=by
 unfold aLF at hl;unfold J4;split at hl
 ·first|exact hG _ _ hl|(simp only [*];exact hG _ _ hl)|(simp only [*];done)
 ·split at hl
  ·first|exact bD (hG _ _) hl|(simp only [*];exact bD (hG _ _) hl)|(simp only [*];done)
  ·split at hl
   ·first|exact hG _ _ hl|(simp only [*];exact hG _ _ hl)|(simp only [*];done)
   ·cases hl
  ·cases hl
 ·cases hl
theorem KX {t:TypeId}{l c:Value}(hK:∀ v h nx,K v h nx=true→K' v h nx)(hl:y8 A T h nx t l c K=true):kY A T h nx t l c K':=by
 unfold y8 at hl;unfold kY;split at hl
 case h_2=>cases hl
 split at hl
 case h_2=>cases hl
 first|exact bD (hK _ _ _) hl|(simp only [*];exact bD (hK _ _ _) hl)
theorem JB {st xt:TypeId}{s x:Value}(hK:∀ v h nx,K v h nx=true→K' v h nx)(hl:PG A T h nx st xt s x K=true):mN A T h nx st xt s x K':=by
 unfold PG at hl;unfold mN;split at hl
 case h_3=>cases hl
 case h_1 =>
  split at hl
  case h_2=>cases hl
  split at hl
  case h_2=>cases hl
  first|exact bD (hK _ _ _) hl|(simp only [*];exact bD (hK _ _ _) hl)
 split at hl
 case h_1=>cases hl
 split at hl
 case h_1=>cases hl
 first|refine Y5 (fun m src hl=>?_) hl|(simp only [*];refine Y5 (fun m src hl=>?_) hl)|(simp only [*];done)
 split at hl
 ·first|exact nS (hK _ _ _) (bD (hK _ _ _)) hl|(simp only [*];exact nS (hK _ _ _) (bD (hK _ _ _)) hl)|(simp only [*];done)
 ·split at hl
  ·split at hl
   ·first|exact nS (hK _ _ _) (bD (hK _ _ _)) hl|(simp only [*];exact nS (hK _ _ _) (bD (hK _ _ _)) hl)|(simp only [*];done)
   ·cases hl
  ·first|exact nS (bD (hK _ _ _)) (bD (hK _ _ _)) hl|(simp only [*];exact nS (bD (hK _ _ _)) (bD (hK _ _ _)) hl)|(simp only [*];done)
  ·cases hl
 ·cases hl
theorem J5 {t:TypeId}{x key v:Value}(hK:∀ v h nx,K v h nx=true→K' v h nx)(hl:yS A T h nx t x key v K=true):kW A T h nx t x key v K':=by
 unfold yS at hl;unfold kW;cases v <;> (split at hl <;> first|(cases hl;done)|(rename_i hq;cases hq;done)|(split at hl <;> first|(cases hl;done)|(split at hl <;> first|(cases hl;done)|(simp only [*];first|done|exact hK _ _ _ hl))))
theorem LI {t:TypeId}{x:Value}(hK:∀ v h nx,K v h nx=true→K' v h nx)(hl:VF T h nx t x K=true):zC T h nx t x K':=by
 unfold VF at hl;unfold zC;split at hl
 ·first|exact hK _ _ _ hl|(simp only [*];exact hK _ _ _ hl)|(simp only [*];done)
 ·split at hl
  ·first|exact hK _ _ _ hl|(simp only [*];exact hK _ _ _ hl)|(simp only [*];done)
  split at hl
  ·first|exact bD (hK _ _ _) hl|(simp only [*];exact bD (hK _ _ _) hl)|(simp only [*];done)
  ·cases hl
 ·cases hl
def Tw (C:x8)(C':VC):Prop:=∀ f args h nx (K:uJ) (K':KE),(∀ v h nx,K v h nx=true→K' v h nx)→C f args h nx K=true→C' f args h nx K'
variable {C Y:x8}{C' Y':VC}
theorem OU (hC:Tw C C')(hY:Tw Y Y'){env:List (Nat × Value)}{op:Op}(hK:∀ v h nx,K v h nx=true→K' v h nx)(hl:wop A T C Y env h nx op K=true):rL A T C' Y' env h nx op K':=by
 cases op with
 |store t x y=>exact bK (fun p=>bK fun v=>aBA hK) hl
 |alloc t=>exact aBY hK hl
 |box t x=>exact bK (fun p=>aHh hK) hl
 |buildSlice t n ps =>
  simp only [wop] at hl;simp only [rL];split at hl
  ·first|exact uU hK hl|(simp only [*];exact uU hK hl)|(simp only [*];done)
  ·cases hl
 |slice t x lo hi mx =>
  first|refine bK (fun v hl=>?_) hl|(simp only [*];refine bK (fun v hl=>?_) hl)|(simp only [*];done)
  split at hl
  ·first|exact xE hK hl|(simp only [*];exact xE hK hl)|(simp only [*];done)
  ·cases hl
 |makeSlice t l c=>exact bK (fun p=>bK fun v=>KX hK) hl
 |makeMap t x =>
  cases x with
  |none=>exact hK _ _ _ hl
  |some x=>simp [wop,yI] at hl
 |lookup t m k ok=>exact bK (fun x=>bK fun y=>GC fun v=>hK v h nx) hl
 |mapUpdate t m k u=>exact bK (fun x=>bK fun y=>bK fun v=>J5 hK) hl
 |call c =>
  simp only [wop] at hl;simp only [rL];split at hl
  ·split at hl
   ·first|exact JB hK hl|(simp only [*];exact JB hK hl)|(simp only [*];done)
   ·cases hl
  ·split at hl
   ·first|exact LI hK hl|(simp only [*];exact LI hK hl)|(simp only [*];done)
   ·cases hl
  ·first|exact o7 (K':=fun v=>K' v h nx) (fun v=>hK v h nx) hl|(simp only [*];exact o7 (K':=fun v=>K' v h nx) (fun v=>hK v h nx) hl)|(simp only [*];done)
  ·first|refine bK (fun fv hl=>?_) hl|(simp only [*];refine bK (fun fv hl=>?_) hl)|(simp only [*];done)
   split at hl
   case h_2=>cases hl
   split at hl
   ·split at hl
    ·first|exact hC _ _ _ _ _ _ hK hl|(simp only [*];exact hC _ _ _ _ _ _ hK hl)|(simp only [*];done)
    ·cases hl
   ·split at hl
    ·first|exact hY _ _ _ _ _ _ hK hl|(simp only [*];exact hY _ _ _ _ _ _ hK hl)|(simp only [*];done)
    ·cases hl
   ·cases hl
  ·cases hl
 |_=>simp only [wop] at hl;exact o7 (K':=fun v=>K' v h nx) (fun v=>hK v h nx) hl
theorem oP {ops:List Oper}{env:List (Nat × Value)}{g:Option (Nat × Bool)}{F G:List (Nat × Value)→Bool}{F' G':List (Nat × Value)→Prop}(h1:∀ e,F e=true→F' e)(h2:∀ e,G e=true→G' e)(hl:DB A ops env g F G=true):gM A ops env g F' G':=by
 unfold DB at hl;unfold gM;split at hl
 ·first|exact h1 _ hl|(simp only [*];exact h1 _ hl)|(simp only [*];done)
 split at hl
 ·split at hl
  ·split at hl
   ·first|exact nS (h1 _) (h2 _) hl|(simp only [*];exact nS (h1 _) (h2 _) hl)|(simp only [*];done)
   ·first|exact h2 _ hl|(simp only [*];exact h2 _ hl)|(simp only [*];done)
   ·cases hl
  ·cases hl
 ·cases hl
theorem jB {tn:Nat}{env:List (Nat × Value)}{dst:Option Nat}{v:Value}{F:List (Nat × Value)→Bool}{F':List (Nat × Value)→Prop}(h1:∀ e,F e=true→F' e)(hl:JF tn env dst v F=true):fB tn env dst v F':=by
 unfold JF at hl;unfold fB;split at hl
 ·first|exact h1 _ hl|(simp only [*];exact h1 _ hl)|(simp only [*];done)
 split at hl
 ·first|exact h1 _ hl|(simp only [*];exact h1 _ hl)|(simp only [*];done)
 ·cases hl
theorem M0 (hC:Tw C C')(hY:Tw Y Y'){tn:Nat}{ops:List Oper}{F:r7}{F':KS}(hF:∀ e h nx,F e h nx=true→F' e h nx):∀ (l:List Oper) env h nx,aGq A T C Y tn ops l env h nx F=true→z7 A T C' Y' tn ops l env h nx F'
 |[],_,_,_,hl=>hF _ _ _ hl
 |o::r,env,h,nx,hl=>oP (fun e=>OU hC hY fun v h' nx'=>jB fun e'=>M0 hC hY hF r e' h' nx') (fun e=>jB fun e'=>M0 hC hY hF r e' h nx) hl
theorem LF (hC:Tw C C'){env:List (Nat × Value)}{op:Op}{K:Value→Bool}{K':Value→Nat→Prop}(hK:∀ v,K v=true→K' v nx)(hl:HL A T C h nx env op K=true):jL A T C' h nx env op K':=by
 cases op with
 |load t x=>simp only [HL] at hl;exact o7 hK hl
 |lookup t m k ok=>exact bK (fun x=>bK fun y=>GC hK) hl
 |slice t x lo hi mx =>
  refine bK (fun v hl=>?_) hl;split at hl
  ·first|refine xE (fun v h' nx' hl=>?_) hl|(simp only [*];refine xE (fun v h' nx' hl=>?_) hl)|(simp only [*];done)
   split at hl
   ·rename_i hb;rw [beq_true hb];exact hK _ hl
   ·cases hl
  ·cases hl
 |call c =>
  simp only [HL] at hl;simp only [jL];split at hl
  ·first|exact o7 hK hl|(simp only [*];exact o7 hK hl)|(simp only [*];done)
  ·first|refine bK (fun fv hl=>?_) hl|(simp only [*];refine bK (fun fv hl=>?_) hl)|(simp only [*];done)
   split at hl
   case h_2=>cases hl
   split at hl
   ·split at hl
    ·first|refine hC _ _ _ _ _ _ (fun v h' nx' hl=>?_) hl|(simp only [*];refine hC _ _ _ _ _ _ (fun v h' nx' hl=>?_) hl)|(simp only [*];done)
     split at hl
     ·rename_i hb;simp only [hb];exact hK _ hl
     ·cases hl
    ·cases hl
   ·cases hl
  ·cases hl
 |_=>simp only [HL] at hl;exact o7 hK hl
theorem vU (hC:Tw C C'){tn:Nat}{ops:List Oper}{F:List (Nat × Value)→Bool}{F':List (Nat × Value)→Nat→Prop}(hF:∀ e,F e=true→F' e nx):∀ (l:List Nat) env,R5 A T C tn ops h nx l env F=true→qJ A T C' tn ops h l env nx F'
 |[],_,hl=>hF _ hl
 |i::r,env,hl=>by
  simp only [R5] at hl;simp only [yV];split at hl
  ·cases hl
  first|exact oP (fun e=>LF hC fun v=>jB fun e'=>vU hC hF r e') (fun e=>jB fun e'=>vU hC hF r e') hl|(simp only [*];exact oP (fun e=>LF hC fun v=>jB fun e'=>vU hC hF r e') (fun e=>jB fun e'=>vU hC hF r e') hl)|(simp only [*];done)
theorem y9 {tn:Nat}{ops:List Oper}{F:r7}{F':KS}(hF:∀ e h nx,F e h nx=true→F' e h nx):∀ (l:List Nat) env h nx,FW T tn ops l env h nx F=true→mO T tn ops l env h nx F'
 |[],_,_,_,hl=>hF _ _ _ hl
 |i::r,env,h,nx,hl=>by
  simp only [FW] at hl;simp only [oI];split at hl
  ·split at hl
   ·first|exact jB (fun e'=>y9 hF r e' _ _) hl|(simp only [*];exact jB (fun e'=>y9 hF r e' _ _) hl)|(simp only [*];done)
   ·cases hl
  ·cases hl
theorem uL (hC:Tw C C')(hY:Tw Y Y'){tn:Nat}{ops:List Oper}{hJ:Heap}{F:r7}{F':KS}(hF:∀ e h nx,F e h nx=true→F' e h nx):∀ (l:List (Nat × Bool)) env h nx,SV A T C Y tn ops hJ l env h nx F=true→lC A T C' Y' tn ops hJ l env h nx F'
 |[],_,_,_,hl=>hF _ _ _ hl
 |(i,chk)::r,env,h,nx,hl=>by
  simp only [SV] at hl;simp only [zJ];split at hl
  ·cases hl
  first|exact oP (fun e=>bD (OU hC hY fun v h' nx'=>jB fun e'=>uL hC hY hF r e' h' nx')) (fun e=>jB fun e'=>uL hC hY hF r e' h nx) hl|(simp only [*];exact oP (fun e=>bD (OU hC hY fun v h' nx'=>jB fun e'=>uL hC hY hF r e' h' nx')) (fun e=>jB fun e'=>uL hC hY hF r e' h nx) hl)|(simp only [*];done)
theorem G8 (hC:Tw C C')(hY:Tw Y Y'){tn:Nat}{ops:List Oper}{p:fS}{env:List (Nat × Value)}{F:r7}{F':KS}(hF:∀ e h nx,F e h nx=true→F' e h nx)(hl:ZF A T C Y tn ops p env h nx F=true):qD A T C' Y' tn ops p env h nx F' :=
 vU hC (fun e=>y9 (fun e h nx=>uL hC hY hF p.tail e h nx) p.allocs e h nx) p.head env hl
theorem S4 (hC:Tw C C')(hY:Tw Y Y'){tn:Nat}{ops:List Oper}{o:Oper}{e:List (Nat × Value)}{h:Heap}{nx:Nat}{F:r7}{F':KS}(hF:∀ e h nx,F e h nx=true→F' e h nx)(hl:aDi A T C Y tn ops o e h nx F=true):rM A T C' Y' tn ops o e h nx F' :=
 oP (fun e=>OU hC hY fun v h' nx'=>jB fun e'=>hF e' h' nx') (fun e=>jB fun e'=>hF e' h nx) hl
theorem aGf {F:Nat→Bool}{F':Nat→Prop}(hF:∀ i,F i=true→F' i){l:List Nat}(hl:wall F l=true):NS F' l:=by
 rw [A2]
 induction l with
 |nil=>intro i hi;cases hi
 |cons x r ih =>
  simp only [wall,Bool.and_eq_true] at hl;intro i hi;cases hi with
  |head=>exact hF _ hl.1
  |tail _ hm=>exact ih hl.2 i hm
theorem aAs (hC:Tw C C')(hY:Tw Y Y'){tn:Nat}{ops:List Oper}{F:r7}{F':KS}(hF:∀ e h nx,F e h nx=true→F' e h nx):∀ n done e h nx,aFX A T C Y tn ops F n done e h nx=true→I7 A T C' Y' tn ops F' n done e h nx
 |0,_,e,h,nx,hl=>hF _ _ _ hl
 |n+1,done,e,h,nx,hl=>by
  simp only [aFX] at hl;simp only [I7];cases hr:fL ops done ops 0 with
  |nil =>
   rw [hr] at hl;exact hF _ _ _ hl
  |cons i0 r0 =>
   rw [hr] at hl;refine aGf (fun i hi=>?_) hl;split at hi
   ·rename_i o ho;rw [ho];exact S4 hC hY (fun e h nx=>aAs hC hY hF n _ e h nx) hi
   ·cases hi
theorem MF (hC:Tw C C')(hY:Tw Y Y'){tn:Nat}{ops:List Oper}{F:r7}{F':KS}(hF:∀ e h nx,F e h nx=true→F' e h nx):∀ n done e h nx,MV A T C Y tn ops F n done e h nx=true→CI A T C' Y' tn ops F' n done e h nx
 |0,_,e,h,nx,hl=>hF _ _ _ hl
 |n+1,done,e,h,nx,hl=>by
  simp only [MV] at hl;simp only [CI];cases hr:fL ops done ops 0 with
  |nil =>
   rw [hr] at hl;exact hF _ _ _ hl
  |cons i0 r0 =>
   rw [hr] at hl;simp only at hl ⊢;cases ho:gD ops i0 with
   |some o =>
    rw [ho] at hl;exact S4 hC hY (fun e h nx=>MF hC hY hF n _ e h nx) hl
   |none=>rw [ho] at hl;cases hl
theorem SM (hC:Tw C C')(hY:Tw Y Y'){tn:Nat}{ops:Array Oper}{m:Nat}{e:List (Nat × Value)}{h:Heap}{nx:Nat}{F:r7}{F':KS}(hF:∀ e h nx,F e h nx=true→F' e h nx)(hl:aD2 A T C Y tn ops e h nx F=true):SW A T C' Y' tn (.fuel m) ops e h nx F':=by
 unfold aD2 at hl;unfold SW;refine MF hC hY (fun e0 h0 n0 hq=>?_) _ _ _ _ _ hl;rw [CA,CA,Bool.and_eq_true] at hq;refine⟨_,_,n0,aAs hC hY (fun e1 h1 n1 hr=>?_) _ _ _ _ _ hq.1,hF _ _ _ hq.2⟩;exact⟨_,_,_,_,⟨rfl,rfl,rfl⟩,YJ hr⟩
def TwR (R:VRB)(R':VR):Prop:=∀ g ps as bd (kn:r7) (kx:Nat→r7) (kr:r7) (kn':KS) (kx':Nat→KS) (kr':KS) e h nx,(∀ e h nx,kn e h nx=true→kn' e h nx)→(∀ i e h nx,kx i e h nx=true→kx' i e h nx)→(∀ e h nx,kr e h nx=true→kr' e h nx)→R g ps as bd kn kx kr e h nx=true→R' g ps as bd kn' kx' kr' e h nx
theorem H8 {F:r7→r7}{F':KS→KS}(hF:∀ (k:r7) (k':KS) e h nx,(∀ e h nx,k e h nx=true→k' e h nx)→F k e h nx=true→F' k' e h nx):∀ n e h nx,aCm F n e h nx=true→I4 F' n e h nx
 |0,_,_,_,hl=>by cases hl
 |n+1,e,h,nx,hl=>hF _ _ e h nx (fun e h nx=>H8 hF n e h nx) hl
theorem rT (hC:Tw C C')(hY:Tw Y Y'){tn:Nat}{PL:Nat→Option fS}{n:Nat}{R:VRB}{R':VR}(hR:TwR R R'):∀ (c:Code) (kn:r7) (kx:Nat→r7) (kr:r7) (kn':KS) (kx':Nat→KS) (kr':KS) e h nx,(∀ e h nx,kn e h nx=true→kn' e h nx)→(∀ i e h nx,kx i e h nx=true→kx' i e h nx)→(∀ e h nx,kr e h nx=true→kr' e h nx) →
  rY A T C Y tn PL n R c kn kx kr e h nx=true→jC A T C' Y' tn PL (.fuel n) R' c kn' kx' kr' e h nx:=by
 intro c
 induction c with
 |skip=>exact fun kn kx kr kn' kx' kr' e h nx h1 _ _ hl=>h1 _ _ _ hl
 |region id ops draw =>
  intro kn kx kr kn' kx' kr' e h nx h1 _ _ hl;simp only [rY] at hl;simp only [iH,kU];cases draw with
  |false=>exact M0 hC hY h1 _ _ _ _ hl
  |true =>
   simp only at hl ⊢;split at hl
   ·first|exact G8 hC hY h1 hl|(simp only [*];exact G8 hC hY h1 hl)|(simp only [*];done)
   first|exact SM hC hY h1 hl|(simp only [*];exact SM hC hY h1 hl)
 |seq a b iha ihb=>exact fun kn kx kr kn' kx' kr' e h nx h1 h2 h3 hl=>iha _ kx kr _ kx' kr' e h nx (fun e h nx=>ihb kn kx kr kn' kx' kr' e h nx h1 h2 h3) h2 h3 hl
 |cond c t f iht ihf =>
  intro kn kx kr kn' kx' kr' e h nx h1 h2 h3 hl;simp only [rY] at hl;simp only [iH,kU];split at hl
  ·first|exact nS (iht kn kx kr kn' kx' kr' e h nx h1 h2 h3) (ihf kn kx kr kn' kx' kr' e h nx h1 h2 h3) hl|(simp only [*];exact nS (iht kn kx kr kn' kx' kr' e h nx h1 h2 h3) (ihf kn kx kr kn' kx' kr' e h nx h1 h2 h3) hl)|(simp only [*];done)
  ·cases hl
 |block id b ih =>
  intro kn kx kr kn' kx' kr' e h nx h1 h2 h3 hl
  first|refine ih kn _ kr kn' _ kr' e h nx h1 (fun j e h nx hk=>?_) h3 hl|(simp only [*];refine ih kn _ kr kn' _ kr' e h nx h1 (fun j e h nx hk=>?_) h3 hl)|(simp only [*];done)
  cases hb:Nat.beq j id with
  |true=>simp only [hb] at hk ⊢;exact h1 _ _ _ hk
  |false=>simp only [hb] at hk ⊢;exact h2 _ _ _ _ hk
 |loop b ih =>
  intro kn kx kr kn' kx' kr' e h nx h1 h2 h3 hl
  first|exact H8 (fun k k' e h nx hk=>ih k kx kr k' kx' kr' e h nx hk h2 h3) n e h nx hl|(simp only [*];exact H8 (fun k k' e h nx hk=>ih k kx kr k' kx' kr' e h nx hk h2 h3) n e h nx hl)|(simp only [*];done)
 |rangeFunc g ps as bd _ _=>exact fun kn kx kr kn' kx' kr' e h nx h1 h2 h3 hl=>hR g ps as bd kn kx kr kn' kx' kr' e h nx h1 h2 h3 hl
 |exit id=>exact fun kn kx kr kn' kx' kr' e h nx _ h2 _ hl=>h2 _ _ _ _ hl
 |ret=>exact fun kn kx kr kn' kx' kr' e h nx _ _ h3 hl=>h3 _ _ _ hl
 |label l=>exact fun kn kx kr kn' kx' kr' e h nx h1 _ _ hl=>h1 _ _ _ hl
 |scope b ih=>exact fun kn kx kr kn' kx' kr' e h nx h1 h2 h3 hl=>ih kn kx kr kn' kx' kr' e h nx h1 h2 h3 hl
 |goto l=>exact fun _ _ _ _ _ _ _ _ _ _ _ _ hl=>by cases hl
 |refuse s=>exact fun _ _ _ _ _ _ _ _ _ _ _ _ hl=>by cases hl
theorem vM {e:List (Nat × Value)}:∀ (l:List ResultVar) {F:List Value→Bool} {F':List Value→Prop},(∀ l,F l=true→F' l)→A0 T e h l F=true→gJ T e h l F'
 |[],F,F',hF,hl=>hF _ hl
 |.tmp t::r,F,F',hF,hl=>bK (fun v=>vM r fun l=>hF _) hl
 |.cell a t::r,F,F',hF,hl=>bK (fun p=>RK fun v=>vM r fun l=>hF _) hl
theorem F9 {fn:Func}(hK:∀ v h nx,K v h nx=true→K' v h nx)(e:List (Nat × Value))(h:Heap)(nx:Nat)(hl:aOa T fn K e h nx=true):EM T fn K' e h nx:=by
 refine vM _ (fun l hl=>?_) hl;split at hl
 ·first|exact hK _ _ _ hl|(simp only [*];exact hK _ _ _ hl)|(simp only [*];done)
 split at hl
 ·rename_i hn;simp only [hn];exact hK _ _ _ hl
 ·cases hl
theorem LX (hC:Tw C C'){f tn:Nat}:TwR (aEm C f tn) (wD C' f tn):=by
 intro g ps as bd kn kx kr kn' kx' kr' e h nx h1 h2 h3 hl;refine bK (fun gv hl=>?_) hl;split at hl
 case h_2=>cases hl
 split at hl
 case h_2=>cases hl
 first|refine hC _ _ _ _ _ _ (fun v h' nx' hl=>?_) hl|(simp only [*];refine hC _ _ _ _ _ _ (fun v h' nx' hl=>?_) hl)|(simp only [*];done)
 split at hl
 case h_2=>cases hl
 rename_i l hl1 hl2;split at hl
 ·cases hl
 ·first|exact h1 _ _ _ hl|(simp only [*];exact h1 _ _ _ hl)|(simp only [*];done)
 ·first|exact h2 _ _ _ _ hl|(simp only [*];exact h2 _ _ _ _ hl)|(simp only [*];done)
 ·first|exact h3 _ _ _ hl|(simp only [*];exact h3 _ _ _ hl)|(simp only [*];done)
 ·cases hl
theorem xF {q:Nat}(hK:∀ v h nx,K v h nx=true→K' v h nx){j:Option Code}(e:List (Nat × Value))(h:Heap)(nx:Nat)(hl:aDM q K j e h nx=true):yY q K' j e h nx:=by
 unfold aDM at hl;unfold yY;split at hl
 ·first|exact hK _ _ _ hl|(simp only [*];exact hK _ _ _ hl)|(simp only [*];done)
 ·cases hl
theorem aBU (hC:Tw C C')(hY:Tw Y Y'){PL:Nat→Nat→Option fS}{n:Nat}:Tw (UR A T C Y PL n) (tK A T C' Y' PL (.fuel n)):=by
 intro q args h nx K K' hK hl;unfold UR at hl;unfold tK;split at hl
 case h_2=>cases hl
 split at hl
 case h_2=>cases hl
 first|refine rT hC hY (fun _ _ _ _ _ _ _ _ _ _ _ _ _ _ _ _ hl=>by cases hl) _ _ _ _ _ _ _ _ _ _ (fun e1 h1 nx1 hl=>?_) (fun _ _ _ _ hl=>by cases hl) (fun _ _ _ hl=>by cases hl) hl|(simp only [*];refine rT hC hY (fun _ _ _ _ _ _ _ _ _ _ _ _ _ _ _ _ hl=>by cases hl) _ _ _ _ _ _ _ _ _ _ (fun e1 h1 nx1 hl=>?_) (fun _ _ _ _ hl=>by cases hl) (fun _ _ _ hl=>by cases hl) hl)|(simp only [*];done)
 split at hl
 case h_2=>cases hl
 split at hl
 case h_2=>cases hl
 first|exact rT hC hY (fun _ _ _ _ _ _ _ _ _ _ _ _ _ _ _ _ hl=>by cases hl) _ _ _ _ _ _ _ _ _ _ (xF hK) (fun i=>xF hK) (xF hK) hl|(simp only [*];exact rT hC hY (fun _ _ _ _ _ _ _ _ _ _ _ _ _ _ _ _ hl=>by cases hl) _ _ _ _ _ _ _ _ _ _ (xF hK) (fun i=>xF hK) (xF hK) hl)|(simp only [*];done)
def TwX (c:EP)(XB:Nat→Option (List Value→Heap→Nat→uJ→Bool)):Prop:=∀ f x xb,c.X f=some x→XB f=some xb→∀ args h nx (K:uJ) (K':KE),(∀ v h nx,K v h nx=true→K' v h nx)→xb args h nx K=true→x args h nx K'
theorem aE4 {c:EP}{XB:Nat→Option (List Value→Heap→Nat→uJ→Bool)}(hX:TwX c XB){n:Nat}(hC:Tw C C')(hY:Tw Y Y'):Tw (aDE c XB n C Y) (tT c (some n) C' Y'):=by
 intro f args h nx K K' hK hl;unfold aDE at hl;unfold tT;split at hl
 ·rename_i x hx;split at hl
  ·rename_i xb hxb
   first|exact hX f x xb hx hxb _ _ _ _ _ hK hl|(simp only [hx];exact hX f x xb hx hxb _ _ _ _ _ hK hl)
  ·cases hl
 rename_i hx
 first|skip|(simp only [hx])
 split at hl
 ·cases hl
 split at hl
 case h_2=>cases hl
 first|exact rT hC hY (LX hC) _ _ _ _ _ _ _ _ _ _ (F9 fun v h nx=>hK v _ nx) (fun _ _ _ _ hl=>by cases hl) (F9 fun v h nx=>hK v _ nx) hl|(simp only [*];exact rT hC hY (LX hC) _ _ _ _ _ _ _ _ _ _ (F9 fun v h nx=>hK v _ nx) (fun _ _ _ _ hl=>by cases hl) (F9 fun v h nx=>hK v _ nx) hl)
theorem aGs {PR:Nat→Bool}(hC:Tw C C'):Tw (aJQ PR C) (frC PR C'):=by
 intro f args h nx K K' hK hl;unfold aJQ at hl;unfold frC;cases hp:PR f with
 |false=>simp only [hp] at hl ⊢;exact hC _ _ _ _ _ _ hK hl
 |true =>
  simp only [hp] at hl ⊢;refine hC _ _ _ _ _ _ (fun v h' nx' hq=>?_) hl;unfold aNf at hq;unfold frK;split at hq
  ·rename_i hg;rw [hg];exact hK _ _ _ hq
  rename_i hg;rw [hg];exact hK _ _ _ hq
theorem rS {c:EP}{XB:Nat→Option (List Value→Heap→Nat→uJ→Bool)}(hX:TwX c XB):∀ (d:Nat) (b:Bool),Tw (EE c XB d b) (uZ c d b)
 |0,_=>fun _ _ _ _ _ _ _ hl=>by simp [EE] at hl
 |d+1,false=>aGs (aE4 hX (rS hX d false) (rS hX d true))
 |d+1,true=>aBU (rS hX d false) (rS hX d true)
end
def shO (n:Nat):bV→bV
 |.cells wr g sz cs=>.cells wr g sz (cs.map (bY (fun k=>n+k)))
 |o=>o
def oD (n:Nat):Heap→Heap
 |[]=>[]
 |(k,o)::r=>(n+k,shO n o)::oD n r
theorem mW {n:Nat}(h:Heap){k:Nat}{o:bV}(hl:look (oD n h) k=some o):∃ j o',k=n+j∧look h j=some o'∧o=shO n o':=by
 induction h with
 |nil=>cases hl
 |cons x r ih =>
  obtain⟨j,q⟩:=x;simp only [oD,aB] at hl;split at hl
  ·rename_i hb;injection hl with hl;exact⟨j,q,(beq_true hb).symm,by rw [aB,show Nat.beq j j=true from Nat.beq_refl j],hl.symm⟩
  rename_i hb;obtain⟨j',o',h1,h2,h3⟩:=ih hl;refine⟨j',o',h1,?_,h3⟩;have:Nat.beq j j'=false:=by
   cases hb':Nat.beq j j' with
   |false=>rfl
   |true =>
    have:=beq_true hb';subst this;rw [h1,Nat.beq_refl] at hb;cases hb
  rw [aB,this];exact h2
def XO:bV→Bool
 |.cells true _ _ _=>true
 |_=>false
def uG:Heap→Bool
 |[]=>true
 |(_,o)::r=>XO o&&uG r
theorem aAS {h:Heap}(hh:uG h=true){k:Nat}{o:bV}(hl:look h k=some o):∃ g sz cs,o=.cells true g sz cs:=by
 induction h with
 |nil=>cases hl
 |cons x r ih =>
  obtain⟨j,q⟩:=x;simp only [uG,Bool.and_eq_true] at hh;rw [aB] at hl;split at hl
  ·injection hl with hl;subst hl;cases q with
   |cells wr g sz cs =>
    cases wr with
    |true=>exact⟨g,sz,cs,rfl⟩
    |false=>simp [XO] at hh
   |_=>simp [XO] at hh
  exact ih hh.2 hl
def O9:bV→Bool
 |.cells _ _ _ _=>true
 |_=>false
def iX:Heap→Bool
 |[]=>true
 |(_,o)::r=>O9 o&&iX r
theorem qG {h:Heap}(hh:iX h=true){k:Nat}{o:bV}(hl:look h k=some o):∃ wr g sz cs,o=.cells wr g sz cs:=by
 induction h with
 |nil=>cases hl
 |cons x r ih =>
  obtain⟨j,q⟩:=x;simp only [iX,Bool.and_eq_true] at hh;rw [aB] at hl;split at hl
  ·injection hl with hl;subst hl;cases q with
   |cells wr g sz cs=>exact⟨wr,g,sz,cs,rfl⟩
   |_=>simp [O9] at hh
  exact ih hh.2 hl
theorem PH (o:bV):o.closed.alone=false:=by cases o <;> rfl
section
variable {ι:Nat→Loc}{σ:Nat→Nat}{n m:Nat}
theorem AL {v:Value}(h:pU (fun k=>ι (σ k)) m v)(hs:∀ k,k<m→σ k<n):pU ι n (eN (kV σ) v):=by
 cases v with
 |pointer a=>cases a with
  |none=>trivial
  |some a=>exact⟨hs _ h.1,h.2⟩
 |slice a l c=>cases a with
  |none=>trivial
  |some a=>exact⟨hs _ h.1,fun hf=>h.2 hf⟩
 |map a=>cases a with
  |none=>trivial
  |some a=>exact⟨hs _ h.1,h.2⟩
 |agg c=>exact h.elim
 |tuple c=>exact h.elim
 |_=>trivial
theorem kH {v:Value}(h:jD (fun k=>ι (σ k)) m v)(hs:∀ k,k<m→σ k<n):jD ι n (cC (kV σ) v):=by
 cases v with
 |func f a c =>
  refine⟨?_,fun x hx=>?_⟩
  ·have h1:=h.1;cases f with
   |yield l=>exact⟨hs _ h1.1,h1.2⟩
   |_=>trivial
  simp only [Array.toList_map,List.mem_map] at hx;obtain⟨y,hy,rfl⟩:=hx;exact AL (h.2 y hy) hs
 |pointer a=>have:=AL (ι:=ι) (σ:=σ) (n:=n) (m:=m) (v:=.pointer a);cases a <;> exact this h hs
 |slice a l c=>have:=AL (ι:=ι) (σ:=σ) (n:=n) (m:=m) (v:=.slice a l c);cases a <;> exact this h hs
 |map a=>have:=AL (ι:=ι) (σ:=σ) (n:=n) (m:=m) (v:=.map a);cases a <;> exact this h hs
 |agg c=>exact h.elim
 |tuple c=>exact h.elim
 |_=>trivial
theorem rG {v:Value}(h:lZ (fun k=>ι (σ k)) m v)(hs:∀ k,k<m→σ k<n):lZ ι n (eM (kV σ) v):=by
 cases v with
 |agg cs =>
  intro x hx;simp only [Array.toList_map,List.mem_map] at hx;obtain⟨y,hy,rfl⟩:=hx;exact kH (h y hy) hs
 |pointer a=>have:=kH (ι:=ι) (σ:=σ) (n:=n) (m:=m) (v:=.pointer a);cases a <;> exact this h hs
 |slice a l c=>have:=kH (ι:=ι) (σ:=σ) (n:=n) (m:=m) (v:=.slice a l c);cases a <;> exact this h hs
 |map a=>have:=kH (ι:=ι) (σ:=σ) (n:=n) (m:=m) (v:=.map a);cases a <;> exact this h hs
 |func f a c=>exact kH (ι:=ι) (σ:=σ) (n:=n) (m:=m) (v:=.func f a c) h hs
 |tuple c=>exact h.elim
 |_=>trivial
theorem aEt {v:Value}(h:fN (fun k=>ι (σ k)) m v)(hs:∀ k,k<m→σ k<n):fN ι n (iM σ v):=by
 unfold iM;cases v with
 |tuple cs =>
  intro x hx;simp only [Array.toList_map,List.mem_map] at hx;obtain⟨y,hy,rfl⟩:=hx;exact rG (h y hy) hs
 |pointer a=>have:=rG (ι:=ι) (σ:=σ) (n:=n) (m:=m) (v:=.pointer a);cases a <;> exact this h hs
 |slice a l c=>have:=rG (ι:=ι) (σ:=σ) (n:=n) (m:=m) (v:=.slice a l c);cases a <;> exact this h hs
 |map a=>have:=rG (ι:=ι) (σ:=σ) (n:=n) (m:=m) (v:=.map a);cases a <;> exact this h hs
 |func f a c=>exact rG (ι:=ι) (σ:=σ) (n:=n) (m:=m) (v:=.func f a c) h hs
 |agg c=>exact rG (ι:=ι) (σ:=σ) (n:=n) (m:=m) (v:=.agg c) h hs
 |_=>trivial
theorem aIC {v:Value}(h:gS v=true):gS (cC (kV σ) v)=true:=by rw [nH h];exact h
end
theorem QG {B nx n0 m:Nat}{w w':World}{ι ι0:Nat→Loc}{h h1:Heap}{v1:Value}{K Q:KE}{u:Value}(H:aU ι B h nx w)
  (hQ:∀ v h' nx',Q v h' nx'→∃ ρ,lQ 0 ρ [(0,v1)] h1 m [(0,v)] h' nx') (how:iX h1=true) (hal:uG h1=true∨∀ k o,look h k=some o→o.alone=false) (hK:K (iM (fun k=>nx+k) v1) (app (oD nx h1) h) (nx+m))
  (hr:Ret w.heap.size w ι0 n0 Q (.returned u) w'):Ret B w ι nx K (.returned u) w':=by
 obtain⟨v,h',nx',ι',q1,q2,q3,q4,q5,q6,q7⟩:=hr;obtain⟨ρ,r⟩:=hQ v h' nx' q1;have hv:v=iM ρ v1∧zR m v1:=by
  obtain⟨e1,e2⟩:=r.env 0 v1 rfl;injection e1 with e1;exact⟨e1,e2⟩
 obtain⟨rfl,hnm⟩:=hv;obtain⟨ιN,hloc,hold⟩:∃ ιN:Nat→Loc,(∀ j,ιN (nx+j)=ι' (ρ j))∧∀ k,k<nx→ιN k=ι k :=
  ⟨fun k=>if k<nx then ι k else ι' (ρ (k - nx)),fun j=>by
   have:¬ (nx+j<nx):=(by omega);simp only [if_neg this,Nat.add_sub_cancel_left],fun k hk=>if_pos hk⟩
 have hι:(fun k=>ιN (nx+k))=fun k=>ι' (ρ k):=funext hloc;have hsm:fN (fun k=>ι' (ρ k)) m v1:=FR q2 hnm;have R1:=r.aLY q3;have H':aU ι B h nx w':=H.ext q4;have hscn:fN ιN (nx+m) (iM (fun k=>nx+k) v1):=by
  refine aEt (m:=m) ?_ (fun k hk=>by omega);rw [hι];exact hsm
 have hcase:∀ k o,look (app (oD nx h1) h) k=some o→(look h k=some o∧k<nx)∨(∃ j wr g sz cs,k=nx+j∧look h1 j=some (.cells wr g sz cs)∧o=.cells wr g sz (cs.map (bY (fun k=>nx+k)))):=by
  intro k o hk;rw [iQ] at hk;split at hk
  ·rename_i o' ho;injection hk with hk;subst hk;obtain⟨j,o',e1,e2,e3⟩:=mW h1 ho;obtain⟨wr,g,sz,cs,rfl⟩:=qG how e2;exact .inr ⟨j,wr,g,sz,cs,e1,e2,e3⟩
  exact .inl ⟨hk,H.low k _ hk⟩
 refine⟨iM (fun k=>nx+k) v1,_,_,ιN,hK,hscn,⟨?_,?_,?_,H'.size,?_⟩,q4.mono H.size,hold,by omega,?_⟩
 ·intro k o hk;rcases hcase k o hk with ⟨h2,h3⟩|⟨j,wr,g,sz,cs,rfl,h2,rfl⟩
  ·rw [hold k h3];exact (H'.obj k o h2).names (H'.sc k o h2) hold
  rw [hloc];have ho:=R1.obj j _ h2;have hsc:=R1.sc j _ h2;cases hl:ι' (ρ j) with
  |nil p =>
   rw [hl] at ho;have hcz:cs=[]∧(sz=0∨wr=true→p.isSome=true):=(by cases wr <;> exact ho);obtain⟨hc0,hz⟩:=hcz;subst hc0;cases wr <;> exact⟨rfl,hz⟩
  |lay b off e =>
   rw [hl] at ho;have hcell:∀ {Φ:Nat→Value→Prop},(∀ (i:Nat) y,cs[i]? = some y→Φ i (cC (fun k=>ι' (ρ k)) y))→∀ (i:Nat) v,(cs.map (bY (fun k=>nx+k)))[i]? = some v→Φ i (cC ιN v):=by
    intro Φ hΦ i v hv;rw [List.getElem?_map] at hv;cases hy:cs[i]? with
    |none=>rw [hy] at hv;cases hv
    |some y =>
     rw [hy] at hv;injection hv with hv;subst hv;have hsy:=hsc y (List.mem_of_getElem? hy);have hin:jD ιN (nx+m) (cC (kV (fun k=>nx+k)) y):=by
      refine kH (m:=m) ?_ (fun k hk=>by omega);rw [hι];exact hsy
     have:=hΦ i y hy;rw [← hι,← jZ hin] at this;exact this
   have hgg:∀ {b:Bool},(b=true→dP cs=true)→b=true→dP (cs.map (bY (fun k=>nx+k)))=true:=fun h hg=>wW fun v hv=>by
    obtain⟨y,hy,rfl⟩:=List.mem_map.1 hv;exact aIC (aW (h hg) hy)
   cases wr with
   |true =>
    obtain⟨a1,a2,arr,t,a3,a4,a5⟩:=ho;exact⟨Nat.le_trans H.size a1,hgg a2,arr,t,a3,by simpa using a4,hcell (Φ:=fun i v=>arr[off+i]? = some v) a5⟩
   |false =>
    obtain⟨a1,a2,a5⟩:=ho;exact⟨a1,hgg a2,hcell (Φ:=fun i v=>w'.cell? ⟨b,off+i,none⟩=some v) a5⟩
 ·intro k k' o o' hk hk' hne ha b hb;rcases hcase k o hk with ⟨h2,h3⟩|⟨j,wr,g,sz,cs,rfl,h2,rfl⟩
  ·rw [hold k h3] at hb;rcases hcase k' o' hk' with ⟨h4,h5⟩|⟨j',wr',g',sz',cs',rfl,h4,rfl⟩
   ·rw [hold k' h5];exact H'.sep k k' o o' h2 h4 hne ha b hb
   rw [hloc];intro hb';have hlt:=(H.obj k o h2).lt hb;rcases hal with how2|hal
   ·obtain⟨g2,sz2,cs2,e2⟩:=aAS how2 h4;have ho:=R1.obj j' _ h4;cases hl:ι' (ρ j') with
    |nil p=>rw [hl] at hb';cases hb'
    |lay b2 off e =>
     rw [hl] at hb';rw [hl,e2] at ho;have:b2=b:=(by simpa [Loc.FB] using hb');have:=ho.1;omega
   rw [hal k o h2] at ha;cases ha
  rw [hloc] at hb;rcases hcase k' o' hk' with ⟨h4,h5⟩|⟨j',wr',g',sz',cs',rfl,h4,rfl⟩
  ·rw [hold k' h5];intro hb';have hlt:=(H.obj k' o' h4).lt hb';have ho:=R1.obj j _ h2;cases hl:ι' (ρ j) with
   |nil p=>rw [hl] at hb;cases hb
   |lay b2 off e =>
    rw [hl] at ho hb;have:b2=b:=(by simpa [Loc.FB] using hb);have hwr:wr=true:=ha;subst hwr;have:=ho.1;omega
  rw [hloc];exact R1.sep j j' _ _ h2 h4 (fun e=>hne (by rw [e])) ha b hb
 ·intro k o hk;rcases hcase k o hk with ⟨h2,h3⟩|⟨j,wr,g,sz,cs,rfl,h2,rfl⟩
  ·omega
  have:=R1.low j _ h2;omega
 ·intro k o hk;rcases hcase k o hk with ⟨h2,h3⟩|⟨j,wr,g,sz,cs,rfl,h2,rfl⟩
  ·exact (H'.sc k o h2).mono (by omega) hold
  intro v hv;obtain⟨y,hy,rfl⟩:=List.mem_map.1 hv;refine kH (m:=m) ?_ (fun k hk=>by omega);rw [hι];exact R1.sc j _ h2 y hy
 rw [q7,G7 q2,G7 hscn,hι]
def In (args0:List Value)(h0:Heap)(n0:Nat)(args:List Value)(h:Heap)(nx:Nat):Prop :=
 ∀ ι B w,aU ι B h nx w→(∀ v∈args,fN ι nx v)→∃ ι0,args.map (tr ι)=args0.map (tr ι0)∧(∀ v∈args0,fN ι0 n0 v)∧aU ι0 w.heap.size h0 n0 w
abbrev Sp:=List Value→Heap→Nat→Value→Heap→Nat→Prop
def pT (h1 h:Heap):Heap:=match uG h1 with|true=>h|false=>eP h
def xOf (S:Sp):List Value→Heap→Nat→KE→Prop:=fun args h nx K =>
 ∃ args0 h0 n0 v1 h1 m,S args0 h0 n0 v1 h1 m∧In args0 h0 n0 args h nx∧K (iM (fun k=>nx+k) v1) (app (oD nx h1) (pT h1 h)) (nx+m)
def PE (v1:Value)(h1:Heap)(m:Nat):KE:=fun v h' nx'=>∃ ρ,lQ 0 ρ [(0,v1)] h1 m [(0,v)] h' nx'
theorem gO {P:Program}{C:VC}{f:Nat}{S:Sp}(hC:bF P C)(hS:∀ args0 h0 n0 v1 h1 m,S args0 h0 n0 v1 h1 m→iX h1=true∧∃ Q:KE,C f args0 h0 n0 Q∧∀ v h nx,Q v h nx→PE v1 h1 m v h nx):cO P f (xOf S):=by
 refine⟨fun args h nx K hx ι B w H hs=>?_,fun args h nx K hx=>?_⟩
 ·obtain⟨args0,h0,n0,v1,h1,m,s1,s2,s3⟩:=hx;obtain⟨how,Q,hc,hq⟩:=hS _ _ _ _ _ _ s1;obtain⟨ι0,e1,e2,e3⟩:=s2 ι B w H hs;obtain⟨c1,c2⟩:=hC f args0 h0 n0 _ hc ι0 w.heap.size w e3 e2;refine⟨c1,?_⟩;rw [e1];refine CallsIn.mono c2 fun e w' hr=>?_;cases e with
  |returned u =>
   unfold pT at s3;cases ho:uG h1 with
   |true=>rw [ho] at s3;exact QG H (fun v h' nx' q=>hq v h' nx' q) how (.inl ho) s3 hr
   |false =>
    rw [ho] at s3;refine QG (H.shut.down H.size) (fun v h' nx' q=>hq v h' nx' q) how (.inr fun k o hk=>?_) s3 hr;rw [kX] at hk;cases hq:look h k with
    |none=>rw [hq] at hk;cases hk
    |some q =>
     rw [hq] at hk;injection hk with hk;subst hk;exact PH q
  |_=>exact hr.elim
 obtain⟨args0,h0,n0,v1,h1,m,s1,s2,s3⟩:=hx;exact⟨_,_,_,s3,fun K' hk=>⟨args0,h0,n0,v1,h1,m,s1,s2,hk⟩⟩
theorem bX {α:Type}{k:Nat}{o:α}{p:Prop}(h:look [] k=some o):p:=by cases h
theorem lA {v:Value}(hv:gT v=true){h':Heap}{nx':Nat}:PE v [] 0 v h' nx' :=
 ⟨id,⟨fun t u hu=>by
  rw [aB] at hu;split at hu
  ·rename_i hb;injection hu with hu;subst hu;exact⟨by rw [aB,hb];show some v=some (iM id v);rw [iM,jH hv],cG hv⟩
  exact bX hu,fun k o hk=>bX hk,fun k k' o o' hk=>bX hk,fun k hk=>rfl,Nat.le_refl _⟩⟩
theorem gE {σ:Nat→Nat}{v:Value}(hv:gT v=true):iM σ v=v:=jH hv
theorem aLB {args:List Value}(hg:∀ v∈args,gT v=true){h:Heap}{nx:Nat}:In args [] 0 args h nx:=by
 intro ι B w H hs;refine⟨ι,rfl,fun v hv=>cG (hg v hv),⟨fun k o hk=>bX hk,fun k k' o o' hk=>bX hk,fun k o hk=>bX hk,Nat.le_refl _,fun k o hk=>bX hk⟩⟩
theorem aY {α:Type}{l:List (Nat × α)}{k:Nat}{o:α}(h:look l k=some o):(k,o)∈l:=by
 induction l with
 |nil=>exact bX h
 |cons x r ih =>
  obtain⟨j,q⟩:=x;rw [aB] at h;split at h
  ·rename_i hb;have:=beq_true hb;subst this;injection h with h;subst h;exact .head _
  exact .tail _ (ih h)
theorem cD {l:List Value}(h:eX l=true){v:Value}(hv:v∈l):gT v=true:=by
 induction l with
 |nil=>cases hv
 |cons x r ih =>
  simp only [eX,Bool.and_eq_true] at h;cases hv with
  |head =>
   have:=h.1;cases v <;> first|exact this|(simp [gA,gS] at this)
  |tail _ hm=>exact ih h.2 hm
theorem aEx {k o n c:Nat}{r:List Value}(hr:eX r=true){h:Heap}{nx:Nat}{wr g:Bool}{sz0:Nat}{cs:List Value}(hk:look h k=some (.cells wr g sz0 cs)){cs0:List Value}(hcs:(cs.drop o).take cs0.length=cs0)(hg:dP cs0=true)(g0:Bool)(sz:Nat)(hz:sz≠0) :
  In (.slice (some ⟨0,0,none⟩) n c::r) [(0,.cells false g0 sz cs0)] 1 (.slice (some ⟨k,o,none⟩) n c::r) h nx:=by
 intro ι B w H hs;have hx:k<nx∧((ι k).iZ=false→n=0∧c=0):=hs _ (.head _);have hmap:∀ ι1 ι2:Nat→Loc,r.map (tr ι1)=r.map (tr ι2):=fun ι1 ι2=>List.map_congr_left fun v hv=>(by rw [jH (cD hr hv),jH (cD hr hv)]);have hsc:∀ ι0:Nat→Loc,∀ v∈r,fN ι0 1 v:=fun ι0 v hv=>cG (cD hr hv);have ho:=H.obj k _ hk;cases hι:ι k with
 |nil p =>
  rw [hι] at ho;have hnil:cs=[]:=(by cases wr <;> exact ho.1);subst hnil;have h0:cs0=[]:=(by rw [← hcs];simp);subst h0;refine⟨fun _=>.nil p,?_,?_,⟨?_,?_,?_,Nat.le_refl _,?_⟩⟩
  ·rw [List.map_cons,List.map_cons,hmap ι];congr 1;simp [tr,eM,cC,eN,hι]
  ·intro v hv;cases hv with
   |head=>exact⟨Nat.one_pos,fun _=>hx.2 (by rw [hι];rfl)⟩
   |tail _ hm=>exact hsc _ v hm
  ·intro j q hq;rw [aB] at hq;split at hq
   ·injection hq with hq;subst hq;exact⟨rfl,fun h=>h.elim (fun h=>absurd h hz) (fun h=>by cases h)⟩
   exact bX hq
  ·intro j j' q q' hq hq' hne ha b hb;cases hb
  ·intro j q hq;rw [aB] at hq;split at hq
   ·rename_i hb;rw [← beq_true hb];exact Nat.one_pos
   exact bX hq
  intro j q hq;rw [aB] at hq;split at hq
  ·injection hq with hq;subst hq;intro v hv;cases hv
  exact bX hq
 |lay b off e =>
  have hlt:b<w.heap.size:=ho.lt (by rw [hι];rfl);refine⟨fun _=>.lay b (off+o) e,?_,?_,⟨?_,?_,?_,Nat.le_refl _,?_⟩⟩
  ·rw [List.map_cons,List.map_cons,hmap ι];congr 1;simp [tr,eM,cC,eN,hι]
  ·intro v hv;cases hv with
   |head=>exact⟨Nat.one_pos,fun h=>by cases h⟩
   |tail _ hm=>exact hsc _ v hm
  ·intro j q hq;rw [aB] at hq;split at hq
   ·injection hq with hq;subst hq;refine⟨hlt,fun _=>hg,fun i v hv=>?_⟩;have hv2:cs[o+i]? = some v:=by
     rw [← hcs] at hv;rw [List.getElem?_take] at hv;split at hv
     ·rw [List.getElem?_drop] at hv;exact hv
     ·cases hv
    obtain⟨b',off',e',hι',hc⟩:=H.cell hk hv2;rw [hι] at hι';injection hι' with e1 e2 e3;subst e1;subst e2;have hgv:=aW hg (List.mem_of_getElem? hv);rw [Nat.add_assoc,hc,nH hgv,nH hgv]
   exact bX hq
  ·intro j j' q q' hq hq' hne ha b hb;rw [aB] at hq hq';split at hq
   ·rename_i hb1;split at hq'
    ·rename_i hb2;exact absurd ((beq_true hb1).symm.trans (beq_true hb2)) hne
    exact bX hq'
   exact bX hq
  ·intro j q hq;rw [aB] at hq;split at hq
   ·rename_i hb;rw [← beq_true hb];exact Nat.one_pos
   exact bX hq
  intro j q hq;rw [aB] at hq;split at hq
  ·injection hq with hq;subst hq;exact fun v hv=>cN (aW hg hv)
  exact bX hq
end Go.Aw
end
