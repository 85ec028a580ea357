/-
  Parts of a proof. No condition.
-/
import Derived.Test.YtjahkcbdecgbhaaGreatQAj
set_option linter.unusedSimpArgs false
set_option linter.unusedVariables false
noncomputable section
namespace Go.Aw
open Go.RowKit
def aA6:Int→Int→Bool
 |.ofNat a,.ofNat b=>Nat.beq a b
 |.negSucc a,.negSucc b=>Nat.beq a b
 |_,_=>false
theorem aAx {a b:Int}(h:aA6 a b=true):a=b:=by
 cases a <;> cases b <;> simp only [aA6] at h <;> first|cases h;done|rw [beq_true h]
def VE:Bool→Bool→Bool
 |true,true=>true
 |false,false=>true
 |_,_=>false
theorem F7 {a b:Bool}(h:VE a b=true):a=b:=by cases a <;> cases b <;> first|rfl|cases h
def U3:Value→Value→Bool
 |.bool a,.bool b=>VE a b
 |.int k a,.int j b=>kEq k j&&aA6 a b
 |.slice none n c,.slice none n' c'=>Nat.beq n n'&&Nat.beq c c'
 |.slice (some ⟨a,o,none⟩) n c,.slice (some ⟨a',o',none⟩) n' c'=>Nat.beq a a'&&Nat.beq o o'&&Nat.beq n n'&&Nat.beq c c'
 |.pointer none,.pointer none=>true
 |.pointer (some ⟨a,o,none⟩),.pointer (some ⟨a',o',none⟩)=>Nat.beq a a'&&Nat.beq o o'
 |.map none,.map none=>true
 |.map (some a),.map (some a')=>Nat.beq a a'
 |.nilFunc,.nilFunc=>true
 |.nilIface,.nilIface=>true
 |_,_=>false
theorem NN {v u:Value}(h:U3 v u=true):v=u:=by
 unfold U3 at h;split at h
 ·rw [F7 h]
 ·simp only [Bool.and_eq_true] at h;rw [oS h.1,aAx h.2]
 ·simp only [Bool.and_eq_true] at h;rw [beq_true h.1,beq_true h.2]
 ·simp only [Bool.and_eq_true] at h;obtain⟨⟨⟨h1,h2⟩,h3⟩,h4⟩:=h;rw [beq_true h1,beq_true h2,beq_true h3,beq_true h4]
 ·rfl
 ·simp only [Bool.and_eq_true] at h;rw [beq_true h.1,beq_true h.2]
 ·rfl
 ·rw [beq_true h]
 ·rfl
 ·rfl
 ·cases h
def GI:List Value→List Value→Bool
 |[],[]=>true
 |a::r,b::s=>U3 a b&&GI r s
 |_,_=>false
theorem zM:∀ {l m:List Value},GI l m=true→l=m
 |[],[],_=>rfl
 |[],_::_,h=>by cases h
 |_::_,[],h=>by cases h
 |a::r,b::s,h=>by
  simp only [GI,Bool.and_eq_true] at h;rw [NN h.1,zM h.2]
def Q4:Fn→Fn→Bool
 |.func a,.func b=>Nat.beq a b
 |.yield a,.yield b=>Nat.beq a b
 |_,_=>false
theorem XU {f g:Fn}(h:Q4 f g=true):f=g:=by
 unfold Q4 at h;split at h
 ·rw [beq_true h]
 ·rw [beq_true h]
 ·cases h
def OW:Value→Value→Bool
 |.func f a c,.func f' a' c'=>Q4 f f'&&GI a.toList a'.toList&&GI c.toList c'.toList
 |a,b=>U3 a b
theorem DO {v u:Value}(h:OW v u=true):v=u:=by
 unfold OW at h;split at h
 ·simp only [Bool.and_eq_true] at h;obtain⟨⟨h1,h2⟩,h3⟩:=h;rw [XU h1,show _=_ from Array.ext' (zM h2),show _=_ from Array.ext' (zM h3)]
 ·exact NN h
def IJ:List Value→List Value→Bool
 |[],[]=>true
 |a::r,b::s=>OW a b&&IJ r s
 |_,_=>false
theorem xW:∀ {l m:List Value},IJ l m=true→l=m
 |[],[],_=>rfl
 |[],_::_,h=>by cases h
 |_::_,[],h=>by cases h
 |a::r,b::s,h=>by
  simp only [IJ,Bool.and_eq_true] at h;rw [DO h.1,xW h.2]
def OG:Value→Value→Bool
 |.agg a,.agg b=>IJ a.toList b.toList
 |a,b=>OW a b
theorem GJ {v u:Value}(h:OG v u=true):v=u:=by
 unfold OG at h;split at h
 ·rw [show _=_ from Array.ext' (xW h)]
 ·exact DO h
def J5:List Value→List Value→Bool
 |[],[]=>true
 |a::r,b::s=>OG a b&&J5 r s
 |_,_=>false
theorem IY:∀ {l m:List Value},J5 l m=true→l=m
 |[],[],_=>rfl
 |[],_::_,h=>by cases h
 |_::_,[],h=>by cases h
 |a::r,b::s,h=>by
  simp only [J5,Bool.and_eq_true] at h;rw [GJ h.1,IY h.2]
def O0:Value→Value→Bool
 |.tuple a,.tuple b=>J5 a.toList b.toList
 |a,b=>OG a b
theorem FO {v u:Value}(h:O0 v u=true):v=u:=by
 unfold O0 at h;split at h
 ·rw [show _=_ from Array.ext' (IY h)]
 ·exact GJ h
def aE6 (n:Nat):Value→Bool
 |.slice (some a) _ _=>Nat.blt a.block n
 |.pointer (some a)=>Nat.blt a.block n
 |.map (some k)=>Nat.blt k n
 |v=>gS v
theorem UG {n:Nat}{v:Value}(h:aE6 n v=true):nV (lB id) n v:=by
 unfold aE6 at h;split at h
 ·exact⟨Nat.le_of_ble_eq_true h,fun e=>by cases e⟩
 ·exact⟨Nat.le_of_ble_eq_true h,rfl⟩
 ·exact⟨Nat.le_of_ble_eq_true h,rfl⟩
 ·cases v <;> simp [gS] at h <;> first|trivial|(rename_i a;cases a <;> simp [gS] at h <;> trivial)|(simp [nV];done)|skip
  all_goals (first|(rename_i a _ _;cases a <;> simp [gS] at h <;> simp [nV])|skip)
def aCH (n:Nat):List Value→Bool
 |[]=>true
 |v::r=>aE6 n v&&aCH n r
theorem VJ {n:Nat}:∀ {l:List Value},aCH n l=true→∀ v∈l,nV (lB id) n v
 |[],_,v,hv=>by cases hv
 |x::r,h,v,hv=>by
  simp only [aCH,Bool.and_eq_true] at h;cases hv with
  |head=>exact UG h.1
  |tail _ hm=>exact VJ h.2 v hm
def aFS (n:Nat):Fn→Bool
 |.func _=>true
 |.yield l=>Nat.blt l n
 |_=>false
theorem aEk {n:Nat}{f:Fn}(h:aFS n f=true):RA (lB id) n f:=by
 unfold aFS at h;split at h
 ·trivial
 ·exact⟨Nat.le_of_ble_eq_true h,rfl⟩
 ·cases h
def Y8 (n:Nat):Value→Bool
 |.func f _ c=>aFS n f&&aCH n c.toList
 |v=>aE6 n v
theorem dN {n:Nat}{v:Value}(h:Y8 n v=true):AB n v:=by
 unfold Y8 at h;split at h
 ·simp only [Bool.and_eq_true] at h;exact⟨aEk h.1,VJ h.2⟩
 ·rename_i hf;have h2:=UG h;cases v <;> first|exact h2|exact absurd rfl (hf _ _ _)
def RO (n:Nat):List Value→Bool
 |[]=>true
 |v::r=>Y8 n v&&RO n r
theorem kV {n:Nat}:∀ {l:List Value},RO n l=true→∀ v∈l,AB n v
 |[],_,v,hv=>by cases hv
 |x::r,h,v,hv=>by
  simp only [RO,Bool.and_eq_true] at h;cases hv with
  |head=>exact dN h.1
  |tail _ hm=>exact kV h.2 v hm
def aDT (n:Nat):Value→Bool
 |.agg c=>RO n c.toList
 |v=>Y8 n v
theorem U6 {n:Nat}{v:Value}(h:aDT n v=true):j6 (lB id) n v:=by
 unfold aDT at h;split at h
 ·exact fun x hx=>kV h x hx
 ·exact gR (dN h)
def S9 (n:Nat):List Value→Bool
 |[]=>true
 |v::r=>aDT n v&&S9 n r
theorem MY {n:Nat}:∀ {l:List Value},S9 n l=true→∀ v∈l,j6 (lB id) n v
 |[],_,v,hv=>by cases hv
 |x::r,h,v,hv=>by
  simp only [S9,Bool.and_eq_true] at h;cases hv with
  |head=>exact U6 h.1
  |tail _ hm=>exact MY h.2 v hm
def aAg (n:Nat):Value→Bool
 |.tuple c=>S9 n c.toList
 |v=>aDT n v
theorem jC {n:Nat}{v:Value}(h:aAg n v=true):A0 n v:=by
 unfold aAg at h;split at h
 ·exact fun x hx=>MY h x hx
 ·exact lC (U6 h)
def nm (ρ:List (Nat × Nat))(k:Nat):Nat:=match look ρ k with|some j=>j|none=>k
def TV (σ:Nat→Nat)(m:Nat):List (Value × Value)→List (Value × Value)→Bool
 |[],[]=>true
 |a::r,b::s=>OG b.1 a.1&&OW b.2 (bR σ a.2)&&Y8 m a.2&&TV σ m r s
 |_,_=>false
theorem OZ {σ:Nat→Nat}{m:Nat}:∀ {l l':List (Value × Value)},TV σ m l l'=true→l'=l.map (fun e=>(e.1,bR σ e.2))∧∀ e∈l,AB m e.2
 |[],[],_=>⟨rfl,fun e he=>by cases he⟩
 |[],_::_,h=>by cases h
 |_::_,[],h=>by cases h
 |a::r,b::s,h=>by
  simp only [TV,Bool.and_eq_true] at h;obtain⟨⟨⟨h1,h2⟩,h3⟩,h4⟩:=h;obtain⟨i1,i2⟩:=OZ h4;refine⟨?_,fun e he=>?_⟩
  ·rw [List.map_cons,← i1,← GJ h1,← DO h2]
  ·cases he with
   |head=>exact dN h3
   |tail _ hm=>exact i2 e hm
def ZU (σ:Nat→Nat)(m:Nat):aT→aT→Bool
 |.cells wr g sz cs,.cells wr' g' sz' cs'=>RO m cs&&VE wr wr'&&VE g g'&&Nat.beq sz sz'&&IJ cs' (cs.map (bR σ))
 |.map es,.map es'=>TV σ m es es'
 |.zero,.zero=>true
 |_,_=>false
theorem aAk {σ:Nat→Nat}{m:Nat}{o o':aT}(h:ZU σ m o o'=true):bO σ m o o':=by
 unfold ZU at h;split at h
 ·simp only [Bool.and_eq_true] at h;obtain⟨⟨⟨⟨h1,h2⟩,h3⟩,h4⟩,h5⟩:=h;exact⟨F7 h2,F7 h3,beq_true h4,xW h5,kV h1⟩
 ·exact OZ h
 ·trivial
 ·cases h
def TT (b:Nat)(ρ:List (Nat × Nat))(m:Nat)(h':Heap):Heap→Bool
 |[]=>true
 |(k,o)::r=>Nat.blt k m&&(match Nat.blt k b with|true=>true|false=>(match look ρ k with|some _=>true|none=>false))&&(match look h' (nm ρ k) with|some o'=>ZU (nm ρ) m o o'|none=>false)&&TT b ρ m h' r
theorem PV {b:Nat}{ρ:List (Nat × Nat)}{m:Nat}{h':Heap}:∀ {h:Heap},TT b ρ m h' h=true→∀ k o,look h k=some o→k<m∧(b≤k→∃ j,look ρ k=some j)∧∃ o',look h' (nm ρ k)=some o'∧bO (nm ρ) m o o'
 |[],_,k,o,hk=>by cases hk
 |(j,q)::r,h,k,o,hk=>by
  simp only [TT,Bool.and_eq_true] at h;obtain⟨⟨⟨h1,h2⟩,h3⟩,h4⟩:=h;rw [aC] at hk;split at hk
  ·rename_i hb;have:=beq_true hb;subst this;injection hk with hk;subst hk;refine⟨Nat.le_of_ble_eq_true h1,fun hb=>?_,?_⟩
   ·split at h2
    ·rename_i hlt;have:=Nat.le_of_ble_eq_true hlt;omega
    ·split at h2
     ·rename_i x hx;exact⟨x,hx⟩
     ·cases h2
   ·split at h3
    ·rename_i o' ho';exact⟨o',ho',aAk h3⟩
    ·cases h3
  ·exact PV h4 k o hk
theorem UZ {α:Type}{k:Nat}{o:α}{p:Prop}(h:look [] k=some o):p:=by cases h
def aCX (b:Nat):List (Nat × Nat)→Bool
 |[]=>true
 |(k,j)::r=>Nat.ble b k&&Nat.ble b j&&!(oE j (r.map (·.2)))&&aCX b r
theorem UW {b:Nat}:∀ {ρ:List (Nat × Nat)},aCX b ρ=true→(∀ k j,look ρ k=some j→b≤k∧b≤j∧j∈ρ.map (·.2))∧∀ k k' j,look ρ k=some j→look ρ k'=some j→k=k'
 |[],_=>⟨fun k j h=>UZ h,fun k k' j h=>UZ h⟩
 |(a,c)::r,h=>by
  simp only [aCX,Bool.and_eq_true,Bool.not_eq_true'] at h;obtain⟨⟨⟨h1,h2⟩,h3⟩,h4⟩:=h;obtain⟨i1,i2⟩:=UW h4;have h1:=Nat.le_of_ble_eq_true h1;have h2:=Nat.le_of_ble_eq_true h2;have hn:c∉r.map (·.2):=fun hm=>(by rw [dI.2 hm] at h3;cases h3);refine⟨fun k j hl=>?_,fun k k' j hl hl'=>?_⟩
  ·rw [aC] at hl;split at hl
   ·rename_i hb;injection hl with hl;subst hl;rw [← beq_true hb];exact⟨h1,h2,.head _⟩
   ·obtain⟨q1,q2,q3⟩:=i1 k j hl;exact⟨q1,q2,.tail _ q3⟩
  ·rw [aC] at hl hl';split at hl <;> split at hl'
   ·rename_i hb _ hb';exact (beq_true hb).symm.trans (beq_true hb')
   ·injection hl with hl;subst hl;exact absurd (i1 k' _ hl').2.2 hn
   ·injection hl' with hl';subst hl';exact absurd (i1 k _ hl).2.2 hn
   ·exact i2 k k' j hl hl'
def aE7 (ρ:List (Nat × Nat))(m:Nat)(e':List (Nat × Value)):List (Nat × Value)→Bool
 |[]=>true
 |(t,v)::r=>(match look e' t with|some v'=>O0 v' (iB (nm ρ) v)|none=>false)&&aAg m v&&aE7 ρ m e' r
theorem VA {ρ:List (Nat × Nat)}{m:Nat}{e':List (Nat × Value)}:∀ {e:List (Nat × Value)},aE7 ρ m e' e=true→∀ t v,look e t=some v→look e' t=some (iB (nm ρ) v)∧A0 m v
 |[],_,t,v,h=>by cases h
 |(j,q)::r,h,t,v,hl=>by
  simp only [aE7,Bool.and_eq_true] at h;obtain⟨⟨h1,h2⟩,h3⟩:=h;rw [aC] at hl;split at hl
  ·rename_i hb;have:=beq_true hb;subst this;injection hl with hl;subst hl;refine⟨?_,jC h2⟩;split at h1
   ·rename_i v' hv';rw [hv',FO h1]
   ·cases h1
  ·exact VA h3 t v hl
def aCA (b:Nat)(ρ:List (Nat × Nat))(e0:List (Nat × Value))(h0:Heap)(n0:Nat)(e:List (Nat × Value))(h:Heap):Bool :=
 Nat.ble b n0&&aCX b ρ&&aE7 ρ n0 e e0&&TT b ρ n0 h h0
theorem V6 {b:Nat}{ρ:List (Nat × Nat)}{e0:List (Nat × Value)}{h0:Heap}{n0:Nat}{e:List (Nat × Value)}{h:Heap}{nx:Nat}(hb:aCA b ρ e0 h0 n0 e h=true):rB b (nm ρ) e0 h0 n0 e h nx:=by
 simp only [aCA,Bool.and_eq_true] at hb;obtain⟨⟨⟨h1,h2⟩,h3⟩,h4⟩:=hb;obtain⟨r1,r2⟩:=UW h2;have hh:=PV h4;have hfix:∀ k,k<b→nm ρ k=k:=fun k hk=>by
  unfold nm;split
  ·rename_i j hj;have:=(r1 k j hj).1;omega
  ·rfl
 refine⟨VA h3,fun k o hk=>⟨(hh k o hk).1,(hh k o hk).2.2⟩,fun k k' o o' hk hk' he=>?_,hfix,Nat.le_of_ble_eq_true h1⟩;have a1:=(hh k o hk).2.1;have a2:=(hh k' o' hk').2.1;by_cases c1:k<b <;> by_cases c2:k'<b
 ·rw [hfix k c1,hfix k' c2] at he;exact he
 ·obtain⟨j,hj⟩:=a2 (by omega);have hn:nm ρ k'=j:=(by unfold nm;rw [hj]);have:=(r1 k' j hj).2.1;rw [hfix k c1,hn] at he;omega
 ·obtain⟨j,hj⟩:=a1 (by omega);have hn:nm ρ k=j:=(by unfold nm;rw [hj]);have:=(r1 k j hj).2.1;rw [hfix k' c2,hn] at he;omega
 ·obtain⟨j,hj⟩:=a1 (by omega);obtain⟨j',hj'⟩:=a2 (by omega);have hn:nm ρ k=j:=(by unfold nm;rw [hj]);have hn':nm ρ k'=j':=(by unfold nm;rw [hj']);rw [hn,hn'] at he;subst he;exact r2 k k' j hj hj'
def prP (b:Nat):Value→Value→List (Nat × Nat)→List (Nat × Nat)
 |.slice (some a) _ _,.slice (some c) _ _,r=>(match Nat.ble b a.block with|true=>(a.block,c.block)::r|false=>r)
 |.pointer (some a),.pointer (some c),r=>(match Nat.ble b a.block with|true=>(a.block,c.block)::r|false=>r)
 |.map (some a),.map (some c),r=>(match Nat.ble b a with|true=>(a,c)::r|false=>r)
 |_,_,r=>r
def aJa (b:Nat):List Value→List Value→List (Nat × Nat)→List (Nat × Nat)
 |v::l,u::m,r=>prP b v u (aJa b l m r)
 |_,_,r=>r
def prS (b:Nat):Value→Value→List (Nat × Nat)→List (Nat × Nat)
 |.func _ _ c,.func _ _ c',r=>aJa b c.toList c'.toList r
 |v,u,r=>prP b v u r
def prL (b:Nat):List Value→List Value→List (Nat × Nat)→List (Nat × Nat)
 |v::l,u::m,r=>prS b v u (prL b l m r)
 |_,_,r=>r
def prA (b:Nat):Value→Value→List (Nat × Nat)→List (Nat × Nat)
 |.agg c,.agg c',r=>prL b c.toList c'.toList r
 |v,u,r=>prS b v u r
def aHO (b:Nat):List Value→List Value→List (Nat × Nat)→List (Nat × Nat)
 |v::l,u::m,r=>prA b v u (aHO b l m r)
 |_,_,r=>r
def prT (b:Nat):Value→Value→List (Nat × Nat)→List (Nat × Nat)
 |.tuple c,.tuple c',r=>aHO b c.toList c'.toList r
 |v,u,r=>prA b v u r
def prM (b:Nat):List (Value × Value)→List (Value × Value)→List (Nat × Nat)→List (Nat × Nat)
 |v::l,u::m,r=>prS b v.2 u.2 (prM b l m r)
 |_,_,r=>r
def prO (b:Nat):Option aT→Option aT→List (Nat × Nat)→List (Nat × Nat)
 |some (.cells _ _ _ cs),some (.cells _ _ _ cs'),r=>prL b cs cs' r
 |some (.map es),some (.map es'),r=>prM b es es' r
 |_,_,r=>r
def prE (b:Nat)(e':List (Nat × Value)):List (Nat × Value)→List (Nat × Nat)→List (Nat × Nat)
 |[],q=>q
 |(t,v)::r,q=>match look e' t with|some u=>prT b v u (prE b e' r q)|none=>prE b e' r q
def grow (b:Nat)(h h':Heap):Nat→List (Nat × Nat)→List (Nat × Nat)→List (Nat × Nat)
 |0,_,d=>d
 |_+1,[],d=>d
 |n+1,(j,k)::r,d=>match look d j with
  |some _=>grow b h h' n r d
  |none=>grow b h h' n (prO b (look h j) (look h' k) r) ((j,k)::d)
def aHk (b:Nat)(h':Heap):Heap→List (Nat × Nat)→List (Nat × Nat)
 |[],r=>r
 |(k,o)::l,r=>match Nat.blt k b with|true=>prO b (some o) (look h' k) (aHk b h' l r)|false=>aHk b h' l r
def aBN (b:Nat)(e e':List (Nat × Value))(h h':Heap):List (Nat × Nat):=grow b h h' 10000 (prE b e' e (aHk b h' h [])) []
def FY {α:Type}:List α→(List α→Bool)→Bool
 |[],k=>k []
 |x::r,k=>FY r fun r=>k (x::r)
theorem AR {α:Type}:∀ (l:List α) (k:List α→Bool),FY l k=k l
 |[],k=>rfl
 |x::r,k=>by rw [FY,AR r]
def QC:List (Nat × Value)→List Nat→List (Nat × Value)
 |[],_=>[]
 |(t,v)::r,seen=>match oE t seen with|true=>QC r seen|false=>(t,v)::QC r (t::seen)
def T2 (b:Nat)(ρ:List (Nat × Nat)):Heap→Heap
 |[]=>[]
 |(k,o)::r=>match Nat.blt k b with
  |true=>(k,o)::T2 b ρ r
  |false=>(match look ρ k with|some _=>(k,o)::T2 b ρ r|none=>T2 b ρ r)
end Go.Aw
end

noncomputable section
namespace Go.Aw
abbrev rK:=Value→Heap→Nat→Bool
abbrev oY:=List (Nat × Value)→Heap→Nat→Bool
abbrev uM:=Nat→List Value→Heap→Nat→rK→Bool
abbrev VRB:=Operand→Array Tmp→Code→Code→oY→(Nat→oY)→oY→oY
def pG (x:Option Value)(K:Value→Bool):Bool:=match x with|some v=>K v|none=>false
def wbr (b:Bool)(A B:Unit→Bool):Bool:=match b with|true=>A ()|false=>B ()
def dW (b:Bool)(A:Bool):Bool:=match b with|true=>A|false=>false
def UA (T:cK)(h:Heap)(t:TypeId)(x:Value)(K:Value→Bool):Bool :=
 match x with
 |.pointer (some ⟨k,o,none⟩) =>
  match look T t,look h k with
  |some ti,some (.cells _ _ _ cs) =>
   match ti.isAgg with
   |true=>(match m5 cs o ti.size with|some l=>K (.agg l.toArray)|none=>false)
   |false=>(match nth cs o with|some v=>K v|none=>false)
  |_,_=>false
 |_=>false
def vX (T:cK)(st:TypeId)(x:Value)(f:Nat)(K:Value→Bool):Bool :=
 match x,look T st with
 |.pointer (some ⟨k,o,none⟩),some { kind:=.st fs,.. } =>
  match fs[f]? with
  |some (off,ft)=>(match look T ft with|some _=>K (.pointer (some ⟨k,o+off,none⟩))|none=>false)
  |none=>false
 |_,_=>false
def vP (A:Ar)(T:cK)(t:TypeId)(x ix:Value)(K:Value→Bool):Bool :=
 match look T t,x,ix with
 |some { kind:=.sl e,.. },.slice (some ⟨k,o,none⟩) n _,.int _ i =>
  (match look T e with|some ei=>dW (A.andB (A.le 0 i) (A.lt i (A.num n))) (K (.pointer (some ⟨k,A.ix o i ei.size,none⟩)))|none=>false)
 |some { kind:=.ar n e,.. },.pointer (some ⟨k,o,none⟩),.int _ i =>
  (match look T e with|some ei=>dW (A.andB (A.le 0 i) (A.lt i (A.num n))) (K (.pointer (some ⟨k,A.ix o i ei.size,none⟩)))|none=>false)
 |_,_,_=>false
def VV (T:cK)(t:TypeId)(cs:List Value)(o:Nat)(K:Value→Bool):Bool :=
 match look T t with
 |some ti=>(match ti.isAgg with
  |true=>(match m5 cs o ti.size with|some l=>K (.agg l.toArray)|none=>false)
  |false=>(match nth cs o with|some v=>K v|none=>false))
 |none=>false
def RE (T:cK)(st:TypeId)(x:Value)(f:Nat)(K:Value→Bool):Bool :=
 match x,look T st with
 |.agg cs,some { kind:=.st fs,.. }=>(match fs[f]? with|some (off,ft)=>VV T ft cs.toList off K|none=>false)
 |_,_=>false
def RD (A:Ar)(T:cK)(t:TypeId)(x ix:Value)(K:Value→Bool):Bool :=
 match look T t,x,ix with
 |some { kind:=.ar n e,.. },.agg cs,.int _ i =>
  (match look T e with|some ei=>dW (A.andB (A.le 0 i) (A.lt i (A.num n))) (VV T e cs.toList (A.ix 0 i ei.size) K)|none=>false)
 |some { kind:=.str,.. },.string b,.int _ i=>(match (if 0≤i then b[i.toNat]? else none) with|some u=>K (.int .u8 (A.num u.toNat))|none=>false)
 |_,_,_=>false
def aJ2 (A:Ar)(op:BinOp)(k:IntKind)(a b:Int)(K:Value→Bool):Bool :=
 match op with
 |.add=>dW (A.fits k (A.add a b)) (K (.int k (A.add a b)))
 |.sub=>dW (A.fits k (A.sub a b)) (K (.int k (A.sub a b)))
 |.mul=>dW (A.fits k (A.mul a b)) (K (.int k (A.mul a b)))
 |.quo=>dW (A.andB (A.notB (A.eq b 0)) (A.fits k (A.quo a b))) (K (.int k (A.quo a b)))
 |.rem=>dW (A.notB (A.eq b 0)) (K (.int k (A.rem a b)))
 |.eql=>K (.bool (A.eq a b))
 |.neq=>K (.bool (A.notB (A.eq a b)))
 |.lss=>K (.bool (A.lt a b))
 |.leq=>K (.bool (A.le a b))
 |.gtr=>K (.bool (A.lt b a))
 |.geq=>K (.bool (A.le b a))
 |.xor=>dW (A.andB (A.andB (A.le 0 a) (A.le 0 b)) (A.andB (A.lt a (uE k)) (A.lt b (uE k)))) (K (.int k (A.num (A.bit .xor (A.toN a) (A.toN b)))))
 |.or=>dW (A.andB (A.andB (A.le 0 a) (A.le 0 b)) (A.andB (A.lt a (uE k)) (A.lt b (uE k)))) (K (.int k (A.num (A.bit .or (A.toN a) (A.toN b)))))
 |.and=>dW (A.andB (A.andB (A.le 0 a) (A.le 0 b)) (A.andB (A.lt a (uE k)) (A.lt b (uE k)))) (K (.int k (A.num (A.bit .and (A.toN a) (A.toN b)))))
 |_=>false
def aGK (A:Ar)(T:cK)(op:BinOp)(xt:TypeId)(x y:Value)(K:Value→Bool):Bool :=
 match x,y with
 |.int k a,.int k' b=>(match aEz op with
  |true=>dW (A.andB (A.le 0 a) (A.eq b 1)) (K (.int k (A.quo a 2)))
  |false=>(match kEq k k' with|true=>aJ2 A op k a b K|false=>false))
 |.bool a,.bool b=>(match op,look T xt with
  |.eql,some { kind:=.bool,.. }=>K (.bool (A.eqB a b))
  |.neq,some { kind:=.bool,.. }=>K (.bool (A.notB (A.eqB a b)))
  |_,_=>false)
 |.agg xs,.agg ys=>(match look T xt with
  |some _=>(match c9 xs.toList,c9 ys.toList with
   |true,true=>(match veq A T 100 xt (.agg xs) (.agg ys) with
    |some r=>(match op with
     |.eql=>K (.bool r)
     |.neq=>K (.bool (A.notB r))
     |_=>false)
    |none=>false)
   |_,_=>false)
  |none=>false)
 |_,_=>false
def aHn (T:cK)(h:Heap)(op:BinOp)(t:TypeId)(x:Value)(K:Value→Bool):Bool :=
 match look T t,aCJ h x,op with
 |some { kind:=.sl _,.. },some b,.eql=>K (.bool b)
 |some { kind:=.sl _,.. },some b,.neq=>K (.bool (!b))
 |_,_,_=>false
def wun (A:Ar)(op:UnOp)(x:Value)(K:Value→Bool):Bool :=
 match op,x with
 |.neg,.int k a=>dW (A.fits k (A.neg a)) (K (.int k (A.neg a)))
 |.not,.bool b=>K (.bool (A.notB b))
 |_,_=>false
def R0 (T:cK)(t:TypeId)(ps:List (Nat × Value))(K:Value→Bool):Bool :=
 match look T t with
 |some ti =>
  match (match ti.kind with|.st fs=>jK T fs|.ar _ e=>(look T e).isSome|_=>false),jU ps with
  |true,true=>(match AV (places T ti) ps ti.zv.cells.toList with
   |some cells=>K (.agg cells.toArray)
   |none=>false)
  |_,_=>false
 |none=>false
def GF (A:Ar)(T:cK)(b:Builtin)(ts:Array TypeId)(vs:List Value)(K:Value→Bool):Bool :=
 match b,ts.toList,vs with
 |.len,[t],[.slice _ n _]=>(match look T t with|some { kind:=.sl _,.. }=>K (.int .i64 (A.num n))|_=>false)
 |.cap,[t],[.slice none _ c]=>(match look T t with|some { kind:=.sl _,.. }=>K (.int .i64 (A.num c))|_=>false)
 |.max,_,v::r=>pG (U4 A.max v r) K
 |.min,_,v::r=>pG (U4 A.min v r) K
 |_,_,_=>false
def vA (A:Ar)(T:cK)(env:List (Nat × Value))(h:Heap)(op:Op)(K:Value→Bool):Bool :=
 match op with
 |.move x|.assign x=>pG (cW env x) K
 |.pick c a b=>pG (cW env c) fun u=>(match u with
  |.bool t=>wbr t (fun _=>pG (cW env a) K) (fun _=>pG (cW env b) K)
  |_=>false)
 |.nilCheck x=>pG (cW env x) fun u=>(match u with
  |.pointer (some a)=>K (.pointer (some a))
  |.func (.func f) fi c=>K (.func (.func f) fi c)
  |.func (.yield f) fi c=>K (.func (.yield f) fi c)
  |_=>false)
 |.load t x=>pG (cW env x) fun u=>UA T h t u K
 |.fieldAddr s x f=>pG (cW env x) fun u=>vX T s u f K
 |.field s x f=>pG (cW env x) fun u=>RE T s u f K
 |.indexAddr t x i=>pG (cW env x) fun u=>pG (cW env i) fun j=>vP A T t u j K
 |.index t x i=>pG (cW env x) fun u=>pG (cW env i) fun j=>RD A T t u j K
 |.binOp op t x y _=>pG (cW env x) fun u=>pG (cW env y) fun v=>(match v with
  |.slice none _ _=>aHn T h op t u K
  |_=>aGK A T op t u v K)
 |.unOp op _ x=>pG (cW env x) fun u=>wun A op u K
 |.convert s d x=>pG (cW env x) fun u=>(match u,look T s,look T d with
  |.int _ n,some _,some { kind:=.int k,.. }=>dW (A.fits k n) (K (.int k n))
  |_,_,_=>false)
 |.makeFunc fn first cap=>(match fn,first.toList with
  |.func f,[]=>(match yT env cap.toList with|some l=>K (.func (.func f) #[] l.toArray)|none=>false)
  |_,_=>false)
 |.extract x i=>pG (cW env x) fun u=>(match u with
  |.tuple vs=>pG (vs.toList[i]?) K
  |_=>false)
 |.build t ps=>(match jZ env ps.toList with|some l=>R0 T t l K|none=>false)
 |.call c=>(match c.callee with
  |.builtin b=>(match j7 env c.args.toList with|some vs=>GF A T b c.argTypes vs K|none=>false)
  |_=>false)
 |_=>false
def Q5 (T:cK)(h:Heap)(nx:Nat)(t:TypeId)(x v:Value)(K:rK):Bool :=
 match x with
 |.pointer (some ⟨k,o,none⟩) =>
  (match look T t,look h k with
  |some ti,some (.cells true _ sz cs) =>
   (match Nat.beq v.cells.size ti.size,(match v with|.tuple _=>false|_=>true) with
   |true,true=>dW (Nat.ble (o+v.cells.size) cs.length) (K undef (qJ h k (.cells true false sz (dE cs o v.cells.toList))) nx)
   |_,_=>false)
  |_,_=>false)
 |_=>false
def aGh (h:Heap)(nx:Nat)(v:Value)(K:rK):Bool :=
 match v with
 |.tuple _=>false
 |v=>K (.pointer (some ⟨nx,0,none⟩)) (cV h nx (.cells true false 1 v.cells.toList)) (nx+1)
def SR (T:cK)(h:Heap)(nx:Nat)(t:TypeId)(K:rK):Bool :=
 match look T t with
 |some ti=>K (.pointer (some ⟨nx,0,none⟩)) (cV h nx (.cells true false 1 ti.zv.cells.toList)) (nx+1)
 |none=>false
def rZ (T:cK)(h:Heap)(nx:Nat)(t:TypeId)(len:Nat)(ps:List (Nat × Value))(K:rK):Bool :=
 match look T t with
 |some { kind:=.sl e,.. } =>
  (match look T e with
  |some ei =>
   (match Nat.ble (len*ei.size) 1000000,jU ps with
   |true,true =>
    (match AV (fun i=>some (i*ei.size,ei.size)) ps (rep len ei.zv.cells.toList) with
    |some cells=>K (.slice (some ⟨nx,0,none⟩) len len) (cV h nx (.cells true false ei.size cells)) (nx+1)
    |none=>false)
   |_,_=>false)
  |none=>false)
 |_=>false
def whi (A:Ar)(n c:Nat)(hi:Option Value)(G:Nat→Bool):Bool :=
 match hi with
 |none=>G n
 |some (.int _ i)=>dW (A.andB (A.le 0 i) (A.le i (A.num c))) (G (A.toN i))
 |_=>false
def MF (A:Ar)(T:cK)(h:Heap)(nx:Nat)(t:TypeId)(x:Value)(lo hi mx:Option Value)(K:rK):Bool :=
 match look T t with
 |some { kind:=.sl e,.. } =>
  (match look T e with
  |none=>false
  |some ei =>
   match x,mx with
   |.slice none 0 0,none=>(match isZero lo,isZero hi with|true,true=>K (.slice none 0 0) h nx|_,_=>false)
   |.slice (some ⟨k,o,none⟩) n c,none =>
    whi A n c hi fun hN =>
     (match lo with
     |none=>K (.slice (some ⟨k,o,none⟩) hN c) h nx
     |some (.int _ l)=>dW (A.andB (A.andB (A.le 0 l) (A.le l (A.num hN))) (A.le (A.num hN) (A.num c)))
      (match look h k with
      |some (.cells _ _ _ _)=>dW (A.lt l (A.num c)) (K (.slice (some ⟨k,A.ix o l ei.size,none⟩) (A.subN hN (A.toN l)) (A.subN c (A.toN l))) h nx)
      |_=>false)
     |_=>false)
   |.slice (some ⟨k,o,none⟩) n c,some (.int _ 0) =>
    (match isZero lo,hi with|true,some (.int _ 0)=>K (.slice (some ⟨nx,0,none⟩) 0 0) (cV h nx .zero) (nx+1)|_,_=>false)
   |.slice (some ⟨k,o,none⟩) n c,some (.int _ m) =>
    (match lo,hi with
    |some (.int _ l),some (.int _ u)=>dW (A.andB (A.andB (A.le 0 l) (A.le l u)) (A.andB (A.le u m) (A.andB (A.le 1 m) (A.le m (A.num c))))) (K (.slice (some ⟨nx,0,none⟩) (A.subN (A.toN u) (A.toN l)) (A.subN (A.toN m) (A.toN l))) (WQ h nx k (A.ix o l ei.size) (A.subN (A.toN m) (A.toN l)*ei.size)) (nx+1))
    |none,some (.int _ u)=>dW (A.andB (A.le 0 u) (A.andB (A.le u m) (A.andB (A.le 1 m) (A.le m (A.num c))))) (K (.slice (some ⟨nx,0,none⟩) (A.toN u) (A.toN m)) (WQ h nx k o (A.toN m*ei.size)) (nx+1))
    |_,_=>false)
   |_,_=>false)
 |_=>false
def aHr (h:Heap)(sz:Nat)(x:Value)(G:Nat→List Value→Bool):Bool :=
 match x with
 |.slice none 0 0=>G 0 []
 |.slice (some ⟨k,o,none⟩) m _ =>
  (match look h k with
  |some (.cells _ _ _ cs)=>dW (Nat.ble (o+m*sz) cs.length) (G m ((cs.drop o).take (m*sz)))
  |some .zero=>(match m with|0=>G 0 []|_=>false)
  |_=>false)
 |_=>false
def MA (A:Ar)(T:cK)(h:Heap)(nx:Nat)(st xt:TypeId)(s x:Value)(K:rK):Bool :=
 match look T st,look T xt with
 |some { kind:=.sl e,.. },some { kind:=.int _,.. } =>
  (match look T e with
  |some ei=>(match s,x,Nat.ble ei.bytes 1000 with
   |.slice none 0 0,.int .i64 i,true=>dW (A.andB (A.lt 0 i) (A.le i 1000000000)) (K (.slice (some ⟨nx,0,none⟩) (A.toN i) (A.toN i)) (cV h nx (.cells true false ei.size (rep (A.toN i) ei.zv.cells.toList))) (nx+1))
   |_,_,_=>false)
  |none=>false)
 |some { kind:=.sl e,.. },some { kind:=.sl _,.. } =>
  (match look T e with
  |none=>false
  |some ei =>
   match Nat.ble ei.bytes 1000 with
   |false=>false
   |true =>
    aHr h ei.size x fun m src =>
     (match s with
     |.slice none 0 0=>wbr (Nat.beq m 0) (fun _=>K (.slice none 0 0) h nx)
      (fun _=>dW (Nat.ble m 1000000000) (K (.slice (some ⟨nx,0,none⟩) m m) (cV h nx (.cells true false ei.size src)) (nx+1)))
     |.slice (some ⟨k,o,none⟩) n c =>
      (match look h k with
      |some .zero=>(match n,c with
       |0,0=>wbr (Nat.beq m 0) (fun _=>K (.slice (some ⟨k,o,none⟩) 0 0) h nx)
        (fun _=>dW (Nat.ble m 1000000000) (K (.slice (some ⟨nx,0,none⟩) m m) (cV h nx (.cells true false ei.size src)) (nx+1)))
       |_,_=>false)
      |some (.cells true _ sz cs) =>
       wbr (Nat.ble (n+m) c)
        (fun _=>dW (Nat.ble (o+(n+m)*ei.size) cs.length) (K (.slice (some ⟨k,o,none⟩) (n+m) c) (qJ h k (.cells true false sz (dE cs (o+n*ei.size) src))) nx))
        (fun _=>dW (A.andB (A.andB (Nat.ble (n+m) 1000000000) (Nat.ble (o+n*ei.size) cs.length)) (A.andB (Nat.beq (o+c*ei.size) cs.length) (Nat.beq sz ei.size)))
         (K (.slice (some ⟨nx,0,none⟩) (n+m) (n+m)) (cV (rem h k) nx (.cells true false ei.size ((cs.drop o).take (n*ei.size)++src))) (nx+1)))
      |_=>false)
     |_=>false))
 |_,_=>false
def aAX (h:Heap)(nx:Nat)(K:rK):Bool:=K (.map (some nx)) (cV h nx (.map [])) (nx+1)
def vW (A:Ar)(T:cK)(h:Heap)(nx:Nat)(t:TypeId)(l c:Value)(K:rK):Bool :=
 match look T t,l,c with
 |some { kind:=.sl e,.. },.int .i64 i,.int .i64 j =>
  (match look T e with
  |some ei=>dW (A.andB (A.andB (A.le 0 i) (A.le i j)) (A.andB (A.le j 1000000000) (Nat.ble ei.bytes 1000)))
   (K (.slice (some ⟨nx,0,none⟩) (A.toN i) (A.toN j)) (cV h nx (.cells true false ei.size (rep (A.toN j) ei.zv.cells.toList))) (nx+1))
  |none=>false)
 |_,_,_=>false
def C7 (A:Ar)(T:cK)(h:Heap)(t:TypeId)(x key:Value)(ok:Bool)(K:Value→Bool):Bool :=
 match look T t,x,key with
 |some { kind:=.mp kt et,.. },.map (some k),.agg cs =>
  (match look T kt,look T et,look h k with
  |some { kind:=.st fs,.. },some ei,some (.map es) =>
   (match iD T cs.toList fs,c9 cs.toList,qN A T kt (.agg cs) es with
   |true,true,some r =>
    (match ok,r with
    |true,some v=>K (.tuple #[v,.bool true])
    |true,none=>K (.tuple #[ei.zv,.bool false])
    |false,some v=>K v
    |false,none=>K ei.zv)
   |_,_,_=>false)
  |_,_,_=>false)
 |_,_,_=>false
def vB (A:Ar)(T:cK)(h:Heap)(nx:Nat)(t:TypeId)(x key v:Value)(K:rK):Bool :=
 match look T t,x,key,(match v with|.agg _=>false|.tuple _=>false|_=>true) with
 |some { kind:=.mp kt _,.. },.map (some k),.agg cs,true =>
  (match look T kt,look h k with
  |some { kind:=.st fs,.. },some (.map es) =>
   (match iD T cs.toList fs,c9 cs.toList,qN A T kt (.agg cs) es with
   |true,true,some none=>K undef (qJ h k (.map (es++[(.agg cs,v)]))) nx
   |_,_,_=>false)
  |_,_=>false)
 |_,_,_,_=>false
def QN (T:cK)(h:Heap)(nx:Nat)(t:TypeId)(x:Value)(K:rK):Bool :=
 match look T t,x with
 |some { kind:=.sl _,.. },.slice none 0 0=>K (.tuple #[]) h nx
 |some { kind:=.sl e,.. },.slice (some ⟨k,o,none⟩) n _ =>
  (match n with
  |0=>K (.tuple #[]) h nx
  |_=>(match look T e,look h k with
   |some ei,some (.cells true _ sz cs)=>dW (Nat.ble (o+n*ei.size) cs.length) (K (.tuple #[]) (qJ h k (.cells true false sz (dE cs o (rep n ei.zv.cells.toList)))) nx)
   |_,_=>false))
 |_,_=>false
def wop (A:Ar)(T:cK)(C:uM)(Y:uM)(env:List (Nat × Value))(h:Heap)(nx:Nat)(op:Op)(K:rK):Bool :=
 match op with
 |.store t x y=>pG (cW env x) fun p=>pG (cW env y) fun v=>Q5 T h nx t p v K
 |.alloc t=>SR T h nx t K
 |.box _ x=>pG (cW env x) fun v=>aGh h nx v K
 |.buildSlice t n ps=>(match jZ env ps.toList with|some l=>rZ T h nx t n l K|none=>false)
 |.slice t x lo hi mx=>pG (cW env x) fun v=>(match kB env lo,kB env hi,kB env mx with
  |some l,some u,some m=>MF A T h nx t v l u m K
  |_,_,_=>false)
 |.makeMap _ none=>aAX h nx K
 |.makeSlice t l c=>pG (cW env l) fun l=>pG (cW env c) fun c=>vW A T h nx t l c K
 |.lookup t m k ok=>pG (cW env m) fun x=>pG (cW env k) fun y=>C7 A T h t x y ok (fun v=>K v h nx)
 |.mapUpdate t m k u=>pG (cW env m) fun x=>pG (cW env k) fun y=>pG (cW env u) fun v=>vB A T h nx t x y v K
 |.call c=>(match c.callee with
  |.builtin .append=>(match c.argTypes.toList,j7 env c.args.toList with|[st,xt],some [s,x]=>MA A T h nx st xt s x K|_,_=>false)
  |.builtin .clear=>(match c.argTypes.toList,j7 env c.args.toList with|[t],some [x]=>QN T h nx t x K|_,_=>false)
  |.builtin _=>vA A T env h op (fun v=>K v h nx)
  |.value f=>pG (cW env f) fun fv=>(match j7 env c.args.toList with
   |some l=>(match fv with
    |.func (.func g) first cap=>(match first.toList,qH cap.toList with
     |[],true=>C g (l++cap.toList) h nx K
     |_,_=>false)
    |.func (.yield q) first _=>(match first.toList with
     |[]=>Y q l h nx K
     |_=>false)
    |_=>false)
   |none=>false)
  |_=>false)
 |_=>vA A T env h op (fun v=>K v h nx)
def y7 (A:Ar)(ops:List Oper)(env:List (Nat × Value))(g:Option (Nat × Bool))(Y N:List (Nat × Value)→Bool):Bool :=
 match g with
 |none=>Y env
 |some (j,want)=>match eV ops j with
  |some o=>(match o.dst with
   |some t=>(match look env t with
    |some (.bool b)=>wbr (A.eqB b want) (fun _=>Y (put env t (.bool want))) (fun _=>N (put env t (.bool (!want))))
    |some (.tuple _)=>N env
    |_=>false)
   |none=>false)
  |none=>false
def F6 (tn:Nat)(env:List (Nat × Value))(dst:Option Nat)(v:Value)(K:List (Nat × Value)→Bool):Bool :=
 match dst with
 |none=>K env
 |some d=>match Nat.blt d tn with|true=>K (put env d v)|false=>false
def aCF (A:Ar)(T:cK)(C:uM)(Y:uM)(tn:Nat)(ops:List Oper):List Oper→List (Nat × Value)→Heap→Nat→oY→Bool
 |[],env,h,nx,K=>K env h nx
 |o :: r,env,h,nx,K=>y7 A ops env o.guard
    (fun env=>wop A T C Y env h nx o.op fun v h' nx'=>F6 tn env o.dst v fun env'=>aCF A T C Y tn ops r env' h' nx' K)
    (fun env=>F6 tn env o.dst undef fun env'=>aCF A T C Y tn ops r env' h nx K)
def D3 (A:Ar)(T:cK)(C:uM)(hJ:Heap)(nx:Nat)(env:List (Nat × Value))(op:Op)(K:Value→Bool):Bool :=
 match op with
 |.load _ _=>vA A T env hJ op K
 |.lookup t m k ok=>pG (cW env m) fun x=>pG (cW env k) fun y=>C7 A T hJ t x y ok K
 |.slice t x lo hi mx=>pG (cW env x) fun v=>(match kB env lo,kB env hi,kB env mx with
  |some l,some u,some m=>MF A T hJ nx t v l u m (fun v _ nx'=>match Nat.beq nx' nx with|true=>K v|false=>false)
  |_,_,_=>false)
 |.call c=>(match c.callee with
  |.builtin _=>vA A T env [] op K
  |.value f=>pG (cW env f) fun fv=>(match j7 env c.args.toList with
   |some l=>(match fv with
    |.func (.func g) first cap=>(match first.toList,qH cap.toList with
     |[],true=>C g (l++cap.toList) (eG hJ) nx (fun v _ _=>match gT v with|true=>K v|false=>false)
     |_,_=>false)
    |_=>false)
   |none=>false)
  |_=>false)
 |_=>vA A T env [] op K
def N7 (A:Ar)(T:cK)(C:uM)(tn:Nat)(ops:List Oper)(hJ:Heap)(nx:Nat):List Nat→List (Nat × Value)→(List (Nat × Value)→Bool)→Bool
 |[],env,K=>K env
 |i::r,env,K=>match eV ops i with
  |none=>false
  |some o=>y7 A ops env o.guard
   (fun env=>D3 A T C hJ nx env o.op fun v=>F6 tn env o.dst v fun env=>N7 A T C tn ops hJ nx r env K)
   (fun env=>F6 tn env o.dst undef fun env=>N7 A T C tn ops hJ nx r env K)
def CM (T:cK)(tn:Nat)(ops:List Oper):List Nat→List (Nat × Value)→Heap→Nat→oY→Bool
 |[],env,h,nx,K=>K env h nx
 |i::r,env,h,nx,K=>match eV ops i with
  |some { op:=.alloc t,dst:=some d,.. }=>(match look T t with
   |some ti=>F6 tn env (some d) (.pointer (some ⟨nx,0,none⟩)) fun env=>CM T tn ops r env (cV h nx (.cells true false 1 ti.zv.cells.toList)) (nx+1) K
   |none=>false)
  |_=>false
def OD (A:Ar)(T:cK)(C:uM)(Y:uM)(tn:Nat)(ops:List Oper)(hJ:Heap):List (Nat × Bool)→List (Nat × Value)→Heap→Nat→oY→Bool
 |[],env,h,nx,K=>K env h nx
 |(i,chk)::r,env,h,nx,K=>match eV ops i with
  |none=>false
  |some o=>y7 A ops env o.guard
   (fun env=>dW (xR env hJ chk o.op) (wop A T C Y env h nx o.op fun v h' nx'=>F6 tn env o.dst v fun env'=>OD A T C Y tn ops hJ r env' h' nx' K))
   (fun env=>F6 tn env o.dst undef fun env'=>OD A T C Y tn ops hJ r env' h nx K)
def S5 (A:Ar)(T:cK)(C:uM)(Y:uM)(tn:Nat)(ops:List Oper)(p:eZ)(env:List (Nat × Value))(h:Heap)(nx:Nat)(K:oY):Bool :=
 N7 A T C tn ops (G7 T ops env p h) nx p.head env fun env1 =>
  CM T tn ops p.allocs env1 h nx fun env2 h2 nx2 =>
   OD A T C Y tn ops (G7 T ops env p h) p.tail env2 h2 nx2 K
def ZJ (A:Ar)(T:cK)(C:uM)(Y:uM)(tn:Nat)(ops:List Oper)(o:Oper)(e:List (Nat × Value))(h:Heap)(nx:Nat)(K:oY):Bool :=
 y7 A ops e o.guard (fun e=>wop A T C Y e h nx o.op fun v h' nx'=>F6 tn e o.dst v fun e'=>K e' h' nx') (fun e=>F6 tn e o.dst undef fun e'=>K e' h nx)
def wall (F:Nat→Bool):List Nat→Bool
 |[]=>true
 |i::r=>F i&&wall F r
def aDr (A:Ar)(T:cK)(C:uM)(Y:uM)(tn:Nat)(ops:List Oper)(K:oY):Nat→List Nat→oY
 |0,_=>K
 |n+1,done=>fun e h nx=>match eJ ops done ops 0 with
  |[]=>K e h nx
  |i::r=>wall (fun j=>match eV ops j with|some o=>ZJ A T C Y tn ops o e h nx (aDr A T C Y tn ops K n (j::done))|none=>false) (i::r)
def KK (A:Ar)(T:cK)(C:uM)(Y:uM)(tn:Nat)(ops:List Oper)(K:oY):Nat→List Nat→oY
 |0,_=>K
 |n+1,done=>fun e h nx=>match eJ ops done ops 0 with
  |[]=>K e h nx
  |j::_=>(match eV ops j with|some o=>ZJ A T C Y tn ops o e h nx (KK A T C Y tn ops K n (j::done))|none=>false)
def aBi (A:Ar)(T:cK)(C:uM)(Y:uM)(tn:Nat)(ops:Array Oper)(e:List (Nat × Value))(h:Heap)(nx:Nat)(K:oY):Bool :=
 KK A T C Y tn ops.toList (fun e0 h0 n0=>FY (QC e0 []) fun e0=>FY (T2 nx (aBN nx e0 e0 h0 h0) h0) fun h0 =>
  aDr A T C Y tn ops.toList (fun e1 h1 _=>aCA nx (aBN nx e0 e1 h0 h1) e0 h0 n0 e1 h1) ops.size [] e h nx&&K e0 h0 n0) ops.size [] e h nx
def aBM (F:oY→oY):Nat→oY
 |0,_,_,_=>false
 |n+1,e,h,nx=>F (aBM F n) e h nx
def oX (A:Ar)(T:cK)(C:uM)(Y:uM)(tn:Nat)(PL:Nat→Option eZ)(M:Nat)(R:VRB):Code→oY→(Nat→oY)→oY→oY
 |.skip,kn,_,_=>kn
 |.region id ops draw,kn,_,_=>fun e h nx=>match draw with
  |false=>aCF A T C Y tn ops.toList ops.toList e h nx kn
  |true=>(match PL id with|some p=>S5 A T C Y tn ops.toList p e h nx kn|none=>aBi A T C Y tn ops e h nx kn)
 |.seq a b,kn,kx,kr=>oX A T C Y tn PL M R a (oX A T C Y tn PL M R b kn kx kr) kx kr
 |.cond c t f,kn,kx,kr=>fun e h nx=>match cW e c with
  |some (.bool b)=>wbr b (fun _=>oX A T C Y tn PL M R t kn kx kr e h nx) (fun _=>oX A T C Y tn PL M R f kn kx kr e h nx)
  |_=>false
 |.block id b,kn,kx,kr=>oX A T C Y tn PL M R b kn (fun j=>match Nat.beq j id with|true=>kn|false=>kx j) kr
 |.loop b,_,kx,kr=>aBM (fun k=>oX A T C Y tn PL M R b k kx kr) M
 |.rangeFunc g ps as bd,kn,kx,kr=>R g ps as bd kn kx kr
 |.exit id,_,kx,_=>kx id
 |.ret,_,_,kr=>kr
 |.label _,kn,_,_=>kn
 |.scope b,kn,kx,kr=>oX A T C Y tn PL M R b kn kx kr
 |_,_,_,_=>fun _ _ _=>false
def xE (T:cK)(e:List (Nat × Value))(h:Heap):List ResultVar→(List Value→Bool)→Bool
 |[],K=>K []
 |.tmp t::r,K=>pG (look e t) fun v=>xE T e h r fun l=>K (v::l)
 |.cell a t::r,K=>pG (look e a) fun p=>UA T h t p fun v=>xE T e h r fun l=>K (v::l)
def aI5 (T:cK)(fn:Func)(K:rK):oY:=fun e h nx=>xE T e h fn.results.toList fun l =>
 match l with
 |[v]=>K v h nx
 |l=>match IX l with|true=>K (.tuple l.toArray) h nx|false=>false
def aAs (C:uM)(f tn:Nat):VRB:=fun g ps as bd kn kx kr e h nx =>
 pG (cW e g) fun gv=>match gv with
  |.func (.func q) first cap=>(match first.toList,qH cap.toList with
   |[],true=>C q (.func (.yield (nx+1)) #[] #[]::cap.toList)
    (cV (cV h nx .deferred) (nx+1) (.loop { state:=.ready,pending:=none,fn:=f,env:=e,tn:=tn,params:=ps.toList,assign:=as,body:=bd,defers:=nx })) (nx+2) fun _ h' nx' =>
    (match look h' (nx+1),look h' nx with
    |some (.loop l),some .deferred=>(match l.state,l.pending with
     |.busy,_=>false
     |_,none=>kn e (gC h' nx) nx'
     |_,some (.exit id)=>kx id e (gC h' nx) nx'
     |_,some .ret=>kr e (gC h' nx) nx'
     |_,_=>false)
    |_,_=>false)
   |_,_=>false)
  |_=>false
def OV:VRB:=fun _ _ _ _ _ _ _ _ _ _=>false
def aBp (q:Nat)(K:rK)(j:Option Code):oY:=fun _ h nx =>
 match look h q with
 |some (.loop l)=>K (.bool j.isNone) (qJ h q (.loop { l with state:=if j.isNone then .ready else .done,pending:=j })) nx
 |_=>false
def SV (A:Ar)(T:cK)(C:uM)(Y:uM)(PL:Nat→Nat→Option eZ)(M:Nat):uM:=fun q args h nx K =>
 match look h q with
 |some (.loop l)=>(match sO l.tn l.env l.params args,dR (PL l.fn) l.assign&&dR (PL l.fn) l.body with
  |some e0,true=>oX A T C Y l.tn (PL l.fn) M OV l.assign (fun e1 h1 nx1 =>
   match look h1 q with
   |some (.loop l1)=>(match l1.state with
    |.ready=>oX A T C Y l.tn (PL l.fn) M OV l.body (aBp q K none) (fun id=>aBp q K (some (.exit id))) (aBp q K (some .ret)) e1 (qJ h1 q (.loop { l1 with state:=.busy })) nx1
    |_=>false)
   |_=>false) (fun _ _ _ _=>false) (fun _ _ _=>false) e0 h nx
  |_,_=>false)
 |_=>false
def Z2 (c:CP)(XB:Nat→Option (List Value→Heap→Nat→rK→Bool))(M:Nat)(C:uM)(Y:uM):uM:=fun f args h nx K =>
 match c.X f with
 |some _=>(match XB f with|some xb=>xb args h nx K|none=>false)
 |none=>match c.FT f with
  |none=>false
  |some fn=>(match fn.body,Nat.ble args.length fn.ntmps with
   |some b,true =>
    let fin:oY:=aI5 c.T fn fun v h' nx'=>K v h' nx'
    oX c.A c.T C Y fn.ntmps (c.PL f) M (aAs C f fn.ntmps) b fin (fun _ _ _ _=>false) fin (qC 0 args) h nx
   |_,_=>false)
def aIJ (h:Heap)(nx:Nat)(K:rK):rK:=fun v h' nx'=>match gT v with
 |true=>K v h nx
 |false=>K v (app (oK nx h' h') h) nx'
def aFO (PR:Nat→Bool)(C:uM):uM:=fun f args h nx K=>match PR f with
 |true=>C f args (eG h) nx (aIJ h nx K)
 |false=>C f args h nx K
def BJ (c:CP)(XB:Nat→Option (List Value→Heap→Nat→rK→Bool)):Nat→Bool→uM
 |0,_=>fun _ _ _ _ _=>false
 |d+1,false=>aFO c.PR (Z2 c XB c.M (BJ c XB d false) (BJ c XB d true))
 |d+1,true=>SV c.A c.T (BJ c XB d false) (BJ c XB d true) c.PL c.M
end Go.Aw
end
