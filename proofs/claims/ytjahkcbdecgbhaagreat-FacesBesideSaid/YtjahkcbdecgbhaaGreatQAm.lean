/-
  Parts of a proof. No condition.
-/
import Derived.Test.YtjahkcbdecgbhaaGreatQAj
set_option linter.unusedSimpArgs false
set_option linter.unusedVariables false
noncomputable section
namespace Go.Aw
open Go.RowKit
def aBx:Int→Int→Bool
 |.ofNat a,.ofNat b=>Nat.beq a b
 |.negSucc a,.negSucc b=>Nat.beq a b
 |_,_=>false
theorem aBk {a b:Int}(h:aBx a b=true):a=b:=by
 cases a <;> cases b <;> simp only [aBx] at h <;> first|cases h;done|rw [beq_true h]
def XJ:Bool→Bool→Bool
 |true,true=>true
 |false,false=>true
 |_,_=>false
theorem FP {a b:Bool}(h:XJ a b=true):a=b:=by cases a <;> cases b <;> first|rfl|cases h
def XT:Value→Value→Bool
 |.bool a,.bool b=>XJ a b
 |.int k a,.int j b=>kEq k j&&aBx a b
 |.slice none n c,.slice none n' c'=>Nat.beq n n'&&Nat.beq c c'
 |.slice (some ⟨a,o,none⟩) n c,.slice (some ⟨a',o',none⟩) n' c'=>Nat.beq a a'&&Nat.beq o o'&&Nat.beq n n'&&Nat.beq c c'
 |.pointer none,.pointer none=>true
 |.pointer (some ⟨a,o,none⟩),.pointer (some ⟨a',o',none⟩)=>Nat.beq a a'&&Nat.beq o o'
 |.map none,.map none=>true
 |.map (some a),.map (some a')=>Nat.beq a a'
 |.nilFunc,.nilFunc=>true
 |.nilIface,.nilIface=>true
 |_,_=>false
theorem OJ {v u:Value}(h:XT v u=true):v=u:=by
 unfold XT at h;split at h
 ·rw [FP h]
 ·simp only [Bool.and_eq_true] at h;rw [qB h.1,aBk h.2]
 ·simp only [Bool.and_eq_true] at h;rw [beq_true h.1,beq_true h.2]
 ·simp only [Bool.and_eq_true] at h;obtain⟨⟨⟨h1,h2⟩,h3⟩,h4⟩:=h;rw [beq_true h1,beq_true h2,beq_true h3,beq_true h4]
 ·rfl
 ·simp only [Bool.and_eq_true] at h;rw [beq_true h.1,beq_true h.2]
 ·rfl
 ·rw [beq_true h]
 ·rfl
 ·rfl
 ·cases h
def FO:List Value→List Value→Bool
 |[],[]=>true
 |a::r,b::s=>XT a b&&FO r s
 |_,_=>false
theorem BG:∀ {l m:List Value},FO l m=true→l=m
 |[],[],_=>rfl
 |[],_::_,h=>by cases h
 |_::_,[],h=>by cases h
 |a::r,b::s,h=>by
  simp only [FO,Bool.and_eq_true] at h;rw [OJ h.1,BG h.2]
def TR:Fn→Fn→Bool
 |.func a,.func b=>Nat.beq a b
 |.yield a,.yield b=>Nat.beq a b
 |_,_=>false
theorem YH {f g:Fn}(h:TR f g=true):f=g:=by
 unfold TR at h;split at h
 ·rw [beq_true h]
 ·rw [beq_true h]
 ·cases h
def PV:Value→Value→Bool
 |.func f a c,.func f' a' c'=>TR f f'&&FO a.toList a'.toList&&FO c.toList c'.toList
 |a,b=>XT a b
theorem G9 {v u:Value}(h:PV v u=true):v=u:=by
 unfold PV at h;split at h
 ·simp only [Bool.and_eq_true] at h;obtain⟨⟨h1,h2⟩,h3⟩:=h;rw [YH h1,show _=_ from Array.ext' (BG h2),show _=_ from Array.ext' (BG h3)]
 ·exact OJ h
def J9:List Value→List Value→Bool
 |[],[]=>true
 |a::r,b::s=>PV a b&&J9 r s
 |_,_=>false
theorem AN:∀ {l m:List Value},J9 l m=true→l=m
 |[],[],_=>rfl
 |[],_::_,h=>by cases h
 |_::_,[],h=>by cases h
 |a::r,b::s,h=>by
  simp only [J9,Bool.and_eq_true] at h;rw [G9 h.1,AN h.2]
def NX:Value→Value→Bool
 |.agg a,.agg b=>J9 a.toList b.toList
 |a,b=>PV a b
theorem HG {v u:Value}(h:NX v u=true):v=u:=by
 unfold NX at h;split at h
 ·rw [show _=_ from Array.ext' (AN h)]
 ·exact G9 h
def L7:List Value→List Value→Bool
 |[],[]=>true
 |a::r,b::s=>NX a b&&L7 r s
 |_,_=>false
theorem JT:∀ {l m:List Value},L7 l m=true→l=m
 |[],[],_=>rfl
 |[],_::_,h=>by cases h
 |_::_,[],h=>by cases h
 |a::r,b::s,h=>by
  simp only [L7,Bool.and_eq_true] at h;rw [HG h.1,JT h.2]
def QX:Value→Value→Bool
 |.tuple a,.tuple b=>L7 a.toList b.toList
 |a,b=>NX a b
theorem EN {v u:Value}(h:QX v u=true):v=u:=by
 unfold QX at h;split at h
 ·rw [show _=_ from Array.ext' (JT h)]
 ·exact HG h
def aFD (n:Nat):Value→Bool
 |.slice (some a) _ _=>Nat.blt a.block n
 |.pointer (some a)=>Nat.blt a.block n
 |.map (some k)=>Nat.blt k n
 |v=>gS v
theorem U6 {n:Nat}{v:Value}(h:aFD n v=true):oK (lW id) n v:=by
 unfold aFD at h;split at h
 ·exact⟨Nat.le_of_ble_eq_true h,fun e=>by cases e⟩
 ·exact⟨Nat.le_of_ble_eq_true h,rfl⟩
 ·exact⟨Nat.le_of_ble_eq_true h,rfl⟩
 ·cases v <;> simp [gS] at h <;> first|trivial|(rename_i a;cases a <;> simp [gS] at h <;> trivial)|(simp [oK];done)|skip
  all_goals (first|(rename_i a _ _;cases a <;> simp [gS] at h <;> simp [oK])|skip)
def aFB (n:Nat):List Value→Bool
 |[]=>true
 |v::r=>aFD n v&&aFB n r
theorem UO {n:Nat}:∀ {l:List Value},aFB n l=true→∀ v∈l,oK (lW id) n v
 |[],_,v,hv=>by cases hv
 |x::r,h,v,hv=>by
  simp only [aFB,Bool.and_eq_true] at h;cases hv with
  |head=>exact U6 h.1
  |tail _ hm=>exact UO h.2 v hm
def aHO (n:Nat):Fn→Bool
 |.func _=>true
 |.yield l=>Nat.blt l n
 |_=>false
theorem aFq {n:Nat}{f:Fn}(h:aHO n f=true):S7 (lW id) n f:=by
 unfold aHO at h;split at h
 ·trivial
 ·exact⟨Nat.le_of_ble_eq_true h,rfl⟩
 ·cases h
def aBS (n:Nat):Value→Bool
 |.func f _ c=>aHO n f&&aFB n c.toList
 |v=>aFD n v
theorem dS {n:Nat}{v:Value}(h:aBS n v=true):B3 n v:=by
 unfold aBS at h;split at h
 ·simp only [Bool.and_eq_true] at h;exact⟨aFq h.1,UO h.2⟩
 ·rename_i hf;have h2:=U6 h;cases v <;> first|exact h2|exact absurd rfl (hf _ _ _)
def R5 (n:Nat):List Value→Bool
 |[]=>true
 |v::r=>aBS n v&&R5 n r
theorem oV {n:Nat}:∀ {l:List Value},R5 n l=true→∀ v∈l,B3 n v
 |[],_,v,hv=>by cases hv
 |x::r,h,v,hv=>by
  simp only [R5,Bool.and_eq_true] at h;cases hv with
  |head=>exact dS h.1
  |tail _ hm=>exact oV h.2 v hm
def aDs (n:Nat):Value→Bool
 |.agg c=>R5 n c.toList
 |v=>aBS n v
theorem WV {n:Nat}{v:Value}(h:aDs n v=true):lC (lW id) n v:=by
 unfold aDs at h;split at h
 ·exact fun x hx=>oV h x hx
 ·exact jD (dS h)
def VA (n:Nat):List Value→Bool
 |[]=>true
 |v::r=>aDs n v&&VA n r
theorem NS {n:Nat}:∀ {l:List Value},VA n l=true→∀ v∈l,lC (lW id) n v
 |[],_,v,hv=>by cases hv
 |x::r,h,v,hv=>by
  simp only [VA,Bool.and_eq_true] at h;cases hv with
  |head=>exact WV h.1
  |tail _ hm=>exact NS h.2 v hm
def aAJ (n:Nat):Value→Bool
 |.tuple c=>VA n c.toList
 |v=>aDs n v
theorem rU {n:Nat}{v:Value}(h:aAJ n v=true):BB n v:=by
 unfold aAJ at h;split at h
 ·exact fun x hx=>NS h x hx
 ·exact mD (WV h)
def nm (ρ:List (Nat × Nat))(k:Nat):Nat:=match look ρ k with|some j=>j|none=>k
def WO (σ:Nat→Nat)(m:Nat):List (Value × Value)→List (Value × Value)→Bool
 |[],[]=>true
 |a::r,b::s=>NX b.1 a.1&&PV b.2 (bP σ a.2)&&aBS m a.2&&WO σ m r s
 |_,_=>false
theorem PD {σ:Nat→Nat}{m:Nat}:∀ {l l':List (Value × Value)},WO σ m l l'=true→l'=l.map (fun e=>(e.1,bP σ e.2))∧∀ e∈l,B3 m e.2
 |[],[],_=>⟨rfl,fun e he=>by cases he⟩
 |[],_::_,h=>by cases h
 |_::_,[],h=>by cases h
 |a::r,b::s,h=>by
  simp only [WO,Bool.and_eq_true] at h;obtain⟨⟨⟨h1,h2⟩,h3⟩,h4⟩:=h;obtain⟨i1,i2⟩:=PD h4;refine⟨?_,fun e he=>?_⟩
  ·rw [List.map_cons,← i1,← HG h1,← G9 h2]
  ·cases he with
   |head=>exact dS h3
   |tail _ hm=>exact i2 e hm
def aAS (σ:Nat→Nat)(m:Nat):aX→aX→Bool
 |.cells wr g sz cs,.cells wr' g' sz' cs'=>R5 m cs&&XJ wr wr'&&XJ g g'&&Nat.beq sz sz'&&J9 cs' (cs.map (bP σ))
 |.map es,.map es'=>WO σ m es es'
 |.zero,.zero=>true
 |_,_=>false
theorem aCw {σ:Nat→Nat}{m:Nat}{o o':aX}(h:aAS σ m o o'=true):bT σ m o o':=by
 unfold aAS at h;split at h
 ·simp only [Bool.and_eq_true] at h;obtain⟨⟨⟨⟨h1,h2⟩,h3⟩,h4⟩,h5⟩:=h;exact⟨FP h2,FP h3,beq_true h4,AN h5,oV h1⟩
 ·exact PD h
 ·trivial
 ·cases h
def V0 (b:Nat)(ρ:List (Nat × Nat))(m:Nat)(h':Heap):Heap→Bool
 |[]=>true
 |(k,o)::r=>Nat.blt k m&&(match Nat.blt k b with|true=>true|false=>(match look ρ k with|some _=>true|none=>false))&&(match look h' (nm ρ k) with|some o'=>aAS (nm ρ) m o o'|none=>false)&&V0 b ρ m h' r
theorem NG {b:Nat}{ρ:List (Nat × Nat)}{m:Nat}{h':Heap}:∀ {h:Heap},V0 b ρ m h' h=true→∀ k o,look h k=some o→k<m∧(b≤k→∃ j,look ρ k=some j)∧∃ o',look h' (nm ρ k)=some o'∧bT (nm ρ) m o o'
 |[],_,k,o,hk=>by cases hk
 |(j,q)::r,h,k,o,hk=>by
  simp only [V0,Bool.and_eq_true] at h;obtain⟨⟨⟨h1,h2⟩,h3⟩,h4⟩:=h;rw [aE] at hk;split at hk
  ·rename_i hb;have:=beq_true hb;subst this;injection hk with hk;subst hk;refine⟨Nat.le_of_ble_eq_true h1,fun hb=>?_,?_⟩
   ·split at h2
    ·rename_i hlt;have:=Nat.le_of_ble_eq_true hlt;omega
    ·split at h2
     ·rename_i x hx;exact⟨x,hx⟩
     ·cases h2
   ·split at h3
    ·rename_i o' ho';exact⟨o',ho',aCw h3⟩
    ·cases h3
  ·exact NG h4 k o hk
theorem VZ {α:Type}{k:Nat}{o:α}{p:Prop}(h:look [] k=some o):p:=by cases h
def aF8 (b:Nat):List (Nat × Nat)→Bool
 |[]=>true
 |(k,j)::r=>Nat.ble b k&&Nat.ble b j&&!(pM j (r.map (·.2)))&&aF8 b r
theorem UA {b:Nat}:∀ {ρ:List (Nat × Nat)},aF8 b ρ=true→(∀ k j,look ρ k=some j→b≤k∧b≤j∧j∈ρ.map (·.2))∧∀ k k' j,look ρ k=some j→look ρ k'=some j→k=k'
 |[],_=>⟨fun k j h=>VZ h,fun k k' j h=>VZ h⟩
 |(a,c)::r,h=>by
  simp only [aF8,Bool.and_eq_true,Bool.not_eq_true'] at h;obtain⟨⟨⟨h1,h2⟩,h3⟩,h4⟩:=h;obtain⟨i1,i2⟩:=UA h4;have h1:=Nat.le_of_ble_eq_true h1;have h2:=Nat.le_of_ble_eq_true h2;have hn:c∉r.map (·.2):=fun hm=>(by rw [dM.2 hm] at h3;cases h3);refine⟨fun k j hl=>?_,fun k k' j hl hl'=>?_⟩
  ·rw [aE] at hl;split at hl
   ·rename_i hb;injection hl with hl;subst hl;rw [← beq_true hb];exact⟨h1,h2,.head _⟩
   ·obtain⟨q1,q2,q3⟩:=i1 k j hl;exact⟨q1,q2,.tail _ q3⟩
  ·rw [aE] at hl hl';split at hl <;> split at hl'
   ·rename_i hb _ hb';exact (beq_true hb).symm.trans (beq_true hb')
   ·injection hl with hl;subst hl;exact absurd (i1 k' _ hl').2.2 hn
   ·injection hl' with hl';subst hl';exact absurd (i1 k _ hl).2.2 hn
   ·exact i2 k k' j hl hl'
def aEr (ρ:List (Nat × Nat))(m:Nat)(e':List (Nat × Value)):List (Nat × Value)→Bool
 |[]=>true
 |(t,v)::r=>(match look e' t with|some v'=>QX v' (iQ (nm ρ) v)|none=>false)&&aAJ m v&&aEr ρ m e' r
theorem U4 {ρ:List (Nat × Nat)}{m:Nat}{e':List (Nat × Value)}:∀ {e:List (Nat × Value)},aEr ρ m e' e=true→∀ t v,look e t=some v→look e' t=some (iQ (nm ρ) v)∧BB m v
 |[],_,t,v,h=>by cases h
 |(j,q)::r,h,t,v,hl=>by
  simp only [aEr,Bool.and_eq_true] at h;obtain⟨⟨h1,h2⟩,h3⟩:=h;rw [aE] at hl;split at hl
  ·rename_i hb;have:=beq_true hb;subst this;injection hl with hl;subst hl;refine⟨?_,rU h2⟩;split at h1
   ·rename_i v' hv';rw [hv',EN h1]
   ·cases h1
  ·exact U4 h3 t v hl
def aFk (b:Nat)(ρ:List (Nat × Nat))(e0:List (Nat × Value))(h0:Heap)(n0:Nat)(e:List (Nat × Value))(h:Heap):Bool :=
 Nat.ble b n0&&aF8 b ρ&&aEr ρ n0 e e0&&V0 b ρ n0 h h0
theorem UH {b:Nat}{ρ:List (Nat × Nat)}{e0:List (Nat × Value)}{h0:Heap}{n0:Nat}{e:List (Nat × Value)}{h:Heap}{nx:Nat}(hb:aFk b ρ e0 h0 n0 e h=true):qH b (nm ρ) e0 h0 n0 e h nx:=by
 simp only [aFk,Bool.and_eq_true] at hb;obtain⟨⟨⟨h1,h2⟩,h3⟩,h4⟩:=hb;obtain⟨r1,r2⟩:=UA h2;have hh:=NG h4;have hfix:∀ k,k<b→nm ρ k=k:=fun k hk=>by
  unfold nm;split
  ·rename_i j hj;have:=(r1 k j hj).1;omega
  ·rfl
 refine⟨U4 h3,fun k o hk=>⟨(hh k o hk).1,(hh k o hk).2.2⟩,fun k k' o o' hk hk' he=>?_,hfix,Nat.le_of_ble_eq_true h1⟩;have a1:=(hh k o hk).2.1;have a2:=(hh k' o' hk').2.1;by_cases c1:k<b <;> by_cases c2:k'<b
 ·rw [hfix k c1,hfix k' c2] at he;exact he
 ·obtain⟨j,hj⟩:=a2 (by omega);have hn:nm ρ k'=j:=(by unfold nm;rw [hj]);have:=(r1 k' j hj).2.1;rw [hfix k c1,hn] at he;omega
 ·obtain⟨j,hj⟩:=a1 (by omega);have hn:nm ρ k=j:=(by unfold nm;rw [hj]);have:=(r1 k j hj).2.1;rw [hfix k' c2,hn] at he;omega
 ·obtain⟨j,hj⟩:=a1 (by omega);obtain⟨j',hj'⟩:=a2 (by omega);have hn:nm ρ k=j:=(by unfold nm;rw [hj]);have hn':nm ρ k'=j':=(by unfold nm;rw [hj']);rw [hn,hn'] at he;subst he;exact r2 k k' j hj hj'
def prP (b:Nat):Value→Value→List (Nat × Nat)→List (Nat × Nat)
 |.slice (some a) _ _,.slice (some c) _ _,r=>(match Nat.ble b a.block with|true=>(a.block,c.block)::r|false=>r)
 |.pointer (some a),.pointer (some c),r=>(match Nat.ble b a.block with|true=>(a.block,c.block)::r|false=>r)
 |.map (some a),.map (some c),r=>(match Nat.ble b a with|true=>(a,c)::r|false=>r)
 |_,_,r=>r
def aKd (b:Nat):List Value→List Value→List (Nat × Nat)→List (Nat × Nat)
 |v::l,u::m,r=>prP b v u (aKd b l m r)
 |_,_,r=>r
def prS (b:Nat):Value→Value→List (Nat × Nat)→List (Nat × Nat)
 |.func _ _ c,.func _ _ c',r=>aKd b c.toList c'.toList r
 |v,u,r=>prP b v u r
def prL (b:Nat):List Value→List Value→List (Nat × Nat)→List (Nat × Nat)
 |v::l,u::m,r=>prS b v u (prL b l m r)
 |_,_,r=>r
def prA (b:Nat):Value→Value→List (Nat × Nat)→List (Nat × Nat)
 |.agg c,.agg c',r=>prL b c.toList c'.toList r
 |v,u,r=>prS b v u r
def aK8 (b:Nat):List Value→List Value→List (Nat × Nat)→List (Nat × Nat)
 |v::l,u::m,r=>prA b v u (aK8 b l m r)
 |_,_,r=>r
def prT (b:Nat):Value→Value→List (Nat × Nat)→List (Nat × Nat)
 |.tuple c,.tuple c',r=>aK8 b c.toList c'.toList r
 |v,u,r=>prA b v u r
def prM (b:Nat):List (Value × Value)→List (Value × Value)→List (Nat × Nat)→List (Nat × Nat)
 |v::l,u::m,r=>prS b v.2 u.2 (prM b l m r)
 |_,_,r=>r
def prO (b:Nat):Option aX→Option aX→List (Nat × Nat)→List (Nat × Nat)
 |some (.cells _ _ _ cs),some (.cells _ _ _ cs'),r=>prL b cs cs' r
 |some (.map es),some (.map es'),r=>prM b es es' r
 |_,_,r=>r
def prE (b:Nat)(e':List (Nat × Value)):List (Nat × Value)→List (Nat × Nat)→List (Nat × Nat)
 |[],q=>q
 |(t,v)::r,q=>match look e' t with|some u=>prT b v u (prE b e' r q)|none=>prE b e' r q
def grow (b:Nat)(h h':Heap):Nat→List (Nat × Nat)→List (Nat × Nat)→List (Nat × Nat)
 |0,_,d=>d
 |_+1,[],d=>d
 |n+1,(j,k)::r,d=>match look d j with
  |some _=>grow b h h' n r d
  |none=>grow b h h' n (prO b (look h j) (look h' k) r) ((j,k)::d)
def aHZ (b:Nat)(h':Heap):Heap→List (Nat × Nat)→List (Nat × Nat)
 |[],r=>r
 |(k,o)::l,r=>match Nat.blt k b with|true=>prO b (some o) (look h' k) (aHZ b h' l r)|false=>aHZ b h' l r
def aA8 (b:Nat)(e e':List (Nat × Value))(h h':Heap):List (Nat × Nat):=grow b h h' 10000 (prE b e' e (aHZ b h' h [])) []
def FW {α:Type}:List α→(List α→Bool)→Bool
 |[],k=>k []
 |x::r,k=>FW r fun r=>k (x::r)
theorem BD {α:Type}:∀ (l:List α) (k:List α→Bool),FW l k=k l
 |[],k=>rfl
 |x::r,k=>by rw [FW,BD r]
def S8:List (Nat × Value)→List Nat→List (Nat × Value)
 |[],_=>[]
 |(t,v)::r,seen=>match pM t seen with|true=>S8 r seen|false=>(t,v)::S8 r (t::seen)
def VK (b:Nat)(ρ:List (Nat × Nat)):Heap→Heap
 |[]=>[]
 |(k,o)::r=>match Nat.blt k b with
  |true=>(k,o)::VK b ρ r
  |false=>(match look ρ k with|some _=>(k,o)::VK b ρ r|none=>VK b ρ r)
end Go.Aw
end

noncomputable section
namespace Go.Aw
abbrev sX:=Value→Heap→Nat→Bool
abbrev qL:=List (Nat × Value)→Heap→Nat→Bool
abbrev wL:=Nat→List Value→Heap→Nat→sX→Bool
abbrev VRB:=Operand→Array Tmp→Code→Code→qL→(Nat→qL)→qL→qL
def qS (x:Option Value)(K:Value→Bool):Bool:=match x with|some v=>K v|none=>false
def wbr (b:Bool)(A B:Unit→Bool):Bool:=match b with|true=>A ()|false=>B ()
def eF (b:Bool)(A:Bool):Bool:=match b with|true=>A|false=>false
def UE (T:cU)(h:Heap)(t:TypeId)(x:Value)(K:Value→Bool):Bool :=
 match x with
 |.pointer (some ⟨k,o,none⟩) =>
  match look T t,look h k with
  |some ti,some (.cells _ _ _ cs) =>
   match ti.isAgg with
   |true=>(match nR cs o ti.size with|some l=>K (.agg l.toArray)|none=>false)
   |false=>(match nth cs o with|some v=>K v|none=>false)
  |_,_=>false
 |_=>false
def xA (T:cU)(st:TypeId)(x:Value)(f:Nat)(K:Value→Bool):Bool :=
 match x,look T st with
 |.pointer (some ⟨k,o,none⟩),some { kind:=.st fs,.. } =>
  match fs[f]? with
  |some (off,ft)=>(match look T ft with|some _=>K (.pointer (some ⟨k,o+off,none⟩))|none=>false)
  |none=>false
 |_,_=>false
def wZ (A:Ar)(T:cU)(t:TypeId)(x ix:Value)(K:Value→Bool):Bool :=
 match look T t,x,ix with
 |some { kind:=.sl e,.. },.slice (some ⟨k,o,none⟩) n _,.int _ i =>
  (match look T e with|some ei=>eF (A.andB (A.le 0 i) (A.lt i (A.num n))) (K (.pointer (some ⟨k,A.ix o i ei.size,none⟩)))|none=>false)
 |some { kind:=.ar n e,.. },.pointer (some ⟨k,o,none⟩),.int _ i =>
  (match look T e with|some ei=>eF (A.andB (A.le 0 i) (A.lt i (A.num n))) (K (.pointer (some ⟨k,A.ix o i ei.size,none⟩)))|none=>false)
 |_,_,_=>false
def UY (T:cU)(t:TypeId)(cs:List Value)(o:Nat)(K:Value→Bool):Bool :=
 match look T t with
 |some ti=>(match ti.isAgg with
  |true=>(match nR cs o ti.size with|some l=>K (.agg l.toArray)|none=>false)
  |false=>(match nth cs o with|some v=>K v|none=>false))
 |none=>false
def TV (T:cU)(st:TypeId)(x:Value)(f:Nat)(K:Value→Bool):Bool :=
 match x,look T st with
 |.agg cs,some { kind:=.st fs,.. }=>(match fs[f]? with|some (off,ft)=>UY T ft cs.toList off K|none=>false)
 |_,_=>false
def SO (A:Ar)(T:cU)(t:TypeId)(x ix:Value)(K:Value→Bool):Bool :=
 match look T t,x,ix with
 |some { kind:=.ar n e,.. },.agg cs,.int _ i =>
  (match look T e with|some ei=>eF (A.andB (A.le 0 i) (A.lt i (A.num n))) (UY T e cs.toList (A.ix 0 i ei.size) K)|none=>false)
 |some { kind:=.str,.. },.string b,.int _ i=>(match (if 0≤i then b[i.toNat]? else none) with|some u=>K (.int .u8 (A.num u.toNat))|none=>false)
 |_,_,_=>false
def aJP (A:Ar)(op:BinOp)(k:IntKind)(a b:Int)(K:Value→Bool):Bool :=
 match op with
 |.add=>eF (A.fits k (A.add a b)) (K (.int k (A.add a b)))
 |.sub=>eF (A.fits k (A.sub a b)) (K (.int k (A.sub a b)))
 |.mul=>eF (A.fits k (A.mul a b)) (K (.int k (A.mul a b)))
 |.quo=>eF (A.andB (A.notB (A.eq b 0)) (A.fits k (A.quo a b))) (K (.int k (A.quo a b)))
 |.rem=>eF (A.notB (A.eq b 0)) (K (.int k (A.rem a b)))
 |.eql=>K (.bool (A.eq a b))
 |.neq=>K (.bool (A.notB (A.eq a b)))
 |.lss=>K (.bool (A.lt a b))
 |.leq=>K (.bool (A.le a b))
 |.gtr=>K (.bool (A.lt b a))
 |.geq=>K (.bool (A.le b a))
 |.xor=>eF (A.andB (A.andB (A.le 0 a) (A.le 0 b)) (A.andB (A.lt a (vY k)) (A.lt b (vY k)))) (K (.int k (A.num (A.bit .xor (A.toN a) (A.toN b)))))
 |.or=>eF (A.andB (A.andB (A.le 0 a) (A.le 0 b)) (A.andB (A.lt a (vY k)) (A.lt b (vY k)))) (K (.int k (A.num (A.bit .or (A.toN a) (A.toN b)))))
 |.and=>eF (A.andB (A.andB (A.le 0 a) (A.le 0 b)) (A.andB (A.lt a (vY k)) (A.lt b (vY k)))) (K (.int k (A.num (A.bit .and (A.toN a) (A.toN b)))))
 |_=>false
def aHA (A:Ar)(T:cU)(op:BinOp)(xt:TypeId)(x y:Value)(K:Value→Bool):Bool :=
 match x,y with
 |.int k a,.int k' b=>(match aGw op with
  |true=>eF (A.andB (A.le 0 a) (A.eq b 1)) (K (.int k (A.quo a 2)))
  |false=>(match kEq k k' with|true=>aJP A op k a b K|false=>false))
 |.bool a,.bool b=>(match op,look T xt with
  |.eql,some { kind:=.bool,.. }=>K (.bool (A.eqB a b))
  |.neq,some { kind:=.bool,.. }=>K (.bool (A.notB (A.eqB a b)))
  |_,_=>false)
 |.agg xs,.agg ys=>(match look T xt with
  |some _=>(match dG xs.toList,dG ys.toList with
   |true,true=>(match veq A T 100 xt (.agg xs) (.agg ys) with
    |some r=>(match op with
     |.eql=>K (.bool r)
     |.neq=>K (.bool (A.notB r))
     |_=>false)
    |none=>false)
   |_,_=>false)
  |none=>false)
 |_,_=>false
def aJc (T:cU)(h:Heap)(op:BinOp)(t:TypeId)(x:Value)(K:Value→Bool):Bool :=
 match look T t,aDr h x,op with
 |some { kind:=.sl _,.. },some b,.eql=>K (.bool b)
 |some { kind:=.sl _,.. },some b,.neq=>K (.bool (!b))
 |_,_,_=>false
def wun (A:Ar)(op:UnOp)(x:Value)(K:Value→Bool):Bool :=
 match op,x with
 |.neg,.int k a=>eF (A.fits k (A.neg a)) (K (.int k (A.neg a)))
 |.not,.bool b=>K (.bool (A.notB b))
 |_,_=>false
def SK (T:cU)(t:TypeId)(ps:List (Nat × Value))(K:Value→Bool):Bool :=
 match look T t with
 |some ti =>
  match (match ti.kind with|.st fs=>kI T fs|.ar _ e=>(look T e).isSome|_=>false),kT ps with
  |true,true=>(match CN (places T ti) ps ti.zv.cells.toList with
   |some cells=>K (.agg cells.toArray)
   |none=>false)
  |_,_=>false
 |none=>false
def ES (A:Ar)(T:cU)(b:Builtin)(ts:Array TypeId)(vs:List Value)(K:Value→Bool):Bool :=
 match b,ts.toList,vs with
 |.len,[t],[.slice _ n _]=>(match look T t with|some { kind:=.sl _,.. }=>K (.int .i64 (A.num n))|_=>false)
 |.cap,[t],[.slice none _ c]=>(match look T t with|some { kind:=.sl _,.. }=>K (.int .i64 (A.num c))|_=>false)
 |.max,_,v::r=>qS (WW A.max v r) K
 |.min,_,v::r=>qS (WW A.min v r) K
 |_,_,_=>false
def wF (A:Ar)(T:cU)(env:List (Nat × Value))(h:Heap)(op:Op)(K:Value→Bool):Bool :=
 match op with
 |.move x|.assign x=>qS (dD env x) K
 |.pick c a b=>qS (dD env c) fun u=>(match u with
  |.bool t=>wbr t (fun _=>qS (dD env a) K) (fun _=>qS (dD env b) K)
  |_=>false)
 |.nilCheck x=>qS (dD env x) fun u=>(match u with
  |.pointer (some a)=>K (.pointer (some a))
  |.func (.func f) fi c=>K (.func (.func f) fi c)
  |.func (.yield f) fi c=>K (.func (.yield f) fi c)
  |_=>false)
 |.load t x=>qS (dD env x) fun u=>UE T h t u K
 |.fieldAddr s x f=>qS (dD env x) fun u=>xA T s u f K
 |.field s x f=>qS (dD env x) fun u=>TV T s u f K
 |.indexAddr t x i=>qS (dD env x) fun u=>qS (dD env i) fun j=>wZ A T t u j K
 |.index t x i=>qS (dD env x) fun u=>qS (dD env i) fun j=>SO A T t u j K
 |.binOp op t x y _=>qS (dD env x) fun u=>qS (dD env y) fun v=>(match v with
  |.slice none _ _=>aJc T h op t u K
  |_=>aHA A T op t u v K)
 |.unOp op _ x=>qS (dD env x) fun u=>wun A op u K
 |.convert s d x=>qS (dD env x) fun u=>(match u,look T s,look T d with
  |.int _ n,some _,some { kind:=.int k,.. }=>eF (A.fits k n) (K (.int k n))
  |_,_,_=>false)
 |.makeFunc fn first cap=>(match fn,first.toList with
  |.func f,[]=>(match AO env cap.toList with|some l=>K (.func (.func f) #[] l.toArray)|none=>false)
  |_,_=>false)
 |.extract x i=>qS (dD env x) fun u=>(match u with
  |.tuple vs=>qS (vs.toList[i]?) K
  |_=>false)
 |.build t ps=>(match kS env ps.toList with|some l=>SK T t l K|none=>false)
 |.call c=>(match c.callee with
  |.builtin b=>(match lH env c.args.toList with|some vs=>ES A T b c.argTypes vs K|none=>false)
  |_=>false)
 |_=>false
def TC (T:cU)(h:Heap)(nx:Nat)(t:TypeId)(x v:Value)(K:sX):Bool :=
 match x with
 |.pointer (some ⟨k,o,none⟩) =>
  (match look T t,look h k with
  |some ti,some (.cells true _ sz cs) =>
   (match Nat.beq v.cells.size ti.size,(match v with|.tuple _=>false|_=>true) with
   |true,true=>eF (Nat.ble (o+v.cells.size) cs.length) (K undef (r7 h k (.cells true false sz (c8 cs o v.cells.toList))) nx)
   |_,_=>false)
  |_,_=>false)
 |_=>false
def aHa (h:Heap)(nx:Nat)(v:Value)(K:sX):Bool :=
 match v with
 |.tuple _=>false
 |v=>K (.pointer (some ⟨nx,0,none⟩)) (bQ h nx (.cells true false 1 v.cells.toList)) (nx+1)
def TN (T:cU)(h:Heap)(nx:Nat)(t:TypeId)(K:sX):Bool :=
 match look T t with
 |some ti=>K (.pointer (some ⟨nx,0,none⟩)) (bQ h nx (.cells true false 1 ti.zv.cells.toList)) (nx+1)
 |none=>false
def sS (T:cU)(h:Heap)(nx:Nat)(t:TypeId)(len:Nat)(ps:List (Nat × Value))(K:sX):Bool :=
 match look T t with
 |some { kind:=.sl e,.. } =>
  (match look T e with
  |some ei =>
   (match Nat.ble (len*ei.size) 1000000,kT ps with
   |true,true =>
    (match CN (fun i=>some (i*ei.size,ei.size)) ps (rep len ei.zv.cells.toList) with
    |some cells=>K (.slice (some ⟨nx,0,none⟩) len len) (bQ h nx (.cells true false ei.size cells)) (nx+1)
    |none=>false)
   |_,_=>false)
  |none=>false)
 |_=>false
def whi (A:Ar)(n c:Nat)(hi:Option Value)(G:Nat→Bool):Bool :=
 match hi with
 |none=>G n
 |some (.int _ i)=>eF (A.andB (A.le 0 i) (A.le i (A.num c))) (G (A.toN i))
 |_=>false
def K9 (A:Ar)(T:cU)(h:Heap)(nx:Nat)(t:TypeId)(x:Value)(lo hi mx:Option Value)(K:sX):Bool :=
 match look T t with
 |some { kind:=.sl e,.. } =>
  (match look T e with
  |none=>false
  |some ei =>
   match x,mx with
   |.slice none 0 0,none=>(match isZero lo,isZero hi with|true,true=>K (.slice none 0 0) h nx|_,_=>false)
   |.slice (some ⟨k,o,none⟩) n c,none =>
    whi A n c hi fun hN =>
     (match lo with
     |none=>K (.slice (some ⟨k,o,none⟩) hN c) h nx
     |some (.int _ l)=>eF (A.andB (A.andB (A.le 0 l) (A.le l (A.num hN))) (A.le (A.num hN) (A.num c)))
      (match look h k with
      |some (.cells _ _ _ _)=>eF (A.lt l (A.num c)) (K (.slice (some ⟨k,A.ix o l ei.size,none⟩) (A.subN hN (A.toN l)) (A.subN c (A.toN l))) h nx)
      |_=>false)
     |_=>false)
   |.slice (some ⟨k,o,none⟩) n c,some (.int _ 0) =>
    (match isZero lo,hi with|true,some (.int _ 0)=>K (.slice (some ⟨nx,0,none⟩) 0 0) (bQ h nx .zero) (nx+1)|_,_=>false)
   |.slice (some ⟨k,o,none⟩) n c,some (.int _ m) =>
    (match lo,hi with
    |some (.int _ l),some (.int _ u)=>eF (A.andB (A.andB (A.le 0 l) (A.le l u)) (A.andB (A.le u m) (A.andB (A.le 1 m) (A.le m (A.num c))))) (K (.slice (some ⟨nx,0,none⟩) (A.subN (A.toN u) (A.toN l)) (A.subN (A.toN m) (A.toN l))) (YI h nx k (A.ix o l ei.size) (A.subN (A.toN m) (A.toN l)*ei.size)) (nx+1))
    |none,some (.int _ u)=>eF (A.andB (A.le 0 u) (A.andB (A.le u m) (A.andB (A.le 1 m) (A.le m (A.num c))))) (K (.slice (some ⟨nx,0,none⟩) (A.toN u) (A.toN m)) (YI h nx k o (A.toN m*ei.size)) (nx+1))
    |_,_=>false)
   |_,_=>false)
 |_=>false
def aJ9 (h:Heap)(sz:Nat)(x:Value)(G:Nat→List Value→Bool):Bool :=
 match x with
 |.slice none 0 0=>G 0 []
 |.slice (some ⟨k,o,none⟩) m _ =>
  (match look h k with
  |some (.cells _ _ _ cs)=>eF (Nat.ble (o+m*sz) cs.length) (G m ((cs.drop o).take (m*sz)))
  |some .zero=>(match m with|0=>G 0 []|_=>false)
  |_=>false)
 |_=>false
def K4 (A:Ar)(T:cU)(h:Heap)(nx:Nat)(st xt:TypeId)(s x:Value)(K:sX):Bool :=
 match look T st,look T xt with
 |some { kind:=.sl e,.. },some { kind:=.int _,.. } =>
  (match look T e with
  |some ei=>(match s,x,Nat.ble ei.bytes 1000 with
   |.slice none 0 0,.int .i64 i,true=>eF (A.andB (A.lt 0 i) (A.le i 1000000000)) (K (.slice (some ⟨nx,0,none⟩) (A.toN i) (A.toN i)) (bQ h nx (.cells true false ei.size (rep (A.toN i) ei.zv.cells.toList))) (nx+1))
   |_,_,_=>false)
  |none=>false)
 |some { kind:=.sl e,.. },some { kind:=.sl _,.. } =>
  (match look T e with
  |none=>false
  |some ei =>
   match Nat.ble ei.bytes 1000 with
   |false=>false
   |true =>
    aJ9 h ei.size x fun m src =>
     (match s with
     |.slice none 0 0=>wbr (Nat.beq m 0) (fun _=>K (.slice none 0 0) h nx)
      (fun _=>eF (Nat.ble m 1000000000) (K (.slice (some ⟨nx,0,none⟩) m m) (bQ h nx (.cells true false ei.size src)) (nx+1)))
     |.slice (some ⟨k,o,none⟩) n c =>
      (match look h k with
      |some .zero=>(match n,c with
       |0,0=>wbr (Nat.beq m 0) (fun _=>K (.slice (some ⟨k,o,none⟩) 0 0) h nx)
        (fun _=>eF (Nat.ble m 1000000000) (K (.slice (some ⟨nx,0,none⟩) m m) (bQ h nx (.cells true false ei.size src)) (nx+1)))
       |_,_=>false)
      |some (.cells true _ sz cs) =>
       wbr (Nat.ble (n+m) c)
        (fun _=>eF (Nat.ble (o+(n+m)*ei.size) cs.length) (K (.slice (some ⟨k,o,none⟩) (n+m) c) (r7 h k (.cells true false sz (c8 cs (o+n*ei.size) src))) nx))
        (fun _=>eF (A.andB (A.andB (Nat.ble (n+m) 1000000000) (Nat.ble (o+n*ei.size) cs.length)) (A.andB (Nat.beq (o+c*ei.size) cs.length) (Nat.beq sz ei.size)))
         (K (.slice (some ⟨nx,0,none⟩) (n+m) (n+m)) (bQ (rem h k) nx (.cells true false ei.size ((cs.drop o).take (n*ei.size)++src))) (nx+1)))
      |_=>false)
     |_=>false))
 |_,_=>false
def aAO (h:Heap)(nx:Nat)(K:sX):Bool:=K (.map (some nx)) (bQ h nx (.map [])) (nx+1)
def xT (A:Ar)(T:cU)(h:Heap)(nx:Nat)(t:TypeId)(l c:Value)(K:sX):Bool :=
 match look T t,l,c with
 |some { kind:=.sl e,.. },.int .i64 i,.int .i64 j =>
  (match look T e with
  |some ei=>eF (A.andB (A.andB (A.le 0 i) (A.le i j)) (A.andB (A.le j 1000000000) (Nat.ble ei.bytes 1000)))
   (K (.slice (some ⟨nx,0,none⟩) (A.toN i) (A.toN j)) (bQ h nx (.cells true false ei.size (rep (A.toN j) ei.zv.cells.toList))) (nx+1))
  |none=>false)
 |_,_,_=>false
def DG (A:Ar)(T:cU)(h:Heap)(t:TypeId)(x key:Value)(ok:Bool)(K:Value→Bool):Bool :=
 match look T t,x,key with
 |some { kind:=.mp kt et,.. },.map (some k),.agg cs =>
  (match look T kt,look T et,look h k with
  |some { kind:=.st fs,.. },some ei,some (.map es) =>
   (match jF T cs.toList fs,dG cs.toList,rZ A T kt (.agg cs) es with
   |true,true,some r =>
    (match ok,r with
    |true,some v=>K (.tuple #[v,.bool true])
    |true,none=>K (.tuple #[ei.zv,.bool false])
    |false,some v=>K v
    |false,none=>K ei.zv)
   |_,_,_=>false)
  |_,_,_=>false)
 |_,_,_=>false
def x9 (A:Ar)(T:cU)(h:Heap)(nx:Nat)(t:TypeId)(x key v:Value)(K:sX):Bool :=
 match look T t,x,key,(match v with|.agg _=>false|.tuple _=>false|_=>true) with
 |some { kind:=.mp kt _,.. },.map (some k),.agg cs,true =>
  (match look T kt,look h k with
  |some { kind:=.st fs,.. },some (.map es) =>
   (match jF T cs.toList fs,dG cs.toList,rZ A T kt (.agg cs) es with
   |true,true,some none=>K undef (r7 h k (.map (es++[(.agg cs,v)]))) nx
   |_,_,_=>false)
  |_,_=>false)
 |_,_,_,_=>false
def T9 (T:cU)(h:Heap)(nx:Nat)(t:TypeId)(x:Value)(K:sX):Bool :=
 match look T t,x with
 |some { kind:=.sl _,.. },.slice none 0 0=>K (.tuple #[]) h nx
 |some { kind:=.sl e,.. },.slice (some ⟨k,o,none⟩) n _ =>
  (match n with
  |0=>K (.tuple #[]) h nx
  |_=>(match look T e,look h k with
   |some ei,some (.cells true _ sz cs)=>eF (Nat.ble (o+n*ei.size) cs.length) (K (.tuple #[]) (r7 h k (.cells true false sz (c8 cs o (rep n ei.zv.cells.toList)))) nx)
   |_,_=>false))
 |_,_=>false
def wop (A:Ar)(T:cU)(C:wL)(Y:wL)(env:List (Nat × Value))(h:Heap)(nx:Nat)(op:Op)(K:sX):Bool :=
 match op with
 |.store t x y=>qS (dD env x) fun p=>qS (dD env y) fun v=>TC T h nx t p v K
 |.alloc t=>TN T h nx t K
 |.box _ x=>qS (dD env x) fun v=>aHa h nx v K
 |.buildSlice t n ps=>(match kS env ps.toList with|some l=>sS T h nx t n l K|none=>false)
 |.slice t x lo hi mx=>qS (dD env x) fun v=>(match lE env lo,lE env hi,lE env mx with
  |some l,some u,some m=>K9 A T h nx t v l u m K
  |_,_,_=>false)
 |.makeMap _ none=>aAO h nx K
 |.makeSlice t l c=>qS (dD env l) fun l=>qS (dD env c) fun c=>xT A T h nx t l c K
 |.lookup t m k ok=>qS (dD env m) fun x=>qS (dD env k) fun y=>DG A T h t x y ok (fun v=>K v h nx)
 |.mapUpdate t m k u=>qS (dD env m) fun x=>qS (dD env k) fun y=>qS (dD env u) fun v=>x9 A T h nx t x y v K
 |.call c=>(match c.callee with
  |.builtin .append=>(match c.argTypes.toList,lH env c.args.toList with|[st,xt],some [s,x]=>K4 A T h nx st xt s x K|_,_=>false)
  |.builtin .clear=>(match c.argTypes.toList,lH env c.args.toList with|[t],some [x]=>T9 T h nx t x K|_,_=>false)
  |.builtin _=>wF A T env h op (fun v=>K v h nx)
  |.value f=>qS (dD env f) fun fv=>(match lH env c.args.toList with
   |some l=>(match fv with
    |.func (.func g) first cap=>(match first.toList,rL cap.toList with
     |[],true=>C g (l++cap.toList) h nx K
     |_,_=>false)
    |.func (.yield q) first _=>(match first.toList with
     |[]=>Y q l h nx K
     |_=>false)
    |_=>false)
   |none=>false)
  |_=>false)
 |_=>wF A T env h op (fun v=>K v h nx)
def A0 (A:Ar)(ops:List Oper)(env:List (Nat × Value))(g:Option (Nat × Bool))(Y N:List (Nat × Value)→Bool):Bool :=
 match g with
 |none=>Y env
 |some (j,want)=>match fM ops j with
  |some o=>(match o.dst with
   |some t=>(match look env t with
    |some (.bool b)=>wbr (A.eqB b want) (fun _=>Y (put env t (.bool want))) (fun _=>N (put env t (.bool (!want))))
    |some (.tuple _)=>N env
    |_=>false)
   |none=>false)
  |none=>false
def GD (tn:Nat)(env:List (Nat × Value))(dst:Option Nat)(v:Value)(K:List (Nat × Value)→Bool):Bool :=
 match dst with
 |none=>K env
 |some d=>match Nat.blt d tn with|true=>K (put env d v)|false=>false
def aDy (A:Ar)(T:cU)(C:wL)(Y:wL)(tn:Nat)(ops:List Oper):List Oper→List (Nat × Value)→Heap→Nat→qL→Bool
 |[],env,h,nx,K=>K env h nx
 |o :: r,env,h,nx,K=>A0 A ops env o.guard
    (fun env=>wop A T C Y env h nx o.op fun v h' nx'=>GD tn env o.dst v fun env'=>aDy A T C Y tn ops r env' h' nx' K)
    (fun env=>GD tn env o.dst undef fun env'=>aDy A T C Y tn ops r env' h nx K)
def EX (A:Ar)(T:cU)(C:wL)(hJ:Heap)(nx:Nat)(env:List (Nat × Value))(op:Op)(K:Value→Bool):Bool :=
 match op with
 |.load _ _=>wF A T env hJ op K
 |.lookup t m k ok=>qS (dD env m) fun x=>qS (dD env k) fun y=>DG A T hJ t x y ok K
 |.slice t x lo hi mx=>qS (dD env x) fun v=>(match lE env lo,lE env hi,lE env mx with
  |some l,some u,some m=>K9 A T hJ nx t v l u m (fun v _ nx'=>match Nat.beq nx' nx with|true=>K v|false=>false)
  |_,_,_=>false)
 |.call c=>(match c.callee with
  |.builtin _=>wF A T env [] op K
  |.value f=>qS (dD env f) fun fv=>(match lH env c.args.toList with
   |some l=>(match fv with
    |.func (.func g) first cap=>(match first.toList,rL cap.toList with
     |[],true=>C g (l++cap.toList) (eU hJ) nx (fun v _ _=>match gT v with|true=>K v|false=>false)
     |_,_=>false)
    |_=>false)
   |none=>false)
  |_=>false)
 |_=>wF A T env [] op K
def NQ (A:Ar)(T:cU)(C:wL)(tn:Nat)(ops:List Oper)(hJ:Heap)(nx:Nat):List Nat→List (Nat × Value)→(List (Nat × Value)→Bool)→Bool
 |[],env,K=>K env
 |i::r,env,K=>match fM ops i with
  |none=>false
  |some o=>A0 A ops env o.guard
   (fun env=>EX A T C hJ nx env o.op fun v=>GD tn env o.dst v fun env=>NQ A T C tn ops hJ nx r env K)
   (fun env=>GD tn env o.dst undef fun env=>NQ A T C tn ops hJ nx r env K)
def DI (T:cU)(tn:Nat)(ops:List Oper):List Nat→List (Nat × Value)→Heap→Nat→qL→Bool
 |[],env,h,nx,K=>K env h nx
 |i::r,env,h,nx,K=>match fM ops i with
  |some { op:=.alloc t,dst:=some d,.. }=>(match look T t with
   |some ti=>GD tn env (some d) (.pointer (some ⟨nx,0,none⟩)) fun env=>DI T tn ops r env (bQ h nx (.cells true false 1 ti.zv.cells.toList)) (nx+1) K
   |none=>false)
  |_=>false
def PO (A:Ar)(T:cU)(C:wL)(Y:wL)(tn:Nat)(ops:List Oper)(hJ:Heap):List (Nat × Bool)→List (Nat × Value)→Heap→Nat→qL→Bool
 |[],env,h,nx,K=>K env h nx
 |(i,chk)::r,env,h,nx,K=>match fM ops i with
  |none=>false
  |some o=>A0 A ops env o.guard
   (fun env=>eF (zJ env hJ chk o.op) (wop A T C Y env h nx o.op fun v h' nx'=>GD tn env o.dst v fun env'=>PO A T C Y tn ops hJ r env' h' nx' K))
   (fun env=>GD tn env o.dst undef fun env'=>PO A T C Y tn ops hJ r env' h nx K)
def XN (A:Ar)(T:cU)(C:wL)(Y:wL)(tn:Nat)(ops:List Oper)(p:eZ)(env:List (Nat × Value))(h:Heap)(nx:Nat)(K:qL):Bool :=
 NQ A T C tn ops (IB T ops env p h) nx p.head env fun env1 =>
  DI T tn ops p.allocs env1 h nx fun env2 h2 nx2 =>
   PO A T C Y tn ops (IB T ops env p h) p.tail env2 h2 nx2 K
def aAy (A:Ar)(T:cU)(C:wL)(Y:wL)(tn:Nat)(ops:List Oper)(o:Oper)(e:List (Nat × Value))(h:Heap)(nx:Nat)(K:qL):Bool :=
 A0 A ops e o.guard (fun e=>wop A T C Y e h nx o.op fun v h' nx'=>GD tn e o.dst v fun e'=>K e' h' nx') (fun e=>GD tn e o.dst undef fun e'=>K e' h nx)
def wall (F:Nat→Bool):List Nat→Bool
 |[]=>true
 |i::r=>F i&&wall F r
def aFs (A:Ar)(T:cU)(C:wL)(Y:wL)(tn:Nat)(ops:List Oper)(K:qL):Nat→List Nat→qL
 |0,_=>K
 |n+1,done=>fun e h nx=>match eY ops done ops 0 with
  |[]=>K e h nx
  |i::r=>wall (fun j=>match fM ops j with|some o=>aAy A T C Y tn ops o e h nx (aFs A T C Y tn ops K n (j::done))|none=>false) (i::r)
def MR (A:Ar)(T:cU)(C:wL)(Y:wL)(tn:Nat)(ops:List Oper)(K:qL):Nat→List Nat→qL
 |0,_=>K
 |n+1,done=>fun e h nx=>match eY ops done ops 0 with
  |[]=>K e h nx
  |j::_=>(match fM ops j with|some o=>aAy A T C Y tn ops o e h nx (MR A T C Y tn ops K n (j::done))|none=>false)
def aCP (A:Ar)(T:cU)(C:wL)(Y:wL)(tn:Nat)(ops:Array Oper)(e:List (Nat × Value))(h:Heap)(nx:Nat)(K:qL):Bool :=
 MR A T C Y tn ops.toList (fun e0 h0 n0=>FW (S8 e0 []) fun e0=>FW (VK nx (aA8 nx e0 e0 h0 h0) h0) fun h0 =>
  aFs A T C Y tn ops.toList (fun e1 h1 _=>aFk nx (aA8 nx e0 e1 h0 h1) e0 h0 n0 e1 h1) ops.size [] e h nx&&K e0 h0 n0) ops.size [] e h nx
def aBh (F:qL→qL):Nat→qL
 |0,_,_,_=>false
 |n+1,e,h,nx=>F (aBh F n) e h nx
def qD (A:Ar)(T:cU)(C:wL)(Y:wL)(tn:Nat)(PL:Nat→Option eZ)(M:Nat)(R:VRB):Code→qL→(Nat→qL)→qL→qL
 |.skip,kn,_,_=>kn
 |.region id ops draw,kn,_,_=>fun e h nx=>match draw with
  |false=>aDy A T C Y tn ops.toList ops.toList e h nx kn
  |true=>(match PL id with|some p=>XN A T C Y tn ops.toList p e h nx kn|none=>aCP A T C Y tn ops e h nx kn)
 |.seq a b,kn,kx,kr=>qD A T C Y tn PL M R a (qD A T C Y tn PL M R b kn kx kr) kx kr
 |.cond c t f,kn,kx,kr=>fun e h nx=>match dD e c with
  |some (.bool b)=>wbr b (fun _=>qD A T C Y tn PL M R t kn kx kr e h nx) (fun _=>qD A T C Y tn PL M R f kn kx kr e h nx)
  |_=>false
 |.block id b,kn,kx,kr=>qD A T C Y tn PL M R b kn (fun j=>match Nat.beq j id with|true=>kn|false=>kx j) kr
 |.loop b,_,kx,kr=>aBh (fun k=>qD A T C Y tn PL M R b k kx kr) M
 |.rangeFunc g ps as bd,kn,kx,kr=>R g ps as bd kn kx kr
 |.exit id,_,kx,_=>kx id
 |.ret,_,_,kr=>kr
 |.label _,kn,_,_=>kn
 |.scope b,kn,kx,kr=>qD A T C Y tn PL M R b kn kx kr
 |_,_,_,_=>fun _ _ _=>false
def zV (T:cU)(e:List (Nat × Value))(h:Heap):List ResultVar→(List Value→Bool)→Bool
 |[],K=>K []
 |.tmp t::r,K=>qS (look e t) fun v=>zV T e h r fun l=>K (v::l)
 |.cell a t::r,K=>qS (look e a) fun p=>UE T h t p fun v=>zV T e h r fun l=>K (v::l)
def aKX (T:cU)(fn:Func)(K:sX):qL:=fun e h nx=>zV T e h fn.results.toList fun l =>
 match l with
 |[v]=>K v h nx
 |l=>match J7 l with|true=>K (.tuple l.toArray) h nx|false=>false
def aAL (C:wL)(f tn:Nat):VRB:=fun g ps as bd kn kx kr e h nx =>
 qS (dD e g) fun gv=>match gv with
  |.func (.func q) first cap=>(match first.toList,rL cap.toList with
   |[],true=>C q (.func (.yield (nx+1)) #[] #[]::cap.toList)
    (bQ (bQ h nx .deferred) (nx+1) (.loop { state:=.ready,pending:=none,fn:=f,env:=e,tn:=tn,params:=ps.toList,assign:=as,body:=bd,defers:=nx })) (nx+2) fun _ h' nx' =>
    (match look h' (nx+1),look h' nx with
    |some (.loop l),some .deferred=>(match l.state,l.pending with
     |.busy,_=>false
     |_,none=>kn e (iA h' nx) nx'
     |_,some (.exit id)=>kx id e (iA h' nx) nx'
     |_,some .ret=>kr e (iA h' nx) nx'
     |_,_=>false)
    |_,_=>false)
   |_,_=>false)
  |_=>false
def NY:VRB:=fun _ _ _ _ _ _ _ _ _ _=>false
def aAG (q:Nat)(K:sX)(j:Option Code):qL:=fun _ h nx =>
 match look h q with
 |some (.loop l)=>K (.bool j.isNone) (r7 h q (.loop { l with state:=if j.isNone then .ready else .done,pending:=j })) nx
 |_=>false
def S0 (A:Ar)(T:cU)(C:wL)(Y:wL)(PL:Nat→Nat→Option eZ)(M:Nat):wL:=fun q args h nx K =>
 match look h q with
 |some (.loop l)=>(match tD l.tn l.env l.params args,cN (PL l.fn) l.assign&&cN (PL l.fn) l.body with
  |some e0,true=>qD A T C Y l.tn (PL l.fn) M NY l.assign (fun e1 h1 nx1 =>
   match look h1 q with
   |some (.loop l1)=>(match l1.state with
    |.ready=>qD A T C Y l.tn (PL l.fn) M NY l.body (aAG q K none) (fun id=>aAG q K (some (.exit id))) (aAG q K (some .ret)) e1 (r7 h1 q (.loop { l1 with state:=.busy })) nx1
    |_=>false)
   |_=>false) (fun _ _ _ _=>false) (fun _ _ _=>false) e0 h nx
  |_,_=>false)
 |_=>false
def aAc (c:C0)(XB:Nat→Option (List Value→Heap→Nat→sX→Bool))(M:Nat)(C:wL)(Y:wL):wL:=fun f args h nx K =>
 match c.X f with
 |some _=>(match XB f with|some xb=>xb args h nx K|none=>false)
 |none=>match c.FT f with
  |none=>false
  |some fn=>(match fn.body,Nat.ble args.length fn.ntmps with
   |some b,true =>
    let fin:qL:=aKX c.T fn fun v h' nx'=>K v h' nx'
    qD c.A c.T C Y fn.ntmps (c.PL f) M (aAL C f fn.ntmps) b fin (fun _ _ _ _=>false) fin (rT 0 args) h nx
   |_,_=>false)
def aJX (h:Heap)(nx:Nat)(K:sX):sX:=fun v h' nx'=>match gT v with
 |true=>K v h nx
 |false=>K v (app (pN nx h' h') h) nx'
def aHu (PR:Nat→Bool)(C:wL):wL:=fun f args h nx K=>match PR f with
 |true=>C f args (eU h) nx (aJX h nx K)
 |false=>C f args h nx K
def CI (c:C0)(XB:Nat→Option (List Value→Heap→Nat→sX→Bool)):Nat→Bool→wL
 |0,_=>fun _ _ _ _ _=>false
 |d+1,false=>aHu c.PR (aAc c XB c.M (CI c XB d false) (CI c XB d true))
 |d+1,true=>S0 c.A c.T (CI c XB d false) (CI c XB d true) c.PL c.M
end Go.Aw
end
