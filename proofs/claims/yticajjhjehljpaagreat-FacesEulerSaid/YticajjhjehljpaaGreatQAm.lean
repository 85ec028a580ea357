/-
  Parts of a proof. No condition.
-/
import Derived.Test.YticajjhjehljpaaGreatQAj
set_option linter.unusedSimpArgs false
set_option linter.unusedVariables false
noncomputable section
namespace Go.Aw
open Go.RowKit
def ZO:Int→Int→Bool
 |.ofNat a,.ofNat b=>Nat.beq a b
 |.negSucc a,.negSucc b=>Nat.beq a b
 |_,_=>false
theorem aAy {a b:Int}(h:ZO a b=true):a=b:=by
 cases a <;> cases b <;> simp only [ZO] at h <;> first|cases h;done|rw [beq_true h]
def TK:Bool→Bool→Bool
 |true,true=>true
 |false,false=>true
 |_,_=>false
theorem EN {a b:Bool}(h:TK a b=true):a=b:=by cases a <;> cases b <;> first|rfl|cases h
def UZ:Value→Value→Bool
 |.bool a,.bool b=>TK a b
 |.int k a,.int j b=>kEq k j&&ZO a b
 |.slice none n c,.slice none n' c'=>Nat.beq n n'&&Nat.beq c c'
 |.slice (some ⟨a,o,none⟩) n c,.slice (some ⟨a',o',none⟩) n' c'=>Nat.beq a a'&&Nat.beq o o'&&Nat.beq n n'&&Nat.beq c c'
 |.pointer none,.pointer none=>true
 |.pointer (some ⟨a,o,none⟩),.pointer (some ⟨a',o',none⟩)=>Nat.beq a a'&&Nat.beq o o'
 |.map none,.map none=>true
 |.map (some a),.map (some a')=>Nat.beq a a'
 |.nilFunc,.nilFunc=>true
 |.nilIface,.nilIface=>true
 |_,_=>false
theorem LK {v u:Value}(h:UZ v u=true):v=u:=by
 unfold UZ at h;split at h
 ·rw [EN h]
 ·simp only [Bool.and_eq_true] at h;rw [oW h.1,aAy h.2]
 ·simp only [Bool.and_eq_true] at h;rw [beq_true h.1,beq_true h.2]
 ·simp only [Bool.and_eq_true] at h;obtain⟨⟨⟨h1,h2⟩,h3⟩,h4⟩:=h;rw [beq_true h1,beq_true h2,beq_true h3,beq_true h4]
 ·rfl
 ·simp only [Bool.and_eq_true] at h;rw [beq_true h.1,beq_true h.2]
 ·rfl
 ·rw [beq_true h]
 ·rfl
 ·rfl
 ·cases h
def FO:List Value→List Value→Bool
 |[],[]=>true
 |a::r,b::s=>UZ a b&&FO r s
 |_,_=>false
theorem zV:∀ {l m:List Value},FO l m=true→l=m
 |[],[],_=>rfl
 |[],_::_,h=>by cases h
 |_::_,[],h=>by cases h
 |a::r,b::s,h=>by
  simp only [FO,Bool.and_eq_true] at h;rw [LK h.1,zV h.2]
def Q4:Fn→Fn→Bool
 |.func a,.func b=>Nat.beq a b
 |.yield a,.yield b=>Nat.beq a b
 |_,_=>false
theorem U3 {f g:Fn}(h:Q4 f g=true):f=g:=by
 unfold Q4 at h;split at h
 ·rw [beq_true h]
 ·rw [beq_true h]
 ·cases h
def NH:Value→Value→Bool
 |.func f a c,.func f' a' c'=>Q4 f f'&&FO a.toList a'.toList&&FO c.toList c'.toList
 |a,b=>UZ a b
theorem D4 {v u:Value}(h:NH v u=true):v=u:=by
 unfold NH at h;split at h
 ·simp only [Bool.and_eq_true] at h;obtain⟨⟨h1,h2⟩,h3⟩:=h;rw [U3 h1,show _=_ from Array.ext' (zV h2),show _=_ from Array.ext' (zV h3)]
 ·exact LK h
def IB:List Value→List Value→Bool
 |[],[]=>true
 |a::r,b::s=>NH a b&&IB r s
 |_,_=>false
theorem yF:∀ {l m:List Value},IB l m=true→l=m
 |[],[],_=>rfl
 |[],_::_,h=>by cases h
 |_::_,[],h=>by cases h
 |a::r,b::s,h=>by
  simp only [IB,Bool.and_eq_true] at h;rw [D4 h.1,yF h.2]
def M7:Value→Value→Bool
 |.agg a,.agg b=>IB a.toList b.toList
 |a,b=>NH a b
theorem DS {v u:Value}(h:M7 v u=true):v=u:=by
 unfold M7 at h;split at h
 ·rw [show _=_ from Array.ext' (yF h)]
 ·exact D4 h
def IJ:List Value→List Value→Bool
 |[],[]=>true
 |a::r,b::s=>M7 a b&&IJ r s
 |_,_=>false
theorem HI:∀ {l m:List Value},IJ l m=true→l=m
 |[],[],_=>rfl
 |[],_::_,h=>by cases h
 |_::_,[],h=>by cases h
 |a::r,b::s,h=>by
  simp only [IJ,Bool.and_eq_true] at h;rw [DS h.1,HI h.2]
def MI:Value→Value→Bool
 |.tuple a,.tuple b=>IJ a.toList b.toList
 |a,b=>M7 a b
theorem FA {v u:Value}(h:MI v u=true):v=u:=by
 unfold MI at h;split at h
 ·rw [show _=_ from Array.ext' (HI h)]
 ·exact DS h
def aD3 (n:Nat):Value→Bool
 |.slice (some a) _ _=>Nat.blt a.block n
 |.pointer (some a)=>Nat.blt a.block n
 |.map (some k)=>Nat.blt k n
 |v=>gS v
theorem UN {n:Nat}{v:Value}(h:aD3 n v=true):mW (j3 id) n v:=by
 unfold aD3 at h;split at h
 ·exact⟨Nat.le_of_ble_eq_true h,fun e=>by cases e⟩
 ·exact⟨Nat.le_of_ble_eq_true h,rfl⟩
 ·exact⟨Nat.le_of_ble_eq_true h,rfl⟩
 ·cases v <;> simp [gS] at h <;> first|trivial|(rename_i a;cases a <;> simp [gS] at h <;> trivial)|(simp [mW];done)|skip
  all_goals (first|(rename_i a _ _;cases a <;> simp [gS] at h <;> simp [mW])|skip)
def aC0 (n:Nat):List Value→Bool
 |[]=>true
 |v::r=>aD3 n v&&aC0 n r
theorem TR {n:Nat}:∀ {l:List Value},aC0 n l=true→∀ v∈l,mW (j3 id) n v
 |[],_,v,hv=>by cases hv
 |x::r,h,v,hv=>by
  simp only [aC0,Bool.and_eq_true] at h;cases hv with
  |head=>exact UN h.1
  |tail _ hm=>exact TR h.2 v hm
def aF8 (n:Nat):Fn→Bool
 |.func _=>true
 |.yield l=>Nat.blt l n
 |_=>false
theorem aCK {n:Nat}{f:Fn}(h:aF8 n f=true):RJ (j3 id) n f:=by
 unfold aF8 at h;split at h
 ·trivial
 ·exact⟨Nat.le_of_ble_eq_true h,rfl⟩
 ·cases h
def ZI (n:Nat):Value→Bool
 |.func f _ c=>aF8 n f&&aC0 n c.toList
 |v=>aD3 n v
theorem KA {n:Nat}{v:Value}(h:ZI n v=true):BR n v:=by
 unfold ZI at h;split at h
 ·simp only [Bool.and_eq_true] at h;exact⟨aCK h.1,TR h.2⟩
 ·rename_i hf;have h2:=UN h;cases v <;> first|exact h2|exact absurd rfl (hf _ _ _)
def Q7 (n:Nat):List Value→Bool
 |[]=>true
 |v::r=>ZI n v&&Q7 n r
theorem xR {n:Nat}:∀ {l:List Value},Q7 n l=true→∀ v∈l,BR n v
 |[],_,v,hv=>by cases hv
 |x::r,h,v,hv=>by
  simp only [Q7,Bool.and_eq_true] at h;cases hv with
  |head=>exact KA h.1
  |tail _ hm=>exact xR h.2 v hm
def aCx (n:Nat):Value→Bool
 |.agg c=>Q7 n c.toList
 |v=>ZI n v
theorem RZ {n:Nat}{v:Value}(h:aCx n v=true):j0 (j3 id) n v:=by
 unfold aCx at h;split at h
 ·exact fun x hx=>xR h x hx
 ·exact fO (KA h)
def SI (n:Nat):List Value→Bool
 |[]=>true
 |v::r=>aCx n v&&SI n r
theorem OI {n:Nat}:∀ {l:List Value},SI n l=true→∀ v∈l,j0 (j3 id) n v
 |[],_,v,hv=>by cases hv
 |x::r,h,v,hv=>by
  simp only [SI,Bool.and_eq_true] at h;cases hv with
  |head=>exact RZ h.1
  |tail _ hm=>exact OI h.2 v hm
def Z5 (n:Nat):Value→Bool
 |.tuple c=>SI n c.toList
 |v=>aCx n v
theorem JN {n:Nat}{v:Value}(h:Z5 n v=true):BK n v:=by
 unfold Z5 at h;split at h
 ·exact fun x hx=>OI h x hx
 ·exact kU (RZ h)
def nm (ρ:List (Nat × Nat))(k:Nat):Nat:=match look ρ k with|some j=>j|none=>k
def R6 (σ:Nat→Nat)(m:Nat):List (Value × Value)→List (Value × Value)→Bool
 |[],[]=>true
 |a::r,b::s=>M7 b.1 a.1&&NH b.2 (bM σ a.2)&&ZI m a.2&&R6 σ m r s
 |_,_=>false
theorem M6 {σ:Nat→Nat}{m:Nat}:∀ {l l':List (Value × Value)},R6 σ m l l'=true→l'=l.map (fun e=>(e.1,bM σ e.2))∧∀ e∈l,BR m e.2
 |[],[],_=>⟨rfl,fun e he=>by cases he⟩
 |[],_::_,h=>by cases h
 |_::_,[],h=>by cases h
 |a::r,b::s,h=>by
  simp only [R6,Bool.and_eq_true] at h;obtain⟨⟨⟨h1,h2⟩,h3⟩,h4⟩:=h;obtain⟨i1,i2⟩:=M6 h4;refine⟨?_,fun e he=>?_⟩
  ·rw [List.map_cons,← i1,← DS h1,← D4 h2]
  ·cases he with
   |head=>exact KA h3
   |tail _ hm=>exact i2 e hm
def Y1 (σ:Nat→Nat)(m:Nat):aS→aS→Bool
 |.cells wr g sz cs,.cells wr' g' sz' cs'=>Q7 m cs&&TK wr wr'&&TK g g'&&Nat.beq sz sz'&&IB cs' (cs.map (bM σ))
 |.map es,.map es'=>R6 σ m es es'
 |.zero,.zero=>true
 |_,_=>false
theorem aAq {σ:Nat→Nat}{m:Nat}{o o':aS}(h:Y1 σ m o o'=true):bT σ m o o':=by
 unfold Y1 at h;split at h
 ·simp only [Bool.and_eq_true] at h;obtain⟨⟨⟨⟨h1,h2⟩,h3⟩,h4⟩,h5⟩:=h;exact⟨EN h2,EN h3,beq_true h4,yF h5,xR h1⟩
 ·exact M6 h
 ·trivial
 ·cases h
def RU (b:Nat)(ρ:List (Nat × Nat))(m:Nat)(h':Heap):Heap→Bool
 |[]=>true
 |(k,o)::r=>Nat.blt k m&&(match Nat.blt k b with|true=>true|false=>(match look ρ k with|some _=>true|none=>false))&&(match look h' (nm ρ k) with|some o'=>Y1 (nm ρ) m o o'|none=>false)&&RU b ρ m h' r
theorem N5 {b:Nat}{ρ:List (Nat × Nat)}{m:Nat}{h':Heap}:∀ {h:Heap},RU b ρ m h' h=true→∀ k o,look h k=some o→k<m∧(b≤k→∃ j,look ρ k=some j)∧∃ o',look h' (nm ρ k)=some o'∧bT (nm ρ) m o o'
 |[],_,k,o,hk=>by cases hk
 |(j,q)::r,h,k,o,hk=>by
  simp only [RU,Bool.and_eq_true] at h;obtain⟨⟨⟨h1,h2⟩,h3⟩,h4⟩:=h;rw [aB] at hk;split at hk
  ·rename_i hb;have:=beq_true hb;subst this;injection hk with hk;subst hk;refine⟨Nat.le_of_ble_eq_true h1,fun hb=>?_,?_⟩
   ·split at h2
    ·rename_i hlt;have:=Nat.le_of_ble_eq_true hlt;omega
    ·split at h2
     ·rename_i x hx;exact⟨x,hx⟩
     ·cases h2
   ·split at h3
    ·rename_i o' ho';exact⟨o',ho',aAq h3⟩
    ·cases h3
  ·exact N5 h4 k o hk
theorem UK {α:Type}{k:Nat}{o:α}{p:Prop}(h:look [] k=some o):p:=by cases h
def aBt (b:Nat):List (Nat × Nat)→Bool
 |[]=>true
 |(k,j)::r=>Nat.ble b k&&Nat.ble b j&&!(n7 j (r.map (·.2)))&&aBt b r
theorem S6 {b:Nat}:∀ {ρ:List (Nat × Nat)},aBt b ρ=true→(∀ k j,look ρ k=some j→b≤k∧b≤j∧j∈ρ.map (·.2))∧∀ k k' j,look ρ k=some j→look ρ k'=some j→k=k'
 |[],_=>⟨fun k j h=>UK h,fun k k' j h=>UK h⟩
 |(a,c)::r,h=>by
  simp only [aBt,Bool.and_eq_true,Bool.not_eq_true'] at h;obtain⟨⟨⟨h1,h2⟩,h3⟩,h4⟩:=h;obtain⟨i1,i2⟩:=S6 h4;have h1:=Nat.le_of_ble_eq_true h1;have h2:=Nat.le_of_ble_eq_true h2;have hn:c∉r.map (·.2):=fun hm=>(by rw [dC.2 hm] at h3;cases h3);refine⟨fun k j hl=>?_,fun k k' j hl hl'=>?_⟩
  ·rw [aB] at hl;split at hl
   ·rename_i hb;injection hl with hl;subst hl;rw [← beq_true hb];exact⟨h1,h2,.head _⟩
   ·obtain⟨q1,q2,q3⟩:=i1 k j hl;exact⟨q1,q2,.tail _ q3⟩
  ·rw [aB] at hl hl';split at hl <;> split at hl'
   ·rename_i hb _ hb';exact (beq_true hb).symm.trans (beq_true hb')
   ·injection hl with hl;subst hl;exact absurd (i1 k' _ hl').2.2 hn
   ·injection hl' with hl';subst hl';exact absurd (i1 k _ hl).2.2 hn
   ·exact i2 k k' j hl hl'
def aBB (ρ:List (Nat × Nat))(m:Nat)(e':List (Nat × Value)):List (Nat × Value)→Bool
 |[]=>true
 |(t,v)::r=>(match look e' t with|some v'=>MI v' (iM (nm ρ) v)|none=>false)&&Z5 m v&&aBB ρ m e' r
theorem TH {ρ:List (Nat × Nat)}{m:Nat}{e':List (Nat × Value)}:∀ {e:List (Nat × Value)},aBB ρ m e' e=true→∀ t v,look e t=some v→look e' t=some (iM (nm ρ) v)∧BK m v
 |[],_,t,v,h=>by cases h
 |(j,q)::r,h,t,v,hl=>by
  simp only [aBB,Bool.and_eq_true] at h;obtain⟨⟨h1,h2⟩,h3⟩:=h;rw [aB] at hl;split at hl
  ·rename_i hb;have:=beq_true hb;subst this;injection hl with hl;subst hl;refine⟨?_,JN h2⟩;split at h1
   ·rename_i v' hv';rw [hv',FA h1]
   ·cases h1
  ·exact TH h3 t v hl
def aCW (b:Nat)(ρ:List (Nat × Nat))(e0:List (Nat × Value))(h0:Heap)(n0:Nat)(e:List (Nat × Value))(h:Heap):Bool :=
 Nat.ble b n0&&aBt b ρ&&aBB ρ n0 e e0&&RU b ρ n0 h h0
theorem TU {b:Nat}{ρ:List (Nat × Nat)}{e0:List (Nat × Value)}{h0:Heap}{n0:Nat}{e:List (Nat × Value)}{h:Heap}{nx:Nat}(hb:aCW b ρ e0 h0 n0 e h=true):oU b (nm ρ) e0 h0 n0 e h nx:=by
 simp only [aCW,Bool.and_eq_true] at hb;obtain⟨⟨⟨h1,h2⟩,h3⟩,h4⟩:=hb;obtain⟨r1,r2⟩:=S6 h2;have hh:=N5 h4;have hfix:∀ k,k<b→nm ρ k=k:=fun k hk=>by
  unfold nm;split
  ·rename_i j hj;have:=(r1 k j hj).1;omega
  ·rfl
 refine⟨TH h3,fun k o hk=>⟨(hh k o hk).1,(hh k o hk).2.2⟩,fun k k' o o' hk hk' he=>?_,hfix,Nat.le_of_ble_eq_true h1⟩;have a1:=(hh k o hk).2.1;have a2:=(hh k' o' hk').2.1;by_cases c1:k<b <;> by_cases c2:k'<b
 ·rw [hfix k c1,hfix k' c2] at he;exact he
 ·obtain⟨j,hj⟩:=a2 (by omega);have hn:nm ρ k'=j:=(by unfold nm;rw [hj]);have:=(r1 k' j hj).2.1;rw [hfix k c1,hn] at he;omega
 ·obtain⟨j,hj⟩:=a1 (by omega);have hn:nm ρ k=j:=(by unfold nm;rw [hj]);have:=(r1 k j hj).2.1;rw [hfix k' c2,hn] at he;omega
 ·obtain⟨j,hj⟩:=a1 (by omega);obtain⟨j',hj'⟩:=a2 (by omega);have hn:nm ρ k=j:=(by unfold nm;rw [hj]);have hn':nm ρ k'=j':=(by unfold nm;rw [hj']);rw [hn,hn'] at he;subst he;exact r2 k k' j hj hj'
def prP (b:Nat):Value→Value→List (Nat × Nat)→List (Nat × Nat)
 |.slice (some a) _ _,.slice (some c) _ _,r=>(match Nat.ble b a.block with|true=>(a.block,c.block)::r|false=>r)
 |.pointer (some a),.pointer (some c),r=>(match Nat.ble b a.block with|true=>(a.block,c.block)::r|false=>r)
 |.map (some a),.map (some c),r=>(match Nat.ble b a with|true=>(a,c)::r|false=>r)
 |_,_,r=>r
def aHB (b:Nat):List Value→List Value→List (Nat × Nat)→List (Nat × Nat)
 |v::l,u::m,r=>prP b v u (aHB b l m r)
 |_,_,r=>r
def prS (b:Nat):Value→Value→List (Nat × Nat)→List (Nat × Nat)
 |.func _ _ c,.func _ _ c',r=>aHB b c.toList c'.toList r
 |v,u,r=>prP b v u r
def prL (b:Nat):List Value→List Value→List (Nat × Nat)→List (Nat × Nat)
 |v::l,u::m,r=>prS b v u (prL b l m r)
 |_,_,r=>r
def prA (b:Nat):Value→Value→List (Nat × Nat)→List (Nat × Nat)
 |.agg c,.agg c',r=>prL b c.toList c'.toList r
 |v,u,r=>prS b v u r
def aHG (b:Nat):List Value→List Value→List (Nat × Nat)→List (Nat × Nat)
 |v::l,u::m,r=>prA b v u (aHG b l m r)
 |_,_,r=>r
def prT (b:Nat):Value→Value→List (Nat × Nat)→List (Nat × Nat)
 |.tuple c,.tuple c',r=>aHG b c.toList c'.toList r
 |v,u,r=>prA b v u r
def prM (b:Nat):List (Value × Value)→List (Value × Value)→List (Nat × Nat)→List (Nat × Nat)
 |v::l,u::m,r=>prS b v.2 u.2 (prM b l m r)
 |_,_,r=>r
def prO (b:Nat):Option aS→Option aS→List (Nat × Nat)→List (Nat × Nat)
 |some (.cells _ _ _ cs),some (.cells _ _ _ cs'),r=>prL b cs cs' r
 |some (.map es),some (.map es'),r=>prM b es es' r
 |_,_,r=>r
def prE (b:Nat)(e':List (Nat × Value)):List (Nat × Value)→List (Nat × Nat)→List (Nat × Nat)
 |[],q=>q
 |(t,v)::r,q=>match look e' t with|some u=>prT b v u (prE b e' r q)|none=>prE b e' r q
def grow (b:Nat)(h h':Heap):Nat→List (Nat × Nat)→List (Nat × Nat)→List (Nat × Nat)
 |0,_,d=>d
 |_+1,[],d=>d
 |n+1,(j,k)::r,d=>match look d j with
  |some _=>grow b h h' n r d
  |none=>grow b h h' n (prO b (look h j) (look h' k) r) ((j,k)::d)
def aGJ (b:Nat)(h':Heap):Heap→List (Nat × Nat)→List (Nat × Nat)
 |[],r=>r
 |(k,o)::l,r=>match Nat.blt k b with|true=>prO b (some o) (look h' k) (aGJ b h' l r)|false=>aGJ b h' l r
def XX (b:Nat)(e e':List (Nat × Value))(h h':Heap):List (Nat × Nat):=grow b h h' 10000 (prE b e' e (aGJ b h' h [])) []
def D9 {α:Type}:List α→(List α→Bool)→Bool
 |[],k=>k []
 |x::r,k=>D9 r fun r=>k (x::r)
theorem zX {α:Type}:∀ (l:List α) (k:List α→Bool),D9 l k=k l
 |[],k=>rfl
 |x::r,k=>by rw [D9,zX r]
def PD:List (Nat × Value)→List Nat→List (Nat × Value)
 |[],_=>[]
 |(t,v)::r,seen=>match n7 t seen with|true=>PD r seen|false=>(t,v)::PD r (t::seen)
def R4 (b:Nat)(ρ:List (Nat × Nat)):Heap→Heap
 |[]=>[]
 |(k,o)::r=>match Nat.blt k b with
  |true=>(k,o)::R4 b ρ r
  |false=>(match look ρ k with|some _=>(k,o)::R4 b ρ r|none=>R4 b ρ r)
end Go.Aw
end

noncomputable section
namespace Go.Aw
abbrev qM:=Value→Heap→Nat→Bool
abbrev oR:=List (Nat × Value)→Heap→Nat→Bool
abbrev tO:=Nat→List Value→Heap→Nat→qM→Bool
abbrev VRB:=Operand→Array Tmp→Code→Code→oR→(Nat→oR)→oR→oR
def o8 (x:Option Value)(K:Value→Bool):Bool:=match x with|some v=>K v|none=>false
def wbr (b:Bool)(A B:Unit→Bool):Bool:=match b with|true=>A ()|false=>B ()
def dR (b:Bool)(A:Bool):Bool:=match b with|true=>A|false=>false
def UL (T:cF)(h:Heap)(t:TypeId)(x:Value)(K:Value→Bool):Bool :=
 match x with
 |.pointer (some ⟨k,o,none⟩) =>
  match look T t,look h k with
  |some ti,some (.cells _ _ _ cs) =>
   match ti.isAgg with
   |true=>(match m9 cs o ti.size with|some l=>K (.agg l.toArray)|none=>false)
   |false=>(match nth cs o with|some v=>K v|none=>false)
  |_,_=>false
 |_=>false
def vD (T:cF)(st:TypeId)(x:Value)(f:Nat)(K:Value→Bool):Bool :=
 match x,look T st with
 |.pointer (some ⟨k,o,none⟩),some { kind:=.st fs,.. } =>
  match fs[f]? with
  |some (off,ft)=>(match look T ft with|some _=>K (.pointer (some ⟨k,o+off,none⟩))|none=>false)
  |none=>false
 |_,_=>false
def vI (A:Ar)(T:cF)(t:TypeId)(x ix:Value)(K:Value→Bool):Bool :=
 match look T t,x,ix with
 |some { kind:=.sl e,.. },.slice (some ⟨k,o,none⟩) n _,.int _ i =>
  (match look T e with|some ei=>dR (A.andB (A.le 0 i) (A.lt i (A.num n))) (K (.pointer (some ⟨k,A.ix o i ei.size,none⟩)))|none=>false)
 |some { kind:=.ar n e,.. },.pointer (some ⟨k,o,none⟩),.int _ i =>
  (match look T e with|some ei=>dR (A.andB (A.le 0 i) (A.lt i (A.num n))) (K (.pointer (some ⟨k,A.ix o i ei.size,none⟩)))|none=>false)
 |_,_,_=>false
def TL (T:cF)(t:TypeId)(cs:List Value)(o:Nat)(K:Value→Bool):Bool :=
 match look T t with
 |some ti=>(match ti.isAgg with
  |true=>(match m9 cs o ti.size with|some l=>K (.agg l.toArray)|none=>false)
  |false=>(match nth cs o with|some v=>K v|none=>false))
 |none=>false
def QA (T:cF)(st:TypeId)(x:Value)(f:Nat)(K:Value→Bool):Bool :=
 match x,look T st with
 |.agg cs,some { kind:=.st fs,.. }=>(match fs[f]? with|some (off,ft)=>TL T ft cs.toList off K|none=>false)
 |_,_=>false
def OZ (A:Ar)(T:cF)(t:TypeId)(x ix:Value)(K:Value→Bool):Bool :=
 match look T t,x,ix with
 |some { kind:=.ar n e,.. },.agg cs,.int _ i =>
  (match look T e with|some ei=>dR (A.andB (A.le 0 i) (A.lt i (A.num n))) (TL T e cs.toList (A.ix 0 i ei.size) K)|none=>false)
 |some { kind:=.str,.. },.string b,.int _ i=>(match (if 0≤i then b[i.toNat]? else none) with|some u=>K (.int .u8 (A.num u.toNat))|none=>false)
 |_,_,_=>false
def aHt (A:Ar)(op:BinOp)(k:IntKind)(a b:Int)(K:Value→Bool):Bool :=
 match op with
 |.add=>dR (A.fits k (A.add a b)) (K (.int k (A.add a b)))
 |.sub=>dR (A.fits k (A.sub a b)) (K (.int k (A.sub a b)))
 |.mul=>dR (A.fits k (A.mul a b)) (K (.int k (A.mul a b)))
 |.quo=>dR (A.andB (A.notB (A.eq b 0)) (A.fits k (A.quo a b))) (K (.int k (A.quo a b)))
 |.rem=>dR (A.notB (A.eq b 0)) (K (.int k (A.rem a b)))
 |.eql=>K (.bool (A.eq a b))
 |.neq=>K (.bool (A.notB (A.eq a b)))
 |.lss=>K (.bool (A.lt a b))
 |.leq=>K (.bool (A.le a b))
 |.gtr=>K (.bool (A.lt b a))
 |.geq=>K (.bool (A.le b a))
 |.xor=>dR (A.andB (A.andB (A.le 0 a) (A.le 0 b)) (A.andB (A.lt a (tF k)) (A.lt b (tF k)))) (K (.int k (A.num (A.bit .xor (A.fD a) (A.fD b)))))
 |.or=>dR (A.andB (A.andB (A.le 0 a) (A.le 0 b)) (A.andB (A.lt a (tF k)) (A.lt b (tF k)))) (K (.int k (A.num (A.bit .or (A.fD a) (A.fD b)))))
 |.and=>dR (A.andB (A.andB (A.le 0 a) (A.le 0 b)) (A.andB (A.lt a (tF k)) (A.lt b (tF k)))) (K (.int k (A.num (A.bit .and (A.fD a) (A.fD b)))))
 |_=>false
def aFO (A:Ar)(T:cF)(op:BinOp)(xt:TypeId)(x y:Value)(K:Value→Bool):Bool :=
 match x,y with
 |.int k a,.int k' b=>(match aEo op with
  |true=>dR (A.andB (A.le 0 a) (A.eq b 1)) (K (.int k (A.quo a 2)))
  |false=>(match kEq k k' with|true=>aHt A op k a b K|false=>false))
 |.bool a,.bool b=>(match op,look T xt with
  |.eql,some { kind:=.bool,.. }=>K (.bool (A.eqB a b))
  |.neq,some { kind:=.bool,.. }=>K (.bool (A.notB (A.eqB a b)))
  |_,_=>false)
 |.agg xs,.agg ys=>(match look T xt with
  |some _=>(match dE xs.toList,dE ys.toList with
   |true,true=>(match veq A T 100 xt (.agg xs) (.agg ys) with
    |some r=>(match op with
     |.eql=>K (.bool r)
     |.neq=>K (.bool (A.notB r))
     |_=>false)
    |none=>false)
   |_,_=>false)
  |none=>false)
 |_,_=>false
def aGL (T:cF)(h:Heap)(op:BinOp)(t:TypeId)(x:Value)(K:Value→Bool):Bool :=
 match look T t,aCB h x,op with
 |some { kind:=.sl _,.. },some b,.eql=>K (.bool b)
 |some { kind:=.sl _,.. },some b,.neq=>K (.bool (!b))
 |_,_,_=>false
def wun (A:Ar)(op:UnOp)(x:Value)(K:Value→Bool):Bool :=
 match op,x with
 |.neg,.int k a=>dR (A.fits k (A.neg a)) (K (.int k (A.neg a)))
 |.not,.bool b=>K (.bool (A.notB b))
 |_,_=>false
def O5 (T:cF)(t:TypeId)(ps:List (Nat × Value))(K:Value→Bool):Bool :=
 match look T t with
 |some ti =>
  match (match ti.kind with|.st fs=>jJ T fs|.ar _ e=>(look T e).isSome|_=>false),jN ps with
  |true,true=>(match AV (places T ti) ps ti.zv.cells.toList with
   |some cells=>K (.agg cells.toArray)
   |none=>false)
  |_,_=>false
 |none=>false
def EE (A:Ar)(T:cF)(b:Builtin)(ts:Array TypeId)(vs:List Value)(K:Value→Bool):Bool :=
 match b,ts.toList,vs with
 |.len,[t],[.slice _ n _]=>(match look T t with|some { kind:=.sl _,.. }=>K (.int .i64 (A.num n))|_=>false)
 |.cap,[t],[.slice none _ c]=>(match look T t with|some { kind:=.sl _,.. }=>K (.int .i64 (A.num c))|_=>false)
 |.max,_,v::r=>o8 (UT A.max v r) K
 |.min,_,v::r=>o8 (UT A.min v r) K
 |_,_,_=>false
def tZ (A:Ar)(T:cF)(env:List (Nat × Value))(h:Heap)(op:Op)(K:Value→Bool):Bool :=
 match op with
 |.move x|.assign x=>o8 (cU env x) K
 |.pick c a b=>o8 (cU env c) fun u=>(match u with
  |.bool t=>wbr t (fun _=>o8 (cU env a) K) (fun _=>o8 (cU env b) K)
  |_=>false)
 |.nilCheck x=>o8 (cU env x) fun u=>(match u with
  |.pointer (some a)=>K (.pointer (some a))
  |.func (.func f) fi c=>K (.func (.func f) fi c)
  |.func (.yield f) fi c=>K (.func (.yield f) fi c)
  |_=>false)
 |.load t x=>o8 (cU env x) fun u=>UL T h t u K
 |.fieldAddr s x f=>o8 (cU env x) fun u=>vD T s u f K
 |.field s x f=>o8 (cU env x) fun u=>QA T s u f K
 |.indexAddr t x i=>o8 (cU env x) fun u=>o8 (cU env i) fun j=>vI A T t u j K
 |.index t x i=>o8 (cU env x) fun u=>o8 (cU env i) fun j=>OZ A T t u j K
 |.binOp op t x y _=>o8 (cU env x) fun u=>o8 (cU env y) fun v=>(match v with
  |.slice none _ _=>aGL T h op t u K
  |_=>aFO A T op t u v K)
 |.unOp op _ x=>o8 (cU env x) fun u=>wun A op u K
 |.convert s d x=>o8 (cU env x) fun u=>(match u,look T s,look T d with
  |.int _ n,some _,some { kind:=.int k,.. }=>dR (A.fits k n) (K (.int k n))
  |_,_,_=>false)
 |.makeFunc fn first cap=>(match fn,first.toList with
  |.func f,[]=>(match xV env cap.toList with|some l=>K (.func (.func f) #[] l.toArray)|none=>false)
  |_,_=>false)
 |.extract x i=>o8 (cU env x) fun u=>(match u with
  |.tuple vs=>o8 (vs.toList[i]?) K
  |_=>false)
 |.build t ps=>(match jP env ps.toList with|some l=>O5 T t l K|none=>false)
 |.call c=>(match c.callee with
  |.builtin b=>(match j5 env c.args.toList with|some vs=>EE A T b c.argTypes vs K|none=>false)
  |_=>false)
 |_=>false
def RL (T:cF)(h:Heap)(nx:Nat)(t:TypeId)(x v:Value)(K:qM):Bool :=
 match x with
 |.pointer (some ⟨k,o,none⟩) =>
  (match look T t,look h k with
  |some ti,some (.cells true _ sz cs) =>
   (match Nat.beq v.cells.size ti.size,(match v with|.tuple _=>false|_=>true) with
   |true,true=>dR (Nat.ble (o+v.cells.size) cs.length) (K undef (vS h k (.cells true false sz (eC cs o v.cells.toList))) nx)
   |_,_=>false)
  |_,_=>false)
 |_=>false
def aF3 (h:Heap)(nx:Nat)(v:Value)(K:qM):Bool :=
 match v with
 |.tuple _=>false
 |v=>K (.pointer (some ⟨nx,0,none⟩)) (cC h nx (.cells true false 1 v.cells.toList)) (nx+1)
def PH (T:cF)(h:Heap)(nx:Nat)(t:TypeId)(K:qM):Bool :=
 match look T t with
 |some ti=>K (.pointer (some ⟨nx,0,none⟩)) (cC h nx (.cells true false 1 ti.zv.cells.toList)) (nx+1)
 |none=>false
def rW (T:cF)(h:Heap)(nx:Nat)(t:TypeId)(len:Nat)(ps:List (Nat × Value))(K:qM):Bool :=
 match look T t with
 |some { kind:=.sl e,.. } =>
  (match look T e with
  |some ei =>
   (match Nat.ble (len*ei.size) 1000000,jN ps with
   |true,true =>
    (match AV (fun i=>some (i*ei.size,ei.size)) ps (rep len ei.zv.cells.toList) with
    |some cells=>K (.slice (some ⟨nx,0,none⟩) len len) (cC h nx (.cells true false ei.size cells)) (nx+1)
    |none=>false)
   |_,_=>false)
  |none=>false)
 |_=>false
def whi (A:Ar)(n c:Nat)(hi:Option Value)(G:Nat→Bool):Bool :=
 match hi with
 |none=>G n
 |some (.int _ i)=>dR (A.andB (A.le 0 i) (A.le i (A.num c))) (G (A.fD i))
 |_=>false
def JA (A:Ar)(T:cF)(h:Heap)(nx:Nat)(t:TypeId)(x:Value)(lo hi mx:Option Value)(K:qM):Bool :=
 match look T t with
 |some { kind:=.sl e,.. } =>
  (match look T e with
  |none=>false
  |some ei =>
   match x,mx with
   |.slice none 0 0,none=>(match isZero lo,isZero hi with|true,true=>K (.slice none 0 0) h nx|_,_=>false)
   |.slice (some ⟨k,o,none⟩) n c,none =>
    whi A n c hi fun hN =>
     (match lo with
     |none=>K (.slice (some ⟨k,o,none⟩) hN c) h nx
     |some (.int _ l)=>dR (A.andB (A.andB (A.le 0 l) (A.le l (A.num hN))) (A.le (A.num hN) (A.num c)))
      (match look h k with
      |some (.cells _ _ _ _)=>dR (A.lt l (A.num c)) (K (.slice (some ⟨k,A.ix o l ei.size,none⟩) (A.subN hN (A.fD l)) (A.subN c (A.fD l))) h nx)
      |_=>false)
     |_=>false)
   |.slice (some ⟨k,o,none⟩) n c,some (.int _ 0) =>
    (match isZero lo,hi with|true,some (.int _ 0)=>K (.slice (some ⟨nx,0,none⟩) 0 0) (cC h nx .zero) (nx+1)|_,_=>false)
   |.slice (some ⟨k,o,none⟩) n c,some (.int _ m) =>
    (match lo,hi with
    |some (.int _ l),some (.int _ u)=>dR (A.andB (A.andB (A.le 0 l) (A.le l u)) (A.andB (A.le u m) (A.andB (A.le 1 m) (A.le m (A.num c))))) (K (.slice (some ⟨nx,0,none⟩) (A.subN (A.fD u) (A.fD l)) (A.subN (A.fD m) (A.fD l))) (V9 h nx k (A.ix o l ei.size) (A.subN (A.fD m) (A.fD l)*ei.size)) (nx+1))
    |none,some (.int _ u)=>dR (A.andB (A.le 0 u) (A.andB (A.le u m) (A.andB (A.le 1 m) (A.le m (A.num c))))) (K (.slice (some ⟨nx,0,none⟩) (A.fD u) (A.fD m)) (V9 h nx k o (A.fD m*ei.size)) (nx+1))
    |_,_=>false)
   |_,_=>false)
 |_=>false
def aFK (h:Heap)(sz:Nat)(x:Value)(G:Nat→List Value→Bool):Bool :=
 match x with
 |.slice none 0 0=>G 0 []
 |.slice (some ⟨k,o,none⟩) m _ =>
  (match look h k with
  |some (.cells _ _ _ cs)=>dR (Nat.ble (o+m*sz) cs.length) (G m ((cs.drop o).take (m*sz)))
  |some .zero=>(match m with|0=>G 0 []|_=>false)
  |_=>false)
 |_=>false
def KQ (A:Ar)(T:cF)(h:Heap)(nx:Nat)(st xt:TypeId)(s x:Value)(K:qM):Bool :=
 match look T st,look T xt with
 |some { kind:=.sl e,.. },some { kind:=.int _,.. } =>
  (match look T e with
  |some ei=>(match s,x,Nat.ble ei.bytes 1000 with
   |.slice none 0 0,.int .i64 i,true=>dR (A.andB (A.lt 0 i) (A.le i 1000000000)) (K (.slice (some ⟨nx,0,none⟩) (A.fD i) (A.fD i)) (cC h nx (.cells true false ei.size (rep (A.fD i) ei.zv.cells.toList))) (nx+1))
   |_,_,_=>false)
  |none=>false)
 |some { kind:=.sl e,.. },some { kind:=.sl _,.. } =>
  (match look T e with
  |none=>false
  |some ei =>
   match Nat.ble ei.bytes 1000 with
   |false=>false
   |true =>
    aFK h ei.size x fun m src =>
     (match s with
     |.slice none 0 0=>wbr (Nat.beq m 0) (fun _=>K (.slice none 0 0) h nx)
      (fun _=>dR (Nat.ble m 1000000000) (K (.slice (some ⟨nx,0,none⟩) m m) (cC h nx (.cells true false ei.size src)) (nx+1)))
     |.slice (some ⟨k,o,none⟩) n c =>
      (match look h k with
      |some .zero=>(match n,c with
       |0,0=>wbr (Nat.beq m 0) (fun _=>K (.slice (some ⟨k,o,none⟩) 0 0) h nx)
        (fun _=>dR (Nat.ble m 1000000000) (K (.slice (some ⟨nx,0,none⟩) m m) (cC h nx (.cells true false ei.size src)) (nx+1)))
       |_,_=>false)
      |some (.cells true _ sz cs) =>
       wbr (Nat.ble (n+m) c)
        (fun _=>dR (Nat.ble (o+(n+m)*ei.size) cs.length) (K (.slice (some ⟨k,o,none⟩) (n+m) c) (vS h k (.cells true false sz (eC cs (o+n*ei.size) src))) nx))
        (fun _=>dR (A.andB (A.andB (Nat.ble (n+m) 1000000000) (Nat.ble (o+n*ei.size) cs.length)) (A.andB (Nat.beq (o+c*ei.size) cs.length) (Nat.beq sz ei.size)))
         (K (.slice (some ⟨nx,0,none⟩) (n+m) (n+m)) (cC (rem h k) nx (.cells true false ei.size ((cs.drop o).take (n*ei.size)++src))) (nx+1)))
      |_=>false)
     |_=>false))
 |_,_=>false
def aAG (h:Heap)(nx:Nat)(K:qM):Bool:=K (.map (some nx)) (cC h nx (.map [])) (nx+1)
def vJ (A:Ar)(T:cF)(h:Heap)(nx:Nat)(t:TypeId)(l c:Value)(K:qM):Bool :=
 match look T t,l,c with
 |some { kind:=.sl e,.. },.int .i64 i,.int .i64 j =>
  (match look T e with
  |some ei=>dR (A.andB (A.andB (A.le 0 i) (A.le i j)) (A.andB (A.le j 1000000000) (Nat.ble ei.bytes 1000)))
   (K (.slice (some ⟨nx,0,none⟩) (A.fD i) (A.fD j)) (cC h nx (.cells true false ei.size (rep (A.fD j) ei.zv.cells.toList))) (nx+1))
  |none=>false)
 |_,_,_=>false
def CG (A:Ar)(T:cF)(h:Heap)(t:TypeId)(x key:Value)(ok:Bool)(K:Value→Bool):Bool :=
 match look T t,x,key with
 |some { kind:=.mp kt et,.. },.map (some k),.agg cs =>
  (match look T kt,look T et,look h k with
  |some { kind:=.st fs,.. },some ei,some (.map es) =>
   (match gY T cs.toList fs,dE cs.toList,pY A T kt (.agg cs) es with
   |true,true,some r =>
    (match ok,r with
    |true,some v=>K (.tuple #[v,.bool true])
    |true,none=>K (.tuple #[ei.zv,.bool false])
    |false,some v=>K v
    |false,none=>K ei.zv)
   |_,_,_=>false)
  |_,_,_=>false)
 |_,_,_=>false
def u9 (A:Ar)(T:cF)(h:Heap)(nx:Nat)(t:TypeId)(x key v:Value)(K:qM):Bool :=
 match look T t,x,key,(match v with|.agg _=>false|.tuple _=>false|_=>true) with
 |some { kind:=.mp kt _,.. },.map (some k),.agg cs,true =>
  (match look T kt,look h k with
  |some { kind:=.st fs,.. },some (.map es) =>
   (match gY T cs.toList fs,dE cs.toList,pY A T kt (.agg cs) es with
   |true,true,some none=>K undef (vS h k (.map (es++[(.agg cs,v)]))) nx
   |_,_,_=>false)
  |_,_=>false)
 |_,_,_,_=>false
def PC (T:cF)(h:Heap)(nx:Nat)(t:TypeId)(x:Value)(K:qM):Bool :=
 match look T t,x with
 |some { kind:=.sl _,.. },.slice none 0 0=>K (.tuple #[]) h nx
 |some { kind:=.sl e,.. },.slice (some ⟨k,o,none⟩) n _ =>
  (match n with
  |0=>K (.tuple #[]) h nx
  |_=>(match look T e,look h k with
   |some ei,some (.cells true _ sz cs)=>dR (Nat.ble (o+n*ei.size) cs.length) (K (.tuple #[]) (vS h k (.cells true false sz (eC cs o (rep n ei.zv.cells.toList)))) nx)
   |_,_=>false))
 |_,_=>false
def wop (A:Ar)(T:cF)(C:tO)(Y:tO)(env:List (Nat × Value))(h:Heap)(nx:Nat)(op:Op)(K:qM):Bool :=
 match op with
 |.store t x y=>o8 (cU env x) fun p=>o8 (cU env y) fun v=>RL T h nx t p v K
 |.alloc t=>PH T h nx t K
 |.box _ x=>o8 (cU env x) fun v=>aF3 h nx v K
 |.buildSlice t n ps=>(match jP env ps.toList with|some l=>rW T h nx t n l K|none=>false)
 |.slice t x lo hi mx=>o8 (cU env x) fun v=>(match j7 env lo,j7 env hi,j7 env mx with
  |some l,some u,some m=>JA A T h nx t v l u m K
  |_,_,_=>false)
 |.makeMap _ none=>aAG h nx K
 |.makeSlice t l c=>o8 (cU env l) fun l=>o8 (cU env c) fun c=>vJ A T h nx t l c K
 |.lookup t m k ok=>o8 (cU env m) fun x=>o8 (cU env k) fun y=>CG A T h t x y ok (fun v=>K v h nx)
 |.mapUpdate t m k u=>o8 (cU env m) fun x=>o8 (cU env k) fun y=>o8 (cU env u) fun v=>u9 A T h nx t x y v K
 |.call c=>(match c.callee with
  |.builtin .append=>(match c.argTypes.toList,j5 env c.args.toList with|[st,xt],some [s,x]=>KQ A T h nx st xt s x K|_,_=>false)
  |.builtin .clear=>(match c.argTypes.toList,j5 env c.args.toList with|[t],some [x]=>PC T h nx t x K|_,_=>false)
  |.builtin _=>tZ A T env h op (fun v=>K v h nx)
  |.value f=>o8 (cU env f) fun fv=>(match j5 env c.args.toList with
   |some l=>(match fv with
    |.func (.func g) first cap=>(match first.toList,nU cap.toList with
     |[],true=>C g (l++cap.toList) h nx K
     |_,_=>false)
    |.func (.yield q) first _=>(match first.toList with
     |[]=>Y q l h nx K
     |_=>false)
    |_=>false)
   |none=>false)
  |_=>false)
 |_=>tZ A T env h op (fun v=>K v h nx)
def z9 (A:Ar)(ops:List Oper)(env:List (Nat × Value))(g:Option (Nat × Bool))(Y N:List (Nat × Value)→Bool):Bool :=
 match g with
 |none=>Y env
 |some (j,want)=>match eO ops j with
  |some o=>(match o.dst with
   |some t=>(match look env t with
    |some (.bool b)=>wbr (A.eqB b want) (fun _=>Y (put env t (.bool want))) (fun _=>N (put env t (.bool (!want))))
    |some (.tuple _)=>N env
    |_=>false)
   |none=>false)
  |none=>false
def EG (tn:Nat)(env:List (Nat × Value))(dst:Option Nat)(v:Value)(K:List (Nat × Value)→Bool):Bool :=
 match dst with
 |none=>K env
 |some d=>match Nat.blt d tn with|true=>K (put env d v)|false=>false
def aBG (A:Ar)(T:cF)(C:tO)(Y:tO)(tn:Nat)(ops:List Oper):List Oper→List (Nat × Value)→Heap→Nat→oR→Bool
 |[],env,h,nx,K=>K env h nx
 |o :: r,env,h,nx,K=>z9 A ops env o.guard
    (fun env=>wop A T C Y env h nx o.op fun v h' nx'=>EG tn env o.dst v fun env'=>aBG A T C Y tn ops r env' h' nx' K)
    (fun env=>EG tn env o.dst undef fun env'=>aBG A T C Y tn ops r env' h nx K)
def DJ (A:Ar)(T:cF)(C:tO)(hJ:Heap)(nx:Nat)(env:List (Nat × Value))(op:Op)(K:Value→Bool):Bool :=
 match op with
 |.load _ _=>tZ A T env hJ op K
 |.lookup t m k ok=>o8 (cU env m) fun x=>o8 (cU env k) fun y=>CG A T hJ t x y ok K
 |.slice t x lo hi mx=>o8 (cU env x) fun v=>(match j7 env lo,j7 env hi,j7 env mx with
  |some l,some u,some m=>JA A T hJ nx t v l u m (fun v _ nx'=>match Nat.beq nx' nx with|true=>K v|false=>false)
  |_,_,_=>false)
 |.call c=>(match c.callee with
  |.builtin _=>tZ A T env [] op K
  |.value f=>o8 (cU env f) fun fv=>(match j5 env c.args.toList with
   |some l=>(match fv with
    |.func (.func g) first cap=>(match first.toList,nU cap.toList with
     |[],true=>C g (l++cap.toList) (dT hJ) nx (fun v _ _=>match gT v with|true=>K v|false=>false)
     |_,_=>false)
    |_=>false)
   |none=>false)
  |_=>false)
 |_=>tZ A T env [] op K
def LU (A:Ar)(T:cF)(C:tO)(tn:Nat)(ops:List Oper)(hJ:Heap)(nx:Nat):List Nat→List (Nat × Value)→(List (Nat × Value)→Bool)→Bool
 |[],env,K=>K env
 |i::r,env,K=>match eO ops i with
  |none=>false
  |some o=>z9 A ops env o.guard
   (fun env=>DJ A T C hJ nx env o.op fun v=>EG tn env o.dst v fun env=>LU A T C tn ops hJ nx r env K)
   (fun env=>EG tn env o.dst undef fun env=>LU A T C tn ops hJ nx r env K)
def CK (T:cF)(tn:Nat)(ops:List Oper):List Nat→List (Nat × Value)→Heap→Nat→oR→Bool
 |[],env,h,nx,K=>K env h nx
 |i::r,env,h,nx,K=>match eO ops i with
  |some { op:=.alloc t,dst:=some d,.. }=>(match look T t with
   |some ti=>EG tn env (some d) (.pointer (some ⟨nx,0,none⟩)) fun env=>CK T tn ops r env (cC h nx (.cells true false 1 ti.zv.cells.toList)) (nx+1) K
   |none=>false)
  |_=>false
def MM (A:Ar)(T:cF)(C:tO)(Y:tO)(tn:Nat)(ops:List Oper)(hJ:Heap):List (Nat × Bool)→List (Nat × Value)→Heap→Nat→oR→Bool
 |[],env,h,nx,K=>K env h nx
 |(i,chk)::r,env,h,nx,K=>match eO ops i with
  |none=>false
  |some o=>z9 A ops env o.guard
   (fun env=>dR (xE env hJ chk o.op) (wop A T C Y env h nx o.op fun v h' nx'=>EG tn env o.dst v fun env'=>MM A T C Y tn ops hJ r env' h' nx' K))
   (fun env=>EG tn env o.dst undef fun env'=>MM A T C Y tn ops hJ r env' h nx K)
def T8 (A:Ar)(T:cF)(C:tO)(Y:tO)(tn:Nat)(ops:List Oper)(p:eM)(env:List (Nat × Value))(h:Heap)(nx:Nat)(K:oR):Bool :=
 LU A T C tn ops (F0 T ops env p h) nx p.head env fun env1 =>
  CK T tn ops p.allocs env1 h nx fun env2 h2 nx2 =>
   MM A T C Y tn ops (F0 T ops env p h) p.tail env2 h2 nx2 K
def aAF (A:Ar)(T:cF)(C:tO)(Y:tO)(tn:Nat)(ops:List Oper)(o:Oper)(e:List (Nat × Value))(h:Heap)(nx:Nat)(K:oR):Bool :=
 z9 A ops e o.guard (fun e=>wop A T C Y e h nx o.op fun v h' nx'=>EG tn e o.dst v fun e'=>K e' h' nx') (fun e=>EG tn e o.dst undef fun e'=>K e' h nx)
def wall (F:Nat→Bool):List Nat→Bool
 |[]=>true
 |i::r=>F i&&wall F r
def aDt (A:Ar)(T:cF)(C:tO)(Y:tO)(tn:Nat)(ops:List Oper)(K:oR):Nat→List Nat→oR
 |0,_=>K
 |n+1,done=>fun e h nx=>match eE ops done ops 0 with
  |[]=>K e h nx
  |i::r=>wall (fun j=>match eO ops j with|some o=>aAF A T C Y tn ops o e h nx (aDt A T C Y tn ops K n (j::done))|none=>false) (i::r)
def IZ (A:Ar)(T:cF)(C:tO)(Y:tO)(tn:Nat)(ops:List Oper)(K:oR):Nat→List Nat→oR
 |0,_=>K
 |n+1,done=>fun e h nx=>match eE ops done ops 0 with
  |[]=>K e h nx
  |j::_=>(match eO ops j with|some o=>aAF A T C Y tn ops o e h nx (IZ A T C Y tn ops K n (j::done))|none=>false)
def aB2 (A:Ar)(T:cF)(C:tO)(Y:tO)(tn:Nat)(ops:Array Oper)(e:List (Nat × Value))(h:Heap)(nx:Nat)(K:oR):Bool :=
 IZ A T C Y tn ops.toList (fun e0 h0 n0=>D9 (PD e0 []) fun e0=>D9 (R4 nx (XX nx e0 e0 h0 h0) h0) fun h0 =>
  aDt A T C Y tn ops.toList (fun e1 h1 _=>aCW nx (XX nx e0 e1 h0 h1) e0 h0 n0 e1 h1) ops.size [] e h nx&&K e0 h0 n0) ops.size [] e h nx
def YF (F:oR→oR):Nat→oR
 |0,_,_,_=>false
 |n+1,e,h,nx=>F (YF F n) e h nx
def oH (A:Ar)(T:cF)(C:tO)(Y:tO)(tn:Nat)(PL:Nat→Option eM)(M:Nat)(R:VRB):Code→oR→(Nat→oR)→oR→oR
 |.skip,kn,_,_=>kn
 |.region id ops draw,kn,_,_=>fun e h nx=>match draw with
  |false=>aBG A T C Y tn ops.toList ops.toList e h nx kn
  |true=>(match PL id with|some p=>T8 A T C Y tn ops.toList p e h nx kn|none=>aB2 A T C Y tn ops e h nx kn)
 |.seq a b,kn,kx,kr=>oH A T C Y tn PL M R a (oH A T C Y tn PL M R b kn kx kr) kx kr
 |.cond c t f,kn,kx,kr=>fun e h nx=>match cU e c with
  |some (.bool b)=>wbr b (fun _=>oH A T C Y tn PL M R t kn kx kr e h nx) (fun _=>oH A T C Y tn PL M R f kn kx kr e h nx)
  |_=>false
 |.block id b,kn,kx,kr=>oH A T C Y tn PL M R b kn (fun j=>match Nat.beq j id with|true=>kn|false=>kx j) kr
 |.loop b,_,kx,kr=>YF (fun k=>oH A T C Y tn PL M R b k kx kr) M
 |.rangeFunc g ps as bd,kn,kx,kr=>R g ps as bd kn kx kr
 |.exit id,_,kx,_=>kx id
 |.ret,_,_,kr=>kr
 |.label _,kn,_,_=>kn
 |.scope b,kn,kx,kr=>oH A T C Y tn PL M R b kn kx kr
 |_,_,_,_=>fun _ _ _=>false
def yH (T:cF)(e:List (Nat × Value))(h:Heap):List ResultVar→(List Value→Bool)→Bool
 |[],K=>K []
 |.tmp t::r,K=>o8 (look e t) fun v=>yH T e h r fun l=>K (v::l)
 |.cell a t::r,K=>o8 (look e a) fun p=>UL T h t p fun v=>yH T e h r fun l=>K (v::l)
def aHM (T:cF)(fn:Func)(K:qM):oR:=fun e h nx=>yH T e h fn.results.toList fun l =>
 match l with
 |[v]=>K v h nx
 |l=>match HM l with|true=>K (.tuple l.toArray) h nx|false=>false
def aAM (C:tO)(f tn:Nat):VRB:=fun g ps as bd kn kx kr e h nx =>
 o8 (cU e g) fun gv=>match gv with
  |.func (.func q) first cap=>(match first.toList,nU cap.toList with
   |[],true=>C q (.func (.yield (nx+1)) #[] #[]::cap.toList)
    (cC (cC h nx .deferred) (nx+1) (.loop { state:=.ready,pending:=none,fn:=f,env:=e,tn:=tn,params:=ps.toList,assign:=as,body:=bd,defers:=nx })) (nx+2) fun _ h' nx' =>
    (match look h' (nx+1),look h' nx with
    |some (.loop l),some .deferred=>(match l.state,l.pending with
     |.busy,_=>false
     |_,none=>kn e (fS h' nx) nx'
     |_,some (.exit id)=>kx id e (fS h' nx) nx'
     |_,some .ret=>kr e (fS h' nx) nx'
     |_,_=>false)
    |_,_=>false)
   |_,_=>false)
  |_=>false
def ML:VRB:=fun _ _ _ _ _ _ _ _ _ _=>false
def YE (q:Nat)(K:qM)(j:Option Code):oR:=fun _ h nx =>
 match look h q with
 |some (.loop l)=>K (.bool j.isNone) (vS h q (.loop { l with state:=if j.isNone then .ready else .done,pending:=j })) nx
 |_=>false
def RF (A:Ar)(T:cF)(C:tO)(Y:tO)(PL:Nat→Nat→Option eM)(M:Nat):tO:=fun q args h nx K =>
 match look h q with
 |some (.loop l)=>(match qW l.tn l.env l.params args,dN (PL l.fn) l.assign&&dN (PL l.fn) l.body with
  |some e0,true=>oH A T C Y l.tn (PL l.fn) M ML l.assign (fun e1 h1 nx1 =>
   match look h1 q with
   |some (.loop l1)=>(match l1.state with
    |.ready=>oH A T C Y l.tn (PL l.fn) M ML l.body (YE q K none) (fun id=>YE q K (some (.exit id))) (YE q K (some .ret)) e1 (vS h1 q (.loop { l1 with state:=.busy })) nx1
    |_=>false)
   |_=>false) (fun _ _ _ _=>false) (fun _ _ _=>false) e0 h nx
  |_,_=>false)
 |_=>false
def aAw (c:B9)(XB:Nat→Option (List Value→Heap→Nat→qM→Bool))(M:Nat)(C:tO)(Y:tO):tO:=fun f args h nx K =>
 match c.X f with
 |some _=>(match XB f with|some xb=>xb args h nx K|none=>false)
 |none=>match c.FT f with
  |none=>false
  |some fn=>(match fn.body,Nat.ble args.length fn.ntmps with
   |some b,true =>
    let fin:oR:=aHM c.T fn fun v h' nx'=>K v h' nx'
    oH c.A c.T C Y fn.ntmps (c.PL f) M (aAM C f fn.ntmps) b fin (fun _ _ _ _=>false) fin (pR 0 args) h nx
   |_,_=>false)
def aIi (h:Heap)(nx:Nat)(K:qM):qM:=fun v h' nx'=>match gT v with
 |true=>K v h nx
 |false=>K v (app (nY nx h' h') h) nx'
def aFe (PR:Nat→Bool)(C:tO):tO:=fun f args h nx K=>match PR f with
 |true=>C f args (dT h) nx (aIi h nx K)
 |false=>C f args h nx K
def AI (c:B9)(XB:Nat→Option (List Value→Heap→Nat→qM→Bool)):Nat→Bool→tO
 |0,_=>fun _ _ _ _ _=>false
 |d+1,false=>aFe c.PR (aAw c XB c.M (AI c XB d false) (AI c XB d true))
 |d+1,true=>RF c.A c.T (AI c XB d false) (AI c XB d true) c.PL c.M
end Go.Aw
end
