/-
  Parts of the proof, put together. No condition.
-/
import Derived.Test.YtjahkcbdecgbhaaGreatQAl
set_option linter.unusedSimpArgs false
set_option linter.unusedVariables false
noncomputable section
namespace Go.Aw
open Go.RowKit
def YG:Int→Int→Bool
 |.ofNat a,.ofNat b=>Nat.beq a b
 |.negSucc a,.negSucc b=>Nat.beq a b
 |_,_=>false
theorem ZH {a b:Int}(h:YG a b=true):a=b:=by
 cases a <;> cases b <;> simp only [YG] at h <;> first|cases h;done|rw [beq_true h]
def TW:Bool→Bool→Bool
 |true,true=>true
 |false,false=>true
 |_,_=>false
theorem ER {a b:Bool}(h:TW a b=true):a=b:=by cases a <;> cases b <;> first|rfl|cases h
def T2:Value→Value→Bool
 |.bool a,.bool b=>TW a b
 |.int k a,.int j b=>kEq k j&&YG a b
 |.slice none n c,.slice none n' c'=>Nat.beq n n'&&Nat.beq c c'
 |.slice (some ⟨a,o,none⟩) n c,.slice (some ⟨a',o',none⟩) n' c'=>Nat.beq a a'&&Nat.beq o o'&&Nat.beq n n'&&Nat.beq c c'
 |.pointer none,.pointer none=>true
 |.pointer (some ⟨a,o,none⟩),.pointer (some ⟨a',o',none⟩)=>Nat.beq a a'&&Nat.beq o o'
 |.map none,.map none=>true
 |.map (some a),.map (some a')=>Nat.beq a a'
 |.nilFunc,.nilFunc=>true
 |.nilIface,.nilIface=>true
 |_,_=>false
theorem N6 {v u:Value}(h:T2 v u=true):v=u:=by
 unfold T2 at h;split at h
 ·rw [ER h]
 ·simp only [Bool.and_eq_true] at h;rw [pE h.1,ZH h.2]
 ·simp only [Bool.and_eq_true] at h;rw [beq_true h.1,beq_true h.2]
 ·simp only [Bool.and_eq_true] at h;obtain⟨⟨⟨h1,h2⟩,h3⟩,h4⟩:=h;rw [beq_true h1,beq_true h2,beq_true h3,beq_true h4]
 ·rfl
 ·simp only [Bool.and_eq_true] at h;rw [beq_true h.1,beq_true h.2]
 ·rfl
 ·rw [beq_true h]
 ·rfl
 ·rfl
 ·cases h
def FB:List Value→List Value→Bool
 |[],[]=>true
 |a::r,b::s=>T2 a b&&FB r s
 |_,_=>false
theorem z9:∀ {l m:List Value},FB l m=true→l=m
 |[],[],_=>rfl
 |[],_::_,h=>by cases h
 |_::_,[],h=>by cases h
 |a::r,b::s,h=>by
  simp only [FB,Bool.and_eq_true] at h;rw [N6 h.1,z9 h.2]
def P7:Fn→Fn→Bool
 |.func a,.func b=>Nat.beq a b
 |.yield a,.yield b=>Nat.beq a b
 |_,_=>false
theorem V8 {f g:Fn}(h:P7 f g=true):f=g:=by
 unfold P7 at h;split at h
 ·rw [beq_true h]
 ·rw [beq_true h]
 ·cases h
def MH:Value→Value→Bool
 |.func f a c,.func f' a' c'=>P7 f f'&&FB a.toList a'.toList&&FB c.toList c'.toList
 |a,b=>T2 a b
theorem D0 {v u:Value}(h:MH v u=true):v=u:=by
 unfold MH at h;split at h
 ·simp only [Bool.and_eq_true] at h;obtain⟨⟨h1,h2⟩,h3⟩:=h;rw [V8 h1,show _=_ from Array.ext' (z9 h2),show _=_ from Array.ext' (z9 h3)]
 ·exact N6 h
def HP:List Value→List Value→Bool
 |[],[]=>true
 |a::r,b::s=>MH a b&&HP r s
 |_,_=>false
theorem w8:∀ {l m:List Value},HP l m=true→l=m
 |[],[],_=>rfl
 |[],_::_,h=>by cases h
 |_::_,[],h=>by cases h
 |a::r,b::s,h=>by
  simp only [HP,Bool.and_eq_true] at h;rw [D0 h.1,w8 h.2]
def NM:Value→Value→Bool
 |.agg a,.agg b=>HP a.toList b.toList
 |a,b=>MH a b
theorem FL {v u:Value}(h:NM v u=true):v=u:=by
 unfold NM at h;split at h
 ·rw [show _=_ from Array.ext' (w8 h)]
 ·exact D0 h
def I5:List Value→List Value→Bool
 |[],[]=>true
 |a::r,b::s=>NM a b&&I5 r s
 |_,_=>false
theorem IM:∀ {l m:List Value},I5 l m=true→l=m
 |[],[],_=>rfl
 |[],_::_,h=>by cases h
 |_::_,[],h=>by cases h
 |a::r,b::s,h=>by
  simp only [I5,Bool.and_eq_true] at h;rw [FL h.1,IM h.2]
def LJ:Value→Value→Bool
 |.tuple a,.tuple b=>I5 a.toList b.toList
 |a,b=>NM a b
theorem FM {v u:Value}(h:LJ v u=true):v=u:=by
 unfold LJ at h;split at h
 ·rw [show _=_ from Array.ext' (IM h)]
 ·exact FL h
def aCz (n:Nat):Value→Bool
 |.slice (some a) _ _=>Nat.blt a.block n
 |.pointer (some a)=>Nat.blt a.block n
 |.map (some k)=>Nat.blt k n
 |v=>gS v
theorem SJ {n:Nat}{v:Value}(h:aCz n v=true):oG (lH id) n v:=by
 unfold aCz at h;split at h
 ·exact⟨Nat.le_of_ble_eq_true h,fun e=>by cases e⟩
 ·exact⟨Nat.le_of_ble_eq_true h,rfl⟩
 ·exact⟨Nat.le_of_ble_eq_true h,rfl⟩
 ·cases v <;> simp [gS] at h <;> first|trivial|(rename_i a;cases a <;> simp [gS] at h <;> trivial)|(simp [oG];done)|skip
  all_goals (first|(rename_i a _ _;cases a <;> simp [gS] at h <;> simp [oG])|skip)
def aCZ (n:Nat):List Value→Bool
 |[]=>true
 |v::r=>aCz n v&&aCZ n r
theorem TM {n:Nat}:∀ {l:List Value},aCZ n l=true→∀ v∈l,oG (lH id) n v
 |[],_,v,hv=>by cases hv
 |x::r,h,v,hv=>by
  simp only [aCZ,Bool.and_eq_true] at h;cases hv with
  |head=>exact SJ h.1
  |tail _ hm=>exact TM h.2 v hm
def aER (n:Nat):Fn→Bool
 |.func _=>true
 |.yield l=>Nat.blt l n
 |_=>false
theorem aBE {n:Nat}{f:Fn}(h:aER n f=true):OY (lH id) n f:=by
 unfold aER at h;split at h
 ·trivial
 ·exact⟨Nat.le_of_ble_eq_true h,rfl⟩
 ·cases h
def ZT (n:Nat):Value→Bool
 |.func f _ c=>aER n f&&aCZ n c.toList
 |v=>aCz n v
theorem JU {n:Nat}{v:Value}(h:ZT n v=true):CS n v:=by
 unfold ZT at h;split at h
 ·simp only [Bool.and_eq_true] at h;exact⟨aBE h.1,TM h.2⟩
 ·rename_i hf;have h2:=SJ h;cases v <;> first|exact h2|exact absurd rfl (hf _ _ _)
def RH (n:Nat):List Value→Bool
 |[]=>true
 |v::r=>ZT n v&&RH n r
theorem xG {n:Nat}:∀ {l:List Value},RH n l=true→∀ v∈l,CS n v
 |[],_,v,hv=>by cases hv
 |x::r,h,v,hv=>by
  simp only [RH,Bool.and_eq_true] at h;cases hv with
  |head=>exact JU h.1
  |tail _ hm=>exact xG h.2 v hm
def aDp (n:Nat):Value→Bool
 |.agg c=>RH n c.toList
 |v=>ZT n v
theorem TZ {n:Nat}{v:Value}(h:aDp n v=true):kH (lH id) n v:=by
 unfold aDp at h;split at h
 ·exact fun x hx=>xG h x hx
 ·exact fZ (JU h)
def UC (n:Nat):List Value→Bool
 |[]=>true
 |v::r=>aDp n v&&UC n r
theorem NB {n:Nat}:∀ {l:List Value},UC n l=true→∀ v∈l,kH (lH id) n v
 |[],_,v,hv=>by cases hv
 |x::r,h,v,hv=>by
  simp only [UC,Bool.and_eq_true] at h;cases hv with
  |head=>exact TZ h.1
  |tail _ hm=>exact NB h.2 v hm
def ZG (n:Nat):Value→Bool
 |.tuple c=>UC n c.toList
 |v=>aDp n v
theorem JS {n:Nat}{v:Value}(h:ZG n v=true):BM n v:=by
 unfold ZG at h;split at h
 ·exact fun x hx=>NB h x hx
 ·exact lL (TZ h)
def nm (ρ:List (Nat × Nat))(k:Nat):Nat:=match look ρ k with|some j=>j|none=>k
def SL (σ:Nat→Nat)(m:Nat):List (Value × Value)→List (Value × Value)→Bool
 |[],[]=>true
 |a::r,b::s=>NM b.1 a.1&&MH b.2 (bO σ a.2)&&ZT m a.2&&SL σ m r s
 |_,_=>false
theorem MN {σ:Nat→Nat}{m:Nat}:∀ {l l':List (Value × Value)},SL σ m l l'=true→l'=l.map (fun e=>(e.1,bO σ e.2))∧∀ e∈l,CS m e.2
 |[],[],_=>⟨rfl,fun e he=>by cases he⟩
 |[],_::_,h=>by cases h
 |_::_,[],h=>by cases h
 |a::r,b::s,h=>by
  simp only [SL,Bool.and_eq_true] at h;obtain⟨⟨⟨h1,h2⟩,h3⟩,h4⟩:=h;obtain⟨i1,i2⟩:=MN h4;refine⟨?_,fun e he=>?_⟩
  ·rw [List.map_cons,← i1,← FL h1,← D0 h2]
  ·cases he with
   |head=>exact JU h3
   |tail _ hm=>exact i2 e hm
def aAz (σ:Nat→Nat)(m:Nat):aV→aV→Bool
 |.cells wr g sz cs,.cells wr' g' sz' cs'=>RH m cs&&TW wr wr'&&TW g g'&&Nat.beq sz sz'&&HP cs' (cs.map (bO σ))
 |.map es,.map es'=>SL σ m es es'
 |.zero,.zero=>true
 |_,_=>false
theorem ZB {σ:Nat→Nat}{m:Nat}{o o':aV}(h:aAz σ m o o'=true):bU σ m o o':=by
 unfold aAz at h;split at h
 ·simp only [Bool.and_eq_true] at h;obtain⟨⟨⟨⟨h1,h2⟩,h3⟩,h4⟩,h5⟩:=h;exact⟨ER h2,ER h3,beq_true h4,w8 h5,xG h1⟩
 ·exact MN h
 ·trivial
 ·cases h
def R7 (b:Nat)(ρ:List (Nat × Nat))(m:Nat)(h':Heap):Heap→Bool
 |[]=>true
 |(k,o)::r=>Nat.blt k m&&(match Nat.blt k b with|true=>true|false=>(match look ρ k with|some _=>true|none=>false))&&(match look h' (nm ρ k) with|some o'=>aAz (nm ρ) m o o'|none=>false)&&R7 b ρ m h' r
theorem M4 {b:Nat}{ρ:List (Nat × Nat)}{m:Nat}{h':Heap}:∀ {h:Heap},R7 b ρ m h' h=true→∀ k o,look h k=some o→k<m∧(b≤k→∃ j,look ρ k=some j)∧∃ o',look h' (nm ρ k)=some o'∧bU (nm ρ) m o o'
 |[],_,k,o,hk=>by cases hk
 |(j,q)::r,h,k,o,hk=>by
  simp only [R7,Bool.and_eq_true] at h;obtain⟨⟨⟨h1,h2⟩,h3⟩,h4⟩:=h;rw [aD] at hk;split at hk
  ·rename_i hb;have:=beq_true hb;subst this;injection hk with hk;subst hk;refine⟨Nat.le_of_ble_eq_true h1,fun hb=>?_,?_⟩
   ·split at h2
    ·rename_i hlt;have:=Nat.le_of_ble_eq_true hlt;omega
    ·split at h2
     ·rename_i x hx;exact⟨x,hx⟩
     ·cases h2
   ·split at h3
    ·rename_i o' ho';exact⟨o',ho',ZB h3⟩
    ·cases h3
  ·exact M4 h4 k o hk
theorem S8 {α:Type}{k:Nat}{o:α}{p:Prop}(h:look [] k=some o):p:=by cases h
def aCM (b:Nat):List (Nat × Nat)→Bool
 |[]=>true
 |(k,j)::r=>Nat.ble b k&&Nat.ble b j&&!(oV j (r.map (·.2)))&&aCM b r
theorem SG {b:Nat}:∀ {ρ:List (Nat × Nat)},aCM b ρ=true→(∀ k j,look ρ k=some j→b≤k∧b≤j∧j∈ρ.map (·.2))∧∀ k k' j,look ρ k=some j→look ρ k'=some j→k=k'
 |[],_=>⟨fun k j h=>S8 h,fun k k' j h=>S8 h⟩
 |(a,c)::r,h=>by
  simp only [aCM,Bool.and_eq_true,Bool.not_eq_true'] at h;obtain⟨⟨⟨h1,h2⟩,h3⟩,h4⟩:=h;obtain⟨i1,i2⟩:=SG h4;have h1:=Nat.le_of_ble_eq_true h1;have h2:=Nat.le_of_ble_eq_true h2;have hn:c∉r.map (·.2):=fun hm=>(by rw [dG.2 hm] at h3;cases h3);refine⟨fun k j hl=>?_,fun k k' j hl hl'=>?_⟩
  ·rw [aD] at hl;split at hl
   ·rename_i hb;injection hl with hl;subst hl;rw [← beq_true hb];exact⟨h1,h2,.head _⟩
   ·obtain⟨q1,q2,q3⟩:=i1 k j hl;exact⟨q1,q2,.tail _ q3⟩
  ·rw [aD] at hl hl';split at hl <;> split at hl'
   ·rename_i hb _ hb';exact (beq_true hb).symm.trans (beq_true hb')
   ·injection hl with hl;subst hl;exact absurd (i1 k' _ hl').2.2 hn
   ·injection hl' with hl';subst hl';exact absurd (i1 k _ hl).2.2 hn
   ·exact i2 k k' j hl hl'
def aCE (ρ:List (Nat × Nat))(m:Nat)(e':List (Nat × Value)):List (Nat × Value)→Bool
 |[]=>true
 |(t,v)::r=>(match look e' t with|some v'=>LJ v' (jH (nm ρ) v)|none=>false)&&ZG m v&&aCE ρ m e' r
theorem TS {ρ:List (Nat × Nat)}{m:Nat}{e':List (Nat × Value)}:∀ {e:List (Nat × Value)},aCE ρ m e' e=true→∀ t v,look e t=some v→look e' t=some (jH (nm ρ) v)∧BM m v
 |[],_,t,v,h=>by cases h
 |(j,q)::r,h,t,v,hl=>by
  simp only [aCE,Bool.and_eq_true] at h;obtain⟨⟨h1,h2⟩,h3⟩:=h;rw [aD] at hl;split at hl
  ·rename_i hb;have:=beq_true hb;subst this;injection hl with hl;subst hl;refine⟨?_,JS h2⟩;split at h1
   ·rename_i v' hv';rw [hv',FM h1]
   ·cases h1
  ·exact TS h3 t v hl
def aDd (b:Nat)(ρ:List (Nat × Nat))(e0:List (Nat × Value))(h0:Heap)(n0:Nat)(e:List (Nat × Value))(h:Heap):Bool :=
 Nat.ble b n0&&aCM b ρ&&aCE ρ n0 e e0&&R7 b ρ n0 h h0
theorem TV {b:Nat}{ρ:List (Nat × Nat)}{e0:List (Nat × Value)}{h0:Heap}{n0:Nat}{e:List (Nat × Value)}{h:Heap}{nx:Nat}(hb:aDd b ρ e0 h0 n0 e h=true):pC b (nm ρ) e0 h0 n0 e h nx:=by
 simp only [aDd,Bool.and_eq_true] at hb;obtain⟨⟨⟨h1,h2⟩,h3⟩,h4⟩:=hb;obtain⟨r1,r2⟩:=SG h2;have hh:=M4 h4;have hfix:∀ k,k<b→nm ρ k=k:=fun k hk=>by
  unfold nm;split
  ·rename_i j hj;have:=(r1 k j hj).1;omega
  ·rfl
 refine⟨TS h3,fun k o hk=>⟨(hh k o hk).1,(hh k o hk).2.2⟩,fun k k' o o' hk hk' he=>?_,hfix,Nat.le_of_ble_eq_true h1⟩;have a1:=(hh k o hk).2.1;have a2:=(hh k' o' hk').2.1;by_cases c1:k<b <;> by_cases c2:k'<b
 ·rw [hfix k c1,hfix k' c2] at he;exact he
 ·obtain⟨j,hj⟩:=a2 (by omega);have hn:nm ρ k'=j:=(by unfold nm;rw [hj]);have:=(r1 k' j hj).2.1;rw [hfix k c1,hn] at he;omega
 ·obtain⟨j,hj⟩:=a1 (by omega);have hn:nm ρ k=j:=(by unfold nm;rw [hj]);have:=(r1 k j hj).2.1;rw [hfix k' c2,hn] at he;omega
 ·obtain⟨j,hj⟩:=a1 (by omega);obtain⟨j',hj'⟩:=a2 (by omega);have hn:nm ρ k=j:=(by unfold nm;rw [hj]);have hn':nm ρ k'=j':=(by unfold nm;rw [hj']);rw [hn,hn'] at he;subst he;exact r2 k k' j hj hj'
def prP (b:Nat):Value→Value→List (Nat × Nat)→List (Nat × Nat)
 |.slice (some a) _ _,.slice (some c) _ _,r=>(match Nat.ble b a.block with|true=>(a.block,c.block)::r|false=>r)
 |.pointer (some a),.pointer (some c),r=>(match Nat.ble b a.block with|true=>(a.block,c.block)::r|false=>r)
 |.map (some a),.map (some c),r=>(match Nat.ble b a with|true=>(a,c)::r|false=>r)
 |_,_,r=>r
def aHV (b:Nat):List Value→List Value→List (Nat × Nat)→List (Nat × Nat)
 |v::l,u::m,r=>prP b v u (aHV b l m r)
 |_,_,r=>r
def prS (b:Nat):Value→Value→List (Nat × Nat)→List (Nat × Nat)
 |.func _ _ c,.func _ _ c',r=>aHV b c.toList c'.toList r
 |v,u,r=>prP b v u r
def prL (b:Nat):List Value→List Value→List (Nat × Nat)→List (Nat × Nat)
 |v::l,u::m,r=>prS b v u (prL b l m r)
 |_,_,r=>r
def prA (b:Nat):Value→Value→List (Nat × Nat)→List (Nat × Nat)
 |.agg c,.agg c',r=>prL b c.toList c'.toList r
 |v,u,r=>prS b v u r
def aHE (b:Nat):List Value→List Value→List (Nat × Nat)→List (Nat × Nat)
 |v::l,u::m,r=>prA b v u (aHE b l m r)
 |_,_,r=>r
def prT (b:Nat):Value→Value→List (Nat × Nat)→List (Nat × Nat)
 |.tuple c,.tuple c',r=>aHE b c.toList c'.toList r
 |v,u,r=>prA b v u r
def prM (b:Nat):List (Value × Value)→List (Value × Value)→List (Nat × Nat)→List (Nat × Nat)
 |v::l,u::m,r=>prS b v.2 u.2 (prM b l m r)
 |_,_,r=>r
def prO (b:Nat):Option aV→Option aV→List (Nat × Nat)→List (Nat × Nat)
 |some (.cells _ _ _ cs),some (.cells _ _ _ cs'),r=>prL b cs cs' r
 |some (.map es),some (.map es'),r=>prM b es es' r
 |_,_,r=>r
def prE (b:Nat)(e':List (Nat × Value)):List (Nat × Value)→List (Nat × Nat)→List (Nat × Nat)
 |[],q=>q
 |(t,v)::r,q=>match look e' t with|some u=>prT b v u (prE b e' r q)|none=>prE b e' r q
def grow (b:Nat)(h h':Heap):Nat→List (Nat × Nat)→List (Nat × Nat)→List (Nat × Nat)
 |0,_,d=>d
 |_+1,[],d=>d
 |n+1,(j,k)::r,d=>match look d j with
  |some _=>grow b h h' n r d
  |none=>grow b h h' n (prO b (look h j) (look h' k) r) ((j,k)::d)
def aFg (b:Nat)(h':Heap):Heap→List (Nat × Nat)→List (Nat × Nat)
 |[],r=>r
 |(k,o)::l,r=>match Nat.blt k b with|true=>prO b (some o) (look h' k) (aFg b h' l r)|false=>aFg b h' l r
def XK (b:Nat)(e e':List (Nat × Value))(h h':Heap):List (Nat × Nat):=grow b h h' 10000 (prE b e' e (aFg b h' h [])) []
def EE {α:Type}:List α→(List α→Bool)→Bool
 |[],k=>k []
 |x::r,k=>EE r fun r=>k (x::r)
theorem zI {α:Type}:∀ (l:List α) (k:List α→Bool),EE l k=k l
 |[],k=>rfl
 |x::r,k=>by rw [EE,zI r]
def RN:List (Nat × Value)→List Nat→List (Nat × Value)
 |[],_=>[]
 |(t,v)::r,seen=>match oV t seen with|true=>RN r seen|false=>(t,v)::RN r (t::seen)
def UP (b:Nat)(ρ:List (Nat × Nat)):Heap→Heap
 |[]=>[]
 |(k,o)::r=>match Nat.blt k b with
  |true=>(k,o)::UP b ρ r
  |false=>(match look ρ k with|some _=>(k,o)::UP b ρ r|none=>UP b ρ r)
end Go.Aw
end
