/-
  Parts of a proof. No condition.
-/
import Derived.Test.YthgjfhncomhofaaGreatQAe
set_option linter.unusedSimpArgs false
set_option linter.unusedVariables false
noncomputable section
namespace Go.Aw
open Go.RowKit
def aGM:Int->Int->Bool
 |.ofNat a,.ofNat b=>Nat.beq a b
 |.negSucc a,.negSucc b=>Nat.beq a b
 |_,_=>false
theorem aEQ {a b:Int}(h:aGM a b=true):a=b:=by
 cases a <;> cases b <;> simp only[aGM]at h <;> first|cases h;done|rw[az h]
def aBd:Bool->Bool->Bool
 |true,true=>true
 |false,false=>true
 |_,_=>false
theorem LA {a b:Bool}(h:aBd a b=true):a=b:=by cases a <;> cases b <;> first|rfl|cases h
def aC2:Value->Value->Bool
 |.bool a,.bool b=>aBd a b
 |.int k a,.int j b=>kEq k j&&aGM a b
 |.slice none n c,.slice none n' c'=>Nat.beq n n'&&Nat.beq c c'
 |.slice (some ⟨a,o,none⟩) n c,.slice (some ⟨a',o',none⟩) n' c'=>Nat.beq a a'&&Nat.beq o o'&&Nat.beq n n'&&Nat.beq c c'
 |.pointer none,.pointer none=>true
 |.pointer (some ⟨a,o,none⟩),.pointer (some ⟨a',o',none⟩)=>Nat.beq a a'&&Nat.beq o o'
 |.map none,.map none=>true
 |.map (some a),.map (some a')=>Nat.beq a a'
 |.nilFunc,.nilFunc=>true
 |.nilIface,.nilIface=>true
 |_,_=>false
theorem SR {v u:Value}(h:aC2 v u=true):v=u:=by
 unfold aC2 at h;split at h
 ·rw[LA h]
 ·simp only[af]at h;rw[uD h.1,aEQ h.2]
 ·simp only[af]at h;rw[az h.1,az h.2]
 ·simp only[af]at h;obtain⟨⟨⟨h1,h2⟩,h3⟩,h4⟩:=h;rw[az h1,az h2,az h3,az h4]
 ·rfl
 ·simp only[af]at h;rw[az h.1,az h.2]
 ·rfl
 ·rw[az h]
 ·rfl
 ·rfl
 ·cases h
def KY:List Value->List Value->Bool
 |[],[]=>true
 |a::r,b::s=>aC2 a b&&KY r s
 |_,_=>false
theorem FJ:∀{l m:List Value},KY l m=true->l=m
 |[],[],_=>rfl
 |[],_::_,h=>by cases h
 |_::_,[],h=>by cases h
 |a::r,b::s,h=>by
  simp only[KY,af]at h;rw[SR h.1,FJ h.2]
def ZR:Fn->Fn->Bool
 |.func a,.func b=>Nat.beq a b
 |.yield a,.yield b=>Nat.beq a b
 |_,_=>false
theorem aCK {f g:Fn}(h:ZR f g=true):f=g:=by
 unfold ZR at h;split at h
 ·rw[az h]
 ·rw[az h]
 ·cases h
def TJ:Value->Value->Bool
 |.func f a c,.func f' a' c'=>ZR f f'&&KY a.toList a'.toList&&KY c.toList c'.toList
 |a,b=>aC2 a b
theorem KO {v u:Value}(h:TJ v u=true):v=u:=by
 unfold TJ at h;split at h
 ·simp only[af]at h;obtain⟨⟨h1,h2⟩,h3⟩:=h;rw[aCK h1,show _=_ from Array.ext' (FJ h2),show _=_ from Array.ext' (FJ h3)]
 exact SR h
def ON:List Value->List Value->Bool
 |[],[]=>true
 |a::r,b::s=>TJ a b&&ON r s
 |_,_=>false
theorem EA:∀{l m:List Value},ON l m=true->l=m
 |[],[],_=>rfl
 |[],_::_,h=>by cases h
 |_::_,[],h=>by cases h
 |a::r,b::s,h=>by
  simp only[ON,af]at h;rw[KO h.1,EA h.2]
def UP:Value->Value->Bool
 |.agg a,.agg b=>ON a.toList b.toList
 |a,b=>TJ a b
theorem LL {v u:Value}(h:UP v u=true):v=u:=by
 unfold UP at h;split at h
 ·rw[show _=_ from Array.ext' (EA h)]
 exact KO h
def RD:List Value->List Value->Bool
 |[],[]=>true
 |a::r,b::s=>UP a b&&RD r s
 |_,_=>false
theorem OO:∀{l m:List Value},RD l m=true->l=m
 |[],[],_=>rfl
 |[],_::_,h=>by cases h
 |_::_,[],h=>by cases h
 |a::r,b::s,h=>by
  simp only[RD,af]at h;rw[LL h.1,OO h.2]
def V1:Value->Value->Bool
 |.tuple a,.tuple b=>RD a.toList b.toList
 |a,b=>UP a b
theorem J4 {v u:Value}(h:V1 v u=true):v=u:=by
 unfold V1 at h;split at h
 ·rw[show _=_ from Array.ext' (OO h)]
 exact LL h
def aJD (n:Nat):Value->Bool
 |.slice (some a) _ _=>Nat.blt a.block n
 |.pointer (some a)=>Nat.blt a.block n
 |.map (some k)=>Nat.blt k n
 |v=>gS v
theorem aBh {n:Nat}{v:Value}(h:aJD n v=true):rG (j4 id) n v:=by
 unfold aJD at h;split at h
 ·exact⟨Nat.le_of_ble_eq_true h,fun e=>by cases e⟩
 ·exact⟨Nat.le_of_ble_eq_true h,rfl⟩
 ·exact⟨Nat.le_of_ble_eq_true h,rfl⟩
 ·cases v <;> simp[gS]at h <;> first|trivial|(rename_i a;cases a <;> simp[gS]at h <;> trivial)|(simp[rG];done)|skip
  all_goals(first|(rename_i a _ _;cases a <;> simp[gS]at h <;> simp[rG])|skip)
def aHP (n:Nat):List Value->Bool
 |[]=>true
 |v::r=>aJD n v&&aHP n r
theorem aC8 {n:Nat}:∀{l:List Value},aHP n l=true->∀ v∈l,rG (j4 id) n v
 |[],_,v,hv=>by cases hv
 |x::r,h,v,hv=>by
  simp only[aHP,af]at h;cases hv with
  |head=>exact aBh h.1
  |tail _ hm=>exact aC8 h.2 v hm
def aMr (n:Nat):Fn->Bool
 |.func _=>true
 |.yield l=>Nat.blt l n
 |_=>false
theorem aKb {n:Nat}{f:Fn}(h:aMr n f=true):XJ (j4 id) n f:=by
 unfold aMr at h;split at h
 ·trivial
 ·exact⟨Nat.le_of_ble_eq_true h,rfl⟩
 ·cases h
def aEI (n:Nat):Value->Bool
 |.func f _ c=>aMr n f&&aHP n c.toList
 |v=>aJD n v
theorem SD {n:Nat}{v:Value}(h:aEI n v=true):wM n v:=by
 unfold aEI at h;split at h
 ·simp only[af]at h;exact⟨aKb h.1,aC8 h.2⟩
 rename_i hf;have h2:=aBh h;cases v <;> first|exact h2|exact absurd rfl (hf _ _ _)
def ZI (n:Nat):List Value->Bool
 |[]=>true
 |v::r=>aEI n v&&ZI n r
theorem zC {n:Nat}:∀{l:List Value},ZI n l=true->∀ v∈l,wM n v
 |[],_,v,hv=>by cases hv
 |x::r,h,v,hv=>by
  simp only[ZI,af]at h;cases hv with
  |head=>exact SD h.1
  |tail _ hm=>exact zC h.2 v hm
def aJm (n:Nat):Value->Bool
 |.agg c=>ZI n c.toList
 |v=>aEI n v
theorem aBv {n:Nat}{v:Value}(h:aJm n v=true):mS (j4 id) n v:=by
 unfold aJm at h;split at h
 ·exact fun x hx=>zC h x hx
 exact dH (SD h)
def aAZ (n:Nat):List Value->Bool
 |[]=>true
 |v::r=>aJm n v&&aAZ n r
theorem V5 {n:Nat}:∀{l:List Value},aAZ n l=true->∀ v∈l,mS (j4 id) n v
 |[],_,v,hv=>by cases hv
 |x::r,h,v,hv=>by
  simp only[aAZ,af]at h;cases hv with
  |head=>exact aBv h.1
  |tail _ hm=>exact V5 h.2 v hm
def aEt (n:Nat):Value->Bool
 |.tuple c=>aAZ n c.toList
 |v=>aJm n v
theorem n9 {n:Nat}{v:Value}(h:aEt n v=true):BO n v:=by
 unfold aEt at h;split at h
 ·exact fun x hx=>V5 h x hx
 exact lF (aBv h)
def nm (ρ:List (Nat × Nat))(k:Nat):Nat:=match aw ρ k with|some j=>j|none=>k
def aAr (σ:Nat->Nat)(m:Nat):List (Value × Value)->List (Value × Value)->Bool
 |[],[]=>true
 |a::r,b::s=>UP b.1 a.1&&TJ b.2 (cB σ a.2)&&aEI m a.2&&aAr σ m r s
 |_,_=>false
theorem VJ {σ:Nat->Nat}{m:Nat}:∀{l l':List (Value × Value)},aAr σ m l l'=true->l'=l.map (fun e=>(e.1,cB σ e.2))/\∀ e∈l,wM m e.2
 |[],[],_=>⟨rfl,fun e he=>by cases he⟩
 |[],_::_,h=>by cases h
 |_::_,[],h=>by cases h
 |a::r,b::s,h=>by
  simp only[aAr,af]at h;obtain⟨⟨⟨h1,h2⟩,h3⟩,h4⟩:=h;obtain⟨i1,i2⟩:=VJ h4;refine⟨?_,fun e he=>?_⟩
  ·rw[List.map_cons,<- i1,<- LL h1,<- KO h2]
  ·cases he with
   |head=>exact SD h3
   |tail _ hm=>exact i2 e hm
def aDO (σ:Nat->Nat)(m:Nat):bV->bV->Bool
 |.cells wr g sz cs,.cells wr' g' sz' cs'=>ZI m cs&&aBd wr wr'&&aBd g g'&&Nat.beq sz sz'&&ON cs' (cs.map (cB σ))
 |.map es,.map es'=>aAr σ m es es'
 |.zero,.zero=>true
 |_,_=>false
theorem aDZ {σ:Nat->Nat}{m:Nat}{o o':bV}(h:aDO σ m o o'=true):cK σ m o o':=by
 unfold aDO at h;split at h
 ·simp only[af]at h;obtain⟨⟨⟨⟨h1,h2⟩,h3⟩,h4⟩,h5⟩:=h;exact⟨LA h2,LA h3,az h4,EA h5,zC h1⟩
 ·exact VJ h
 ·trivial
 ·cases h
def aB9 (b:Nat)(ρ:List (Nat × Nat))(m:Nat)(h':Heap):Heap->Bool
 |[]=>true
 |(k,o)::r=>Nat.blt k m&&(match Nat.blt k b with|true=>true|false=>(match aw ρ k with|some _=>true|none=>false))&&(match aw h' (nm ρ k)with|some o'=>aDO (nm ρ) m o o'|none=>false)&&aB9 b ρ m h' r
theorem SV {b:Nat}{ρ:List (Nat × Nat)}{m:Nat}{h':Heap}:∀{h:Heap},aB9 b ρ m h' h=true->∀ k o,aw h k=some o->k<m/\(b<=k->∃ j,aw ρ k=some j)/\∃ o',aw h' (nm ρ k)=some o'/\cK (nm ρ) m o o'
 |[],_,k,o,hk=>by cases hk
 |(j,q)::r,h,k,o,hk=>by
  simp only[aB9,af]at h;obtain⟨⟨⟨h1,h2⟩,h3⟩,h4⟩:=h;rw[aD]at hk;split at hk
  ·rename_i hb;have:=az hb;subst this;injection hk with hk;subst hk;refine⟨Nat.le_of_ble_eq_true h1,fun hb=>?_,?_⟩
   ·split at h2
    ·rename_i hlt;have:=Nat.le_of_ble_eq_true hlt;omega
    split at h2
    ·rename_i x hx;exact⟨x,hx⟩
    ·cases h2
   split at h3
   ·rename_i o' ho';exact⟨o',ho',aDZ h3⟩
   ·cases h3
  exact SV h4 k o hk
theorem ZY {α:Type}{k:Nat}{o:α}{p:Prop}(h:aw [] k=some o):p:=by cases h
def aJo (b:Nat):List (Nat × Nat)->Bool
 |[]=>true
 |(k,j)::r=>Nat.ble b k&&Nat.ble b j&&!(s9 j (r.map (·.2)))&&aJo b r
theorem Z8 {b:Nat}:∀{ρ:List (Nat × Nat)},aJo b ρ=true->(∀ k j,aw ρ k=some j->b<=k/\b<=j/\j∈ρ.map (·.2))/\∀ k k' j,aw ρ k=some j->aw ρ k'=some j->k=k'
 |[],_=>⟨fun k j h=>ZY h,fun k k' j h=>ZY h⟩
 |(a,c)::r,h=>by
  simp only[aJo,af,Bool.not_eq_true']at h;obtain⟨⟨⟨h1,h2⟩,h3⟩,h4⟩:=h;obtain⟨i1,i2⟩:=Z8 h4;have h1:=Nat.le_of_ble_eq_true h1;have h2:=Nat.le_of_ble_eq_true h2;have hn:c∉r.map (·.2):=fun hm=>(by rw[eT.2 hm]at h3;cases h3);refine⟨fun k j hl=>?_,fun k k' j hl hl'=>?_⟩
  ·rw[aD]at hl;split at hl
   ·rename_i hb;injection hl with hl;subst hl;rw[<- az hb];exact⟨h1,h2,.head _⟩
   obtain⟨q1,q2,q3⟩:=i1 k j hl;exact⟨q1,q2,.tail _ q3⟩
  rw[aD]at hl hl';split at hl <;> split at hl'
  ·rename_i hb _ hb';exact(az hb).symm.trans (az hb')
  ·injection hl with hl;subst hl;exact absurd (i1 k' _ hl').2.2 hn
  ·injection hl' with hl';subst hl';exact absurd (i1 k _ hl).2.2 hn
  exact i2 k k' j hl hl'
def aJb (ρ:List (Nat × Nat))(m:Nat)(e':List (Nat × Value)):List (Nat × Value)->Bool
 |[]=>true
 |(t,v)::r=>(match aw e' t with|some v'=>V1 v' (fJ (nm ρ) v)|none=>false)&&aEt m v&&aJb ρ m e' r
theorem aBR {ρ:List (Nat × Nat)}{m:Nat}{e':List (Nat × Value)}:∀{e:List (Nat × Value)},aJb ρ m e' e=true->∀ t v,aw e t=some v->aw e' t=some (fJ (nm ρ) v)/\BO m v
 |[],_,t,v,h=>by cases h
 |(j,q)::r,h,t,v,hl=>by
  simp only[aJb,af]at h;obtain⟨⟨h1,h2⟩,h3⟩:=h;rw[aD]at hl;split at hl
  ·rename_i hb;have:=az hb;subst this;injection hl with hl;subst hl;refine⟨?_,n9 h2⟩;split at h1
   ·rename_i v' hv';rw[hv',J4 h1]
   ·cases h1
  exact aBR h3 t v hl
def aIt (b:Nat)(ρ:List (Nat × Nat))(e0:List (Nat × Value))(h0:Heap)(n0:Nat)(e:List (Nat × Value))(h:Heap):Bool :=
 Nat.ble b n0&&aJo b ρ&&aJb ρ n0 e e0&&aB9 b ρ n0 h h0
theorem aAc {b:Nat}{ρ:List (Nat × Nat)}{e0:List (Nat × Value)}{h0:Heap}{n0:Nat}{e:List (Nat × Value)}{h:Heap}{nx:Nat}(hb:aIt b ρ e0 h0 n0 e h=true):mF b (nm ρ) e0 h0 n0 e h nx:=by
 simp only[aIt,af]at hb;obtain⟨⟨⟨h1,h2⟩,h3⟩,h4⟩:=hb;obtain⟨r1,r2⟩:=Z8 h2;have hh:=SV h4;have hfix:∀ k,k<b->nm ρ k=k:=fun k hk=>by
  unfold nm;split
  ·rename_i j hj;have:=(r1 k j hj).1;omega
  rfl
 refine⟨aBR h3,fun k o hk=>⟨(hh k o hk).1,(hh k o hk).2.2⟩,fun k k' o o' hk hk' he=>?_,hfix,Nat.le_of_ble_eq_true h1⟩;have a1:=(hh k o hk).2.1;have a2:=(hh k' o' hk').2.1;by_cases c1:k<b <;> by_cases c2:k'<b
 ·rw[hfix k c1,hfix k' c2]at he;exact he
 ·obtain⟨j,hj⟩:=a2 aa;have hn:nm ρ k'=j:=(by unfold nm;rw[hj]);have:=(r1 k' j hj).2.1;rw[hfix k c1,hn]at he;omega
 ·obtain⟨j,hj⟩:=a1 aa;have hn:nm ρ k=j:=(by unfold nm;rw[hj]);have:=(r1 k j hj).2.1;rw[hfix k' c2,hn]at he;omega
 obtain⟨j,hj⟩:=a1 aa;obtain⟨j',hj'⟩:=a2 aa;have hn:nm ρ k=j:=(by unfold nm;rw[hj]);have hn':nm ρ k'=j':=(by unfold nm;rw[hj']);rw[hn,hn']at he;subst he;exact r2 k k' j hj hj'
def prP (b:Nat):Value->Value->List (Nat × Nat)->List (Nat × Nat)
 |.slice (some a) _ _,.slice (some c) _ _,r=>(match Nat.ble b a.block with|true=>(a.block,c.block)::r|false=>r)
 |.pointer (some a),.pointer (some c),r=>(match Nat.ble b a.block with|true=>(a.block,c.block)::r|false=>r)
 |.map (some a),.map (some c),r=>(match Nat.ble b a with|true=>(a,c)::r|false=>r)
 |_,_,r=>r
def aOG (b:Nat):List Value->List Value->List (Nat × Nat)->List (Nat × Nat)
 |v::l,u::m,r=>prP b v u (aOG b l m r)
 |_,_,r=>r
def prS (b:Nat):Value->Value->List (Nat × Nat)->List (Nat × Nat)
 |.func _ _ c,.func _ _ c',r=>aOG b c.toList c'.toList r
 |v,u,r=>prP b v u r
def prL (b:Nat):List Value->List Value->List (Nat × Nat)->List (Nat × Nat)
 |v::l,u::m,r=>prS b v u (prL b l m r)
 |_,_,r=>r
def prA (b:Nat):Value->Value->List (Nat × Nat)->List (Nat × Nat)
 |.agg c,.agg c',r=>prL b c.toList c'.toList r
 |v,u,r=>prS b v u r
def aOB (b:Nat):List Value->List Value->List (Nat × Nat)->List (Nat × Nat)
 |v::l,u::m,r=>prA b v u (aOB b l m r)
 |_,_,r=>r
def prT (b:Nat):Value->Value->List (Nat × Nat)->List (Nat × Nat)
 |.tuple c,.tuple c',r=>aOB b c.toList c'.toList r
 |v,u,r=>prA b v u r
def prM (b:Nat):List (Value × Value)->List (Value × Value)->List (Nat × Nat)->List (Nat × Nat)
 |v::l,u::m,r=>prS b v.2 u.2 (prM b l m r)
 |_,_,r=>r
def prO (b:Nat):Option bV->Option bV->List (Nat × Nat)->List (Nat × Nat)
 |some (.cells _ _ _ cs),some (.cells _ _ _ cs'),r=>prL b cs cs' r
 |some (.map es),some (.map es'),r=>prM b es es' r
 |_,_,r=>r
def prE (b:Nat)(e':List (Nat × Value)):List (Nat × Value)->List (Nat × Nat)->List (Nat × Nat)
 |[],q=>q
 |(t,v)::r,q=>match aw e' t with|some u=>prT b v u (prE b e' r q)|none=>prE b e' r q
def grow (b:Nat)(h h':Heap):Nat->List (Nat × Nat)->List (Nat × Nat)->List (Nat × Nat)
 |0,_,d=>d
 |_+1,[],d=>d
 |n+1,(j,k)::r,d=>match aw d j with
  |some _=>grow b h h' n r d
  |none=>grow b h h' n (prO b (aw h j) (aw h' k) r) ((j,k)::d)
def aMl (b:Nat)(h':Heap):Heap->List (Nat × Nat)->List (Nat × Nat)
 |[],r=>r
 |(k,o)::l,r=>match Nat.blt k b with|true=>prO b (some o) (aw h' k) (aMl b h' l r)|false=>aMl b h' l r
def aGj (b:Nat)(e e':List (Nat × Value))(h h':Heap):List (Nat × Nat):=grow b h h' 10000 (prE b e' e (aMl b h' h [])) []
def K4 {α:Type}:List α->(List α->Bool)->Bool
 |[],k=>k []
 |x::r,k=>K4 r fun r=>k (x::r)
theorem E8 {α:Type}:∀(l:List α) (k:List α->Bool),K4 l k=k l
 |[],k=>rfl
 |x::r,k=>by rw[K4,E8 r]
def XK:List (Nat × Value)->List Nat->List (Nat × Value)
 |[],_=>[]
 |(t,v)::r,seen=>match s9 t seen with|true=>XK r seen|false=>(t,v)::XK r (t::seen)
def aAp (b:Nat)(ρ:List (Nat × Nat)):Heap->Heap
 |[]=>[]
 |(k,o)::r=>match Nat.blt k b with
  |true=>(k,o)::aAp b ρ r
  |false=>(match aw ρ k with|some _=>(k,o)::aAp b ρ r|none=>aAp b ρ r)
abbrev yM:=Value->Heap->Nat->Bool
abbrev tR:=List (Nat × Value)->Heap->Nat->Bool
abbrev AJ:=Nat->List Value->Heap->Nat->yM->Bool
abbrev VRB:=Operand->Array Tmp->Code->Code->tR->(Nat->tR)->tR->tR
def uU (x:Option Value)(K:Value->Bool):Bool:=match x with|some v=>K v|none=>false
def wbr (b:Bool)(A B:Unit->Bool):Bool:=match b with|true=>A ()|false=>B ()
def fR (b:Bool)(A:Bool):Bool:=match b with|true=>A|false=>false
def aBm (T:dN)(h:Heap)(t:TypeId)(x:Value)(K:Value->Bool):Bool :=
 match x with
 |.pointer (some ⟨k,o,none⟩) =>
  match aw T t,aw h k with
  |some ti,some (.cells _ _ _ cs) =>
   match ti.isAgg with
   |true=>(match kI cs o ti.size with|some l=>K (.agg l.toArray)|none=>false)
   |false=>(match nth cs o with|some v=>K v|none=>false)
  |_,_=>false
 |_=>false
def A7 (T:dN)(st:TypeId)(x:Value)(f:Nat)(K:Value->Bool):Bool :=
 match x,aw T st with
 |.pointer (some ⟨k,o,none⟩),some { kind:=.st fs,.. } =>
  match fs[f]? with
  |some (off,ft)=>(match aw T ft with|some _=>K (.pointer (some ⟨k,o+off,none⟩))|none=>false)
  |none=>false
 |_,_=>false
def A3 (A:Ar)(T:dN)(t:TypeId)(x ix:Value)(K:Value->Bool):Bool :=
 match aw T t,x,ix with
 |some { kind:=.sl e,.. },.slice (some ⟨k,o,none⟩) n _,.int _ i =>
  (match aw T e with|some ei=>fR (A.andB (A.le 0 i) (A.lt i (A.num n))) (K (.pointer (some ⟨k,A.ix o i ei.size,none⟩)))|none=>false)
 |some { kind:=.ar n e,.. },.pointer (some ⟨k,o,none⟩),.int _ i =>
  (match aw T e with|some ei=>fR (A.andB (A.le 0 i) (A.lt i (A.num n))) (K (.pointer (some ⟨k,A.ix o i ei.size,none⟩)))|none=>false)
 |_,_,_=>false
def aBp (T:dN)(t:TypeId)(cs:List Value)(o:Nat)(K:Value->Bool):Bool :=
 match aw T t with
 |some ti=>(match ti.isAgg with
  |true=>(match kI cs o ti.size with|some l=>K (.agg l.toArray)|none=>false)
  |false=>(match nth cs o with|some v=>K v|none=>false))
 |none=>false
def YY (T:dN)(st:TypeId)(x:Value)(f:Nat)(K:Value->Bool):Bool :=
 match x,aw T st with
 |.agg cs,some { kind:=.st fs,.. }=>(match fs[f]? with|some (off,ft)=>aBp T ft cs.toList off K|none=>false)
 |_,_=>false
def YA (A:Ar)(T:dN)(t:TypeId)(x ix:Value)(K:Value->Bool):Bool :=
 match aw T t,x,ix with
 |some { kind:=.ar n e,.. },.agg cs,.int _ i =>
  (match aw T e with|some ei=>fR (A.andB (A.le 0 i) (A.lt i (A.num n))) (aBp T e cs.toList (A.ix 0 i ei.size) K)|none=>false)
 |some { kind:=.str,.. },.string b,.int _ i=>(match(if 0<=i then b[i.toNat]? else none)with|some u=>K (.int .u8 (A.num u.toNat))|none=>false)
 |_,_,_=>false
def aPF (A:Ar)(op:BinOp)(k:IntKind)(a b:Int)(K:Value->Bool):Bool :=
 match op with
 |.add=>fR (A.fits k (A.add a b)) (K (.int k (A.add a b)))
 |.sub=>fR (A.fits k (A.sub a b)) (K (.int k (A.sub a b)))
 |.mul=>fR (A.fits k (A.mul a b)) (K (.int k (A.mul a b)))
 |.quo=>fR (A.andB (A.notB (A.eq b 0)) (A.fits k (A.quo a b))) (K (.int k (A.quo a b)))
 |.rem=>fR (A.notB (A.eq b 0)) (K (.int k (A.rem a b)))
 |.eql=>K (.bool (A.eq a b))
 |.neq=>K (.bool (A.notB (A.eq a b)))
 |.lss=>K (.bool (A.lt a b))
 |.leq=>K (.bool (A.le a b))
 |.gtr=>K (.bool (A.lt b a))
 |.geq=>K (.bool (A.le b a))
 |.xor=>fR (A.andB (A.andB (A.le 0 a) (A.le 0 b)) (A.andB (A.lt a (zR k)) (A.lt b (zR k)))) (K (.int k (A.num (A.bit .xor (A.toN a) (A.toN b)))))
 |.or=>fR (A.andB (A.andB (A.le 0 a) (A.le 0 b)) (A.andB (A.lt a (zR k)) (A.lt b (zR k)))) (K (.int k (A.num (A.bit .or (A.toN a) (A.toN b)))))
 |.and=>fR (A.andB (A.andB (A.le 0 a) (A.le 0 b)) (A.andB (A.lt a (zR k)) (A.lt b (zR k)))) (K (.int k (A.num (A.bit .and (A.toN a) (A.toN b)))))
 |_=>false
def aLx (A:Ar)(T:dN)(op:BinOp)(xt:TypeId)(x y:Value)(K:Value->Bool):Bool :=
 match x,y with
 |.int k a,.int k' b=>(match aKv op with
  |true=>fR (A.andB (A.le 0 a) (A.eq b 1)) (K (.int k (A.quo a 2)))
  |false=>(match kEq k k' with|true=>aPF A op k a b K|false=>false))
 |.bool a,.bool b=>(match op,aw T xt with
  |.eql,some { kind:=.bool,.. }=>K (.bool (A.eqB a b))
  |.neq,some { kind:=.bool,.. }=>K (.bool (A.notB (A.eqB a b)))
  |_,_=>false)
 |.agg xs,.agg ys=>(match aw T xt with
  |some _=>(match dT xs.toList,dT ys.toList with
   |true,true=>(match veq A T 100 xt (.agg xs) (.agg ys)with
    |some r=>(match op with
     |.eql=>K (.bool r)
     |.neq=>K (.bool (A.notB r))
     |_=>false)
    |none=>false)
   |_,_=>false)
  |none=>false)
 |_,_=>false
def aMD (T:dN)(h:Heap)(op:BinOp)(t:TypeId)(x:Value)(K:Value->Bool):Bool :=
 match aw T t,aK1 h x,op with
 |some { kind:=.sl _,.. },some b,.eql=>K (.bool b)
 |some { kind:=.sl _,.. },some b,.neq=>K (.bool (!b))
 |_,_,_=>false
def wun (A:Ar)(op:UnOp)(x:Value)(K:Value->Bool):Bool :=
 match op,x with
 |.neg,.int k a=>fR (A.fits k (A.neg a)) (K (.int k (A.neg a)))
 |.not,.bool b=>K (.bool (A.notB b))
 |_,_=>false
def YT (T:dN)(t:TypeId)(ps:List (Nat × Value))(K:Value->Bool):Bool :=
 match aw T t with
 |some ti =>
  match(match ti.kind with|.st fs=>lZ T fs|.ar _ e=>(aw T e).isSome|_=>false),mP ps with
  |true,true=>(match GN (places T ti) ps ti.zv.cells.toList with
   |some cells=>K (.agg cells.toArray)
   |none=>false)
  |_,_=>false
 |none=>false
def K6 (A:Ar)(T:dN)(b:Builtin)(ts:Array TypeId)(vs:List Value)(K:Value->Bool):Bool :=
 match b,ts.toList,vs with
 |.len,[t],[.slice _ n _]=>(match aw T t with|some { kind:=.sl _,.. }=>K (.int .i64 (A.num n))|_=>false)
 |.cap,[t],[.slice none _ c]=>(match aw T t with|some { kind:=.sl _,.. }=>K (.int .i64 (A.num c))|_=>false)
 |.max,_,v::r=>uU (vmm A.max v r) K
 |.min,_,v::r=>uU (vmm A.min v r) K
 |_,_,_=>false
def AB (A:Ar)(T:dN)(env:List (Nat × Value))(h:Heap)(op:Op)(K:Value->Bool):Bool :=
 match op with
 |.move x|.assign x=>uU (dZ env x) K
 |.pick c a b=>uU (dZ env c) fun u=>(match u with
  |.bool t=>wbr t (fun _=>uU (dZ env a) K) (fun _=>uU (dZ env b) K)
  |_=>false)
 |.nilCheck x=>uU (dZ env x) fun u=>(match u with
  |.pointer (some a)=>K (.pointer (some a))
  |.func (.func f) fi c=>K (.func (.func f) fi c)
  |.func (.yield f) fi c=>K (.func (.yield f) fi c)
  |_=>false)
 |.load t x=>uU (dZ env x) fun u=>aBm T h t u K
 |.fieldAddr s x f=>uU (dZ env x) fun u=>A7 T s u f K
 |.field s x f=>uU (dZ env x) fun u=>YY T s u f K
 |.indexAddr t x i=>uU (dZ env x) fun u=>uU (dZ env i) fun j=>A3 A T t u j K
 |.index t x i=>uU (dZ env x) fun u=>uU (dZ env i) fun j=>YA A T t u j K
 |.binOp op t x y _=>uU (dZ env x) fun u=>uU (dZ env y) fun v=>(match v with
  |.slice none _ _=>aMD T h op t u K
  |_=>aLx A T op t u v K)
 |.unOp op _ x=>uU (dZ env x) fun u=>wun A op u K
 |.convert s d x=>uU (dZ env x) fun u=>(match u,aw T s,aw T d with
  |.int _ n,some _,some { kind:=.int k,.. }=>fR (A.fits k n) (K (.int k n))
  |_,_,_=>false)
 |.makeFunc fn first cap=>(match fn,first.toList with
  |.func f,[]=>(match DQ env cap.toList with|some l=>K (.func (.func f) #[] l.toArray)|none=>false)
  |_,_=>false)
 |.extract x i=>uU (dZ env x) fun u=>(match u with
  |.tuple vs=>uU (vs.toList[i]?) K
  |_=>false)
 |.build t ps=>(match mY env ps.toList with|some l=>YT T t l K|none=>false)
 |.call c=>(match c.callee with
  |.builtin b=>(match nJ env c.args.toList with|some vs=>K6 A T b c.argTypes vs K|none=>false)
  |_=>false)
 |_=>false
def X0 (T:dN)(h:Heap)(nx:Nat)(t:TypeId)(x v:Value)(K:yM):Bool :=
 match x with
 |.pointer (some ⟨k,o,none⟩) =>
  (match aw T t,aw h k with
  |some ti,some (.cells true _ sz cs) =>
   (match Nat.beq v.cells.size ti.size,(match v with|.tuple _=>false|_=>true)with
   |true,true=>fR (Nat.ble (o+v.cells.size) cs.length) (K undef (xQ h k (.cells true false sz (bU cs o v.cells.toList))) nx)
   |_,_=>false)
  |_,_=>false)
 |_=>false
def aMY (h:Heap)(nx:Nat)(v:Value)(K:yM):Bool :=
 match v with
 |.tuple _=>false
 |v=>K (ao nx) (cO h nx (aq 1 v.cells.toList)) (nx+1)
def YC (T:dN)(h:Heap)(nx:Nat)(t:TypeId)(K:yM):Bool :=
 match aw T t with
 |some ti=>K (ao nx) (cO h nx (aq 1 ti.zv.cells.toList)) (nx+1)
 |none=>false
def xX (T:dN)(h:Heap)(nx:Nat)(t:TypeId)(len:Nat)(ps:List (Nat × Value))(K:yM):Bool :=
 match aw T t with
 |some { kind:=.sl e,.. } =>
  (match aw T e with
  |some ei =>
   (match Nat.ble (len*ei.size) 1000000,mP ps with
   |true,true =>
    (match GN (fun i=>some (i*ei.size,ei.size)) ps (rep len ei.zv.cells.toList)with
    |some cells=>K (ak nx len len) (cO h nx (.cells true false ei.size cells)) (nx+1)
    |none=>false)
   |_,_=>false)
  |none=>false)
 |_=>false
def whi (A:Ar)(n c:Nat)(hi:Option Value)(G:Nat->Bool):Bool :=
 match hi with
 |none=>G n
 |some (.int _ i)=>fR (A.andB (A.le 0 i) (A.le i (A.num c))) (G (A.toN i))
 |_=>false
def P5 (A:Ar)(T:dN)(h:Heap)(nx:Nat)(t:TypeId)(x:Value)(lo hi mx:Option Value)(K:yM):Bool :=
 match aw T t with
 |some { kind:=.sl e,.. } =>
  (match aw T e with
  |none=>false
  |some ei =>
   match x,mx with
   |.slice none 0 0,none=>(match isZero lo,isZero hi with|true,true=>K (.slice none 0 0) h nx|_,_=>false)
   |.slice (some ⟨k,o,none⟩) n c,none =>
    whi A n c hi fun hN =>
     (match lo with
     |none=>K (.slice (some ⟨k,o,none⟩) hN c) h nx
     |some (.int _ l)=>fR (A.andB (A.andB (A.le 0 l) (A.le l (A.num hN))) (A.le (A.num hN) (A.num c)))
      (match aw h k with
      |some (.cells _ _ _ _)=>fR (A.lt l (A.num c)) (K (.slice (some ⟨k,A.ix o l ei.size,none⟩) (A.subN hN (A.toN l)) (A.subN c (A.toN l))) h nx)
      |_=>false)
     |_=>false)
   |.slice (some ⟨k,o,none⟩) n c,some (.int _ 0) =>
    (match isZero lo,hi with|true,some (.int _ 0)=>K (ak nx 0 0) (cO h nx .zero) (nx+1)|_,_=>false)
   |.slice (some ⟨k,o,none⟩) n c,some (.int _ m) =>
    (match lo,hi with
    |some (.int _ l),some (.int _ u)=>fR (A.andB (A.andB (A.le 0 l) (A.le l u)) (A.andB (A.le u m) (A.andB (A.le 1 m) (A.le m (A.num c))))) (K (ak nx (A.subN (A.toN u) (A.toN l)) (A.subN (A.toN m) (A.toN l))) (TT h nx k (A.ix o l ei.size) (A.subN (A.toN m) (A.toN l)*ei.size)) (nx+1))
    |none,some (.int _ u)=>fR (A.andB (A.le 0 u) (A.andB (A.le u m) (A.andB (A.le 1 m) (A.le m (A.num c))))) (K (ak nx (A.toN u) (A.toN m)) (TT h nx k o (A.toN m*ei.size)) (nx+1))
    |_,_=>false)
   |.slice none 0 0,some (.int _ 0)=>(match isZero lo,hi with|true,some (.int _ 0)=>K (.slice none 0 0) h nx|_,_=>false)
   |_,_=>false)
 |_=>false
def aLD (h:Heap)(sz:Nat)(x:Value)(G:Nat->List Value->Bool):Bool :=
 match x with
 |.slice none 0 0=>G 0 []
 |.slice (some ⟨k,o,none⟩) m _ =>
  (match aw h k with
  |some (.cells _ _ _ cs)=>fR (Nat.ble (o+m*sz) cs.length) (G m ((cs.drop o).take (m*sz)))
  |some .zero=>(match m with|0=>G 0 []|_=>false)
  |_=>false)
 |_=>false
def QX (A:Ar)(T:dN)(h:Heap)(nx:Nat)(st xt:TypeId)(s x:Value)(K:yM):Bool :=
 match aw T st,aw T xt with
 |some { kind:=.sl e,.. },some { kind:=.int _,.. } =>
  (match aw T e with
  |some ei=>(match s,x,Nat.ble ei.bytes 1000 with
   |.slice none 0 0,.int .i64 i,true=>fR (A.andB (A.lt 0 i) (A.le i 1000000000)) (K (ak nx (A.toN i) (A.toN i)) (cO h nx (.cells true false ei.size (rep (A.toN i) ei.zv.cells.toList))) (nx+1))
   |_,_,_=>false)
  |none=>false)
 |some { kind:=.sl e,.. },some { kind:=.sl _,.. } =>
  (match aw T e with
  |none=>false
  |some ei =>
   match Nat.ble ei.bytes 1000 with
   |false=>false
   |true =>
    aLD h ei.size x fun m src =>
     (match s with
     |.slice none 0 0=>wbr (Nat.beq m 0) (fun _=>K (.slice none 0 0) h nx)
      (fun _=>fR (Nat.ble m 1000000000) (K (ak nx m m) (cO h nx (.cells true false ei.size src)) (nx+1)))
     |.slice (some ⟨k,o,none⟩) n c =>
      (match aw h k with
      |some .zero=>(match n,c with
       |0,0=>wbr (Nat.beq m 0) (fun _=>K (.slice (some ⟨k,o,none⟩) 0 0) h nx)
        (fun _=>fR (Nat.ble m 1000000000) (K (ak nx m m) (cO h nx (.cells true false ei.size src)) (nx+1)))
       |_,_=>false)
      |some (.cells true _ sz cs) =>
       wbr (Nat.ble (n+m) c)
        (fun _=>fR (Nat.ble (o+(n+m)*ei.size) cs.length) (K (.slice (some ⟨k,o,none⟩) (n+m) c) (xQ h k (.cells true false sz (bU cs (o+n*ei.size) src))) nx))
        (fun _=>fR (A.andB (A.andB (Nat.ble (n+m) 1000000000) (Nat.ble (o+n*ei.size) cs.length)) (A.andB (Nat.beq (o+c*ei.size) cs.length) (Nat.beq sz ei.size)))
         (K (ak nx (n+m) (n+m)) (cO (rem h k) nx (.cells true false ei.size ((cs.drop o).take (n*ei.size)++src))) (nx+1)))
      |_=>false)
     |_=>false))
 |_,_=>false
def aGf (h:Heap)(nx:Nat)(K:yM):Bool:=K (.map (some nx)) (cO h nx (.map [])) (nx+1)
def AR (A:Ar)(T:dN)(h:Heap)(nx:Nat)(t:TypeId)(l c:Value)(K:yM):Bool :=
 match aw T t,l,c with
 |some { kind:=.sl e,.. },.int .i64 i,.int .i64 j =>
  (match aw T e with
  |some ei=>fR (A.andB (A.andB (A.le 0 i) (A.le i j)) (A.andB (A.le j 1000000000) (Nat.ble ei.bytes 1000)))
   (K (ak nx (A.toN i) (A.toN j)) (cO h nx (.cells true false ei.size (rep (A.toN j) ei.zv.cells.toList))) (nx+1))
  |none=>false)
 |_,_,_=>false
def IK (A:Ar)(T:dN)(h:Heap)(t:TypeId)(x key:Value)(ok:Bool)(K:Value->Bool):Bool :=
 match aw T t,x,key with
 |some { kind:=.mp kt et,.. },.map (some k),.agg cs =>
  (match aw T kt,aw T et,aw h k with
  |some { kind:=.st fs,.. },some ei,some (.map es) =>
   (match kP T cs.toList fs,dT cs.toList,wJ A T kt (.agg cs) es with
   |true,true,some r =>
    (match ok,r with
    |true,some v=>K (.tuple #[v,.bool true])
    |true,none=>K (.tuple #[ei.zv,.bool false])
    |false,some v=>K v
    |false,none=>K ei.zv)
   |_,_,_=>false)
  |_,_,_=>false)
 |_,_,_=>false
def BU (A:Ar)(T:dN)(h:Heap)(nx:Nat)(t:TypeId)(x key v:Value)(K:yM):Bool :=
 match aw T t,x,key,(match v with|.agg _=>false|.tuple _=>false|_=>true)with
 |some { kind:=.mp kt _,.. },.map (some k),.agg cs,true =>
  (match aw T kt,aw h k with
  |some { kind:=.st fs,.. },some (.map es) =>
   (match kP T cs.toList fs,dT cs.toList,wJ A T kt (.agg cs) es with
   |true,true,some none=>K undef (xQ h k (.map (es++[(.agg cs,v)]))) nx
   |_,_,_=>false)
  |_,_=>false)
 |_,_,_,_=>false
def YJ (T:dN)(h:Heap)(nx:Nat)(t:TypeId)(x:Value)(K:yM):Bool :=
 match aw T t,x with
 |some { kind:=.sl _,.. },.slice none 0 0=>K (.tuple #[]) h nx
 |some { kind:=.sl e,.. },.slice (some ⟨k,o,none⟩) n _ =>
  (match n with
  |0=>K (.tuple #[]) h nx
  |_=>(match aw T e,aw h k with
   |some ei,some (.cells true _ sz cs)=>fR (Nat.ble (o+n*ei.size) cs.length) (K (.tuple #[]) (xQ h k (.cells true false sz (bU cs o (rep n ei.zv.cells.toList)))) nx)
   |_,_=>false))
 |_,_=>false
def wop (A:Ar)(T:dN)(C:AJ)(Y:AJ)(env:List (Nat × Value))(h:Heap)(nx:Nat)(op:Op)(K:yM):Bool :=
 match op with
 |.store t x y=>uU (dZ env x) fun p=>uU (dZ env y) fun v=>X0 T h nx t p v K
 |.alloc t=>YC T h nx t K
 |.box _ x=>uU (dZ env x) fun v=>aMY h nx v K
 |.buildSlice t n ps=>(match mY env ps.toList with|some l=>xX T h nx t n l K|none=>false)
 |.slice t x lo hi mx=>uU (dZ env x) fun v=>(match nM env lo,nM env hi,nM env mx with
  |some l,some u,some m=>P5 A T h nx t v l u m K
  |_,_,_=>false)
 |.makeMap _ none=>aGf h nx K
 |.makeSlice t l c=>uU (dZ env l) fun l=>uU (dZ env c) fun c=>AR A T h nx t l c K
 |.lookup t m k ok=>uU (dZ env m) fun x=>uU (dZ env k) fun y=>IK A T h t x y ok (fun v=>K v h nx)
 |.mapUpdate t m k u=>uU (dZ env m) fun x=>uU (dZ env k) fun y=>uU (dZ env u) fun v=>BU A T h nx t x y v K
 |.call c=>(match c.callee with
  |.builtin .append=>(match c.argTypes.toList,nJ env c.args.toList with|[st,xt],some [s,x]=>QX A T h nx st xt s x K|_,_=>false)
  |.builtin .clear=>(match c.argTypes.toList,nJ env c.args.toList with|[t],some [x]=>YJ T h nx t x K|_,_=>false)
  |.builtin _=>AB A T env h op (fun v=>K v h nx)
  |.value f=>uU (dZ env f) fun fv=>(match nJ env c.args.toList with
   |some l=>(match fv with
    |.func (.func g) first cap=>(match first.toList,sG cap.toList with
     |[],true=>C g (l++cap.toList) h nx K
     |_,_=>false)
    |.func (.yield q) first _=>(match first.toList with
     |[]=>Y q l h nx K
     |_=>false)
    |_=>false)
   |none=>false)
  |_=>false)
 |_=>AB A T env h op (fun v=>K v h nx)
def F4 (A:Ar)(ops:List Oper)(env:List (Nat × Value))(g:Option (Nat × Bool))(Y N:List (Nat × Value)->Bool):Bool :=
 match g with
 |none=>Y env
 |some (j,want)=>match hH ops j with
  |some o=>(match o.dst with
   |some t=>(match aw env t with
    |some (.bool b)=>wbr (A.eqB b want) (fun _=>Y (put env t (.bool want))) (fun _=>N (put env t (.bool (!want))))
    |some (.tuple _)=>N env
    |_=>false)
   |none=>false)
  |none=>false
def LB (tn:Nat)(env:List (Nat × Value))(dst:Option Nat)(v:Value)(K:List (Nat × Value)->Bool):Bool :=
 match dst with
 |none=>K env
 |some d=>match Nat.blt d tn with|true=>K (put env d v)|false=>false
def aIR (A:Ar)(T:dN)(C:AJ)(Y:AJ)(tn:Nat)(ops:List Oper):List Oper->List (Nat × Value)->Heap->Nat->tR->Bool
 |[],env,h,nx,K=>K env h nx
 |o :: r,env,h,nx,K=>F4 A ops env o.guard
    (fun env=>wop A T C Y env h nx o.op fun v h' nx'=>LB tn env o.dst v fun env'=>aIR A T C Y tn ops r env' h' nx' K)
    (fun env=>LB tn env o.dst undef fun env'=>aIR A T C Y tn ops r env' h nx K)
def LV (A:Ar)(T:dN)(C:AJ)(hJ:Heap)(nx:Nat)(env:List (Nat × Value))(op:Op)(K:Value->Bool):Bool :=
 match op with
 |.load _ _=>AB A T env hJ op K
 |.lookup t m k ok=>uU (dZ env m) fun x=>uU (dZ env k) fun y=>IK A T hJ t x y ok K
 |.slice t x lo hi mx=>uU (dZ env x) fun v=>(match nM env lo,nM env hi,nM env mx with
  |some l,some u,some m=>P5 A T hJ nx t v l u m (fun v _ nx'=>match Nat.beq nx' nx with|true=>K v|false=>false)
  |_,_,_=>false)
 |.call c=>(match c.callee with
  |.builtin _=>AB A T env [] op K
  |.value f=>uU (dZ env f) fun fv=>(match nJ env c.args.toList with
   |some l=>(match fv with
    |.func (.func g) first cap=>(match first.toList,sG cap.toList with
     |[],true=>C g (l++cap.toList) (iH hJ) nx (fun v _ _=>match gT v with|true=>K v|false=>false)
     |_,_=>false)
    |_=>false)
   |none=>false)
  |_=>false)
 |_=>AB A T env [] op K
def VW (A:Ar)(T:dN)(C:AJ)(tn:Nat)(ops:List Oper)(hJ:Heap)(nx:Nat):List Nat->List (Nat × Value)->(List (Nat × Value)->Bool)->Bool
 |[],env,K=>K env
 |i::r,env,K=>match hH ops i with
  |none=>false
  |some o=>F4 A ops env o.guard
   (fun env=>LV A T C hJ nx env o.op fun v=>LB tn env o.dst v fun env=>VW A T C tn ops hJ nx r env K)
   (fun env=>LB tn env o.dst undef fun env=>VW A T C tn ops hJ nx r env K)
def I7 (T:dN)(tn:Nat)(ops:List Oper):List Nat->List (Nat × Value)->Heap->Nat->tR->Bool
 |[],env,h,nx,K=>K env h nx
 |i::r,env,h,nx,K=>match hH ops i with
  |some { op:=.alloc t,dst:=some d,.. }=>(match aw T t with
   |some ti=>LB tn env (some d) (ao nx) fun env=>I7 T tn ops r env (cO h nx (aq 1 ti.zv.cells.toList)) (nx+1) K
   |none=>false)
  |_=>false
def S7 (A:Ar)(T:dN)(C:AJ)(Y:AJ)(tn:Nat)(ops:List Oper)(hJ:Heap):List (Nat × Bool)->List (Nat × Value)->Heap->Nat->tR->Bool
 |[],env,h,nx,K=>K env h nx
 |(i,chk)::r,env,h,nx,K=>match hH ops i with
  |none=>false
  |some o=>F4 A ops env o.guard
   (fun env=>fR (B8 env hJ chk o.op) (wop A T C Y env h nx o.op fun v h' nx'=>LB tn env o.dst v fun env'=>S7 A T C Y tn ops hJ r env' h' nx' K))
   (fun env=>LB tn env o.dst undef fun env'=>S7 A T C Y tn ops hJ r env' h nx K)
def aBw (A:Ar)(T:dN)(C:AJ)(Y:AJ)(tn:Nat)(ops:List Oper)(p:gQ)(env:List (Nat × Value))(h:Heap)(nx:Nat)(K:tR):Bool :=
 VW A T C tn ops (N1 T ops env p h) nx p.head env fun env1 =>
  I7 T tn ops p.allocs env1 h nx fun env2 h2 nx2 =>
   S7 A T C Y tn ops (N1 T ops env p h) p.tail env2 h2 nx2 K
def aH2 (A:Ar)(T:dN)(C:AJ)(Y:AJ)(tn:Nat)(ops:List Oper)(o:Oper)(e:List (Nat × Value))(h:Heap)(nx:Nat)(K:tR):Bool :=
 F4 A ops e o.guard (fun e=>wop A T C Y e h nx o.op fun v h' nx'=>LB tn e o.dst v fun e'=>K e' h' nx') (fun e=>LB tn e o.dst undef fun e'=>K e' h nx)
def wall (F:Nat->Bool):List Nat->Bool
 |[]=>true
 |i::r=>F i&&wall F r
def aJZ (A:Ar)(T:dN)(C:AJ)(Y:AJ)(tn:Nat)(ops:List Oper)(K:tR):Nat->List Nat->tR
 |0,_=>K
 |n+1,done=>fun e h nx=>match gO ops done ops 0 with
  |[]=>K e h nx
  |i::r=>wall (fun j=>match hH ops j with|some o=>aH2 A T C Y tn ops o e h nx (aJZ A T C Y tn ops K n (j::done))|none=>false) (i::r)
def RV (A:Ar)(T:dN)(C:AJ)(Y:AJ)(tn:Nat)(ops:List Oper)(K:tR):Nat->List Nat->tR
 |0,_=>K
 |n+1,done=>fun e h nx=>match gO ops done ops 0 with
  |[]=>K e h nx
  |j::_=>(match hH ops j with|some o=>aH2 A T C Y tn ops o e h nx (RV A T C Y tn ops K n (j::done))|none=>false)
def aEk (A:Ar)(T:dN)(C:AJ)(Y:AJ)(tn:Nat)(ops:Array Oper)(e:List (Nat × Value))(h:Heap)(nx:Nat)(K:tR):Bool :=
 RV A T C Y tn ops.toList (fun e0 h0 n0=>K4 (XK e0 []) fun e0=>K4 (aAp nx (aGj nx e0 e0 h0 h0) h0) fun h0 =>
  aJZ A T C Y tn ops.toList (fun e1 h1 _=>aIt nx (aGj nx e0 e1 h0 h1) e0 h0 n0 e1 h1) ops.size [] e h nx&&K e0 h0 n0) ops.size [] e h nx
def aF7 (F:tR->tR):Nat->tR
 |0,_,_,_=>false
 |n+1,e,h,nx=>F (aF7 F n) e h nx
def tY (A:Ar)(T:dN)(C:AJ)(Y:AJ)(tn:Nat)(PL:Nat->Option gQ)(M:Nat)(R:VRB):Code->tR->(Nat->tR)->tR->tR
 |.skip,kn,_,_=>kn
 |.region id ops draw,kn,_,_=>fun e h nx=>match draw with
  |false=>aIR A T C Y tn ops.toList ops.toList e h nx kn
  |true=>(match PL id with|some p=>aBw A T C Y tn ops.toList p e h nx kn|none=>aEk A T C Y tn ops e h nx kn)
 |.seq a b,kn,kx,kr=>tY A T C Y tn PL M R a (tY A T C Y tn PL M R b kn kx kr) kx kr
 |.cond c t f,kn,kx,kr=>fun e h nx=>match dZ e c with
  |some (.bool b)=>wbr b (fun _=>tY A T C Y tn PL M R t kn kx kr e h nx) (fun _=>tY A T C Y tn PL M R f kn kx kr e h nx)
  |_=>false
 |.block id b,kn,kx,kr=>tY A T C Y tn PL M R b kn (fun j=>match Nat.beq j id with|true=>kn|false=>kx j) kr
 |.loop b,_,kx,kr=>aF7 (fun k=>tY A T C Y tn PL M R b k kx kr) M
 |.rangeFunc g ps as bd,kn,kx,kr=>R g ps as bd kn kx kr
 |.exit id,_,kx,_=>kx id
 |.ret,_,_,kr=>kr
 |.label _,kn,_,_=>kn
 |.scope b,kn,kx,kr=>tY A T C Y tn PL M R b kn kx kr
 |_,_,_,_=>fun _ _ _=>false
def C5 (T:dN)(e:List (Nat × Value))(h:Heap):List ResultVar->(List Value->Bool)->Bool
 |[],K=>K []
 |.tmp t::r,K=>uU (aw e t) fun v=>C5 T e h r fun l=>K (v::l)
 |.cell a t::r,K=>uU (aw e a) fun p=>aBm T h t p fun v=>C5 T e h r fun l=>K (v::l)
def aPf (T:dN)(fn:Func)(K:yM):tR:=fun e h nx=>C5 T e h fn.results.toList fun l =>
 match l with
 |[v]=>K v h nx
 |l=>match PA l with|true=>K (.tuple l.toArray) h nx|false=>false
def aEp (C:AJ)(f tn:Nat):VRB:=fun g ps as bd kn kx kr e h nx =>
 uU (dZ e g) fun gv=>match gv with
  |.func (.func q) first cap=>(match first.toList,sG cap.toList with
   |[],true=>C q (.func (.yield (nx+1)) #[] #[]::cap.toList)
    (cO (cO h nx .deferred) (nx+1) (.loop { state:=.ready,pending:=none,fn:=f,env:=e,tn:=tn,params:=ps.toList,assign:=as,body:=bd,defers:=nx })) (nx+2) fun _ h' nx' =>
    (match aw h' (nx+1),aw h' nx with
    |some (.loop l),some .deferred=>(match l.state,l.pending with
     |.busy,_=>false
     |_,none=>kn e (jR h' nx) nx'
     |_,some (.exit id)=>kx id e (jR h' nx) nx'
     |_,some .ret=>kr e (jR h' nx) nx'
     |_,_=>false)
    |_,_=>false)
   |_,_=>false)
  |_=>false
def U7:VRB:=fun _ _ _ _ _ _ _ _ _ _=>false
def aG7 (q:Nat)(K:yM)(j:Option Code):tR:=fun _ h nx =>
 match aw h q with
 |some (.loop l)=>K (.bool j.isNone) (xQ h q (.loop { l with state:=if j.isNone then .ready else .done,pending:=j })) nx
 |_=>false
def XP (A:Ar)(T:dN)(C:AJ)(Y:AJ)(PL:Nat->Nat->Option gQ)(M:Nat):AJ:=fun q args h nx K =>
 match aw h q with
 |some (.loop l)=>(match wW l.tn l.env l.params args,fF (PL l.fn) l.assign&&fF (PL l.fn) l.body with
  |some e0,true=>tY A T C Y l.tn (PL l.fn) M U7 l.assign (fun e1 h1 nx1 =>
   match aw h1 q with
   |some (.loop l1)=>(match l1.state with
    |.ready=>tY A T C Y l.tn (PL l.fn) M U7 l.body (aG7 q K none) (fun id=>aG7 q K (some (.exit id))) (aG7 q K (some .ret)) e1 (xQ h1 q (.loop { l1 with state:=.busy })) nx1
    |_=>false)
   |_=>false) (fun _ _ _ _=>false) (fun _ _ _=>false) e0 h nx
  |_,_=>false)
 |_=>false
def aDP (c:EI)(XB:Nat->Option (List Value->Heap->Nat->yM->Bool))(M:Nat)(C:AJ)(Y:AJ):AJ:=fun f args h nx K =>
 match c.X f with
 |some _=>(match XB f with|some xb=>xb args h nx K|none=>false)
 |none=>match c.FT f with
  |none=>false
  |some fn=>(match fn.body,Nat.ble args.length fn.ntmps with
   |some b,true =>
    let fin:tR:=aPf c.T fn fun v h' nx'=>K v h' nx'
    tY c.A c.T C Y fn.ntmps (c.PL f) M (aEp C f fn.ntmps) b fin (fun _ _ _ _=>false) fin (vZ 0 args) h nx
   |_,_=>false)
def aQ6 (h:Heap)(nx:Nat)(K:yM):yM:=fun v h' nx'=>match gT v with
 |true=>K v h nx
 |false=>K v (app (sJ nx h' h') h) nx'
def aLU (PR:Nat->Bool)(C:AJ):AJ:=fun f args h nx K=>match PR f with
 |true=>C f args (iH h) nx (aQ6 h nx K)
 |false=>C f args h nx K
def GH (c:EI)(XB:Nat->Option (List Value->Heap->Nat->yM->Bool)):Nat->Bool->AJ
 |0,_=>fun _ _ _ _ _=>false
 |d+1,false=>aLU c.PR (aDP c XB c.M (GH c XB d false) (GH c XB d true))
 |d+1,true=>XP c.A c.T (GH c XB d false) (GH c XB d true) c.PL c.M
section
variable {A:Ar}{T:dN}{K:Value->Bool}{K':Value->Prop}
theorem cC {x:Option Value}(hK:∀ v,K v=true->K' v)(hl:uU x K=true):on x K':=by
 cases x with
 |none=>cases hl
 |some v=>exact hK v hl
theorem oS {b:Bool}{X Y:Unit->Bool}{X' Y':Unit->Prop}(h1:X ()=true->X' ())(h2:Y ()=true->Y' ())(hl:wbr b X Y=true):br b X' Y':=by
 cases b with
 |true=>exact h1 hl
 |false=>exact h2 hl
theorem bQ {b X:Bool}{X':Prop}(h:X=true->X')(hl:fR b X=true):eF b X':=by
 cases b with
 |true=>exact h hl
 |false=>cases hl
theorem V0 {h:Heap}{t:TypeId}{x:Value}(hK:∀ v,K v=true->K' v)(hl:aBm T h t x K=true):yL T h t x K':=by
 unfold aBm at hl;unfold yL
 repeat' (split at hl)
 all_goals first|(cases hl;done)|(simp_all;done)
theorem NH {t:TypeId}{x:Value}{f:Nat}(hK:∀ v,K v=true->K' v)(hl:A7 T t x f K=true):kB T t x f K':=by
 unfold A7 at hl;unfold kB
 repeat' (split at hl)
 all_goals first|(cases hl;done)|(simp_all;done)
theorem NG {t:TypeId}{x ix:Value}(hK:∀ v,K v=true->K' v)(hl:A3 A T t x ix K=true):j8 A T t x ix K':=by
 unfold A3 at hl;unfold j8
 repeat' (split at hl)
 all_goals first|(cases hl;done)|(simp_all;exact bQ (hK _) hl;done)
theorem S9 {t:TypeId}{cs:List Value}{o:Nat}(hK:∀ v,K v=true->K' v)(hl:aBp T t cs o K=true):GC T t cs o K':=by
 unfold aBp at hl;unfold GC
 repeat' (split at hl)
 all_goals first|(cases hl;done)|(simp_all;done)
theorem aCW {t:TypeId}{x:Value}{f:Nat}(hK:∀ v,K v=true->K' v)(hl:YY T t x f K=true):xD T t x f K':=by
 unfold YY at hl;unfold xD
 repeat' (split at hl)
 all_goals first|(cases hl;done)|(simp_all;exact S9 hK hl;done)
theorem aCf {t:TypeId}{x ix:Value}(hK:∀ v,K v=true->K' v)(hl:YA A T t x ix K=true):x8 A T t x ix K':=by
 unfold YA at hl;unfold x8
 repeat' (split at hl)
 all_goals first|(cases hl;done)|(simp_all;exact bQ (S9 hK) hl;done)|(simp_all;done)
theorem aJI {op:BinOp}{k:IntKind}{a b:Int}(hK:∀ v,K v=true->K' v)(hl:aPF A op k a b K=true):aCR A op k a b K':=by
 cases op <;> first|(cases hl;done)|exact hK _ hl|exact bQ (hK _) hl
theorem aHY {op:BinOp}{t:TypeId}{x y:Value}(hK:∀ v,K v=true->K' v)(hl:aLx A T op t x y K=true):YN A T op t x y K':=by
 unfold aLx at hl;unfold YN
 repeat' (split at hl)
 all_goals first|(cases hl;done)|(simp_all;done)|(simp_all;exact aJI hK hl;done)|(simp_all;exact bQ (hK _) hl;done)
theorem aId {op:BinOp}{h:Heap}{t:TypeId}{x:Value}(hK:∀ v,K v=true->K' v)(hl:aMD T h op t x K=true):XZ T h op t x K':=by
 unfold aMD at hl;unfold XZ
 repeat' (split at hl)
 all_goals first|(cases hl;done)|(simp_all;done)
theorem aNI {op:UnOp}{x:Value}(hK:∀ v,K v=true->K' v)(hl:wun A op x K=true):vun A op x K':=by
 unfold wun at hl;unfold vun
 repeat' (split at hl)
 all_goals first|(cases hl;done)|(simp_all;done)|(simp_all;exact bQ (hK _) hl;done)
theorem PE {t:TypeId}{ps:List (Nat × Value)}(hK:∀ v,K v=true->K' v)(hl:YT T t ps K=true):BH T t ps K':=by
 unfold YT at hl;unfold BH;cases ht:aw T t with
 |none=>simp only[ht]at hl;cases hl
 |some ti =>
  simp only[ht]at hl ⊢;cases hk:ti.kind <;> simp only[hk]at hl ⊢ <;> cases hp:mP ps <;> (try simp only[hp]at hl ⊢)
  all_goals first
   |(simp at hl;done)
   |(split at hl <;> first|(cases hl;done)|(split at hl <;> first|(cases hl;done)|(simp only[*];first|done|exact hK _ hl)))
theorem GV {b:Builtin}{ts:Array TypeId}{vs:List Value}(hK:∀ v,K v=true->K' v)(hl:K6 A T b ts vs K=true):qO A T b ts vs K':=by
 unfold K6 at hl;unfold qO
 repeat' (split at hl)
 all_goals first|(cases hl;done)|(simp_all;done)|(simp_all;exact cC hK hl;done)
theorem p9 {env:List (Nat × Value)}{h:Heap}{op:Op}(hK:∀ v,K v=true->K' v)(hl:AB A T env h op K=true):kU A T env h op K':=by
 cases op with
 |move x=>exact cC hK hl
 |assign x=>exact cC hK hl
 |pick c a b =>
  refine cC (fun u hu=>?_) hl;split at hu
  ·first|exact oS (cC hK) (cC hK) hu|(simp only[*];exact oS (cC hK) (cC hK) hu)|(simp only[*];done)
  ·cases hu
 |nilCheck x =>
  first|refine cC (fun u hu=>?_) hl|(simp only[*];refine cC (fun u hu=>?_) hl)|(simp only[*];done)
  split at hu
  ·first|exact hK _ hu|(simp only[*];exact hK _ hu)|(simp only[*];done)
  ·first|exact hK _ hu|(simp only[*];exact hK _ hu)|(simp only[*];done)
  ·first|exact hK _ hu|(simp only[*];exact hK _ hu)|(simp only[*];done)
  ·cases hu
 |load t x=>exact cC (fun u=>V0 hK) hl
 |fieldAddr s x f=>exact cC (fun u=>NH hK) hl
 |field s x f=>exact cC (fun u=>aCW hK) hl
 |indexAddr t x i=>exact cC (fun u=>cC fun j=>NG hK) hl
 |index t x i=>exact cC (fun u=>cC fun j=>aCf hK) hl
 |binOp op t x y z =>
  refine cC (fun u=>cC fun v hl=>?_) hl;split at hl
  ·exact aId hK hl
  rename_i hne;split
  ·exact(hne _ _ rfl).elim
  exact aHY hK hl
 |unOp op t x=>exact cC (fun u=>aNI hK) hl
 |convert s d x =>
  first|refine cC (fun u hu=>?_) hl|(simp only[*];refine cC (fun u hu=>?_) hl)|(simp only[*];done)
  split at hu
  ·first|exact bQ (hK _) hu|(simp only[*];exact bQ (hK _) hu)|(simp only[*];done)
  ·cases hu
 |makeFunc fn first cap =>
  simp only[AB]at hl;simp only[kU]
  repeat' (split at hl)
  all_goals first|(cases hl;done)|(simp_all;done)
 |extract x i =>
  first|refine cC (fun u hu=>?_) hl|(simp only[*];refine cC (fun u hu=>?_) hl)|(simp only[*];done)
  split at hu
  ·first|exact cC hK hu|(simp only[*];exact cC hK hu)|(simp only[*];done)
  ·cases hu
 |build t ps =>
  simp only[AB]at hl;simp only[kU];split at hl
  ·first|exact PE hK hl|(simp only[*];exact PE hK hl)|(simp only[*];done)
  ·cases hl
 |call c =>
  simp only[AB]at hl;simp only[kU];split at hl
  ·split at hl
   ·first|exact GV hK hl|(simp only[*];exact GV hK hl)|(simp only[*];done)
   ·cases hl
  ·cases hl
 |_=>cases hl
theorem J1 {h:Heap}{t:TypeId}{x key:Value}{ok:Bool}(hK:∀ v,K v=true->K' v)(hl:IK A T h t x key ok K=true):r6 A T h t x key ok K':=by
 unfold IK at hl;unfold r6
 repeat' (split at hl)
 all_goals first|(cases hl;done)|(simp_all;done)
end
section
variable {A:Ar}{T:dN}{K:yM}{K':KE}{h:Heap}{nx:Nat}
theorem aD2 {t:TypeId}{x v:Value}(hK:∀ v h nx,K v h nx=true->K' v h nx)(hl:X0 T h nx t x v K=true):qL T h nx t x v K':=by
 unfold X0 at hl;unfold qL;split at hl
 case h_2=>cases hl
 split at hl
 case h_2=>cases hl
 cases v <;> (split at hl <;> first|(cases hl;done)|(simp only[*];first|done|exact bQ (hK _ _ _) hl)|(rename_i hq;cases hq))
theorem aIK {v:Value}(hK:∀ v h nx,K v h nx=true->K' v h nx)(hl:aMY h nx v K=true):XA h nx v K':=by
 unfold aMY at hl;unfold XA;split at hl
 ·cases hl
 first|exact hK _ _ _ hl|(simp only[*];exact hK _ _ _ hl)|(simp only[*];done)
theorem aCh {t:TypeId}(hK:∀ v h nx,K v h nx=true->K' v h nx)(hl:YC T h nx t K=true):AT T h nx t K':=by
 unfold YC at hl;unfold AT;split at hl
 ·first|exact hK _ _ _ hl|(simp only[*];exact hK _ _ _ hl)|(simp only[*];done)
 ·cases hl
theorem x6 {t:TypeId}{n:Nat}{ps:List (Nat × Value)}(hK:∀ v h nx,K v h nx=true->K' v h nx)(hl:xX T h nx t n ps K=true):fP T h nx t n ps K':=by
 unfold xX at hl;unfold fP;split at hl
 case h_2=>cases hl
 split at hl
 case h_2=>cases hl
 split at hl
 case h_2=>cases hl
 split at hl
 case h_2=>cases hl
 first|exact hK _ _ _ hl|(simp only[*];exact hK _ _ _ hl)|(simp only[*];done)
theorem aFB {n c:Nat}{hi:Option Value}{G:Nat->Bool}{G':Nat->Prop}(hG:∀ n,G n=true->G' n)(hl:whi A n c hi G=true):vhi A n c hi G':=by
 unfold whi at hl;unfold vhi;split at hl
 ·first|exact hG _ hl|(simp only[*];exact hG _ hl)|(simp only[*];done)
 ·first|exact bQ (hG _) hl|(simp only[*];exact bQ (hG _) hl)|(simp only[*];done)
 ·cases hl
theorem T3 {b X:Bool}{X':Unit->Prop}{Y':Unit->Prop}(h:X=true->X' ())(hl:fR b X=true):br b X' Y':=by
 cases b with
 |true=>exact h hl
 |false=>cases hl
theorem zI {t:TypeId}{x:Value}{lo hi mx:Option Value}(hK:∀ v h nx,K v h nx=true->K' v h nx)(hl:P5 A T h nx t x lo hi mx K=true):xO A T h nx t x lo hi mx K':=by
 unfold P5 at hl;unfold xO;split at hl
 case h_2=>cases hl
 split at hl
 case h_1=>cases hl
 split at hl
 ·split at hl
  ·first|exact hK _ _ _ hl|(simp only[*];exact hK _ _ _ hl)|(simp only[*];done)
  ·cases hl
 ·first|refine aFB (fun hN hl=>?_) hl|(simp only[*];refine aFB (fun hN hl=>?_) hl)|(simp only[*];done)
  split at hl
  ·first|exact hK _ _ _ hl|(simp only[*];exact hK _ _ _ hl)|(simp only[*];done)
  ·first|refine bQ (fun hl=>?_) hl|(simp only[*];refine bQ (fun hl=>?_) hl)|(simp only[*];done)
   split at hl
   ·first|exact T3 (hK _ _ _) hl|(simp only[*];exact T3 (hK _ _ _) hl)|(simp only[*];done)
   ·cases hl
  ·cases hl
 ·split at hl
  ·first|exact hK _ _ _ hl|(simp only[*];exact hK _ _ _ hl)|(simp only[*];done)
  ·cases hl
 ·split at hl
  ·first|exact bQ (hK _ _ _) hl|(simp only[*];exact bQ (hK _ _ _) hl)
  ·first|exact bQ (hK _ _ _) hl|(simp only[*];exact bQ (hK _ _ _) hl)
  ·cases hl
 ·split at hl
  ·first|exact hK _ _ _ hl|(simp only[*];exact hK _ _ _ hl)|(simp only[*];done)
  ·cases hl
 ·cases hl
theorem aBF {sz:Nat}{x:Value}{G:Nat->List Value->Bool}{G':Nat->List Value->Prop}(hG:∀ n l,G n l=true->G' n l)(hl:aLD h sz x G=true):NA h sz x G':=by
 unfold aLD at hl;unfold NA;split at hl
 ·first|exact hG _ _ hl|(simp only[*];exact hG _ _ hl)|(simp only[*];done)
 ·split at hl
  ·first|exact bQ (hG _ _) hl|(simp only[*];exact bQ (hG _ _) hl)|(simp only[*];done)
  ·split at hl
   ·first|exact hG _ _ hl|(simp only[*];exact hG _ _ hl)|(simp only[*];done)
   ·cases hl
  ·cases hl
 ·cases hl
theorem NK {t:TypeId}{l c:Value}(hK:∀ v h nx,K v h nx=true->K' v h nx)(hl:AR A T h nx t l c K=true):lW A T h nx t l c K':=by
 unfold AR at hl;unfold lW;split at hl
 case h_2=>cases hl
 split at hl
 case h_2=>cases hl
 first|exact bQ (hK _ _ _) hl|(simp only[*];exact bQ (hK _ _ _) hl)
theorem M3 {st xt:TypeId}{s x:Value}(hK:∀ v h nx,K v h nx=true->K' v h nx)(hl:QX A T h nx st xt s x K=true):oA A T h nx st xt s x K':=by
 unfold QX at hl;unfold oA;split at hl
 case h_3=>cases hl
 case h_1 =>
  split at hl
  case h_2=>cases hl
  split at hl
  case h_2=>cases hl
  first|exact bQ (hK _ _ _) hl|(simp only[*];exact bQ (hK _ _ _) hl)
 split at hl
 case h_1=>cases hl
 split at hl
 case h_1=>cases hl
 first|refine aBF (fun m src hl=>?_) hl|(simp only[*];refine aBF (fun m src hl=>?_) hl)|(simp only[*];done)
 split at hl
 ·first|exact oS (hK _ _ _) (bQ (hK _ _ _)) hl|(simp only[*];exact oS (hK _ _ _) (bQ (hK _ _ _)) hl)|(simp only[*];done)
 ·split at hl
  ·split at hl
   ·first|exact oS (hK _ _ _) (bQ (hK _ _ _)) hl|(simp only[*];exact oS (hK _ _ _) (bQ (hK _ _ _)) hl)|(simp only[*];done)
   ·cases hl
  ·first|exact oS (bQ (hK _ _ _)) (bQ (hK _ _ _)) hl|(simp only[*];exact oS (bQ (hK _ _ _)) (bQ (hK _ _ _)) hl)|(simp only[*];done)
  ·cases hl
 ·cases hl
theorem NR {t:TypeId}{x key v:Value}(hK:∀ v h nx,K v h nx=true->K' v h nx)(hl:BU A T h nx t x key v K=true):lV A T h nx t x key v K':=by
 unfold BU at hl;unfold lV;cases v <;> (split at hl <;> first|(cases hl;done)|(rename_i hq;cases hq;done)|(split at hl <;> first|(cases hl;done)|(split at hl <;> first|(cases hl;done)|(simp only[*];first|done|exact hK _ _ _ hl))))
theorem OX {t:TypeId}{x:Value}(hK:∀ v h nx,K v h nx=true->K' v h nx)(hl:YJ T h nx t x K=true):A2 T h nx t x K':=by
 unfold YJ at hl;unfold A2;split at hl
 ·first|exact hK _ _ _ hl|(simp only[*];exact hK _ _ _ hl)|(simp only[*];done)
 ·split at hl
  ·first|exact hK _ _ _ hl|(simp only[*];exact hK _ _ _ hl)|(simp only[*];done)
  split at hl
  ·first|exact bQ (hK _ _ _) hl|(simp only[*];exact bQ (hK _ _ _) hl)|(simp only[*];done)
  ·cases hl
 ·cases hl
def Tw (C:AJ)(C':VC):Prop:=∀ f args h nx (K:yM) (K':KE),(∀ v h nx,K v h nx=true->K' v h nx)->C f args h nx K=true->C' f args h nx K'
variable {C Y:AJ}{C' Y':VC}
theorem QB (hC:Tw C C')(hY:Tw Y Y'){env:List (Nat × Value)}{op:Op}(hK:∀ v h nx,K v h nx=true->K' v h nx)(hl:wop A T C Y env h nx op K=true):tD A T C' Y' env h nx op K':=by
 cases op with
 |store t x y=>exact cC (fun p=>cC fun v=>aD2 hK) hl
 |alloc t=>exact aCh hK hl
 |box t x=>exact cC (fun p=>aIK hK) hl
 |buildSlice t n ps =>
  simp only[wop]at hl;simp only[tD];split at hl
  ·first|exact x6 hK hl|(simp only[*];exact x6 hK hl)|(simp only[*];done)
  ·cases hl
 |slice t x lo hi mx =>
  first|refine cC (fun v hl=>?_) hl|(simp only[*];refine cC (fun v hl=>?_) hl)|(simp only[*];done)
  split at hl
  ·first|exact zI hK hl|(simp only[*];exact zI hK hl)|(simp only[*];done)
  ·cases hl
 |makeSlice t l c=>exact cC (fun p=>cC fun v=>NK hK) hl
 |makeMap t x =>
  cases x with
  |none=>exact hK _ _ _ hl
  |some x=>simp[wop,AB]at hl
 |lookup t m k ok=>exact cC (fun x=>cC fun y=>J1 fun v=>hK v h nx) hl
 |mapUpdate t m k u=>exact cC (fun x=>cC fun y=>cC fun v=>NR hK) hl
 |call c =>
  simp only[wop]at hl;simp only[tD];split at hl
  ·split at hl
   ·first|exact M3 hK hl|(simp only[*];exact M3 hK hl)|(simp only[*];done)
   ·cases hl
  ·split at hl
   ·first|exact OX hK hl|(simp only[*];exact OX hK hl)|(simp only[*];done)
   ·cases hl
  ·first|exact p9 (K':=fun v=>K' v h nx) (fun v=>hK v h nx) hl|(simp only[*];exact p9 (K':=fun v=>K' v h nx) (fun v=>hK v h nx) hl)|(simp only[*];done)
  ·first|refine cC (fun fv hl=>?_) hl|(simp only[*];refine cC (fun fv hl=>?_) hl)|(simp only[*];done)
   split at hl
   case h_2=>cases hl
   split at hl
   ·split at hl
    ·first|exact hC _ _ _ _ _ _ hK hl|(simp only[*];exact hC _ _ _ _ _ _ hK hl)|(simp only[*];done)
    ·cases hl
   ·split at hl
    ·first|exact hY _ _ _ _ _ _ hK hl|(simp only[*];exact hY _ _ _ _ _ _ hK hl)|(simp only[*];done)
    ·cases hl
   ·cases hl
  ·cases hl
 |_=>simp only[wop]at hl;exact p9 (K':=fun v=>K' v h nx) (fun v=>hK v h nx) hl
theorem pP {ops:List Oper}{env:List (Nat × Value)}{g:Option (Nat × Bool)}{F G:List (Nat × Value)->Bool}{F' G':List (Nat × Value)->Prop}(h1:∀ e,F e=true->F' e)(h2:∀ e,G e=true->G' e)(hl:F4 A ops env g F G=true):iM A ops env g F' G':=by
 unfold F4 at hl;unfold iM;split at hl
 ·first|exact h1 _ hl|(simp only[*];exact h1 _ hl)|(simp only[*];done)
 split at hl
 ·split at hl
  ·split at hl
   ·first|exact oS (h1 _) (h2 _) hl|(simp only[*];exact oS (h1 _) (h2 _) hl)|(simp only[*];done)
   ·first|exact h2 _ hl|(simp only[*];exact h2 _ hl)|(simp only[*];done)
   ·cases hl
  ·cases hl
 ·cases hl
theorem jX {tn:Nat}{env:List (Nat × Value)}{dst:Option Nat}{v:Value}{F:List (Nat × Value)->Bool}{F':List (Nat × Value)->Prop}(h1:∀ e,F e=true->F' e)(hl:LB tn env dst v F=true):fW tn env dst v F':=by
 unfold LB at hl;unfold fW;split at hl
 ·first|exact h1 _ hl|(simp only[*];exact h1 _ hl)|(simp only[*];done)
 split at hl
 ·first|exact h1 _ hl|(simp only[*];exact h1 _ hl)|(simp only[*];done)
 ·cases hl
theorem SL (hC:Tw C C')(hY:Tw Y Y'){tn:Nat}{ops:List Oper}{F:tR}{F':KS}(hF:∀ e h nx,F e h nx=true->F' e h nx):∀(l:List Oper) env h nx,aIR A T C Y tn ops l env h nx F=true->CF A T C' Y' tn ops l env h nx F'
 |[],_,_,_,hl=>hF _ _ _ hl
 |o::r,env,h,nx,hl=>pP (fun e=>QB hC hY fun v h' nx'=>jX fun e'=>SL hC hY hF r e' h' nx') (fun e=>jX fun e'=>SL hC hY hF r e' h nx) hl
theorem OB (hC:Tw C C'){env:List (Nat × Value)}{op:Op}{K:Value->Bool}{K':Value->Nat->Prop}(hK:∀ v,K v=true->K' v nx)(hl:LV A T C h nx env op K=true):j9 A T C' h nx env op K':=by
 cases op with
 |load t x=>simp only[LV]at hl;exact p9 hK hl
 |lookup t m k ok=>exact cC (fun x=>cC fun y=>J1 hK) hl
 |slice t x lo hi mx =>
  refine cC (fun v hl=>?_) hl;split at hl
  ·first|refine zI (fun v h' nx' hl=>?_) hl|(simp only[*];refine zI (fun v h' nx' hl=>?_) hl)|(simp only[*];done)
   split at hl
   ·rename_i hb;rw[az hb];exact hK _ hl
   ·cases hl
  ·cases hl
 |call c =>
  simp only[LV]at hl;simp only[j9];split at hl
  ·first|exact p9 hK hl|(simp only[*];exact p9 hK hl)|(simp only[*];done)
  ·first|refine cC (fun fv hl=>?_) hl|(simp only[*];refine cC (fun fv hl=>?_) hl)|(simp only[*];done)
   split at hl
   case h_2=>cases hl
   split at hl
   ·split at hl
    ·first|refine hC _ _ _ _ _ _ (fun v h' nx' hl=>?_) hl|(simp only[*];refine hC _ _ _ _ _ _ (fun v h' nx' hl=>?_) hl)|(simp only[*];done)
     split at hl
     ·rename_i hb;simp only[hb];exact hK _ hl
     ·cases hl
    ·cases hl
   ·cases hl
  ·cases hl
 |_=>simp only[LV]at hl;exact p9 hK hl
theorem xT (hC:Tw C C'){tn:Nat}{ops:List Oper}{F:List (Nat × Value)->Bool}{F':List (Nat × Value)->Nat->Prop}(hF:∀ e,F e=true->F' e nx):∀(l:List Nat) env,VW A T C tn ops h nx l env F=true->sF A T C' tn ops h l env nx F'
 |[],_,hl=>hF _ hl
 |i::r,env,hl=>by
  simp only[VW]at hl;simp only[AZ];split at hl
  ·cases hl
  first|exact pP (fun e=>OB hC fun v=>jX fun e'=>xT hC hF r e') (fun e=>jX fun e'=>xT hC hF r e') hl|(simp only[*];exact pP (fun e=>OB hC fun v=>jX fun e'=>xT hC hF r e') (fun e=>jX fun e'=>xT hC hF r e') hl)|(simp only[*];done)
theorem A4 {tn:Nat}{ops:List Oper}{F:tR}{F':KS}(hF:∀ e h nx,F e h nx=true->F' e h nx):∀(l:List Nat) env h nx,I7 T tn ops l env h nx F=true->oC T tn ops l env h nx F'
 |[],_,_,_,hl=>hF _ _ _ hl
 |i::r,env,h,nx,hl=>by
  simp only[I7]at hl;simp only[pK];split at hl
  ·split at hl
   ·first|exact jX (fun e'=>A4 hF r e' _ _) hl|(simp only[*];exact jX (fun e'=>A4 hF r e' _ _) hl)|(simp only[*];done)
   ·cases hl
  ·cases hl
theorem wT (hC:Tw C C')(hY:Tw Y Y'){tn:Nat}{ops:List Oper}{hJ:Heap}{F:tR}{F':KS}(hF:∀ e h nx,F e h nx=true->F' e h nx):∀(l:List (Nat × Bool)) env h nx,S7 A T C Y tn ops hJ l env h nx F=true->l8 A T C' Y' tn ops hJ l env h nx F'
 |[],_,_,_,hl=>hF _ _ _ hl
 |(i,chk)::r,env,h,nx,hl=>by
  simp only[S7]at hl;simp only[BG];split at hl
  ·cases hl
  first|exact pP (fun e=>bQ (QB hC hY fun v h' nx'=>jX fun e'=>wT hC hY hF r e' h' nx')) (fun e=>jX fun e'=>wT hC hY hF r e' h nx) hl|(simp only[*];exact pP (fun e=>bQ (QB hC hY fun v h' nx'=>jX fun e'=>wT hC hY hF r e' h' nx')) (fun e=>jX fun e'=>wT hC hY hF r e' h nx) hl)|(simp only[*];done)
theorem JZ (hC:Tw C C')(hY:Tw Y Y'){tn:Nat}{ops:List Oper}{p:gQ}{env:List (Nat × Value)}{F:tR}{F':KS}(hF:∀ e h nx,F e h nx=true->F' e h nx)(hl:aBw A T C Y tn ops p env h nx F=true):r9 A T C' Y' tn ops p env h nx F' :=
 xT hC (fun e=>A4 (fun e h nx=>wT hC hY hF p.tail e h nx) p.allocs e h nx) p.head env hl
theorem VN (hC:Tw C C')(hY:Tw Y Y'){tn:Nat}{ops:List Oper}{o:Oper}{e:List (Nat × Value)}{h:Heap}{nx:Nat}{F:tR}{F':KS}(hF:∀ e h nx,F e h nx=true->F' e h nx)(hl:aH2 A T C Y tn ops o e h nx F=true):tJ A T C' Y' tn ops o e h nx F' :=
 pP (fun e=>QB hC hY fun v h' nx'=>jX fun e'=>hF e' h' nx') (fun e=>jX fun e'=>hF e' h nx) hl
theorem aK0 {F:Nat->Bool}{F':Nat->Prop}(hF:∀ i,F i=true->F' i){l:List Nat}(hl:wall F l=true):QZ F' l:=by
 rw[C4]
 induction l with
 |nil=>intro i hi;cases hi
 |cons x r ih =>
  simp only[wall,af]at hl;intro i hi;cases hi with
  |head=>exact hF _ hl.1
  |tail _ hm=>exact ih hl.2 i hm
theorem aAE (hC:Tw C C')(hY:Tw Y Y'){tn:Nat}{ops:List Oper}{F:tR}{F':KS}(hF:∀ e h nx,F e h nx=true->F' e h nx):∀ n done e h nx,aJZ A T C Y tn ops F n done e h nx=true->JD A T C' Y' tn ops F' n done e h nx
 |0,_,e,h,nx,hl=>hF _ _ _ hl
 |n+1,done,e,h,nx,hl=>by
  simp only[aJZ]at hl;simp only[JD];cases hr:gO ops done ops 0 with
  |nil =>
   rw[hr]at hl;exact hF _ _ _ hl
  |cons i0 r0 =>
   rw[hr]at hl;refine aK0 (fun i hi=>?_) hl;split at hi
   ·rename_i o ho;rw[ho];exact VN hC hY (fun e h nx=>aAE hC hY hF n _ e h nx) hi
   ·cases hi
theorem OD (hC:Tw C C')(hY:Tw Y Y'){tn:Nat}{ops:List Oper}{F:tR}{F':KS}(hF:∀ e h nx,F e h nx=true->F' e h nx):∀ n done e h nx,RV A T C Y tn ops F n done e h nx=true->EN A T C' Y' tn ops F' n done e h nx
 |0,_,e,h,nx,hl=>hF _ _ _ hl
 |n+1,done,e,h,nx,hl=>by
  simp only[RV]at hl;simp only[EN];cases hr:gO ops done ops 0 with
  |nil =>
   rw[hr]at hl;exact hF _ _ _ hl
  |cons i0 r0 =>
   rw[hr]at hl;simp only at hl ⊢;cases ho:hH ops i0 with
   |some o =>
    rw[ho]at hl;exact VN hC hY (fun e h nx=>OD hC hY hF n _ e h nx) hl
   |none=>rw[ho]at hl;cases hl
theorem S5 (hC:Tw C C')(hY:Tw Y Y'){tn:Nat}{ops:Array Oper}{m:Nat}{e:List (Nat × Value)}{h:Heap}{nx:Nat}{F:tR}{F':KS}(hF:∀ e h nx,F e h nx=true->F' e h nx)(hl:aEk A T C Y tn ops e h nx F=true):UK A T C' Y' tn (.fuel m) ops e h nx F':=by
 unfold aEk at hl;unfold UK;refine OD hC hY (fun e0 h0 n0 hq=>?_) _ _ _ _ _ hl;rw[E8,E8,af]at hq;refine⟨_,_,n0,aAE hC hY (fun e1 h1 n1 hr=>?_) _ _ _ _ _ hq.1,hF _ _ _ hq.2⟩;exact⟨_,_,_,_,⟨rfl,rfl,rfl⟩,aAc hr⟩
def TwR (R:VRB)(R':VR):Prop:=∀ g ps as bd (kn:tR) (kx:Nat->tR) (kr:tR) (kn':KS) (kx':Nat->KS) (kr':KS) e h nx,(∀ e h nx,kn e h nx=true->kn' e h nx)->(∀ i e h nx,kx i e h nx=true->kx' i e h nx)->(∀ e h nx,kr e h nx=true->kr' e h nx)->R g ps as bd kn kx kr e h nx=true->R' g ps as bd kn' kx' kr' e h nx
theorem M6 {F:tR->tR}{F':KS->KS}(hF:∀(k:tR) (k':KS) e h nx,(∀ e h nx,k e h nx=true->k' e h nx)->F k e h nx=true->F' k' e h nx):∀ n e h nx,aF7 F n e h nx=true->LX F' n e h nx
 |0,_,_,_,hl=>by cases hl
 |n+1,e,h,nx,hl=>hF _ _ e h nx (fun e h nx=>M6 hF n e h nx) hl
theorem uS (hC:Tw C C')(hY:Tw Y Y'){tn:Nat}{PL:Nat->Option gQ}{n:Nat}{R:VRB}{R':VR}(hR:TwR R R'):∀(c:Code) (kn:tR) (kx:Nat->tR) (kr:tR) (kn':KS) (kx':Nat->KS) (kr':KS) e h nx,(∀ e h nx,kn e h nx=true->kn' e h nx)->(∀ i e h nx,kx i e h nx=true->kx' i e h nx)->(∀ e h nx,kr e h nx=true->kr' e h nx) ->
  tY A T C Y tn PL n R c kn kx kr e h nx=true->jY A T C' Y' tn PL (.fuel n) R' c kn' kx' kr' e h nx:=by
 intro c
 induction c with
 |skip=>exact fun kn kx kr kn' kx' kr' e h nx h1 _ _ hl=>h1 _ _ _ hl
 |region id ops draw =>
  intro kn kx kr kn' kx' kr' e h nx h1 _ _ hl;simp only[tY]at hl;simp only[jB,lU];cases draw with
  |false=>exact SL hC hY h1 _ _ _ _ hl
  |true =>
   simp only at hl ⊢;split at hl
   ·first|exact JZ hC hY h1 hl|(simp only[*];exact JZ hC hY h1 hl)|(simp only[*];done)
   first|exact S5 hC hY h1 hl|(simp only[*];exact S5 hC hY h1 hl)
 |seq a b iha ihb=>exact fun kn kx kr kn' kx' kr' e h nx h1 h2 h3 hl=>iha _ kx kr _ kx' kr' e h nx (fun e h nx=>ihb kn kx kr kn' kx' kr' e h nx h1 h2 h3) h2 h3 hl
 |cond c t f iht ihf =>
  intro kn kx kr kn' kx' kr' e h nx h1 h2 h3 hl;simp only[tY]at hl;simp only[jB,lU];split at hl
  ·first|exact oS (iht kn kx kr kn' kx' kr' e h nx h1 h2 h3) (ihf kn kx kr kn' kx' kr' e h nx h1 h2 h3) hl|(simp only[*];exact oS (iht kn kx kr kn' kx' kr' e h nx h1 h2 h3) (ihf kn kx kr kn' kx' kr' e h nx h1 h2 h3) hl)|(simp only[*];done)
  ·cases hl
 |block id b ih =>
  intro kn kx kr kn' kx' kr' e h nx h1 h2 h3 hl
  first|refine ih kn _ kr kn' _ kr' e h nx h1 (fun j e h nx hk=>?_) h3 hl|(simp only[*];refine ih kn _ kr kn' _ kr' e h nx h1 (fun j e h nx hk=>?_) h3 hl)|(simp only[*];done)
  cases hb:Nat.beq j id with
  |true=>simp only[hb]at hk ⊢;exact h1 _ _ _ hk
  |false=>simp only[hb]at hk ⊢;exact h2 _ _ _ _ hk
 |loop b ih =>
  intro kn kx kr kn' kx' kr' e h nx h1 h2 h3 hl
  first|exact M6 (fun k k' e h nx hk=>ih k kx kr k' kx' kr' e h nx hk h2 h3) n e h nx hl|(simp only[*];exact M6 (fun k k' e h nx hk=>ih k kx kr k' kx' kr' e h nx hk h2 h3) n e h nx hl)|(simp only[*];done)
 |rangeFunc g ps as bd _ _=>exact fun kn kx kr kn' kx' kr' e h nx h1 h2 h3 hl=>hR g ps as bd kn kx kr kn' kx' kr' e h nx h1 h2 h3 hl
 |exit id=>exact fun kn kx kr kn' kx' kr' e h nx _ h2 _ hl=>h2 _ _ _ _ hl
 |ret=>exact fun kn kx kr kn' kx' kr' e h nx _ _ h3 hl=>h3 _ _ _ hl
 |label l=>exact fun kn kx kr kn' kx' kr' e h nx h1 _ _ hl=>h1 _ _ _ hl
 |scope b ih=>exact fun kn kx kr kn' kx' kr' e h nx h1 h2 h3 hl=>ih kn kx kr kn' kx' kr' e h nx h1 h2 h3 hl
 |goto l=>exact fun _ _ _ _ _ _ _ _ _ _ _ _ hl=>by cases hl
 |refuse s=>exact fun _ _ _ _ _ _ _ _ _ _ _ _ hl=>by cases hl
theorem yI {e:List (Nat × Value)}:∀(l:List ResultVar) {F:List Value->Bool} {F':List Value->Prop},(∀ l,F l=true->F' l)->C5 T e h l F=true->iT T e h l F'
 |[],F,F',hF,hl=>hF _ hl
 |.tmp t::r,F,F',hF,hl=>cC (fun v=>yI r fun l=>hF _) hl
 |.cell a t::r,F,F',hF,hl=>cC (fun p=>V0 fun v=>yI r fun l=>hF _) hl
theorem H4 {fn:Func}(hK:∀ v h nx,K v h nx=true->K' v h nx)(e:List (Nat × Value))(h:Heap)(nx:Nat)(hl:aPf T fn K e h nx=true):HD T fn K' e h nx:=by
 refine yI _ (fun l hl=>?_) hl;split at hl
 ·first|exact hK _ _ _ hl|(simp only[*];exact hK _ _ _ hl)|(simp only[*];done)
 split at hl
 ·rename_i hn;simp only[hn];exact hK _ _ _ hl
 ·cases hl
theorem OW (hC:Tw C C'){f tn:Nat}:TwR (aEp C f tn) (xN C' f tn):=by
 intro g ps as bd kn kx kr kn' kx' kr' e h nx h1 h2 h3 hl;refine cC (fun gv hl=>?_) hl;split at hl
 case h_2=>cases hl
 split at hl
 case h_2=>cases hl
 first|refine hC _ _ _ _ _ _ (fun v h' nx' hl=>?_) hl|(simp only[*];refine hC _ _ _ _ _ _ (fun v h' nx' hl=>?_) hl)|(simp only[*];done)
 split at hl
 case h_2=>cases hl
 rename_i l hl1 hl2;split at hl
 ·cases hl
 ·first|exact h1 _ _ _ hl|(simp only[*];exact h1 _ _ _ hl)|(simp only[*];done)
 ·first|exact h2 _ _ _ _ hl|(simp only[*];exact h2 _ _ _ _ hl)|(simp only[*];done)
 ·first|exact h3 _ _ _ hl|(simp only[*];exact h3 _ _ _ hl)|(simp only[*];done)
 ·cases hl
theorem y6 {q:Nat}(hK:∀ v h nx,K v h nx=true->K' v h nx){j:Option Code}(e:List (Nat × Value))(h:Heap)(nx:Nat)(hl:aG7 q K j e h nx=true):BC q K' j e h nx:=by
 unfold aG7 at hl;unfold BC;split at hl
 ·first|exact hK _ _ _ hl|(simp only[*];exact hK _ _ _ hl)|(simp only[*];done)
 ·cases hl
theorem aDm (hC:Tw C C')(hY:Tw Y Y'){PL:Nat->Nat->Option gQ}{n:Nat}:Tw (XP A T C Y PL n) (vF A T C' Y' PL (.fuel n)):=by
 intro q args h nx K K' hK hl;unfold XP at hl;unfold vF;split at hl
 case h_2=>cases hl
 split at hl
 case h_2=>cases hl
 first|refine uS hC hY (fun _ _ _ _ _ _ _ _ _ _ _ _ _ _ _ _ hl=>by cases hl) _ _ _ _ _ _ _ _ _ _ (fun e1 h1 nx1 hl=>?_) (fun _ _ _ _ hl=>by cases hl) (fun _ _ _ hl=>by cases hl) hl|(simp only[*];refine uS hC hY (fun _ _ _ _ _ _ _ _ _ _ _ _ _ _ _ _ hl=>by cases hl) _ _ _ _ _ _ _ _ _ _ (fun e1 h1 nx1 hl=>?_) (fun _ _ _ _ hl=>by cases hl) (fun _ _ _ hl=>by cases hl) hl)|(simp only[*];done)
 split at hl
 case h_2=>cases hl
 split at hl
 case h_2=>cases hl
 first|exact uS hC hY (fun _ _ _ _ _ _ _ _ _ _ _ _ _ _ _ _ hl=>by cases hl) _ _ _ _ _ _ _ _ _ _ (y6 hK) (fun i=>y6 hK) (y6 hK) hl|(simp only[*];exact uS hC hY (fun _ _ _ _ _ _ _ _ _ _ _ _ _ _ _ _ hl=>by cases hl) _ _ _ _ _ _ _ _ _ _ (y6 hK) (fun i=>y6 hK) (y6 hK) hl)|(simp only[*];done)
def TwX (c:EI)(XB:Nat->Option (List Value->Heap->Nat->yM->Bool)):Prop:=∀ f x xb,c.X f=some x->XB f=some xb->∀ args h nx (K:yM) (K':KE),(∀ v h nx,K v h nx=true->K' v h nx)->xb args h nx K=true->x args h nx K'
theorem aE4 {c:EI}{XB:Nat->Option (List Value->Heap->Nat->yM->Bool)}(hX:TwX c XB){n:Nat}(hC:Tw C C')(hY:Tw Y Y'):Tw (aDP c XB n C Y) (tK c (some n) C' Y'):=by
 intro f args h nx K K' hK hl;unfold aDP at hl;unfold tK;split at hl
 ·rename_i x hx;split at hl
  ·rename_i xb hxb
   first|exact hX f x xb hx hxb _ _ _ _ _ hK hl|(simp only[hx];exact hX f x xb hx hxb _ _ _ _ _ hK hl)
  ·cases hl
 rename_i hx
 first|skip|(simp only[hx])
 split at hl
 ·cases hl
 split at hl
 case h_2=>cases hl
 first|exact uS hC hY (OW hC) _ _ _ _ _ _ _ _ _ _ (H4 fun v h nx=>hK v _ nx) (fun _ _ _ _ hl=>by cases hl) (H4 fun v h nx=>hK v _ nx) hl|(simp only[*];exact uS hC hY (OW hC) _ _ _ _ _ _ _ _ _ _ (H4 fun v h nx=>hK v _ nx) (fun _ _ _ _ hl=>by cases hl) (H4 fun v h nx=>hK v _ nx) hl)
theorem aIG {PR:Nat->Bool}(hC:Tw C C'):Tw (aLU PR C) (frC PR C'):=by
 intro f args h nx K K' hK hl;unfold aLU at hl;unfold frC;cases hp:PR f with
 |false=>simp only[hp]at hl ⊢;exact hC _ _ _ _ _ _ hK hl
 |true =>
  simp only[hp]at hl ⊢;refine hC _ _ _ _ _ _ (fun v h' nx' hq=>?_) hl;unfold aQ6 at hq;unfold frK;split at hq
  ·rename_i hg;rw[hg];exact hK _ _ _ hq
  rename_i hg;rw[hg];exact hK _ _ _ hq
theorem tO {c:EI}{XB:Nat->Option (List Value->Heap->Nat->yM->Bool)}(hX:TwX c XB):∀(d:Nat) (b:Bool),Tw (GH c XB d b) (qI c d b)
 |0,_=>fun _ _ _ _ _ _ _ hl=>by simp[GH]at hl
 |d+1,false=>aIG (aE4 hX (tO hX d false) (tO hX d true))
 |d+1,true=>aDm (tO hX d false) (tO hX d true)
end
def WG (n:Nat):bV->bV
 |.cells wr g sz cs=>.cells wr g sz (cs.map (cB (fun k=>n+k)))
 |o=>o
def nK (n:Nat):Heap->Heap
 |[]=>[]
 |(k,o)::r=>(n+k,WG n o)::nK n r
theorem mM {n:Nat}(h:Heap){k:Nat}{o:bV}(hl:aw (nK n h) k=some o):∃ j o',k=n+j/\aw h j=some o'/\o=WG n o':=by
 induction h with
 |nil=>cases hl
 |cons x r ih =>
  obtain⟨j,q⟩:=x;simp only[nK,aD]at hl;split at hl
  ·rename_i hb;injection hl with hl;exact⟨j,q,(az hb).symm,by rw[aD,show Nat.beq j j=true from Nat.beq_refl j],hl.symm⟩
  rename_i hb;obtain⟨j',o',h1,h2,h3⟩:=ih hl;refine⟨j',o',h1,?_,h3⟩;have:Nat.beq j j'=false:=by
   cases hb':Nat.beq j j' with
   |false=>rfl
   |true =>
    have:=az hb';subst this;rw[h1,Nat.beq_refl]at hb;cases hb
  rw[aD,this];exact h2
def V4:bV->Bool
 |.cells true _ _ _=>true
 |_=>false
def pF:Heap->Bool
 |[]=>true
 |(_,o)::r=>V4 o&&pF r
theorem OU {h:Heap}(hh:pF h=true){k:Nat}{o:bV}(hl:aw h k=some o):∃ g sz cs,o=.cells true g sz cs:=by
 induction h with
 |nil=>cases hl
 |cons x r ih =>
  obtain⟨j,q⟩:=x;simp only[pF,af]at hh;rw[aD]at hl;split at hl
  ·injection hl with hl;subst hl;cases q with
   |cells wr g sz cs =>
    cases wr with
    |true=>exact⟨g,sz,cs,rfl⟩
    |false=>simp[V4]at hh
   |_=>simp[V4]at hh
  exact ih hh.2 hl
def H7:bV->Bool
 |.cells _ _ _ _=>true
 |_=>false
def fL:Heap->Bool
 |[]=>true
 |(_,o)::r=>H7 o&&fL r
theorem kD {h:Heap}(hh:fL h=true){k:Nat}{o:bV}(hl:aw h k=some o):∃ wr g sz cs,o=.cells wr g sz cs:=by
 induction h with
 |nil=>cases hl
 |cons x r ih =>
  obtain⟨j,q⟩:=x;simp only[fL,af]at hh;rw[aD]at hl;split at hl
  ·injection hl with hl;subst hl;cases q with
   |cells wr g sz cs=>exact⟨wr,g,sz,cs,rfl⟩
   |_=>simp[H7]at hh
  exact ih hh.2 hl
theorem SK (o:bV):o.closed.alone=false:=by cases o <;> rfl
section
variable {ι:Nat->Loc}{σ:Nat->Nat}{n m:Nat}
theorem C9 {v:Value}(h:rG (fun k=>ι (σ k)) m v)(hs:∀ k,k<m->σ k<n):rG ι n (eM (j4 σ) v):=by
 cases v with
 |pointer a=>cases a with
  |none=>trivial
  |some a=>exact⟨hs _ h.1,h.2⟩
 |slice a l c=>cases a with
  |none=>trivial
  |some a=>exact⟨hs _ h.1,fun hf=>h.2 hf⟩
 |map a=>cases a with
  |none=>trivial
  |some a=>exact⟨hs _ h.1,h.2⟩
 |agg c=>exact h.elim
 |tuple c=>exact h.elim
 |_=>trivial
theorem iQ {v:Value}(h:jJ (fun k=>ι (σ k)) m v)(hs:∀ k,k<m->σ k<n):jJ ι n (cF (j4 σ) v):=by
 cases v with
 |func f a c =>
  refine⟨?_,fun x hx=>?_⟩
  ·have h1:=h.1;cases f with
   |yield l=>exact⟨hs _ h1.1,h1.2⟩
   |_=>trivial
  simp only[Array.toList_map,List.mem_map]at hx;obtain⟨y,hy,rfl⟩:=hx;exact C9 (h.2 y hy) hs
 |pointer a=>have:=C9 (ι:=ι) (σ:=σ) (n:=n) (m:=m) (v:=.pointer a);cases a <;> exact this h hs
 |slice a l c=>have:=C9 (ι:=ι) (σ:=σ) (n:=n) (m:=m) (v:=.slice a l c);cases a <;> exact this h hs
 |map a=>have:=C9 (ι:=ι) (σ:=σ) (n:=n) (m:=m) (v:=.map a);cases a <;> exact this h hs
 |agg c=>exact h.elim
 |tuple c=>exact h.elim
 |_=>trivial
theorem tS {v:Value}(h:mS (fun k=>ι (σ k)) m v)(hs:∀ k,k<m->σ k<n):mS ι n (eK (j4 σ) v):=by
 cases v with
 |agg cs =>
  intro x hx;simp only[Array.toList_map,List.mem_map]at hx;obtain⟨y,hy,rfl⟩:=hx;exact iQ (h y hy) hs
 |pointer a=>have:=iQ (ι:=ι) (σ:=σ) (n:=n) (m:=m) (v:=.pointer a);cases a <;> exact this h hs
 |slice a l c=>have:=iQ (ι:=ι) (σ:=σ) (n:=n) (m:=m) (v:=.slice a l c);cases a <;> exact this h hs
 |map a=>have:=iQ (ι:=ι) (σ:=σ) (n:=n) (m:=m) (v:=.map a);cases a <;> exact this h hs
 |func f a c=>exact iQ (ι:=ι) (σ:=σ) (n:=n) (m:=m) (v:=.func f a c) h hs
 |tuple c=>exact h.elim
 |_=>trivial
theorem T2 {v:Value}(h:fU (fun k=>ι (σ k)) m v)(hs:∀ k,k<m->σ k<n):fU ι n (fJ σ v):=by
 unfold fJ;cases v with
 |tuple cs =>
  intro x hx;simp only[Array.toList_map,List.mem_map]at hx;obtain⟨y,hy,rfl⟩:=hx;exact tS (h y hy) hs
 |pointer a=>have:=tS (ι:=ι) (σ:=σ) (n:=n) (m:=m) (v:=.pointer a);cases a <;> exact this h hs
 |slice a l c=>have:=tS (ι:=ι) (σ:=σ) (n:=n) (m:=m) (v:=.slice a l c);cases a <;> exact this h hs
 |map a=>have:=tS (ι:=ι) (σ:=σ) (n:=n) (m:=m) (v:=.map a);cases a <;> exact this h hs
 |func f a c=>exact tS (ι:=ι) (σ:=σ) (n:=n) (m:=m) (v:=.func f a c) h hs
 |agg c=>exact tS (ι:=ι) (σ:=σ) (n:=n) (m:=m) (v:=.agg c) h hs
 |_=>trivial
theorem aDX {v:Value}(h:gS v=true):gS (cF (j4 σ) v)=true:=by rw[oI h];exact h
end
theorem T9 {B nx n0 m:Nat}{w w':World}{ι ι0:Nat->Loc}{h h1:Heap}{v1:Value}{K Q:KE}{u:Value}(H:aY ι B h nx w)
  (hQ:∀ v h' nx',Q v h' nx'->∃ ρ,mF 0 ρ [(0,v1)] h1 m [(0,v)] h' nx') (how:fL h1=true) (hal:pF h1=true\/∀ k o,aw h k=some o->o.alone=false) (hK:K (fJ (fun k=>nx+k) v1) (app (nK nx h1) h) (nx+m))
  (hr:Ret w.heap.size w ι0 n0 Q (.returned u) w'):Ret B w ι nx K (.returned u) w':=by
 obtain⟨v,h',nx',ι',q1,q2,q3,q4,q5,q6,q7⟩:=hr;obtain⟨ρ,r⟩:=hQ v h' nx' q1;have hv:v=fJ ρ v1/\BO m v1:=by
  obtain⟨e1,e2⟩:=r.env 0 v1 rfl;injection e1 with e1;exact⟨e1,e2⟩
 obtain⟨rfl,hnm⟩:=hv;obtain⟨ιN,hloc,hold⟩:∃ ιN:Nat->Loc,(∀ j,ιN (nx+j)=ι' (ρ j))/\∀ k,k<nx->ιN k=ι k :=
  ⟨fun k=>if k<nx then ι k else ι' (ρ (k - nx)),fun j=>by
   have:¬(nx+j<nx):=aa;simp only[if_neg this,Nat.add_sub_cancel_left],fun k hk=>if_pos hk⟩
 have hι:(fun k=>ιN (nx+k))=fun k=>ι' (ρ k):=funext hloc;have hsm:fU (fun k=>ι' (ρ k)) m v1:=zH q2 hnm;have R1:=r.aJR q3;have H':aY ι B h nx w':=H.ext q4;have hscn:fU ιN (nx+m) (fJ (fun k=>nx+k) v1):=by
  refine T2 (m:=m) ?_ (fun k hk=>by omega);rw[hι];exact hsm
 have hcase:∀ k o,aw (app (nK nx h1) h) k=some o->(aw h k=some o/\k<nx)\/(∃ j wr g sz cs,k=nx+j/\aw h1 j=some (.cells wr g sz cs)/\o=.cells wr g sz (cs.map (cB (fun k=>nx+k)))):=by
  intro k o hk;rw[jM]at hk;split at hk
  ·rename_i o' ho;injection hk with hk;subst hk;obtain⟨j,o',e1,e2,e3⟩:=mM h1 ho;obtain⟨wr,g,sz,cs,rfl⟩:=kD how e2;exact .inr ⟨j,wr,g,sz,cs,e1,e2,e3⟩
  exact .inl ⟨hk,H.low k _ hk⟩
 refine⟨fJ (fun k=>nx+k) v1,_,_,ιN,hK,hscn,⟨?_,?_,?_,H'.size,?_⟩,q4.mono H.size,hold,aa,?_⟩
 ·intro k o hk;rcases hcase k o hk with⟨h2,h3⟩|⟨j,wr,g,sz,cs,rfl,h2,rfl⟩
  ·rw[hold k h3];exact(H'.obj k o h2).names (H'.sc k o h2) hold
  rw[hloc];have ho:=R1.obj j _ h2;have hsc:=R1.sc j _ h2;cases hl:ι' (ρ j)with
  |nil p =>
   rw[hl]at ho;have hcz:cs=[]/\(sz=0\/wr=true->p.isSome=true):=(by cases wr <;> exact ho);obtain⟨hc0,hz⟩:=hcz;subst hc0;cases wr <;> exact⟨rfl,hz⟩
  |lay b off e =>
   rw[hl]at ho;have hcell:∀{Φ:Nat->Value->Prop},(∀(i:Nat) y,cs[i]? = some y->Φ i (cF (fun k=>ι' (ρ k)) y))->∀(i:Nat) v,(cs.map (cB (fun k=>nx+k)))[i]? = some v->Φ i (cF ιN v):=by
    intro Φ hΦ i v hv;rw[List.getElem?_map]at hv;cases hy:cs[i]? with
    |none=>rw[hy]at hv;cases hv
    |some y =>
     rw[hy]at hv;injection hv with hv;subst hv;have hsy:=hsc y (List.mem_of_getElem? hy);have hin:jJ ιN (nx+m) (cF (j4 (fun k=>nx+k)) y):=by
      refine iQ (m:=m) ?_ (fun k hk=>by omega);rw[hι];exact hsy
     have:=hΦ i y hy;rw[<- hι,<- iL hin]at this;exact this
   have hgg:∀{b:Bool},(b=true->dT cs=true)->b=true->dT (cs.map (cB (fun k=>nx+k)))=true:=fun h hg=>r7 fun v hv=>by
    obtain⟨y,hy,rfl⟩:=List.mem_map.1 hv;exact aDX (a9 (h hg) hy)
   cases wr with
   |true =>
    obtain⟨a1,a2,arr,t,a3,a4,a5⟩:=ho;exact⟨Nat.le_trans H.size a1,hgg a2,arr,t,a3,by simpa using a4,hcell (Φ:=fun i v=>arr[off+i]? = some v) a5⟩
   |false =>
    obtain⟨a1,a2,a5⟩:=ho;exact⟨a1,hgg a2,hcell (Φ:=fun i v=>w'.cell? ⟨b,off+i,none⟩=some v) a5⟩
 ·intro k k' o o' hk hk' hne ha b hb;rcases hcase k o hk with⟨h2,h3⟩|⟨j,wr,g,sz,cs,rfl,h2,rfl⟩
  ·rw[hold k h3]at hb;rcases hcase k' o' hk' with⟨h4,h5⟩|⟨j',wr',g',sz',cs',rfl,h4,rfl⟩
   ·rw[hold k' h5];exact H'.sep k k' o o' h2 h4 hne ha b hb
   rw[hloc];intro hb';have hlt:=(H.obj k o h2).lt hb;rcases hal with how2|hal
   ·obtain⟨g2,sz2,cs2,e2⟩:=OU how2 h4;have ho:=R1.obj j' _ h4;cases hl:ι' (ρ j')with
    |nil p=>rw[hl]at hb';cases hb'
    |lay b2 off e =>
     rw[hl]at hb';rw[hl,e2]at ho;have:b2=b:=(by simpa[Loc.F9]using hb');have:=ho.1;omega
   rw[hal k o h2]at ha;cases ha
  rw[hloc]at hb;rcases hcase k' o' hk' with⟨h4,h5⟩|⟨j',wr',g',sz',cs',rfl,h4,rfl⟩
  ·rw[hold k' h5];intro hb';have hlt:=(H.obj k' o' h4).lt hb';have ho:=R1.obj j _ h2;cases hl:ι' (ρ j)with
   |nil p=>rw[hl]at hb;cases hb
   |lay b2 off e =>
    rw[hl]at ho hb;have:b2=b:=(by simpa[Loc.F9]using hb);have hwr:wr=true:=ha;subst hwr;have:=ho.1;omega
  rw[hloc];exact R1.sep j j' _ _ h2 h4 (fun e=>hne (by rw[e])) ha b hb
 ·intro k o hk;rcases hcase k o hk with⟨h2,h3⟩|⟨j,wr,g,sz,cs,rfl,h2,rfl⟩
  ·omega
  have:=R1.low j _ h2;omega
 ·intro k o hk;rcases hcase k o hk with⟨h2,h3⟩|⟨j,wr,g,sz,cs,rfl,h2,rfl⟩
  ·exact(H'.sc k o h2).mono aa hold
  intro v hv;obtain⟨y,hy,rfl⟩:=List.mem_map.1 hv;refine iQ (m:=m) ?_ (fun k hk=>by omega);rw[hι];exact R1.sc j _ h2 y hy
 rw[q7,x9 q2,x9 hscn,hι]
def In (args0:List Value)(h0:Heap)(n0:Nat)(args:List Value)(h:Heap)(nx:Nat):Prop :=
 ∀ ι B w,aY ι B h nx w->(∀ v∈args,fU ι nx v)->∃ ι0,args.map (tr ι)=args0.map (tr ι0)/\(∀ v∈args0,fU ι0 n0 v)/\aY ι0 w.heap.size h0 n0 w
abbrev Sp:=List Value->Heap->Nat->Value->Heap->Nat->Prop
def qY (h1 h:Heap):Heap:=match pF h1 with|true=>h|false=>iH h
def xOf (S:Sp):List Value->Heap->Nat->KE->Prop:=fun args h nx K =>
 ∃ args0 h0 n0 v1 h1 m,S args0 h0 n0 v1 h1 m/\In args0 h0 n0 args h nx/\K (fJ (fun k=>nx+k) v1) (app (nK nx h1) (qY h1 h)) (nx+m)
def BX (v1:Value)(h1:Heap)(m:Nat):KE:=fun v h' nx'=>∃ ρ,mF 0 ρ [(0,v1)] h1 m [(0,v)] h' nx'
theorem eJ {P:Program}{C:VC}{f:Nat}{S:Sp}(hC:bN P C)(hS:∀ args0 h0 n0 v1 h1 m,S args0 h0 n0 v1 h1 m->fL h1=true/\∃ Q:KE,C f args0 h0 n0 Q/\∀ v h nx,Q v h nx->BX v1 h1 m v h nx):c7 P f (xOf S):=by
 refine⟨fun args h nx K hx ι B w H hs=>?_,fun args h nx K hx=>?_⟩
 ·obtain⟨args0,h0,n0,v1,h1,m,s1,s2,s3⟩:=hx;obtain⟨how,Q,hc,hq⟩:=hS _ _ _ _ _ _ s1;obtain⟨ι0,e1,e2,e3⟩:=s2 ι B w H hs;obtain⟨c1,c2⟩:=hC f args0 h0 n0 _ hc ι0 w.heap.size w e3 e2;refine⟨c1,?_⟩;rw[e1];refine CallsIn.mono c2 fun e w' hr=>?_;cases e with
  |returned u =>
   unfold qY at s3;cases ho:pF h1 with
   |true=>rw[ho]at s3;exact T9 H (fun v h' nx' q=>hq v h' nx' q) how (.inl ho) s3 hr
   |false =>
    rw[ho]at s3;refine T9 (H.shut.down H.size) (fun v h' nx' q=>hq v h' nx' q) how (.inr fun k o hk=>?_) s3 hr;rw[nZ]at hk;cases hq:aw h k with
    |none=>rw[hq]at hk;cases hk
    |some q =>
     rw[hq]at hk;injection hk with hk;subst hk;exact SK q
  |_=>exact hr.elim
 obtain⟨args0,h0,n0,v1,h1,m,s1,s2,s3⟩:=hx;exact⟨_,_,_,s3,fun K' hk=>⟨args0,h0,n0,v1,h1,m,s1,s2,hk⟩⟩
theorem cA {α:Type}{k:Nat}{o:α}{p:Prop}(h:aw [] k=some o):p:=by cases h
theorem gM {v:Value}(hv:gT v=true){h':Heap}{nx':Nat}:BX v [] 0 v h' nx' :=
 ⟨id,⟨fun t u hu=>by
  rw[aD]at hu;split at hu
  ·rename_i hb;injection hu with hu;subst hu;exact⟨by rw[aD,hb];show some v=some (fJ id v);rw[fJ,iU hv],c9 hv⟩
  exact cA hu,fun k o hk=>cA hk,fun k k' o o' hk=>cA hk,fun k hk=>rfl,ah _⟩⟩
theorem lJ {σ:Nat->Nat}{v:Value}(hv:gT v=true):fJ σ v=v:=iU hv
theorem aNz {args:List Value}(hg:∀ v∈args,gT v=true){h:Heap}{nx:Nat}:In args [] 0 args h nx:=by
 intro ι B w H hs;refine⟨ι,rfl,fun v hv=>c9 (hg v hv),⟨fun k o hk=>cA hk,fun k k' o o' hk=>cA hk,fun k o hk=>cA hk,ah _,fun k o hk=>cA hk⟩⟩
theorem aT {α:Type}{l:List (Nat × α)}{k:Nat}{o:α}(h:aw l k=some o):(k,o)∈l:=by
 induction l with
 |nil=>exact cA h
 |cons x r ih =>
  obtain⟨j,q⟩:=x;rw[aD]at h;split at h
  ·rename_i hb;have:=az hb;subst this;injection h with h;subst h;exact .head _
  exact .tail _ (ih h)
theorem cD {l:List Value}(h:fI l=true){v:Value}(hv:v∈l):gT v=true:=by
 induction l with
 |nil=>cases hv
 |cons x r ih =>
  simp only[fI,af]at h;cases hv with
  |head =>
   have:=h.1;cases v <;> first|exact this|(simp[gA,gS]at this)
  |tail _ hm=>exact ih h.2 hm
theorem Z6 {k o n c:Nat}{r:List Value}(hr:fI r=true){h:Heap}{nx:Nat}{wr g:Bool}{sz0:Nat}{cs:List Value}(hk:aw h k=some (.cells wr g sz0 cs)){cs0:List Value}(hcs:(cs.drop o).take cs0.length=cs0)(hg:dT cs0=true)(g0:Bool)(sz:Nat)(hz:sz≠0) :
  In (ak 0 n c::r) [(0,.cells false g0 sz cs0)] 1 (.slice (some ⟨k,o,none⟩) n c::r) h nx:=by
 intro ι B w H hs;have hx:k<nx/\((ι k).jD=false->n=0/\c=0):=hs _ (.head _);have hmap:∀ ι1 ι2:Nat->Loc,r.map (tr ι1)=r.map (tr ι2):=fun ι1 ι2=>List.map_congr_left fun v hv=>(by rw[iU (cD hr hv),iU (cD hr hv)]);have hsc:∀ ι0:Nat->Loc,∀ v∈r,fU ι0 1 v:=fun ι0 v hv=>c9 (cD hr hv);have ho:=H.obj k _ hk;cases hι:ι k with
 |nil p =>
  rw[hι]at ho;have hnil:cs=[]:=(by cases wr <;> exact ho.1);subst hnil;have h0:cs0=[]:=(by rw[<- hcs];simp);subst h0;refine⟨fun _=>.nil p,?_,?_,⟨?_,?_,?_,ah _,?_⟩⟩
  ·rw[List.map_cons,List.map_cons,hmap ι];congr 1;simp[tr,eK,cF,eM,hι]
  ·intro v hv;cases hv with
   |head=>exact⟨Nat.one_pos,fun _=>hx.2 (by rw[hι];rfl)⟩
   |tail _ hm=>exact hsc _ v hm
  ·intro j q hq;rw[aD]at hq;split at hq
   ·injection hq with hq;subst hq;exact⟨rfl,fun h=>h.elim (fun h=>absurd h hz) (fun h=>by cases h)⟩
   exact cA hq
  ·intro j j' q q' hq hq' hne ha b hb;cases hb
  ·intro j q hq;rw[aD]at hq;split at hq
   ·rename_i hb;rw[<- az hb];exact Nat.one_pos
   exact cA hq
  intro j q hq;rw[aD]at hq;split at hq
  ·injection hq with hq;subst hq;intro v hv;cases hv
  exact cA hq
 |lay b off e =>
  have hlt:b<w.heap.size:=ho.lt (by rw[hι];rfl);refine⟨fun _=>.lay b (off+o) e,?_,?_,⟨?_,?_,?_,ah _,?_⟩⟩
  ·rw[List.map_cons,List.map_cons,hmap ι];congr 1;simp[tr,eK,cF,eM,hι]
  ·intro v hv;cases hv with
   |head=>exact⟨Nat.one_pos,fun h=>by cases h⟩
   |tail _ hm=>exact hsc _ v hm
  ·intro j q hq;rw[aD]at hq;split at hq
   ·injection hq with hq;subst hq;refine⟨hlt,fun _=>hg,fun i v hv=>?_⟩;have hv2:cs[o+i]? = some v:=by
     rw[<- hcs]at hv;rw[List.getElem?_take]at hv;split at hv
     ·rw[List.getElem?_drop]at hv;exact hv
     ·cases hv
    obtain⟨b',off',e',hι',hc⟩:=H.cell hk hv2;rw[hι]at hι';injection hι' with e1 e2 e3;subst e1;subst e2;have hgv:=a9 hg (List.mem_of_getElem? hv);rw[Nat.add_assoc,hc,oI hgv,oI hgv]
   exact cA hq
  ·intro j j' q q' hq hq' hne ha b hb;rw[aD]at hq hq';split at hq
   ·rename_i hb1;split at hq'
    ·rename_i hb2;exact absurd ((az hb1).symm.trans (az hb2)) hne
    exact cA hq'
   exact cA hq
  ·intro j q hq;rw[aD]at hq;split at hq
   ·rename_i hb;rw[<- az hb];exact Nat.one_pos
   exact cA hq
  intro j q hq;rw[aD]at hq;split at hq
  ·injection hq with hq;subst hq;exact fun v hv=>bM (a9 hg hv)
  exact cA hq
end Go.Aw
end
