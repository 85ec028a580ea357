/-
  Parts of a proof. No condition.
-/
import Derived.WalkKit
import Derived.TacticsIn
import Derived.IntWalk
import Derived.Laws.StructEq
set_option linter.unusedSimpArgs false
set_option linter.unusedVariables false
noncomputable section
namespace Go.Aw
open Go.RowKit
theorem aa {P:Prop}(h:P:=by omega):P:=h
theorem ab {a b:Nat}(h:Nat.ble a b=true:=by rfl):a<=b:=Nat.le_of_ble_eq_true h
theorem ae {α:Type}{p:α->Prop}{a:α}{l:List α}:(∀ x∈a::l,p x)<->p a/\∀ x∈l,p x:=List.forall_mem_cons
theorem af (a b:Bool):((a&&b)=true)=(a=true/\b=true):=Bool.and_eq_true a b
theorem ag {p:Prop}[Decidable p]:(decide p=true)=p:=decide_eq_true_eq
theorem ah (n:Nat):n<=n:=Nat.le_refl n
theorem ai {p:Prop}[Decidable p](h:p):decide p=true:=decide_eq_true h
theorem aj {p:Prop}[Decidable p](h:¬p):decide p=false:=decide_eq_false h
structure jO (B:Nat) (w w':World):Prop where
 os:w'.os=w.os
 tape:w'.tape=w.tape
 output:w'.output=w.output
 size:w.heap.size<=w'.heap.size
 block:∀ k,k<B->w'.heap[k]? = w.heap[k]?
 drawn:w.drawn<=w'.drawn
theorem jO.kit {B:Nat}{w w':World}(h:jO B w w'):Go.RowKit.Below B w w':=⟨h.os,h.tape,h.output,h.size,h.block⟩
theorem jO.refl (B:Nat)(w:World):jO B w w:=⟨rfl,rfl,rfl,ah _,fun _ _=>rfl,ah _⟩
theorem jO.trans {B:Nat}{a b c:World}(h:jO B a b)(k:jO B b c):jO B a c :=
 ⟨k.os.trans h.os,k.tape.trans h.tape,k.output.trans h.output,Nat.le_trans h.size k.size,fun i hi=>(k.block i hi).trans (h.block i hi),Nat.le_trans h.drawn k.drawn⟩
theorem jO.mono {B B':Nat}{w w':World}(h:jO B w w')(hB:B'<=B):jO B' w w':=⟨h.os,h.tape,h.output,h.size,fun k hk=>h.block k (Nat.lt_of_lt_of_le hk hB),h.drawn⟩
theorem jO.alloc {B:Nat}{a w:World}(h:jO B a w)(hB:B<=w.heap.size)(o:Obj):jO B a (w.alloc o) :=
 have k:=Go.RowKit.Below.alloc h.kit hB o
 ⟨k.os,k.tape,k.output,k.size,k.block,h.drawn⟩
def br (b:Bool)(A B:Unit->Prop):Prop:=match b with|true=>A ()|false=>B ()
theorem aGT {b:Bool}{A B:Unit->Prop}(h1:b=true->A ())(h2:b=false->B ()):br b A B:=by
 cases b
 ·exact h2 rfl
 exact h1 rfl
theorem rA {b:Bool}{A B:Unit->Prop}(h:br b A B):(b=true/\A ())\/(b=false/\B ()):=by
 cases b
 ·exact .inr ⟨rfl,h⟩
 exact .inl ⟨rfl,h⟩
def eF (b:Bool)(A:Prop):Prop:=match b with|true=>A|false=>False
theorem aM {b:Bool}{A:Prop}(h1:b=true)(h2:A):eF b A:=by subst h1;exact h2
theorem aH {b:Bool}{A:Prop}:eF b A↔(b=true/\A):=by
 cases b
 ·exact⟨fun h=>h.elim,fun h=>by cases h.1⟩
 exact⟨fun h=>⟨rfl,h⟩,fun h=>h.2⟩
def aw {α:Type}(l:List (Nat × α))(n:Nat):Option α:=List.rec none (fun p _ ih=>Bool.rec ih (some p.2) (Nat.beq p.1 n)) l
def xQ {α:Type}(l:List (Nat × α))(n:Nat)(v:α):List (Nat × α):=List.rec [(n,v)] (fun p r ih=>Bool.rec (p::ih) ((p.1,v)::r) (Nat.beq p.1 n)) l
theorem look_nil {α:Type}(n:Nat):aw ([]:List (Nat × α)) n=none:=rfl
theorem aD {α:Type}(k:Nat)(v:α)(r:List (Nat × α))(n:Nat):aw ((k,v)::r) n=match Nat.beq k n with|true=>some v|false=>aw r n:=by
 show @Bool.rec (fun _=>Option α) (aw r n) (some v) (Nat.beq k n)=_;cases Nat.beq k n <;> rfl
theorem aJ4 {α:Type}(n:Nat)(v:α):xQ [] n v=[(n,v)]:=rfl
theorem aH9 {α:Type}(k:Nat)(u:α)(r:List (Nat × α))(n:Nat)(v:α):xQ ((k,u)::r) n v=match Nat.beq k n with|true=>(k,v)::r|false=>(k,u)::xQ r n v:=by
 show @Bool.rec (fun _=>List (Nat × α)) ((k,u)::xQ r n v) ((k,v)::r) (Nat.beq k n)=_;cases Nat.beq k n <;> rfl
def put {α:Type}(l:List (Nat × α))(n:Nat)(v:α):List (Nat × α):=(n,v)::l
def cO {α:Type}(l:List (Nat × α))(n:Nat)(v:α):List (Nat × α):=(n,v)::l
theorem az {a b:Nat}(h:Nat.beq a b=true):a=b:=Nat.eq_of_beq_eq_true h
theorem ba {a b:Nat}(h:Nat.beq a b=false):a≠b:=Nat.ne_of_beq_eq_false h
theorem m7 {α:Type}(l:List (Nat × α))(n:Nat)(v:α)(m:Nat):aw (xQ l n v) m=if m=n then some v else aw l m:=by
 induction l with
 |nil =>
  simp only[aJ4,aD,look_nil];split
  ·rename_i h;rw[if_pos (az h).symm]
  rename_i h;rw[if_neg (fun e=>ba h e.symm)]
 |cons x r ih =>
  obtain⟨k,u⟩:=x;simp only[aH9];split
  ·rename_i h;have:=az h;subst this;simp only[aD];split
   ·rename_i h';rw[if_pos (az h').symm]
   rename_i h';rw[if_neg (fun e=>ba h' e.symm)]
  rename_i h;simp only[aD];split
  ·rename_i h';rw[if_neg];intro e;exact ba h ((az h').trans e)
  exact ih
theorem MU {α:Type}(l:List (Nat × α))(n:Nat)(v:α)(m:Nat):aw (put l n v) m=if m=n then some v else aw l m:=by
 unfold put;rw[aD];split
 ·rename_i h;rw[if_pos (az h).symm]
 rename_i h;rw[if_neg (fun e=>ba h e.symm)]
theorem nR {α:Type}(l:List (Nat × α))(n:Nat)(v:α)(m:Nat):aw (cO l n v) m=if m=n then some v else aw l m:=MU l n v m
theorem kQ {α:Type}(l:List (Nat × α)){n m:Nat}(v:α)(h:m≠n):aw (cO l n v) m=aw l m:=by rw[nR,if_neg h]
theorem jP {α:Type}(l:List (Nat × α))(n:Nat)(v:α):aw (xQ l n v) n=some v:=by rw[m7,if_pos rfl]
theorem mB {α:Type}(l:List (Nat × α)){n m:Nat}(v:α)(h:m≠n):aw (xQ l n v) m=aw l m:=by rw[m7,if_neg h]
inductive Loc where
 /-- no room: an address that is never looked behind,or none -/
 |nil (p:Option Addr)
 |lay (b off ext:Nat)
def Loc.jD:Loc->Bool
 |.nil _=>false
 |.lay _ _ _=>true
def Loc.F9:Loc->Option Nat
 |.nil _=>none
 |.lay b _ _=>some b
def eM (ι:Nat->Loc):Value->Value
 |.pointer (some a)=>.pointer (match ι a.block with|.nil p=>p|.lay b o _=>some ⟨b,o+a.off,none⟩)
 |.slice (some a) n c=>match ι a.block with|.nil p=>.slice p n c|.lay b o e=>.slice (some ⟨b,o+a.off,none⟩) n (c+e)
 |.map (some k)=>match ι k with|.nil _=>.map none|.lay b _ _=>.map (some b)
 |v=>v
def nB (ι:Nat->Loc):Fn->Fn
 |.yield l=>match ι l with|.nil _=>.yield l|.lay b _ _=>.yield b
 |f=>f
def cF (ι:Nat->Loc):Value->Value
 |.func f first cap=>.func (nB ι f) first (cap.map (eM ι))
 |v=>eM ι v
def eK (ι:Nat->Loc):Value->Value
 |.agg cs=>.agg (cs.map (cF ι))
 |v=>cF ι v
def tr (ι:Nat->Loc):Value->Value
 |.tuple vs=>.tuple (vs.map (eK ι))
 |v=>eK ι v
def gS:Value->Bool
 |.bool _|.int _ _|.float _ _|.complex _ _ _|.string _|.pointer none|.slice none _ _|.map none|.nilFunc|.nilIface=>true
 |.func (.func _) _ cap=>cap.isEmpty
 |_=>false
def dT:List Value->Bool
 |[]=>true
 |v::r=>gS v&&dT r
def gA:Value->Bool
 |.agg cs=>dT cs.toList
 |v=>gS v
def fI:List Value->Bool
 |[]=>true
 |v::r=>gA v&&fI r
def gT:Value->Bool
 |.tuple vs=>fI vs.toList
 |v=>gA v
theorem oI {ι:Nat->Loc}{v:Value}(h:gS v=true):cF ι v=v:=by
 cases v with
 |pointer a=>cases a with
  |none=>rfl
  |some a=>simp[gS]at h
 |slice a n c=>cases a with
  |none=>rfl
  |some a=>simp[gS]at h
 |map r=>cases r with
  |none=>rfl
  |some a=>simp[gS]at h
 |func f a c =>
  cases f with
  |func f =>
   simp only[gS,Array.isEmpty_iff]at h;subst h;simp[cF,nB]
  |_=>simp[gS]at h
 |_=>first|rfl|(simp[gS]at h)
theorem bK {ι:Nat->Loc}:∀{l:List Value},dT l=true->l.map (cF ι)=l
 |[],_=>rfl
 |v::r,h=>by
  simp only[dT,af]at h;simp only[List.map_cons,oI h.1,bK h.2]
theorem Z2 {ι:Nat->Loc}{v:Value}(h:gA v=true):eK ι v=v:=by
 cases v with
 |agg cs =>
  simp only[gA]at h;simp only[eK];congr 1;apply Array.ext';simp[bK h]
 |_=>simp only[gA]at h;simp only[eK];exact oI h
theorem OC {ι:Nat->Loc}:∀{l:List Value},fI l=true->l.map (eK ι)=l
 |[],_=>rfl
 |v::r,h=>by
  simp only[fI,af]at h;simp only[List.map_cons,Z2 h.1,OC h.2]
theorem iU {ι:Nat->Loc}{v:Value}(h:gT v=true):tr ι v=v:=by
 cases v with
 |tuple cs =>
  simp only[gT]at h;simp only[tr];congr 1;apply Array.ext';simp[OC h]
 |_=>simp only[gT]at h;simp only[tr];exact Z2 h
theorem a9 {l:List Value}(h:dT l=true){v:Value}(hv:v∈l):gS v=true:=by
 induction l with
 |nil=>cases hv
 |cons x r ih =>
  simp only[dT,af]at h;cases hv with
  |head=>exact h.1
  |tail _ hm=>exact ih h.2 hm
theorem GB {a b:List Value}:dT (a++b)=(dT a&&dT b):=by
 induction a with
 |nil=>rfl
 |cons x r ih=>simp only[List.cons_append,dT,ih,Bool.and_assoc]
theorem r7 {l:List Value}(h:∀ v∈l,gS v=true):dT l=true:=by
 induction l with
 |nil=>rfl
 |cons x r ih=>simp only[dT,h x (by simp),ih (fun v hv=>h v (by simp[hv])),Bool.and_self]
def rG (ι:Nat->Loc)(n:Nat):Value->Prop
 |.pointer (some a)=>a.block<n/\(ι a.block).jD=true
 |.slice (some a) l c=>a.block<n/\((ι a.block).jD=false->l=0/\c=0)
 |.map (some k)=>k<n/\(ι k).jD=true
 |.agg _=>False
 |.tuple _=>False
 |_=>True
def XJ (ι:Nat->Loc)(n:Nat):Fn->Prop
 |.yield l=>l<n/\(ι l).jD=true
 |_=>True
def jJ (ι:Nat->Loc)(n:Nat):Value->Prop
 |.func f _ cap=>XJ ι n f/\∀ v∈cap.toList,rG ι n v
 |v=>rG ι n v
def mS (ι:Nat->Loc)(n:Nat):Value->Prop
 |.agg cs=>∀ v∈cs.toList,jJ ι n v
 |v=>jJ ι n v
def fU (ι:Nat->Loc)(n:Nat):Value->Prop
 |.tuple vs=>∀ v∈vs.toList,mS ι n v
 |v=>mS ι n v
section
variable {ι ι':Nat->Loc}{n m:Nat}
theorem U5 (h:n<=m)(e:∀ k,k<n->ι' k=ι k){v:Value}(hv:rG ι n v):rG ι' m v:=by
 cases v with
 |pointer a=>cases a <;> simp only[rG]at*;rw[e _ hv.1];exact⟨aa,hv.2⟩
 |slice a _ _=>cases a <;> simp only[rG]at*;rw[e _ hv.1];exact⟨aa,hv.2⟩
 |map a=>cases a <;> simp only[rG]at*;rw[e _ hv.1];exact⟨aa,hv.2⟩
 |agg c=>exact hv.elim
 |tuple c=>exact hv.elim
 |_=>trivial
theorem kG (h:n<=m)(e:∀ k,k<n->ι' k=ι k){v:Value}(hv:jJ ι n v):jJ ι' m v:=by
 cases v with
 |func f a c =>
  refine⟨?_,fun v hm=>U5 h e (hv.2 v hm)⟩;have:=hv.1;cases f <;> simp only[XJ]at *
  rw[e _ this.1];exact⟨aa,this.2⟩
 |_=>simp only[jJ]at hv ⊢;exact U5 h e hv
theorem S0 (h:n<=m)(e:∀ k,k<n->ι' k=ι k){v:Value}(hv:mS ι n v):mS ι' m v:=by
 cases v with
 |agg cs=>exact fun v hm=>kG h e (hv v hm)
 |_=>simp only[mS]at hv ⊢;exact kG h e hv
theorem uR (h:n<=m)(e:∀ k,k<n->ι' k=ι k){v:Value}(hv:fU ι n v):fU ι' m v:=by
 cases v with
 |tuple cs=>exact fun v hm=>S0 h e (hv v hm)
 |_=>simp only[fU]at hv ⊢;exact S0 h e hv
theorem bM {v:Value}(h:gS v=true):jJ ι n v:=by
 cases v with
 |pointer a=>cases a <;> simp[gS,jJ,rG]at *
 |slice a _ _=>cases a <;> simp[gS,jJ,rG]at *
 |map a=>cases a <;> simp[gS,jJ,rG]at *
 |func f a c=>cases f <;> simp[gS,jJ,XJ]at*;subst h;simp
 |agg c=>simp[gS]at h
 |tuple c=>simp[gS]at h
 |_=>trivial
theorem TR {v:Value}(h:gA v=true):mS ι n v:=by
 cases v with
 |agg cs=>exact fun v hm=>bM (a9 h hm)
 |_=>simp only[gA]at h;simp only[mS];exact bM h
theorem c9 {v:Value}(h:gT v=true):fU ι n v:=by
 cases v with
 |tuple cs =>
  simp only[gT]at h;intro v hm;generalize cs.toList=l at h hm
  induction l with
  |nil=>cases hm
  |cons x r ih =>
   simp only[fI,af]at h;cases hm with
   |head=>exact TR h.1
   |tail _ hm=>exact ih h.2 hm
 |_=>simp only[gT]at h;simp only[fU];exact TR h
end
theorem aFG {ι ι':Nat->Loc}{n:Nat}(h:∀ k,k<n->ι' k=ι k){v:Value}(hv:rG ι n v):eM ι' v=eM ι v:=by
 cases v with
 |pointer a=>cases a <;> simp only[rG]at hv <;> simp only[eM];rw[h _ hv.1]
 |slice a _ _=>cases a <;> simp only[rG]at hv <;> simp only[eM];rw[h _ hv.1]
 |map a=>cases a <;> simp only[rG]at hv <;> simp only[eM];rw[h _ hv.1]
 |_=>rfl
theorem oT {ι ι':Nat->Loc}{n:Nat}(h:∀ k,k<n->ι' k=ι k){v:Value}(hv:jJ ι n v):cF ι' v=cF ι v:=by
 cases v with
 |func f a c =>
  simp only[cF];congr 1
  ·cases f <;> simp only[nB]
   rw[h _ hv.1.1]
  apply Array.map_congr_left;intro x hx;exact aFG h (hv.2 x (by simpa using hx))
 |_=>simp only[jJ]at hv;simp only[cF];exact aFG h hv
theorem aEY {ι ι':Nat->Loc}{n:Nat}(h:∀ k,k<n->ι' k=ι k){v:Value}(hv:mS ι n v):eK ι' v=eK ι v:=by
 cases v with
 |agg cs =>
  simp only[eK];congr 1;apply Array.map_congr_left;intro x hx;exact oT h (hv x (by simpa using hx))
 |_=>simp only[mS]at hv;simp only[eK];exact oT h hv
theorem KP {ι ι':Nat->Loc}{n:Nat}(h:∀ k,k<n->ι' k=ι k){v:Value}(hv:fU ι n v):tr ι' v=tr ι v:=by
 cases v with
 |tuple cs =>
  simp only[tr];congr 1;apply Array.map_congr_left;intro x hx;exact aEY h (hv x (by simpa using hx))
 |_=>simp only[fU]at hv;simp only[tr];exact aEY h hv
structure aBX where
 state:LoopState
 pending:Option Code
 fn:FuncId
 env:List (Nat × Value)
 tn:Nat
 params:List Tmp
 assign:Code
 body:Code
 defers:Nat
inductive bV where
 /-- cells: 'wr': mine alone,may be written;'g': no address in them;'sz': cells an element -/
 |cells (wr g:Bool) (sz:Nat) (cs:List Value)
 |map (es:List (Value × Value))
 |loop (l:aBX)
 |deferred
 /-- a slice without room -/
 |zero
def bV.alone:bV->Bool
 |.cells wr _ _ _=>wr
 |.zero=>false
 |_=>true
abbrev Heap:=List (Nat × bV)
abbrev ak(k n c:Nat):Value:=.slice (some ⟨k,0,none⟩) n c
abbrev ao(k:Nat):Value:=.pointer (some ⟨k,0,none⟩)
abbrev aq(s:Nat)(l:List Value):bV:=.cells true false s l
abbrev au(s:Nat)(l:List Value):bV:=.cells false true s l
abbrev av(s:Nat)(l:List Value):bV:=.cells false false s l
def m3 (ι:Nat->Loc)(B:Nat)(w:World):bV->Loc->Prop
 |.cells wr _ sz cs,.nil p=>cs=[]/\(sz=0\/wr=true->p.isSome=true)
 |.cells true g sz cs,.lay b o e=>B<=b/\(g=true->dT cs=true)/\∃ arr t,w.heap[b]? = some (.cells arr t (0,0))/\o+cs.length+e*sz<=arr.size /\
  ∀(i:Nat) v,cs[i]? = some v->arr[o+i]? = some (cF ι v)
 |.cells false g _ cs,.lay b o _=>b<w.heap.size/\(g=true->dT cs=true)/\∀(i:Nat) v,cs[i]? = some v->w.cell? ⟨b,o+i,none⟩=some (cF ι v)
 |.map es,.lay b _ _=>B<=b/\∃ ents clock,w.heap[b]? = some (.map ents clock)/\ents.toList.map (fun e=>(e.key,e.val))=es.map (fun e=>(e.1,cF ι e.2)) /\
  (∀ e∈es,gA e.1=true)
 |.loop l,.lay b _ _=>B<=b/\∃ r:Loop,w.heap[b]? = some (.loop r)/\r.state=l.state/\r.pending=l.pending/\True/\r.tmps.size=l.tn /\
  (∀ t v,aw l.env t=some v->r.tmps[t]? = some (tr ι v))/\r.params.toList=l.params/\r.assign=l.assign/\r.body=l.body/\(ι l.defers).F9=some r.defers
 |.deferred,.lay b _ _=>B<=b/\w.heap[b]? = some (.deferred (some []))
 |.zero,.lay _ _ _=>False
 |.zero,.nil _=>True
 |_,.nil _=>False
def OSc (ι:Nat->Loc)(n:Nat):bV->Prop
 |.cells _ _ _ cs=>∀ v∈cs,jJ ι n v
 |.map es=>∀ e∈es,jJ ι n e.2
 |.loop l=>(∀ t v,aw l.env t=some v->fU ι n v)/\l.defers<n
 |.deferred=>True
 |.zero=>True
structure aY (ι:Nat->Loc) (B:Nat) (h:Heap) (nx:Nat) (w:World):Prop where
 obj:∀ k o,aw h k=some o->m3 ι B w o (ι k)
 sep:∀ k k' o o',aw h k=some o->aw h k'=some o'->k≠k'->o.alone=true->∀ b,(ι k).F9=some b->(ι k').F9≠some b
 low:∀ k o,aw h k=some o->k<nx
 size:B<=w.heap.size
 sc:∀ k o,aw h k=some o->OSc ι nx o
theorem uM {ι:Nat->Loc}{n:Nat}{v:Value}(h:jJ ι n v):eK ι v=cF ι v:=by
 cases v with
 |agg c=>exact h.elim
 |_=>rfl
theorem r8 {ι:Nat->Loc}{n:Nat}{v:Value}(h:mS ι n v):tr ι v=eK ι v:=by
 cases v with
 |tuple c=>exact h.elim
 |_=>rfl
theorem dH {ι:Nat->Loc}{n:Nat}{v:Value}(h:jJ ι n v):mS ι n v:=by
 cases v with
 |agg c=>exact h.elim
 |_=>exact h
theorem lF {ι:Nat->Loc}{n:Nat}{v:Value}(h:mS ι n v):fU ι n v:=by
 cases v with
 |tuple c=>exact h.elim
 |_=>exact h
theorem CT {ι:Nat->Loc}{n:Nat}{v:Value}(h:jJ ι n v):tr ι v=cF ι v:=by rw[r8 (dH h),uM h]
theorem wR {ι:Nat->Loc}{n:Nat}{v:Value}(h:jJ ι n v):(cF ι v).oneCell'=true/\(cF ι v).cells=#[cF ι v]:=by
 cases v with
 |agg c=>exact h.elim
 |tuple c=>exact h.elim
 |pointer a=>cases a <;> simp[cF,eM,Value.oneCell',Value.cells]
 |slice a n c =>
  cases a with
  |none=>simp[cF,eM,Value.oneCell',Value.cells]
  |some a=>simp only[cF,eM];split <;> simp[Value.oneCell',Value.cells]
 |map a =>
  cases a with
  |none=>simp[cF,eM,Value.oneCell',Value.cells]
  |some a=>simp only[cF,eM];split <;> simp[Value.oneCell',Value.cells]
 |_=>simp[cF,eM,Value.oneCell',Value.cells]
theorem DV {ι:Nat->Loc}{n:Nat}{v:Value}(h:mS ι n v):(tr ι v).cells=v.cells.map (cF ι):=by
 cases v with
 |tuple c=>exact h.elim
 |agg c=>simp[tr,eK,Value.cells]
 |_ =>
  rw[CT (n:=n) (by exact h),(wR (n:=n) (by exact h)).2];simp[Value.cells]
def ins (ι:Nat->Loc)(k:Nat)(l:Loc):Nat->Loc:=fun j=>if j=k then l else ι j
theorem bZ (ι:Nat->Loc)(k:Nat)(l:Loc):ins ι k l k=l:=if_pos rfl
theorem J8 (ι:Nat->Loc){k j:Nat}(l:Loc)(h:j≠k):ins ι k l j=ι j:=if_neg h
theorem dE (ι:Nat->Loc){k j:Nat}(l:Loc)(h:j<k):ins ι k l j=ι j:=if_neg aa
theorem m3.lt {ι:Nat->Loc}{B:Nat}{w:World}{o:bV}{l:Loc}(h:m3 ι B w o l){b:Nat}(hb:l.F9=some b):b<w.heap.size:=by
 have key:∀ x,w.heap[b]? = some x->b<w.heap.size:=fun x hx=>(Array.getElem?_eq_some_iff.1 hx).1;cases l with
 |nil=>cases hb
 |lay c off e =>
  have:c=b:=(by simpa[Loc.F9]using hb);subst this;cases o with
  |cells wr g sz cs =>
   cases wr with
   |true=>obtain⟨_,_,arr,t,h1,_⟩:=h;exact key _ h1
   |false=>exact h.1
  |map es=>obtain⟨_,ents,clock,h1,_⟩:=h;exact key _ h1
  |loop r=>obtain⟨_,r,h1,_⟩:=h;exact key _ h1
  |deferred=>exact key _ h.2
  |zero=>exact h.elim
theorem m3.FX {ι:Nat->Loc}{B:Nat}{w w':World}{o:bV}{l:Loc}(h:m3 ι B w o l)(hb:∀ b,l.F9=some b->w'.heap[b]? = w.heap[b]?)(hs:w.heap.size<=w'.heap.size) :
  m3 ι B w' o l:=by
 cases l with
 |nil=>cases o <;> first|exact h|(cases h)
 |lay c off e =>
  have hc:=hb c rfl;cases o with
  |cells wr g sz cs =>
   cases wr with
   |true=>obtain⟨h0,hg,arr,t,h1,h2⟩:=h;exact⟨h0,hg,arr,t,hc.trans h1,h2⟩
   |false =>
    obtain⟨h0,hg,h1⟩:=h;exact⟨aa,hg,fun i v hv=>by rw[World.cell?_of_block (w:=w) hc];exact h1 i v hv⟩
  |map es=>obtain⟨h0,ents,clock,h1,h2⟩:=h;exact⟨h0,ents,clock,hc.trans h1,h2⟩
  |loop r=>obtain⟨h0,r,h1,h2⟩:=h;exact⟨h0,r,hc.trans h1,h2⟩
  |deferred=>exact⟨h.1,hc.trans h.2⟩
  |zero=>exact h.elim
theorem m3.names {ι ι':Nat->Loc}{B n:Nat}{w:World}{o:bV}{l:Loc}(h:m3 ι B w o l)(hsc:OSc ι n o)(he:∀ k,k<n->ι' k=ι k):m3 ι' B w o l:=by
 cases l with
 |nil=>cases o <;> first|exact h|(cases h)
 |lay c off e =>
  cases o with
  |cells wr g sz cs =>
   cases wr with
   |true =>
    obtain⟨h0,hg,arr,t,h1,h2,h3⟩:=h;exact⟨h0,hg,arr,t,h1,h2,fun i v hv=>by rw[oT he (hsc v (List.mem_of_getElem? hv))];exact h3 i v hv⟩
   |false =>
    obtain⟨h0,hg,h1⟩:=h;exact⟨h0,hg,fun i v hv=>by rw[oT he (hsc v (List.mem_of_getElem? hv))];exact h1 i v hv⟩
  |map es =>
   obtain⟨h0,ents,clock,h1,h2,h3⟩:=h;refine⟨h0,ents,clock,h1,h2.trans ?_,h3⟩;apply List.map_congr_left;intro x hx;rw[oT he (hsc x hx)]
  |loop r =>
   obtain⟨h0,q,h1,h2,h3,h4,h5,h6,h7,h8,h9,h10⟩:=h;refine⟨h0,q,h1,h2,h3,h4,h5,fun t v hv=>?_,h7,h8,h9,?_⟩
   ·rw[KP he (hsc.1 t v hv)];exact h6 t v hv
   rw[he _ hsc.2];exact h10
  |deferred=>exact h
  |zero=>exact h
theorem OSc.mono {ι ι':Nat->Loc}{n m:Nat}(h:n<=m)(e:∀ k,k<n->ι' k=ι k){o:bV}(hs:OSc ι n o):OSc ι' m o:=by
 cases o with
 |cells wr g sz cs=>exact fun v hv=>kG h e (hs v hv)
 |map es=>exact fun v hv=>kG h e (hs v hv)
 |loop r=>exact⟨fun t v hv=>uR h e (hs.1 t v hv),Nat.lt_of_lt_of_le hs.2 h⟩
 |deferred=>trivial
 |zero=>trivial
section
variable {ι:Nat->Loc}{B nx:Nat}{h:Heap}{w w':World}
theorem aY.FX (H:aY ι B h nx w)(hb:∀ k o b,aw h k=some o->(ι k).F9=some b->w'.heap[b]? = w.heap[b]?)(hs:w.heap.size<=w'.heap.size):aY ι B h nx w' :=
 ⟨fun k o hk=>(H.obj k o hk).FX (fun b e=>hb k o b hk e) hs,H.sep,H.low,Nat.le_trans H.size hs,H.sc⟩
theorem aY.ext (H:aY ι B h nx w)(hb:jO w.heap.size w w'):aY ι B h nx w' :=
 H.FX (fun k o b hk e=>hb.block b ((H.obj k o hk).lt e)) hb.size
theorem aY.add (H:aY ι B h nx w)(o:bV)(l:Loc)(ho:m3 (ins ι nx l) B w o l)(hsc:OSc (ins ι nx l) (nx+1) o)
  (hsep:∀ k o',aw h k=some o'->(o.alone=true\/o'.alone=true)->∀ b,l.F9=some b->(ι k).F9≠some b):aY (ins ι nx l) B (cO h nx o) (nx+1) w:=by
 refine⟨fun k o' hk=>?_,fun k k' o1 o2 h1 h2 hne ha b hb=>?_,fun k o' hk=>?_,H.size,fun k o' hk=>?_⟩
 ·rw[nR]at hk;by_cases e:k=nx
  ·subst e;rw[if_pos rfl]at hk;injection hk with hk;subst hk;rw[bZ];exact ho
  rw[if_neg e]at hk;rw[J8 _ _ e];exact(H.obj k o' hk).names (H.sc k o' hk) (fun j hj=>dE _ _ hj)
 ·rw[nR]at h1 h2;by_cases e1:k=nx
  ·subst e1;rw[if_pos rfl]at h1;injection h1 with h1;subst h1;rw[if_neg (fun e=>hne e.symm)]at h2;rw[bZ]at hb;rw[J8 _ _ (fun e=>hne e.symm)];exact hsep k' o2 h2 (.inl ha) b hb
  rw[if_neg e1]at h1;rw[J8 _ _ e1]at hb;by_cases e2:k'=nx
  ·subst e2;rw[if_pos rfl]at h2;injection h2 with h2;subst h2;rw[bZ];intro hl;exact hsep k o1 h1 (.inr ha) b hl hb
  rw[if_neg e2]at h2;rw[J8 _ _ e2];exact H.sep k k' o1 o2 h1 h2 hne ha b hb
 ·rw[nR]at hk;by_cases e:k=nx
  ·omega
  rw[if_neg e]at hk;have:=H.low k o' hk;omega
 rw[nR]at hk;by_cases e:k=nx
 ·rw[if_pos e]at hk;injection hk with hk;subst hk;exact hsc
 rw[if_neg e]at hk;exact(H.sc k o' hk).mono aa (fun j hj=>dE _ _ hj)
theorem aY.more (H:aY ι B h nx w)(l:Loc):aY (ins ι nx l) B h (nx+1) w:=by
 refine⟨fun k o' hk=>?_,fun k k' o1 o2 h1 h2 hne ha b hb=>?_,fun k o' hk=>Nat.lt_succ_of_lt (H.low k o' hk),H.size,fun k o' hk=>(H.sc k o' hk).mono aa (fun j hj=>dE _ _ hj)⟩
 ·rw[dE _ _ (H.low k o' hk)];exact(H.obj k o' hk).names (H.sc k o' hk) (fun j hj=>dE _ _ hj)
 rw[dE _ _ (H.low k o1 h1)]at hb;rw[dE _ _ (H.low k' o2 h2)];exact H.sep k k' o1 o2 h1 h2 hne ha b hb
theorem eP (w:World)(o:Obj):jO w.heap.size w (w.alloc o):=(jO.refl _ w).alloc (ah _) o
theorem aY.new (H:aY ι B h nx w)(ob:Obj)(o:bV)(ho:m3 (ins ι nx (.lay w.heap.size 0 0)) B (w.alloc ob) o (.lay w.heap.size 0 0))(hsc:OSc (ins ι nx (.lay w.heap.size 0 0)) (nx+1) o) :
  aY (ins ι nx (.lay w.heap.size 0 0)) B (cO h nx o) (nx+1) (w.alloc ob):=by
 refine(H.ext (eP w ob)).add o _ ho hsc (fun k o' hk _ b hb e=>?_);have h1:=(H.obj k o' hk).lt e;have:w.heap.size=b:=(by simpa[Loc.F9]using hb);omega
theorem aY.set (H:aY ι B h nx w){k:Nat}{o o':bV}(hk:aw h k=some o)(ha:o.alone=true)(ho:m3 ι B w' o' (ι k))(hsc:OSc ι nx o')(_ha':o'.alone=true)
  (hb:∀ b,(ι k).F9≠some b->w'.heap[b]? = w.heap[b]?) (hs:w.heap.size<=w'.heap.size):aY ι B (xQ h k o') nx w':=by
 refine⟨fun j o1 hj=>?_,fun j j' o1 o2 h1 h2 hne hal b e=>?_,fun j o1 hj=>?_,Nat.le_trans H.size hs,fun j o1 hj=>?_⟩
 ·rw[m7]at hj;by_cases e:j=k
  ·subst e;rw[if_pos rfl]at hj;injection hj with hj;subst hj;exact ho
  rw[if_neg e]at hj;refine(H.obj j o1 hj).FX (fun b eb=>hb b ?_) hs;intro ek;exact H.sep k j o o1 hk hj (fun e'=>e e'.symm) ha b ek eb
 ·rw[m7]at h1 h2;by_cases e1:j=k
  ·subst e1;rw[if_neg (fun e=>hne e.symm)]at h2;exact H.sep j j' o o2 hk h2 hne ha b e
  rw[if_neg e1]at h1;by_cases e2:j'=k
  ·subst e2;exact H.sep j j' o1 o h1 hk hne hal b e
  rw[if_neg e2]at h2;exact H.sep j j' o1 o2 h1 h2 hne hal b e
 ·rw[m7]at hj;by_cases e:j=k
  ·subst e;exact H.low j o hk
  rw[if_neg e]at hj;exact H.low j o1 hj
 rw[m7]at hj;by_cases e:j=k
 ·rw[if_pos e]at hj;injection hj with hj;subst hj;exact hsc
 rw[if_neg e]at hj;exact H.sc j o1 hj
end
structure Ar where
 add:Int->Int->Int
 sub:Int->Int->Int
 mul:Int->Int->Int
 quo:Int->Int->Int
 rem:Int->Int->Int
 neg:Int->Int
 lt:Int->Int->Bool
 le:Int->Int->Bool
 eq:Int->Int->Bool
 fits:IntKind->Int->Bool
 ix:Nat->Int->Nat->Nat
 num:Nat->Int
 toN:Int->Nat
 subN:Nat->Nat->Nat
 andB:Bool->Bool->Bool
 notB:Bool->Bool
 eqB:Bool->Bool->Bool
 max:Int->Int->Int
 min:Int->Int->Int
 bit:BinOp->Nat->Nat->Nat
def aN (k:IntKind)(n:Int):Bool :=
 match k with
 |.i8=>decide (-128<=n)&&decide (n<=127)
 |.i16=>decide (-32768<=n)&&decide (n<=32767)
 |.i32=>decide (-2147483648<=n)&&decide (n<=2147483647)
 |.i64=>decide (-9223372036854775808<=n)&&decide (n<=9223372036854775807)
 |.u8=>decide (0<=n)&&decide (n<=255)
 |.u16=>decide (0<=n)&&decide (n<=65535)
 |.u32=>decide (0<=n)&&decide (n<=4294967295)
 |.u64=>decide (0<=n)&&decide (n<=18446744073709551615)
theorem kN {k:IntKind}{n:Int}(h:aN k n=true):k.wrap n=n:=by
 cases k <;> simp only[aN,af,ag]at h
 ·exact IntWalk.i8_in n h
 ·exact IntWalk.i16_in n h
 ·exact IntWalk.i32_in n h
 ·exact IntWalk.i64_in n h
 ·exact IntWalk.u8_in n h
 ·exact IntWalk.u16_in n h
 ·exact IntWalk.u32_in n h
 exact IntWalk.u64_in n h
def aF:Ar where
 add a b:=a+b
 sub a b:=a - b
 mul a b:=a*b
 quo a b:=a.tdiv b
 rem a b:=a.tmod b
 neg a:=0 - a
 lt a b:=decide (a<b)
 le a b:=decide (a<=b)
 eq a b:=decide (a=b)
 fits:=aN
 ix o i s:=o+i.toNat*s
 num n:=n
 toN i:=i.toNat
 subN a b:=a - b
 andB a b:=a&&b
 notB a:=!a
 eqB a b:=a == b
 max a b:=if b > a then b else a
 min a b:=if b<a then b else a
 bit op a b:=match op with|.xor=>a ^^^ b|.or=>a ||| b|.and=>a &&& b|_=>0
inductive TyK where
 |sc
 |int (k:IntKind)
 |bool
 |str
 |st (fs:List (Nat × TypeId))
 |ar (n:Nat) (e:TypeId)
 |sl (e:TypeId)
 |mp (k e:TypeId)
 |ptr (e:TypeId)
structure WE where
 kind:TyK
 size:Nat
 bytes:Nat
 zv:Value
def WE.isAgg (i:WE):Bool:=match i.kind with|.st _=>true|.ar _ _=>true|_=>false
abbrev dN:=List (TypeId × WE)
def KOK:TypeDesc->TyK->Bool
 |.struct f, .st fs => f.toList.map (fun f => (f.offset, f.type)) == fs && f.all (fun f => f.name != "_")
 |.struct _,_=>false
 |.array n e,.ar m e'=>n == m&&e == e'
 |.array _ _,_=>false
 |.int k,.int k'=>k == k'
 |.bool,.bool=>true
 |.string,.str=>true
 |.slice e,.sl e'=>e == e'
 |.map k e,.mp k' e'=>k == k'&&e == e'
 |.pointer e,.ptr e'=>e == e'
 |_,.sc=>true
 |_,_=>false
structure pJ (P:Program) (t:TypeId) (i:WE):Prop where
 info:∃ x,P.info? t=some x/\x.size=i.size/\x.bytes=i.bytes/\x.zero=some i.zv
 desc:∃ d,P.underlying t=some d/\KOK d i.kind=true
 zs:i.zv.cells.size=i.size
 zg:gA i.zv=true
 held:P.stoodInHeld t=false
 guard:P.eqGuardType P.depth t=false
 pos:0<i.size
def dJ (P:Program)(T:dN):Prop:=∀ t i,aw T t=some i->pJ P t i
section
variable {P:Program}{t:TypeId}{i:WE}
theorem pJ.typeInfo (h:pJ P t i)(w:World):∃ x,(typeInfo t).run P w=.ok x w/\x.size=i.size/\x.bytes=i.bytes/\x.zero=some i.zv:=by
 obtain⟨x,hx,h1,h2,h3⟩:=h.info;exact⟨x,by simp[Go.typeInfo,hx],h1,h2,h3⟩
theorem pJ.sizeOf (h:pJ P t i)(w:World):(Go.sizeOf t).run P w=.ok i.size w:=by
 obtain⟨x,hx,h1,_⟩:=h.typeInfo w;simp[Go.sizeOf,hx,h1]
theorem pJ.zero (h:pJ P t i)(w:World):(zeroValue t).run P w=.ok i.zv w:=by
 obtain⟨x,hx,_,_,h3⟩:=h.typeInfo w;simp[zeroValue,hx,h3]
theorem pJ.isAgg (h:pJ P t i)(w:World):(Go.isAgg t).run P w=.ok i.isAgg w:=by
 obtain⟨d,hd,hk⟩:=h.desc;simp only[Go.isAgg,Sem.run_bind,run_underlying hd,Result.andThen_ok];unfold WE.isAgg;cases d <;> cases hi:i.kind <;> simp[KOK,hi]at hk ⊢
theorem pJ.sl (h:pJ P t i){e:TypeId}(hk:i.kind=.sl e):P.underlying t=some (.slice e):=by
 obtain⟨d,hd,hk'⟩:=h.desc;rw[hk]at hk';cases d <;> simp[KOK]at hk'
 subst hk';exact hd
theorem pJ.ar (h:pJ P t i){n:Nat}{e:TypeId}(hk:i.kind=.ar n e):P.underlying t=some (.array n e):=by
 obtain⟨d,hd,hk'⟩:=h.desc;rw[hk]at hk';cases d <;> simp[KOK]at hk'
 obtain⟨rfl,rfl⟩:=hk';exact hd
theorem pJ.mp (h:pJ P t i){k e:TypeId}(hk:i.kind=.mp k e):P.underlying t=some (.map k e):=by
 obtain⟨d,hd,hk'⟩:=h.desc;rw[hk]at hk';cases d <;> simp[KOK]at hk'
 obtain⟨rfl,rfl⟩:=hk';exact hd
theorem pJ.st (h : pJ P t i){fs : List (Nat × TypeId)}(hk : i.kind = .st fs) : ∃ f : Array Field, P.underlying t = some (.struct f) ∧ f.toList.map (fun f => (f.offset, f.type)) = fs ∧ ∀ x ∈ f.toList, x.name ≠ "_" := by
 obtain⟨d,hd,hk'⟩:=h.desc;rw[hk]at hk';cases d with
 |struct f =>
  simp only[KOK,af,beq_iff_eq]at hk';refine⟨f,hd,hk'.1,fun x hx=>?_⟩;have:=Array.all_eq_true_iff_forall_mem.1 hk'.2 x (by simpa using hx);simpa using this
 |_=>simp[KOK]at hk'
theorem pJ.int (h:pJ P t i){k:IntKind}(hk:i.kind=.int k):P.underlying t=some (.int k):=by
 obtain⟨d,hd,hk'⟩:=h.desc;rw[hk]at hk';cases d <;> simp[KOK]at hk'
 subst hk';exact hd
theorem pJ.bool (h:pJ P t i)(hk:i.kind=.bool):P.underlying t=some .bool:=by
 obtain⟨d,hd,hk'⟩:=h.desc;rw[hk]at hk';cases d <;> simp[KOK]at hk'
 exact hd
theorem pJ.str (h:pJ P t i)(hk:i.kind=.str):P.underlying t=some .string:=by
 obtain⟨d,hd,hk'⟩:=h.desc;rw[hk]at hk';cases d <;> simp[KOK]at hk'
 exact hd
end
def dZ (env:List (Nat × Value)):Operand->Option Value
 |.tmp t=>aw env t
 |.const v=>match gT v with|true=>some v|false=>none
 |.func f=>some (.func (.func f) #[] #[])
 |.global _=>none
def dV (ι:Nat->Loc)(n:Nat)(env:List (Nat × Value))(a:Act):Prop :=
 ∀ t v,aw env t=some v->a.tmps[t]? = some (tr ι v)/\fU ι n v
theorem dV.dZ {ι:Nat->Loc}{n:Nat}{env:List (Nat × Value)}{a:Act}(h:dV ι n env a){x:Operand}{v:Value}(hv:dZ env x=some v):a.eval x=tr ι v/\fU ι n v:=by
 cases x with
 |tmp t =>
  obtain⟨h1,h2⟩:=h t v hv;exact⟨by simp[Act.eval,h1],h2⟩
 |const u =>
  simp only[Aw.dZ]at hv;split at hv
  ·rename_i hg;injection hv with hv;subst hv;exact⟨(iU hg).symm,c9 hg⟩
  ·cases hv
 |func f =>
  simp only[Aw.dZ]at hv;injection hv with hv;subst hv;exact⟨by simp[Act.eval,tr,eK,cF,nB],by simp[fU,mS,jJ,XJ]⟩
 |global g=>cases hv
def nth:List Value->Nat->Option Value
 |[],_=>none
 |v::_,0=>some v
 |_::r,n+1=>nth r n
theorem BR (l:List Value)(n:Nat):nth l n=l[n]? := by
 induction l generalizing n with
 |nil=>rfl
 |cons v r ih=>cases n <;> simp[nth,ih]
def kI (l:List Value)(o:Nat):Nat->Option (List Value)
 |0=>some []
 |n+1=>match nth l o with
  |none=>none
  |some v=>match kI l (o+1) n with
   |none=>none
   |some r=>some (v::r)
theorem E4 {l:List Value}:∀{n o:Nat} {r:List Value},kI l o n=some r->r.length=n/\∀ j,j<n->r[j]? = l[o+j]? /\ ∃ v,l[o+j]? = some v
 |0,o,r,h=>by simp[kI]at h;subst h;simp
 |n+1,o,r,h=>by
  simp only[kI]at h;split at h
  ·cases h
  rename_i v hv;split at h
  ·cases h
  rename_i r' hr;injection h with h;subst h;obtain⟨h1,h2⟩:=E4 hr;refine⟨by simp[h1],fun j hj=>?_⟩;rw[BR]at hv;cases j with
  |zero=>simp[hv]
  |succ j =>
   obtain⟨h3,h4⟩:=h2 j aa;rw[(aa:o+1+j=o+(j+1))]at h3 h4;exact⟨by simpa using h3,h4⟩
def aLq:IntKind->Nat
 |.i8=>0|.i16=>1|.i32=>2|.i64=>3|.u8=>4|.u16=>5|.u32=>6|.u64=>7
def kEq (a b:IntKind):Bool:=Nat.beq (aLq a) (aLq b)
theorem uD {a b:IntKind}(h:kEq a b=true):a=b:=by
 have:=Nat.eq_of_beq_eq_true h;cases a <;> cases b <;> first|rfl|(simp[aLq]at this)
theorem rW {l:List Value}{f:Value->Value}{j:Nat}{v:Value}(hj:(l.map f)[j]? = some v):∃ u,l[j]? = some u/\v=f u:=by
 rw[List.getElem?_map]at hj;cases hl:l[j]? with
 |none=>rw[hl]at hj;cases hj
 |some u=>rw[hl]at hj;injection hj with hj;exact⟨u,rfl,hj.symm⟩
def GU (P:Program)(ι:Nat->Loc)(B nx:Nat)(h:Heap)(m:Sem Value)(v:Value):Prop :=
 mS ι nx v/\∀ w,aY ι B h nx w->m.run P w=.ok (tr ι v) w
section
variable {P:Program}{T:dN}{ι:Nat->Loc}{B nx:Nat}{h:Heap}
theorem aY.cell {w:World}(H:aY ι B h nx w){k:Nat}{wr g:Bool}{sz:Nat}{cs:List Value}(hk:aw h k=some (.cells wr g sz cs)){i:Nat}{v:Value}(hv:cs[i]? = some v) :
  ∃ b o e,ι k=.lay b o e/\w.cell? ⟨b,o+i,none⟩=some (cF ι v):=by
 have ho:=H.obj k _ hk;cases hl:ι k with
 |nil =>
  rw[hl]at ho;have:cs=[]:=(show cs=[]/\_ from ho).1;subst this;simp at hv
 |lay b o e =>
  rw[hl]at ho;refine⟨b,o,e,rfl,?_⟩;cases wr with
  |true =>
   obtain⟨_,_,arr,t,h1,_,h2⟩:=ho;simp[World.cell?,h1,h2 i v hv]
  |false=>exact ho.2.2 i v hv
theorem aY.UA {w:World}(H:aY ι B h nx w){k:Nat}{wr g:Bool}{sz:Nat}{cs:List Value}(hk:aw h k=some (.cells wr g sz cs)){v:Value}(hv:v∈cs):jJ ι nx v:=H.sc k _ hk v hv
theorem aY.cells {w:World}(H:aY ι B h nx w){k:Nat}{wr g:Bool}{sz:Nat}{cs:List Value}(hk:aw h k=some (.cells wr g sz cs)){o n:Nat}{l:List Value}(hn:kI cs o n=some l)(h0:0<n) :
  ∃ b off e,ι k=.lay b off e/\(∀ v∈l,jJ ι nx v)/\(loadCells ⟨b,off+o,none⟩ n).run P w=.ok (l.map (cF ι)).toArray w:=by
 obtain⟨hlen,hat⟩:=E4 hn;obtain⟨_,v0,hv0⟩:=hat 0 h0;obtain⟨b,off,e,hι,_⟩:=H.cell hk hv0;refine⟨b,off,e,hι,fun v hv=>?_,?_⟩
 ·obtain⟨j,hj⟩:=List.getElem?_of_mem hv;have hjl:j<n:=by
   have:=(List.getElem?_eq_some_iff.1 hj).1;omega
  rw[(hat j hjl).1]at hj;exact H.UA hk (List.mem_of_getElem? hj)
 have hcells:=run_loadCells_list (P:=P) w ⟨b,off+o,none⟩ (l.map (cF ι)) (fun j v hj=>by
  obtain⟨u,hu,rfl⟩:=rW hj;have hjl:j<n:=by
   have:=(List.getElem?_eq_some_iff.1 hu).1;omega
  rw[(hat j hjl).1]at hu;obtain⟨b',off',e',hι',hc⟩:=H.cell hk hu;rw[hι]at hι';injection hι' with e1 e2 e3;subst e1;subst e2;rw[Addr.add_lit,Nat.add_assoc];exact hc)
 rwa [List.length_map,hlen]at hcells
theorem iA {k o:Nat}:tr ι (.pointer (some ⟨k,o,none⟩))=.pointer (match ι k with|.nil p=>p|.lay b off _=>some ⟨b,off+o,none⟩):=rfl
theorem jW (k:IntKind)(n:Int):tr ι (.int k n)=.int k n:=rfl
theorem uV (b:Bool):tr ι (.bool b)=.bool b:=rfl
theorem aDs (b:ByteArray):tr ι (.string b)=.string b:=rfl
theorem FE (cs:Array Value):tr ι (.agg cs)=.agg (cs.map (cF ι)):=rfl
theorem dS (n c:Nat):tr ι (.slice none n c)=.slice none n c:=rfl
def yL (T:dN)(h:Heap)(t:TypeId)(x:Value)(K:Value->Prop):Prop :=
 match x with
 |.pointer (some ⟨k,o,none⟩) =>
  match aw T t,aw h k with
  |some ti,some (.cells _ _ _ cs) =>
   match ti.isAgg with
   |true=>(match kI cs o ti.size with|some l=>K (.agg l.toArray)|none=>False)
   |false=>(match nth cs o with|some v=>K v|none=>False)
  |_,_=>False
 |_=>False
theorem V9 (hT:dJ P T){t:TypeId}{x:Value}{K:Value->Prop}(hl:yL T h t x K){w0:World}(H0:aY ι B h nx w0) :
  ∃ v,K v/\GU P ι B nx h (Instr.loadAt t (tr ι x)) v:=by
 unfold yL at hl;split at hl
 case h_2=>exact hl.elim
 rename_i k o;split at hl
 case h_2=>exact hl.elim
 rename_i ti wr g sz cs ht hk;have hti:=hT t ti ht;split at hl
 ·rename_i hagg;split at hl
  case h_2=>exact hl.elim
  rename_i l hn;obtain⟨_,_,_,_,hsc,_⟩:=H0.cells (P:=P) hk hn hti.pos;refine⟨_,hl,fun v hv=>hsc v (by simpa using hv),fun w H=>?_⟩;obtain⟨b,off,e,hι,_,hrun⟩:=H.cells (P:=P) hk hn hti.pos;simp only[iA,hι,Instr.loadAt,Instr.sureAddr,loadVar,Sem.run_bind,Sem.run_pure,Result.andThen_ok,hti.isAgg,hagg,if_true,hti.sizeOf,hrun,FE];simp
 rename_i hagg;split at hl
 case h_2=>exact hl.elim
 rename_i v hn;rw[BR]at hn;have hs:=H0.UA hk (List.mem_of_getElem? hn);refine⟨v,hl,dH hs,fun w H=>?_⟩;obtain⟨b,off,e,hι,hc⟩:=H.cell hk hn;simp only[CT hs];simp only[iA,hι,Instr.loadAt,Instr.sureAddr,loadVar,Sem.run_bind,Sem.run_pure,Result.andThen_ok,hti.isAgg,hagg,Bool.false_eq_true,if_false];simp[hc]
def kB (T:dN)(st:TypeId)(x:Value)(f:Nat)(K:Value->Prop):Prop :=
 match x,aw T st with
 |.pointer (some ⟨k,o,none⟩),some { kind:=.st fs,.. } =>
  match fs[f]? with
  |some (off,ft)=>(match aw T ft with|some _=>K (.pointer (some ⟨k,o+off,none⟩))|none=>False)
  |none=>False
 |_,_=>False
theorem O0 {f:Array Field}{fs:List (Nat × TypeId)}(hf:f.toList.map (fun f=>(f.offset,f.type))=fs){i off:Nat}{ft:TypeId}(h:fs[i]? = some (off,ft)) :
  ∃ x,f[i]? = some x/\x.offset=off/\x.type=ft:=by
 subst hf;rw[List.getElem?_map]at h;cases hx:f[i]? with
 |none=>simp[hx]at h
 |some x =>
  simp[hx]at h;exact⟨x,rfl,h.1,h.2⟩
theorem NP (hT:dJ P T){t:TypeId}{x:Value}{i:Nat}{K:Value->Prop}(hl:kB T t x i K)(hx:mS ι nx x) :
  ∃ v,K v/\GU P ι B nx h (Instr.fieldAt t (tr ι x) i) v:=by
 unfold kB at hl;split at hl
 case h_2=>exact hl.elim
 rename_i k o fs si by_ zv ht;split at hl
 case h_2=>exact hl.elim
 rename_i off ft hf;split at hl
 case h_2=>exact hl.elim
 rename_i fi hft;have hti:=hT t _ ht;obtain⟨f,hd,hfs,_⟩:=hti.st rfl;obtain⟨y,hy,ho,hyt⟩:=O0 hfs hf;have hft':=hT ft _ hft;have hx':k<nx/\(ι k).jD=true:=hx;refine⟨_,hl,hx',fun w H=>?_⟩;cases hι:ι k with
 |nil p=>rw[hι]at hx';cases hx'.2
 |lay b off' e =>
  have hp:=hft'.pos;simp only[iA,hι,Instr.fieldAt,Sem.run_bind,run_underlying hd,Result.andThen_ok,hy,Instr.sureAddr,Sem.run_pure,fieldPlace,hyt,hft'.sizeOf,Sem.run_ite,ho];rw[if_neg aa];simp[Addr.add_lit,Nat.add_assoc]
def j8 (A:Ar)(T:dN)(t:TypeId)(x ix:Value)(K:Value->Prop):Prop :=
 match aw T t,x,ix with
 |some { kind:=.sl e,.. },.slice (some ⟨k,o,none⟩) n _,.int _ i =>
  (match aw T e with|some ei=>eF (A.andB (A.le 0 i) (A.lt i (A.num n))) (K (.pointer (some ⟨k,A.ix o i ei.size,none⟩)))|none=>False)
 |some { kind:=.ar n e,.. },.pointer (some ⟨k,o,none⟩),.int _ i =>
  (match aw T e with|some ei=>eF (A.andB (A.le 0 i) (A.lt i (A.num n))) (K (.pointer (some ⟨k,A.ix o i ei.size,none⟩)))|none=>False)
 |_,_,_=>False
theorem NW (hT:dJ P T){t:TypeId}{x ix:Value}{K:Value->Prop}(hl:j8 aF T t x ix K)(hx:mS ι nx x) :
  ∃ v,K v/\GU P ι B nx h (Instr.indexAt t (tr ι x) (tr ι ix)) v:=by
 unfold j8 at hl;split at hl
 case h_3=>exact hl.elim
 ·rename_i e s1 b1 z1 k o n c kk i ht;split at hl
  case h_2=>exact hl.elim
  rename_i ei he;obtain⟨hb,hK⟩:=aH.1 hl;simp only[aF,af,ag]at hb;have hti:=hT t _ ht;have hei:=hT e _ he;have hx':k<nx/\((ι k).jD=false->n=0/\c=0):=hx;have hnil:(ι k).jD=true:=by
   cases e:(ι k).jD with
   |true=>rfl
   |false=>have:=(hx'.2 e).1;omega
  refine⟨_,hK,⟨hx'.1,hnil⟩,fun w H=>?_⟩;cases hι:ι k with
  |nil p=>rw[hι]at hnil;cases hnil
  |lay b off' ex =>
   have hs:=hti.sl rfl;simp only[iA,hι,Instr.indexAt,tr,eK,cF,eM,Sem.run_bind,asIntOf,Sem.run_pure,Result.andThen_ok,run_underlying hs,hb.1,hb.2,and_self,if_true,hei.sizeOf,Addr.add_lit,aF,Nat.add_assoc]
 rename_i n e s1 b1 z1 k o kk i ht;split at hl
 case h_2=>exact hl.elim
 rename_i ei he;obtain⟨hb,hK⟩:=aH.1 hl;simp only[aF,af,ag]at hb;have hti:=hT t _ ht;have hei:=hT e _ he;have hx':k<nx/\(ι k).jD=true:=hx;refine⟨_,hK,hx',fun w H=>?_⟩;cases hι:ι k with
 |nil p=>rw[hι]at hx';cases hx'.2
 |lay b off' ex =>
  have hs:=hti.ar rfl;simp only[iA,hι,Instr.indexAt,tr,eK,cF,eM,Sem.run_bind,asIntOf,Instr.sureAddr,Sem.run_pure,Result.andThen_ok,run_underlying hs,hb.1,hb.2,and_self,if_true,hei.sizeOf,Addr.add_lit,aF,Nat.add_assoc]
end
section
variable {P:Program}{T:dN}{ι:Nat->Loc}{B nx:Nat}{h:Heap}
def GC (T:dN)(t:TypeId)(cs:List Value)(o:Nat)(K:Value->Prop):Prop :=
 match aw T t with
 |some ti=>(match ti.isAgg with
  |true=>(match kI cs o ti.size with|some l=>K (.agg l.toArray)|none=>False)
  |false=>(match nth cs o with|some v=>K v|none=>False))
 |none=>False
theorem OT {cs:List Value}:∀{n o:Nat} {l:List Value},kI cs o n=some l->l=(cs.drop o).take n:=by
 intro n o l h;obtain⟨h1,h2⟩:=E4 h;apply List.ext_getElem?;intro j;by_cases hj:j<n
 ·rw[(h2 j hj).1,List.getElem?_take_of_lt hj,List.getElem?_drop]
 rw[List.getElem?_eq_none aa,List.getElem?_eq_none (by rw[List.length_take];omega)]
theorem SX (hT:dJ P T){t:TypeId}{cs:List Value}{o:Nat}{K:Value->Prop}(hl:GC T t cs o K)(hx:∀ v∈cs,jJ ι nx v) :
  ∃ v,K v/\GU P ι B nx h (part t (cs.map (cF ι)).toArray o) v:=by
 unfold GC at hl;split at hl
 case h_2=>exact hl.elim
 rename_i ti ht;have hti:=hT t _ ht;split at hl
 ·rename_i hagg;split at hl
  case h_2=>exact hl.elim
  rename_i l hn;have hl':=OT hn;refine⟨_,hl,fun v hv=>?_,fun w H=>?_⟩
  ·have:v∈l:=(by simpa using hv);rw[hl']at this;exact hx v (List.mem_of_mem_drop (List.mem_of_mem_take this))
  simp only[part,Sem.run_bind,hti.isAgg,Result.andThen_ok,hagg,if_true,hti.sizeOf,Sem.run_pure,FE];congr 2;apply Array.ext';subst hl';simp[List.map_drop,List.map_take]
 rename_i hagg;split at hl
 case h_2=>exact hl.elim
 rename_i v hn;rw[BR]at hn;have hs:=hx v (List.mem_of_getElem? hn);refine⟨v,hl,dH hs,fun w H=>?_⟩;simp only[part,Sem.run_bind,hti.isAgg,Result.andThen_ok,hagg,Bool.false_eq_true,if_false,CT hs];simp[hn]
def xD (T:dN)(st:TypeId)(x:Value)(f:Nat)(K:Value->Prop):Prop :=
 match x,aw T st with
 |.agg cs,some { kind:=.st fs,.. }=>(match fs[f]? with|some (off,ft)=>GC T ft cs.toList off K|none=>False)
 |_,_=>False
theorem aDp (hT:dJ P T){t:TypeId}{x:Value}{i:Nat}{K:Value->Prop}(hl:xD T t x i K)(hx:mS ι nx x) :
  ∃ v,K v/\GU P ι B nx h (Instr.field t (tr ι x) i) v:=by
 unfold xD at hl;split at hl
 case h_2=>exact hl.elim
 rename_i cs fs si by_ zv ht;split at hl
 case h_2=>exact hl.elim
 rename_i off ft hf;have hti:=hT t _ ht;obtain⟨f,hd,hfs,_⟩:=hti.st rfl;obtain⟨y,hy,ho,hyt⟩:=O0 hfs hf;obtain⟨v,hv,hsc,hrun⟩:=SX (B:=B) (h:=h) hT hl hx;refine⟨v,hv,hsc,fun w H=>?_⟩;have:=hrun w H;simp only[FE,Instr.field,Sem.run_bind,run_underlying hd,Result.andThen_ok,hy,asAgg,Sem.run_pure,hyt,ho];rw[<- this];congr 2;apply Array.ext';simp
def x8 (A:Ar)(T:dN)(t:TypeId)(x ix:Value)(K:Value->Prop):Prop :=
 match aw T t,x,ix with
 |some { kind:=.ar n e,.. },.agg cs,.int _ i =>
  (match aw T e with|some ei=>eF (A.andB (A.le 0 i) (A.lt i (A.num n))) (GC T e cs.toList (A.ix 0 i ei.size) K)|none=>False)
 |some { kind:=.str,.. },.string b,.int _ i=>(match(if 0<=i then b[i.toNat]? else none)with|some u=>K (.int .u8 (A.num u.toNat))|none=>False)
 |_,_,_=>False
theorem aDn (hT:dJ P T){t:TypeId}{x ix:Value}{K:Value->Prop}(hl:x8 aF T t x ix K)(hx:mS ι nx x) :
  ∃ v,K v/\GU P ι B nx h (Instr.index t (tr ι x) (tr ι ix)) v:=by
 unfold x8 at hl;split at hl
 case h_3=>exact hl.elim
 case h_2 =>
  rename_i s1 b1 z1 b kk i ht;split at hl
  case h_2=>exact hl.elim
  rename_i u hu;refine⟨_,hl,trivial,fun w H=>?_⟩;simp only[aDs,jW,Instr.index,Sem.run_bind,asIntOf,Sem.run_pure,Result.andThen_ok,run_underlying ((hT t _ ht).str rfl),hu,aF]
 rename_i n e s1 b1 z1 cs kk i ht;split at hl
 case h_2=>exact hl.elim
 rename_i ei he;obtain⟨hb,hK⟩:=aH.1 hl;simp only[aF,af,ag]at hb;have hti:=hT t _ ht;have hei:=hT e _ he;obtain⟨v,hv,hsc,hrun⟩:=SX (B:=B) (h:=h) hT hK hx;refine⟨v,hv,hsc,fun w H=>?_⟩;have:=hrun w H;simp only[FE,jW,Instr.index,Sem.run_bind,asIntOf,Sem.run_pure,Result.andThen_ok,run_underlying (hti.ar rfl),hb.1,hb.2,and_self,if_true,hei.sizeOf];rw[<- this];congr 2
 ·apply Array.ext';simp
 simp[aF]
theorem RU (a b:Int):(a == b)=decide (a=b):=by
 by_cases e:a=b <;> simp[e]
def zR:IntKind->Int
 |.i64=>1073741824
 |.u8=>128
 |_=>0
def aCR (A:Ar)(op:BinOp)(k:IntKind)(a b:Int)(K:Value->Prop):Prop :=
 match op with
 |.add=>eF (A.fits k (A.add a b)) (K (.int k (A.add a b)))
 |.sub=>eF (A.fits k (A.sub a b)) (K (.int k (A.sub a b)))
 |.mul=>eF (A.fits k (A.mul a b)) (K (.int k (A.mul a b)))
 |.quo=>eF (A.andB (A.notB (A.eq b 0)) (A.fits k (A.quo a b))) (K (.int k (A.quo a b)))
 |.rem=>eF (A.notB (A.eq b 0)) (K (.int k (A.rem a b)))
 |.eql=>K (.bool (A.eq a b))
 |.neq=>K (.bool (A.notB (A.eq a b)))
 |.lss=>K (.bool (A.lt a b))
 |.leq=>K (.bool (A.le a b))
 |.gtr=>K (.bool (A.lt b a))
 |.geq=>K (.bool (A.le b a))
 |.xor=>eF (A.andB (A.andB (A.le 0 a) (A.le 0 b)) (A.andB (A.lt a (zR k)) (A.lt b (zR k)))) (K (.int k (A.num (A.bit .xor (A.toN a) (A.toN b)))))
 |.or=>eF (A.andB (A.andB (A.le 0 a) (A.le 0 b)) (A.andB (A.lt a (zR k)) (A.lt b (zR k)))) (K (.int k (A.num (A.bit .or (A.toN a) (A.toN b)))))
 |.and=>eF (A.andB (A.andB (A.le 0 a) (A.le 0 b)) (A.andB (A.lt a (zR k)) (A.lt b (zR k)))) (K (.int k (A.num (A.bit .and (A.toN a) (A.toN b)))))
 |_=>False
theorem KU {n:Nat}{a:Int}(h0:0<=a)(h1:a<(2:Int) ^ n):(BitVec.ofInt n a).toNat=a.toNat:=by
 rw[BitVec.toNat_ofInt];congr 1;refine Int.emod_eq_of_lt h0 ?_;simpa using h1
theorem JV {op:BinOp}(hop:op=.xor\/op=.or\/op=.and){k:IntKind}{a b:Int}(h:((decide (0<=a)&&decide (0<=b))&&(decide (a<zR k)&&decide (b<zR k)))=true)(w:World) :
  (Op.intBits op k a b).run P w=.ok (.int k (aF.num (aF.bit op (aF.toN a) (aF.toN b)))) w:=by
 simp only[af,ag]at h;obtain⟨⟨a0,b0⟩,a1,b1⟩:=h;have hk:∃ m,zR k=(2:Int) ^ m/\m<k.bits/\∀ x:Nat,x<2 ^ m->aN k x=true:=by
  cases k with
  |i64=>exact⟨30,rfl,by decide,fun x hx=>by simp only[aN,af,ag];omega⟩
  |u8=>exact⟨7,rfl,by decide,fun x hx=>by simp only[aN,af,ag];omega⟩
  |_=>exact absurd (show a<0 from a1) aa
 obtain⟨m,hm,hlt,hf⟩:=hk;rw[hm]at a1 b1;have hp:(2:Int) ^ m<=(2:Int) ^ k.bits:=by
  have:=Nat.pow_le_pow_right (show 0<2 by decide) (Nat.le_of_lt hlt)
  exact_mod_cast this
 have ea:=KU (n:=k.bits) a0 aa;have eb:=KU (n:=k.bits) b0 aa;have la:a.toNat<2 ^ m:=by
  have:((a.toNat:Nat):Int)<((2 ^ m:Nat):Int):=by rw[Int.toNat_of_nonneg a0];exact_mod_cast a1
  exact_mod_cast this
 have lb:b.toNat<2 ^ m:=by
  have:((b.toNat:Nat):Int)<((2 ^ m:Nat):Int):=by rw[Int.toNat_of_nonneg b0];exact_mod_cast b1
  exact_mod_cast this
 rcases hop with rfl|rfl|rfl
 ·simp only[Op.intBits,aF,BitVec.toNat_xor,ea,eb,kN (hf _ (Nat.xor_lt_two_pow la lb))];simp
 ·simp only[Op.intBits,aF,BitVec.toNat_or,ea,eb,kN (hf _ (Nat.or_lt_two_pow la lb))];simp
 simp only[Op.intBits,aF,BitVec.toNat_and,ea,eb,kN (hf _ (Nat.and_lt_two_pow _ lb))];simp
theorem aIX {op:BinOp}{t:TypeId}{k:IntKind}{a b:Int}{K:Value->Prop}(hl:aCR aF op k a b K) :
  ∃ v,K v/\gS v=true/\∀ w,(binOp op t (.int k a) (.int k b)).run P w=.ok v w:=by
 cases op <;> simp only[aCR,aF]at hl
 case add=>obtain⟨h1,h2⟩:=aH.1 hl;exact⟨_,h2,rfl,fun w=>by simp[Go.binOp_add,Op.intArith,kN h1]⟩
 case sub=>obtain⟨h1,h2⟩:=aH.1 hl;exact⟨_,h2,rfl,fun w=>by simp[Go.binOp_sub,Op.intArith,kN h1]⟩
 case mul=>obtain⟨h1,h2⟩:=aH.1 hl;exact⟨_,h2,rfl,fun w=>by simp[Go.binOp_mul,Op.intArith,kN h1]⟩
 case quo =>
  obtain⟨h1,h2⟩:=aH.1 hl;simp only[af,Bool.not_eq_true',decide_eq_false_iff_not]at h1;exact⟨_,h2,rfl,fun w=>by simp[Go.binOp_quo,Op.intDiv,kN h1.2,h1.1]⟩
 case rem =>
  obtain⟨h1,h2⟩:=aH.1 hl;simp only[Bool.not_eq_true',decide_eq_false_iff_not]at h1;exact⟨_,h2,rfl,fun w=>by simp[Go.binOp_rem,Op.intDiv,h1]⟩
 case eql=>exact⟨_,hl,rfl,fun w=>by rw[Go.binOp_eql,RU];simp⟩
 case neq=>exact⟨_,hl,rfl,fun w=>by rw[Go.binOp_neq];simp[bne,RU]⟩
 case lss=>exact⟨_,hl,rfl,fun w=>by rw[Go.binOp_lss];simp⟩
 case leq=>exact⟨_,hl,rfl,fun w=>by rw[Go.binOp_leq];simp⟩
 case gtr=>exact⟨_,hl,rfl,fun w=>by rw[Go.binOp_gtr];simp⟩
 case geq=>exact⟨_,hl,rfl,fun w=>by rw[Go.binOp_geq];simp⟩
 case xor=>obtain⟨h1,h2⟩:=aH.1 hl;exact⟨_,h2,rfl,fun w=>by rw[Go.binOp_xor];exact JV (.inl rfl) h1 w⟩
 case or=>obtain⟨h1,h2⟩:=aH.1 hl;exact⟨_,h2,rfl,fun w=>by rw[Go.binOp_or];exact JV (.inr (.inl rfl)) h1 w⟩
 case and=>obtain⟨h1,h2⟩:=aH.1 hl;exact⟨_,h2,rfl,fun w=>by rw[Go.binOp_and];exact JV (.inr (.inr rfl)) h1 w⟩
def veq (A:Ar)(T:dN):Nat->TypeId->Value->Value->Option Bool
 |0,_,_,_=>none
 |d+1,t,x,y =>
  match aw T t with
  |none=>none
  |some ti =>
   match ti.kind,x,y with
   |.int _,.int k a,.int k' b=>(match kEq k k' with|true=>some (A.eq a b)|false=>none)
   |.bool,.bool a,.bool b=>some (A.eqB a b)
   |.st fs,.agg xs,.agg ys =>
    fs.foldr (fun f r =>
     match r with
     |none=>none
     |some r =>
      match aw T f.2 with
      |none=>none
      |some fi =>
       match fi.isAgg with
       |true=>(match kI xs.toList f.1 fi.size,kI ys.toList f.1 fi.size with
        |some l,some m=>(match veq A T d f.2 (.agg l.toArray) (.agg m.toArray)with|some q=>some (A.andB q r)|none=>none)
        |_,_=>none)
       |false=>(match nth xs.toList f.1,nth ys.toList f.1 with
        |some u,some v=>(match veq A T d f.2 u v with|some q=>some (A.andB q r)|none=>none)
        |_,_=>none)) (some true)
   |_,_,_=>none
theorem DX (hT:dJ P T){t:TypeId}{ti:WE}(ht:aw T t=some ti)(hagg:ti.isAgg=true){cs l:List Value}{o:Nat}(hn:kI cs o ti.size=some l)(w:World) :
  (part t cs.toArray o).run P w=.ok (.agg l.toArray) w:=by
 have hti:=hT t _ ht;simp only[part,Sem.run_bind,hti.isAgg,Result.andThen_ok,hagg,if_true,hti.sizeOf,Sem.run_pure];congr 2;apply Array.ext';rw[OT hn];simp
theorem vM (hT:dJ P T){t:TypeId}{ti:WE}(ht:aw T t=some ti)(hagg:ti.isAgg=false){cs:List Value}{v:Value}{o:Nat}(hn:nth cs o=some v)(w:World) :
  (part t cs.toArray o).run P w=.ok v w:=by
 have hti:=hT t _ ht;rw[BR]at hn;simp only[part,Sem.run_bind,hti.isAgg,Result.andThen_ok,hagg,Bool.false_eq_true,if_false];simp[hn]
theorem ZQ (hT:dJ P T):∀(d:Nat) (t:TypeId) (x y:Value) (r:Bool),veq aF T d t x y=some r->∀ d',d<=d'->∀ w,(Op.equalIn d' t x y).run P w=.ok r w:=by
 intro d
 induction d with
 |zero=>intro t x y r h;simp[veq]at h
 |succ d ih =>
  intro t x y r h d' hd w;obtain⟨d',rfl⟩:∃ e,d'=e+1:=⟨d' - 1,aa⟩;simp only[veq]at h;split at h
  ·cases h
  rename_i ti ht;have hti:=hT t _ ht;split at h
  ·rename_i k k1 a k2 b hk;split at h
   ·rename_i hkk;have:=uD hkk;subst this;injection h with h;subst h;rw[run_equalIn_int w d' t k1 k a b (hti.int hk),RU];simp[aF]
   ·cases h
  ·rename_i a b hk;injection h with h;subst h;rw[run_equalIn_bool w d' t a b (hti.bool hk)];simp[aF]
  ·rename_i fs xs ys hk;obtain⟨f,hd',hfs,hn⟩:=hti.st hk;have hfo:P.fieldsOf t=f:=(by simp[Program.fieldsOf,hd']);rw[run_equalIn_struct w d' t xs ys (by rw[hfo];exact hd') hti.held,hfo];subst hfs;clear hd' hfo hk;generalize f.toList=fl at h hn
   induction fl generalizing r with
   |nil=>simp at h;subst h;simp[Op.eqFields]
   |cons x fl ihf =>
    simp only[List.map_cons,List.foldr_cons]at h;split at h
    ·cases h
    rename_i rr hr;have ihf:=ihf rr hr (fun y hy=>hn y (by simp[hy]));split at h
    ·cases h
    rename_i fi hfi;have hname : x.name ≠ "_" := hn x (by simp);simp only [Op.eqFields,hname,ne_eq,not_false_eq_true,if_true,Sem.run_bind];split at h
    ·rename_i hagg;split at h
     case h_2=>cases h
     rename_i l m hl hm;split at h
     case h_2=>cases h
     rename_i q hq;injection h with h;subst h;have e1:=DX hT hfi hagg hl w;have e2:=DX hT hfi hagg hm w;simp only[Array.toArray_toList]at e1 e2;rw[e1,Result.andThen_ok,e2,Result.andThen_ok,ih _ _ _ _ hq d' aa w,Result.andThen_ok];cases q
     ·simp[aF]
     simp[ihf,aF]
    rename_i hagg;split at h
    case h_2=>cases h
    rename_i u v hu hv;split at h
    case h_2=>cases h
    rename_i q hq;injection h with h;subst h;have e1:=vM hT hfi hagg hu w;have e2:=vM hT hfi hagg hv w;simp only[Array.toArray_toList]at e1 e2;rw[e1,Result.andThen_ok,e2,Result.andThen_ok,ih _ _ _ _ hq d' aa w,Result.andThen_ok];cases q
    ·simp[aF]
    simp[ihf,aF]
  ·cases h
end
def on (x:Option Value)(K:Value->Prop):Prop:=match x with|some v=>K v|none=>False
def aKv:BinOp->Bool
 |.shr=>true
 |_=>false
def YN (A:Ar)(T:dN)(op:BinOp)(xt:TypeId)(x y:Value)(K:Value->Prop):Prop :=
 match x,y with
 |.int k a,.int k' b=>(match aKv op with
  |true=>eF (A.andB (A.le 0 a) (A.eq b 1)) (K (.int k (A.quo a 2)))
  |false=>(match kEq k k' with|true=>aCR A op k a b K|false=>False))
 |.bool a,.bool b=>(match op,aw T xt with
  |.eql,some { kind:=.bool,.. }=>K (.bool (A.eqB a b))
  |.neq,some { kind:=.bool,.. }=>K (.bool (A.notB (A.eqB a b)))
  |_,_=>False)
 |.agg xs,.agg ys=>(match aw T xt with
  |some _=>(match dT xs.toList,dT ys.toList with
   |true,true=>(match veq A T 100 xt (.agg xs) (.agg ys)with
    |some r=>(match op with
     |.eql=>K (.bool r)
     |.neq=>K (.bool (A.notB r))
     |_=>False)
    |none=>False)
   |_,_=>False)
  |none=>False)
 |_,_=>False
def aK1 (h:Heap):Value->Option Bool
 |.slice none _ _=>some true
 |.slice (some a) _ _=>(match aw h a.block with|some (.cells _ _ _ (_::_))=>some false|some (.cells _ _ 0 [])=>some false|some (.cells true _ _ [])=>some false|_=>none)
 |_=>none
def XZ (T:dN)(h:Heap)(op:BinOp)(t:TypeId)(x:Value)(K:Value->Prop):Prop :=
 match aw T t,aK1 h x,op with
 |some { kind:=.sl _,.. },some b,.eql=>K (.bool b)
 |some { kind:=.sl _,.. },some b,.neq=>K (.bool (!b))
 |_,_,_=>False
def vun (A:Ar)(op:UnOp)(x:Value)(K:Value->Prop):Prop :=
 match op,x with
 |.neg,.int k a=>eF (A.fits k (A.neg a)) (K (.int k (A.neg a)))
 |.not,.bool b=>K (.bool (A.notB b))
 |_,_=>False
def DQ (env:List (Nat × Value)):List Operand->Option (List Value)
 |[]=>some []
 |x::r=>match dZ env x with
  |some (.pointer (some a))=>(match DQ env r with|some l=>some (.pointer (some a)::l)|none=>none)
  |_=>none
def mY (env:List (Nat × Value)):List (Nat × Operand)->Option (List (Nat × Value))
 |[]=>some []
 |(i,x)::r=>match dZ env x with
  |some v=>(match mY env r with|some l=>some ((i,v)::l)|none=>none)
  |none=>none
def places (T:dN)(i:WE):Nat->Option (Nat × Nat) :=
 match i.kind with
 |.st fs=>fun j=>match fs[j]? with
  |some (off,ft)=>(match aw T ft with|some fi=>some (off,fi.size)|none=>none)
  |none=>none
 |.ar _ e=>fun j=>match aw T e with|some ei=>some (j*ei.size,ei.size)|none=>none
 |_=>fun _=>none
def JK:Value->List Value
 |.agg cs=>cs.toList
 |v=>[v]
theorem yY (v:Value):v.cells.toList=JK v:=by cases v <;> rfl
def aCY (cs:List Value)(o:Nat)(vs:List Value):List Value:=cs.take o++vs++cs.drop (o+vs.length)
def GN (pl:Nat->Option (Nat × Nat)):List (Nat × Value)->List Value->Option (List Value)
 |[],cells=>some cells
 |(i,v)::r,cells=>match pl i with
  |none=>none
  |some os=>match Nat.beq (JK v).length os.2,Nat.ble (os.1+(JK v).length) cells.length with
   |true,true=>GN pl r (aCY cells os.1 (JK v))
   |_,_=>none
theorem aCr (L:List Value)(p:Nat)(v:Value)(r:List Value)(hp:p<L.length):aCY (L.set p v) (p+1) r=aCY L p (v::r):=by
 unfold aCY;apply List.ext_getElem?;intro j;have hl:(L.take p).length=p:=(by rw[List.length_take];omega);have hl2:((L.set p v).take (p+1)).length=p+1:=(by rw[List.length_take,List.length_set];omega);by_cases h1:j<p
 ·rw[List.getElem?_append_left (by rw[List.length_append,hl2];omega),List.getElem?_append_left (by rw[hl2];omega),List.getElem?_append_left (by rw[List.length_append,hl];omega),List.getElem?_append_left (by rw[hl];omega),
   List.getElem?_take_of_lt aa,List.getElem?_take_of_lt h1,List.getElem?_set_ne aa]
 by_cases h2:j=p
 ·subst h2
  rw[List.getElem?_append_left (by rw[List.length_append,hl2];omega),List.getElem?_append_left (by rw[hl2];omega),List.getElem?_append_left (by rw[List.length_append,hl,List.length_cons];omega),List.getElem?_append_right (by rw[hl];omega),
   List.getElem?_take_of_lt aa,List.getElem?_set_self hp,hl,Nat.sub_self,List.getElem?_cons_zero]
 by_cases h3:j<p+1+r.length
 ·rw[List.getElem?_append_left (by rw[List.length_append,hl2];omega),List.getElem?_append_right (by rw[hl2];omega),List.getElem?_append_left (by rw[List.length_append,hl,List.length_cons];omega),List.getElem?_append_right (by rw[hl];omega),hl,hl2,
   (aa:j - p=(j - (p+1))+1),List.getElem?_cons_succ]
 rw[List.getElem?_append_right (by rw[List.length_append,hl2];omega),List.getElem?_append_right (by rw[List.length_append,hl,List.length_cons];omega),List.getElem?_drop,List.getElem?_drop,List.length_append,List.length_append,hl,hl2,List.length_cons,
  List.getElem?_set_ne aa]
 congr 1;omega
theorem OL:∀(vs:List Value) (k off:Nat) (c:Array Value),off+k+vs.length<=c.size ->
  ((vs.zipIdx k).foldl (fun cs p=>cs.setIfInBounds (off+p.2) p.1) c).toList=aCY c.toList (off+k) vs
 |[],k,off,c,_=>by simp[aCY]
 |v::r,k,off,c,h=>by
  simp only[List.length_cons]at h;rw[List.zipIdx_cons,List.foldl_cons,OL r (k+1) off (c.setIfInBounds (off+k) v) (by simp;omega)];have hlt:off+k<c.toList.length:=(by simpa using(by omega:off+k<c.size));rw[Array.toList_setIfInBounds];exact aCr _ _ _ _ hlt
theorem JM (pl:Nat->Option (Nat × Nat)):∀(ps:List (Nat × Value)) (c:Array Value) (l r:List Value),c.toList=l->GN pl ps l=some r->Instr.fill pl c ps=some r.toArray
 |[],c,l,r,hc,h=>by
  simp only[GN]at h;injection h with h;subst h;subst hc;simp[Instr.fill]
 |(i,v)::ps,c,l,r,hc,h=>by
  simp only[GN]at h;simp only[Instr.fill];split at h
  ·cases h
  rename_i os hp;obtain⟨off,size⟩:=os;split at h
  case h_2=>cases h
  rename_i h1 h2;simp only at h1 h2 h;have h1:=az h1;have h2:=Nat.le_of_ble_eq_true h2;subst hc;have e1:v.cells.size=(JK v).length:=(by rw[<- yY,Array.length_toList]);rw[hp];simp only;rw[if_neg (by rw[e1,h1];simp only[Array.length_toList]at h2;simp;omega)];refine JM pl ps _ _ r ?_ h;have:=OL v.cells.toList 0 off c (by rw[yY];simpa using h2);rw[yY,Nat.add_zero]at this;rw[<- this,<- Array.foldl_toList,Array.toList_zipIdx,yY]
def lZ (T:dN):List (Nat × TypeId)->Bool
 |[]=>true
 |(_,t)::r=>match aw T t with|some _=>lZ T r|none=>false
def mP:List (Nat × Value)->Bool
 |[]=>true
 |(_,.tuple _)::_=>false
 |_::r=>mP r
def BH (T:dN)(t:TypeId)(ps:List (Nat × Value))(K:Value->Prop):Prop :=
 match aw T t with
 |some ti =>
  match(match ti.kind with|.st fs=>lZ T fs|.ar _ e=>(aw T e).isSome|_=>false),mP ps with
  |true,true=>(match GN (places T ti) ps ti.zv.cells.toList with
   |some cells=>K (.agg cells.toArray)
   |none=>False)
  |_,_=>False
 |none=>False
def vmm (f:Int->Int->Int):Value->List Value->Option Value
 |.int k a,[]=>some (.int k a)
 |.int k a,.int k' b::r=>(match kEq k k' with|true=>vmm f (.int k (f a b)) r|false=>none)
 |_,_=>none
def nJ (env:List (Nat × Value)):List Operand->Option (List Value)
 |[]=>some []
 |x::r=>match dZ env x with
  |some v=>(match nJ env r with|some l=>some (v::l)|none=>none)
  |none=>none
def qO (A:Ar)(T:dN)(b:Builtin)(ts:Array TypeId)(vs:List Value)(K:Value->Prop):Prop :=
 match b,ts.toList,vs with
 |.len,[t],[.slice _ n _]=>(match aw T t with|some { kind:=.sl _,.. }=>K (.int .i64 (A.num n))|_=>False)
 |.cap,[t],[.slice none _ c]=>(match aw T t with|some { kind:=.sl _,.. }=>K (.int .i64 (A.num c))|_=>False)
 |.max,_,v::r=>on (vmm A.max v r) K
 |.min,_,v::r=>on (vmm A.min v r) K
 |_,_,_=>False
def kU (A:Ar)(T:dN)(env:List (Nat × Value))(h:Heap)(op:Op)(K:Value->Prop):Prop :=
 match op with
 |.move x|.assign x=>on (dZ env x) K
 |.pick c a b=>on (dZ env c) fun u=>(match u with
  |.bool t=>br t (fun _=>on (dZ env a) K) (fun _=>on (dZ env b) K)
  |_=>False)
 |.nilCheck x=>on (dZ env x) fun u=>(match u with
  |.pointer (some a)=>K (.pointer (some a))
  |.func (.func f) fi c=>K (.func (.func f) fi c)
  |.func (.yield f) fi c=>K (.func (.yield f) fi c)
  |_=>False)
 |.load t x=>on (dZ env x) fun u=>yL T h t u K
 |.fieldAddr s x f=>on (dZ env x) fun u=>kB T s u f K
 |.field s x f=>on (dZ env x) fun u=>xD T s u f K
 |.indexAddr t x i=>on (dZ env x) fun u=>on (dZ env i) fun j=>j8 A T t u j K
 |.index t x i=>on (dZ env x) fun u=>on (dZ env i) fun j=>x8 A T t u j K
 |.binOp op t x y _=>on (dZ env x) fun u=>on (dZ env y) fun v=>(match v with
  |.slice none _ _=>XZ T h op t u K
  |_=>YN A T op t u v K)
 |.unOp op _ x=>on (dZ env x) fun u=>vun A op u K
 |.convert s d x=>on (dZ env x) fun u=>(match u,aw T s,aw T d with
  |.int _ n,some _,some { kind:=.int k,.. }=>eF (A.fits k n) (K (.int k n))
  |_,_,_=>False)
 |.makeFunc fn first cap=>(match fn,first.toList with
  |.func f,[]=>(match DQ env cap.toList with|some l=>K (.func (.func f) #[] l.toArray)|none=>False)
  |_,_=>False)
 |.extract x i=>on (dZ env x) fun u=>(match u with
  |.tuple vs=>on (vs.toList[i]?) K
  |_=>False)
 |.build t ps=>(match mY env ps.toList with|some l=>BH T t l K|none=>False)
 |.call c=>(match c.callee with
  |.builtin b=>(match nJ env c.args.toList with|some vs=>qO A T b c.argTypes vs K|none=>False)
  |_=>False)
 |_=>False
section
variable {P:Program}{T:dN}{ι:Nat->Loc}{B nx:Nat}{h:Heap}
theorem dR {x:Option Value}{K:Value->Prop}(hl:on x K):∃ v,x=some v/\K v:=by
 cases x with
 |none=>exact hl.elim
 |some v=>exact⟨v,rfl,hl⟩
theorem aAN {x:Value}{b:Bool}(hb:aK1 h x=some b){t e:TypeId}(ht:P.underlying t=some (.slice e))(n c:Nat):∃ a m k,tr ι x=.slice a m k/\∀ w,aY ι B h nx w->(Op.equal t (.slice a m k) (.slice none n c)).run P w=.ok b w:=by
 unfold aK1 at hb;split at hb
 ·injection hb with hb;subst hb;rename_i m k;refine⟨none,m,k,dS m k,fun w _=>?_⟩;rw[Op.equal,show Op.maxDepth=9999+1 from rfl,Op.equalIn];simp[run_underlying ht]
 ·rename_i a m k;split at hb
  case h_4=>cases hb
  case h_3 =>
   rename_i g sz hno hk;injection hb with hb;subst hb;cases hι:ι a.block with
   |nil l =>
    refine⟨l,m,k,by simp[tr,eK,cF,eM,hι],fun w H0=>?_⟩;have ho:=H0.obj a.block _ hk;rw[hι]at ho;have ho2:l.isSome=true:=(show([]:List Value)=[]/\(sz=0\/true=true->l.isSome=true)from ho).2 (.inr rfl);obtain⟨q,rfl⟩:=Option.isSome_iff_exists.1 ho2;rw[Op.equal,show Op.maxDepth=9999+1 from rfl,Op.equalIn];simp[run_underlying ht]
   |lay bb off ex =>
    refine⟨some ⟨bb,off+a.off,none⟩,m,k+ex,by simp[tr,eK,cF,eM,hι],fun w _=>?_⟩;rw[Op.equal,show Op.maxDepth=9999+1 from rfl,Op.equalIn];simp[run_underlying ht]
  case h_1 =>
   rename_i wr g sz v r hk;injection hb with hb;subst hb;cases hι:ι a.block with
   |nil l =>
    refine⟨l,m,k,by simp[tr,eK,cF,eM,hι],fun w H0=>?_⟩;have ho:=H0.obj a.block _ hk;rw[hι]at ho;have ho1:=(show(v::r:List Value)=[]/\_ from ho).1;cases ho1
   |lay bb off ex =>
    refine⟨some ⟨bb,off+a.off,none⟩,m,k+ex,by simp[tr,eK,cF,eM,hι],fun w _=>?_⟩;rw[Op.equal,show Op.maxDepth=9999+1 from rfl,Op.equalIn];simp[run_underlying ht]
  case h_2 =>
   rename_i wr g hk;injection hb with hb;subst hb;cases hι:ι a.block with
   |nil l =>
    refine⟨l,m,k,by simp[tr,eK,cF,eM,hι],fun w H0=>?_⟩;have ho:=H0.obj a.block _ hk;rw[hι]at ho;have ho2:l.isSome=true:=(show([]:List Value)=[]/\(0=0\/wr=true->l.isSome=true)from ho).2 (.inl rfl);obtain⟨q,rfl⟩:=Option.isSome_iff_exists.1 ho2;rw[Op.equal,show Op.maxDepth=9999+1 from rfl,Op.equalIn];simp[run_underlying ht]
   |lay bb off ex =>
    refine⟨some ⟨bb,off+a.off,none⟩,m,k+ex,by simp[tr,eK,cF,eM,hι],fun w _=>?_⟩;rw[Op.equal,show Op.maxDepth=9999+1 from rfl,Op.equalIn];simp[run_underlying ht]
 ·cases hb
theorem aK6 (hT:dJ P T){op:BinOp}{t:TypeId}{x:Value}{n c:Nat}{p q:Operand}{K:Value->Prop}(hl:XZ T h op t x K) :
  ∃ v,K v/\gS v=true/\∀ w,aY ι B h nx w->(do eqGuard op t p q (tr ι x) (.slice none n c);binOp op t (tr ι x) (.slice none n c):Sem Value).run P w=.ok v w:=by
 unfold XZ at hl;split at hl
 ·rename_i e s1 b1 z1 b ht hb;obtain⟨a,m,k,h1,h2⟩:=aAN (ι:=ι) (B:=B) (nx:=nx) hb ((hT t _ ht).sl rfl) n c;refine⟨_,hl,rfl,fun w H=>?_⟩;rw[h1];have:=h2 w H;simp[eqGuard,binOp,this]
 ·rename_i e s1 b1 z1 b ht hb;obtain⟨a,m,k,h1,h2⟩:=aAN (ι:=ι) (B:=B) (nx:=nx) hb ((hT t _ ht).sl rfl) n c;refine⟨_,hl,rfl,fun w H=>?_⟩;rw[h1];have:=h2 w H;simp[eqGuard,binOp,this]
 exact hl.elim
theorem aJn (hT:dJ P T){op:BinOp}{t:TypeId}{x y:Value}{p q:Operand}{K:Value->Prop}(hl:YN aF T op t x y K) :
  ∃ v,K v/\gS v=true/\∀ w,(do eqGuard op t p q (tr ι x) (tr ι y);binOp op t (tr ι x) (tr ι y):Sem Value).run P w=.ok v w:=by
 unfold YN at hl;split at hl
 ·rename_i k a k' b;split at hl
  ·rename_i hs;have hop:op=.shr:=by cases op <;> first|rfl|cases hs
   subst hop;obtain⟨h1,h2⟩:=aH.1 hl;simp only[aF,af,ag]at h1 h2;obtain⟨h0,rfl⟩:=h1;refine⟨_,h2,rfl,fun w=>?_⟩;have hb:min (1:Int).toNat k.bits=1:=(by cases k <;> rfl);simp only[jW,eqGuard_at_int,Sem.run_bind,Sem.run_pure,Result.andThen_ok,Go.binOp_shr,Op.shift,hb];rw[if_neg (by decide)];simp only[Sem.run_pure];congr 2;rw[Int.fdiv_eq_tdiv_of_nonneg h0 (by decide)];rfl
  split at hl
  ·rename_i hk;have:=uD hk;subst this;obtain⟨v,h1,h2,h3⟩:=aIX (P:=P) (t:=t) hl;exact⟨v,h1,h2,fun w=>by simp only[jW,eqGuard_at_int,Sem.run_bind,Sem.run_pure,Result.andThen_ok];exact h3 w⟩
  exact hl.elim
 ·rename_i a b;split at hl
  ·rename_i s1 b1 z1 ht;have hd:=(hT t _ ht).bool rfl;exact⟨_,hl,rfl,fun w=>by simp only[uV,eqGuard_at_bool,Sem.run_bind,Sem.run_pure,Result.andThen_ok,run_eql_bool w t a b hd];rfl⟩
  ·rename_i s1 b1 z1 ht;have hd:=(hT t _ ht).bool rfl;exact⟨_,hl,rfl,fun w=>by simp only[uV,eqGuard_at_bool,Sem.run_bind,Sem.run_pure,Result.andThen_ok,run_neq_bool w t a b hd];rfl⟩
  exact hl.elim
 ·rename_i xs ys;split at hl
  case h_2=>exact hl.elim
  rename_i ti ht;have hti:=hT t _ ht;split at hl
  case h_2=>exact hl.elim
  rename_i hgx hgy;split at hl
  case h_2=>exact hl.elim
  rename_i r hr;have hex:∀ w,(Op.equal t (.agg xs) (.agg ys)).run P w=.ok r w:=fun w=>ZQ hT 100 t _ _ r hr 10000 aa w;have ex:tr ι (.agg xs)=.agg xs:=iU (by simpa[gT,gA]using hgx);have ey:tr ι (.agg ys)=.agg ys:=iU (by simpa[gT,gA]using hgy);have hg:∀ w,(eqGuard op t p q (.agg xs) (.agg ys)).run P w=.ok () w:=fun w=>by
   unfold eqGuard;cases op <;> simp[hti.guard]
  split at hl
  ·exact⟨_,hl,rfl,fun w=>by rw[ex,ey];simp only[Sem.run_bind,hg,Result.andThen_ok];simp[binOp,hex]⟩
  ·exact⟨_,hl,rfl,fun w=>by rw[ex,ey];simp only[Sem.run_bind,hg,Result.andThen_ok];simp[binOp,hex,aF]⟩
  exact hl.elim
 exact hl.elim
theorem aM8 {op:UnOp}{x:Value}{K:Value->Prop}(hl:vun aF op x K) :
  ∃ v,K v/\gS v=true/\∀ w,(Op.unary op (tr ι x)).run P w=.ok v w:=by
 unfold vun at hl;split at hl
 ·rename_i k a;obtain⟨h1,h2⟩:=aH.1 hl;exact⟨_,h2,rfl,fun w=>by
   have h3:k.wrap (0 - a)=0 - a:=kN h1;simp only[jW,Op.unary,Op.intArith,Sem.run_pure,h3];rfl⟩
 ·rename_i b;exact⟨_,hl,rfl,fun w=>by simp only[uV,Op.unary,Sem.run_pure];rfl⟩
 exact hl.elim
theorem JH {env:List (Nat × Value)}{a:Act}(he:dV ι nx env a):∀{l:List Operand} {vs:List Value},DQ env l=some vs ->
  l.map a.eval=vs.map (eM ι)/\∀ v∈vs,rG ι nx v
 |[],vs,h=>by simp[DQ]at h;subst h;simp
 |x::r,vs,h=>by
  simp only[DQ]at h;split at h
  case h_2=>cases h
  rename_i p hp;split at h
  case h_2=>cases h
  rename_i l hl;injection h with h;subst h;obtain⟨h1,h2⟩:=he.dZ hp;obtain⟨h3,h4⟩:=JH he hl;refine⟨by simp only[List.map_cons,h1,h3];rfl,fun v hv=>?_⟩;cases hv with
  |head=>exact h2
  |tail _ hv=>exact h4 v hv
theorem uZ {env:List (Nat × Value)}{a:Act}(he:dV ι nx env a):∀{l:List (Nat × Operand)} {vs:List (Nat × Value)},mY env l=some vs ->
  l.map (fun p=>(p.1,a.eval p.2))=vs.map (fun p=>(p.1,tr ι p.2))/\∀ v∈vs,fU ι nx v.2
 |[],vs,h=>by simp[mY]at h;subst h;simp
 |(i,x)::r,vs,h=>by
  simp only[mY]at h;split at h
  case h_2=>cases h
  rename_i p hp;split at h
  case h_2=>cases h
  rename_i l hl;injection h with h;subst h;obtain⟨h1,h2⟩:=he.dZ hp;obtain⟨h3,h4⟩:=uZ he hl;refine⟨by simp only[List.map_cons,h1,h3],fun v hv=>?_⟩;cases hv with
  |head=>exact h2
  |tail _ hv=>exact h4 v hv
theorem nY {env:List (Nat × Value)}{a:Act}(he:dV ι nx env a):∀{l:List Operand} {vs:List Value},nJ env l=some vs ->
  l.map a.eval=vs.map (tr ι)/\∀ v∈vs,fU ι nx v
 |[],vs,h=>by simp[nJ]at h;subst h;simp
 |x::r,vs,h=>by
  simp only[nJ]at h;split at h
  case h_2=>cases h
  rename_i p hp;split at h
  case h_2=>cases h
  rename_i l hl;injection h with h;subst h;obtain⟨h1,h2⟩:=he.dZ hp;obtain⟨h3,h4⟩:=nY he hl;refine⟨by simp only[List.map_cons,h1,h3],fun v hv=>?_⟩;cases hv with
  |head=>exact h2
  |tail _ hv=>exact h4 v hv
theorem QS (f:Value->Value)(l:List (Value × Nat))(off:Nat):∀(c:Array Value),((l.map fun x=>(f x.1,x.2)).foldl (fun cs (x:Value × Nat)=>cs.setIfInBounds (off+x.2) x.1) (c.map f)) =
  (l.foldl (fun cs (x:Value × Nat)=>cs.setIfInBounds (off+x.2) x.1) c).map f:=by
 induction l with
 |nil=>intro c;rfl
 |cons x l ih =>
  intro c;simp only[List.map_cons,List.foldl_cons];rw[<- ih];congr 1;apply Array.ext';simp[List.map_set]
theorem JI (pl:Nat->Option (Nat × Nat)):∀(ps:List (Nat × Value)) (c r:Array Value),(∀ p∈ps,mS ι nx p.2)->Instr.fill pl c ps=some r ->
  Instr.fill pl (c.map (cF ι)) (ps.map fun p=>(p.1,tr ι p.2))=some (r.map (cF ι))
 |[],c,r,_,h=>by simp[Instr.fill]at h;subst h;rfl
 |(i,v)::ps,c,r,hs,h=>by
  simp only[Instr.fill]at h;simp only[List.map_cons,Instr.fill];cases hp:pl i with
  |none=>rw[hp]at h;cases h
  |some os =>
   obtain⟨off,size⟩:=os;rw[hp]at h;simp only at h ⊢;have hv:=DV (hs (i,v) (by simp));simp only at hv;rw[hv];split at h
   ·cases h
   rename_i hc;rw[if_neg (by simpa using hc)];have ih:=JI pl ps _ r (fun p hp=>hs p (by simp[hp])) h;rw[<- ih];congr 1;rw[<- Array.foldl_toList,<- Array.foldl_toList];have:=QS (cF ι) v.cells.zipIdx.toList off c;rw[<- this];congr 1;apply List.ext_getElem?;intro j;simp[List.getElem?_zipIdx];rfl
theorem sV:∀{ps:List (Nat × Value)},mP ps=true->(∀ p∈ps,fU ι nx p.2)->∀ p∈ps,mS ι nx p.2
 |[],_,_,p,hp=>by cases hp
 |(i,v)::r,h,hs,p,hp=>by
  cases hp with
  |head =>
   have:=hs (i,v) (by simp);cases v with
   |tuple c=>simp[mP]at h
   |_=>exact this
  |tail _ hp =>
   refine sV (ps:=r) ?_ (fun q hq=>hs q (by simp[hq])) p hp;cases v <;> first|exact h|(simp[mP]at h)
theorem MM (pl:Nat->Option (Nat × Nat))(Pr:Value->Prop):∀(ps:List (Nat × Value)) (c r:Array Value),(∀ v∈c.toList,Pr v)->(∀ p∈ps,∀ v∈p.2.cells.toList,Pr v)->Instr.fill pl c ps=some r->∀ v∈r.toList,Pr v
 |[],c,r,hc,_,h=>by simp[Instr.fill]at h;subst h;exact hc
 |(i,u)::ps,c,r,hc,hp,h=>by
  simp only[Instr.fill]at h;cases hpl:pl i with
  |none=>rw[hpl]at h;cases h
  |some os =>
   obtain⟨off,size⟩:=os;rw[hpl]at h;simp only at h;split at h
   ·cases h
   rename_i hsz;refine MM pl Pr ps _ r ?_ (fun p hq=>hp p (by simp[hq])) h;have hu:=hp (i,u) (by simp);rw[<- Array.foldl_toList];have hz:∀ x∈u.cells.zipIdx.toList,Pr x.1:=by
    intro x hx;have hx':x∈u.cells.toList.zipIdx:=(by simpa[Array.toList_zipIdx]using hx);have:=List.fst_mem_of_mem_zipIdx hx';exact hu _ this
   generalize u.cells.zipIdx.toList=l at hz;clear h hsz
   induction l generalizing c with
   |nil=>simpa using hc
   |cons x l ih =>
    simp only[List.foldl_cons];refine ih _ ?_ (fun y hy=>hz y (by simp[hy]));intro v hv;rw[Array.toList_setIfInBounds]at hv;rcases List.mem_or_eq_of_mem_set hv with h1|h1
    ·exact hc v h1
    rw[h1];exact hz x (by simp)
theorem ZB (hT:dJ P T){t:TypeId}{ti:WE}(ht:aw T t=some ti){fs:List (Nat × TypeId)}(hk:ti.kind=.st fs)(hf:lZ T fs=true) :
  ∃ f:Array Field,P.underlying t=some (.struct f)/\∀ w,∃ pl:Array (Nat × Nat),(f.mapM fun f=>do pure (f.offset,<- sizeOf f.type):Sem (Array (Nat × Nat))).run P w=.ok pl w/\∀ j,pl[j]? = places T ti j:=by
 have hti:=hT t _ ht;obtain⟨f,hd,hfs,_⟩:=hti.st hk;refine⟨f,hd,fun w=>?_⟩;subst hfs
 have key:∀(l:List Field),lZ T (l.map fun f=>(f.offset,f.type))=true->∃ pl:List (Nat × Nat),(l.mapM fun f=>do pure (f.offset,<- sizeOf f.type):Sem (List (Nat × Nat))).run P w=.ok pl w /\
   ∀ j:Nat,pl[j]? = (match(l.map fun f=>(f.offset,f.type))[j]? with|some (off,ft)=>(match aw T ft with|some fi=>some (off,fi.size)|none=>none)|none=>none):=by
  intro l
  induction l with
  |nil=>intro _;exact⟨[],by simp,fun j=>by simp⟩
  |cons x l ih =>
   intro h;simp only[List.map_cons,lZ]at h;split at h
   case h_2=>cases h
   rename_i fi hfi;obtain⟨pl,h1,h2⟩:=ih h;have hx:=hT _ _ hfi;refine⟨(x.offset,fi.size)::pl,?_,fun j=>?_⟩
   ·simp only[List.mapM_cons,Sem.run_bind,hx.sizeOf,Result.andThen_ok,Sem.run_pure,h1]
   ·cases j with
    |zero=>simp[hfi]
    |succ j=>simpa using h2 j
 obtain⟨pl,h1,h2⟩:=key f.toList hf;refine⟨pl.toArray,?_,fun j=>?_⟩
 ·rw[Array.mapM_eq_mapM_toList];simp only[Sem.run_map,h1,Result.andThen_ok]
 simp only[List.getElem?_toArray,h2 j,places,hk]
theorem aDh (hT:dJ P T){t:TypeId}{ps:List (Nat × Value)}{K:Value->Prop}(hl:BH T t ps K)(hs:∀ p∈ps,fU ι nx p.2) :
  ∃ v,K v/\GU P ι B nx h (Instr.build t (ps.map fun p=>(p.1,tr ι p.2)).toArray) v:=by
 unfold BH at hl;split at hl
 case h_2=>exact hl.elim
 rename_i ti ht;split at hl
 case h_2=>exact hl.elim
 rename_i hkn hap;split at hl
 case h_2=>exact hl.elim
 rename_i lcells hf0;obtain⟨cells,hce⟩:∃ cells:Array Value,cells=lcells.toArray:=⟨_,rfl⟩;have hf:Instr.fill (places T ti) ti.zv.cells ps=some cells:=(by rw[hce];exact JM _ _ _ _ _ rfl hf0);rw[<- hce]at hl;have hti:=hT t _ ht;have hs':=sV hap hs;have hz:ti.zv.cells.map (cF ι)=ti.zv.cells:=by
  have h1:=DV (ι:=ι) (n:=nx) (TR hti.zg);rw[iU (ι:=ι) (by
   have:=hti.zg;cases hzv:ti.zv with
   |tuple c=>rw[hzv]at this;simp[gA,gS]at this
   |_=>rw[hzv]at this;exact this)]at h1
  exact h1.symm
 have hfm:=JI (ι:=ι) (nx:=nx) (places T ti) ps ti.zv.cells cells hs' hf;rw[hz]at hfm;refine⟨_,hl,?_,fun w H=>?_⟩
 ·intro v hv;refine MM (places T ti) (jJ ι nx) ps ti.zv.cells cells ?_ ?_ hf v hv
  ·intro u hu;have:=TR (ι:=ι) (n:=nx) hti.zg;cases hzv:ti.zv with
   |agg c=>rw[hzv]at this hu;exact this u hu
   |_ =>
    rw[hzv]at this hu;simp only[Value.cells,List.mem_singleton]at hu;subst hu;exact this
  intro p hp u hu;have:=hs' p hp;cases hpv:p.2 with
  |agg c=>rw[hpv]at this hu;exact this u hu
  |_ =>
   rw[hpv]at this hu;simp only[Value.cells,List.mem_singleton]at hu;subst hu;exact this
 split at hkn
 ·rename_i fs hk;obtain⟨f,hd,hpl⟩:=ZB hT ht hk hkn;obtain⟨pl,h1,h2⟩:=hpl w;have he:(fun j:Nat=>pl[j]?)=places T ti:=funext h2;simp only[Instr.build,Sem.run_bind,hti.zero,Result.andThen_ok,run_underlying hd,h1,he,hfm,Sem.run_pure,FE]
 ·rename_i n e hk;cases he:aw T e with
  |none=>rw[he]at hkn;cases hkn
  |some ei =>
   have hei:=hT e _ he;have hpl:places T ti=fun i=>some (i*ei.size,ei.size):=by
    funext j;simp[places,hk,he]
   rw[hpl]at hfm;simp only[Instr.build,Sem.run_bind,hti.zero,Result.andThen_ok,run_underlying (hti.ar hk),hei.sizeOf,hfm,Sem.run_pure,FE]
 ·cases hkn
end
section
variable {P:Program}{T:dN}{ι:Nat->Loc}{B nx:Nat}{h:Heap}
theorem aA2 {v:Value}{r:List Value}{u:Value}(hu:vmm aF.max v r=some u)(w:World):gS u=true/\(r.foldlM Builtin.max2 v).run P w=.ok u w:=by
 induction r generalizing v with
 |nil =>
  cases v <;> simp[vmm]at hu
  subst hu;exact⟨rfl,by simp⟩
 |cons x r ih =>
  cases v <;> cases x <;> simp only[vmm]at hu <;> try(cases hu;done)
  rename_i k a k' b;split at hu
  ·rename_i hk;have hk':=uD hk;subst hk';obtain⟨h1,h2⟩:=ih hu;refine⟨h1,?_⟩;rw[<- h2];simp[List.foldlM_cons,Builtin.max2,aF]
  ·cases hu
theorem aAM {v:Value}{r:List Value}{u:Value}(hu:vmm aF.min v r=some u)(w:World):gS u=true/\(r.foldlM Builtin.min2 v).run P w=.ok u w:=by
 induction r generalizing v with
 |nil =>
  cases v <;> simp[vmm]at hu
  subst hu;exact⟨rfl,by simp⟩
 |cons x r ih =>
  cases v <;> cases x <;> simp only[vmm]at hu <;> try(cases hu;done)
  rename_i k a k' b;split at hu
  ·rename_i hk;have hk':=uD hk;subst hk';obtain⟨h1,h2⟩:=ih hu;refine⟨h1,?_⟩;rw[<- h2];simp[List.foldlM_cons,Builtin.min2,aF]
  ·cases hu
theorem TO {f:Int->Int->Int}{v:Value}{r:List Value}{u:Value}(hu:vmm f v r=some u):r.map (tr ι)=r/\tr ι v=v:=by
 induction r generalizing v with
 |nil =>
  cases v <;> simp[vmm]at hu
  exact⟨rfl,rfl⟩
 |cons x r ih =>
  cases v <;> cases x <;> simp only[vmm]at hu <;> try(cases hu;done)
  split at hu
  ·obtain⟨h1,_⟩:=ih hu;exact⟨by simp[h1,jW],rfl⟩
  ·cases hu
theorem TM (hT:dJ P T){b:Builtin}{ts:Array TypeId}{vs:List Value}{K:Value->Prop}(hl:qO aF T b ts vs K)(hs:∀ v∈vs,fU ι nx v) :
  ∃ v,K v/\fU ι nx v/\∀(ty:TypeId) (cs:Array Bool) w,aY ι B h nx w->(builtin b ts ty cs (vs.map (tr ι)).toArray).run P w=.ok (.value (tr ι v)) w:=by
 unfold qO at hl;split at hl
 ·rename_i t a n c hts;split at hl
  case h_2=>exact hl.elim
  rename_i e s1 b1 z1 ht;have hd:=(hT t _ ht).sl rfl;obtain⟨ts⟩:=ts;simp only at hts;subst hts;have hsl:∃ a' c',tr ι (.slice a n c)=.slice a' n c':=by
   cases a with
   |none=>exact⟨_,_,rfl⟩
   |some a =>
    simp only[tr,eK,cF,eM];split
    ·exact⟨_,_,rfl⟩
    exact⟨_,_,rfl⟩
  obtain⟨a',c',hsl⟩:=hsl;exact⟨_,hl,by simp[fU,mS,jJ,rG],fun ty cs w H=>by simp[builtin,hsl,Builtin.len_,run_underlying hd,goInt,jW,aF]⟩
 ·rename_i t n c hts;split at hl
  case h_2=>exact hl.elim
  rename_i e s1 b1 z1 ht;have hd:=(hT t _ ht).sl rfl;obtain⟨ts⟩:=ts;simp only at hts;subst hts;exact⟨_,hl,by simp[fU,mS,jJ,rG],fun ty cs w H=>by simp[builtin,dS,Builtin.cap_,run_underlying hd,goInt,jW,aF]⟩
 ·rename_i x v r;obtain⟨u,hu,hK⟩:=dR hl;obtain⟨e1,e2⟩:=TO (ι:=ι) hu;refine⟨u,hK,c9 (by
   have:=(aA2 (P:=P) hu default).1;cases u <;> first|exact this|(simp[gS]at this)),fun ty cs w H=>?_⟩
  obtain⟨h1,h2⟩:=aA2 (P:=P) hu w;have:tr ι u=u:=iU (by cases u <;> first|exact h1|(simp[gS]at h1));simp only[builtin,List.map_cons,e1,e2,Builtin.max_,Sem.run_bind,h2,Result.andThen_ok,Sem.run_pure,this]
 ·rename_i x v r;obtain⟨u,hu,hK⟩:=dR hl;obtain⟨e1,e2⟩:=TO (ι:=ι) hu;refine⟨u,hK,c9 (by
   have:=(aAM (P:=P) hu default).1;cases u <;> first|exact this|(simp[gS]at this)),fun ty cs w H=>?_⟩
  obtain⟨h1,h2⟩:=aAM (P:=P) hu w;have:tr ι u=u:=iU (by cases u <;> first|exact h1|(simp[gS]at h1));simp only[builtin,List.map_cons,e1,e2,Builtin.min_,Sem.run_bind,h2,Result.andThen_ok,Sem.run_pure,this]
 exact hl.elim
theorem mC {m:Sem Value}{v:Value}(hm:GU P ι B nx h m v):fU ι nx v/\∀ w,aY ι B h nx w->(do pure (.value (<- m)):Sem Next).run P w=.ok (.value (tr ι v)) w :=
 ⟨lF hm.1,fun w H=>by simp only[Sem.run_bind,hm.2 w H,Result.andThen_ok,Sem.run_pure]⟩
theorem yZ {v:Value}(h:gS v=true):gT v=true:=by
 cases v <;> first|exact h|(simp[gS]at h)
theorem KM (hT:dJ P T){env:List (Nat × Value)}{a:Act}(he:dV ι nx env a){o:Oper}{K:Value->Prop}(hl:kU aF T env h o.op K){w0:World}(H0:aY ι B h nx w0) :
  ∃ v,K v/\fU ι nx v/\∀ w,aY ι B h nx w->(execOp a.eval o).run P w=.ok (.value (tr ι v)) w:=by
 obtain⟨dst,op,ty,pos,after,guard⟩:=o;simp only at hl;cases op <;> simp only[kU]at hl <;> try(exact hl.elim)
 case move x =>
  obtain⟨u,hu,hK⟩:=dR hl;obtain⟨e1,e2⟩:=he.dZ hu;exact⟨u,hK,e2,fun w H=>by simp[execOp,e1]⟩
 case assign x =>
  obtain⟨u,hu,hK⟩:=dR hl;obtain⟨e1,e2⟩:=he.dZ hu;exact⟨u,hK,e2,fun w H=>by simp[execOp,e1]⟩
 case pick c x y =>
  obtain⟨u,hu,hK⟩:=dR hl;obtain⟨e1,e2⟩:=he.dZ hu;split at hK
  case h_2=>exact hK.elim
  rename_i t;rcases rA hK with⟨rfl,hb⟩|⟨rfl,hb⟩
  ·obtain⟨v,hv,hK⟩:=dR hb;obtain⟨e3,e4⟩:=he.dZ hv;exact⟨v,hK,e4,fun w H=>by simp[execOp,e1,e3,uV,asBool]⟩
  obtain⟨v,hv,hK⟩:=dR hb;obtain⟨e3,e4⟩:=he.dZ hv;exact⟨v,hK,e4,fun w H=>by simp[execOp,e1,e3,uV,asBool]⟩
 case build t ps =>
  split at hl
  case h_2=>exact hl.elim
  rename_i l hps;obtain⟨e1,e2⟩:=uZ he hps;obtain⟨v,hv,hm⟩:=aDh (ι:=ι) (B:=B) (h:=h) hT hl e2;have e3:(ps.map fun p=>(p.1,a.eval p.2))=(l.map fun p=>(p.1,tr ι p.2)).toArray:=by
   apply Array.ext';simpa using e1
  rw[<- e3]at hm;exact⟨v,hv,mC hm⟩
 case load t x =>
  obtain⟨u,hu,hK⟩:=dR hl;obtain⟨e1,e2⟩:=he.dZ hu;obtain⟨v,hv,hm⟩:=V9 (P:=P) hT hK H0;rw[<- e1]at hm;exact⟨v,hv,mC hm⟩
 case nilCheck x =>
  obtain⟨u,hu,hK⟩:=dR hl;obtain⟨e1,e2⟩:=he.dZ hu;split at hK
  ·rename_i ad;refine⟨_,hK,e2,fun w H=>?_⟩;have:ad.block<nx/\(ι ad.block).jD=true:=e2;cases hι:ι ad.block with
   |nil p=>rw[hι]at this;cases this.2
   |lay b o e=>simp[execOp,e1,tr,eK,cF,eM,hι]
  ·exact⟨_,hK,e2,fun w H=>by simp[execOp,e1,tr,eK,cF,nB]⟩
  ·rename_i l fi c;refine⟨_,hK,e2,fun w H=>?_⟩;simp only[execOp,e1,tr,eK,cF,nB];cases ι l <;> simp
  exact hK.elim
 case binOp op xt x y yt =>
  obtain⟨u,hu,hK⟩:=dR hl;obtain⟨v,hv,hK⟩:=dR hK;obtain⟨e1,e2⟩:=he.dZ hu;obtain⟨e3,e4⟩:=he.dZ hv;split at hK
  ·rename_i m c;obtain⟨r,h1,h2,h3⟩:=aK6 (P:=P) (ι:=ι) (B:=B) (n:=m) (c:=c) (p:=x) (q:=y) hT hK;refine⟨r,h1,c9 (yZ h2),fun w H=>?_⟩;have:=h3 w H;simp only[execOp,e1,e3,dS,Sem.run_bind,iU (yZ h2)]at this ⊢;rw[this];rfl
  obtain⟨r,h1,h2,h3⟩:=aJn (P:=P) (ι:=ι) (p:=x) (q:=y) hT hK;refine⟨r,h1,c9 (yZ h2),fun w H=>?_⟩;have:=h3 w;simp only[execOp,e1,e3,Sem.run_bind,iU (yZ h2)]at this ⊢;rw[this];rfl
 case unOp op xt x =>
  obtain⟨u,hu,hK⟩:=dR hl;obtain⟨e1,e2⟩:=he.dZ hu;obtain⟨r,h1,h2,h3⟩:=aM8 (P:=P) (ι:=ι) hK;refine⟨r,h1,c9 (yZ h2),fun w H=>?_⟩;simp only[execOp,e1,Sem.run_bind,h3 w,Result.andThen_ok,Sem.run_pure,iU (yZ h2)]
 case convert s d x =>
  obtain⟨u,hu,hK⟩:=dR hl;obtain⟨e1,e2⟩:=he.dZ hu;split at hK
  case h_2=>exact hK.elim
  rename_i k0 n si k s1 b1 z1 hs hd;obtain⟨h1,h2⟩:=aH.1 hK;obtain⟨ds,hds,_⟩:=(hT s _ hs).desc;have hdd:=(hT d _ hd).int rfl;refine⟨_,h2,by simp[fU,mS,jJ,rG],fun w H=>?_⟩;simp[execOp,e1,jW,convert,run_underlying hds,run_underlying hdd,Conv.intToInt,kN h1]
 case makeFunc fn first cap =>
  split at hl
  case h_2=>exact hl.elim
  rename_i f hfirst;split at hl
  case h_2=>exact hl.elim
  rename_i l hc;obtain⟨e1,e2⟩:=JH he hc;obtain⟨first⟩:=first;simp only at hfirst;subst hfirst;refine⟨_,hl,⟨trivial,fun v hv=>e2 v (by simpa using hv)⟩,fun w H=>?_⟩;have:cap.map a.eval=(l.map (eM ι)).toArray:=by
   apply Array.ext';simpa using e1
  simp[execOp,Instr.makeFunc,tr,eK,cF,nB,this]
 case fieldAddr s x f =>
  obtain⟨u,hu,hK⟩:=dR hl;obtain⟨e1,e2⟩:=he.dZ hu;have hx:mS ι nx u:=by
   cases u <;> first|exact e2|(simp[kB]at hK)
  obtain⟨v,hv,hm⟩:=NP (P:=P) (B:=B) (h:=h) hT hK hx;rw[<- e1]at hm;exact⟨v,hv,mC hm⟩
 case field s x f =>
  obtain⟨u,hu,hK⟩:=dR hl;obtain⟨e1,e2⟩:=he.dZ hu;have hx:mS ι nx u:=by
   cases u <;> first|exact e2|(simp[xD]at hK)
  obtain⟨v,hv,hm⟩:=aDp (P:=P) (B:=B) (h:=h) hT hK hx;rw[<- e1]at hm;exact⟨v,hv,mC hm⟩
 case indexAddr t x i =>
  obtain⟨u,hu,hK⟩:=dR hl;obtain⟨j,hj,hK⟩:=dR hK;obtain⟨e1,e2⟩:=he.dZ hu;obtain⟨e3,e4⟩:=he.dZ hj;have hx:mS ι nx u:=by
   cases u <;> first|exact e2|(unfold j8 at hK;split at hK <;> simp_all)
  obtain⟨v,hv,hm⟩:=NW (P:=P) (B:=B) (h:=h) hT hK hx;rw[<- e1,<- e3]at hm;exact⟨v,hv,mC hm⟩
 case index t x i =>
  obtain⟨u,hu,hK⟩:=dR hl;obtain⟨j,hj,hK⟩:=dR hK;obtain⟨e1,e2⟩:=he.dZ hu;obtain⟨e3,e4⟩:=he.dZ hj;have hx:mS ι nx u:=by
   cases u <;> first|exact e2|(unfold x8 at hK;split at hK <;> simp_all)
  obtain⟨v,hv,hm⟩:=aDn (P:=P) (B:=B) (h:=h) hT hK hx;rw[<- e1,<- e3]at hm;exact⟨v,hv,mC hm⟩
 case extract x i =>
  obtain⟨u,hu,hK⟩:=dR hl;obtain⟨e1,e2⟩:=he.dZ hu;split at hK
  case h_2=>exact hK.elim
  rename_i vs;obtain⟨v,hv,hK⟩:=dR hK;have hm:=e2 v (List.mem_of_getElem? hv);refine⟨v,hK,lF hm,fun w H=>?_⟩;have:(vs.map (eK ι))[i]? = some (eK ι v):=by
   rw[Array.getElem?_map,<- Array.getElem?_toList,hv];rfl
  have hx:Instr.extract (tr ι (.tuple vs)) i=pure (eK ι v):=(by simp only[tr,Instr.extract,this]);simp only[execOp,e1,hx,Sem.run_bind,Sem.run_pure,Result.andThen_ok,r8 hm]
 case call c =>
  obtain⟨cal,args,ats⟩:=c;simp only at hl;split at hl
  case h_2=>exact hl.elim
  rename_i b;split at hl
  case h_2=>exact hl.elim
  rename_i vs hvs;obtain⟨e1,e2⟩:=nY he hvs;obtain⟨v,h1,h2,h3⟩:=TM (ι:=ι) (B:=B) (h:=h) hT hl e2;refine⟨v,h1,h2,fun w H=>?_⟩;have:args.map a.eval=(vs.map (tr ι)).toArray:=by
   apply Array.ext';simpa using e1
  rw[<- this]at h3;simp only[execOp,resolve,Sem.run_bind,Sem.run_pure,Result.andThen_ok,invoke];exact h3 _ _ w H
end
end Go.Aw
end
