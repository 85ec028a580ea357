/-
  Parts of a proof. No condition.
-/
import Derived.Test.YticajjhjehljpaaGreatQAa
set_option linter.unusedSimpArgs false
set_option linter.unusedVariables false
noncomputable section
namespace Go.Aw
open Go.RowKit
section
variable {P:Program}{T:cF}{ι:Nat→Loc}{B nx:Nat}{h:Heap}
def AP (T:cF)(t:TypeId)(cs:List Value)(o:Nat)(K:Value→Prop):Prop :=
 match look T t with
 |some ti=>(match ti.isAgg with
  |true=>(match m9 cs o ti.size with|some l=>K (.agg l.toArray)|none=>False)
  |false=>(match nth cs o with|some v=>K v|none=>False))
 |none=>False
theorem HX {cs:List Value}:∀ {n o:Nat} {l:List Value},m9 cs o n=some l→l=(cs.drop o).take n:=by
 intro n o l h;obtain⟨h1,h2⟩:=zH h;apply List.ext_getElem?;intro j;by_cases hj:j<n
 ·rw [(h2 j hj).1,List.getElem?_take_of_lt hj,List.getElem?_drop]
 ·rw [List.getElem?_eq_none (by omega),List.getElem?_eq_none (by rw [List.length_take];omega)]
theorem M8 (hT:cA P T){t:TypeId}{cs:List Value}{o:Nat}{K:Value→Prop}(hl:AP T t cs o K)(hx:∀ v∈cs,fV ι nx v) :
  ∃ v,K v∧AF P ι B nx h (part t (cs.map (bQ ι)).toArray o) v:=by
 unfold AP at hl;split at hl
 case h_2=>exact hl.elim
 rename_i ti ht;have hti:=hT t _ ht;split at hl
 ·rename_i hagg;split at hl
  case h_2=>exact hl.elim
  rename_i l hn;have hl':=HX hn;refine⟨_,hl,fun v hv=>?_,fun w H=>?_⟩
  ·have:v∈l:=(by simpa using hv);rw [hl'] at this;exact hx v (List.mem_of_mem_drop (List.mem_of_mem_take this))
  ·simp only [part,Sem.run_bind,hti.isAgg,Result.andThen_ok,hagg,if_true,hti.sizeOf,Sem.run_pure,yM];congr 2;apply Array.ext';subst hl';simp [List.map_drop,List.map_take]
 ·rename_i hagg;split at hl
  case h_2=>exact hl.elim
  rename_i v hn;rw [vP] at hn;have hs:=hx v (List.mem_of_getElem? hn);refine⟨v,hl,fO hs,fun w H=>?_⟩;simp only [part,Sem.run_bind,hti.isAgg,Result.andThen_ok,hagg,Bool.false_eq_true,if_false,xL hs];simp [hn]
def r7 (T:cF)(st:TypeId)(x:Value)(f:Nat)(K:Value→Prop):Prop :=
 match x,look T st with
 |.agg cs,some { kind:=.st fs,.. }=>(match fs[f]? with|some (off,ft)=>AP T ft cs.toList off K|none=>False)
 |_,_=>False
theorem WT (hT:cA P T){t:TypeId}{x:Value}{i:Nat}{K:Value→Prop}(hl:r7 T t x i K)(hx:j0 ι nx x) :
  ∃ v,K v∧AF P ι B nx h (Instr.field t (tr ι x) i) v:=by
 unfold r7 at hl;split at hl
 case h_2=>exact hl.elim
 rename_i cs fs si by_ zv ht;split at hl
 case h_2=>exact hl.elim
 rename_i off ft hf;have hti:=hT t _ ht;obtain⟨f,hd,hfs,_⟩:=hti.st rfl;obtain⟨y,hy,ho,hyt⟩:=IH hfs hf;obtain⟨v,hv,hsc,hrun⟩:=M8 (B:=B) (h:=h) hT hl hx;refine⟨v,hv,hsc,fun w H=>?_⟩;have:=hrun w H;simp only [yM,Instr.field,Sem.run_bind,run_underlying hd,Result.andThen_ok,hy,asAgg,Sem.run_pure,hyt,ho];rw [← this];congr 2;apply Array.ext';simp
def qO (A:Ar)(T:cF)(t:TypeId)(x ix:Value)(K:Value→Prop):Prop :=
 match look T t,x,ix with
 |some { kind:=.ar n e,.. },.agg cs,.int _ i =>
  (match look T e with|some ei=>dI (A.andB (A.le 0 i) (A.lt i (A.num n))) (AP T e cs.toList (A.ix 0 i ei.size) K)|none=>False)
 |some { kind:=.str,.. },.string b,.int _ i=>(match (if 0≤i then b[i.toNat]? else none) with|some u=>K (.int .u8 (A.num u.toNat))|none=>False)
 |_,_,_=>False
theorem U8 (hT:cA P T){t:TypeId}{x ix:Value}{K:Value→Prop}(hl:qO aG T t x ix K)(hx:j0 ι nx x) :
  ∃ v,K v∧AF P ι B nx h (Instr.index t (tr ι x) (tr ι ix)) v:=by
 unfold qO at hl;split at hl
 case h_3=>exact hl.elim
 case h_2 =>
  rename_i s1 b1 z1 b kk i ht;split at hl
  case h_2=>exact hl.elim
  rename_i u hu;refine⟨_,hl,trivial,fun w H=>?_⟩;simp only [XA,fT,Instr.index,Sem.run_bind,asIntOf,Sem.run_pure,Result.andThen_ok,run_underlying ((hT t _ ht).str rfl),hu,aG]
 rename_i n e s1 b1 z1 cs kk i ht;split at hl
 case h_2=>exact hl.elim
 rename_i ei he;obtain⟨hb,hK⟩:=aD.1 hl;simp only [aG,Bool.and_eq_true,decide_eq_true_eq] at hb;have hti:=hT t _ ht;have hei:=hT e _ he;obtain⟨v,hv,hsc,hrun⟩:=M8 (B:=B) (h:=h) hT hK hx;refine⟨v,hv,hsc,fun w H=>?_⟩;have:=hrun w H;simp only [yM,fT,Instr.index,Sem.run_bind,asIntOf,Sem.run_pure,Result.andThen_ok,run_underlying (hti.ar rfl),hb.1,hb.2,and_self,if_true,hei.sizeOf];rw [← this];congr 2
 ·apply Array.ext';simp
 ·simp [aG]
theorem J5 (a b:Int):(a == b)=decide (a=b):=by
 by_cases e:a=b <;> simp [e]
def tF:IntKind→Int
 |.i64=>1073741824
 |.u8=>128
 |_=>0
def U2 (A:Ar)(op:BinOp)(k:IntKind)(a b:Int)(K:Value→Prop):Prop :=
 match op with
 |.add=>dI (A.fits k (A.add a b)) (K (.int k (A.add a b)))
 |.sub=>dI (A.fits k (A.sub a b)) (K (.int k (A.sub a b)))
 |.mul=>dI (A.fits k (A.mul a b)) (K (.int k (A.mul a b)))
 |.quo=>dI (A.andB (A.notB (A.eq b 0)) (A.fits k (A.quo a b))) (K (.int k (A.quo a b)))
 |.rem=>dI (A.notB (A.eq b 0)) (K (.int k (A.rem a b)))
 |.eql=>K (.bool (A.eq a b))
 |.neq=>K (.bool (A.notB (A.eq a b)))
 |.lss=>K (.bool (A.lt a b))
 |.leq=>K (.bool (A.le a b))
 |.gtr=>K (.bool (A.lt b a))
 |.geq=>K (.bool (A.le b a))
 |.xor=>dI (A.andB (A.andB (A.le 0 a) (A.le 0 b)) (A.andB (A.lt a (tF k)) (A.lt b (tF k)))) (K (.int k (A.num (A.bit .xor (A.fD a) (A.fD b)))))
 |.or=>dI (A.andB (A.andB (A.le 0 a) (A.le 0 b)) (A.andB (A.lt a (tF k)) (A.lt b (tF k)))) (K (.int k (A.num (A.bit .or (A.fD a) (A.fD b)))))
 |.and=>dI (A.andB (A.andB (A.le 0 a) (A.le 0 b)) (A.andB (A.lt a (tF k)) (A.lt b (tF k)))) (K (.int k (A.num (A.bit .and (A.fD a) (A.fD b)))))
 |_=>False
theorem D6 {n:Nat}{a:Int}(h0:0≤a)(h1:a<(2:Int) ^ n):(BitVec.ofInt n a).toNat=a.toNat:=by
 rw [BitVec.toNat_ofInt];congr 1;refine Int.emod_eq_of_lt h0 ?_;simpa using h1
theorem FQ {op:BinOp}(hop:op=.xor∨op=.or∨op=.and){k:IntKind}{a b:Int}(h:((decide (0≤a)&&decide (0≤b))&&(decide (a<tF k)&&decide (b<tF k)))=true)(w:World) :
  (Op.intBits op k a b).run P w=.ok (.int k (aG.num (aG.bit op (aG.fD a) (aG.fD b)))) w:=by
 simp only [Bool.and_eq_true,decide_eq_true_eq] at h;obtain⟨⟨a0,b0⟩,a1,b1⟩:=h;have hk:∃ m,tF k=(2:Int) ^ m∧m<k.bits∧∀ x:Nat,x<2 ^ m→aK k x=true:=by
  cases k with
  |i64=>exact⟨30,rfl,by decide,fun x hx=>by simp only [aK,Bool.and_eq_true,decide_eq_true_eq];omega⟩
  |u8=>exact⟨7,rfl,by decide,fun x hx=>by simp only [aK,Bool.and_eq_true,decide_eq_true_eq];omega⟩
  |_=>exact absurd (show a<0 from a1) (by omega)
 obtain⟨m,hm,hlt,hf⟩:=hk;rw [hm] at a1 b1;have hp:(2:Int) ^ m≤(2:Int) ^ k.bits:=by
  have:=Nat.pow_le_pow_right (show 0<2 by decide) (Nat.le_of_lt hlt)
  exact_mod_cast this
 have ea:=D6 (n:=k.bits) a0 (by omega);have eb:=D6 (n:=k.bits) b0 (by omega);have la:a.toNat<2 ^ m:=by
  have:((a.toNat:Nat):Int)<((2 ^ m:Nat):Int):=by rw [Int.toNat_of_nonneg a0];exact_mod_cast a1
  exact_mod_cast this
 have lb:b.toNat<2 ^ m:=by
  have:((b.toNat:Nat):Int)<((2 ^ m:Nat):Int):=by rw [Int.toNat_of_nonneg b0];exact_mod_cast b1
  exact_mod_cast this
 rcases hop with rfl|rfl|rfl
 ·simp only [Op.intBits,aG,BitVec.toNat_xor,ea,eb,iA (hf _ (Nat.xor_lt_two_pow la lb))];simp
 ·simp only [Op.intBits,aG,BitVec.toNat_or,ea,eb,iA (hf _ (Nat.or_lt_two_pow la lb))];simp
 ·simp only [Op.intBits,aG,BitVec.toNat_and,ea,eb,iA (hf _ (Nat.and_lt_two_pow _ lb))];simp
theorem aBq {op:BinOp}{t:TypeId}{k:IntKind}{a b:Int}{K:Value→Prop}(hl:U2 aG op k a b K) :
  ∃ v,K v∧gS v=true∧∀ w,(binOp op t (.int k a) (.int k b)).run P w=.ok v w:=by
 cases op <;> simp only [U2,aG] at hl
 case add=>obtain⟨h1,h2⟩:=aD.1 hl;exact⟨_,h2,rfl,fun w=>by simp [Go.binOp_add,Op.intArith,iA h1]⟩
 case sub=>obtain⟨h1,h2⟩:=aD.1 hl;exact⟨_,h2,rfl,fun w=>by simp [Go.binOp_sub,Op.intArith,iA h1]⟩
 case mul=>obtain⟨h1,h2⟩:=aD.1 hl;exact⟨_,h2,rfl,fun w=>by simp [Go.binOp_mul,Op.intArith,iA h1]⟩
 case quo =>
  obtain⟨h1,h2⟩:=aD.1 hl;simp only [Bool.and_eq_true,Bool.not_eq_true',decide_eq_false_iff_not] at h1;exact⟨_,h2,rfl,fun w=>by simp [Go.binOp_quo,Op.intDiv,iA h1.2,h1.1]⟩
 case rem =>
  obtain⟨h1,h2⟩:=aD.1 hl;simp only [Bool.not_eq_true',decide_eq_false_iff_not] at h1;exact⟨_,h2,rfl,fun w=>by simp [Go.binOp_rem,Op.intDiv,h1]⟩
 case eql=>exact⟨_,hl,rfl,fun w=>by rw [Go.binOp_eql,J5];simp⟩
 case neq=>exact⟨_,hl,rfl,fun w=>by rw [Go.binOp_neq];simp [bne,J5]⟩
 case lss=>exact⟨_,hl,rfl,fun w=>by rw [Go.binOp_lss];simp⟩
 case leq=>exact⟨_,hl,rfl,fun w=>by rw [Go.binOp_leq];simp⟩
 case gtr=>exact⟨_,hl,rfl,fun w=>by rw [Go.binOp_gtr];simp⟩
 case geq=>exact⟨_,hl,rfl,fun w=>by rw [Go.binOp_geq];simp⟩
 case xor=>obtain⟨h1,h2⟩:=aD.1 hl;exact⟨_,h2,rfl,fun w=>by rw [Go.binOp_xor];exact FQ (.inl rfl) h1 w⟩
 case or=>obtain⟨h1,h2⟩:=aD.1 hl;exact⟨_,h2,rfl,fun w=>by rw [Go.binOp_or];exact FQ (.inr (.inl rfl)) h1 w⟩
 case and=>obtain⟨h1,h2⟩:=aD.1 hl;exact⟨_,h2,rfl,fun w=>by rw [Go.binOp_and];exact FQ (.inr (.inr rfl)) h1 w⟩
def veq (A:Ar)(T:cF):Nat→TypeId→Value→Value→Option Bool
 |0,_,_,_=>none
 |d+1,t,x,y =>
  match look T t with
  |none=>none
  |some ti =>
   match ti.kind,x,y with
   |.int _,.int k a,.int k' b=>(match kEq k k' with|true=>some (A.eq a b)|false=>none)
   |.bool,.bool a,.bool b=>some (A.eqB a b)
   |.st fs,.agg xs,.agg ys =>
    fs.foldr (fun f r =>
     match r with
     |none=>none
     |some r =>
      match look T f.2 with
      |none=>none
      |some fi =>
       match fi.isAgg with
       |true=>(match m9 xs.toList f.1 fi.size,m9 ys.toList f.1 fi.size with
        |some l,some m=>(match veq A T d f.2 (.agg l.toArray) (.agg m.toArray) with|some q=>some (A.andB q r)|none=>none)
        |_,_=>none)
       |false=>(match nth xs.toList f.1,nth ys.toList f.1 with
        |some u,some v=>(match veq A T d f.2 u v with|some q=>some (A.andB q r)|none=>none)
        |_,_=>none)) (some true)
   |_,_,_=>none
theorem v7 (hT:cA P T){t:TypeId}{ti:OW}(ht:look T t=some ti)(hagg:ti.isAgg=true){cs l:List Value}{o:Nat}(hn:m9 cs o ti.size=some l)(w:World) :
  (part t cs.toArray o).run P w=.ok (.agg l.toArray) w:=by
 have hti:=hT t _ ht;simp only [part,Sem.run_bind,hti.isAgg,Result.andThen_ok,hagg,if_true,hti.sizeOf,Sem.run_pure];congr 2;apply Array.ext';rw [HX hn];simp
theorem pS (hT:cA P T){t:TypeId}{ti:OW}(ht:look T t=some ti)(hagg:ti.isAgg=false){cs:List Value}{v:Value}{o:Nat}(hn:nth cs o=some v)(w:World) :
  (part t cs.toArray o).run P w=.ok v w:=by
 have hti:=hT t _ ht;rw [vP] at hn;simp only [part,Sem.run_bind,hti.isAgg,Result.andThen_ok,hagg,Bool.false_eq_true,if_false];simp [hn]
theorem PS (hT:cA P T):∀ (d:Nat) (t:TypeId) (x y:Value) (r:Bool),veq aG T d t x y=some r→∀ d',d≤d'→∀ w,(Op.equalIn d' t x y).run P w=.ok r w:=by
 intro d
 induction d with
 |zero=>intro t x y r h;simp [veq] at h
 |succ d ih =>
  intro t x y r h d' hd w;obtain⟨d',rfl⟩:∃ e,d'=e+1:=⟨d' - 1,by omega⟩;simp only [veq] at h;split at h
  ·cases h
  rename_i ti ht;have hti:=hT t _ ht;split at h
  ·rename_i k k1 a k2 b hk;split at h
   ·rename_i hkk;have:=oW hkk;subst this;injection h with h;subst h;rw [run_equalIn_int w d' t k1 k a b (hti.int hk),J5];simp [aG]
   ·cases h
  ·rename_i a b hk;injection h with h;subst h;rw [run_equalIn_bool w d' t a b (hti.bool hk)];simp [aG]
  ·rename_i fs xs ys hk;obtain⟨f,hd',hfs,hn⟩:=hti.st hk;have hfo:P.fieldsOf t=f:=(by simp [Program.fieldsOf,hd']);rw [run_equalIn_struct w d' t xs ys (by rw [hfo];exact hd') hti.held,hfo];subst hfs;clear hd' hfo hk;generalize f.toList=fl at h hn
   induction fl generalizing r with
   |nil=>simp at h;subst h;simp [Op.eqFields]
   |cons x fl ihf =>
    simp only [List.map_cons,List.foldr_cons] at h;split at h
    ·cases h
    rename_i rr hr;have ihf:=ihf rr hr (fun y hy=>hn y (by simp [hy]));split at h
    ·cases h
    rename_i fi hfi;have hname : x.name ≠ "_" := hn x (by simp);simp only [Op.eqFields,hname,ne_eq,not_false_eq_true,if_true,Sem.run_bind];split at h
    ·rename_i hagg;split at h
     case h_2=>cases h
     rename_i l m hl hm;split at h
     case h_2=>cases h
     rename_i q hq;injection h with h;subst h;have e1:=v7 hT hfi hagg hl w;have e2:=v7 hT hfi hagg hm w;simp only [Array.toArray_toList] at e1 e2;rw [e1,Result.andThen_ok,e2,Result.andThen_ok,ih _ _ _ _ hq d' (by omega) w,Result.andThen_ok];cases q
     ·simp [aG]
     ·simp [ihf,aG]
    ·rename_i hagg;split at h
     case h_2=>cases h
     rename_i u v hu hv;split at h
     case h_2=>cases h
     rename_i q hq;injection h with h;subst h;have e1:=pS hT hfi hagg hu w;have e2:=pS hT hfi hagg hv w;simp only [Array.toArray_toList] at e1 e2;rw [e1,Result.andThen_ok,e2,Result.andThen_ok,ih _ _ _ _ hq d' (by omega) w,Result.andThen_ok];cases q
     ·simp [aG]
     ·simp [ihf,aG]
  ·cases h
end
def on (x:Option Value)(K:Value→Prop):Prop:=match x with|some v=>K v|none=>False
def aEo:BinOp→Bool
 |.shr=>true
 |_=>false
def PQ (A:Ar)(T:cF)(op:BinOp)(xt:TypeId)(x y:Value)(K:Value→Prop):Prop :=
 match x,y with
 |.int k a,.int k' b=>(match aEo op with
  |true=>dI (A.andB (A.le 0 a) (A.eq b 1)) (K (.int k (A.quo a 2)))
  |false=>(match kEq k k' with|true=>U2 A op k a b K|false=>False))
 |.bool a,.bool b=>(match op,look T xt with
  |.eql,some { kind:=.bool,.. }=>K (.bool (A.eqB a b))
  |.neq,some { kind:=.bool,.. }=>K (.bool (A.notB (A.eqB a b)))
  |_,_=>False)
 |.agg xs,.agg ys=>(match look T xt with
  |some _=>(match dE xs.toList,dE ys.toList with
   |true,true=>(match veq A T 100 xt (.agg xs) (.agg ys) with
    |some r=>(match op with
     |.eql=>K (.bool r)
     |.neq=>K (.bool (A.notB r))
     |_=>False)
    |none=>False)
   |_,_=>False)
  |none=>False)
 |_,_=>False
def aCB (h:Heap):Value→Option Bool
 |.slice none _ _=>some true
 |.slice (some a) _ _=>(match look h a.block with|some (.cells _ _ _ (_::_))=>some false|some (.cells _ _ 0 [])=>some false|some (.cells true _ _ [])=>some false|_=>none)
 |_=>none
def PJ (T:cF)(h:Heap)(op:BinOp)(t:TypeId)(x:Value)(K:Value→Prop):Prop :=
 match look T t,aCB h x,op with
 |some { kind:=.sl _,.. },some b,.eql=>K (.bool b)
 |some { kind:=.sl _,.. },some b,.neq=>K (.bool (!b))
 |_,_,_=>False
def vun (A:Ar)(op:UnOp)(x:Value)(K:Value→Prop):Prop :=
 match op,x with
 |.neg,.int k a=>dI (A.fits k (A.neg a)) (K (.int k (A.neg a)))
 |.not,.bool b=>K (.bool (A.notB b))
 |_,_=>False
def xV (env:List (Nat × Value)):List Operand→Option (List Value)
 |[]=>some []
 |x::r=>match cU env x with
  |some (.pointer (some a))=>(match xV env r with|some l=>some (.pointer (some a)::l)|none=>none)
  |_=>none
def jP (env:List (Nat × Value)):List (Nat × Operand)→Option (List (Nat × Value))
 |[]=>some []
 |(i,x)::r=>match cU env x with
  |some v=>(match jP env r with|some l=>some ((i,v)::l)|none=>none)
  |none=>none
def places (T:cF)(i:OW):Nat→Option (Nat × Nat) :=
 match i.kind with
 |.st fs=>fun j=>match fs[j]? with
  |some (off,ft)=>(match look T ft with|some fi=>some (off,fi.size)|none=>none)
  |none=>none
 |.ar _ e=>fun j=>match look T e with|some ei=>some (j*ei.size,ei.size)|none=>none
 |_=>fun _=>none
def EM:Value→List Value
 |.agg cs=>cs.toList
 |v=>[v]
theorem sL (v:Value):v.cells.toList=EM v:=by cases v <;> rfl
def W9 (cs:List Value)(o:Nat)(vs:List Value):List Value:=cs.take o++vs++cs.drop (o+vs.length)
def AV (pl:Nat→Option (Nat × Nat)):List (Nat × Value)→List Value→Option (List Value)
 |[],cells=>some cells
 |(i,v)::r,cells=>match pl i with
  |none=>none
  |some os=>match Nat.beq (EM v).length os.2,Nat.ble (os.1+(EM v).length) cells.length with
   |true,true=>AV pl r (W9 cells os.1 (EM v))
   |_,_=>none
theorem VE (L:List Value)(p:Nat)(v:Value)(r:List Value)(hp:p<L.length):W9 (L.set p v) (p+1) r=W9 L p (v::r):=by
 unfold W9;apply List.ext_getElem?;intro j;have hl:(L.take p).length=p:=(by rw [List.length_take];omega);have hl2:((L.set p v).take (p+1)).length=p+1:=(by rw [List.length_take,List.length_set];omega);by_cases h1:j<p
 ·rw [List.getElem?_append_left (by rw [List.length_append,hl2];omega),List.getElem?_append_left (by rw [hl2];omega),List.getElem?_append_left (by rw [List.length_append,hl];omega),List.getElem?_append_left (by rw [hl];omega),
   List.getElem?_take_of_lt (by omega),List.getElem?_take_of_lt h1,List.getElem?_set_ne (by omega)]
 ·by_cases h2:j=p
  ·subst h2
   rw [List.getElem?_append_left (by rw [List.length_append,hl2];omega),List.getElem?_append_left (by rw [hl2];omega),List.getElem?_append_left (by rw [List.length_append,hl,List.length_cons];omega),List.getElem?_append_right (by rw [hl];omega),
    List.getElem?_take_of_lt (by omega),List.getElem?_set_self hp,hl,Nat.sub_self,List.getElem?_cons_zero]
  ·by_cases h3:j<p+1+r.length
   ·rw [List.getElem?_append_left (by rw [List.length_append,hl2];omega),List.getElem?_append_right (by rw [hl2];omega),List.getElem?_append_left (by rw [List.length_append,hl,List.length_cons];omega),List.getElem?_append_right (by rw [hl];omega),hl,hl2,
     show j - p=(j - (p+1))+1 by omega,List.getElem?_cons_succ]
   ·rw [List.getElem?_append_right (by rw [List.length_append,hl2];omega),List.getElem?_append_right (by rw [List.length_append,hl,List.length_cons];omega),List.getElem?_drop,List.getElem?_drop,List.length_append,List.length_append,hl,hl2,List.length_cons,
     List.getElem?_set_ne (by omega)]
    congr 1;omega
theorem HY:∀ (vs:List Value) (k off:Nat) (c:Array Value),off+k+vs.length≤c.size →
  ((vs.zipIdx k).foldl (fun cs p=>cs.setIfInBounds (off+p.2) p.1) c).toList=W9 c.toList (off+k) vs
 |[],k,off,c,_=>by simp [W9]
 |v::r,k,off,c,h=>by
  simp only [List.length_cons] at h;rw [List.zipIdx_cons,List.foldl_cons,HY r (k+1) off (c.setIfInBounds (off+k) v) (by simp;omega)];have hlt:off+k<c.toList.length:=(by simpa using (by omega:off+k<c.size));rw [Array.toList_setIfInBounds];exact VE _ _ _ _ hlt
theorem FU (pl:Nat→Option (Nat × Nat)):∀ (ps:List (Nat × Value)) (c:Array Value) (l r:List Value),c.toList=l→AV pl ps l=some r→Instr.fill pl c ps=some r.toArray
 |[],c,l,r,hc,h=>by
  simp only [AV] at h;injection h with h;subst h;subst hc;simp [Instr.fill]
 |(i,v)::ps,c,l,r,hc,h=>by
  simp only [AV] at h;simp only [Instr.fill];split at h
  ·cases h
  ·rename_i os hp;obtain⟨off,size⟩:=os;split at h
   case h_2=>cases h
   rename_i h1 h2;simp only at h1 h2 h;have h1:=beq_true h1;have h2:=Nat.le_of_ble_eq_true h2;subst hc;have e1:v.cells.size=(EM v).length:=(by rw [← sL,Array.length_toList]);rw [hp];simp only;rw [if_neg (by rw [e1,h1];simp only [Array.length_toList] at h2;simp;omega)];refine FU pl ps _ _ r ?_ h;have:=HY v.cells.toList 0 off c (by rw [sL];simpa using h2);rw [sL,Nat.add_zero] at this;rw [← this,← Array.foldl_toList,Array.toList_zipIdx,sL]
def jJ (T:cF):List (Nat × TypeId)→Bool
 |[]=>true
 |(_,t)::r=>match look T t with|some _=>jJ T r|none=>false
def jN:List (Nat × Value)→Bool
 |[]=>true
 |(_,.tuple _)::_=>false
 |_::r=>jN r
def vR (T:cF)(t:TypeId)(ps:List (Nat × Value))(K:Value→Prop):Prop :=
 match look T t with
 |some ti =>
  match (match ti.kind with|.st fs=>jJ T fs|.ar _ e=>(look T e).isSome|_=>false),jN ps with
  |true,true=>(match AV (places T ti) ps ti.zv.cells.toList with
   |some cells=>K (.agg cells.toArray)
   |none=>False)
  |_,_=>False
 |none=>False
def UT (f:Int→Int→Int):Value→List Value→Option Value
 |.int k a,[]=>some (.int k a)
 |.int k a,.int k' b::r=>(match kEq k k' with|true=>UT f (.int k (f a b)) r|false=>none)
 |_,_=>none
def j5 (env:List (Nat × Value)):List Operand→Option (List Value)
 |[]=>some []
 |x::r=>match cU env x with
  |some v=>(match j5 env r with|some l=>some (v::l)|none=>none)
  |none=>none
def mS (A:Ar)(T:cF)(b:Builtin)(ts:Array TypeId)(vs:List Value)(K:Value→Prop):Prop :=
 match b,ts.toList,vs with
 |.len,[t],[.slice _ n _]=>(match look T t with|some { kind:=.sl _,.. }=>K (.int .i64 (A.num n))|_=>False)
 |.cap,[t],[.slice none _ c]=>(match look T t with|some { kind:=.sl _,.. }=>K (.int .i64 (A.num c))|_=>False)
 |.max,_,v::r=>on (UT A.max v r) K
 |.min,_,v::r=>on (UT A.min v r) K
 |_,_,_=>False
def iH (A:Ar)(T:cF)(env:List (Nat × Value))(h:Heap)(op:Op)(K:Value→Prop):Prop :=
 match op with
 |.move x|.assign x=>on (cU env x) K
 |.pick c a b=>on (cU env c) fun u=>(match u with
  |.bool t=>br t (fun _=>on (cU env a) K) (fun _=>on (cU env b) K)
  |_=>False)
 |.nilCheck x=>on (cU env x) fun u=>(match u with
  |.pointer (some a)=>K (.pointer (some a))
  |.func (.func f) fi c=>K (.func (.func f) fi c)
  |.func (.yield f) fi c=>K (.func (.yield f) fi c)
  |_=>False)
 |.load t x=>on (cU env x) fun u=>rR T h t u K
 |.fieldAddr s x f=>on (cU env x) fun u=>gR T s u f K
 |.field s x f=>on (cU env x) fun u=>r7 T s u f K
 |.indexAddr t x i=>on (cU env x) fun u=>on (cU env i) fun j=>gE A T t u j K
 |.index t x i=>on (cU env x) fun u=>on (cU env i) fun j=>qO A T t u j K
 |.binOp op t x y _=>on (cU env x) fun u=>on (cU env y) fun v=>(match v with
  |.slice none _ _=>PJ T h op t u K
  |_=>PQ A T op t u v K)
 |.unOp op _ x=>on (cU env x) fun u=>vun A op u K
 |.convert s d x=>on (cU env x) fun u=>(match u,look T s,look T d with
  |.int _ n,some _,some { kind:=.int k,.. }=>dI (A.fits k n) (K (.int k n))
  |_,_,_=>False)
 |.makeFunc fn first cap=>(match fn,first.toList with
  |.func f,[]=>(match xV env cap.toList with|some l=>K (.func (.func f) #[] l.toArray)|none=>False)
  |_,_=>False)
 |.extract x i=>on (cU env x) fun u=>(match u with
  |.tuple vs=>on (vs.toList[i]?) K
  |_=>False)
 |.build t ps=>(match jP env ps.toList with|some l=>vR T t l K|none=>False)
 |.call c=>(match c.callee with
  |.builtin b=>(match j5 env c.args.toList with|some vs=>mS A T b c.argTypes vs K|none=>False)
  |_=>False)
 |_=>False
section
variable {P:Program}{T:cF}{ι:Nat→Loc}{B nx:Nat}{h:Heap}
theorem cR {x:Option Value}{K:Value→Prop}(hl:on x K):∃ v,x=some v∧K v:=by
 cases x with
 |none=>exact hl.elim
 |some v=>exact⟨v,rfl,hl⟩
theorem T5 {x:Value}{b:Bool}(hb:aCB h x=some b){t e:TypeId}(ht:P.underlying t=some (.slice e))(n c:Nat):∃ a m k,tr ι x=.slice a m k∧∀ w,aO ι B h nx w→(Op.equal t (.slice a m k) (.slice none n c)).run P w=.ok b w:=by
 unfold aCB at hb;split at hb
 ·injection hb with hb;subst hb;rename_i m k;refine⟨none,m,k,cX m k,fun w _=>?_⟩;rw [Op.equal,show Op.maxDepth=9999+1 from rfl,Op.equalIn];simp [run_underlying ht]
 ·rename_i a m k;split at hb
  case h_4=>cases hb
  case h_3 =>
   rename_i g sz hno hk;injection hb with hb;subst hb;cases hι:ι a.block with
   |nil l =>
    refine⟨l,m,k,by simp [tr,dS,bQ,dU,hι],fun w H0=>?_⟩;have ho:=H0.obj a.block _ hk;rw [hι] at ho;have ho2:l.isSome=true:=(show ([]:List Value)=[]∧(sz=0∨true=true→l.isSome=true) from ho).2 (.inr rfl);obtain⟨q,rfl⟩:=Option.isSome_iff_exists.1 ho2;rw [Op.equal,show Op.maxDepth=9999+1 from rfl,Op.equalIn];simp [run_underlying ht]
   |lay bb off ex =>
    refine⟨some ⟨bb,off+a.off,none⟩,m,k+ex,by simp [tr,dS,bQ,dU,hι],fun w _=>?_⟩;rw [Op.equal,show Op.maxDepth=9999+1 from rfl,Op.equalIn];simp [run_underlying ht]
  case h_1 =>
   rename_i wr g sz v r hk;injection hb with hb;subst hb;cases hι:ι a.block with
   |nil l =>
    refine⟨l,m,k,by simp [tr,dS,bQ,dU,hι],fun w H0=>?_⟩;have ho:=H0.obj a.block _ hk;rw [hι] at ho;have ho1:=(show (v::r:List Value)=[]∧_ from ho).1;cases ho1
   |lay bb off ex =>
    refine⟨some ⟨bb,off+a.off,none⟩,m,k+ex,by simp [tr,dS,bQ,dU,hι],fun w _=>?_⟩;rw [Op.equal,show Op.maxDepth=9999+1 from rfl,Op.equalIn];simp [run_underlying ht]
  case h_2 =>
   rename_i wr g hk;injection hb with hb;subst hb;cases hι:ι a.block with
   |nil l =>
    refine⟨l,m,k,by simp [tr,dS,bQ,dU,hι],fun w H0=>?_⟩;have ho:=H0.obj a.block _ hk;rw [hι] at ho;have ho2:l.isSome=true:=(show ([]:List Value)=[]∧(0=0∨wr=true→l.isSome=true) from ho).2 (.inl rfl);obtain⟨q,rfl⟩:=Option.isSome_iff_exists.1 ho2;rw [Op.equal,show Op.maxDepth=9999+1 from rfl,Op.equalIn];simp [run_underlying ht]
   |lay bb off ex =>
    refine⟨some ⟨bb,off+a.off,none⟩,m,k+ex,by simp [tr,dS,bQ,dU,hι],fun w _=>?_⟩;rw [Op.equal,show Op.maxDepth=9999+1 from rfl,Op.equalIn];simp [run_underlying ht]
 ·cases hb
theorem aBH (hT:cA P T){op:BinOp}{t:TypeId}{x:Value}{n c:Nat}{p q:Operand}{K:Value→Prop}(hl:PJ T h op t x K) :
  ∃ v,K v∧gS v=true∧∀ w,aO ι B h nx w→(do eqGuard op t p q (tr ι x) (.slice none n c);binOp op t (tr ι x) (.slice none n c):Sem Value).run P w=.ok v w:=by
 unfold PJ at hl;split at hl
 ·rename_i e s1 b1 z1 b ht hb;obtain⟨a,m,k,h1,h2⟩:=T5 (ι:=ι) (B:=B) (nx:=nx) hb ((hT t _ ht).sl rfl) n c;refine⟨_,hl,rfl,fun w H=>?_⟩;rw [h1];have:=h2 w H;simp [eqGuard,binOp,this]
 ·rename_i e s1 b1 z1 b ht hb;obtain⟨a,m,k,h1,h2⟩:=T5 (ι:=ι) (B:=B) (nx:=nx) hb ((hT t _ ht).sl rfl) n c;refine⟨_,hl,rfl,fun w H=>?_⟩;rw [h1];have:=h2 w H;simp [eqGuard,binOp,this]
 ·exact hl.elim
theorem aC3 (hT:cA P T){op:BinOp}{t:TypeId}{x y:Value}{p q:Operand}{K:Value→Prop}(hl:PQ aG T op t x y K) :
  ∃ v,K v∧gS v=true∧∀ w,(do eqGuard op t p q (tr ι x) (tr ι y);binOp op t (tr ι x) (tr ι y):Sem Value).run P w=.ok v w:=by
 unfold PQ at hl;split at hl
 ·rename_i k a k' b;split at hl
  ·rename_i hs;have hop:op=.shr:=by cases op <;> first|rfl|cases hs
   subst hop;obtain⟨h1,h2⟩:=aD.1 hl;simp only [aG,Bool.and_eq_true,decide_eq_true_eq] at h1 h2;obtain⟨h0,rfl⟩:=h1;refine⟨_,h2,rfl,fun w=>?_⟩;have hb:min (1:Int).toNat k.bits=1:=(by cases k <;> rfl);simp only [fT,eqGuard_at_int,Sem.run_bind,Sem.run_pure,Result.andThen_ok,Go.binOp_shr,Op.shift,hb];rw [if_neg (by decide)];simp only [Sem.run_pure];congr 2;rw [Int.fdiv_eq_tdiv_of_nonneg h0 (by decide)];rfl
  split at hl
  ·rename_i hk;have:=oW hk;subst this;obtain⟨v,h1,h2,h3⟩:=aBq (P:=P) (t:=t) hl;exact⟨v,h1,h2,fun w=>by simp only [fT,eqGuard_at_int,Sem.run_bind,Sem.run_pure,Result.andThen_ok];exact h3 w⟩
  ·exact hl.elim
 ·rename_i a b;split at hl
  ·rename_i s1 b1 z1 ht;have hd:=(hT t _ ht).bool rfl;exact⟨_,hl,rfl,fun w=>by simp only [pQ,eqGuard_at_bool,Sem.run_bind,Sem.run_pure,Result.andThen_ok,run_eql_bool w t a b hd];rfl⟩
  ·rename_i s1 b1 z1 ht;have hd:=(hT t _ ht).bool rfl;exact⟨_,hl,rfl,fun w=>by simp only [pQ,eqGuard_at_bool,Sem.run_bind,Sem.run_pure,Result.andThen_ok,run_neq_bool w t a b hd];rfl⟩
  ·exact hl.elim
 ·rename_i xs ys;split at hl
  case h_2=>exact hl.elim
  rename_i ti ht;have hti:=hT t _ ht;split at hl
  case h_2=>exact hl.elim
  rename_i hgx hgy;split at hl
  case h_2=>exact hl.elim
  rename_i r hr;have hex:∀ w,(Op.equal t (.agg xs) (.agg ys)).run P w=.ok r w:=fun w=>PS hT 100 t _ _ r hr 10000 (by omega) w;have ex:tr ι (.agg xs)=.agg xs:=fU (by simpa [gT,gA] using hgx);have ey:tr ι (.agg ys)=.agg ys:=fU (by simpa [gT,gA] using hgy);have hg:∀ w,(eqGuard op t p q (.agg xs) (.agg ys)).run P w=.ok () w:=fun w=>by
   unfold eqGuard;cases op <;> simp [hti.guard]
  split at hl
  ·exact⟨_,hl,rfl,fun w=>by rw [ex,ey];simp only [Sem.run_bind,hg,Result.andThen_ok];simp [binOp,hex]⟩
  ·exact⟨_,hl,rfl,fun w=>by rw [ex,ey];simp only [Sem.run_bind,hg,Result.andThen_ok];simp [binOp,hex,aG]⟩
  ·exact hl.elim
 ·exact hl.elim
theorem aES {op:UnOp}{x:Value}{K:Value→Prop}(hl:vun aG op x K) :
  ∃ v,K v∧gS v=true∧∀ w,(Op.unary op (tr ι x)).run P w=.ok v w:=by
 unfold vun at hl;split at hl
 ·rename_i k a;obtain⟨h1,h2⟩:=aD.1 hl;exact⟨_,h2,rfl,fun w=>by
   have h3:k.wrap (0 - a)=0 - a:=iA h1;simp only [fT,Op.unary,Op.intArith,Sem.run_pure,h3];rfl⟩
 ·rename_i b;exact⟨_,hl,rfl,fun w=>by simp only [pQ,Op.unary,Sem.run_pure];rfl⟩
 ·exact hl.elim
theorem DO {env:List (Nat × Value)}{a:Act}(he:cT ι nx env a):∀ {l:List Operand} {vs:List Value},xV env l=some vs →
  l.map a.eval=vs.map (dU ι)∧∀ v∈vs,mW ι nx v
 |[],vs,h=>by simp [xV] at h;subst h;simp
 |x::r,vs,h=>by
  simp only [xV] at h;split at h
  case h_2=>cases h
  rename_i p hp;split at h
  case h_2=>cases h
  rename_i l hl;injection h with h;subst h;obtain⟨h1,h2⟩:=he.cU hp;obtain⟨h3,h4⟩:=DO he hl;refine⟨by simp only [List.map_cons,h1,h3];rfl,fun v hv=>?_⟩;cases hv with
  |head=>exact h2
  |tail _ hv=>exact h4 v hv
theorem pW {env:List (Nat × Value)}{a:Act}(he:cT ι nx env a):∀ {l:List (Nat × Operand)} {vs:List (Nat × Value)},jP env l=some vs →
  l.map (fun p=>(p.1,a.eval p.2))=vs.map (fun p=>(p.1,tr ι p.2))∧∀ v∈vs,eG ι nx v.2
 |[],vs,h=>by simp [jP] at h;subst h;simp
 |(i,x)::r,vs,h=>by
  simp only [jP] at h;split at h
  case h_2=>cases h
  rename_i p hp;split at h
  case h_2=>cases h
  rename_i l hl;injection h with h;subst h;obtain⟨h1,h2⟩:=he.cU hp;obtain⟨h3,h4⟩:=pW he hl;refine⟨by simp only [List.map_cons,h1,h3],fun v hv=>?_⟩;cases hv with
  |head=>exact h2
  |tail _ hv=>exact h4 v hv
theorem kG {env:List (Nat × Value)}{a:Act}(he:cT ι nx env a):∀ {l:List Operand} {vs:List Value},j5 env l=some vs →
  l.map a.eval=vs.map (tr ι)∧∀ v∈vs,eG ι nx v
 |[],vs,h=>by simp [j5] at h;subst h;simp
 |x::r,vs,h=>by
  simp only [j5] at h;split at h
  case h_2=>cases h
  rename_i p hp;split at h
  case h_2=>cases h
  rename_i l hl;injection h with h;subst h;obtain⟨h1,h2⟩:=he.cU hp;obtain⟨h3,h4⟩:=kG he hl;refine⟨by simp only [List.map_cons,h1,h3],fun v hv=>?_⟩;cases hv with
  |head=>exact h2
  |tail _ hv=>exact h4 v hv
theorem KO (f:Value→Value)(l:List (Value × Nat))(off:Nat):∀ (c:Array Value),((l.map fun x=>(f x.1,x.2)).foldl (fun cs (x:Value × Nat)=>cs.setIfInBounds (off+x.2) x.1) (c.map f)) =
  (l.foldl (fun cs (x:Value × Nat)=>cs.setIfInBounds (off+x.2) x.1) c).map f:=by
 induction l with
 |nil=>intro c;rfl
 |cons x l ih =>
  intro c;simp only [List.map_cons,List.foldl_cons];rw [← ih];congr 1;apply Array.ext';simp [List.map_set]
theorem DV (pl:Nat→Option (Nat × Nat)):∀ (ps:List (Nat × Value)) (c r:Array Value),(∀ p∈ps,j0 ι nx p.2)→Instr.fill pl c ps=some r →
  Instr.fill pl (c.map (bQ ι)) (ps.map fun p=>(p.1,tr ι p.2))=some (r.map (bQ ι))
 |[],c,r,_,h=>by simp [Instr.fill] at h;subst h;rfl
 |(i,v)::ps,c,r,hs,h=>by
  simp only [Instr.fill] at h;simp only [List.map_cons,Instr.fill];cases hp:pl i with
  |none=>rw [hp] at h;cases h
  |some os =>
   obtain⟨off,size⟩:=os;rw [hp] at h;simp only at h ⊢;have hv:=w9 (hs (i,v) (by simp));simp only at hv;rw [hv];split at h
   ·cases h
   ·rename_i hc;rw [if_neg (by simpa using hc)];have ih:=DV pl ps _ r (fun p hp=>hs p (by simp [hp])) h;rw [← ih];congr 1;rw [← Array.foldl_toList,← Array.foldl_toList];have:=KO (bQ ι) v.cells.zipIdx.toList off c;rw [← this];congr 1;apply List.ext_getElem?;intro j;simp [List.getElem?_zipIdx];rfl
theorem n8:∀ {ps:List (Nat × Value)},jN ps=true→(∀ p∈ps,eG ι nx p.2)→∀ p∈ps,j0 ι nx p.2
 |[],_,_,p,hp=>by cases hp
 |(i,v)::r,h,hs,p,hp=>by
  cases hp with
  |head =>
   have:=hs (i,v) (by simp);cases v with
   |tuple c=>simp [jN] at h
   |_=>exact this
  |tail _ hp =>
   refine n8 (ps:=r) ?_ (fun q hq=>hs q (by simp [hq])) p hp;cases v <;> first|exact h|(simp [jN] at h)
theorem C3 (pl:Nat→Option (Nat × Nat))(Pr:Value→Prop):∀ (ps:List (Nat × Value)) (c r:Array Value),(∀ v∈c.toList,Pr v)→(∀ p∈ps,∀ v∈p.2.cells.toList,Pr v)→Instr.fill pl c ps=some r→∀ v∈r.toList,Pr v
 |[],c,r,hc,_,h=>by simp [Instr.fill] at h;subst h;exact hc
 |(i,u)::ps,c,r,hc,hp,h=>by
  simp only [Instr.fill] at h;cases hpl:pl i with
  |none=>rw [hpl] at h;cases h
  |some os =>
   obtain⟨off,size⟩:=os;rw [hpl] at h;simp only at h;split at h
   ·cases h
   ·rename_i hsz;refine C3 pl Pr ps _ r ?_ (fun p hq=>hp p (by simp [hq])) h;have hu:=hp (i,u) (by simp);rw [← Array.foldl_toList];have hz:∀ x∈u.cells.zipIdx.toList,Pr x.1:=by
     intro x hx;have hx':x∈u.cells.toList.zipIdx:=(by simpa [Array.toList_zipIdx] using hx);have:=List.fst_mem_of_mem_zipIdx hx';exact hu _ this
    generalize u.cells.zipIdx.toList=l at hz;clear h hsz
    induction l generalizing c with
    |nil=>simpa using hc
    |cons x l ih =>
     simp only [List.foldl_cons];refine ih _ ?_ (fun y hy=>hz y (by simp [hy]));intro v hv;rw [Array.toList_setIfInBounds] at hv;rcases List.mem_or_eq_of_mem_set hv with h1|h1
     ·exact hc v h1
     ·rw [h1];exact hz x (by simp)
theorem O8 (hT:cA P T){t:TypeId}{ti:OW}(ht:look T t=some ti){fs:List (Nat × TypeId)}(hk:ti.kind=.st fs)(hf:jJ T fs=true) :
  ∃ f:Array Field,P.underlying t=some (.struct f)∧∀ w,∃ pl:Array (Nat × Nat),(f.mapM fun f=>do pure (f.offset,← sizeOf f.type):Sem (Array (Nat × Nat))).run P w=.ok pl w∧∀ j,pl[j]? = places T ti j:=by
 have hti:=hT t _ ht;obtain⟨f,hd,hfs,_⟩:=hti.st hk;refine⟨f,hd,fun w=>?_⟩;subst hfs
 have key:∀ (l:List Field),jJ T (l.map fun f=>(f.offset,f.type))=true→∃ pl:List (Nat × Nat),(l.mapM fun f=>do pure (f.offset,← sizeOf f.type):Sem (List (Nat × Nat))).run P w=.ok pl w ∧
   ∀ j:Nat,pl[j]? = (match (l.map fun f=>(f.offset,f.type))[j]? with|some (off,ft)=>(match look T ft with|some fi=>some (off,fi.size)|none=>none)|none=>none):=by
  intro l
  induction l with
  |nil=>intro _;exact⟨[],by simp,fun j=>by simp⟩
  |cons x l ih =>
   intro h;simp only [List.map_cons,jJ] at h;split at h
   case h_2=>cases h
   rename_i fi hfi;obtain⟨pl,h1,h2⟩:=ih h;have hx:=hT _ _ hfi;refine⟨(x.offset,fi.size)::pl,?_,fun j=>?_⟩
   ·simp only [List.mapM_cons,Sem.run_bind,hx.sizeOf,Result.andThen_ok,Sem.run_pure,h1]
   ·cases j with
    |zero=>simp [hfi]
    |succ j=>simpa using h2 j
 obtain⟨pl,h1,h2⟩:=key f.toList hf;refine⟨pl.toArray,?_,fun j=>?_⟩
 ·rw [Array.mapM_eq_mapM_toList];simp only [Sem.run_map,h1,Result.andThen_ok]
 ·simp only [List.getElem?_toArray,h2 j,places,hk]
theorem V1 (hT:cA P T){t:TypeId}{ps:List (Nat × Value)}{K:Value→Prop}(hl:vR T t ps K)(hs:∀ p∈ps,eG ι nx p.2) :
  ∃ v,K v∧AF P ι B nx h (Instr.build t (ps.map fun p=>(p.1,tr ι p.2)).toArray) v:=by
 unfold vR at hl;split at hl
 case h_2=>exact hl.elim
 rename_i ti ht;split at hl
 case h_2=>exact hl.elim
 rename_i hkn hap;split at hl
 case h_2=>exact hl.elim
 rename_i lcells hf0;obtain⟨cells,hce⟩:∃ cells:Array Value,cells=lcells.toArray:=⟨_,rfl⟩;have hf:Instr.fill (places T ti) ti.zv.cells ps=some cells:=(by rw [hce];exact FU _ _ _ _ _ rfl hf0);rw [← hce] at hl;have hti:=hT t _ ht;have hs':=n8 hap hs;have hz:ti.zv.cells.map (bQ ι)=ti.zv.cells:=by
  have h1:=w9 (ι:=ι) (n:=nx) (NL hti.zg);rw [fU (ι:=ι) (by
   have:=hti.zg;cases hzv:ti.zv with
   |tuple c=>rw [hzv] at this;simp [gA,gS] at this
   |_=>rw [hzv] at this;exact this)] at h1
  exact h1.symm
 have hfm:=DV (ι:=ι) (nx:=nx) (places T ti) ps ti.zv.cells cells hs' hf;rw [hz] at hfm;refine⟨_,hl,?_,fun w H=>?_⟩
 ·intro v hv;refine C3 (places T ti) (fV ι nx) ps ti.zv.cells cells ?_ ?_ hf v hv
  ·intro u hu;have:=NL (ι:=ι) (n:=nx) hti.zg;cases hzv:ti.zv with
   |agg c=>rw [hzv] at this hu;exact this u hu
   |_ =>
    rw [hzv] at this hu;simp only [Value.cells,List.mem_singleton] at hu;subst hu;exact this
  ·intro p hp u hu;have:=hs' p hp;cases hpv:p.2 with
   |agg c=>rw [hpv] at this hu;exact this u hu
   |_ =>
    rw [hpv] at this hu;simp only [Value.cells,List.mem_singleton] at hu;subst hu;exact this
 ·split at hkn
  ·rename_i fs hk;obtain⟨f,hd,hpl⟩:=O8 hT ht hk hkn;obtain⟨pl,h1,h2⟩:=hpl w;have he:(fun j:Nat=>pl[j]?)=places T ti:=funext h2;simp only [Instr.build,Sem.run_bind,hti.zero,Result.andThen_ok,run_underlying hd,h1,he,hfm,Sem.run_pure,yM]
  ·rename_i n e hk;cases he:look T e with
   |none=>rw [he] at hkn;cases hkn
   |some ei =>
    have hei:=hT e _ he;have hpl:places T ti=fun i=>some (i*ei.size,ei.size):=by
     funext j;simp [places,hk,he]
    rw [hpl] at hfm;simp only [Instr.build,Sem.run_bind,hti.zero,Result.andThen_ok,run_underlying (hti.ar hk),hei.sizeOf,hfm,Sem.run_pure,yM]
  ·cases hkn
end
end Go.Aw
end
