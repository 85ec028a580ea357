/-
  Parts of a proof. No condition.
-/
import Derived.Test.YtoekkmbbbllogaaGreatQAn
set_option linter.unusedSimpArgs false
set_option linter.unusedVariables false
noncomputable section
namespace Go.Aw
abbrev KEB:=Value→Heap→Nat→Bool
abbrev KSB:=List (Nat × Value)→Heap→Nat→Bool
abbrev VCB:=Nat→List Value→Heap→Nat→KEB→Bool
abbrev VRB:=Operand→Array Tmp→Code→Code→KSB→(Nat→KSB)→KSB→KSB
def won (x:Option Value)(K:Value→Bool):Bool:=match x with|some v=>K v|none=>false
def wbr (b:Bool)(A B:Unit→Bool):Bool:=match b with|true=>A ()|false=>B ()
def wmust (b:Bool)(A:Bool):Bool:=match b with|true=>A|false=>false
def wload (T:Tab)(h:Heap)(t:TypeId)(x:Value)(K:Value→Bool):Bool :=
 match x with
 |.pointer (some ⟨k,o,none⟩) =>
  match look T t,look h k with
  |some ti,some (.cells _ _ _ cs) =>
   match ti.isAgg with
   |true=>(match getN cs o ti.size with|some l=>K (.agg l.toArray)|none=>false)
   |false=>(match nth cs o with|some v=>K v|none=>false)
  |_,_=>false
 |_=>false
def wfieldAddr (T:Tab)(st:TypeId)(x:Value)(f:Nat)(K:Value→Bool):Bool :=
 match x,look T st with
 |.pointer (some ⟨k,o,none⟩),some { kind:=.st fs,.. } =>
  match fs[f]? with
  |some (off,ft)=>(match look T ft with|some _=>K (.pointer (some ⟨k,o+off,none⟩))|none=>false)
  |none=>false
 |_,_=>false
def windexAddr (A:Ar)(T:Tab)(t:TypeId)(x ix:Value)(K:Value→Bool):Bool :=
 match look T t,x,ix with
 |some { kind:=.sl e,.. },.slice (some ⟨k,o,none⟩) n _,.int _ i =>
  (match look T e with|some ei=>wmust (A.andB (A.le 0 i) (A.lt i (A.num n))) (K (.pointer (some ⟨k,A.ix o i ei.size,none⟩)))|none=>false)
 |some { kind:=.ar n e,.. },.pointer (some ⟨k,o,none⟩),.int _ i =>
  (match look T e with|some ei=>wmust (A.andB (A.le 0 i) (A.lt i (A.num n))) (K (.pointer (some ⟨k,A.ix o i ei.size,none⟩)))|none=>false)
 |_,_,_=>false
def wpart (T:Tab)(t:TypeId)(cs:List Value)(o:Nat)(K:Value→Bool):Bool :=
 match look T t with
 |some ti=>(match ti.isAgg with
  |true=>(match getN cs o ti.size with|some l=>K (.agg l.toArray)|none=>false)
  |false=>(match nth cs o with|some v=>K v|none=>false))
 |none=>false
def wfield (T:Tab)(st:TypeId)(x:Value)(f:Nat)(K:Value→Bool):Bool :=
 match x,look T st with
 |.agg cs,some { kind:=.st fs,.. }=>(match fs[f]? with|some (off,ft)=>wpart T ft cs.toList off K|none=>false)
 |_,_=>false
def windex (A:Ar)(T:Tab)(t:TypeId)(x ix:Value)(K:Value→Bool):Bool :=
 match look T t,x,ix with
 |some { kind:=.ar n e,.. },.agg cs,.int _ i =>
  (match look T e with|some ei=>wmust (A.andB (A.le 0 i) (A.lt i (A.num n))) (wpart T e cs.toList (A.ix 0 i ei.size) K)|none=>false)
 |some { kind:=.str,.. },.string b,.int _ i=>(match (if 0≤i then b[i.toNat]? else none) with|some u=>K (.int .u8 (A.num u.toNat))|none=>false)
 |_,_,_=>false
def wint (A:Ar)(op:BinOp)(k:IntKind)(a b:Int)(K:Value→Bool):Bool :=
 match op with
 |.add=>wmust (A.fits k (A.add a b)) (K (.int k (A.add a b)))
 |.sub=>wmust (A.fits k (A.sub a b)) (K (.int k (A.sub a b)))
 |.mul=>wmust (A.fits k (A.mul a b)) (K (.int k (A.mul a b)))
 |.quo=>wmust (A.andB (A.notB (A.eq b 0)) (A.fits k (A.quo a b))) (K (.int k (A.quo a b)))
 |.rem=>wmust (A.notB (A.eq b 0)) (K (.int k (A.rem a b)))
 |.eql=>K (.bool (A.eq a b))
 |.neq=>K (.bool (A.notB (A.eq a b)))
 |.lss=>K (.bool (A.lt a b))
 |.leq=>K (.bool (A.le a b))
 |.gtr=>K (.bool (A.lt b a))
 |.geq=>K (.bool (A.le b a))
 |.xor=>wmust (A.andB (A.andB (A.le 0 a) (A.le 0 b)) (A.andB (A.lt a (bndK k)) (A.lt b (bndK k)))) (K (.int k (A.num (A.bit .xor (A.toN a) (A.toN b)))))
 |.or=>wmust (A.andB (A.andB (A.le 0 a) (A.le 0 b)) (A.andB (A.lt a (bndK k)) (A.lt b (bndK k)))) (K (.int k (A.num (A.bit .or (A.toN a) (A.toN b)))))
 |.and=>wmust (A.andB (A.andB (A.le 0 a) (A.le 0 b)) (A.andB (A.lt a (bndK k)) (A.lt b (bndK k)))) (K (.int k (A.num (A.bit .and (A.toN a) (A.toN b)))))
 |_=>false
def wbin (A:Ar)(T:Tab)(op:BinOp)(xt:TypeId)(x y:Value)(K:Value→Bool):Bool :=
 match x,y with
 |.int k a,.int k' b=>(match isShr op with
  |true=>wmust (A.andB (A.le 0 a) (A.eq b 1)) (K (.int k (A.quo a 2)))
  |false=>(match kEq k k' with|true=>wint A op k a b K|false=>false))
 |.bool a,.bool b=>(match op,look T xt with
  |.eql,some { kind:=.bool,.. }=>K (.bool (A.eqB a b))
  |.neq,some { kind:=.bool,.. }=>K (.bool (A.notB (A.eqB a b)))
  |_,_=>false)
 |.agg xs,.agg ys=>(match look T xt with
  |some _=>(match allG xs.toList,allG ys.toList with
   |true,true=>(match veq A T 100 xt (.agg xs) (.agg ys) with
    |some r=>(match op with
     |.eql=>K (.bool r)
     |.neq=>K (.bool (A.notB r))
     |_=>false)
    |none=>false)
   |_,_=>false)
  |none=>false)
 |_,_=>false
def wnil (T:Tab)(h:Heap)(op:BinOp)(t:TypeId)(x:Value)(K:Value→Bool):Bool :=
 match look T t,nilB h x,op with
 |some { kind:=.sl _,.. },some b,.eql=>K (.bool b)
 |some { kind:=.sl _,.. },some b,.neq=>K (.bool (!b))
 |_,_,_=>false
def wun (A:Ar)(op:UnOp)(x:Value)(K:Value→Bool):Bool :=
 match op,x with
 |.neg,.int k a=>wmust (A.fits k (A.neg a)) (K (.int k (A.neg a)))
 |.not,.bool b=>K (.bool (A.notB b))
 |_,_=>false
def wbuild (T:Tab)(t:TypeId)(ps:List (Nat × Value))(K:Value→Bool):Bool :=
 match look T t with
 |some ti =>
  match (match ti.kind with|.st fs=>fieldsKnown T fs|.ar _ e=>(look T e).isSome|_=>false),aggParts ps with
  |true,true=>(match fillL (places T ti) ps ti.zv.cells.toList with
   |some cells=>K (.agg cells.toArray)
   |none=>false)
  |_,_=>false
 |none=>false
def wbuiltin (A:Ar)(T:Tab)(b:Builtin)(ts:Array TypeId)(vs:List Value)(K:Value→Bool):Bool :=
 match b,ts.toList,vs with
 |.len,[t],[.slice _ n _]=>(match look T t with|some { kind:=.sl _,.. }=>K (.int .i64 (A.num n))|_=>false)
 |.cap,[t],[.slice none _ c]=>(match look T t with|some { kind:=.sl _,.. }=>K (.int .i64 (A.num c))|_=>false)
 |.max,_,v::r=>won (vmm A.max v r) K
 |.min,_,v::r=>won (vmm A.min v r) K
 |_,_,_=>false
def wlook (A:Ar)(T:Tab)(env:List (Nat × Value))(h:Heap)(op:Op)(K:Value→Bool):Bool :=
 match op with
 |.move x|.assign x=>won (opv env x) K
 |.pick c a b=>won (opv env c) fun u=>(match u with
  |.bool t=>wbr t (fun _=>won (opv env a) K) (fun _=>won (opv env b) K)
  |_=>false)
 |.nilCheck x=>won (opv env x) fun u=>(match u with
  |.pointer (some a)=>K (.pointer (some a))
  |.func (.func f) fi c=>K (.func (.func f) fi c)
  |.func (.yield f) fi c=>K (.func (.yield f) fi c)
  |_=>false)
 |.load t x=>won (opv env x) fun u=>wload T h t u K
 |.fieldAddr s x f=>won (opv env x) fun u=>wfieldAddr T s u f K
 |.field s x f=>won (opv env x) fun u=>wfield T s u f K
 |.indexAddr t x i=>won (opv env x) fun u=>won (opv env i) fun j=>windexAddr A T t u j K
 |.index t x i=>won (opv env x) fun u=>won (opv env i) fun j=>windex A T t u j K
 |.binOp op t x y _=>won (opv env x) fun u=>won (opv env y) fun v=>(match v with
  |.slice none _ _=>wnil T h op t u K
  |_=>wbin A T op t u v K)
 |.unOp op _ x=>won (opv env x) fun u=>wun A op u K
 |.convert s d x=>won (opv env x) fun u=>(match u,look T s,look T d with
  |.int _ n,some _,some { kind:=.int k,.. }=>wmust (A.fits k n) (K (.int k n))
  |_,_,_=>false)
 |.makeFunc fn first cap=>(match fn,first.toList with
  |.func f,[]=>(match capOK env cap.toList with|some l=>K (.func (.func f) #[] l.toArray)|none=>false)
  |_,_=>false)
 |.extract x i=>won (opv env x) fun u=>(match u with
  |.tuple vs=>won (vs.toList[i]?) K
  |_=>false)
 |.build t ps=>(match partsOK env ps.toList with|some l=>wbuild T t l K|none=>false)
 |.call c=>(match c.callee with
  |.builtin b=>(match vargs env c.args.toList with|some vs=>wbuiltin A T b c.argTypes vs K|none=>false)
  |_=>false)
 |_=>false
def wstore (T:Tab)(h:Heap)(nx:Nat)(t:TypeId)(x v:Value)(K:KEB):Bool :=
 match x with
 |.pointer (some ⟨k,o,none⟩) =>
  (match look T t,look h k with
  |some ti,some (.cells true _ sz cs) =>
   (match Nat.beq v.cells.size ti.size,(match v with|.tuple _=>false|_=>true) with
   |true,true=>wmust (Nat.ble (o+v.cells.size) cs.length) (K undef (upd h k (.cells true false sz (putN cs o v.cells.toList))) nx)
   |_,_=>false)
  |_,_=>false)
 |_=>false
def wbox (h:Heap)(nx:Nat)(v:Value)(K:KEB):Bool :=
 match v with
 |.tuple _=>false
 |v=>K (.pointer (some ⟨nx,0,none⟩)) (hput h nx (.cells true false 1 v.cells.toList)) (nx+1)
def walloc (T:Tab)(h:Heap)(nx:Nat)(t:TypeId)(K:KEB):Bool :=
 match look T t with
 |some ti=>K (.pointer (some ⟨nx,0,none⟩)) (hput h nx (.cells true false 1 ti.zv.cells.toList)) (nx+1)
 |none=>false
def wbuildSlice (T:Tab)(h:Heap)(nx:Nat)(t:TypeId)(len:Nat)(ps:List (Nat × Value))(K:KEB):Bool :=
 match look T t with
 |some { kind:=.sl e,.. } =>
  (match look T e with
  |some ei =>
   (match Nat.ble (len*ei.size) 1000000,aggParts ps with
   |true,true =>
    (match fillL (fun i=>some (i*ei.size,ei.size)) ps (rep len ei.zv.cells.toList) with
    |some cells=>K (.slice (some ⟨nx,0,none⟩) len len) (hput h nx (.cells true false ei.size cells)) (nx+1)
    |none=>false)
   |_,_=>false)
  |none=>false)
 |_=>false
def whi (A:Ar)(n c:Nat)(hi:Option Value)(G:Nat→Bool):Bool :=
 match hi with
 |none=>G n
 |some (.int _ i)=>wmust (A.andB (A.le 0 i) (A.le i (A.num c))) (G (A.toN i))
 |_=>false
def wslice (A:Ar)(T:Tab)(h:Heap)(nx:Nat)(t:TypeId)(x:Value)(lo hi mx:Option Value)(K:KEB):Bool :=
 match look T t with
 |some { kind:=.sl e,.. } =>
  (match look T e with
  |none=>false
  |some ei =>
   match x,mx with
   |.slice none 0 0,none=>(match isZero lo,isZero hi with|true,true=>K (.slice none 0 0) h nx|_,_=>false)
   |.slice (some ⟨k,o,none⟩) n c,none =>
    whi A n c hi fun hN =>
     (match lo with
     |none=>K (.slice (some ⟨k,o,none⟩) hN c) h nx
     |some (.int _ l)=>wmust (A.andB (A.andB (A.le 0 l) (A.le l (A.num hN))) (A.le (A.num hN) (A.num c)))
      (match look h k with
      |some (.cells _ _ _ _)=>wmust (A.lt l (A.num c)) (K (.slice (some ⟨k,A.ix o l ei.size,none⟩) (A.subN hN (A.toN l)) (A.subN c (A.toN l))) h nx)
      |_=>false)
     |_=>false)
   |.slice (some ⟨k,o,none⟩) n c,some (.int _ 0) =>
    (match isZero lo,hi with|true,some (.int _ 0)=>K (.slice (some ⟨nx,0,none⟩) 0 0) (hput h nx .zero) (nx+1)|_,_=>false)
   |.slice (some ⟨k,o,none⟩) n c,some (.int _ m) =>
    (match lo,hi with
    |some (.int _ l),some (.int _ u)=>wmust (A.andB (A.andB (A.le 0 l) (A.le l u)) (A.andB (A.le u m) (A.andB (A.le 1 m) (A.le m (A.num c))))) (K (.slice (some ⟨nx,0,none⟩) (A.subN (A.toN u) (A.toN l)) (A.subN (A.toN m) (A.toN l))) (cap3 h nx k (A.ix o l ei.size) (A.subN (A.toN m) (A.toN l)*ei.size)) (nx+1))
    |none,some (.int _ u)=>wmust (A.andB (A.le 0 u) (A.andB (A.le u m) (A.andB (A.le 1 m) (A.le m (A.num c))))) (K (.slice (some ⟨nx,0,none⟩) (A.toN u) (A.toN m)) (cap3 h nx k o (A.toN m*ei.size)) (nx+1))
    |_,_=>false)
   |_,_=>false)
 |_=>false
def wsrc (h:Heap)(sz:Nat)(x:Value)(G:Nat→List Value→Bool):Bool :=
 match x with
 |.slice none 0 0=>G 0 []
 |.slice (some ⟨k,o,none⟩) m _ =>
  (match look h k with
  |some (.cells _ _ _ cs)=>wmust (Nat.ble (o+m*sz) cs.length) (G m ((cs.drop o).take (m*sz)))
  |some .zero=>(match m with|0=>G 0 []|_=>false)
  |_=>false)
 |_=>false
def wappend (A:Ar)(T:Tab)(h:Heap)(nx:Nat)(st xt:TypeId)(s x:Value)(K:KEB):Bool :=
 match look T st,look T xt with
 |some { kind:=.sl e,.. },some { kind:=.int _,.. } =>
  (match look T e with
  |some ei=>(match s,x,Nat.ble ei.bytes 1000 with
   |.slice none 0 0,.int .i64 i,true=>wmust (A.andB (A.lt 0 i) (A.le i 1000000000)) (K (.slice (some ⟨nx,0,none⟩) (A.toN i) (A.toN i)) (hput h nx (.cells true false ei.size (rep (A.toN i) ei.zv.cells.toList))) (nx+1))
   |_,_,_=>false)
  |none=>false)
 |some { kind:=.sl e,.. },some { kind:=.sl _,.. } =>
  (match look T e with
  |none=>false
  |some ei =>
   match Nat.ble ei.bytes 1000 with
   |false=>false
   |true =>
    wsrc h ei.size x fun m src =>
     (match s with
     |.slice none 0 0=>wbr (Nat.beq m 0) (fun _=>K (.slice none 0 0) h nx)
      (fun _=>wmust (Nat.ble m 1000000000) (K (.slice (some ⟨nx,0,none⟩) m m) (hput h nx (.cells true false ei.size src)) (nx+1)))
     |.slice (some ⟨k,o,none⟩) n c =>
      (match look h k with
      |some .zero=>(match n,c with
       |0,0=>wbr (Nat.beq m 0) (fun _=>K (.slice (some ⟨k,o,none⟩) 0 0) h nx)
        (fun _=>wmust (Nat.ble m 1000000000) (K (.slice (some ⟨nx,0,none⟩) m m) (hput h nx (.cells true false ei.size src)) (nx+1)))
       |_,_=>false)
      |some (.cells true _ sz cs) =>
       wbr (Nat.ble (n+m) c)
        (fun _=>wmust (Nat.ble (o+(n+m)*ei.size) cs.length) (K (.slice (some ⟨k,o,none⟩) (n+m) c) (upd h k (.cells true false sz (putN cs (o+n*ei.size) src))) nx))
        (fun _=>wmust (A.andB (A.andB (Nat.ble (n+m) 1000000000) (Nat.ble (o+n*ei.size) cs.length)) (A.andB (Nat.beq (o+c*ei.size) cs.length) (Nat.beq sz ei.size)))
         (K (.slice (some ⟨nx,0,none⟩) (n+m) (n+m)) (hput (rem h k) nx (.cells true false ei.size ((cs.drop o).take (n*ei.size)++src))) (nx+1)))
      |_=>false)
     |_=>false))
 |_,_=>false
def wmakeMap (h:Heap)(nx:Nat)(K:KEB):Bool:=K (.map (some nx)) (hput h nx (.map [])) (nx+1)
def wmakeSlice (A:Ar)(T:Tab)(h:Heap)(nx:Nat)(t:TypeId)(l c:Value)(K:KEB):Bool :=
 match look T t,l,c with
 |some { kind:=.sl e,.. },.int .i64 i,.int .i64 j =>
  (match look T e with
  |some ei=>wmust (A.andB (A.andB (A.le 0 i) (A.le i j)) (A.andB (A.le j 1000000000) (Nat.ble ei.bytes 1000)))
   (K (.slice (some ⟨nx,0,none⟩) (A.toN i) (A.toN j)) (hput h nx (.cells true false ei.size (rep (A.toN j) ei.zv.cells.toList))) (nx+1))
  |none=>false)
 |_,_,_=>false
def wlookup (A:Ar)(T:Tab)(h:Heap)(t:TypeId)(x key:Value)(ok:Bool)(K:Value→Bool):Bool :=
 match look T t,x,key with
 |some { kind:=.mp kt et,.. },.map (some k),.agg cs =>
  (match look T kt,look T et,look h k with
  |some { kind:=.st fs,.. },some ei,some (.map es) =>
   (match keyFields T cs.toList fs,allG cs.toList,vfind A T kt (.agg cs) es with
   |true,true,some r =>
    (match ok,r with
    |true,some v=>K (.tuple #[v,.bool true])
    |true,none=>K (.tuple #[ei.zv,.bool false])
    |false,some v=>K v
    |false,none=>K ei.zv)
   |_,_,_=>false)
  |_,_,_=>false)
 |_,_,_=>false
def wmapUpdate (A:Ar)(T:Tab)(h:Heap)(nx:Nat)(t:TypeId)(x key v:Value)(K:KEB):Bool :=
 match look T t,x,key,(match v with|.agg _=>false|.tuple _=>false|_=>true) with
 |some { kind:=.mp kt _,.. },.map (some k),.agg cs,true =>
  (match look T kt,look h k with
  |some { kind:=.st fs,.. },some (.map es) =>
   (match keyFields T cs.toList fs,allG cs.toList,vfind A T kt (.agg cs) es with
   |true,true,some none=>K undef (upd h k (.map (es++[(.agg cs,v)]))) nx
   |_,_,_=>false)
  |_,_=>false)
 |_,_,_,_=>false
def wclear (T:Tab)(h:Heap)(nx:Nat)(t:TypeId)(x:Value)(K:KEB):Bool :=
 match look T t,x with
 |some { kind:=.sl _,.. },.slice none 0 0=>K (.tuple #[]) h nx
 |some { kind:=.sl e,.. },.slice (some ⟨k,o,none⟩) n _ =>
  (match n with
  |0=>K (.tuple #[]) h nx
  |_=>(match look T e,look h k with
   |some ei,some (.cells true _ sz cs)=>wmust (Nat.ble (o+n*ei.size) cs.length) (K (.tuple #[]) (upd h k (.cells true false sz (putN cs o (rep n ei.zv.cells.toList)))) nx)
   |_,_=>false))
 |_,_=>false
def wop (A:Ar)(T:Tab)(C:VCB)(Y:VCB)(env:List (Nat × Value))(h:Heap)(nx:Nat)(op:Op)(K:KEB):Bool :=
 match op with
 |.store t x y=>won (opv env x) fun p=>won (opv env y) fun v=>wstore T h nx t p v K
 |.alloc t=>walloc T h nx t K
 |.box _ x=>won (opv env x) fun v=>wbox h nx v K
 |.buildSlice t n ps=>(match partsOK env ps.toList with|some l=>wbuildSlice T h nx t n l K|none=>false)
 |.slice t x lo hi mx=>won (opv env x) fun v=>(match optOK env lo,optOK env hi,optOK env mx with
  |some l,some u,some m=>wslice A T h nx t v l u m K
  |_,_,_=>false)
 |.makeMap _ none=>wmakeMap h nx K
 |.makeSlice t l c=>won (opv env l) fun l=>won (opv env c) fun c=>wmakeSlice A T h nx t l c K
 |.lookup t m k ok=>won (opv env m) fun x=>won (opv env k) fun y=>wlookup A T h t x y ok (fun v=>K v h nx)
 |.mapUpdate t m k u=>won (opv env m) fun x=>won (opv env k) fun y=>won (opv env u) fun v=>wmapUpdate A T h nx t x y v K
 |.call c=>(match c.callee with
  |.builtin .append=>(match c.argTypes.toList,vargs env c.args.toList with|[st,xt],some [s,x]=>wappend A T h nx st xt s x K|_,_=>false)
  |.builtin .clear=>(match c.argTypes.toList,vargs env c.args.toList with|[t],some [x]=>wclear T h nx t x K|_,_=>false)
  |.builtin _=>wlook A T env h op (fun v=>K v h nx)
  |.value f=>won (opv env f) fun fv=>(match vargs env c.args.toList with
   |some l=>(match fv with
    |.func (.func g) first cap=>(match first.toList,capPtr cap.toList with
     |[],true=>C g (l++cap.toList) h nx K
     |_,_=>false)
    |.func (.yield q) first _=>(match first.toList with
     |[]=>Y q l h nx K
     |_=>false)
    |_=>false)
   |none=>false)
  |_=>false)
 |_=>wlook A T env h op (fun v=>K v h nx)
def wguard (A:Ar)(ops:List Oper)(env:List (Nat × Value))(g:Option (Nat × Bool))(Y N:List (Nat × Value)→Bool):Bool :=
 match g with
 |none=>Y env
 |some (j,want)=>match getL ops j with
  |some o=>(match o.dst with
   |some t=>(match look env t with
    |some (.bool b)=>wbr (A.eqB b want) (fun _=>Y (put env t (.bool want))) (fun _=>N (put env t (.bool (!want))))
    |some (.tuple _)=>N env
    |_=>false)
   |none=>false)
  |none=>false
def wput (tn:Nat)(env:List (Nat × Value))(dst:Option Nat)(v:Value)(K:List (Nat × Value)→Bool):Bool :=
 match dst with
 |none=>K env
 |some d=>match Nat.blt d tn with|true=>K (put env d v)|false=>false
def wops (A:Ar)(T:Tab)(C:VCB)(Y:VCB)(tn:Nat)(ops:List Oper):List Oper→List (Nat × Value)→Heap→Nat→KSB→Bool
 |[],env,h,nx,K=>K env h nx
 |o :: r,env,h,nx,K=>wguard A ops env o.guard
    (fun env=>wop A T C Y env h nx o.op fun v h' nx'=>wput tn env o.dst v fun env'=>wops A T C Y tn ops r env' h' nx' K)
    (fun env=>wput tn env o.dst undef fun env'=>wops A T C Y tn ops r env' h nx K)
def wquiet (A:Ar)(T:Tab)(C:VCB)(hJ:Heap)(nx:Nat)(env:List (Nat × Value))(op:Op)(K:Value→Bool):Bool :=
 match op with
 |.load _ _=>wlook A T env hJ op K
 |.lookup t m k ok=>won (opv env m) fun x=>won (opv env k) fun y=>wlookup A T hJ t x y ok K
 |.slice t x lo hi mx=>won (opv env x) fun v=>(match optOK env lo,optOK env hi,optOK env mx with
  |some l,some u,some m=>wslice A T hJ nx t v l u m (fun v _ nx'=>match Nat.beq nx' nx with|true=>K v|false=>false)
  |_,_,_=>false)
 |.call c=>(match c.callee with
  |.builtin _=>wlook A T env [] op K
  |.value f=>won (opv env f) fun fv=>(match vargs env c.args.toList with
   |some l=>(match fv with
    |.func (.func g) first cap=>(match first.toList,capPtr cap.toList with
     |[],true=>C g (l++cap.toList) (shutH hJ) nx (fun v _ _=>match gT v with|true=>K v|false=>false)
     |_,_=>false)
    |_=>false)
   |none=>false)
  |_=>false)
 |_=>wlook A T env [] op K
def whead (A:Ar)(T:Tab)(C:VCB)(tn:Nat)(ops:List Oper)(hJ:Heap)(nx:Nat):List Nat→List (Nat × Value)→(List (Nat × Value)→Bool)→Bool
 |[],env,K=>K env
 |i::r,env,K=>match getL ops i with
  |none=>false
  |some o=>wguard A ops env o.guard
   (fun env=>wquiet A T C hJ nx env o.op fun v=>wput tn env o.dst v fun env=>whead A T C tn ops hJ nx r env K)
   (fun env=>wput tn env o.dst undef fun env=>whead A T C tn ops hJ nx r env K)
def wallocs (T:Tab)(tn:Nat)(ops:List Oper):List Nat→List (Nat × Value)→Heap→Nat→KSB→Bool
 |[],env,h,nx,K=>K env h nx
 |i::r,env,h,nx,K=>match getL ops i with
  |some { op:=.alloc t,dst:=some d,.. }=>(match look T t with
   |some ti=>wput tn env (some d) (.pointer (some ⟨nx,0,none⟩)) fun env=>wallocs T tn ops r env (hput h nx (.cells true false 1 ti.zv.cells.toList)) (nx+1) K
   |none=>false)
  |_=>false
def wtail (A:Ar)(T:Tab)(C:VCB)(Y:VCB)(tn:Nat)(ops:List Oper)(hJ:Heap):List (Nat × Bool)→List (Nat × Value)→Heap→Nat→KSB→Bool
 |[],env,h,nx,K=>K env h nx
 |(i,chk)::r,env,h,nx,K=>match getL ops i with
  |none=>false
  |some o=>wguard A ops env o.guard
   (fun env=>wmust (asideOK env hJ chk o.op) (wop A T C Y env h nx o.op fun v h' nx'=>wput tn env o.dst v fun env'=>wtail A T C Y tn ops hJ r env' h' nx' K))
   (fun env=>wput tn env o.dst undef fun env'=>wtail A T C Y tn ops hJ r env' h nx K)
def wregion (A:Ar)(T:Tab)(C:VCB)(Y:VCB)(tn:Nat)(ops:List Oper)(p:Plan)(env:List (Nat × Value))(h:Heap)(nx:Nat)(K:KSB):Bool :=
 whead A T C tn ops (hjOf T ops env p h) nx p.head env fun env1 =>
  wallocs T tn ops p.allocs env1 h nx fun env2 h2 nx2 =>
   wtail A T C Y tn ops (hjOf T ops env p h) p.tail env2 h2 nx2 K
def wstep (A:Ar)(T:Tab)(C:VCB)(Y:VCB)(tn:Nat)(ops:List Oper)(o:Oper)(e:List (Nat × Value))(h:Heap)(nx:Nat)(K:KSB):Bool :=
 wguard A ops e o.guard (fun e=>wop A T C Y e h nx o.op fun v h' nx'=>wput tn e o.dst v fun e'=>K e' h' nx') (fun e=>wput tn e o.dst undef fun e'=>K e' h nx)
def wall (F:Nat→Bool):List Nat→Bool
 |[]=>true
 |i::r=>F i&&wall F r
def wany (A:Ar)(T:Tab)(C:VCB)(Y:VCB)(tn:Nat)(ops:List Oper)(K:KSB):Nat→List Nat→KSB
 |0,_=>K
 |n+1,done=>fun e h nx=>match readyL ops done ops 0 with
  |[]=>K e h nx
  |i::r=>wall (fun j=>match getL ops j with|some o=>wstep A T C Y tn ops o e h nx (wany A T C Y tn ops K n (j::done))|none=>false) (i::r)
def wfirst (A:Ar)(T:Tab)(C:VCB)(Y:VCB)(tn:Nat)(ops:List Oper)(K:KSB):Nat→List Nat→KSB
 |0,_=>K
 |n+1,done=>fun e h nx=>match readyL ops done ops 0 with
  |[]=>K e h nx
  |j::_=>(match getL ops j with|some o=>wstep A T C Y tn ops o e h nx (wfirst A T C Y tn ops K n (j::done))|none=>false)
def wregA (A:Ar)(T:Tab)(C:VCB)(Y:VCB)(tn:Nat)(ops:Array Oper)(e:List (Nat × Value))(h:Heap)(nx:Nat)(K:KSB):Bool :=
 wfirst A T C Y tn ops.toList (fun e0 h0 n0=>forceL (freshE e0 []) fun e0=>forceL (keepH nx (rhoOf nx e0 e0 h0 h0) h0) fun h0 =>
  wany A T C Y tn ops.toList (fun e1 h1 _=>renB nx (rhoOf nx e0 e1 h0 h1) e0 h0 n0 e1 h1) ops.size [] e h nx&&K e0 h0 n0) ops.size [] e h nx
def witer (F:KSB→KSB):Nat→KSB
 |0,_,_,_=>false
 |n+1,e,h,nx=>F (witer F n) e h nx
def wcode (A:Ar)(T:Tab)(C:VCB)(Y:VCB)(tn:Nat)(PL:Nat→Option Plan)(M:Nat)(R:VRB):Code→KSB→(Nat→KSB)→KSB→KSB
 |.skip,kn,_,_=>kn
 |.region id ops draw,kn,_,_=>fun e h nx=>match draw with
  |false=>(match hasNext ops.toList with|false=>wops A T C Y tn ops.toList ops.toList e h nx kn|true=>false)
  |true=>(match PL id with|some p=>wregion A T C Y tn ops.toList p e h nx kn|none=>wregA A T C Y tn ops e h nx kn)
 |.seq a b,kn,kx,kr=>wcode A T C Y tn PL M R a (wcode A T C Y tn PL M R b kn kx kr) kx kr
 |.cond c t f,kn,kx,kr=>fun e h nx=>match opv e c with
  |some (.bool b)=>wbr b (fun _=>wcode A T C Y tn PL M R t kn kx kr e h nx) (fun _=>wcode A T C Y tn PL M R f kn kx kr e h nx)
  |_=>false
 |.block id b,kn,kx,kr=>wcode A T C Y tn PL M R b kn (fun j=>match Nat.beq j id with|true=>kn|false=>kx j) kr
 |.loop b,_,kx,kr=>witer (fun k=>wcode A T C Y tn PL M R b k kx kr) M
 |.rangeFunc g ps as bd,kn,kx,kr=>R g ps as bd kn kx kr
 |.exit id,_,kx,_=>kx id
 |.ret,_,_,kr=>kr
 |.label _,kn,_,_=>kn
 |.scope b,kn,kx,kr=>wcode A T C Y tn PL M R b kn kx kr
 |_,_,_,_=>fun _ _ _=>false
def wresults (T:Tab)(e:List (Nat × Value))(h:Heap):List ResultVar→(List Value→Bool)→Bool
 |[],K=>K []
 |.tmp t::r,K=>won (look e t) fun v=>wresults T e h r fun l=>K (v::l)
 |.cell a t::r,K=>won (look e a) fun p=>wload T h t p fun v=>wresults T e h r fun l=>K (v::l)
def wend (T:Tab)(fn:Func)(K:KEB):KSB:=fun e h nx=>wresults T e h fn.results.toList fun l =>
 match l with
 |[v]=>K v h nx
 |l=>match noTup l with|true=>K (.tuple l.toArray) h nx|false=>false
def wrange (C:VCB)(f tn:Nat):VRB:=fun g ps as bd kn kx kr e h nx =>
 won (opv e g) fun gv=>match gv with
  |.func (.func q) first cap=>(match first.toList,capPtr cap.toList with
   |[],true=>C q (.func (.yield (nx+1)) #[] #[]::cap.toList)
    (hput (hput h nx .deferred) (nx+1) (.loop { state:=.ready,pending:=none,fn:=f,env:=e,tn:=tn,params:=ps.toList,assign:=as,body:=bd,defers:=nx })) (nx+2) fun _ h' nx' =>
    (match look h' (nx+1),look h' nx with
    |some (.loop l),some .deferred=>(match l.state,l.pending with
     |.busy,_=>false
     |_,none=>kn e (afterLoop h' nx) nx'
     |_,some (.exit id)=>kx id e (afterLoop h' nx) nx'
     |_,some .ret=>kr e (afterLoop h' nx) nx'
     |_,_=>false)
    |_,_=>false)
   |_,_=>false)
  |_=>false
def wnoRange:VRB:=fun _ _ _ _ _ _ _ _ _ _=>false
def wfin (q:Nat)(K:KEB)(j:Option Code):KSB:=fun _ h nx =>
 match look h q with
 |some (.loop l)=>K (.bool j.isNone) (upd h q (.loop { l with state:=if j.isNone then .ready else .done,pending:=j })) nx
 |_=>false
def wround (A:Ar)(T:Tab)(C:VCB)(Y:VCB)(PL:Nat→Nat→Option Plan)(M:Nat):VCB:=fun q args h nx K =>
 match look h q with
 |some (.loop l)=>(match zipPut l.tn l.env l.params args,plansOK (PL l.fn) l.assign&&plansOK (PL l.fn) l.body with
  |some e0,true=>wcode A T C Y l.tn (PL l.fn) M wnoRange l.assign (fun e1 h1 nx1 =>
   match look h1 q with
   |some (.loop l1)=>(match l1.state with
    |.ready=>wcode A T C Y l.tn (PL l.fn) M wnoRange l.body (wfin q K none) (fun id=>wfin q K (some (.exit id))) (wfin q K (some .ret)) e1 (upd h1 q (.loop { l1 with state:=.busy })) nx1
    |_=>false)
   |_=>false) (fun _ _ _ _=>false) (fun _ _ _=>false) e0 h nx
  |_,_=>false)
 |_=>false
def wbody (c:Cfg)(XB:Nat→Option (List Value→Heap→Nat→KEB→Bool))(M:Nat)(C:VCB)(Y:VCB):VCB:=fun f args h nx K =>
 match c.X f with
 |some _=>(match XB f with|some xb=>xb args h nx K|none=>false)
 |none=>match c.FT f with
  |none=>false
  |some fn=>(match fn.body,Nat.ble args.length fn.ntmps with
   |some b,true =>
    let fin:KSB:=wend c.T fn fun v h' nx'=>K v h' nx'
    wcode c.A c.T C Y fn.ntmps (c.PL f) M (wrange C f fn.ntmps) b fin (fun _ _ _ _=>false) fin (initEnv 0 args) h nx
   |_,_=>false)
def wfrK (h:Heap)(nx:Nat)(K:KEB):KEB:=fun v h' nx'=>match gT v with
 |true=>K v h nx
 |false=>K v (app (newOwn nx h' h') h) nx'
def wfrC (PR:Nat→Bool)(C:VCB):VCB:=fun f args h nx K=>match PR f with
 |true=>C f args (shutH h) nx (wfrK h nx K)
 |false=>C f args h nx K
def wcall (c:Cfg)(XB:Nat→Option (List Value→Heap→Nat→KEB→Bool)):Nat→Bool→VCB
 |0,_=>fun _ _ _ _ _=>false
 |d+1,false=>wfrC c.PR (wbody c XB c.M (wcall c XB d false) (wcall c XB d true))
 |d+1,true=>wround c.A c.T (wcall c XB d false) (wcall c XB d true) c.PL c.M
end Go.Aw
end
